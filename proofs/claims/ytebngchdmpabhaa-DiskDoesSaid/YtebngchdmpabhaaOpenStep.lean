/- A step that came in, and a row of steps, opened. No condition. -/
import Derived.Test.YtebngchdmpabhaaOpenDisk
namespace Go.Proofs.Ytebngchdmpabhaa.Disk
open Go.RowKit Go.Proofs.Ytebngchdmpabhaa.G Go.Proofs.YtebngchdmpabhaaW.PrintWords Go.Proofs.YtebngchdmpabhaaW.PrintLast Go.Proofs.YtebngchdmpabhaaW.PrintMore
open Go.ChangeShapes Go.WideShapes Go.Deep Go.Joins
set_option linter.unusedVariables false
set_option linter.unusedSimpArgs false
instance : Inhabited S27 := ⟨z27⟩
variable {H : Type} {enc : TypeId × Value → H} {w : World} {spare : Nat → Bool} {held : Bool}
theorem open_step {r : Reach} {b0 : Nat} {v : Value} {d : DataW H} {p : List MemPlace} (hv : Value.okWide Try.prog w r b0 27 v) (h : DataW.Trod enc Try.prog w 0 spare held 27 v d p) :
    ∃ (kind : Int) (name dst data : ByteArray), v = .agg #[.int .u8 kind, .string name, .string dst, .string data] ∧ data.size ≤ 9223372036854775807 := by
  obtain ⟨v0, v1, v2, v3, y0, y1, y2, y3, n, rfl, hd, _, h0, h1, h2, h3⟩ := open_agg4 Try.underlying27 (by kernel_rfl) (by kernel_rfl) hv h
  obtain ⟨k, e0, _⟩ := DataW.trod_int Try.underlying25 h0
  obtain ⟨s1, e1, _⟩ := DataW.trod_string Try.underlying9 h1
  obtain ⟨s2, e2, _⟩ := DataW.trod_string Try.underlying9 h2
  obtain ⟨s3, e3, _, hs⟩ := DataW.trod_string Try.underlying9 h3
  have e0' : v0 = .int .u8 k := by simpa using e0
  have e1' : v1 = .string s1 := by simpa using e1
  have e2' : v2 = .string s2 := by simpa using e2
  have e3' : v3 = .string s3 := by simpa using e3
  subst e0' e1' e2' e3'
  exact ⟨k, s1, s2, s3, rfl, hs⟩
theorem step_cells {n : Nat} {cs : List Value} {x : DataW H × List MemPlace} (h : DataW.trod enc Try.prog w 0 spare held n 27 cs = some x) : ∃ f : S27, cs = [.int .u8 f.f0, .string f.f1, .string f.f2, .string f.f3] ∧ f.f3.size ≤ 9223372036854775807 := by
  obtain ⟨xs, k, hk, hxy, hl, hxl, hf⟩ := DataW.trod_struct Try.underlying27 h
  have c9 : Try.prog.cellsOf 9 = 1 := by kernel_rfl
  have c25 : Try.prog.cellsOf 25 = 1 := by kernel_rfl
  have c27 : Try.prog.cellsOf 27 = 4 := by kernel_rfl
  rw [c27] at hl
  match xs, hxl, cs, hl with
  | [y0, y1, y2, y3], _, [v0, v1, v2, v3], _ =>
    have g0 : DataW.trod enc Try.prog w 0 spare held k 25 (([v0, v1, v2, v3].drop 0).take (Try.prog.cellsOf 25)) = some y0 := hf 0 _ rfl
    have g1 : DataW.trod enc Try.prog w 0 spare held k 9 (([v0, v1, v2, v3].drop 1).take (Try.prog.cellsOf 9)) = some y1 := hf 1 _ rfl
    have g2 : DataW.trod enc Try.prog w 0 spare held k 9 (([v0, v1, v2, v3].drop 2).take (Try.prog.cellsOf 9)) = some y2 := hf 2 _ rfl
    have g3 : DataW.trod enc Try.prog w 0 spare held k 9 (([v0, v1, v2, v3].drop 3).take (Try.prog.cellsOf 9)) = some y3 := hf 3 _ rfl
    rw [c25] at g0
    rw [c9] at g1 g2 g3
    obtain ⟨n0, h0, _⟩ := DataW.trod_int Try.underlying25 g0
    obtain ⟨s1, h1, _⟩ := DataW.trod_string Try.underlying9 g1
    obtain ⟨s2, h2, _⟩ := DataW.trod_string Try.underlying9 g2
    obtain ⟨s3, h3, _, hs⟩ := DataW.trod_string Try.underlying9 g3
    refine ⟨⟨n0, s1, s2, s3⟩, ?_, hs⟩
    have e0 : v0 = .int .u8 n0 := by have := h0; simp only [List.drop_zero, List.take_succ_cons, List.take_zero, List.cons.injEq, and_true] at this; exact this
    have e1 : v1 = .string s1 := by have := h1; simp only [List.drop_succ_cons, List.drop_zero, List.take_succ_cons, List.take_zero, List.cons.injEq, and_true] at this; exact this
    have e2 : v2 = .string s2 := by have := h2; simp only [List.drop_succ_cons, List.drop_zero, List.take_succ_cons, List.take_zero, List.cons.injEq, and_true] at this; exact this
    have e3 : v3 = .string s3 := by have := h3; simp only [List.drop_succ_cons, List.drop_zero, List.take_succ_cons, List.take_zero, List.cons.injEq, and_true] at this; exact this
    rw [e0, e1, e2, e3]
theorem open_steps {fuel : Nat} {cs : List Value} {x : DataW H × List MemPlace} (h : DataW.trod enc Try.prog w 0 spare held fuel 39 cs = some x) :
    ∃ (A : Option Addr) (c : Nat) (l : List S27), cs = [.slice A l.length c] ∧ l.length ≤ c ∧ Kd.C k27 w A l.length l ∧ (∀ f ∈ l, f.f3.size ≤ 9223372036854775807) ∧ (l = [] ∨ ∃ D E : List (DataW H), x.1 = .slice D E ∧ D.length = l.length) := by
  rcases open_slice Try.underlying39 h with ⟨rfl, rfl⟩ | ⟨a, len, cap, m, n, D, Pl, rfl, hb, hl, hm, hmm, rfl, hx⟩
  · exact ⟨none, 0, [], rfl, Nat.le_refl _, (Kd.R_reads' (Kd.R_nil k27 27 w 0 (fun _ => True))).2.2, by simp, .inl rfl⟩
  · have c27 : Try.prog.cellsOf 27 = 4 := by kernel_rfl
    have hlm : len ≤ m := by rw [hmm]; split <;> omega
    have each : ∀ i, i < len → ∃ f : S27, (∀ j u, [Value.int .u8 f.f0, .string f.f1, .string f.f2, .string f.f3][j]? = some u → w.cell? (a.add (i * 4 + j)) = some u) ∧ f.f3.size ≤ 9223372036854775807 := by
      intro i hi
      obtain ⟨cs', h1, h2⟩ := hx i (by omega)
      rw [c27] at h1
      obtain ⟨f, rfl, hs⟩ := step_cells h2
      obtain ⟨_, _, hcell⟩ := World.cells?_some h1
      refine ⟨f, fun j u hj => ?_, hs⟩
      have hj3 : j < 4 := by
        have := (List.getElem?_eq_some_iff.1 hj).1
        simpa using this
      have e := hcell j hj3
      rw [Go.Deep.add_add] at e
      rw [e]
      exact hj
    obtain ⟨F, hF⟩ := choose_lt each
    have hlen : ((List.range len).map F).length = len := by simp
    refine ⟨some a, cap, (List.range len).map F, by rw [hlen], by rw [hlen]; exact hl, ?_, ?_, .inr ⟨_, _, rfl, by simp⟩⟩
    · rw [hlen]
      refine ⟨hlen, Nat.le_trans hl hm, fun _ => ⟨a, rfl, fun j p hj => ?_⟩⟩
      have hjl : j < len := by
        have := (List.getElem?_eq_some_iff.1 hj).1
        simpa using this
      have hp : p = F j := by
        rw [List.getElem?_map, List.getElem?_range hjl] at hj
        simpa using hj.symm
      subst hp
      exact ⟨_, rfl, k27_mk w (F j), (hF j hjl).1⟩
    · intro f hf
      obtain ⟨i, hi, rfl⟩ := List.mem_map.1 hf
      exact (hF i (List.mem_range.1 hi)).2
end Go.Proofs.Ytebngchdmpabhaa.Disk
