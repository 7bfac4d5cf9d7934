/- A disk that came in, opened: its files' row as it is read, its size as it is bounded; and shut again behind a walk. No condition. -/
import Derived.Test.YtebngchdmpabhaaGx0
import Derived.Lib.SmallJoins
import Derived.Deep.SlicePairs
import Derived.SizedLaws
import Derived.ChangeMaps5
import Derived.Carry
import Derived.OpenShut
namespace Go.Proofs.Ytebngchdmpabhaa.Disk
open Go.RowKit Go.Proofs.Ytebngchdmpabhaa.G Go.Proofs.YtebngchdmpabhaaW.PrintWords Go.Proofs.YtebngchdmpabhaaW.PrintLast Go.Proofs.YtebngchdmpabhaaW.PrintMore
open Go.ChangeShapes Go.WideShapes Go.Deep Go.Joins
set_option linter.unusedVariables false
set_option linter.unusedSimpArgs false
instance : Inhabited S41 := ⟨z41⟩
variable {H : Type} {enc : TypeId × Value → H} {w : World} {spare : Nat → Bool} {held : Bool}
theorem str_one {n : Nat} {v : Value} {x : DataW H × List MemPlace} (h : DataW.trod enc Try.prog w 0 spare held n 9 [v] = some x) : ∃ s, v = .string s ∧ x = (.lit (.string s.data.toList), []) := by
  obtain ⟨s, h1, h2⟩ := DataW.trod_string Try.underlying9 h
  exact ⟨s, by simpa using h1, h2.1⟩
/-- one file's cells -/
theorem file_cells {n : Nat} {cs : List Value} {x : DataW H × List MemPlace} (h : DataW.trod enc Try.prog w 0 spare held n 41 cs = some x) : ∃ f : S41, cs = [.string f.f0, .string f.f1, .int .i64 f.f2] := by
  obtain ⟨xs, k, hk, hxy, hl, hxl, hf⟩ := DataW.trod_struct Try.underlying41 h
  have c9 : Try.prog.cellsOf 9 = 1 := by kernel_rfl
  have c3 : Try.prog.cellsOf 3 = 1 := by kernel_rfl
  have c41 : Try.prog.cellsOf 41 = 3 := by kernel_rfl
  rw [c41] at hl
  match xs, hxl, cs, hl with
  | [y0, y1, y2], _, [v0, v1, v2], _ =>
    have g0 : DataW.trod enc Try.prog w 0 spare held k 9 (([v0, v1, v2].drop 0).take (Try.prog.cellsOf 9)) = some y0 := hf 0 _ rfl
    have g1 : DataW.trod enc Try.prog w 0 spare held k 9 (([v0, v1, v2].drop 1).take (Try.prog.cellsOf 9)) = some y1 := hf 1 _ rfl
    have g2 : DataW.trod enc Try.prog w 0 spare held k 3 (([v0, v1, v2].drop 2).take (Try.prog.cellsOf 3)) = some y2 := hf 2 _ rfl
    rw [c9] at g0 g1
    rw [c3] at g2
    obtain ⟨s0, h0, _⟩ := DataW.trod_string Try.underlying9 g0
    obtain ⟨s1, h1, _⟩ := DataW.trod_string Try.underlying9 g1
    obtain ⟨n2, h2, _⟩ := DataW.trod_int Try.underlying3 g2
    refine ⟨⟨s0, s1, n2⟩, ?_⟩
    have e0 : v0 = .string s0 := by have := h0; simp only [List.drop_zero, List.take_succ_cons, List.take_zero, List.cons.injEq, and_true] at this; exact this
    have e1 : v1 = .string s1 := by have := h1; simp only [List.drop_succ_cons, List.drop_zero, List.take_succ_cons, List.take_zero, List.cons.injEq, and_true] at this; exact this
    have e2 : v2 = .int .i64 n2 := by have := h2; simp only [List.drop_succ_cons, List.drop_zero, List.take_succ_cons, List.take_zero, List.cons.injEq, and_true] at this; exact this
    rw [e0, e1, e2]
theorem open_files {fuel : Nat} {cs : List Value} {x : DataW H × List MemPlace} (h : DataW.trod enc Try.prog w 0 spare held fuel 22 cs = some x) :
    ∃ (A : Option Addr) (c : Nat) (l : List S41), cs = [.slice A l.length c] ∧ l.length ≤ c ∧ Kd.C k41 w A l.length l ∧ (l = [] ∨ ∃ D E : List (DataW H), x.1 = .slice D E ∧ D.length = l.length) := by
  rcases open_slice Try.underlying22 h with ⟨rfl, rfl⟩ | ⟨a, len, cap, m, n, D, Pl, rfl, hb, hl, hm, hmm, rfl, hx⟩
  · exact ⟨none, 0, [], rfl, Nat.le_refl _, (Kd.R_reads' (Kd.R_nil k41 41 w 0 (fun _ => True))).2.2, .inl rfl⟩
  · have c41 : Try.prog.cellsOf 41 = 3 := by kernel_rfl
    have hlm : len ≤ m := by rw [hmm]; split <;> omega
    have each : ∀ i, i < len → ∃ f : S41, ∀ j u, [Value.string f.f0, .string f.f1, .int .i64 f.f2][j]? = some u → w.cell? (a.add (i * 3 + j)) = some u := by
      intro i hi
      obtain ⟨cs', h1, h2⟩ := hx i (by omega)
      rw [c41] at h1
      obtain ⟨f, rfl⟩ := file_cells h2
      obtain ⟨_, _, hcell⟩ := World.cells?_some h1
      refine ⟨f, fun j u hj => ?_⟩
      have hj3 : j < 3 := by
        have := (List.getElem?_eq_some_iff.1 hj).1
        simpa using this
      have e := hcell j hj3
      rw [Go.Deep.add_add] at e
      rw [e]
      exact hj
    obtain ⟨F, hF⟩ := choose_lt each
    have hlen : ((List.range len).map F).length = len := by simp
    refine ⟨some a, cap, (List.range len).map F, by rw [hlen], by rw [hlen]; exact hl, ?_, .inr ⟨_, _, rfl, by simp⟩⟩
    rw [hlen]
    refine ⟨hlen, Nat.le_trans hl hm, fun _ => ⟨a, rfl, fun j p hj => ?_⟩⟩
    have hjl : j < len := by
      have := (List.getElem?_eq_some_iff.1 hj).1
      simpa using this
    have hp : p = F j := by
      rw [List.getElem?_map, List.getElem?_range hjl] at hj
      simpa using hj.symm
    subst hp
    exact ⟨_, rfl, k41_mk w (F j), hF j hjl⟩
/-- a disk that came in -/
theorem open_disk {r : Reach} {b0 : Nat} {v : Value} {d : DataW H} {p : List MemPlace} (hv : Value.okWide Try.prog w r b0 24 v) (h : DataW.Trod enc Try.prog w 0 spare held 24 v d p) :
    ∃ (A : Option Addr) (c : Nat) (l : List S41) (down : Bool) (fuse : Int), v = .agg #[.slice A l.length c, .bool down, .int .i64 fuse] ∧ l.length ≤ c ∧ Kd.C k41 w A l.length l ∧ fuse ≤ 9223372036854775807 ∧
      ((d.weights Try.prog 24).all (· ≤ reachBytes) = true → l.length < 3518437208883) := by
  obtain ⟨v0, v1, v2, y0, y1, y2, n, rfl, hd, _, h0, h1, h2⟩ := open_agg3 Try.underlying24 (by kernel_rfl) (by kernel_rfl) hv h
  obtain ⟨A, c, l, e0, hlc, hC, hD⟩ := open_files h0
  obtain ⟨b, e1, _⟩ := DataW.trod_bool Try.underlying4 h1
  obtain ⟨f, e2, _, hf⟩ := DataW.trod_int Try.underlying3 h2
  have e0' : v0 = .slice A l.length c := by simpa using e0
  have e1' : v1 = .bool b := by simpa using e1
  have e2' : v2 = .int .i64 f := by simpa using e2
  subst e0' e1' e2'
  refine ⟨A, c, l, b, f, rfl, hlc, hC, (by simpa [Lit.wf] using hf : IntKind.i64.min ≤ f ∧ f ≤ IntKind.i64.max).2, ?_⟩
  intro hw
  rcases hD with rfl | ⟨D, E, hx, hl⟩
  · simp
  · have hw2 : (DataW.weightsEach Try.prog [22, 4, 3] [y0.1, y1.1, y2.1]).all (· ≤ reachBytes) = true := by
      rw [hd] at hw
      have he : DataW.weights Try.prog 24 (.agg [y0.1, y1.1, y2.1]) = DataW.weightsEach Try.prog [22, 4, 3] [y0.1, y1.1, y2.1] := by
        rw [DataW.weights]
        simp only [Try.underlying24]
        rfl
      rw [he] at hw
      exact hw
    have hs := sized_slice hw2 (j := 0) (t := 22) (e := 41) (elems := D) (spare := E) rfl (by simp [hx]) Try.underlying22
    have hb : Try.prog.bytesOf 41 = 40 := by kernel_rfl
    rw [hb, hl] at hs
    have : reachBytes = 140737488351232 := rfl
    omega
end Go.Proofs.Ytebngchdmpabhaa.Disk
