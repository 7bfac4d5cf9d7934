/- Package value: SameBag at two lists of two rows. No condition but that the rows are read. -/
import Derived.Test.YtepgjdmdogblmaaDoorVl6
namespace Go.Proofs.YtepgjdmdogblmaaDoor.Val
open Go.RowKit Go.Proofs.YtepgjdmdogblmaaDoor.G Go.Proofs.YtepgjdmdogblmaaDoorW.PrintWords Go.Proofs.YtepgjdmdogblmaaDoorW.PrintLast Go.Proofs.YtepgjdmdogblmaaDoorW.PrintMore
set_option linter.unusedVariables false
set_option linter.unusedSimpArgs false
/-- what agrees with a world on the blocks of ok reads as it did -/
def Agree (ok : Nat → Prop) (W W' : World) : Prop := ∀ k, ok k → k < W.heap.size → W'.heap[k]? = W.heap[k]?
theorem C_agree {W W' : World} {A : Option Addr} {n : Nat} {xs : List S27} (h : Kd.C k27 W A n xs) (ha : Agree (fun _ => True) W W') : Kd.C k27 W' A n xs := by
  obtain ⟨h1, h2, h3⟩ := h
  refine ⟨h1, h2, fun hp => ?_⟩
  obtain ⟨ad, e, hc⟩ := h3 hp
  refine ⟨ad, e, fun j p hj => ?_⟩
  obtain ⟨c, hl, hK, hcc⟩ := hc j p hj
  refine ⟨c, hl, ?_, fun i u hi => ?_⟩
  · have := k27_open hK
    subst this
    exact k27_mk W' p
  · have h5 := hcc i u hi
    rw [World.cell?_of_block (ha _ trivial (World.block_lt_of_cell? W _ h5))]
    exact h5
theorem Row.agree {W W' : World} {v : Value} {l : List S27} (h : Row W v l) (ha : Agree (fun _ => True) W W') : Row W' v l := by
  obtain ⟨A, c, e, h1, h2⟩ := h.ex
  exact ⟨A, c, e, C_agree h1 ha, h2⟩
theorem Two.agree {W W' : World} {g : Nat} {v0 v1 : Value} (h : Two W g v0 v1) (ha : W'.heap[g]? = W.heap[g]?) : Two W' g v0 v1 := by
  obtain ⟨cs, hg, h0, h1⟩ := h
  exact ⟨cs, ha.trans hg, h0, h1⟩
theorem Two.lt {W : World} {g : Nat} {v0 v1 : Value} (h : Two W g v0 v1) : g < W.heap.size := by
  obtain ⟨cs, hg, h0, h1⟩ := h
  exact blk_lt hg
theorem two_C {W : World} {g : Nat} {v0 v1 : Value} {l0 l1 : List S27} (h : Two W g v0 v1) (h0 : Row W v0 l0) (h1 : Row W v1 l1) : (Kd.slice 27 k27).C W (some ⟨g, 0, none⟩) 2 [l0, l1] := by
  refine ⟨rfl, by decide, fun _ => ⟨_, rfl, fun j p hj => ?_⟩⟩
  match j, hj with
  | 0, hj =>
    obtain rfl : l0 = p := by simpa using hj
    obtain ⟨A, c, e, hC, _, hc⟩ := h0.ex
    refine ⟨[v0], rfl, ⟨A, c, by rw [e], hc, hC⟩, fun i u hi => ?_⟩
    match i, hi with
    | 0, hi =>
      obtain rfl : v0 = u := by simpa using hi
      exact h.c0
  | 1, hj =>
    obtain rfl : l1 = p := by simpa using hj
    obtain ⟨A, c, e, hC, _, hc⟩ := h1.ex
    refine ⟨[v1], rfl, ⟨A, c, by rw [e], hc, hC⟩, fun i u hi => ?_⟩
    match i, hi with
    | 0, hi =>
      obtain rfl : v1 = u := by simpa using hi
      exact h.c1
theorem two_V {w W : World} {g c : Nat} {v0 v1 : Value} {l0 l1 : List S27} (h : Two w g v0 v1) (h0 : Row w v0 l0) (h1 : Row w v1 l1) (hc : 2 ≤ c) (ha : Agree (fun _ => True) w W) (hs : w.heap.size ≤ W.heap.size) :
    Kd.V (Kd.slice 27 k27) 33 W W.heap.size (fun k => k < w.heap.size) (.slice (some ⟨g, 0, none⟩) 2 c) [l0, l1] := by
  refine ⟨some ⟨g, 0, none⟩, c, rfl, hc, fun W' hW => ?_⟩
  have hag : Agree (fun _ => True) w W' := fun k _ hk => (hW k hk (Nat.lt_of_lt_of_le hk hs)).trans (ha k trivial hk)
  exact two_C (h.agree (hag g trivial h.lt)) (h0.agree hag) (h1.agree hag)
theorem N_two {W : World} {base : Nat} {ok : Nat → Prop} {v : Value} {l0 l1 : List S27} (h : Kd.N (Kd.slice 27 k27) 33 W base ok v [l0, l1]) (hl0 : l0.length < 4611686018427387904) (hl1 : l1.length < 4611686018427387904) :
    ∃ g cap p0 p1, v = .slice (some ⟨g, 0, none⟩) 2 cap ∧ 2 ≤ cap ∧ base ≤ g ∧ g < W.heap.size ∧ Two W g p0 p1 ∧ (∀ W', Agree (fun k => ok k ∧ k ≠ g) W W' → Row W' p0 l0) ∧ (∀ W', Agree (fun k => ok k ∧ k ≠ g) W W' → Row W' p1 l1) := by
  obtain ⟨g, cap, rfl, hb, hlt, cells, hg⟩ := Kd.N_form h (by simp)
  have hcap := (Kd.N_reads' h).2.1
  obtain ⟨c, hcl, hF, hcc, _⟩ := Kd.N_elem h [] 0 (by omega) (by simp)
  obtain ⟨d, hdl, hG, hdd, _⟩ := Kd.N_elem h [] 1 (by omega) (by simp)
  have hone : (Kd.slice 27 k27).sz = 1 := rfl
  rw [hone] at hcl hdl hcc hdd
  match c, hcl with
  | [p0], _ =>
    match d, hdl with
    | [p1], _ =>
      have x0 : W.cell? ⟨g, 0, none⟩ = some p0 := hcc 0 p0 rfl
      have x1 : W.cell? ⟨g, 1, none⟩ = some p1 := hdd 0 p1 rfl
      rw [blk_cell hg] at x0 x1
      have row : ∀ (l : List S27) (p : Value), l.length < 4611686018427387904 → Kd.FK (Kd.slice 27 k27) W (fun k => ok k ∧ k ≠ g) l [p] → ∀ W', Agree (fun k => ok k ∧ k ≠ g) W W' → Row W' p l := by
        intro l p hl hF W' hW
        obtain ⟨A, cc, e, hle, hC⟩ := hF W' hW
        have e' : p = .slice A l.length cc := by simpa using e
        exact ⟨A, cc, e', hC, hl, hle⟩
      exact ⟨g, cap, p0, p1, rfl, hcap, hb, hlt, ⟨cells, hg, x0, x1⟩, row _ _ hl0 hF, row _ _ hl1 hG⟩
theorem sort_rows (base g c : Nat) (l0 l1 : List S27) (v0 v1 : Value) (w : World) (hT : Two w g v0 v1) (hr0 : ∀ w', KeepBut w w' g none → Row w' v0 l0) (hr1 : ∀ w', KeepBut w w' g none → Row w' v1 l1) (hbg : base ≤ g) (hbw : base ≤ w.heap.size) :
    Calls Tryd.prog 66 #[.slice (some ⟨g, 0, none⟩) 2 c, .func (.func 63) #[] #[]] w fun e w' => e = .returned (.tuple #[]) ∧ Two w' g (sw (decide (rowsN exactN l1 l0 < 0)) v0 v1) (sw (decide (rowsN exactN l1 l0 < 0)) v1 v0) ∧ Below base w w' ∧ KeepBut w w' g none := by
  obtain ⟨A0, c0, e0, _, b0, _⟩ := (hr0 w (KeepBut.refl _ _ _)).ex
  obtain ⟨A1, c1, e1, _, b1, _⟩ := (hr1 w (KeepBut.refl _ _ _)).ex
  have same : ∀ (A A' : Option Addr) (c c' : Nat) (l : List S27) (v : Value) (w' : World), v = .slice A l.length c → Row w' v l → Kd.C k27 w' A l.length l := by
    intro A A' c c' l v w' e h
    obtain ⟨B, d, e', hC, _⟩ := h.ex
    rw [e] at e'
    injection e' with h1
    rw [h1]; exact hC
  exact sort_calls base g c A0 A1 c0 c1 l0 l1 v0 v1 w e0 e1 hT (fun w' hk => same _ A0 _ c0 _ _ _ e0 (hr0 w' hk)) (fun w' hk => same _ A1 _ c1 _ _ _ e1 (hr1 w' hk)) b0 b1 hbg hbw
end Go.Proofs.YtepgjdmdogblmaaDoor.Val
