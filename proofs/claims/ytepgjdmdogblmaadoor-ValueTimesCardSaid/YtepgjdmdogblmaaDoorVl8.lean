/- Package value: SameBag at two lists of two rows, of which the second stands the other way round. No condition but that the rows are read. -/
import Derived.Test.YtepgjdmdogblmaaDoorVl7
namespace Go.Proofs.YtepgjdmdogblmaaDoor.Val
open Go.RowKit Go.Proofs.YtepgjdmdogblmaaDoor.G Go.Proofs.YtepgjdmdogblmaaDoorW.PrintWords Go.Proofs.YtepgjdmdogblmaaDoorW.PrintLast Go.Proofs.YtepgjdmdogblmaaDoorW.PrintMore
set_option linter.unusedVariables false
set_option linter.unusedSimpArgs false
theorem clone_two {w W : World} {g c : Nat} {v0 v1 : Value} {l0 l1 : List S27} (h : Two w g v0 v1) (h0 : Row w v0 l0) (h1 : Row w v1 l1) (hc : 2 ≤ c) (ha : Agree (fun _ => True) w W) (hs : w.heap.size ≤ W.heap.size) :
    Calls Tryd.prog 65 #[.slice (some ⟨g, 0, none⟩) 2 c] W fun e w' => ∃ g' cap p0 p1, e = .returned (.slice (some ⟨g', 0, none⟩) 2 cap) ∧ 2 ≤ cap ∧ W.heap.size ≤ g' ∧ g' < w'.heap.size ∧ Two w' g' p0 p1 ∧ (∀ W', Agree (fun k => (k < w.heap.size ∨ W.heap.size ≤ k) ∧ k ≠ g') w' W' → Row W' p0 l0) ∧ (∀ W', Agree (fun k => (k < w.heap.size ∨ W.heap.size ≤ k) ∧ k ≠ g') w' W' → Row W' p1 l1) ∧ Below W.heap.size W w' := by
  obtain ⟨_, _, _, _, b0, _⟩ := h0.ex
  obtain ⟨_, _, _, _, b1, _⟩ := h1.ex
  refine (api_Row_65.calls (fun k => k < w.heap.size) (some ⟨g, 0, none⟩) c [l0, l1] [l0, l1] W (two_V h h0 h1 hc ha hs) (by simp [api_Row_65.f])).mono ?_
  rintro e w' ⟨v, rfl, hN, hb⟩
  obtain ⟨g', cap, p0, p1, rfl, k1, k2, k3, k4, k5, k6⟩ := N_two hN b0 b1
  exact ⟨g', cap, p0, p1, rfl, k1, k2, k3, k4, k5, k6, hb⟩
set_option maxHeartbeats 4000000 in
set_option maxRecDepth 100000 in
theorem bag_calls (ga gb ca cb : Nat) (l0 l1 m0 m1 : List S27) (p0 p1 q0 q1 : Value) (w : World) (hTa : Two w ga p0 p1) (hTb : Two w gb q0 q1) (hp0 : Row w p0 l0) (hp1 : Row w p1 l1) (hq0 : Row w q0 m0) (hq1 : Row w q1 m1) (hca : 2 ≤ ca) (hcb : 2 ≤ cb)
    (ha : ¬ rowsN exactN l1 l0 < 0) (hb : rowsN exactN m1 m0 < 0) (he0 : eqRows l0 m1 = true) (he1 : eqRows l1 m0 = true) :
    Calls Tryd.prog 40 #[.slice (some ⟨ga, 0, none⟩) 2 ca, .slice (some ⟨gb, 0, none⟩) 2 cb] w fun e w' => e = .returned (.bool true) ∧ Below w.heap.size w w' := by
  have HTa := Lib.hid hTa
  have HTb := Lib.hid hTb
  have P0 := Lib.hid hp0
  have P1 := Lib.hid hp1
  have Q0 := Lib.hid hq0
  have Q1 := Lib.hid hq1
  have HA := Lib.hid (decide_eq_false ha)
  have HB := Lib.hid (decide_eq_true hb)
  have HE0 := Lib.hid he0
  have HE1 := Lib.hid he1
  have M1 := Lib.hid hca
  have M2 := Lib.hid hcb
  clear hTa hTb hp0 hp1 hq0 hq1 ha hb he0 he1 hca hcb
  go_enter Tryd.func40, Tryd.ntmps40
  go_upto_region 3 with (first
    | (go_at_call 65; have M := M1; refine (clone_two HTa.out P0.out P1.out M1.out (fun _ _ _ => rfl) (Nat.le_refl _)).mono ?_; rintro e w1 ⟨g1, c1, x0, x1, rfl, h1, h2, h3, h4, h5, h6, hb⟩; have C1 := Lib.hid h1; have G1 := Lib.hid h2; have L1 := Lib.hid h3; have T1 := Lib.hid h4; have X0 := Lib.hid h5; have X1 := Lib.hid h6; have B1 := Lib.hid hb; clear h1 h2 h3 h4 h5 h6 hb M1 M)
    | (go_at_call 65; refine (clone_two HTb.out Q0.out Q1.out M2.out (fun k _ hk => B1.out.block k hk) B1.out.size).mono ?_; rintro e w2 ⟨g2, c2, y0, y1, rfl, h1, h2, h3, h4, h5, h6, hb⟩; have C2 := Lib.hid h1; have G2 := Lib.hid h2; have L2 := Lib.hid h3; have T2 := Lib.hid h4; have Y0 := Lib.hid h5; have Y1 := Lib.hid h6; have B2 := Lib.hid hb; clear h1 h2 h3 h4 h5 h6 hb M2))
  -- the first is sorted
  have hg1 := G1.out
  have hl1 := L1.out
  have hg2 := G2.out
  have hl2 := L2.out
  have hs1 := B1.out.size
  have hs2 := B2.out.size
  have ra : ∀ (p : Value) (l : List S27), (∀ W', Agree (fun k => (k < w.heap.size ∨ w.heap.size ≤ k) ∧ k ≠ g1) w1 W' → Row W' p l) → ∀ w', KeepBut w2 w' g1 none → Row w' p l := by
    intro p l h w' hk
    exact h w' (fun k hk1 hk2 => (hk.2 k (by omega) hk1.2 (by simp)).trans (B2.out.block k hk2))
  have S1 := Lib.hid (sort_rows w.heap.size g1 c1 l0 l1 x0 x1 w2 (T1.out.agree (B2.out.block _ hl1)) (ra _ _ X0.out) (ra _ _ X1.out) hg1 (by omega))
  go_upto_region 4 with (first
    | (go_at_call 66; refine S1.out.mono ?_; rintro e w3 ⟨rfl, ht, hb, hk⟩; rw [HA.out] at ht; have T3 := Lib.hid ht; have B3 := Lib.hid hb; have K3 := Lib.hid hk; clear ht hb hk))
  have hs3 := B3.out.size
  have rb : ∀ (p : Value) (l : List S27), (∀ W', Agree (fun k => (k < w.heap.size ∨ w1.heap.size ≤ k) ∧ k ≠ g2) w2 W' → Row W' p l) → ∀ w', KeepBut w3 w' g2 none → Row w' p l := by
    intro p l h w' hk
    refine h w' (fun k hk1 hk2 => (hk.2 k (by omega) hk1.2 (by simp)).trans (K3.out.2 k hk2 ?_ (by simp)))
    rcases hk1.1 with h | h <;> omega
  have S2 := Lib.hid (sort_rows w.heap.size g2 c2 m0 m1 y0 y1 w3 (T2.out.agree (K3.out.2 g2 hl2 (by omega) (by simp))) (rb _ _ Y0.out) (rb _ _ Y1.out) (by omega) (by omega))
  go_upto_region 5 with (first
    | (go_at_call 66; refine S2.out.mono ?_; rintro e w4 ⟨rfl, ht, hb, hk⟩; rw [HB.out] at ht; have T4 := Lib.hid ht; have B4 := Lib.hid hb; have K4 := Lib.hid hk; clear ht hb hk))
  have t3 : Two w3 g1 x0 x1 := T3.out
  have t4 : Two w4 g2 y1 y0 := T4.out
  have ta : Two w4 g1 x0 x1 := t3.agree (K4.out.2 g1 (by omega) (by omega) (by simp))
  have r0 : ∀ (p : Value) (l : List S27), (∀ W', Agree (fun k => (k < w.heap.size ∨ w.heap.size ≤ k) ∧ k ≠ g1) w1 W' → Row W' p l) → Row w4 p l := by
    intro p l h
    exact h w4 (fun k hk1 hk2 => (K4.out.2 k (by omega) (by omega) (by simp)).trans ((K3.out.2 k (by omega) hk1.2 (by simp)).trans (B2.out.block k hk2)))
  have EF := Lib.hid (eqf_calls g1 g2 c1 c2 l0 l1 m1 m0 x0 x1 y1 y0 w4 ta t4 (r0 _ _ X0.out) (r0 _ _ X1.out) (rb _ _ Y1.out w4 K4.out) (rb _ _ Y0.out w4 K4.out) HE0.out HE1.out)
  clear t3 t4 ta r0 ra rb
  go_wp2_with (first
    | (go_at_call 67; refine EF.out.mono ?_; rintro e w5 ⟨rfl, hb⟩))
  go_ret
  refine ⟨rfl, ?_⟩
  have hs4 := B4.out.size
  exact (B1.out.trans (B2.out.mono (by omega))).trans ((B3.out.trans B4.out).trans (hb.mono (by omega)))
end Go.Proofs.YtepgjdmdogblmaaDoor.Val
