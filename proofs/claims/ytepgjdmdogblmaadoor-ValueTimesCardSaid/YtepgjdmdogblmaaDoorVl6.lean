/- Package slices: two lists of two rows held equal by EqualFunc. No condition but that the rows are read. -/
import Derived.Test.YtepgjdmdogblmaaDoorVl5
namespace Go.Proofs.YtepgjdmdogblmaaDoor.Val
open Go.RowKit Go.Proofs.YtepgjdmdogblmaaDoor.G Go.Proofs.YtepgjdmdogblmaaDoorW.PrintWords Go.Proofs.YtepgjdmdogblmaaDoorW.PrintLast Go.Proofs.YtepgjdmdogblmaaDoorW.PrintMore
set_option linter.unusedVariables false
set_option linter.unusedSimpArgs false
/-- a row's header and what it leads to -/
structure Row (w : World) (v : Value) (l : List S27) : Prop where
  ex : ∃ A c, v = .slice A l.length c ∧ Kd.C k27 w A l.length l ∧ l.length < 4611686018427387904 ∧ l.length ≤ c
theorem Row.below {w w1 : World} {v : Value} {l : List S27} (h : Row w v l) (hb : Below w.heap.size w w1) : Row w1 v l := by
  obtain ⟨A, c, e, h1, h2⟩ := h.ex
  exact ⟨A, c, e, Kd.C_below h1 hb, h2⟩
set_option maxHeartbeats 4000000 in
set_option maxRecDepth 100000 in
theorem eqf_calls (ga gb ca cb : Nat) (l0 l1 m0 m1 : List S27) (p0 p1 q0 q1 : Value) (w : World) (hTa : Two w ga p0 p1) (hTb : Two w gb q0 q1) (hp0 : Row w p0 l0) (hp1 : Row w p1 l1) (hq0 : Row w q0 m0) (hq1 : Row w q1 m1) (he0 : eqRows l0 m0 = true) (he1 : eqRows l1 m1 = true) :
    Calls Tryd.prog 67 #[.slice (some ⟨ga, 0, none⟩) 2 ca, .slice (some ⟨gb, 0, none⟩) 2 cb, .func (.func 68) #[] #[]] w fun e w' => e = .returned (.bool true) ∧ Below w.heap.size w w' := by
  obtain ⟨A0, a0, e0, h0, b0, _⟩ := hp0.ex
  obtain ⟨A1, a1, e1, h1, b1, _⟩ := hp1.ex
  obtain ⟨B0, c0, e2, h2, b2, _⟩ := hq0.ex
  obtain ⟨B1, c1, e3, h3, b3, _⟩ := hq1.ex
  subst e0 e1 e2 e3
  have HTa := Lib.hid hTa
  have HTb := Lib.hid hTb
  have H0 := Lib.hid h0
  have H1 := Lib.hid h1
  have H2 := Lib.hid h2
  have H3 := Lib.hid h3
  have HE0 := Lib.hid he0
  have HE1 := Lib.hid he1
  clear hTa hTb h0 h1 h2 h3 hp0 hp1 hq0 hq1 he0 he1
  go_enter Tryd.func67, Tryd.ntmps67
  go_wp2
  go_loopw [17] (fun vi wr => (vi = .int .i64 0 ∨ vi = .int .i64 1 ∨ vi = .int .i64 2) ∧ Hid (Below w.heap.size w wr)) (fun vi _ => 2 - (intOf vi).toNat)
  case atStart => exact ⟨.inl rfl, Lib.hid (Below.refl _ _)⟩
  case round =>
    obtain ⟨rfl | rfl | rfl, HB⟩ := hrel
    · have x0 := (HTa.out.below HB.out).c0
      have y0 := (HTb.out.below HB.out).c0
      go_wp2_with (first
        | (go_at_call 68; refine (eq2_calls A0 B0 a0 c0 l0 m0 _ (Kd.C_below H0.out HB.out) (Kd.C_below H2.out HB.out) b0 b2).mono ?_; rintro e w6 ⟨rfl, hb⟩; rw [HE0.out]; have nB := Lib.hid (below_step HB.out hb); clear HB hb x0 y0; have HB := nB; clear nB))
      go_roundw
      case rel => exact ⟨.inr (.inl rfl), HB⟩
      case measure => simp [intOf]
    · have x0 := (HTa.out.below HB.out).c1
      have y0 := (HTb.out.below HB.out).c1
      go_wp2_with (first
        | (go_at_call 68; refine (eq2_calls A1 B1 a1 c1 l1 m1 _ (Kd.C_below H1.out HB.out) (Kd.C_below H3.out HB.out) b1 b3).mono ?_; rintro e w6 ⟨rfl, hb⟩; rw [HE1.out]; have nB := Lib.hid (below_step HB.out hb); clear HB hb x0 y0; have HB := nB; clear nB))
      go_roundw
      case rel => exact ⟨.inr (.inr rfl), HB⟩
      case measure => simp [intOf]
    · go_wp2
      go_ret
      exact ⟨rfl, HB.out⟩
end Go.Proofs.YtepgjdmdogblmaaDoor.Val
