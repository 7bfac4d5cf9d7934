/- Package value: two rows that are equal, value by value. No condition but that rows are read. -/
import Derived.Test.YtepgjdmdogblmaaDoorVl2
namespace Go.Proofs.YtepgjdmdogblmaaDoor.Val
open Go.RowKit Go.Proofs.YtepgjdmdogblmaaDoor.G Go.Proofs.YtepgjdmdogblmaaDoorW.PrintWords Go.Proofs.YtepgjdmdogblmaaDoorW.PrintLast Go.Proofs.YtepgjdmdogblmaaDoorW.PrintMore
set_option linter.unusedVariables false
set_option linter.unusedSimpArgs false
def eqV (a b : S27) : Bool := a.f0 == b.f0 && (a.f1 == b.f1 && (a.f2 == b.f2 && a.f3.toList == b.f3.toList))
def eqRows : List S27 → List S27 → Bool
  | [], [] => true
  | [], _ :: _ => false
  | _ :: _, [] => false
  | x :: l, y :: r => eqV x y && eqRows l r
theorem eqRows_len : ∀ (l r : List S27), eqRows l r = true → l.length = r.length
  | [], [], _ => rfl
  | [], _ :: _, h => by cases h
  | _ :: _, [], h => by cases h
  | x :: l, y :: r, h => by
    have := eqRows_len l r (Bool.and_eq_true_iff.1 h).2
    simp [this]
theorem eqA27 (d : Nat) (w : World) (x0 y0 : Int) (x1 y1 : Bool) (x2 y2 : Int) (x3 y3 : ByteArray) :
    (Op.equalIn (d + 2) 27 (.agg #[.int .u8 x0, .bool x1, .int .i64 x2, .string x3]) (.agg #[.int .u8 y0, .bool y1, .int .i64 y2, .string y3])).run Tryd.prog w = .ok (x0 == y0 && (x1 == y1 && (x2 == y2 && x3.toList == y3.toList))) w := by
  refine eqA_of Tryd.underlying27 (by kernel_rfl) ?_
  refine eqf_cons (by rfl) (by go_simp; rfl) (by go_simp; rfl) (by go_simp) ?_
  refine eqf_cons (by rfl) (by go_simp; rfl) (by go_simp; rfl) (by go_simp) ?_
  refine eqf_cons (by rfl) (by go_simp; rfl) (by go_simp; rfl) (by go_simp) ?_
  exact eqf_last (by rfl) (by go_simp; rfl) (by go_simp; rfl) (by go_simp)
attribute [local go_sem high] eqA27
set_option maxHeartbeats 4000000 in
set_option maxRecDepth 100000 in
theorem equal_calls (A B : Option Addr) (c d : Nat) (l r : List S27) (w : World) (ha : Kd.C k27 w A l.length l) (hb : Kd.C k27 w B r.length r) (hl : l.length < 4611686018427387904) (hr : r.length < 4611686018427387904) :
    Calls Tryd.prog 69 #[.slice A l.length c, .slice B r.length d] w fun e w' => e = .returned (.bool (eqRows l r)) ∧ Below w.heap.size w w' := by
  have HA := Lib.hid ha
  have HR := Lib.hid hb
  clear ha hb
  by_cases hlm : l.length = r.length
  · obtain ⟨n, hn⟩ : ∃ n, n = l.length := ⟨_, rfl⟩
    rw [← hn] at HA hl hlm ⊢
    rw [← hlm] at HR hr ⊢
    have HN := Lib.hid hn
    have HM := Lib.hid hlm
    clear hn hlm
    go_enter Tryd.func69, Tryd.ntmps69
    go_wp2
    go_loopw [13] (fun vi wr => ∃ k : Nat, vi = .int .i64 k ∧ k ≤ n ∧ Hid (eqRows l r = eqRows (l.drop k) (r.drop k)) ∧ Hid (Below w.heap.size w wr)) (fun vi _ => n - (intOf vi).toNat)
    case atStart => exact ⟨0, rfl, Nat.zero_le _, Lib.hid rfl, Lib.hid (Below.refl _ _)⟩
    case round =>
      obtain ⟨k, rfl, hk, HE, HB⟩ := hrel
      by_cases h1 : k < n
      · have hkl : k < l.length := by rw [← HN.out]; exact h1
        have hkr : k < r.length := by rw [← HM.out]; exact h1
        obtain ⟨ad, eA, x0, x1, x2, x3⟩ := at_T27 (Kd.C_below HA.out HB.out) (k : Int) (by omega) (by omega)
        obtain ⟨bd, eB, y0, y1, y2, y3⟩ := at_T27 (Kd.C_below HR.out HB.out) (k : Int) (by omega) (by omega)
        simp only [Int.toNat_natCast] at x0 x1 x2 x3 y0 y1 y2 y3
        have hE := HE.out
        rw [drop_at hkl, drop_at hkr] at hE
        obtain ⟨F, hF⟩ : ∃ F, F = l.getD k z27 := ⟨_, rfl⟩
        obtain ⟨G, hG⟩ : ∃ G, G = r.getD k z27 := ⟨_, rfl⟩
        have hx : rd_T27 l (k : Int) = F := by rw [hF]; simp [rd_T27]
        have hy : rd_T27 r (k : Int) = G := by rw [hG]; simp [rd_T27]
        rw [hx] at x0 x1 x2 x3
        rw [hy] at y0 y1 y2 y3
        rw [← hF, ← hG] at hE
        have HE2 := Lib.hid hE
        subst eA eB
        clear hE HE hF hG hx hy
        have hkk : (k : Int) < (n : Int) := by omega
        rcases hv : eqV F G with _ | _
        · have hv' : (F.f0 == G.f0 && (F.f1 == G.f1 && (F.f2 == G.f2 && F.f3.toList == G.f3.toList))) = false := hv
          have HX : Hid (eqRows l r = false) := Lib.hid (by rw [HE2.out, eqRows, hv]; rfl)
          clear hv HE2
          go_wp2
          go_quiet (fail)
          go_wp2
          go_ret
          rw [HX.out]
          exact ⟨rfl, pw_below_drewN HB.out _⟩
        · have hv' : (F.f0 == G.f0 && (F.f1 == G.f1 && (F.f2 == G.f2 && F.f3.toList == G.f3.toList))) = true := hv
          have HX : Hid (eqRows l r = eqRows (l.drop (k + 1)) (r.drop (k + 1))) := Lib.hid (by rw [HE2.out, eqRows, hv]; rfl)
          clear hv HE2
          go_wp2
          go_quiet (fail)
          go_wp2
          exact ⟨⟨k + 1, by simp, h1, HX, Lib.hid (pw_below_drewN HB.out _)⟩, by simp [intOf]; omega⟩
      · obtain rfl : k = n := by omega
        have HX : Hid (eqRows l r = true) := Lib.hid (by rw [HE.out, show l.drop k = [] from List.drop_of_length_le (by rw [← HN.out]; exact Nat.le_refl _), show r.drop k = [] from List.drop_of_length_le (by rw [← HM.out]; exact Nat.le_refl _)]; rfl)
        go_wp2
        go_ret
        rw [HX.out]
        exact ⟨rfl, HB.out⟩
  · have HX : Hid (eqRows l r = false) := Lib.hid (by
      rcases h : eqRows l r with _ | _
      · rfl
      · exact absurd (eqRows_len l r h) hlm)
    have hlm' : ((l.length : Int) != (r.length : Int)) = true := by rw [bne_iff_ne]; omega
    clear hlm
    go_enter Tryd.func69, Tryd.ntmps69
    go_wp2
    go_ret
    rw [HX.out]
    exact ⟨rfl, Below.refl _ _⟩
theorem eq2_calls (A B : Option Addr) (c d : Nat) (l r : List S27) (w : World) (ha : Kd.C k27 w A l.length l) (hb : Kd.C k27 w B r.length r) (hl : l.length < 4611686018427387904) (hr : r.length < 4611686018427387904) :
    Calls Tryd.prog 68 #[.slice A l.length c, .slice B r.length d] w fun e w' => e = .returned (.bool (eqRows l r)) ∧ Below w.heap.size w w' := by
  have HA := Lib.hid ha
  have HR := Lib.hid hb
  clear ha hb
  go_enter Tryd.func68, Tryd.ntmps68
  go_wp2_with (first
    | (go_at_call 69; refine (equal_calls A B c d l r _ HA.out HR.out hl hr).mono ?_; rintro e w6 ⟨rfl, hb⟩))
  go_ret
  exact ⟨rfl, hb⟩
end Go.Proofs.YtepgjdmdogblmaaDoor.Val
