/- Package slices: two rows sorted by SortFunc, two lists of two rows held equal by EqualFunc. No condition but that the rows are read. -/
import Derived.Test.YtepgjdmdogblmaaDoorVl4
import Derived.Test.YtepgjdmdogblmaaDoorShelf
namespace Go.Proofs.YtepgjdmdogblmaaDoor.Val
open Go.RowKit Go.Proofs.YtepgjdmdogblmaaDoor.G Go.Proofs.YtepgjdmdogblmaaDoorW.PrintWords Go.Proofs.YtepgjdmdogblmaaDoorW.PrintLast Go.Proofs.YtepgjdmdogblmaaDoorW.PrintMore
set_option linter.unusedVariables false
set_option linter.unusedSimpArgs false
def sw (b : Bool) (x y : Value) : Value := if b = true then y else x
theorem ins_calls (base g c : Nat) (A0 A1 : Option Addr) (c0 c1 : Nat) (l0 l1 : List S27) (v0 v1 : Value) (w : World) (e0 : v0 = .slice A0 l0.length c0) (e1 : v1 = .slice A1 l1.length c1) (hT : Two w g v0 v1) (hr0 : ∀ w', KeepBut w w' g none → Kd.C k27 w' A0 l0.length l0) (hr1 : ∀ w', KeepBut w w' g none → Kd.C k27 w' A1 l1.length l1) (hl0 : l0.length < 4611686018427387904) (hl1 : l1.length < 4611686018427387904) (hbg : base ≤ g) (hbw : base ≤ w.heap.size) :
    Calls Tryd.prog 88 #[.slice (some ⟨g, 0, none⟩) 2 c, .int .i64 0, .int .i64 2, .func (.func 63) #[] #[]] w fun e w' => e = .returned (.tuple #[]) ∧ Two w' g (sw (decide (rowsN exactN l1 l0 < 0)) v0 v1) (sw (decide (rowsN exactN l1 l0 < 0)) v1 v0) ∧ Below base w w' ∧ KeepBut w w' g none := by
  by_cases h : rowsN exactN l1 l0 < 0
  · rw [decide_eq_true h]
    exact ins_swap base g c A0 A1 c0 c1 l0 l1 v0 v1 w e0 e1 hT hr0 hr1 hl0 hl1 hbg hbw h
  · rw [decide_eq_false h]
    exact ins_keep base g c A0 A1 c0 c1 l0 l1 v0 v1 w e0 e1 hT hr0 hr1 hl0 hl1 hbg hbw h
set_option maxHeartbeats 4000000 in
set_option maxRecDepth 100000 in
theorem pdq_calls (base g c : Nat) (A0 A1 : Option Addr) (c0 c1 : Nat) (l0 l1 : List S27) (v0 v1 : Value) (L : Int) (w : World) (e0 : v0 = .slice A0 l0.length c0) (e1 : v1 = .slice A1 l1.length c1) (hT : Two w g v0 v1) (hr0 : ∀ w', KeepBut w w' g none → Kd.C k27 w' A0 l0.length l0) (hr1 : ∀ w', KeepBut w w' g none → Kd.C k27 w' A1 l1.length l1) (hl0 : l0.length < 4611686018427387904) (hl1 : l1.length < 4611686018427387904) (hbg : base ≤ g) (hbw : base ≤ w.heap.size) :
    Calls Tryd.prog 83 #[.slice (some ⟨g, 0, none⟩) 2 c, .int .i64 0, .int .i64 2, .int .i64 L, .func (.func 63) #[] #[]] w fun e w' => e = .returned (.tuple #[]) ∧ Two w' g (sw (decide (rowsN exactN l1 l0 < 0)) v0 v1) (sw (decide (rowsN exactN l1 l0 < 0)) v1 v0) ∧ Below base w w' ∧ KeepBut w w' g none := by
  have hI := ins_calls base g c A0 A1 c0 c1 l0 l1 v0 v1 w e0 e1 hT hr0 hr1 hl0 hl1 hbg hbw
  obtain ⟨u0, h0⟩ : ∃ u, u = sw (decide (rowsN exactN l1 l0 < 0)) v0 v1 := ⟨_, rfl⟩
  obtain ⟨u1, h1⟩ : ∃ u, u = sw (decide (rowsN exactN l1 l0 < 0)) v1 v0 := ⟨_, rfl⟩
  rw [← h0, ← h1] at hI ⊢
  clear h0 h1 e0 e1 hT hr0 hr1
  have HI := Lib.hid hI
  clear hI
  go_enter Tryd.func83, Tryd.ntmps83
  go_wp2
  go_loopw [1, 2, 3, 10, 11] (fun v1 v2 v3 v10 v11 wr => v1 = .int .i64 0 ∧ v2 = .int .i64 2 ∧ v3 = .int .i64 L ∧ v10 = .bool true ∧ v11 = .bool true ∧ wr = w) (fun _ _ _ _ _ _ => 0)
  case atStart => exact ⟨rfl, rfl, rfl, rfl, rfl, rfl⟩
  case round =>
    obtain ⟨rfl, rfl, rfl, rfl, rfl, rfl⟩ := hrel
    go_wp2_with (first
      | (go_at_call 88; refine HI.out.mono ?_; rintro e w6 ⟨rfl, ht, hb, hk⟩))
    first | go_end0 | refine bodyPost_ret (results_none rfl _ _ _) rfl ?_
    exact ⟨rfl, ht, hb, hk⟩
set_option maxHeartbeats 4000000 in
set_option maxRecDepth 100000 in
theorem sort_calls (base g c : Nat) (A0 A1 : Option Addr) (c0 c1 : Nat) (l0 l1 : List S27) (v0 v1 : Value) (w : World) (e0 : v0 = .slice A0 l0.length c0) (e1 : v1 = .slice A1 l1.length c1) (hT : Two w g v0 v1) (hr0 : ∀ w', KeepBut w w' g none → Kd.C k27 w' A0 l0.length l0) (hr1 : ∀ w', KeepBut w w' g none → Kd.C k27 w' A1 l1.length l1) (hl0 : l0.length < 4611686018427387904) (hl1 : l1.length < 4611686018427387904) (hbg : base ≤ g) (hbw : base ≤ w.heap.size) :
    Calls Tryd.prog 66 #[.slice (some ⟨g, 0, none⟩) 2 c, .func (.func 63) #[] #[]] w fun e w' => e = .returned (.tuple #[]) ∧ Two w' g (sw (decide (rowsN exactN l1 l0 < 0)) v0 v1) (sw (decide (rowsN exactN l1 l0 < 0)) v1 v0) ∧ Below base w w' ∧ KeepBut w w' g none := by
  have hI := fun L => pdq_calls base g c A0 A1 c0 c1 l0 l1 v0 v1 L w e0 e1 hT hr0 hr1 hl0 hl1 hbg hbw
  obtain ⟨u0, h0⟩ : ∃ u, u = sw (decide (rowsN exactN l1 l0 < 0)) v0 v1 := ⟨_, rfl⟩
  obtain ⟨u1, h1⟩ : ∃ u, u = sw (decide (rowsN exactN l1 l0 < 0)) v1 v0 := ⟨_, rfl⟩
  rw [← h0, ← h1] at hI ⊢
  clear h0 h1 e0 e1 hT hr0 hr1
  have HI := Lib.hid hI
  clear hI
  go_enter Tryd.func66, Tryd.ntmps66
  go_wp2_with (first
    | (go_at_call 84; refine (Tryd.bits_Len 2 w (by decide) (by decide)).mono ?_; rintro e w6 ⟨rfl, rfl⟩; obtain ⟨L, hL⟩ : ∃ L : Int, L = ((Lib.bitLen (2 : Int).toNat : Nat) : Int) := ⟨_, rfl⟩; rw [← hL]; clear hL)
    | (go_at_call 83; refine (HI.out _).mono ?_; rintro e w6 ⟨rfl, ht, hb, hk⟩))
  go_end0
  exact ⟨rfl, ht, hb, hk⟩
end Go.Proofs.YtepgjdmdogblmaaDoor.Val
