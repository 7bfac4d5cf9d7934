/- Package value: ValueTimes and ValueNumbers answer true. Condition: utf8's two tables are laid; the numbers are 64 bits. -/
import Derived.Test.YtepgjdmdogblmaaDoorVl13
namespace Go.Proofs.YtepgjdmdogblmaaDoor.Val
open Go.RowKit Go.Proofs.YtepgjdmdogblmaaDoor.G Go.Proofs.YtepgjdmdogblmaaDoorW.PrintWords Go.Proofs.YtepgjdmdogblmaaDoorW.PrintLast Go.Proofs.YtepgjdmdogblmaaDoorW.PrintMore
set_option linter.unusedVariables false
set_option linter.unusedSimpArgs false
theorem fit_in {n : Int} (h : I64 n) : fitN n = n ∧ fitW n = 0 := by
  unfold fitN fitW
  unfold I64 at h
  rw [if_pos h, if_pos h]; exact ⟨rfl, rfl⟩
theorem fit_out {n : Int} (h : ¬ I64 n) : fitN n = 0 ∧ fitW n = 16 := by
  unfold fitN fitW
  unfold I64 at h
  rw [if_neg h, if_neg h]; exact ⟨rfl, rfl⟩
set_option maxHeartbeats 4000000 in
set_option maxRecDepth 100000 in
theorem times_calls (a b : Int) (w : World) (ha : I64 a) (hb0 : I64 b) (hT : Lib.Utf8Tabs 0 1 w) : Calls Tryd.prog 7 #[.int .i64 a, .int .i64 b] w fun e w' => e = .returned (.bool true) ∧ Below w.heap.size w w' := by
  have HB := Lib.hid (Below.refl w.heap.size w)
  have HT := Lib.hid hT
  have i1 : I64 1 := ⟨by decide, by decide⟩
  have i0 : I64 0 := ⟨by decide, by decide⟩
  have f1 := Lib.hid (fit_in ha)
  have f0 := Lib.hid (fit_in i0)
  have MA := Lib.hid trivial
  have MB := Lib.hid trivial
  have MC := Lib.hid trivial
  have MD := Lib.hid trivial
  have ME := Lib.hid trivial
  clear hT
  go_enter Tryd.func7, Tryd.ntmps7
  go_wp2_with (first
    | (go_at_call 13; refine (lives_calls _ (Utf8Tabs_below HT.out HB.out)).mono ?_; rintro e w1 ⟨rfl, hb⟩; have nB := Lib.hid (below_step HB.out hb); clear HB hb; have HB := nB; clear nB)
    | (go_at_call 25; have M := MA; refine (mul_calls a b _ ha hb0).mono ?_; rintro e w1 ⟨rfl, hb⟩; have nB := Lib.hid (below_step HB.out hb); clear HB hb; have HB := nB; clear nB; clear MA M)
    | (go_at_call 25; have M := MB; refine (mul_calls b a _ hb0 ha).mono ?_; rw [Int.mul_comm b a]; rintro e w1 ⟨rfl, hb⟩; have nB := Lib.hid (below_step HB.out hb); clear HB hb; have HB := nB; clear nB; clear MB M)
    | (go_at_call 25; have M := MC; refine (mul_calls a 1 _ ha i1).mono ?_; rw [Int.mul_one, f1.out.1, f1.out.2]; rintro e w1 ⟨rfl, hb⟩; have nB := Lib.hid (below_step HB.out hb); clear HB hb; have HB := nB; clear nB; clear MC M)
    | (go_at_call 25; refine (mul_calls a 0 _ ha i0).mono ?_; rw [Int.mul_zero, f0.out.1, f0.out.2]; rintro e w1 ⟨rfl, hb⟩; have nB := Lib.hid (below_step HB.out hb); clear HB hb; have HB := nB; clear nB)
    | (go_at_call 26; have M := MD; refine (add_calls a b _ ha hb0).mono ?_; rintro e w1 ⟨rfl, hb⟩; have nB := Lib.hid (below_step HB.out hb); clear HB hb; have HB := nB; clear nB; clear MD M)
    | (go_at_call 26; refine (add_calls b a _ hb0 ha).mono ?_; rw [Int.add_comm b a]; rintro e w1 ⟨rfl, hb⟩; have nB := Lib.hid (below_step HB.out hb); clear HB hb; have HB := nB; clear nB))
  go_ret
  exact ⟨rfl, HB.out⟩
set_option maxHeartbeats 4000000 in
set_option maxRecDepth 100000 in
theorem numbers_calls (a b : Int) (w : World) (ha : I64 a) (hb0 : I64 b) (hT : Lib.Utf8Tabs 0 1 w) : Calls Tryd.prog 8 #[.int .i64 a, .int .i64 b] w fun e w' => e = .returned (.bool true) ∧ Below w.heap.size w w' := by
  have HB := Lib.hid (Below.refl w.heap.size w)
  have HT := Lib.hid hT
  have MA := Lib.hid trivial
  clear hT
  by_cases hI : I64 (a + b)
  · have f1 := Lib.hid (fit_in hI)
    have f2 := Lib.hid (fit_in ha)
    have e2 : a + b - b = a := by omega
    have HE := Lib.hid e2
    clear e2
    go_enter Tryd.func8, Tryd.ntmps8
    go_wp2_with (first
      | (go_at_call 26; refine (add_calls a b _ ha hb0).mono ?_; rw [f1.out.1, f1.out.2]; rintro e w1 ⟨rfl, hb⟩; have nB := Lib.hid (below_step HB.out hb); clear HB hb; have HB := nB; clear nB)
      | (go_at_call 27; refine (radd_calls a b _ ha hb0).mono ?_; rw [f1.out.1, f1.out.2]; rintro e w1 ⟨rfl, hb⟩; have nB := Lib.hid (below_step HB.out hb); clear HB hb; have HB := nB; clear nB)
      | (go_at_call 28; have M := MA; refine (sub_calls a b _ ha hb0).mono ?_; rintro e w1 ⟨rfl, hb⟩; have nB := Lib.hid (below_step HB.out hb); clear HB hb; have HB := nB; clear nB; clear MA M)
      | (go_at_call 29; refine (rsub_calls a b _ ha hb0).mono ?_; rintro e w1 ⟨rfl, hb⟩; have nB := Lib.hid (below_step HB.out hb); clear HB hb; have HB := nB; clear nB)
      | (go_at_call 25; refine (mul_calls a b _ ha hb0).mono ?_; rintro e w1 ⟨rfl, hb⟩; have nB := Lib.hid (below_step HB.out hb); clear HB hb; have HB := nB; clear nB)
      | (go_at_call 30; refine (rmul_calls a b _ ha hb0).mono ?_; rintro e w1 ⟨rfl, hb⟩; have nB := Lib.hid (below_step HB.out hb); clear HB hb; have HB := nB; clear nB)
      | (go_at_call 13; refine (lives_calls _ (Utf8Tabs_below HT.out HB.out)).mono ?_; rintro e w1 ⟨rfl, hb⟩; have nB := Lib.hid (below_step HB.out hb); clear HB hb; have HB := nB; clear nB)
      | (go_at_call 28; refine (sub_calls (a + b) b _ hI hb0).mono ?_; rw [HE.out, f2.out.1, f2.out.2]; rintro e w1 ⟨rfl, hb⟩; have nB := Lib.hid (below_step HB.out hb); clear HB hb; have HB := nB; clear nB))
    go_ret
    exact ⟨rfl, HB.out⟩
  · have f1 := Lib.hid (fit_out hI)
    have i0 : I64 0 := ⟨by decide, by decide⟩
    clear hI
    go_enter Tryd.func8, Tryd.ntmps8
    go_wp2_with (first
      | (go_at_call 26; refine (add_calls a b _ ha hb0).mono ?_; rw [f1.out.1, f1.out.2]; rintro e w1 ⟨rfl, hb⟩; have nB := Lib.hid (below_step HB.out hb); clear HB hb; have HB := nB; clear nB)
      | (go_at_call 27; refine (radd_calls a b _ ha hb0).mono ?_; rw [f1.out.1, f1.out.2]; rintro e w1 ⟨rfl, hb⟩; have nB := Lib.hid (below_step HB.out hb); clear HB hb; have HB := nB; clear nB)
      | (go_at_call 28; have M := MA; refine (sub_calls a b _ ha hb0).mono ?_; rintro e w1 ⟨rfl, hb⟩; have nB := Lib.hid (below_step HB.out hb); clear HB hb; have HB := nB; clear nB; clear MA M)
      | (go_at_call 29; refine (rsub_calls a b _ ha hb0).mono ?_; rintro e w1 ⟨rfl, hb⟩; have nB := Lib.hid (below_step HB.out hb); clear HB hb; have HB := nB; clear nB)
      | (go_at_call 25; refine (mul_calls a b _ ha hb0).mono ?_; rintro e w1 ⟨rfl, hb⟩; have nB := Lib.hid (below_step HB.out hb); clear HB hb; have HB := nB; clear nB)
      | (go_at_call 30; refine (rmul_calls a b _ ha hb0).mono ?_; rintro e w1 ⟨rfl, hb⟩; have nB := Lib.hid (below_step HB.out hb); clear HB hb; have HB := nB; clear nB)
      | (go_at_call 13; refine (lives_calls _ (Utf8Tabs_below HT.out HB.out)).mono ?_; rintro e w1 ⟨rfl, hb⟩; have nB := Lib.hid (below_step HB.out hb); clear HB hb; have HB := nB; clear nB)
      | (go_at_call 28; refine (sub_calls 0 b _ i0 hb0).mono ?_; rintro e w1 ⟨rfl, hb⟩; have nB := Lib.hid (below_step HB.out hb); clear HB hb; have HB := nB; clear nB))
    go_ret
    exact ⟨rfl, HB.out⟩
end Go.Proofs.YtepgjdmdogblmaaDoor.Val
