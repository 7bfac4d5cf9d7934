/- The laws of package value ask first for answers that the document gives: all are given. Condition: utf8's two tables are laid. -/
import Derived.Test.YtepgjdmdogblmaaDoorVl11
namespace Go.Proofs.YtepgjdmdogblmaaDoor.Val
open Go.RowKit Go.Proofs.YtepgjdmdogblmaaDoor.G Go.Proofs.YtepgjdmdogblmaaDoorW.PrintWords Go.Proofs.YtepgjdmdogblmaaDoorW.PrintLast Go.Proofs.YtepgjdmdogblmaaDoorW.PrintMore
set_option linter.unusedVariables false
set_option linter.unusedSimpArgs false
theorem add_over (w : World) : Calls Tryd.prog 26 #[.int .i64 4611686018427387904, .int .i64 4611686018427387904] w fun e w' => e = .returned (.tuple #[.int .i64 0, .int .i64 16]) ∧ Below w.heap.size w w' := by
  refine (value_Add.calls 4611686018427387904 4611686018427387904 0 16 w (by simp [value_Add.f, wrap64])).mono ?_
  exact fun e w' h => ⟨h.1, h.2.below⟩
theorem text_calls (s : ByteArray) (w : World) : Calls Tryd.prog 15 #[.string s] w fun e w' => e = .returned (.agg #[.int .u8 3, .bool false, .int .i64 0, .string s]) ∧ Below w.heap.size w w' := by
  refine (potsherdlaw01_text.calls s 3 false 0 s w rfl).mono ?_
  exact fun e w' h => ⟨h.1, (by first | exact h.2 | exact h.2.below)⟩
theorem whole_calls (n : Int) (w : World) : Calls Tryd.prog 42 #[.int .i64 n] w fun e w' => e = .returned (.agg #[.int .u8 2, .bool false, .int .i64 n, .string ⟨#[]⟩]) ∧ Below w.heap.size w w' := by
  refine (potsherdlaw01_whole.calls n 2 false n ⟨#[]⟩ w rfl).mono ?_
  exact fun e w' h => ⟨h.1, (by first | exact h.2 | exact h.2.below)⟩
def one (n : Int) : List S27 := [⟨2, false, n, ⟨#[]⟩⟩]
theorem cmp_lives : cmpV ⟨3, false, 0, ⟨#[97]⟩⟩ ⟨3, false, 0, ⟨#[195, 169]⟩⟩ = -1 := by kernel_rfl
theorem runes_lives : (((runesL ⟨#[195, 169]⟩).length : Nat) : Int) = 1 := by kernel_rfl
theorem row_one {w : World} {g : Nat} {n : Int} (h : w.heap[g]? = some (.cells #[.int .u8 2, .bool false, .int .i64 n, .string ⟨#[]⟩] 27 (0, 0))) : Row w (.slice (some ⟨g, 0, none⟩) 1 1) (one n) := by
  refine ⟨some ⟨g, 0, none⟩, 1, rfl, ⟨rfl, Nat.le_of_ble_eq_true rfl, fun _ => ⟨⟨g, 0, none⟩, rfl, fun j p hj => ?_⟩⟩, Nat.lt_of_lt_of_le (show 1 < 2 by decide) (by decide), Nat.le_refl _⟩
  match j, hj with
  | 0, hj =>
    obtain rfl : (⟨2, false, n, ⟨#[]⟩⟩ : S27) = p := by simpa [one] using hj
    refine ⟨_, rfl, k27_mk w _, fun i u hi => ?_⟩
    show w.cell? ((⟨g, 0, none⟩ : Addr).add (0 * 4 + i)) = some u
    rw [Nat.zero_mul, Nat.zero_add, show ((⟨g, 0, none⟩ : Addr).add i) = ⟨g, i, none⟩ from by unfold Addr.add; split <;> simp_all, blk_cell h]
    simpa using hi
theorem alloc_size (w : World) (o : Obj) : (w.alloc o).heap.size = w.heap.size + 1 := by
  show (w.heap.push o).size = _
  simp
theorem blk_new2 (w : World) (o o' : Obj) : ((w.alloc o).alloc o').heap[w.heap.size + 1]? = some o' := by
  have := blk_new (w.alloc o) o'
  rwa [alloc_size] at this
theorem hold_keep : ¬ rowsN exactN (one 2) (one 1) < 0 := by
  rw [show rowsN exactN (one 2) (one 1) = 1 by kernel_rfl]; decide
theorem hold_swap : rowsN exactN (one 1) (one 2) < 0 := by
  rw [show rowsN exactN (one 1) (one 2) = -1 by kernel_rfl]; decide
set_option maxHeartbeats 4000000 in
set_option maxRecDepth 100000 in
theorem lives_calls (w : World) (hT : Lib.Utf8Tabs 0 1 w) : Calls Tryd.prog 13 #[] w fun e w' => e = .returned (.bool true) ∧ Below w.heap.size w w' := by
  have HB := Lib.hid (Below.refl w.heap.size w)
  have HT := Lib.hid hT
  have MA := Lib.hid trivial
  have MB := Lib.hid trivial
  have MC := Lib.hid trivial
  clear hT
  go_enter Tryd.func13, Tryd.ntmps13
  go_wp2_with (first
    | (go_at_call 26; refine (add_over _).mono ?_; rintro e w1 ⟨rfl, hb⟩; have nB := Lib.hid (below_step HB.out hb); clear HB hb; have HB := nB; clear nB)
    | (go_at_call 15; refine (text_calls _ _).mono ?_; rintro e w1 ⟨rfl, hb⟩; have nB := Lib.hid (below_step HB.out hb); clear HB hb; have HB := nB; clear nB)
    | (go_at_call 16; refine (compare_calls 3 3 false false 0 0 ⟨#[97]⟩ ⟨#[195, 169]⟩ _ (by decide) (by decide) (Utf8Tabs_below HT.out HB.out)).mono ?_; rw [cmp_lives]; rintro e w1 ⟨rfl, hb⟩; have nB := Lib.hid (below_step HB.out hb); clear HB hb; have HB := nB; clear nB)
    | (go_at_call 17; refine (runes_calls ⟨#[195, 169]⟩ _ (by decide)).mono ?_; rw [runes_lives]; rintro e w1 ⟨rfl, hb⟩; have nB := Lib.hid (below_step HB.out hb); clear HB hb; have HB := nB; clear nB)
    | (go_at_call 14; refine (check_one _).mono ?_; rintro e w1 ⟨rfl, hb⟩; have nB := Lib.hid (below_step HB.out hb); clear HB hb; have HB := nB; clear nB)
    | (go_at_call 42; have M := MA; refine (whole_calls _ _).mono ?_; rintro e w1 ⟨rfl, hb⟩; have nB := Lib.hid (below_step HB.out hb); clear HB hb; have HB := nB; clear nB; clear MA M)
    | (go_at_call 42; have M := MB; refine (whole_calls _ _).mono ?_; rintro e w2 ⟨rfl, hb⟩; have R1 := Lib.hid (blk_below (blk_new w1 _) hb); have nB := Lib.hid (below_step (HB.out.alloc HB.out.size _) hb); clear HB hb; have HB := nB; clear nB; clear MB M)
    | (go_at_call 42; have M := MC; refine (whole_calls _ _).mono ?_; rintro e w3 ⟨rfl, hb⟩; have r1 := Lib.hid (blk_below (blk_alloc (blk_alloc R1.out _) _) hb); have R2 := Lib.hid (blk_below (blk_alloc (blk_new w2 _) _) hb); have RA := Lib.hid (blk_below (blk_new2 w2 _ _) hb); have nB := Lib.hid (below_step ((HB.out.alloc HB.out.size _).alloc (HB.out.alloc HB.out.size _).size _) hb); clear HB R1 hb; have HB := nB; have R1 := r1; clear nB r1 MC M)
    | (go_at_call 42; refine (whole_calls _ _).mono ?_; rintro e w4 ⟨rfl, hb⟩; have r1 := Lib.hid (blk_below (blk_alloc R1.out _) hb); have r2 := Lib.hid (blk_below (blk_alloc R2.out _) hb); have ra := Lib.hid (blk_below (blk_alloc RA.out _) hb); have R3 := Lib.hid (blk_below (blk_new w3 _) hb); have nB := Lib.hid (below_step (HB.out.alloc HB.out.size _) hb); clear HB R1 R2 RA hb; have HB := nB; have R1 := r1; have R2 := r2; have RA := ra; clear nB r1 r2 ra)
    | (go_at_call 40; refine (bag_calls (w2.heap.size + 1) (w4.heap.size + 1) 2 2 (one 1) (one 2) (one 2) (one 1) _ _ _ _ _ ⟨_, blk_alloc (blk_alloc RA.out _) _, rfl, rfl⟩ ⟨_, blk_new2 w4 _ _, rfl, rfl⟩ (row_one (blk_alloc (blk_alloc R1.out _) _)) (row_one (blk_alloc (blk_alloc R2.out _) _)) (row_one (blk_alloc (blk_alloc R3.out _) _)) (row_one (blk_alloc (blk_new w4 _) _)) (Nat.le_refl _) (Nat.le_refl _) hold_keep hold_swap (by kernel_rfl) (by kernel_rfl)).mono ?_; rintro e w5 ⟨rfl, hb⟩; have nB := Lib.hid (below_step ((HB.out.alloc HB.out.size _).alloc (HB.out.alloc HB.out.size _).size _) hb); clear HB hb; have HB := nB; clear nB))
  go_ret
  exact ⟨rfl, HB.out⟩
end Go.Proofs.YtepgjdmdogblmaaDoor.Val
