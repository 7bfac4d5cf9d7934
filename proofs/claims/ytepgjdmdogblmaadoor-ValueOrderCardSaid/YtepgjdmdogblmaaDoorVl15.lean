/- Package value and its document: a value is right or not. Condition: utf8's two tables are laid. -/
import Derived.Test.YtepgjdmdogblmaaDoorVl12
import Derived.Test.YtepgjdmdogblmaaDoorShelf2
import Derived.Lib.ValidLaws
namespace Go.Proofs.YtepgjdmdogblmaaDoor.Val
open Go.RowKit Go.Proofs.YtepgjdmdogblmaaDoor.G Go.Proofs.YtepgjdmdogblmaaDoorW.PrintWords Go.Proofs.YtepgjdmdogblmaaDoorW.PrintLast Go.Proofs.YtepgjdmdogblmaaDoorW.PrintMore
set_option linter.unusedVariables false
set_option linter.unusedSimpArgs false
attribute [local go_sem high] eqA27
theorem utf_bad {s : ByteArray} {pos : Nat} (h : pos < s.size) (hr : (Utf8.decode s pos).1 = 65533) :
    (Utf8.decode s pos).2 = 1 ↔ (s.size < pos + 3 ∨ ¬ ((s.get! pos).toNat = 239 ∧ (s.get! (pos + 1)).toNat = 191 ∧ (s.get! (pos + 2)).toNat = 189)) := by
  rw [Lib.decode_at] at hr ⊢
  have k0 := (s.get! pos).toNat_lt
  have k1 := (s.get! (pos + 1)).toNat_lt
  have k2 := (s.get! (pos + 2)).toNat_lt
  have k3 := (s.get! (pos + 3)).toNat_lt
  generalize (s.get! pos).toNat = b0 at *
  generalize (s.get! (pos + 1)).toNat = b1 at *
  generalize (s.get! (pos + 2)).toNat = b2 at *
  generalize (s.get! (pos + 3)).toNat = b3 at *
  obtain ⟨m, hm⟩ : ∃ m, m = s.size - pos := ⟨_, rfl⟩
  rw [← hm] at hr ⊢
  unfold Lib.decodeN at hr ⊢
  split at hr
  · simp only at hr; omega
  · rename_i c0
    rw [if_neg c0]
    split at hr
    · rename_i c1
      rw [if_pos c1]
      split at hr
      · simp only at hr; omega
      · rename_i c2
        rw [if_neg c2]
        simp only [true_iff]
        omega
    · rename_i c1
      rw [if_neg c1]
      split at hr
      · rename_i c2
        rw [if_pos c2]
        split at hr
        · rename_i c3
          rw [if_pos c3]
          simp only at hr ⊢
          have e0 : b0 = 239 := by omega
          have e1 : b1 = 191 := by omega
          have e2 : b2 = 189 := by omega
          subst e0 e1 e2
          omega
        · rename_i c3
          rw [if_neg c3]
          simp only [true_iff]
          by_cases hs : m < 3
          · left; omega
          · right
            rintro ⟨rfl, rfl, rfl⟩
            omega
      · rename_i c2
        rw [if_neg c2]
        split at hr
        · rename_i c3
          rw [if_pos c3]
          split at hr
          · simp only at hr; omega
          · rename_i c4
            rw [if_neg c4]
            simp only [true_iff]
            omega
        · rename_i c3
          rw [if_neg c3]
          simp only [true_iff]
          by_cases hs : m < 3
          · left; omega
          · right
            rintro ⟨rfl, rfl, rfl⟩
            omega
theorem three_of {s : ByteArray} {pos : Nat} (h : pos + 3 ≤ s.size) : ((s.extract pos (pos + 3)).toList == [239, 191, 189]) = decide ((s.get! pos).toNat = 239 ∧ (s.get! (pos + 1)).toNat = 191 ∧ (s.get! (pos + 2)).toNat = 189) := by
  have e : (s.extract pos (pos + 3)).toList = [s.get! pos, s.get! (pos + 1), s.get! (pos + 2)] := by
    rw [ByteArray.toList_eq, ByteArray.data_extract, Array.toList_extract]
    apply List.ext_getElem
    · simp; have : s.data.size = s.size := rfl
      omega
    · intro i h1 h2
      have hs : s.data.size = s.size := rfl
      simp at h2
      simp only [List.getElem_take, List.getElem_drop, List.extract, Array.getElem_toList]
      have g : ∀ j, (hj : j < s.data.size) → s.data[j] = s.get! j := fun j hj => by
        show s.data[j] = s.data[j]!
        rw [getElem!_pos s.data j hj]
      obtain rfl | rfl | rfl : i = 0 ∨ i = 1 ∨ i = 2 := by omega
      · simpa using g _ (by omega)
      · simpa using g _ (by omega)
      · simpa using g _ (by omega)
  rw [e]
  have q : ∀ (x : UInt8) (n : Nat) (hn : n < 256), (x == UInt8.ofNat n) = decide (x.toNat = n) := fun x n hn => by
    rw [Bool.eq_iff_iff]
    simp only [beq_iff_eq, decide_eq_true_eq]
    constructor
    · rintro rfl
      simp; omega
    · intro hx
      subst hx
      simp
  have q0 := q (s.get! pos) 239 (by omega)
  have q1 := q (s.get! (pos + 1)) 191 (by omega)
  have q2 := q (s.get! (pos + 2)) 189 (by omega)
  rw [Bool.eq_iff_iff] at q0 q1 q2 ⊢
  simp only [beq_iff_eq, decide_eq_true_eq, List.cons.injEq, and_true] at q0 q1 q2 ⊢
  rw [← q0, ← q1, ← q2]
  rfl
set_option maxHeartbeats 4000000 in
set_option maxRecDepth 100000 in
theorem utf_calls (s : ByteArray) (w : World) (hs : s.size ≤ 9223372036854775804) : Calls Tryd.prog 47 #[.string s] w fun e w' => e = .returned (.bool (Lib.validD s.data.toList)) ∧ Below w.heap.size w w' := by
  obtain ⟨R, hR⟩ : ∃ R, R = Lib.validD s.data.toList := ⟨_, rfl⟩
  have HR : Hid (R = Lib.validD (s.data.toList.drop 0)) := Lib.hid (by rw [hR]; rfl)
  rw [← hR]
  clear hR
  go_enter Tryd.func47, Tryd.ntmps47
  go_wp2
  go_loopw [] (fun wr => ∃ pos : Nat, wr = w.iter s pos ∧ Hid (R = Lib.validD (s.data.toList.drop pos))) (fun wr => s.size - wr.iterPos w.heap.size)
  case atStart => exact ⟨0, rfl, HR⟩
  case round =>
    clear HR
    obtain ⟨pos, rfl, HE⟩ := hrel
    by_cases hlt : pos < s.size
    · have hw := Lib.width_pos s pos
      have hnx := fun ty => run_next_any (P := Tryd.prog) w s pos ty hlt
      have hl : s.data.toList.length = s.size := by simp
      have hst := HE.out
      rw [Lib.validD_step _ (by intro e; have := congrArg List.length e; simp at this; omega), Lib.decodeL_drop, List.drop_drop] at hst
      clear HE
      have HST := Lib.hid hst
      have HBAD := Lib.hid (fun hr => utf_bad hlt hr)
      clear hst
      obtain ⟨k, hk⟩ : ∃ k, k = (Utf8.decode s pos).2 := ⟨_, rfl⟩
      obtain ⟨r, hr⟩ : ∃ r, r = (Utf8.decode s pos).1 := ⟨_, rfl⟩
      rw [← hk] at hw
      have HK := Lib.hid hk
      have HRR := Lib.hid hr
      have hnx' : ∀ ty, (Instr.next (.pointer (some ⟨w.heap.size, 0, none⟩)) true ty).run Tryd.prog (w.iter s pos) = .ok (.tuple #[.bool true, .int .i64 pos, .int .i32 (r : Int)]) (w.iter s (pos + k)) := by rw [hk, hr]; exact hnx
      clear hnx hk hr
      have hw1 : wrap64 ((pos : Int) + 3) = (pos : Int) + 3 := by unfold wrap64; omega
      have hwr : IntKind.i64.wrap ((pos : Int) + 3) = (pos : Int) + 3 := by rw [IntKind.wrap_i64]; omega
      by_cases c0 : r = 65533
      · have d0 : ((r : Int) == 65533) = true := by rw [c0]; rfl
        have HBD := Lib.hid (HBAD.out (by rw [← HRR.out]; exact c0))
        by_cases c1 : s.size < pos + 3
        · have HX : Hid (R = false) := Lib.hid (by rw [HST.out, if_pos ⟨by rw [← HRR.out]; exact c0, HBD.out.2 (.inl c1)⟩])
          clear HST HBD HBAD HK HRR
          have d1 : decide ((pos : Int) + 3 > s.size) = true := decide_eq_true (by omega)
          go_wp2
          go_ret
          rw [HX.out]
          exact ⟨rfl, (Below.refl _ _).alloc (Nat.le_refl _) _⟩
        · have d1 : decide ((pos : Int) + 3 > s.size) = false := decide_eq_false (by omega)
          have h3 := three_of (s := s) (pos := pos) (by omega)
          have i0 : (0 : Int) ≤ pos := by omega
          have i1 : (pos : Int) ≤ pos + 3 := by omega
          have i2 : (pos : Int) + 3 ≤ s.size := by omega
          have e3 : ((pos : Int) + 3).toNat = pos + 3 := by omega
          have e4 : ((pos : Int)).toNat = pos := by omega
          by_cases c2 : (s.get! pos).toNat = 239 ∧ (s.get! (pos + 1)).toNat = 191 ∧ (s.get! (pos + 2)).toNat = 189
          · rw [decide_eq_true c2] at h3
            have HX : Hid (R = Lib.validD (s.data.toList.drop (pos + k))) := Lib.hid (by
              rw [HST.out, if_neg, ← HK.out]
              rintro ⟨-, q⟩
              rcases HBD.out.1 q with q | q
              · exact c1 q
              · exact q c2)
            clear HST HBD HBAD HK HRR c2
            go_wp2
            exact ⟨⟨pos + k, rfl, HX⟩, by simp; omega⟩
          · rw [decide_eq_false c2] at h3
            have HX : Hid (R = false) := Lib.hid (by rw [HST.out, if_pos ⟨by rw [← HRR.out]; exact c0, HBD.out.2 (.inr c2)⟩])
            clear HST HBD HBAD HK HRR c2
            go_wp2
            go_ret
            rw [HX.out]
            exact ⟨rfl, (Below.refl _ _).alloc (Nat.le_refl _) _⟩
      · have d0 : ((r : Int) == 65533) = false := by simp; omega
        have HX : Hid (R = Lib.validD (s.data.toList.drop (pos + k))) := Lib.hid (by
          rw [HST.out, if_neg, ← HK.out]
          rintro ⟨q, -⟩
          exact c0 (by rw [HRR.out]; exact q))
        clear HST HBAD HK HRR c0
        go_wp2
        exact ⟨⟨pos + k, rfl, HX⟩, by simp; omega⟩
    · have hnx := fun ty => run_next_end (P := Tryd.prog) w s pos ty hlt
      have hl : s.data.toList.length = s.size := by simp
      have HX : Hid (R = true) := Lib.hid (by
        rw [HE.out, List.drop_eq_nil_of_le (by omega)]; exact Lib.validD_nil)
      clear HE
      go_wp2
      go_ret
      rw [HX.out]
      exact ⟨rfl, (Below.refl _ _).alloc (Nat.le_refl _) _⟩
/-- why a value is not right -/
def checkV (k : Int) (b : Bool) (n : Int) (s : ByteArray) : Int :=
  if 4 ≤ k ∨ (k ≠ 1 ∧ b = true) ∨ (k ≠ 2 ∧ n ≠ 0) ∨ (k ≠ 3 ∧ s.size ≠ 0) then 5 else if 256 < s.size then 4 else if Lib.validD s.data.toList = true then 0 else 9
theorem isEmpty_of (s : ByteArray) : s.toList.isEmpty = decide (s.size = 0) := by
  by_cases h : s.size = 0
  · rw [empty_of h]; simp [h]
  · have := nonempty_of h
    rw [decide_eq_false h]
    simpa using this
theorem check5 {k : Int} {b : Bool} {n : Int} {s : ByteArray} (h : 4 ≤ k ∨ (k ≠ 1 ∧ b = true) ∨ (k ≠ 2 ∧ n ≠ 0) ∨ (k ≠ 3 ∧ s.size ≠ 0)) : checkV k b n s = 5 := by unfold checkV; rw [if_pos h]
theorem check4 {k : Int} {b : Bool} {n : Int} {s : ByteArray} (h : ¬ (4 ≤ k ∨ (k ≠ 1 ∧ b = true) ∨ (k ≠ 2 ∧ n ≠ 0) ∨ (k ≠ 3 ∧ s.size ≠ 0))) (h1 : 256 < s.size) : checkV k b n s = 4 := by unfold checkV; rw [if_neg h, if_pos h1]
theorem check9 {k : Int} {b : Bool} {n : Int} {s : ByteArray} (h : ¬ (4 ≤ k ∨ (k ≠ 1 ∧ b = true) ∨ (k ≠ 2 ∧ n ≠ 0) ∨ (k ≠ 3 ∧ s.size ≠ 0))) (h1 : ¬ 256 < s.size) (h2 : Lib.validD s.data.toList = false) : checkV k b n s = 9 := by unfold checkV; rw [if_neg h, if_neg h1, if_neg (by rw [h2]; exact Bool.false_ne_true)]
theorem check0 {k : Int} {b : Bool} {n : Int} {s : ByteArray} (h : ¬ (4 ≤ k ∨ (k ≠ 1 ∧ b = true) ∨ (k ≠ 2 ∧ n ≠ 0) ∨ (k ≠ 3 ∧ s.size ≠ 0))) (h1 : ¬ 256 < s.size) (h2 : Lib.validD s.data.toList = true) : checkV k b n s = 0 := by unfold checkV; rw [if_neg h, if_neg h1, if_pos h2]
set_option maxHeartbeats 4000000 in
set_option maxRecDepth 100000 in
theorem check_calls (k : Int) (b : Bool) (n : Int) (s : ByteArray) (w : World) (hk : 0 ≤ k) (hT : Lib.Utf8Tabs 0 1 w) :
    Calls Tryd.prog 14 #[.agg #[.int .u8 k, .bool b, .int .i64 n, .string s]] w fun e w' => e = .returned (.int .i64 (checkV k b n s)) ∧ Below w.heap.size w w' := by
  have HB := Lib.hid (Below.refl w.heap.size w)
  have HT := Lib.hid hT
  clear hT
  have HE := Lib.hid (isEmpty_of s)
  go_enter Tryd.func14, Tryd.ntmps14
  obtain rfl | rfl | rfl | rfl | h4 : k = 0 ∨ k = 1 ∨ k = 2 ∨ k = 3 ∨ 4 ≤ k := by omega
  · go_wp2_with (first
      | ((with_reducible refine gate_dst (N := 1) rfl ?_); refine box_event ?hg (N := 1) ?hd (cs := #[.int .u8 0, .bool b, .int .i64 n, .string s]) (t := 27) ?hr ?_; (case hd => rfl); (case hg => rfl); (case hr => first | (go_simp; done) | (go_simp; rfl)); intro g1 hg w1 hbx hb; have Eg1 : w.heap.size ≤ g1 := (by rw [hg]; exact HB.out.size); have nHB := Lib.hid (below_step HB.out hb); clear HB; have HB := nHB; have Bg1 := Lib.hid hbx; clear nHB hg hbx hb; have q0 := (blk_cell Bg1.out 0).trans rfl; have q1 := (blk_cell Bg1.out 1).trans rfl; have q2 := (blk_cell Bg1.out 2).trans rfl; have q3 := (blk_cell Bg1.out 3).trans rfl; have l1 := blk_lt Bg1.out)
      | (go_at_call 43; refine (Tryd.utf8_ValidString s _ (by omega) (Utf8Tabs_below HT.out (by first | exact HB.out | exact HB.out.alloc HB.out.size _ | exact (HB.out.alloc HB.out.size _).setCell HB.out.size _))).mono ?_; rintro e w6 ⟨rfl, hb'⟩; have nB := Lib.hid (below_step (by first | exact HB.out | exact HB.out.alloc HB.out.size _ | exact (HB.out.alloc HB.out.size _).setCell HB.out.size _) hb'); clear HB hb'; have HB := nB; clear nB))
    all_goals go_ret
    all_goals simp only [HE.out, Bool.not_eq_true', Bool.not_eq_false', beq_eq_false_iff_ne, beq_iff_eq, decide_eq_true_eq, decide_eq_false_iff_not, ne_eq, Decidable.not_not] at *
    all_goals first
      | (have e : checkV 0 b n s = 5 := check5 (by simp_all); rw [e]; exact ⟨rfl, (by first | exact HB.out | exact HB.out.alloc HB.out.size _ | exact (HB.out.alloc HB.out.size _).setCell HB.out.size _)⟩)
      | (have e : checkV 0 b n s = 4 := check4 (by simp_all) (by omega); rw [e]; exact ⟨rfl, (by first | exact HB.out | exact HB.out.alloc HB.out.size _ | exact (HB.out.alloc HB.out.size _).setCell HB.out.size _)⟩)
      | (have e : checkV 0 b n s = 9 := check9 (by simp_all) (by omega) (by simp_all); rw [e]; exact ⟨rfl, (by first | exact HB.out | exact HB.out.alloc HB.out.size _ | exact (HB.out.alloc HB.out.size _).setCell HB.out.size _)⟩)
      | (have e : checkV 0 b n s = 0 := check0 (by simp_all) (by omega) (by simp_all); rw [e]; exact ⟨rfl, (by first | exact HB.out | exact HB.out.alloc HB.out.size _ | exact (HB.out.alloc HB.out.size _).setCell HB.out.size _)⟩)
  · go_wp2_with (first
      | ((with_reducible refine gate_dst (N := 1) rfl ?_); refine box_event ?hg (N := 1) ?hd (cs := #[.int .u8 1, .bool b, .int .i64 n, .string s]) (t := 27) ?hr ?_; (case hd => rfl); (case hg => rfl); (case hr => first | (go_simp; done) | (go_simp; rfl)); intro g1 hg w1 hbx hb; have Eg1 : w.heap.size ≤ g1 := (by rw [hg]; exact HB.out.size); have nHB := Lib.hid (below_step HB.out hb); clear HB; have HB := nHB; have Bg1 := Lib.hid hbx; clear nHB hg hbx hb; have q0 := (blk_cell Bg1.out 0).trans rfl; have q1 := (blk_cell Bg1.out 1).trans rfl; have q2 := (blk_cell Bg1.out 2).trans rfl; have q3 := (blk_cell Bg1.out 3).trans rfl; have l1 := blk_lt Bg1.out)
      | (go_at_call 43; refine (Tryd.utf8_ValidString s _ (by omega) (Utf8Tabs_below HT.out (by first | exact HB.out | exact HB.out.alloc HB.out.size _ | exact (HB.out.alloc HB.out.size _).setCell HB.out.size _))).mono ?_; rintro e w6 ⟨rfl, hb'⟩; have nB := Lib.hid (below_step (by first | exact HB.out | exact HB.out.alloc HB.out.size _ | exact (HB.out.alloc HB.out.size _).setCell HB.out.size _) hb'); clear HB hb'; have HB := nB; clear nB))
    all_goals go_ret
    all_goals simp only [HE.out, Bool.not_eq_true', Bool.not_eq_false', beq_eq_false_iff_ne, beq_iff_eq, decide_eq_true_eq, decide_eq_false_iff_not, ne_eq, Decidable.not_not] at *
    all_goals first
      | (have e : checkV 1 b n s = 5 := check5 (by simp_all); rw [e]; exact ⟨rfl, (by first | exact HB.out | exact HB.out.alloc HB.out.size _ | exact (HB.out.alloc HB.out.size _).setCell HB.out.size _)⟩)
      | (have e : checkV 1 b n s = 4 := check4 (by simp_all) (by omega); rw [e]; exact ⟨rfl, (by first | exact HB.out | exact HB.out.alloc HB.out.size _ | exact (HB.out.alloc HB.out.size _).setCell HB.out.size _)⟩)
      | (have e : checkV 1 b n s = 9 := check9 (by simp_all) (by omega) (by simp_all); rw [e]; exact ⟨rfl, (by first | exact HB.out | exact HB.out.alloc HB.out.size _ | exact (HB.out.alloc HB.out.size _).setCell HB.out.size _)⟩)
      | (have e : checkV 1 b n s = 0 := check0 (by simp_all) (by omega) (by simp_all); rw [e]; exact ⟨rfl, (by first | exact HB.out | exact HB.out.alloc HB.out.size _ | exact (HB.out.alloc HB.out.size _).setCell HB.out.size _)⟩)
  · go_wp2_with (first
      | ((with_reducible refine gate_dst (N := 1) rfl ?_); refine box_event ?hg (N := 1) ?hd (cs := #[.int .u8 2, .bool b, .int .i64 n, .string s]) (t := 27) ?hr ?_; (case hd => rfl); (case hg => rfl); (case hr => first | (go_simp; done) | (go_simp; rfl)); intro g1 hg w1 hbx hb; have Eg1 : w.heap.size ≤ g1 := (by rw [hg]; exact HB.out.size); have nHB := Lib.hid (below_step HB.out hb); clear HB; have HB := nHB; have Bg1 := Lib.hid hbx; clear nHB hg hbx hb; have q0 := (blk_cell Bg1.out 0).trans rfl; have q1 := (blk_cell Bg1.out 1).trans rfl; have q2 := (blk_cell Bg1.out 2).trans rfl; have q3 := (blk_cell Bg1.out 3).trans rfl; have l1 := blk_lt Bg1.out)
      | (go_at_call 43; refine (Tryd.utf8_ValidString s _ (by omega) (Utf8Tabs_below HT.out (by first | exact HB.out | exact HB.out.alloc HB.out.size _ | exact (HB.out.alloc HB.out.size _).setCell HB.out.size _))).mono ?_; rintro e w6 ⟨rfl, hb'⟩; have nB := Lib.hid (below_step (by first | exact HB.out | exact HB.out.alloc HB.out.size _ | exact (HB.out.alloc HB.out.size _).setCell HB.out.size _) hb'); clear HB hb'; have HB := nB; clear nB))
    all_goals go_ret
    all_goals simp only [HE.out, Bool.not_eq_true', Bool.not_eq_false', beq_eq_false_iff_ne, beq_iff_eq, decide_eq_true_eq, decide_eq_false_iff_not, ne_eq, Decidable.not_not] at *
    all_goals first
      | (have e : checkV 2 b n s = 5 := check5 (by simp_all); rw [e]; exact ⟨rfl, (by first | exact HB.out | exact HB.out.alloc HB.out.size _ | exact (HB.out.alloc HB.out.size _).setCell HB.out.size _)⟩)
      | (have e : checkV 2 b n s = 4 := check4 (by simp_all) (by omega); rw [e]; exact ⟨rfl, (by first | exact HB.out | exact HB.out.alloc HB.out.size _ | exact (HB.out.alloc HB.out.size _).setCell HB.out.size _)⟩)
      | (have e : checkV 2 b n s = 9 := check9 (by simp_all) (by omega) (by simp_all); rw [e]; exact ⟨rfl, (by first | exact HB.out | exact HB.out.alloc HB.out.size _ | exact (HB.out.alloc HB.out.size _).setCell HB.out.size _)⟩)
      | (have e : checkV 2 b n s = 0 := check0 (by simp_all) (by omega) (by simp_all); rw [e]; exact ⟨rfl, (by first | exact HB.out | exact HB.out.alloc HB.out.size _ | exact (HB.out.alloc HB.out.size _).setCell HB.out.size _)⟩)
  · go_wp2_with (first
      | ((with_reducible refine gate_dst (N := 1) rfl ?_); refine box_event ?hg (N := 1) ?hd (cs := #[.int .u8 3, .bool b, .int .i64 n, .string s]) (t := 27) ?hr ?_; (case hd => rfl); (case hg => rfl); (case hr => first | (go_simp; done) | (go_simp; rfl)); intro g1 hg w1 hbx hb; have Eg1 : w.heap.size ≤ g1 := (by rw [hg]; exact HB.out.size); have nHB := Lib.hid (below_step HB.out hb); clear HB; have HB := nHB; have Bg1 := Lib.hid hbx; clear nHB hg hbx hb; have q0 := (blk_cell Bg1.out 0).trans rfl; have q1 := (blk_cell Bg1.out 1).trans rfl; have q2 := (blk_cell Bg1.out 2).trans rfl; have q3 := (blk_cell Bg1.out 3).trans rfl; have l1 := blk_lt Bg1.out)
      | (go_at_call 43; refine (Tryd.utf8_ValidString s _ (by omega) (Utf8Tabs_below HT.out (by first | exact HB.out | exact HB.out.alloc HB.out.size _ | exact (HB.out.alloc HB.out.size _).setCell HB.out.size _))).mono ?_; rintro e w6 ⟨rfl, hb'⟩; have nB := Lib.hid (below_step (by first | exact HB.out | exact HB.out.alloc HB.out.size _ | exact (HB.out.alloc HB.out.size _).setCell HB.out.size _) hb'); clear HB hb'; have HB := nB; clear nB))
    all_goals go_ret
    all_goals simp only [HE.out, Bool.not_eq_true', Bool.not_eq_false', beq_eq_false_iff_ne, beq_iff_eq, decide_eq_true_eq, decide_eq_false_iff_not, ne_eq, Decidable.not_not] at *
    all_goals first
      | (have e : checkV 3 b n s = 5 := check5 (by simp_all); rw [e]; exact ⟨rfl, (by first | exact HB.out | exact HB.out.alloc HB.out.size _ | exact (HB.out.alloc HB.out.size _).setCell HB.out.size _)⟩)
      | (have e : checkV 3 b n s = 4 := check4 (by simp_all) (by omega); rw [e]; exact ⟨rfl, (by first | exact HB.out | exact HB.out.alloc HB.out.size _ | exact (HB.out.alloc HB.out.size _).setCell HB.out.size _)⟩)
      | (have e : checkV 3 b n s = 9 := check9 (by simp_all) (by omega) (by simp_all); rw [e]; exact ⟨rfl, (by first | exact HB.out | exact HB.out.alloc HB.out.size _ | exact (HB.out.alloc HB.out.size _).setCell HB.out.size _)⟩)
      | (have e : checkV 3 b n s = 0 := check0 (by simp_all) (by omega) (by simp_all); rw [e]; exact ⟨rfl, (by first | exact HB.out | exact HB.out.alloc HB.out.size _ | exact (HB.out.alloc HB.out.size _).setCell HB.out.size _)⟩)
  · have n0 : (k == 0) = false := by simp; omega
    have n1 : (k == 1) = false := by simp; omega
    have n2 : (k == 2) = false := by simp; omega
    have n3 : (k == 3) = false := by simp; omega
    have e : checkV k b n s = 5 := check5 (.inl h4)
    rw [e]
    clear e
    go_wp2_with (first
      | ((with_reducible refine gate_dst (N := 1) rfl ?_); refine box_event ?hg (N := 1) ?hd (cs := #[.int .u8 k, .bool b, .int .i64 n, .string s]) (t := 27) ?hr ?_; (case hd => rfl); (case hg => rfl); (case hr => first | (go_simp; done) | (go_simp; rfl)); intro g1 hg w1 hbx hb; have Eg1 : w.heap.size ≤ g1 := (by rw [hg]; exact HB.out.size); have nHB := Lib.hid (below_step HB.out hb); clear HB; have HB := nHB; have Bg1 := Lib.hid hbx; clear nHB hg hbx hb; have q0 := (blk_cell Bg1.out 0).trans rfl; have q1 := (blk_cell Bg1.out 1).trans rfl; have q2 := (blk_cell Bg1.out 2).trans rfl; have q3 := (blk_cell Bg1.out 3).trans rfl; have l1 := blk_lt Bg1.out))
    go_ret
    exact ⟨rfl, (by first | exact HB.out | exact HB.out.alloc HB.out.size _ | exact (HB.out.alloc HB.out.size _).setCell HB.out.size _)⟩
set_option maxHeartbeats 4000000 in
set_option maxRecDepth 100000 in
theorem rcheck_calls (k : Int) (b : Bool) (n : Int) (s : ByteArray) (w : World) :
    Calls Tryd.prog 19 #[.agg #[.int .u8 k, .bool b, .int .i64 n, .string s]] w fun e w' => e = .returned (.int .i64 (checkV k b n s)) ∧ Below w.heap.size w w' := by
  have HB := Lib.hid (Below.refl w.heap.size w)
  have HE := Lib.hid (isEmpty_of s)
  go_enter Tryd.func19, Tryd.ntmps19
  go_wp2_with (first
      | ((with_reducible refine gate_dst (N := 1) rfl ?_); refine box_event ?hg (N := 1) ?hd (cs := #[.int .u8 k, .bool b, .int .i64 n, .string s]) (t := 27) ?hr ?_; (case hd => rfl); (case hg => rfl); (case hr => first | (go_simp; done) | (go_simp; rfl)); intro g1 hg w1 hbx hb; have Eg1 : w.heap.size ≤ g1 := (by rw [hg]; exact HB.out.size); have nHB := Lib.hid (below_step HB.out hb); clear HB; have HB := nHB; have Bg1 := Lib.hid hbx; clear nHB hg hbx hb; have q0 := (blk_cell Bg1.out 0).trans rfl; have q1 := (blk_cell Bg1.out 1).trans rfl; have q2 := (blk_cell Bg1.out 2).trans rfl; have q3 := (blk_cell Bg1.out 3).trans rfl; have l1 := blk_lt Bg1.out)
      | (go_at_call 47; refine (utf_calls s _ (by omega)).mono ?_; rintro e w6 ⟨rfl, hb'⟩; have nB := Lib.hid (below_step HB.out hb'); clear HB hb'; have HB := nB; clear nB))
  all_goals go_ret
  all_goals simp only [HE.out, Bool.not_eq_true', Bool.not_eq_false', beq_eq_false_iff_ne, beq_iff_eq, decide_eq_true_eq, decide_eq_false_iff_not, ne_eq, Decidable.not_not] at *
  all_goals first
    | (have e : checkV k b n s = 5 := check5 (by first | omega | (simp_all; done) | (simp_all; omega) | (cases b <;> simp_all <;> omega)); rw [e]; exact ⟨rfl, HB.out⟩)
    | (have e : checkV k b n s = 4 := check4 (by first | omega | (simp_all; done) | (simp_all; omega) | (cases b <;> simp_all <;> omega)) (by omega); rw [e]; exact ⟨rfl, HB.out⟩)
    | (have e : checkV k b n s = 9 := check9 (by first | omega | (simp_all; done) | (simp_all; omega) | (cases b <;> simp_all <;> omega)) (by omega) (by simp_all); rw [e]; exact ⟨rfl, HB.out⟩)
    | (have e : checkV k b n s = 0 := check0 (by first | omega | (simp_all; done) | (simp_all; omega) | (cases b <;> simp_all <;> omega)) (by omega) (by simp_all); rw [e]; exact ⟨rfl, HB.out⟩)
end Go.Proofs.YtepgjdmdogblmaaDoor.Val
