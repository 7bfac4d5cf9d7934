/- Package value and its document: Check, Utf, Hash, name, CheckCols (the texts of seat 01, their numbers turned). Conditions: utf8's two tables are laid; texts have at most 2^63 - 1 bytes. -/
import Derived.Test.YtfgmgcnbponknaaDoorVb0
import Derived.Test.YtfgmgcnbponknaaDoorShelf2
import Derived.Test.YtfgmgcnbponknaaDoorLp1
import Derived.Lib.ValidLaws
import Derived.Lib.UnsafeStr
import Derived.Lib.OthersKept
namespace Go.Proofs.YtfgmgcnbponknaaDoor.Val
open Go.RowKit Go.Proofs.YtfgmgcnbponknaaDoor.G Go.Proofs.YtfgmgcnbponknaaDoor.Lx Go.Proofs.YtfgmgcnbponknaaDoorW.PrintWords Go.Proofs.YtfgmgcnbponknaaDoorW.PrintLast Go.Proofs.YtfgmgcnbponknaaDoorW.PrintMore
set_option linter.unusedVariables false
set_option linter.unusedSimpArgs false
attribute [local go_sem high] eqA38
theorem utf_bad {s : ByteArray} {pos : Nat} (h : pos < s.size) (hr : (Utf8.decode s pos).1 = 65533) :
    (Utf8.decode s pos).2 = 1 ↔ (s.size < pos + 3 ∨ ¬ ((s.get! pos).toNat = 239 ∧ (s.get! (pos + 1)).toNat = 191 ∧ (s.get! (pos + 2)).toNat = 189)) := by
  rw [Lib.decode_at] at hr ⊢
  have k0 := (s.get! pos).toNat_lt
  have k1 := (s.get! (pos + 1)).toNat_lt
  have k2 := (s.get! (pos + 2)).toNat_lt
  have k3 := (s.get! (pos + 3)).toNat_lt
  generalize (s.get! pos).toNat = b0 at *
  generalize (s.get! (pos + 1)).toNat = b1 at *
  generalize (s.get! (pos + 2)).toNat = b2 at *
  generalize (s.get! (pos + 3)).toNat = b3 at *
  obtain ⟨m, hm⟩ : ∃ m, m = s.size - pos := ⟨_, rfl⟩
  rw [← hm] at hr ⊢
  unfold Lib.decodeN at hr ⊢
  split at hr
  · simp only at hr; omega
  · rename_i c0
    rw [if_neg c0]
    split at hr
    · rename_i c1
      rw [if_pos c1]
      split at hr
      · simp only at hr; omega
      · rename_i c2
        rw [if_neg c2]
        simp only [true_iff]
        omega
    · rename_i c1
      rw [if_neg c1]
      split at hr
      · rename_i c2
        rw [if_pos c2]
        split at hr
        · rename_i c3
          rw [if_pos c3]
          simp only at hr ⊢
          have e0 : b0 = 239 := by omega
          have e1 : b1 = 191 := by omega
          have e2 : b2 = 189 := by omega
          subst e0 e1 e2
          omega
        · rename_i c3
          rw [if_neg c3]
          simp only [true_iff]
          by_cases hs : m < 3
          · left; omega
          · right
            rintro ⟨rfl, rfl, rfl⟩
            omega
      · rename_i c2
        rw [if_neg c2]
        split at hr
        · rename_i c3
          rw [if_pos c3]
          split at hr
          · simp only at hr; omega
          · rename_i c4
            rw [if_neg c4]
            simp only [true_iff]
            omega
        · rename_i c3
          rw [if_neg c3]
          simp only [true_iff]
          by_cases hs : m < 3
          · left; omega
          · right
            rintro ⟨rfl, rfl, rfl⟩
            omega
theorem three_of {s : ByteArray} {pos : Nat} (h : pos + 3 ≤ s.size) : ((s.extract pos (pos + 3)).toList == [239, 191, 189]) = decide ((s.get! pos).toNat = 239 ∧ (s.get! (pos + 1)).toNat = 191 ∧ (s.get! (pos + 2)).toNat = 189) := by
  have e : (s.extract pos (pos + 3)).toList = [s.get! pos, s.get! (pos + 1), s.get! (pos + 2)] := by
    rw [ByteArray.toList_eq, ByteArray.data_extract, Array.toList_extract]
    apply List.ext_getElem
    · simp; have : s.data.size = s.size := rfl
      omega
    · intro i h1 h2
      have hs : s.data.size = s.size := rfl
      simp at h2
      simp only [List.getElem_take, List.getElem_drop, List.extract, Array.getElem_toList]
      have g : ∀ j, (hj : j < s.data.size) → s.data[j] = s.get! j := fun j hj => by
        show s.data[j] = s.data[j]!
        rw [getElem!_pos s.data j hj]
      obtain rfl | rfl | rfl : i = 0 ∨ i = 1 ∨ i = 2 := by omega
      · simpa using g _ (by omega)
      · simpa using g _ (by omega)
      · simpa using g _ (by omega)
  rw [e]
  have q : ∀ (x : UInt8) (n : Nat) (hn : n < 256), (x == UInt8.ofNat n) = decide (x.toNat = n) := fun x n hn => by
    rw [Bool.eq_iff_iff]
    simp only [beq_iff_eq, decide_eq_true_eq]
    constructor
    · rintro rfl
      simp; omega
    · intro hx
      subst hx
      simp
  have q0 := q (s.get! pos) 239 (by omega)
  have q1 := q (s.get! (pos + 1)) 191 (by omega)
  have q2 := q (s.get! (pos + 2)) 189 (by omega)
  rw [Bool.eq_iff_iff] at q0 q1 q2 ⊢
  simp only [beq_iff_eq, decide_eq_true_eq, List.cons.injEq, and_true] at q0 q1 q2 ⊢
  rw [← q0, ← q1, ← q2]
  rfl
set_option maxHeartbeats 4000000 in
set_option maxRecDepth 100000 in
theorem utf_calls (s : ByteArray) (w : World) (hs : s.size ≤ 9223372036854775804) : Calls Tryd.prog 85 #[.string s] w fun e w' => e = .returned (.bool (Lib.validD s.data.toList)) ∧ Below w.heap.size w w' := by
  obtain ⟨R, hR⟩ : ∃ R, R = Lib.validD s.data.toList := ⟨_, rfl⟩
  have HR : Hid (R = Lib.validD (s.data.toList.drop 0)) := Lib.hid (by rw [hR]; rfl)
  rw [← hR]
  clear hR
  go_enter Tryd.func85, Tryd.ntmps85
  go_wp2
  go_loopw [] (fun wr => ∃ pos : Nat, wr = w.iter s pos ∧ Hid (R = Lib.validD (s.data.toList.drop pos))) (fun wr => s.size - wr.iterPos w.heap.size)
  case atStart => exact ⟨0, rfl, HR⟩
  case round =>
    clear HR
    obtain ⟨pos, rfl, HE⟩ := hrel
    by_cases hlt : pos < s.size
    · have hw := Lib.width_pos s pos
      have hnx := fun ty => run_next_any (P := Tryd.prog) w s pos ty hlt
      have hl : s.data.toList.length = s.size := by simp
      have hst := HE.out
      rw [Lib.validD_step _ (by intro e; have := congrArg List.length e; simp at this; omega), Lib.decodeL_drop, List.drop_drop] at hst
      clear HE
      have HST := Lib.hid hst
      have HBAD := Lib.hid (fun hr => utf_bad hlt hr)
      clear hst
      obtain ⟨k, hk⟩ : ∃ k, k = (Utf8.decode s pos).2 := ⟨_, rfl⟩
      obtain ⟨r, hr⟩ : ∃ r, r = (Utf8.decode s pos).1 := ⟨_, rfl⟩
      rw [← hk] at hw
      have HK := Lib.hid hk
      have HRR := Lib.hid hr
      have hnx' : ∀ ty, (Instr.next (.pointer (some ⟨w.heap.size, 0, none⟩)) true ty).run Tryd.prog (w.iter s pos) = .ok (.tuple #[.bool true, .int .i64 pos, .int .i32 (r : Int)]) (w.iter s (pos + k)) := by rw [hk, hr]; exact hnx
      clear hnx hk hr
      have hw1 : wrap64 ((pos : Int) + 3) = (pos : Int) + 3 := by unfold wrap64; omega
      have hwr : IntKind.i64.wrap ((pos : Int) + 3) = (pos : Int) + 3 := by rw [IntKind.wrap_i64]; omega
      by_cases c0 : r = 65533
      · have d0 : ((r : Int) == 65533) = true := by rw [c0]; rfl
        have HBD := Lib.hid (HBAD.out (by rw [← HRR.out]; exact c0))
        by_cases c1 : s.size < pos + 3
        · have HX : Hid (R = false) := Lib.hid (by rw [HST.out, if_pos ⟨by rw [← HRR.out]; exact c0, HBD.out.2 (.inl c1)⟩])
          clear HST HBD HBAD HK HRR
          have d1 : decide ((pos : Int) + 3 > s.size) = true := decide_eq_true (by omega)
          go_wp2
          go_ret
          rw [HX.out]
          exact ⟨rfl, (Below.refl _ _).alloc (Nat.le_refl _) _⟩
        · have d1 : decide ((pos : Int) + 3 > s.size) = false := decide_eq_false (by omega)
          have h3 := three_of (s := s) (pos := pos) (by omega)
          have i0 : (0 : Int) ≤ pos := by omega
          have i1 : (pos : Int) ≤ pos + 3 := by omega
          have i2 : (pos : Int) + 3 ≤ s.size := by omega
          have e3 : ((pos : Int) + 3).toNat = pos + 3 := by omega
          have e4 : ((pos : Int)).toNat = pos := by omega
          by_cases c2 : (s.get! pos).toNat = 239 ∧ (s.get! (pos + 1)).toNat = 191 ∧ (s.get! (pos + 2)).toNat = 189
          · rw [decide_eq_true c2] at h3
            have HX : Hid (R = Lib.validD (s.data.toList.drop (pos + k))) := Lib.hid (by
              rw [HST.out, if_neg, ← HK.out]
              rintro ⟨-, q⟩
              rcases HBD.out.1 q with q | q
              · exact c1 q
              · exact q c2)
            clear HST HBD HBAD HK HRR c2
            go_wp2
            exact ⟨⟨pos + k, rfl, HX⟩, by simp; omega⟩
          · rw [decide_eq_false c2] at h3
            have HX : Hid (R = false) := Lib.hid (by rw [HST.out, if_pos ⟨by rw [← HRR.out]; exact c0, HBD.out.2 (.inr c2)⟩])
            clear HST HBD HBAD HK HRR c2
            go_wp2
            go_ret
            rw [HX.out]
            exact ⟨rfl, (Below.refl _ _).alloc (Nat.le_refl _) _⟩
      · have d0 : ((r : Int) == 65533) = false := by simp; omega
        have HX : Hid (R = Lib.validD (s.data.toList.drop (pos + k))) := Lib.hid (by
          rw [HST.out, if_neg, ← HK.out]
          rintro ⟨q, -⟩
          exact c0 (by rw [HRR.out]; exact q))
        clear HST HBAD HK HRR c0
        go_wp2
        exact ⟨⟨pos + k, rfl, HX⟩, by simp; omega⟩
    · have hnx := fun ty => run_next_end (P := Tryd.prog) w s pos ty hlt
      have hl : s.data.toList.length = s.size := by simp
      have HX : Hid (R = true) := Lib.hid (by
        rw [HE.out, List.drop_eq_nil_of_le (by omega)]; exact Lib.validD_nil)
      clear HE
      go_wp2
      go_ret
      rw [HX.out]
      exact ⟨rfl, (Below.refl _ _).alloc (Nat.le_refl _) _⟩
/-- why a value is not right -/
def checkV (k : Int) (b : Bool) (n : Int) (s : ByteArray) : Int :=
  if 4 ≤ k ∨ (k ≠ 1 ∧ b = true) ∨ (k ≠ 2 ∧ n ≠ 0) ∨ (k ≠ 3 ∧ s.size ≠ 0) then 5 else if 256 < s.size then 4 else if Lib.validD s.data.toList = true then 0 else 9
theorem isEmpty_of (s : ByteArray) : s.toList.isEmpty = decide (s.size = 0) := by
  by_cases h : s.size = 0
  · rw [empty_of h]; simp [h]
  · have := nonempty_of h
    rw [decide_eq_false h]
    simpa using this
theorem check5 {k : Int} {b : Bool} {n : Int} {s : ByteArray} (h : 4 ≤ k ∨ (k ≠ 1 ∧ b = true) ∨ (k ≠ 2 ∧ n ≠ 0) ∨ (k ≠ 3 ∧ s.size ≠ 0)) : checkV k b n s = 5 := by unfold checkV; rw [if_pos h]
theorem check4 {k : Int} {b : Bool} {n : Int} {s : ByteArray} (h : ¬ (4 ≤ k ∨ (k ≠ 1 ∧ b = true) ∨ (k ≠ 2 ∧ n ≠ 0) ∨ (k ≠ 3 ∧ s.size ≠ 0))) (h1 : 256 < s.size) : checkV k b n s = 4 := by unfold checkV; rw [if_neg h, if_pos h1]
theorem check9 {k : Int} {b : Bool} {n : Int} {s : ByteArray} (h : ¬ (4 ≤ k ∨ (k ≠ 1 ∧ b = true) ∨ (k ≠ 2 ∧ n ≠ 0) ∨ (k ≠ 3 ∧ s.size ≠ 0))) (h1 : ¬ 256 < s.size) (h2 : Lib.validD s.data.toList = false) : checkV k b n s = 9 := by unfold checkV; rw [if_neg h, if_neg h1, if_neg (by rw [h2]; exact Bool.false_ne_true)]
theorem check0 {k : Int} {b : Bool} {n : Int} {s : ByteArray} (h : ¬ (4 ≤ k ∨ (k ≠ 1 ∧ b = true) ∨ (k ≠ 2 ∧ n ≠ 0) ∨ (k ≠ 3 ∧ s.size ≠ 0))) (h1 : ¬ 256 < s.size) (h2 : Lib.validD s.data.toList = true) : checkV k b n s = 0 := by unfold checkV; rw [if_neg h, if_neg h1, if_pos h2]
set_option maxHeartbeats 4000000 in
set_option maxRecDepth 100000 in
theorem check_calls (k : Int) (b : Bool) (n : Int) (s : ByteArray) (w : World) (hk : 0 ≤ k) (hT : Lib.Utf8Tabs 0 1 w) :
    Calls Tryd.prog 72 #[.agg #[.int .u8 k, .bool b, .int .i64 n, .string s]] w fun e w' => e = .returned (.int .i64 (checkV k b n s)) ∧ Below w.heap.size w w' := by
  have HB := Lib.hid (Below.refl w.heap.size w)
  have HT := Lib.hid hT
  clear hT
  have HE := Lib.hid (isEmpty_of s)
  go_enter Tryd.func72, Tryd.ntmps72
  obtain rfl | rfl | rfl | rfl | h4 : k = 0 ∨ k = 1 ∨ k = 2 ∨ k = 3 ∨ 4 ≤ k := by omega
  · go_wp2_with (first
      | ((with_reducible refine gate_dst (N := 1) rfl ?_); refine box_event ?hg (N := 1) ?hd (cs := #[.int .u8 0, .bool b, .int .i64 n, .string s]) (t := 38) ?hr ?_; (case hd => rfl); (case hg => rfl); (case hr => first | (go_simp; done) | (go_simp; rfl)); intro g1 hg w1 hbx hb; have Eg1 : w.heap.size ≤ g1 := (by rw [hg]; exact HB.out.size); have nHB := Lib.hid (below_step HB.out hb); clear HB; have HB := nHB; have Bg1 := Lib.hid hbx; clear nHB hg hbx hb; have q0 := (blk_cell Bg1.out 0).trans rfl; have q1 := (blk_cell Bg1.out 1).trans rfl; have q2 := (blk_cell Bg1.out 2).trans rfl; have q3 := (blk_cell Bg1.out 3).trans rfl; have l1 := blk_lt Bg1.out)
      | (go_at_call 69; refine (Tryd.utf8_ValidString s _ (by omega) (Utf8Tabs_below HT.out (by first | exact HB.out | exact HB.out.alloc HB.out.size _ | exact (HB.out.alloc HB.out.size _).setCell HB.out.size _))).mono ?_; rintro e w6 ⟨rfl, hb'⟩; have nB := Lib.hid (below_step (by first | exact HB.out | exact HB.out.alloc HB.out.size _ | exact (HB.out.alloc HB.out.size _).setCell HB.out.size _) hb'); clear HB hb'; have HB := nB; clear nB))
    all_goals go_ret
    all_goals simp only [HE.out, Bool.not_eq_true', Bool.not_eq_false', beq_eq_false_iff_ne, beq_iff_eq, decide_eq_true_eq, decide_eq_false_iff_not, ne_eq, Decidable.not_not] at *
    all_goals first
      | (have e : checkV 0 b n s = 5 := check5 (by simp_all); rw [e]; exact ⟨rfl, (by first | exact HB.out | exact HB.out.alloc HB.out.size _ | exact (HB.out.alloc HB.out.size _).setCell HB.out.size _)⟩)
      | (have e : checkV 0 b n s = 4 := check4 (by simp_all) (by omega); rw [e]; exact ⟨rfl, (by first | exact HB.out | exact HB.out.alloc HB.out.size _ | exact (HB.out.alloc HB.out.size _).setCell HB.out.size _)⟩)
      | (have e : checkV 0 b n s = 9 := check9 (by simp_all) (by omega) (by simp_all); rw [e]; exact ⟨rfl, (by first | exact HB.out | exact HB.out.alloc HB.out.size _ | exact (HB.out.alloc HB.out.size _).setCell HB.out.size _)⟩)
      | (have e : checkV 0 b n s = 0 := check0 (by simp_all) (by omega) (by simp_all); rw [e]; exact ⟨rfl, (by first | exact HB.out | exact HB.out.alloc HB.out.size _ | exact (HB.out.alloc HB.out.size _).setCell HB.out.size _)⟩)
  · go_wp2_with (first
      | ((with_reducible refine gate_dst (N := 1) rfl ?_); refine box_event ?hg (N := 1) ?hd (cs := #[.int .u8 1, .bool b, .int .i64 n, .string s]) (t := 38) ?hr ?_; (case hd => rfl); (case hg => rfl); (case hr => first | (go_simp; done) | (go_simp; rfl)); intro g1 hg w1 hbx hb; have Eg1 : w.heap.size ≤ g1 := (by rw [hg]; exact HB.out.size); have nHB := Lib.hid (below_step HB.out hb); clear HB; have HB := nHB; have Bg1 := Lib.hid hbx; clear nHB hg hbx hb; have q0 := (blk_cell Bg1.out 0).trans rfl; have q1 := (blk_cell Bg1.out 1).trans rfl; have q2 := (blk_cell Bg1.out 2).trans rfl; have q3 := (blk_cell Bg1.out 3).trans rfl; have l1 := blk_lt Bg1.out)
      | (go_at_call 69; refine (Tryd.utf8_ValidString s _ (by omega) (Utf8Tabs_below HT.out (by first | exact HB.out | exact HB.out.alloc HB.out.size _ | exact (HB.out.alloc HB.out.size _).setCell HB.out.size _))).mono ?_; rintro e w6 ⟨rfl, hb'⟩; have nB := Lib.hid (below_step (by first | exact HB.out | exact HB.out.alloc HB.out.size _ | exact (HB.out.alloc HB.out.size _).setCell HB.out.size _) hb'); clear HB hb'; have HB := nB; clear nB))
    all_goals go_ret
    all_goals simp only [HE.out, Bool.not_eq_true', Bool.not_eq_false', beq_eq_false_iff_ne, beq_iff_eq, decide_eq_true_eq, decide_eq_false_iff_not, ne_eq, Decidable.not_not] at *
    all_goals first
      | (have e : checkV 1 b n s = 5 := check5 (by simp_all); rw [e]; exact ⟨rfl, (by first | exact HB.out | exact HB.out.alloc HB.out.size _ | exact (HB.out.alloc HB.out.size _).setCell HB.out.size _)⟩)
      | (have e : checkV 1 b n s = 4 := check4 (by simp_all) (by omega); rw [e]; exact ⟨rfl, (by first | exact HB.out | exact HB.out.alloc HB.out.size _ | exact (HB.out.alloc HB.out.size _).setCell HB.out.size _)⟩)
      | (have e : checkV 1 b n s = 9 := check9 (by simp_all) (by omega) (by simp_all); rw [e]; exact ⟨rfl, (by first | exact HB.out | exact HB.out.alloc HB.out.size _ | exact (HB.out.alloc HB.out.size _).setCell HB.out.size _)⟩)
      | (have e : checkV 1 b n s = 0 := check0 (by simp_all) (by omega) (by simp_all); rw [e]; exact ⟨rfl, (by first | exact HB.out | exact HB.out.alloc HB.out.size _ | exact (HB.out.alloc HB.out.size _).setCell HB.out.size _)⟩)
  · go_wp2_with (first
      | ((with_reducible refine gate_dst (N := 1) rfl ?_); refine box_event ?hg (N := 1) ?hd (cs := #[.int .u8 2, .bool b, .int .i64 n, .string s]) (t := 38) ?hr ?_; (case hd => rfl); (case hg => rfl); (case hr => first | (go_simp; done) | (go_simp; rfl)); intro g1 hg w1 hbx hb; have Eg1 : w.heap.size ≤ g1 := (by rw [hg]; exact HB.out.size); have nHB := Lib.hid (below_step HB.out hb); clear HB; have HB := nHB; have Bg1 := Lib.hid hbx; clear nHB hg hbx hb; have q0 := (blk_cell Bg1.out 0).trans rfl; have q1 := (blk_cell Bg1.out 1).trans rfl; have q2 := (blk_cell Bg1.out 2).trans rfl; have q3 := (blk_cell Bg1.out 3).trans rfl; have l1 := blk_lt Bg1.out)
      | (go_at_call 69; refine (Tryd.utf8_ValidString s _ (by omega) (Utf8Tabs_below HT.out (by first | exact HB.out | exact HB.out.alloc HB.out.size _ | exact (HB.out.alloc HB.out.size _).setCell HB.out.size _))).mono ?_; rintro e w6 ⟨rfl, hb'⟩; have nB := Lib.hid (below_step (by first | exact HB.out | exact HB.out.alloc HB.out.size _ | exact (HB.out.alloc HB.out.size _).setCell HB.out.size _) hb'); clear HB hb'; have HB := nB; clear nB))
    all_goals go_ret
    all_goals simp only [HE.out, Bool.not_eq_true', Bool.not_eq_false', beq_eq_false_iff_ne, beq_iff_eq, decide_eq_true_eq, decide_eq_false_iff_not, ne_eq, Decidable.not_not] at *
    all_goals first
      | (have e : checkV 2 b n s = 5 := check5 (by simp_all); rw [e]; exact ⟨rfl, (by first | exact HB.out | exact HB.out.alloc HB.out.size _ | exact (HB.out.alloc HB.out.size _).setCell HB.out.size _)⟩)
      | (have e : checkV 2 b n s = 4 := check4 (by simp_all) (by omega); rw [e]; exact ⟨rfl, (by first | exact HB.out | exact HB.out.alloc HB.out.size _ | exact (HB.out.alloc HB.out.size _).setCell HB.out.size _)⟩)
      | (have e : checkV 2 b n s = 9 := check9 (by simp_all) (by omega) (by simp_all); rw [e]; exact ⟨rfl, (by first | exact HB.out | exact HB.out.alloc HB.out.size _ | exact (HB.out.alloc HB.out.size _).setCell HB.out.size _)⟩)
      | (have e : checkV 2 b n s = 0 := check0 (by simp_all) (by omega) (by simp_all); rw [e]; exact ⟨rfl, (by first | exact HB.out | exact HB.out.alloc HB.out.size _ | exact (HB.out.alloc HB.out.size _).setCell HB.out.size _)⟩)
  · go_wp2_with (first
      | ((with_reducible refine gate_dst (N := 1) rfl ?_); refine box_event ?hg (N := 1) ?hd (cs := #[.int .u8 3, .bool b, .int .i64 n, .string s]) (t := 38) ?hr ?_; (case hd => rfl); (case hg => rfl); (case hr => first | (go_simp; done) | (go_simp; rfl)); intro g1 hg w1 hbx hb; have Eg1 : w.heap.size ≤ g1 := (by rw [hg]; exact HB.out.size); have nHB := Lib.hid (below_step HB.out hb); clear HB; have HB := nHB; have Bg1 := Lib.hid hbx; clear nHB hg hbx hb; have q0 := (blk_cell Bg1.out 0).trans rfl; have q1 := (blk_cell Bg1.out 1).trans rfl; have q2 := (blk_cell Bg1.out 2).trans rfl; have q3 := (blk_cell Bg1.out 3).trans rfl; have l1 := blk_lt Bg1.out)
      | (go_at_call 69; refine (Tryd.utf8_ValidString s _ (by omega) (Utf8Tabs_below HT.out (by first | exact HB.out | exact HB.out.alloc HB.out.size _ | exact (HB.out.alloc HB.out.size _).setCell HB.out.size _))).mono ?_; rintro e w6 ⟨rfl, hb'⟩; have nB := Lib.hid (below_step (by first | exact HB.out | exact HB.out.alloc HB.out.size _ | exact (HB.out.alloc HB.out.size _).setCell HB.out.size _) hb'); clear HB hb'; have HB := nB; clear nB))
    all_goals go_ret
    all_goals simp only [HE.out, Bool.not_eq_true', Bool.not_eq_false', beq_eq_false_iff_ne, beq_iff_eq, decide_eq_true_eq, decide_eq_false_iff_not, ne_eq, Decidable.not_not] at *
    all_goals first
      | (have e : checkV 3 b n s = 5 := check5 (by simp_all); rw [e]; exact ⟨rfl, (by first | exact HB.out | exact HB.out.alloc HB.out.size _ | exact (HB.out.alloc HB.out.size _).setCell HB.out.size _)⟩)
      | (have e : checkV 3 b n s = 4 := check4 (by simp_all) (by omega); rw [e]; exact ⟨rfl, (by first | exact HB.out | exact HB.out.alloc HB.out.size _ | exact (HB.out.alloc HB.out.size _).setCell HB.out.size _)⟩)
      | (have e : checkV 3 b n s = 9 := check9 (by simp_all) (by omega) (by simp_all); rw [e]; exact ⟨rfl, (by first | exact HB.out | exact HB.out.alloc HB.out.size _ | exact (HB.out.alloc HB.out.size _).setCell HB.out.size _)⟩)
      | (have e : checkV 3 b n s = 0 := check0 (by simp_all) (by omega) (by simp_all); rw [e]; exact ⟨rfl, (by first | exact HB.out | exact HB.out.alloc HB.out.size _ | exact (HB.out.alloc HB.out.size _).setCell HB.out.size _)⟩)
  · have n0 : (k == 0) = false := by simp; omega
    have n1 : (k == 1) = false := by simp; omega
    have n2 : (k == 2) = false := by simp; omega
    have n3 : (k == 3) = false := by simp; omega
    have e : checkV k b n s = 5 := check5 (.inl h4)
    rw [e]
    clear e
    go_wp2_with (first
      | ((with_reducible refine gate_dst (N := 1) rfl ?_); refine box_event ?hg (N := 1) ?hd (cs := #[.int .u8 k, .bool b, .int .i64 n, .string s]) (t := 38) ?hr ?_; (case hd => rfl); (case hg => rfl); (case hr => first | (go_simp; done) | (go_simp; rfl)); intro g1 hg w1 hbx hb; have Eg1 : w.heap.size ≤ g1 := (by rw [hg]; exact HB.out.size); have nHB := Lib.hid (below_step HB.out hb); clear HB; have HB := nHB; have Bg1 := Lib.hid hbx; clear nHB hg hbx hb; have q0 := (blk_cell Bg1.out 0).trans rfl; have q1 := (blk_cell Bg1.out 1).trans rfl; have q2 := (blk_cell Bg1.out 2).trans rfl; have q3 := (blk_cell Bg1.out 3).trans rfl; have l1 := blk_lt Bg1.out))
    go_ret
    exact ⟨rfl, (by first | exact HB.out | exact HB.out.alloc HB.out.size _ | exact (HB.out.alloc HB.out.size _).setCell HB.out.size _)⟩
set_option maxHeartbeats 4000000 in
set_option maxRecDepth 100000 in
theorem rcheck_calls (k : Int) (b : Bool) (n : Int) (s : ByteArray) (w : World) :
    Calls Tryd.prog 86 #[.agg #[.int .u8 k, .bool b, .int .i64 n, .string s]] w fun e w' => e = .returned (.int .i64 (checkV k b n s)) ∧ Below w.heap.size w w' := by
  have HB := Lib.hid (Below.refl w.heap.size w)
  have HE := Lib.hid (isEmpty_of s)
  go_enter Tryd.func86, Tryd.ntmps86
  go_wp2_with (first
      | ((with_reducible refine gate_dst (N := 1) rfl ?_); refine box_event ?hg (N := 1) ?hd (cs := #[.int .u8 k, .bool b, .int .i64 n, .string s]) (t := 38) ?hr ?_; (case hd => rfl); (case hg => rfl); (case hr => first | (go_simp; done) | (go_simp; rfl)); intro g1 hg w1 hbx hb; have Eg1 : w.heap.size ≤ g1 := (by rw [hg]; exact HB.out.size); have nHB := Lib.hid (below_step HB.out hb); clear HB; have HB := nHB; have Bg1 := Lib.hid hbx; clear nHB hg hbx hb; have q0 := (blk_cell Bg1.out 0).trans rfl; have q1 := (blk_cell Bg1.out 1).trans rfl; have q2 := (blk_cell Bg1.out 2).trans rfl; have q3 := (blk_cell Bg1.out 3).trans rfl; have l1 := blk_lt Bg1.out)
      | (go_at_call 85; refine (utf_calls s _ (by omega)).mono ?_; rintro e w6 ⟨rfl, hb'⟩; have nB := Lib.hid (below_step HB.out hb'); clear HB hb'; have HB := nB; clear nB))
  all_goals go_ret
  all_goals simp only [HE.out, Bool.not_eq_true', Bool.not_eq_false', beq_eq_false_iff_ne, beq_iff_eq, decide_eq_true_eq, decide_eq_false_iff_not, ne_eq, Decidable.not_not] at *
  all_goals first
    | (have e : checkV k b n s = 5 := check5 (by first | omega | (simp_all; done) | (simp_all; omega) | (cases b <;> simp_all <;> omega)); rw [e]; exact ⟨rfl, HB.out⟩)
    | (have e : checkV k b n s = 4 := check4 (by first | omega | (simp_all; done) | (simp_all; omega) | (cases b <;> simp_all <;> omega)) (by omega); rw [e]; exact ⟨rfl, HB.out⟩)
    | (have e : checkV k b n s = 9 := check9 (by first | omega | (simp_all; done) | (simp_all; omega) | (cases b <;> simp_all <;> omega)) (by omega) (by simp_all); rw [e]; exact ⟨rfl, HB.out⟩)
    | (have e : checkV k b n s = 0 := check0 (by first | omega | (simp_all; done) | (simp_all; omega) | (cases b <;> simp_all <;> omega)) (by omega) (by simp_all); rw [e]; exact ⟨rfl, HB.out⟩)
end Go.Proofs.YtfgmgcnbponknaaDoor.Val
namespace Go.Proofs.YtfgmgcnbponknaaDoor.Val
open Go.RowKit Go.Proofs.YtfgmgcnbponknaaDoor.G Go.Proofs.YtfgmgcnbponknaaDoor.Lx Go.Proofs.YtfgmgcnbponknaaDoorW.PrintWords Go.Proofs.YtfgmgcnbponknaaDoorW.PrintLast Go.Proofs.YtfgmgcnbponknaaDoorW.PrintMore
set_option linter.unusedVariables false
set_option linter.unusedSimpArgs false
def put1 (h b : Int) : Int := IntKind.u64.wrap ((Go.bits .xor .u64 h (IntKind.u64.wrap b)) * 1099511628211)
def fnv (h : Int) (l : List Int) : Int := l.foldl put1 h
def byteAt (n : Int) (i : Nat) : Int := (n / 256 ^ i) % 256
def bytesV (k : Int) (b : Bool) (n : Int) (s : ByteArray) : List Int :=
  k :: (if k = 1 then [bitN b] else if k = 2 then (List.range 8).map (byteAt n) else if k = 3 then bytesOf s else [])
def hashV (k : Int) (b : Bool) (n : Int) (s : ByteArray) : Int := fnv 14695981039346656037 (bytesV k b n s)
theorem fnv_snoc (h : Int) (l : List Int) (b : Int) : fnv h (l ++ [b]) = put1 (fnv h l) b := by unfold fnv; rw [List.foldl_append]; rfl
theorem bw_below (w : World) (e : TypeId) (s : ByteArray) : Below w.heap.size w (Lib.bytesWorld w e s) :=
  Lib.below_freeze ((Below.drew (Below.refl _ w)).alloc (Nat.le_refl _) _) (p := ⟨w.heap.size, _, none⟩) (Nat.le_refl _) 1
theorem fnv_cons (h b : Int) (l : List Int) : fnv h (b :: l) = fnv (put1 h b) l := rfl
theorem put_calls (h b : Int) (w : World) : Calls Tryd.prog 73 #[.int .u64 h, .int .u8 b] w fun e w' => e = .returned (.int .u64 (put1 h b)) ∧ Below w.heap.size w w' :=
  (value_sum_put.calls h b (put1 h b) w rfl).mono fun e w' x => ⟨x.1, x.2.below⟩
def natOf : Value → Nat
  | .int _ i => i.toNat
  | _ => 0
set_option maxHeartbeats 4000000 in
set_option maxRecDepth 100000 in
theorem hash_calls (k : Int) (b : Bool) (n : Int) (s : ByteArray) (w : World) (hs : s.size ≤ 9223372036854775807) :
    Calls Tryd.prog 53 #[.agg #[.int .u8 k, .bool b, .int .i64 n, .string s]] w fun e w' => e = .returned (.int .u64 (hashV k b n s)) ∧ Below w.heap.size w w' := by
  have HB := Lib.hid (Below.refl w.heap.size w)
  have MA := Lib.hid trivial
  obtain ⟨h1, hh1⟩ : ∃ h1, h1 = put1 14695981039346656037 k := ⟨_, rfl⟩
  have H1 := Lib.hid hh1
  clear hh1
  by_cases k1 : k = 1
  · subst k1
    have hX : hashV 1 b n s = put1 h1 (bitN b) := by rw [H1.out]; rfl
    rw [hX]
    cases b
    · go_enter Tryd.func53, Tryd.ntmps53
      go_wp2_with (first
        | ((with_reducible refine gate_dst (N := 1) rfl ?_); refine box_event ?hg (N := 1) ?hd (cs := #[.int .u8 1, .bool false, .int .i64 n, .string s]) (t := 38) ?hr ?_; (case hd => rfl); (case hg => rfl); (case hr => first | (go_simp; done) | (go_simp; rfl)); intro g1 hg w1 hbx hb; have Eg1 : w.heap.size ≤ g1 := (by rw [hg]; exact HB.out.size); have nHB := Lib.hid (below_step HB.out hb); clear HB; have HB := nHB; have Bg1 := Lib.hid hbx; clear nHB hg hbx hb; have q0 := (blk_cell Bg1.out 0).trans rfl; have q1 := (blk_cell Bg1.out 1).trans rfl; have q2 := (blk_cell Bg1.out 2).trans rfl; have q3 := (blk_cell Bg1.out 3).trans rfl; have l1 := blk_lt Bg1.out)
        | (go_at_call 73; have M := MA; (with_reducible refine (put_calls _ _ _).mono ?_); rw [← H1.out]; rintro e w2 ⟨rfl, hb⟩; have nR := Lib.hid (blk_below Bg1.out hb); have nB := Lib.hid (below_step HB.out hb); clear HB Bg1 hb q0 q1 q2 q3; have HB := nB; have Bg1 := nR; clear nB nR MA M; have q0 := (blk_cell Bg1.out 0).trans rfl; have q1 := (blk_cell Bg1.out 1).trans rfl; have q2 := (blk_cell Bg1.out 2).trans rfl; have q3 := (blk_cell Bg1.out 3).trans rfl)
        | (go_at_call 73; (with_reducible refine (put_calls h1 _ _).mono ?_); rintro e w6 ⟨rfl, hb'⟩; have nB := Lib.hid (below_step HB.out hb'); clear HB hb'; have HB := nB; clear nB))
      go_ret
      exact ⟨rfl, HB.out⟩
    · go_enter Tryd.func53, Tryd.ntmps53
      go_wp2_with (first
        | ((with_reducible refine gate_dst (N := 1) rfl ?_); refine box_event ?hg (N := 1) ?hd (cs := #[.int .u8 1, .bool true, .int .i64 n, .string s]) (t := 38) ?hr ?_; (case hd => rfl); (case hg => rfl); (case hr => first | (go_simp; done) | (go_simp; rfl)); intro g1 hg w1 hbx hb; have Eg1 : w.heap.size ≤ g1 := (by rw [hg]; exact HB.out.size); have nHB := Lib.hid (below_step HB.out hb); clear HB; have HB := nHB; have Bg1 := Lib.hid hbx; clear nHB hg hbx hb; have q0 := (blk_cell Bg1.out 0).trans rfl; have q1 := (blk_cell Bg1.out 1).trans rfl; have q2 := (blk_cell Bg1.out 2).trans rfl; have q3 := (blk_cell Bg1.out 3).trans rfl; have l1 := blk_lt Bg1.out)
        | (go_at_call 73; have M := MA; (with_reducible refine (put_calls _ _ _).mono ?_); rw [← H1.out]; rintro e w2 ⟨rfl, hb⟩; have nR := Lib.hid (blk_below Bg1.out hb); have nB := Lib.hid (below_step HB.out hb); clear HB Bg1 hb q0 q1 q2 q3; have HB := nB; have Bg1 := nR; clear nB nR MA M; have q0 := (blk_cell Bg1.out 0).trans rfl; have q1 := (blk_cell Bg1.out 1).trans rfl; have q2 := (blk_cell Bg1.out 2).trans rfl; have q3 := (blk_cell Bg1.out 3).trans rfl)
        | (go_at_call 73; (with_reducible refine (put_calls h1 _ _).mono ?_); rintro e w6 ⟨rfl, hb'⟩; have nB := Lib.hid (below_step HB.out hb'); clear HB hb'; have HB := nB; clear nB))
      go_ret
      exact ⟨rfl, HB.out⟩
  by_cases k2 : k = 2
  · subst k2
    have hX : hashV 2 b n s = fnv h1 ((List.range 8).map (byteAt n)) := by rw [H1.out, hashV, bytesV, if_neg (by decide), if_pos rfl, fnv_cons]
    rw [hX]
    go_enter Tryd.func53, Tryd.ntmps53
    go_wp2_with (first
      | ((with_reducible refine gate_dst (N := 1) rfl ?_); refine box_event ?hg (N := 1) ?hd (cs := #[.int .u8 2, .bool b, .int .i64 n, .string s]) (t := 38) ?hr ?_; (case hd => rfl); (case hg => rfl); (case hr => first | (go_simp; done) | (go_simp; rfl)); intro g1 hg w1 hbx hb; have Eg1 : w.heap.size ≤ g1 := (by rw [hg]; exact HB.out.size); have nHB := Lib.hid (below_step HB.out hb); clear HB; have HB := nHB; have Bg1 := Lib.hid hbx; clear nHB hg hbx hb; have q0 := (blk_cell Bg1.out 0).trans rfl; have q1 := (blk_cell Bg1.out 1).trans rfl; have q2 := (blk_cell Bg1.out 2).trans rfl; have q3 := (blk_cell Bg1.out 3).trans rfl; have l1 := blk_lt Bg1.out)
      | (go_at_call 73; have M := MA; (with_reducible refine (put_calls _ _ _).mono ?_); rw [← H1.out]; rintro e w2 ⟨rfl, hb⟩; have nR := Lib.hid (blk_below Bg1.out hb); have nB := Lib.hid (below_step HB.out hb); clear HB Bg1 hb q0 q1 q2 q3; have HB := nB; have Bg1 := nR; clear nB nR MA M; have q0 := (blk_cell Bg1.out 0).trans rfl; have q1 := (blk_cell Bg1.out 1).trans rfl; have q2 := (blk_cell Bg1.out 2).trans rfl; have q3 := (blk_cell Bg1.out 3).trans rfl))
    go_loopw [3, 22] (fun v3 v22 wr => ∃ j : Nat, j ≤ 8 ∧ v22 = .int .i64 j ∧ v3 = .int .u64 (fnv h1 ((List.range j).map (byteAt n))) ∧ Hid (wr.heap[g1]? = some (.cells #[.int .u8 2, .bool b, .int .i64 n, .string s] 38 (0, 0))) ∧ Hid (Below w.heap.size w wr)) (fun _ v22 _ => 8 - natOf v22)
    case atStart => exact ⟨0, by omega, rfl, rfl, Bg1, HB⟩
    case round =>
      obtain ⟨j, hj, rfl, rfl, HC, HW⟩ := hrel
      have q0 := (blk_cell HC.out 0).trans rfl
      have q1 := (blk_cell HC.out 1).trans rfl
      have q2 := (blk_cell HC.out 2).trans rfl
      have q3 := (blk_cell HC.out 3).trans rfl
      obtain ⟨x, hx⟩ : ∃ x, x = fnv h1 ((List.range j).map (byteAt n)) := ⟨_, rfl⟩
      rw [← hx]
      have HX := Lib.hid hx
      clear hx
      by_cases h8 : j = 8
      · subst h8
        go_wp2
        go_ret
        exact ⟨by rw [HX.out]; rfl, HW.out⟩
      · have hj8 : j < 8 := by omega
        clear h8 hj
        obtain rfl | rfl | rfl | rfl | rfl | rfl | rfl | rfl : j = 0 ∨ j = 1 ∨ j = 2 ∨ j = 3 ∨ j = 4 ∨ j = 5 ∨ j = 6 ∨ j = 7 := by omega
        · clear hj8
          go_wp2_with (go_at_call 73; (with_reducible refine (put_calls x _ _).mono ?_); rintro e w2 ⟨rfl, hb⟩; have nR := Lib.hid (blk_below HC.out hb); have nB := Lib.hid (below_step HW.out hb); clear hb q0 q1 q2 q3)
          go_roundw
          case rel =>
            refine ⟨1, by omega, rfl, ?_, nR, nB⟩
            rw [HX.out, show List.range 1 = List.range 0 ++ [0] from List.range_succ, List.map_append]
            refine Eq.trans (congrArg (fun z => Value.int .u64 (put1 (fnv h1 ((List.range 0).map (byteAt n))) z)) ?_) (congrArg (Value.int .u64) (fnv_snoc _ _ _)).symm
            simp [byteAt]
          case measure => simp [natOf]
        · clear hj8
          go_wp2_with (go_at_call 73; (with_reducible refine (put_calls x _ _).mono ?_); rintro e w2 ⟨rfl, hb⟩; have nR := Lib.hid (blk_below HC.out hb); have nB := Lib.hid (below_step HW.out hb); clear hb q0 q1 q2 q3)
          go_roundw
          case rel =>
            refine ⟨2, by omega, rfl, ?_, nR, nB⟩
            rw [HX.out, show List.range 2 = List.range 1 ++ [1] from List.range_succ, List.map_append]
            refine Eq.trans (congrArg (fun z => Value.int .u64 (put1 (fnv h1 ((List.range 1).map (byteAt n))) z)) ?_) (congrArg (Value.int .u64) (fnv_snoc _ _ _)).symm
            simp [byteAt]
          case measure => simp [natOf]
        · clear hj8
          go_wp2_with (go_at_call 73; (with_reducible refine (put_calls x _ _).mono ?_); rintro e w2 ⟨rfl, hb⟩; have nR := Lib.hid (blk_below HC.out hb); have nB := Lib.hid (below_step HW.out hb); clear hb q0 q1 q2 q3)
          go_roundw
          case rel =>
            refine ⟨3, by omega, rfl, ?_, nR, nB⟩
            rw [HX.out, show List.range 3 = List.range 2 ++ [2] from List.range_succ, List.map_append]
            refine Eq.trans (congrArg (fun z => Value.int .u64 (put1 (fnv h1 ((List.range 2).map (byteAt n))) z)) ?_) (congrArg (Value.int .u64) (fnv_snoc _ _ _)).symm
            simp [byteAt]
          case measure => simp [natOf]
        · clear hj8
          go_wp2_with (go_at_call 73; (with_reducible refine (put_calls x _ _).mono ?_); rintro e w2 ⟨rfl, hb⟩; have nR := Lib.hid (blk_below HC.out hb); have nB := Lib.hid (below_step HW.out hb); clear hb q0 q1 q2 q3)
          go_roundw
          case rel =>
            refine ⟨4, by omega, rfl, ?_, nR, nB⟩
            rw [HX.out, show List.range 4 = List.range 3 ++ [3] from List.range_succ, List.map_append]
            refine Eq.trans (congrArg (fun z => Value.int .u64 (put1 (fnv h1 ((List.range 3).map (byteAt n))) z)) ?_) (congrArg (Value.int .u64) (fnv_snoc _ _ _)).symm
            simp [byteAt]
          case measure => simp [natOf]
        · clear hj8
          go_wp2_with (go_at_call 73; (with_reducible refine (put_calls x _ _).mono ?_); rintro e w2 ⟨rfl, hb⟩; have nR := Lib.hid (blk_below HC.out hb); have nB := Lib.hid (below_step HW.out hb); clear hb q0 q1 q2 q3)
          go_roundw
          case rel =>
            refine ⟨5, by omega, rfl, ?_, nR, nB⟩
            rw [HX.out, show List.range 5 = List.range 4 ++ [4] from List.range_succ, List.map_append]
            refine Eq.trans (congrArg (fun z => Value.int .u64 (put1 (fnv h1 ((List.range 4).map (byteAt n))) z)) ?_) (congrArg (Value.int .u64) (fnv_snoc _ _ _)).symm
            simp [byteAt]
          case measure => simp [natOf]
        · clear hj8
          go_wp2_with (go_at_call 73; (with_reducible refine (put_calls x _ _).mono ?_); rintro e w2 ⟨rfl, hb⟩; have nR := Lib.hid (blk_below HC.out hb); have nB := Lib.hid (below_step HW.out hb); clear hb q0 q1 q2 q3)
          go_roundw
          case rel =>
            refine ⟨6, by omega, rfl, ?_, nR, nB⟩
            rw [HX.out, show List.range 6 = List.range 5 ++ [5] from List.range_succ, List.map_append]
            refine Eq.trans (congrArg (fun z => Value.int .u64 (put1 (fnv h1 ((List.range 5).map (byteAt n))) z)) ?_) (congrArg (Value.int .u64) (fnv_snoc _ _ _)).symm
            simp [byteAt]
          case measure => simp [natOf]
        · clear hj8
          go_wp2_with (go_at_call 73; (with_reducible refine (put_calls x _ _).mono ?_); rintro e w2 ⟨rfl, hb⟩; have nR := Lib.hid (blk_below HC.out hb); have nB := Lib.hid (below_step HW.out hb); clear hb q0 q1 q2 q3)
          go_roundw
          case rel =>
            refine ⟨7, by omega, rfl, ?_, nR, nB⟩
            rw [HX.out, show List.range 7 = List.range 6 ++ [6] from List.range_succ, List.map_append]
            refine Eq.trans (congrArg (fun z => Value.int .u64 (put1 (fnv h1 ((List.range 6).map (byteAt n))) z)) ?_) (congrArg (Value.int .u64) (fnv_snoc _ _ _)).symm
            simp [byteAt]
          case measure => simp [natOf]
        · clear hj8
          go_wp2_with (go_at_call 73; (with_reducible refine (put_calls x _ _).mono ?_); rintro e w2 ⟨rfl, hb⟩; have nR := Lib.hid (blk_below HC.out hb); have nB := Lib.hid (below_step HW.out hb); clear hb q0 q1 q2 q3)
          go_roundw
          case rel =>
            refine ⟨8, by omega, rfl, ?_, nR, nB⟩
            rw [HX.out, show List.range 8 = List.range 7 ++ [7] from List.range_succ, List.map_append]
            refine Eq.trans (congrArg (fun z => Value.int .u64 (put1 (fnv h1 ((List.range 7).map (byteAt n))) z)) ?_) (congrArg (Value.int .u64) (fnv_snoc _ _ _)).symm
            simp [byteAt]
          case measure => simp [natOf]
  by_cases k3 : k = 3
  · subst k3
    have hX : hashV 3 b n s = fnv h1 (bytesOf s) := by rw [H1.out, hashV, bytesV, if_neg (by decide), if_neg (by decide), if_pos rfl, fnv_cons]
    rw [hX]
    have hcv := fun (w : World) => Lib.run_convert_string_bytes (P := Tryd.prog) w 9 103 5 s Tryd.underlying9 Tryd.underlying103 Tryd.underlying5
    go_enter Tryd.func53, Tryd.ntmps53
    go_wp2_with (first
      | ((with_reducible refine gate_dst (N := 1) rfl ?_); refine box_event ?hg (N := 1) ?hd (cs := #[.int .u8 3, .bool b, .int .i64 n, .string s]) (t := 38) ?hr ?_; (case hd => rfl); (case hg => rfl); (case hr => first | (go_simp; done) | (go_simp; rfl)); intro g1 hg w1 hbx hb; have Eg1 : w.heap.size ≤ g1 := (by rw [hg]; exact HB.out.size); have nHB := Lib.hid (below_step HB.out hb); clear HB; have HB := nHB; have Bg1 := Lib.hid hbx; clear nHB hg hbx hb; have q0 := (blk_cell Bg1.out 0).trans rfl; have q1 := (blk_cell Bg1.out 1).trans rfl; have q2 := (blk_cell Bg1.out 2).trans rfl; have q3 := (blk_cell Bg1.out 3).trans rfl; have l1 := blk_lt Bg1.out)
      | (go_at_call 73; have M := MA; (with_reducible refine (put_calls _ _ _).mono ?_); rw [← H1.out]; rintro e w2 ⟨rfl, hb⟩; have nR := Lib.hid (blk_below Bg1.out hb); have nB := Lib.hid (below_step HB.out hb); clear HB Bg1 hb q0 q1 q2 q3; have HB := nB; have Bg1 := nR; clear nB nR MA M; have q0 := (blk_cell Bg1.out 0).trans rfl; have q1 := (blk_cell Bg1.out 1).trans rfl; have q2 := (blk_cell Bg1.out 2).trans rfl; have q3 := (blk_cell Bg1.out 3).trans rfl))
    have HR := Lib.hid (bytes_reads w2 5 s hs)
    have HB2 := Lib.hid (below_step HB.out (bw_below w2 5 s))
    obtain ⟨W2, hW2⟩ : ∃ W2, W2 = Lib.bytesWorld w2 5 s := ⟨_, rfl⟩
    obtain ⟨C, hC⟩ : ∃ C, C = grownCap w2 s.size 0 5 := ⟨_, rfl⟩
    rw [← hW2] at HR HB2
    rw [← hW2, ← hC]
    clear hW2 hC hcv q0 q1 q2 q3 hX
    obtain ⟨G, hG⟩ : ∃ G, G = w2.heap.size := ⟨_, rfl⟩
    rw [← hG] at HR
    rw [← hG]
    clear hG
    go_loopw [3, 40] (fun v3 v40 wr => ∃ j : Nat, j ≤ s.size ∧ v40 = .int .i64 j ∧ v3 = .int .u64 (fnv h1 ((bytesOf s).take j)) ∧ Hid (ReadsInt wr .u8 (some ⟨G, 0, none⟩) s.size (bytesOf s)) ∧ Hid (Below w.heap.size w wr)) (fun _ v40 _ => s.size - natOf v40)
    case atStart => exact ⟨0, by omega, rfl, rfl, HR, HB2⟩
    case round =>
      obtain ⟨j, hj, rfl, rfl, HC, HW⟩ := hrel
      obtain ⟨x, hx⟩ : ∃ x, x = fnv h1 ((bytesOf s).take j) := ⟨_, rfl⟩
      rw [← hx]
      have HX := Lib.hid hx
      clear hx
      by_cases hlt : j < s.size
      · have hc : wr.cell? ⟨G, j, none⟩ = some (.int .u8 ((bytesOf s).getD j 0)) := by
          obtain ⟨ad, e, hc⟩ := HC.out.2.2 (by omega)
          obtain rfl := Option.some.inj e
          have := hc j hlt
          rcases Nat.eq_zero_or_pos j with h0 | h0
          · subst h0; simpa [Addr.add] using this
          · simpa [Addr.add, Nat.ne_of_gt h0] using this
        have HT : Hid ((bytesOf s).take (j + 1) = (bytesOf s).take j ++ [(bytesOf s).getD j 0]) := Lib.hid (by
          have hl := bytesOf_length s
          rw [List.take_succ_eq_append_getElem (by omega), List.getD_eq_getElem?_getD, List.getElem?_eq_getElem (by omega)]; rfl)
        obtain ⟨y, hy⟩ : ∃ y, y = (bytesOf s).getD j 0 := ⟨_, rfl⟩
        rw [← hy] at hc HT
        clear hy
        go_wp2_with (go_at_call 73; (with_reducible refine (put_calls x y _).mono ?_); rintro e w3 ⟨rfl, hb⟩; have nR := Lib.hid (HC.out.below hb); have nB := Lib.hid (below_step HW.out hb); clear hb hc)
        go_roundw
        case rel =>
          refine ⟨j + 1, by omega, by go_num, ?_, nR, nB⟩
          rw [HX.out, HT.out, fnv_snoc]
        case measure => simp [natOf]; omega
      · obtain rfl : j = s.size := by omega
        have hl := Lib.hid (bytesOf_length s)
        go_wp2
        go_ret
        exact ⟨by rw [HX.out, List.take_of_length_le (by rw [hl.out]; exact Nat.le_refl _)]; rfl, HW.out⟩
  have d1 : (k == 1) = false := by simpa using k1
  have d2 : (k == 2) = false := by simpa using k2
  have d3 : (k == 3) = false := by simpa using k3
  have hX : hashV k b n s = h1 := by rw [H1.out, hashV, bytesV, if_neg k1, if_neg k2, if_neg k3, fnv_cons]; rfl
  rw [hX]
  clear hX k1 k2 k3
  go_enter Tryd.func53, Tryd.ntmps53
  go_wp2_with (first
    | ((with_reducible refine gate_dst (N := 1) rfl ?_); refine box_event ?hg (N := 1) ?hd (cs := #[.int .u8 k, .bool b, .int .i64 n, .string s]) (t := 38) ?hr ?_; (case hd => rfl); (case hg => rfl); (case hr => first | (go_simp; done) | (go_simp; rfl)); intro g1 hg w1 hbx hb; have Eg1 : w.heap.size ≤ g1 := (by rw [hg]; exact HB.out.size); have nHB := Lib.hid (below_step HB.out hb); clear HB; have HB := nHB; have Bg1 := Lib.hid hbx; clear nHB hg hbx hb; have q0 := (blk_cell Bg1.out 0).trans rfl; have q1 := (blk_cell Bg1.out 1).trans rfl; have q2 := (blk_cell Bg1.out 2).trans rfl; have q3 := (blk_cell Bg1.out 3).trans rfl; have l1 := blk_lt Bg1.out)
    | (go_at_call 73; have M := MA; (with_reducible refine (put_calls _ _ _).mono ?_); rw [← H1.out]; rintro e w2 ⟨rfl, hb⟩; have nR := Lib.hid (blk_below Bg1.out hb); have nB := Lib.hid (below_step HB.out hb); clear HB Bg1 hb q0 q1 q2 q3; have HB := nB; have Bg1 := nR; clear nB nR MA M; have q0 := (blk_cell Bg1.out 0).trans rfl; have q1 := (blk_cell Bg1.out 1).trans rfl; have q2 := (blk_cell Bg1.out 2).trans rfl; have q3 := (blk_cell Bg1.out 3).trans rfl))
  go_ret
  exact ⟨rfl, HB.out⟩
end Go.Proofs.YtfgmgcnbponknaaDoor.Val
namespace Go.Proofs.YtfgmgcnbponknaaDoor.Val
open Go.RowKit Go.Proofs.YtfgmgcnbponknaaDoor.G Go.Proofs.YtfgmgcnbponknaaDoor.Lx Go.Proofs.YtfgmgcnbponknaaDoorW.PrintWords Go.Proofs.YtfgmgcnbponknaaDoorW.PrintLast Go.Proofs.YtfgmgcnbponknaaDoorW.PrintMore
set_option linter.unusedVariables false
set_option linter.unusedSimpArgs false
def nameV (s : ByteArray) : Int := if s.size = 0 ∨ 64 < s.size then 4 else if Lib.validD s.data.toList = true then 0 else 9
set_option maxHeartbeats 4000000 in
set_option maxRecDepth 100000 in
theorem name_calls (s : ByteArray) (w : World) (hs : s.size ≤ 9223372036854775807) (hT : Lib.Utf8Tabs 0 1 w) :
    Calls Tryd.prog 50 #[.string s] w fun e w' => e = .returned (.int .i64 (nameV s)) ∧ Below w.heap.size w w' := by
  have HB := Lib.hid (Below.refl w.heap.size w)
  have HT := Lib.hid hT
  clear hT
  by_cases h0 : s.size = 0
  · have e1 : s.toList.isEmpty = true := by rw [empty_of h0]; rfl
    have hX : nameV s = 4 := by unfold nameV; rw [if_pos (Or.inl h0)]
    rw [hX]
    clear h0 hX
    go_enter Tryd.func50, Tryd.ntmps50
    go_wp2
    go_ret
    exact ⟨rfl, HB.out⟩
  · have e1 : s.toList.isEmpty = false := by
      have := nonempty_of h0
      cases h : s.toList with
      | nil => exact absurd h this
      | cons => rfl
    by_cases h6 : 64 < s.size
    · have hX : nameV s = 4 := by unfold nameV; rw [if_pos (Or.inr h6)]
      rw [hX]
      clear h0 hX
      have h6' : decide (64 < (s.size : Int)) = true := decide_eq_true (by omega)
      go_enter Tryd.func50, Tryd.ntmps50
      go_wp2
      go_ret
      exact ⟨rfl, HB.out⟩
    · have h6' : decide (64 < (s.size : Int)) = false := decide_eq_false (by omega)
      have hno : ¬ (s.size = 0 ∨ 64 < s.size) := by omega
      rcases hv : Lib.validD s.data.toList with _ | _
      · have hX : nameV s = 9 := by unfold nameV; rw [if_neg hno, hv]; rfl
        rw [hX]
        have HV := Lib.hid hv
        clear hv h0 h6 hno hX
        go_enter Tryd.func50, Tryd.ntmps50
        go_wp2_with (go_at_call 69; (with_reducible refine (Tryd.utf8_ValidString s _ hs (Utf8Tabs_below HT.out HB.out)).mono ?_); rw [HV.out]; rintro e w2 ⟨rfl, hb⟩; have nB := Lib.hid (below_step HB.out hb); clear HB hb; have HB := nB; clear nB)
        go_ret
        exact ⟨rfl, HB.out⟩
      · have hX : nameV s = 0 := by unfold nameV; rw [if_neg hno, hv]; rfl
        rw [hX]
        have HV := Lib.hid hv
        clear hv h0 h6 hno hX
        go_enter Tryd.func50, Tryd.ntmps50
        go_wp2_with (go_at_call 69; (with_reducible refine (Tryd.utf8_ValidString s _ hs (Utf8Tabs_below HT.out HB.out)).mono ?_); rw [HV.out]; rintro e w2 ⟨rfl, hb⟩; have nB := Lib.hid (below_step HB.out hb); clear HB hb; have HB := nB; clear nB)
        go_ret
        exact ⟨rfl, HB.out⟩
set_option maxHeartbeats 4000000 in
set_option maxRecDepth 100000 in
theorem rname_calls (s : ByteArray) (w : World) (hs : s.size ≤ 9223372036854775804) :
    Calls Tryd.prog 57 #[.string s] w fun e w' => e = .returned (.int .i64 (nameV s)) ∧ Below w.heap.size w w' := by
  have HB := Lib.hid (Below.refl w.heap.size w)
  by_cases h0 : s.size = 0
  · have e1 : s.toList.isEmpty = true := by rw [empty_of h0]; rfl
    have hX : nameV s = 4 := by unfold nameV; rw [if_pos (Or.inl h0)]
    rw [hX]
    clear h0 hX
    go_enter Tryd.func57, Tryd.ntmps57
    go_wp2
    go_ret
    exact ⟨rfl, HB.out⟩
  · have e1 : s.toList.isEmpty = false := by
      have := nonempty_of h0
      cases h : s.toList with
      | nil => exact absurd h this
      | cons => rfl
    by_cases h6 : 64 < s.size
    · have hX : nameV s = 4 := by unfold nameV; rw [if_pos (Or.inr h6)]
      rw [hX]
      clear h0 hX
      have h6' : decide (64 < (s.size : Int)) = true := decide_eq_true (by omega)
      go_enter Tryd.func57, Tryd.ntmps57
      go_wp2
      go_ret
      exact ⟨rfl, HB.out⟩
    · have h6' : decide (64 < (s.size : Int)) = false := decide_eq_false (by omega)
      have hno : ¬ (s.size = 0 ∨ 64 < s.size) := by omega
      rcases hv : Lib.validD s.data.toList with _ | _
      · have hX : nameV s = 9 := by unfold nameV; rw [if_neg hno, hv]; rfl
        rw [hX]
        have HV := Lib.hid hv
        clear hv h0 h6 hno hX
        go_enter Tryd.func57, Tryd.ntmps57
        go_wp2_with (go_at_call 85; (with_reducible refine (utf_calls s _ hs).mono ?_); rw [HV.out]; rintro e w2 ⟨rfl, hb⟩; have nB := Lib.hid (below_step HB.out hb); clear HB hb; have HB := nB; clear nB)
        go_ret
        exact ⟨rfl, HB.out⟩
      · have hX : nameV s = 0 := by unfold nameV; rw [if_neg hno, hv]; rfl
        rw [hX]
        have HV := Lib.hid hv
        clear hv h0 h6 hno hX
        go_enter Tryd.func57, Tryd.ntmps57
        go_wp2_with (go_at_call 85; (with_reducible refine (utf_calls s _ hs).mono ?_); rw [HV.out]; rintro e w2 ⟨rfl, hb⟩; have nB := Lib.hid (below_step HB.out hb); clear HB hb; have HB := nB; clear nB)
        go_ret
        exact ⟨rfl, HB.out⟩
end Go.Proofs.YtfgmgcnbponknaaDoor.Val
namespace Go.Proofs.YtfgmgcnbponknaaDoor.Val
open Go.RowKit Go.Proofs.YtfgmgcnbponknaaDoor.G Go.Proofs.YtfgmgcnbponknaaDoor.Lx Go.Proofs.YtfgmgcnbponknaaDoorW.PrintWords Go.Proofs.YtfgmgcnbponknaaDoorW.PrintLast Go.Proofs.YtfgmgcnbponknaaDoorW.PrintMore
set_option linter.unusedVariables false
set_option linter.unusedSimpArgs false
end Go.Proofs.YtfgmgcnbponknaaDoor.Val
namespace Go.Proofs.YtfgmgcnbponknaaDoor.Val
open Go.RowKit Go.Proofs.YtfgmgcnbponknaaDoor.G Go.Proofs.YtfgmgcnbponknaaDoor.Lx Go.Proofs.YtfgmgcnbponknaaDoorW.PrintWords Go.Proofs.YtfgmgcnbponknaaDoorW.PrintLast Go.Proofs.YtfgmgcnbponknaaDoorW.PrintMore
set_option linter.unusedVariables false
set_option linter.unusedSimpArgs false
def sameS (a b : ByteArray) : Bool := a.toList == b.toList
def idxF (nm : ByteArray) : List S97 → Nat → Int
  | [], _ => -1
  | x :: r, k => if sameS x.f0 nm = true then (k : Int) else idxF nm r (k + 1)
theorem idxF_any (nm : ByteArray) : ∀ (l : List S97) (k : Nat), decide (idxF nm l k ≥ 0) = l.any fun x => sameS x.f0 nm
  | [], _ => rfl
  | x :: r, k => by
    unfold idxF
    rcases h : sameS x.f0 nm with _ | _
    · simp [h, idxF_any nm r (k + 1)]
    · simp [h]
theorem drop_at36 {l : List S97} {k : Nat} (h : k < l.length) : l.drop k = l.getD k z97 :: l.drop (k + 1) := by
  rw [List.getD_eq_getElem?_getD, List.getElem?_eq_getElem h]
  exact List.drop_eq_getElem_cons h
set_option maxHeartbeats 4000000 in
set_option maxRecDepth 100000 in
theorem same_name (x : S97) (g : Nat) (nm : ByteArray) (kd : Int) (w : World) (hc : w.heap[g]? = some (.cells #[.string nm, .int .u8 kd] 97 (0, 0))) :
    Calls Tryd.prog 71 #[.agg #[.string x.f0, .int .u8 x.f1], .pointer (some ⟨g, 0, none⟩)] w fun e w' => e = .returned (.bool (sameS x.f0 nm)) ∧ Below w.heap.size w w' := by
  have HC := Lib.hid hc
  clear hc
  have lg := blk_lt HC.out
  have p0 := (blk_cell HC.out 0).trans rfl
  have p1 := (blk_cell HC.out 1).trans rfl
  obtain ⟨b, hb⟩ : ∃ b, b = sameS x.f0 nm := ⟨_, rfl⟩
  have hb' : (x.f0.toList == nm.toList) = b := by rw [hb]; rfl
  rw [← hb]
  clear hb
  go_enter Tryd.func71, Tryd.ntmps71
  go_wp2
  go_ret
  exact ⟨rfl, (Below.refl _ _).alloc (Nat.le_refl _) _⟩
set_option maxHeartbeats 4000000 in
set_option maxRecDepth 100000 in
theorem index_calls (A : Option Addr) (c : Nat) (l : List S97) (g : Nat) (nm : ByteArray) (kd : Int) (w : World) (ha : Kd.C k97 w A l.length l) (hl : l.length < 4611686018427387904) (hc : w.heap[g]? = some (.cells #[.string nm, .int .u8 kd] 97 (0, 0))) :
    Calls Tryd.prog 99 #[.slice A l.length c, .func (.func 71) #[] #[.pointer (some ⟨g, 0, none⟩)]] w fun e w' => e = .returned (.int .i64 (idxF nm l 0)) ∧ Below w.heap.size w w' := by
  have HA := Lib.hid ha
  have HC := Lib.hid hc
  clear ha hc
  obtain ⟨n, hn⟩ : ∃ n, n = l.length := ⟨_, rfl⟩
  rw [← hn] at HA hl ⊢
  have HN := Lib.hid hn
  clear hn
  go_enter Tryd.func99, Tryd.ntmps99
  go_wp2
  go_loopw [8] (fun vi wr => ∃ k : Nat, vi = .int .i64 k ∧ k ≤ n ∧ Hid (idxF nm l 0 = idxF nm (l.drop k) k) ∧ Hid (Below w.heap.size w wr)) (fun vi _ => n - (intOf vi).toNat)
  case atStart => exact ⟨0, rfl, Nat.zero_le _, Lib.hid rfl, Lib.hid (Below.refl _ _)⟩
  case round =>
    obtain ⟨k, rfl, hk, HE, HB⟩ := hrel
    by_cases h1 : k < n
    · have hkl : k < l.length := by rw [← HN.out]; exact h1
      obtain ⟨ad, eA, x0, x1⟩ := at_T97 (Kd.C_below HA.out HB.out) (k : Int) (by omega) (by omega)
      simp only [Int.toNat_natCast] at x0 x1
      have hx : rd_T97 l (k : Int) = l.getD k z97 := by simp [rd_T97]
      rw [hx] at x0 x1
      subst eA
      have hE := HE.out
      rw [drop_at36 hkl] at hE
      obtain ⟨F, hF⟩ : ∃ F, F = l.getD k z97 := ⟨_, rfl⟩
      rw [← hF] at x0 x1 hE
      have hkk : (k : Int) < (n : Int) := by omega
      clear HE hF hx
      rcases hs : sameS F.f0 nm with _ | _
      · have HX := Lib.hid (show idxF nm l 0 = idxF nm (l.drop (k + 1)) (k + 1) by rw [hE, idxF, hs]; rfl)
        have HS := Lib.hid hs
        clear hE hs
        go_wp2_with (go_at_call 71; refine (same_name F g nm kd _ (blk_below HC.out HB.out)).mono ?_; rw [HS.out]; rintro e w6 ⟨rfl, hb⟩; have nB := Lib.hid (below_step HB.out hb); clear HB hb x0 x1; have HB := nB; clear nB)
        go_roundw
        case rel => exact ⟨k + 1, by simp, h1, HX, HB⟩
        case measure => simp [intOf]; omega
      · have HX := Lib.hid (show idxF nm l 0 = k by rw [hE, idxF, hs]; rfl)
        have HS := Lib.hid hs
        clear hE hs
        go_wp2_with (go_at_call 71; refine (same_name F g nm kd _ (blk_below HC.out HB.out)).mono ?_; rw [HS.out]; rintro e w6 ⟨rfl, hb⟩; have nB := Lib.hid (below_step HB.out hb); clear HB hb x0 x1; have HB := nB; clear nB)
        go_ret
        rw [HX.out]
        exact ⟨rfl, HB.out⟩
    · obtain rfl : k = n := by omega
      have HX := Lib.hid (show idxF nm l 0 = -1 by rw [HE.out, show l.drop k = [] from List.drop_of_length_le (by rw [← HN.out]; exact Nat.le_refl _)]; rfl)
      go_wp2
      go_ret
      rw [HX.out]
      exact ⟨rfl, HB.out⟩
def inS (nm : ByteArray) (l : List S97) : Bool := decide (idxF nm l 0 ≥ 0)
theorem inS_any (nm : ByteArray) (l : List S97) : inS nm l = l.any fun x => sameS x.f0 nm := idxF_any nm l 0
set_option maxHeartbeats 4000000 in
set_option maxRecDepth 100000 in
theorem contains_calls (A : Option Addr) (c : Nat) (l : List S97) (g : Nat) (nm : ByteArray) (kd : Int) (w : World) (ha : Kd.C k97 w A l.length l) (hl : l.length < 4611686018427387904) (hc : w.heap[g]? = some (.cells #[.string nm, .int .u8 kd] 97 (0, 0))) :
    Calls Tryd.prog 70 #[.slice A l.length c, .func (.func 71) #[] #[.pointer (some ⟨g, 0, none⟩)]] w fun e w' => e = .returned (.bool (inS nm l)) ∧ Below w.heap.size w w' := by
  have HA := Lib.hid ha
  have HC := Lib.hid hc
  clear ha hc
  obtain ⟨n, hn⟩ : ∃ n, n = idxF nm l 0 := ⟨_, rfl⟩
  obtain ⟨b, hb⟩ : ∃ b, b = inS nm l := ⟨_, rfl⟩
  have hd : decide (n ≥ 0) = b := by rw [hb, hn]; rfl
  rw [← hb]
  have HN := Lib.hid hn
  clear hn hb
  go_enter Tryd.func70, Tryd.ntmps70
  go_wp2_with (go_at_call 99; refine (index_calls A c l g nm kd _ HA.out hl HC.out).mono ?_; rw [← HN.out]; rintro e w6 ⟨rfl, hb⟩)
  go_ret
  exact ⟨rfl, hb⟩
end Go.Proofs.YtfgmgcnbponknaaDoor.Val
namespace Go.Proofs.YtfgmgcnbponknaaDoor.Val
open Go.RowKit Go.Proofs.YtfgmgcnbponknaaDoor.G Go.Proofs.YtfgmgcnbponknaaDoor.Lx Go.Proofs.YtfgmgcnbponknaaDoorW.PrintWords Go.Proofs.YtfgmgcnbponknaaDoorW.PrintLast Go.Proofs.YtfgmgcnbponknaaDoorW.PrintMore
set_option linter.unusedVariables false
set_option linter.unusedSimpArgs false
def colsF (l : List S97) : Nat → Nat → Int
  | 0, _ => 0
  | f + 1, k => if nameV (l.getD k z97).f0 ≠ 0 then nameV (l.getD k z97).f0 else if inS (l.getD k z97).f0 (l.take k) = true then 15 else if (l.getD k z97).f1 = 0 ∨ 4 ≤ (l.getD k z97).f1 then 5 else colsF l f (k + 1)
def colsV (l : List S97) : Int := if l.length = 0 ∨ 8 < l.length then 3 else colsF l l.length 0
/-- the names fit -/
def ShortC (l : List S97) : Prop := ∀ x ∈ l, x.f0.size ≤ 9223372036854775807
instance (l : List S97) : Decidable (ShortC l) := inferInstanceAs (Decidable (∀ x ∈ l, x.f0.size ≤ 9223372036854775807))
theorem ShortC.at {l : List S97} (h : ShortC l) {k : Nat} (hk : k < l.length) : (l.getD k z97).f0.size ≤ 9223372036854775807 := by
  rw [List.getD_eq_getElem?_getD, List.getElem?_eq_getElem hk]
  exact h _ (List.getElem_mem hk)
set_option maxHeartbeats 4000000 in
set_option maxRecDepth 100000 in
theorem cols_calls (A : Option Addr) (c : Nat) (l : List S97) (w : World) (ha : Kd.C k97 w A l.length l) (hc : l.length ≤ c) (hl : l.length < 4611686018427387904) (hs : ShortC l) (hT : Lib.Utf8Tabs 0 1 w) :
    Calls Tryd.prog 51 #[.slice A l.length c] w fun e w' => e = .returned (.int .i64 (colsV l)) ∧ Below w.heap.size w w' := by
  have HT := Lib.hid hT
  have HS := Lib.hid hs
  have HA := Lib.hid ha
  clear ha hT hs
  obtain ⟨n, hn⟩ : ∃ n, n = l.length := ⟨_, rfl⟩
  rw [← hn] at HA hl hc ⊢
  have HN := Lib.hid hn
  clear hn
  by_cases h0 : n = 0
  · subst h0
    have hX : colsV l = 3 := by unfold colsV; rw [if_pos (Or.inl HN.out.symm)]
    rw [hX]
    go_enter Tryd.func51, Tryd.ntmps51
    go_wp2
    go_ret
    exact ⟨rfl, Below.refl _ _⟩
  by_cases h8 : 8 < n
  · have hX : colsV l = 3 := by unfold colsV; rw [if_pos (Or.inr (by rw [← HN.out]; exact h8))]
    rw [hX]
    have d0 : ((n : Int) == 0) = false := by simpa using h0
    have d8 : decide (8 < (n : Int)) = true := decide_eq_true (by omega)
    go_enter Tryd.func51, Tryd.ntmps51
    go_wp2
    go_ret
    exact ⟨rfl, Below.refl _ _⟩
  have d0 : ((n : Int) == 0) = false := by simpa using h0
  have d8 : decide (8 < (n : Int)) = false := decide_eq_false (by omega)
  have HX := Lib.hid (show colsV l = colsF l n 0 by unfold colsV; rw [if_neg (by rw [← HN.out]; omega), ← HN.out])
  go_enter Tryd.func51, Tryd.ntmps51
  go_wp2
  go_loopw [16] (fun vi wr => ∃ k f : Nat, n = k + f ∧ vi = .int .i64 k ∧ Hid (colsV l = colsF l f k) ∧ Hid (Below w.heap.size w wr)) (fun vi _ => n - (intOf vi).toNat)
  case atStart => exact ⟨0, n, by omega, rfl, HX, Lib.hid (Below.refl _ _)⟩
  case round =>
    obtain ⟨k, f, hkf, rfl, HE, HB⟩ := hrel
    by_cases h1 : k < n
    · have hkl : k < l.length := by rw [← HN.out]; exact h1
      obtain ⟨ad, eA, x0, x1⟩ := at_T97 (Kd.C_below HA.out HB.out) (k : Int) (by omega) (by omega)
      simp only [Int.toNat_natCast] at x0 x1
      have hx : rd_T97 l (k : Int) = l.getD k z97 := by simp [rd_T97]
      rw [hx] at x0 x1
      have HAT := Lib.hid (Kd.C_take (by rw [← HN.out]; exact HA.out) (Nat.le_of_lt hkl))
      have HAK := Lib.hid (show (l.take k).length = k by rw [List.length_take]; omega)
      subst eA
      obtain ⟨f, rfl⟩ : ∃ f', f = f' + 1 := ⟨f - 1, by omega⟩
      have HKF := Lib.hid (show n = (k + 1) + f by omega)
      clear hkf
      have hE := HE.out
      rw [colsF] at hE
      have hsf := HS.out.at hkl
      obtain ⟨F, hF⟩ : ∃ F, F = l.getD k z97 := ⟨_, rfl⟩
      rw [← hF] at x0 x1 hE hsf
      clear HX HE hF hx
      have hkk : (k : Int) < (n : Int) := by omega
      go_upto_region 6 with (fail)
      obtain ⟨W1, hW1⟩ : ∃ W1, W1 = wr.alloc (.cells #[.string F.f0, .int .u8 F.f1] 97 (0, 0)) := ⟨_, rfl⟩
      obtain ⟨g1, hg1⟩ : ∃ g, g = wr.heap.size := ⟨_, rfl⟩
      have B1 : Hid (W1.heap[g1]? = some (.cells #[.string F.f0, .int .u8 F.f1] 97 (0, 0))) := Lib.hid (by rw [hW1, hg1]; exact blk_new wr _)
      have HB1 : Hid (Below w.heap.size w W1) := Lib.hid (by rw [hW1]; exact HB.out.alloc HB.out.size _)
      rw [← hg1, ← hW1]
      clear hW1 hg1 x0 x1 HB
      have l1 := blk_lt B1.out
      have q0 := (blk_cell B1.out 0).trans rfl
      have q1 := (blk_cell B1.out 1).trans rfl
      by_cases hnm : nameV F.f0 = 0
      · rw [if_neg (by simp [hnm])] at hE
        have HNM := Lib.hid hnm
        clear hnm
        have HCC := fun (wx : World) (hx : Below w.heap.size w wx) (hg : wx.heap[g1]? = some (.cells #[.string F.f0, .int .u8 F.f1] 97 (0, 0))) => contains_calls (some ad) c (l.take k) g1 F.f0 F.f1 wx (Kd.C_below HAT.out hx) (by rw [HAK.out]; omega) hg
        rw [HAK.out] at HCC
        have HC1 := Lib.hid HCC
        clear HCC
        rcases hin : inS F.f0 (l.take k) with _ | _
        · rw [if_neg (by simp [hin])] at hE
          have HIN := Lib.hid hin
          clear hin
          by_cases hk0 : F.f1 = 0 ∨ 4 ≤ F.f1
          · rw [if_pos hk0] at hE
            have HX1 := Lib.hid hE
            clear hE
            rcases hk0 with hk0 | hk0
            · have e1 : (F.f1 == 0) = true := by simpa using hk0
              clear hk0
              go_wp2_with (first
                | (go_at_call 50; refine (name_calls F.f0 _ hsf (Utf8Tabs_below HT.out HB1.out)).mono ?_; rw [HNM.out]; rintro e w6 ⟨rfl, hb⟩; have nR := Lib.hid (blk_below B1.out hb); have nB := Lib.hid (below_step HB1.out hb); clear HB1 B1 hb q0 q1; have HB1 := nB; have B1 := nR; clear nB nR; have q0 := (blk_cell B1.out 0).trans rfl; have q1 := (blk_cell B1.out 1).trans rfl)
                | (go_at_call 70; refine (HC1.out _ HB1.out B1.out).mono ?_; rw [HIN.out]; rintro e w7 ⟨rfl, hb⟩; have nR := Lib.hid (blk_below B1.out hb); have nB := Lib.hid (below_step HB1.out hb); clear HB1 B1 hb q0 q1; have HB1 := nB; have B1 := nR; clear nB nR; have q0 := (blk_cell B1.out 0).trans rfl; have q1 := (blk_cell B1.out 1).trans rfl))
              go_ret
              rw [HX1.out]
              exact ⟨rfl, HB1.out⟩
            · have e1 : (F.f1 == 0) = false := by simpa using (show ¬ F.f1 = 0 by omega)
              have e2 : decide (F.f1 ≥ 4) = true := decide_eq_true hk0
              go_wp2_with (first
                | (go_at_call 50; refine (name_calls F.f0 _ hsf (Utf8Tabs_below HT.out HB1.out)).mono ?_; rw [HNM.out]; rintro e w6 ⟨rfl, hb⟩; have nR := Lib.hid (blk_below B1.out hb); have nB := Lib.hid (below_step HB1.out hb); clear HB1 B1 hb q0 q1; have HB1 := nB; have B1 := nR; clear nB nR; have q0 := (blk_cell B1.out 0).trans rfl; have q1 := (blk_cell B1.out 1).trans rfl)
                | (go_at_call 70; refine (HC1.out _ HB1.out B1.out).mono ?_; rw [HIN.out]; rintro e w7 ⟨rfl, hb⟩; have nR := Lib.hid (blk_below B1.out hb); have nB := Lib.hid (below_step HB1.out hb); clear HB1 B1 hb q0 q1; have HB1 := nB; have B1 := nR; clear nB nR; have q0 := (blk_cell B1.out 0).trans rfl; have q1 := (blk_cell B1.out 1).trans rfl))
              go_ret
              rw [HX1.out]
              exact ⟨rfl, HB1.out⟩
          · rw [if_neg hk0] at hE
            have HX1 := Lib.hid hE
            have e1 : (F.f1 == 0) = false := by simpa using (show ¬ F.f1 = 0 by omega)
            have e2 : decide (F.f1 ≥ 4) = false := decide_eq_false (by omega)
            clear hE hk0
            go_wp2_with (first
              | (go_at_call 50; refine (name_calls F.f0 _ hsf (Utf8Tabs_below HT.out HB1.out)).mono ?_; rw [HNM.out]; rintro e w6 ⟨rfl, hb⟩; have nR := Lib.hid (blk_below B1.out hb); have nB := Lib.hid (below_step HB1.out hb); clear HB1 B1 hb q0 q1; have HB1 := nB; have B1 := nR; clear nB nR; have q0 := (blk_cell B1.out 0).trans rfl; have q1 := (blk_cell B1.out 1).trans rfl)
              | (go_at_call 70; refine (HC1.out _ HB1.out B1.out).mono ?_; rw [HIN.out]; rintro e w7 ⟨rfl, hb⟩; have nR := Lib.hid (blk_below B1.out hb); have nB := Lib.hid (below_step HB1.out hb); clear HB1 B1 hb q0 q1; have HB1 := nB; have B1 := nR; clear nB nR; have q0 := (blk_cell B1.out 0).trans rfl; have q1 := (blk_cell B1.out 1).trans rfl))
            go_roundw
            case rel => exact ⟨k + 1, f, HKF.out, by simp, HX1, HB1⟩
            case measure => simp [intOf]; omega
        · rw [if_pos hin] at hE
          have HX1 := Lib.hid hE
          have HIN := Lib.hid hin
          clear hin hE
          go_wp2_with (first
            | (go_at_call 50; refine (name_calls F.f0 _ hsf (Utf8Tabs_below HT.out HB1.out)).mono ?_; rw [HNM.out]; rintro e w6 ⟨rfl, hb⟩; have nR := Lib.hid (blk_below B1.out hb); have nB := Lib.hid (below_step HB1.out hb); clear HB1 B1 hb q0 q1; have HB1 := nB; have B1 := nR; clear nB nR; have q0 := (blk_cell B1.out 0).trans rfl; have q1 := (blk_cell B1.out 1).trans rfl)
            | (go_at_call 70; refine (HC1.out _ HB1.out B1.out).mono ?_; rw [HIN.out]; rintro e w7 ⟨rfl, hb⟩; have nR := Lib.hid (blk_below B1.out hb); have nB := Lib.hid (below_step HB1.out hb); clear HB1 B1 hb q0 q1; have HB1 := nB; have B1 := nR; clear nB nR; have q0 := (blk_cell B1.out 0).trans rfl; have q1 := (blk_cell B1.out 1).trans rfl))
          go_ret
          rw [HX1.out]
          exact ⟨rfl, HB1.out⟩
      · rw [if_pos hnm] at hE
        obtain ⟨E, hEE⟩ : ∃ E, E = nameV F.f0 := ⟨_, rfl⟩
        rw [← hEE] at hE hnm
        have d9 : (E != 0) = true := by simpa using hnm
        have HX1 := Lib.hid hE
        have HNM := Lib.hid hEE.symm
        clear hE hEE hnm
        go_wp2_with (go_at_call 50; refine (name_calls F.f0 _ hsf (Utf8Tabs_below HT.out HB1.out)).mono ?_; rw [HNM.out]; rintro e w6 ⟨rfl, hb⟩; have nB := Lib.hid (below_step HB1.out hb); clear HB1 hb; have HB1 := nB; clear nB)
        go_ret
        rw [HX1.out]
        exact ⟨rfl, HB1.out⟩
    · obtain rfl : k = n := by omega
      obtain rfl : f = 0 := by omega
      have HZ := Lib.hid (show colsV l = 0 by rw [HE.out]; rfl)
      clear hkf
      go_wp2
      go_ret
      rw [HZ.out]
      exact ⟨rfl, HB.out⟩
end Go.Proofs.YtfgmgcnbponknaaDoor.Val
