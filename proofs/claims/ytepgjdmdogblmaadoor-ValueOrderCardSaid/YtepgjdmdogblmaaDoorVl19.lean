/- Package value: name. Condition: utf8's two tables are laid; the text has at most 2^63 - 1 bytes. Package value: rows held against each other, part by part, by Compare. Condition: utf8's two tables are laid; texts have at most 2^63 - 1 bytes. -/
import Derived.Test.YtepgjdmdogblmaaDoorVl16
namespace Go.Proofs.YtepgjdmdogblmaaDoor.Val
open Go.RowKit Go.Proofs.YtepgjdmdogblmaaDoor.G Go.Proofs.YtepgjdmdogblmaaDoorW.PrintWords Go.Proofs.YtepgjdmdogblmaaDoorW.PrintLast Go.Proofs.YtepgjdmdogblmaaDoorW.PrintMore
set_option linter.unusedVariables false
set_option linter.unusedSimpArgs false
def nameV (s : ByteArray) : Int := if s.size = 0 ∨ 64 < s.size then 4 else if Lib.validD s.data.toList = true then 0 else 9
set_option maxHeartbeats 4000000 in
set_option maxRecDepth 100000 in
theorem name_calls (s : ByteArray) (w : World) (hs : s.size ≤ 9223372036854775807) (hT : Lib.Utf8Tabs 0 1 w) :
    Calls Tryd.prog 55 #[.string s] w fun e w' => e = .returned (.int .i64 (nameV s)) ∧ Below w.heap.size w w' := by
  have HB := Lib.hid (Below.refl w.heap.size w)
  have HT := Lib.hid hT
  clear hT
  by_cases h0 : s.size = 0
  · have e1 : s.toList.isEmpty = true := by rw [empty_of h0]; rfl
    have hX : nameV s = 4 := by unfold nameV; rw [if_pos (Or.inl h0)]
    rw [hX]
    clear h0 hX
    go_enter Tryd.func55, Tryd.ntmps55
    go_wp2
    go_ret
    exact ⟨rfl, HB.out⟩
  · have e1 : s.toList.isEmpty = false := by
      have := nonempty_of h0
      cases h : s.toList with
      | nil => exact absurd h this
      | cons => rfl
    by_cases h6 : 64 < s.size
    · have hX : nameV s = 4 := by unfold nameV; rw [if_pos (Or.inr h6)]
      rw [hX]
      clear h0 hX
      have h6' : decide (64 < (s.size : Int)) = true := decide_eq_true (by omega)
      go_enter Tryd.func55, Tryd.ntmps55
      go_wp2
      go_ret
      exact ⟨rfl, HB.out⟩
    · have h6' : decide (64 < (s.size : Int)) = false := decide_eq_false (by omega)
      have hno : ¬ (s.size = 0 ∨ 64 < s.size) := by omega
      rcases hv : Lib.validD s.data.toList with _ | _
      · have hX : nameV s = 9 := by unfold nameV; rw [if_neg hno, hv]; rfl
        rw [hX]
        have HV := Lib.hid hv
        clear hv h0 h6 hno hX
        go_enter Tryd.func55, Tryd.ntmps55
        go_wp2_with (go_at_call 43; (with_reducible refine (Tryd.utf8_ValidString s _ hs (Utf8Tabs_below HT.out HB.out)).mono ?_); rw [HV.out]; rintro e w2 ⟨rfl, hb⟩; have nB := Lib.hid (below_step HB.out hb); clear HB hb; have HB := nB; clear nB)
        go_ret
        exact ⟨rfl, HB.out⟩
      · have hX : nameV s = 0 := by unfold nameV; rw [if_neg hno, hv]; rfl
        rw [hX]
        have HV := Lib.hid hv
        clear hv h0 h6 hno hX
        go_enter Tryd.func55, Tryd.ntmps55
        go_wp2_with (go_at_call 43; (with_reducible refine (Tryd.utf8_ValidString s _ hs (Utf8Tabs_below HT.out HB.out)).mono ?_); rw [HV.out]; rintro e w2 ⟨rfl, hb⟩; have nB := Lib.hid (below_step HB.out hb); clear HB hb; have HB := nB; clear nB)
        go_ret
        exact ⟨rfl, HB.out⟩
set_option maxHeartbeats 4000000 in
set_option maxRecDepth 100000 in
theorem rname_calls (s : ByteArray) (w : World) (hs : s.size ≤ 9223372036854775804) :
    Calls Tryd.prog 56 #[.string s] w fun e w' => e = .returned (.int .i64 (nameV s)) ∧ Below w.heap.size w w' := by
  have HB := Lib.hid (Below.refl w.heap.size w)
  by_cases h0 : s.size = 0
  · have e1 : s.toList.isEmpty = true := by rw [empty_of h0]; rfl
    have hX : nameV s = 4 := by unfold nameV; rw [if_pos (Or.inl h0)]
    rw [hX]
    clear h0 hX
    go_enter Tryd.func56, Tryd.ntmps56
    go_wp2
    go_ret
    exact ⟨rfl, HB.out⟩
  · have e1 : s.toList.isEmpty = false := by
      have := nonempty_of h0
      cases h : s.toList with
      | nil => exact absurd h this
      | cons => rfl
    by_cases h6 : 64 < s.size
    · have hX : nameV s = 4 := by unfold nameV; rw [if_pos (Or.inr h6)]
      rw [hX]
      clear h0 hX
      have h6' : decide (64 < (s.size : Int)) = true := decide_eq_true (by omega)
      go_enter Tryd.func56, Tryd.ntmps56
      go_wp2
      go_ret
      exact ⟨rfl, HB.out⟩
    · have h6' : decide (64 < (s.size : Int)) = false := decide_eq_false (by omega)
      have hno : ¬ (s.size = 0 ∨ 64 < s.size) := by omega
      rcases hv : Lib.validD s.data.toList with _ | _
      · have hX : nameV s = 9 := by unfold nameV; rw [if_neg hno, hv]; rfl
        rw [hX]
        have HV := Lib.hid hv
        clear hv h0 h6 hno hX
        go_enter Tryd.func56, Tryd.ntmps56
        go_wp2_with (go_at_call 47; (with_reducible refine (utf_calls s _ hs).mono ?_); rw [HV.out]; rintro e w2 ⟨rfl, hb⟩; have nB := Lib.hid (below_step HB.out hb); clear HB hb; have HB := nB; clear nB)
        go_ret
        exact ⟨rfl, HB.out⟩
      · have hX : nameV s = 0 := by unfold nameV; rw [if_neg hno, hv]; rfl
        rw [hX]
        have HV := Lib.hid hv
        clear hv h0 h6 hno hX
        go_enter Tryd.func56, Tryd.ntmps56
        go_wp2_with (go_at_call 47; (with_reducible refine (utf_calls s _ hs).mono ?_); rw [HV.out]; rintro e w2 ⟨rfl, hb⟩; have nB := Lib.hid (below_step HB.out hb); clear HB hb; have HB := nB; clear nB)
        go_ret
        exact ⟨rfl, HB.out⟩
end Go.Proofs.YtepgjdmdogblmaaDoor.Val
namespace Go.Proofs.YtepgjdmdogblmaaDoor.Val
open Go.RowKit Go.Proofs.YtepgjdmdogblmaaDoor.G Go.Proofs.YtepgjdmdogblmaaDoorW.PrintWords Go.Proofs.YtepgjdmdogblmaaDoorW.PrintLast Go.Proofs.YtepgjdmdogblmaaDoorW.PrintMore
set_option linter.unusedVariables false
set_option linter.unusedSimpArgs false
/-- the texts of a row fit -/
def Short (l : List S27) : Prop := ∀ x ∈ l, x.f3.size ≤ 9223372036854775807
instance (l : List S27) : Decidable (Short l) := inferInstanceAs (Decidable (∀ x ∈ l, x.f3.size ≤ 9223372036854775807))
theorem Short.at {l : List S27} (h : Short l) {k : Nat} (hk : k < l.length) : (l.getD k z27).f3.size ≤ 9223372036854775807 := by
  rw [List.getD_eq_getElem?_getD, List.getElem?_eq_getElem hk]
  exact h _ (List.getElem_mem hk)
set_option maxHeartbeats 4000000 in
set_option maxRecDepth 100000 in
theorem compare_cmp (A B : Option Addr) (c d : Nat) (l r : List S27) (w : World) (ha : Kd.C k27 w A l.length l) (hb : Kd.C k27 w B r.length r) (hl : l.length < 4611686018427387904) (hr : r.length < 4611686018427387904) (hsl : Short l) (hsr : Short r) (hT : Lib.Utf8Tabs 0 1 w) :
    Calls Tryd.prog 76 #[.slice A l.length c, .slice B r.length d, .func (.func 16) #[] #[]] w fun e w' => e = .returned (.int .i64 (rowsN cmpV l r)) ∧ Below w.heap.size w w' := by
  have HT := Lib.hid hT
  have HSL := Lib.hid hsl
  have HSR := Lib.hid hsr
  clear hT hsl hsr
  have HA := Lib.hid ha
  have HR := Lib.hid hb
  clear ha hb
  obtain ⟨n, hn⟩ : ∃ n, n = l.length := ⟨_, rfl⟩
  obtain ⟨m, hm⟩ : ∃ m, m = r.length := ⟨_, rfl⟩
  rw [← hn] at HA hl ⊢
  rw [← hm] at HR hr ⊢
  have HN := Lib.hid hn
  have HM := Lib.hid hm
  clear hn hm
  go_enter Tryd.func76, Tryd.ntmps76
  go_wp2
  go_loopw [13] (fun vi wr => ∃ k : Nat, vi = .int .i64 k ∧ k ≤ n ∧ k ≤ m ∧ Hid (rowsN cmpV l r = rowsN cmpV (l.drop k) (r.drop k)) ∧ Hid (Below w.heap.size w wr)) (fun vi _ => n - (intOf vi).toNat)
  case atStart => exact ⟨0, rfl, Nat.zero_le _, Nat.zero_le _, Lib.hid rfl, Lib.hid (Below.refl _ _)⟩
  case round =>
    obtain ⟨k, rfl, hk, hkm, HE, HB⟩ := hrel
    by_cases h1 : k < n
    · have hkl : k < l.length := by rw [← HN.out]; exact h1
      obtain ⟨ad, eA, x0, x1, x2, x3⟩ := at_T27 (Kd.C_below HA.out HB.out) (k : Int) (by omega) (by omega)
      simp only [Int.toNat_natCast] at x0 x1 x2 x3
      have hx : rd_T27 l (k : Int) = l.getD k z27 := by simp [rd_T27]
      rw [hx] at x0 x1 x2 x3
      subst eA
      have hkk : (k : Int) < (n : Int) := by omega
      by_cases h2 : k < m
      · have hkr : k < r.length := by rw [← HM.out]; exact h2
        have hE := HE.out
        rw [drop_at hkl, drop_at hkr] at hE
        obtain ⟨F, hF⟩ : ∃ F, F = l.getD k z27 := ⟨_, rfl⟩
        obtain ⟨G, hG⟩ : ∃ G, G = r.getD k z27 := ⟨_, rfl⟩
        have hy : rd_T27 r (k : Int) = G := by rw [hG]; simp [rd_T27]
        have SF := Lib.hid (HSL.out.at hkl)
        have SG := Lib.hid (HSR.out.at hkr)
        rw [← hF] at x0 x1 x2 x3 hE SF
        rw [← hG] at SG
        rw [← hG] at hE
        have HE2 := Lib.hid hE
        clear hE HE hF hG hx
        have hmm : (k : Int) < (m : Int) := by omega
        go_upto_region 6 with (fail)
        obtain ⟨W1, hW1⟩ : ∃ W1, W1 = wr.alloc (.cells #[.int .u8 F.f0, .bool F.f1, .int .i64 F.f2, .string F.f3] 27 (0, 0)) := ⟨_, rfl⟩
        obtain ⟨g1, hg1⟩ : ∃ g, g = wr.heap.size := ⟨_, rfl⟩
        have B1 : Hid (W1.heap[g1]? = some (.cells #[.int .u8 F.f0, .bool F.f1, .int .i64 F.f2, .string F.f3] 27 (0, 0))) := Lib.hid (by rw [hW1, hg1]; exact blk_new wr _)
        have HB1 : Hid (Below w.heap.size w W1) := Lib.hid (by rw [hW1]; exact HB.out.alloc HB.out.size _)
        rw [← hg1, ← hW1]
        clear hW1 hg1 x0 x1 x2 x3 HB
        obtain ⟨bd, eB, y0, y1, y2, y3⟩ := at_T27 (Kd.C_below HR.out HB1.out) (k : Int) (by omega) (by omega)
        simp only [Int.toNat_natCast] at y0 y1 y2 y3
        rw [hy] at y0 y1 y2 y3
        subst eB
        clear hy
        have l1 := blk_lt B1.out
        have q0 := (blk_cell B1.out 0).trans rfl
        have q1 := (blk_cell B1.out 1).trans rfl
        have q2 := (blk_cell B1.out 2).trans rfl
        have q3 := (blk_cell B1.out 3).trans rfl
        by_cases h0 : cmpV F G = 0
        · have HEE := Lib.hid h0
          have HX : Hid (rowsN cmpV l r = rowsN cmpV (l.drop (k + 1)) (r.drop (k + 1))) := Lib.hid (by rw [HE2.out, rowsN, if_pos h0])
          clear h0 HE2
          go_wp2_with (first
            | (go_at_call 16; refine (compare_calls F.f0 G.f0 F.f1 G.f1 F.f2 G.f2 F.f3 G.f3 _ SF.out SG.out (Utf8Tabs_below HT.out (HB1.out.alloc HB1.out.size _))).mono ?_; rintro e w6 ⟨rfl, hb⟩; have nB := Lib.hid (below_step (HB1.out.alloc HB1.out.size _) hb); clear HB1 hb; have HB1 := nB; clear nB; rw [HEE.out]))
          go_roundw
          case rel => exact ⟨k + 1, by simp, h1, h2, HX, HB1⟩
          case measure => simp [intOf]; omega
        · have HX : Hid (rowsN cmpV l r = cmpV F G) := Lib.hid (by rw [HE2.out, rowsN, if_neg h0])
          obtain ⟨E, hE⟩ : ∃ E, E = cmpV F G := ⟨_, rfl⟩
          have HEE := Lib.hid hE.symm
          rw [← hE] at h0 HX
          have d0 : (E != 0) = true := by simpa using h0
          clear hE HE2 h0
          go_wp2_with (first
            | (go_at_call 16; refine (compare_calls F.f0 G.f0 F.f1 G.f1 F.f2 G.f2 F.f3 G.f3 _ SF.out SG.out (Utf8Tabs_below HT.out (HB1.out.alloc HB1.out.size _))).mono ?_; rintro e w6 ⟨rfl, hb⟩; have nB := Lib.hid (below_step (HB1.out.alloc HB1.out.size _) hb); clear HB1 hb; have HB1 := nB; clear nB; rw [HEE.out]))
          go_ret
          rw [HX.out]
          exact ⟨rfl, HB1.out⟩
      · obtain rfl : k = m := by omega
        have HX : Hid (rowsN cmpV l r = 1) := Lib.hid (by rw [HE.out, drop_at hkl, show r.drop k = [] from List.drop_of_length_le (by rw [← HM.out]; exact Nat.le_refl _)]; rfl)
        go_wp2
        go_ret
        rw [HX.out]
        exact ⟨rfl, HB.out.alloc HB.out.size _⟩
    · obtain rfl : k = n := by omega
      have hlk : l.drop k = [] := List.drop_of_length_le (by rw [← HN.out]; exact Nat.le_refl _)
      by_cases h2 : k < m
      · have HX : Hid (rowsN cmpV l r = -1) := Lib.hid (by rw [HE.out, hlk, drop_at (by rw [← HM.out]; exact h2)]; rfl)
        have h2' : (k : Int) < (m : Int) := by omega
        clear hlk
        go_wp2
        go_ret
        rw [HX.out]
        exact ⟨rfl, HB.out⟩
      · have HX : Hid (rowsN cmpV l r = 0) := Lib.hid (by rw [HE.out, hlk, show r.drop k = [] from List.drop_of_length_le (by have := HM.out; omega)]; rfl)
        have h2' : ¬ (k : Int) < (m : Int) := by omega
        clear hlk
        go_wp2
        go_ret
        rw [HX.out]
        exact ⟨rfl, HB.out⟩
theorem each_cmp (A B : Option Addr) (c d : Nat) (l r : List S27) (w : World) (ha : Kd.C k27 w A l.length l) (hb : Kd.C k27 w B r.length r) (hl : l.length < 4611686018427387904) (hr : r.length < 4611686018427387904) (hsl : Short l) (hsr : Short r) (hT : Lib.Utf8Tabs 0 1 w) :
    Calls Tryd.prog 51 #[.slice A l.length c, .slice B r.length d, .func (.func 16) #[] #[]] w fun e w' => e = .returned (.int .i64 (rowsN cmpV l r)) ∧ Below w.heap.size w w' := by
  have HT := Lib.hid hT
  have HSL := Lib.hid hsl
  have HSR := Lib.hid hsr
  clear hT hsl hsr
  have HA := Lib.hid ha
  have HR := Lib.hid hb
  clear ha hb
  go_enter Tryd.func51, Tryd.ntmps51
  go_wp2_with (first
    | (go_at_call 76; refine (compare_cmp A B c d l r _ HA.out HR.out hl hr HSL.out HSR.out HT.out).mono ?_; rintro e w6 ⟨rfl, hb⟩))
  go_ret
  exact ⟨rfl, hb⟩
theorem rows_calls (A B : Option Addr) (c d : Nat) (l r : List S27) (w : World) (ha : Kd.C k27 w A l.length l) (hb : Kd.C k27 w B r.length r) (hl : l.length < 4611686018427387904) (hr : r.length < 4611686018427387904) (hsl : Short l) (hsr : Short r) (hT : Lib.Utf8Tabs 0 1 w) :
    Calls Tryd.prog 24 #[.slice A l.length c, .slice B r.length d] w fun e w' => e = .returned (.int .i64 (rowsN cmpV l r)) ∧ Below w.heap.size w w' := by
  have HT := Lib.hid hT
  have HSL := Lib.hid hsl
  have HSR := Lib.hid hsr
  have HA := Lib.hid ha
  have HR := Lib.hid hb
  clear ha hb hT hsl hsr
  go_enter Tryd.func24, Tryd.ntmps24
  go_wp2_with (first
    | (go_at_call 51; refine (each_cmp A B c d l r _ HA.out HR.out hl hr HSL.out HSR.out HT.out).mono ?_; rintro e w6 ⟨rfl, hb⟩))
  go_ret
  exact ⟨rfl, hb⟩
end Go.Proofs.YtepgjdmdogblmaaDoor.Val
