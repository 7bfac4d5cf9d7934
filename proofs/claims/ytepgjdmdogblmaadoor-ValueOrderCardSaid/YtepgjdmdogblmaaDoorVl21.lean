/- Package value: a column's name looked for in a list. No condition but that the columns are read. Package value: CheckCols. Condition: utf8's two tables are laid; the columns are read, their names have at most 2^63 - 1 bytes. -/
import Derived.Test.YtepgjdmdogblmaaDoorVl19
import Derived.Test.YtepgjdmdogblmaaDoorLq0
namespace Go.Proofs.YtepgjdmdogblmaaDoor.Val
open Go.RowKit Go.Proofs.YtepgjdmdogblmaaDoor.G Go.Proofs.YtepgjdmdogblmaaDoor.Lx Go.Proofs.YtepgjdmdogblmaaDoorW.PrintWords Go.Proofs.YtepgjdmdogblmaaDoorW.PrintLast Go.Proofs.YtepgjdmdogblmaaDoorW.PrintMore
set_option linter.unusedVariables false
set_option linter.unusedSimpArgs false
def sameS (a b : ByteArray) : Bool := a.toList == b.toList
def idxF (nm : ByteArray) : List S36 → Nat → Int
  | [], _ => -1
  | x :: r, k => if sameS x.f0 nm = true then (k : Int) else idxF nm r (k + 1)
theorem idxF_any (nm : ByteArray) : ∀ (l : List S36) (k : Nat), decide (idxF nm l k ≥ 0) = l.any fun x => sameS x.f0 nm
  | [], _ => rfl
  | x :: r, k => by
    unfold idxF
    rcases h : sameS x.f0 nm with _ | _
    · simp [h, idxF_any nm r (k + 1)]
    · simp [h]
theorem drop_at36 {l : List S36} {k : Nat} (h : k < l.length) : l.drop k = l.getD k z36 :: l.drop (k + 1) := by
  rw [List.getD_eq_getElem?_getD, List.getElem?_eq_getElem h]
  exact List.drop_eq_getElem_cons h
set_option maxHeartbeats 4000000 in
set_option maxRecDepth 100000 in
theorem same_name (x : S36) (g : Nat) (nm : ByteArray) (kd : Int) (w : World) (hc : w.heap[g]? = some (.cells #[.string nm, .int .u8 kd] 36 (0, 0))) :
    Calls Tryd.prog 58 #[.agg #[.string x.f0, .int .u8 x.f1], .pointer (some ⟨g, 0, none⟩)] w fun e w' => e = .returned (.bool (sameS x.f0 nm)) ∧ Below w.heap.size w w' := by
  have HC := Lib.hid hc
  clear hc
  have lg := blk_lt HC.out
  have p0 := (blk_cell HC.out 0).trans rfl
  have p1 := (blk_cell HC.out 1).trans rfl
  obtain ⟨b, hb⟩ : ∃ b, b = sameS x.f0 nm := ⟨_, rfl⟩
  have hb' : (x.f0.toList == nm.toList) = b := by rw [hb]; rfl
  rw [← hb]
  clear hb
  go_enter Tryd.func58, Tryd.ntmps58
  go_wp2
  go_ret
  exact ⟨rfl, (Below.refl _ _).alloc (Nat.le_refl _) _⟩
set_option maxHeartbeats 4000000 in
set_option maxRecDepth 100000 in
theorem index_calls (A : Option Addr) (c : Nat) (l : List S36) (g : Nat) (nm : ByteArray) (kd : Int) (w : World) (ha : Kd.C k36 w A l.length l) (hl : l.length < 4611686018427387904) (hc : w.heap[g]? = some (.cells #[.string nm, .int .u8 kd] 36 (0, 0))) :
    Calls Tryd.prog 77 #[.slice A l.length c, .func (.func 58) #[] #[.pointer (some ⟨g, 0, none⟩)]] w fun e w' => e = .returned (.int .i64 (idxF nm l 0)) ∧ Below w.heap.size w w' := by
  have HA := Lib.hid ha
  have HC := Lib.hid hc
  clear ha hc
  obtain ⟨n, hn⟩ : ∃ n, n = l.length := ⟨_, rfl⟩
  rw [← hn] at HA hl ⊢
  have HN := Lib.hid hn
  clear hn
  go_enter Tryd.func77, Tryd.ntmps77
  go_wp2
  go_loopw [8] (fun vi wr => ∃ k : Nat, vi = .int .i64 k ∧ k ≤ n ∧ Hid (idxF nm l 0 = idxF nm (l.drop k) k) ∧ Hid (Below w.heap.size w wr)) (fun vi _ => n - (intOf vi).toNat)
  case atStart => exact ⟨0, rfl, Nat.zero_le _, Lib.hid rfl, Lib.hid (Below.refl _ _)⟩
  case round =>
    obtain ⟨k, rfl, hk, HE, HB⟩ := hrel
    by_cases h1 : k < n
    · have hkl : k < l.length := by rw [← HN.out]; exact h1
      obtain ⟨ad, eA, x0, x1⟩ := at_T36 (Kd.C_below HA.out HB.out) (k : Int) (by omega) (by omega)
      simp only [Int.toNat_natCast] at x0 x1
      have hx : rd_T36 l (k : Int) = l.getD k z36 := by simp [rd_T36]
      rw [hx] at x0 x1
      subst eA
      have hE := HE.out
      rw [drop_at36 hkl] at hE
      obtain ⟨F, hF⟩ : ∃ F, F = l.getD k z36 := ⟨_, rfl⟩
      rw [← hF] at x0 x1 hE
      have hkk : (k : Int) < (n : Int) := by omega
      clear HE hF hx
      rcases hs : sameS F.f0 nm with _ | _
      · have HX := Lib.hid (show idxF nm l 0 = idxF nm (l.drop (k + 1)) (k + 1) by rw [hE, idxF, hs]; rfl)
        have HS := Lib.hid hs
        clear hE hs
        go_wp2_with (go_at_call 58; refine (same_name F g nm kd _ (blk_below HC.out HB.out)).mono ?_; rw [HS.out]; rintro e w6 ⟨rfl, hb⟩; have nB := Lib.hid (below_step HB.out hb); clear HB hb x0 x1; have HB := nB; clear nB)
        go_roundw
        case rel => exact ⟨k + 1, by simp, h1, HX, HB⟩
        case measure => simp [intOf]; omega
      · have HX := Lib.hid (show idxF nm l 0 = k by rw [hE, idxF, hs]; rfl)
        have HS := Lib.hid hs
        clear hE hs
        go_wp2_with (go_at_call 58; refine (same_name F g nm kd _ (blk_below HC.out HB.out)).mono ?_; rw [HS.out]; rintro e w6 ⟨rfl, hb⟩; have nB := Lib.hid (below_step HB.out hb); clear HB hb x0 x1; have HB := nB; clear nB)
        go_ret
        rw [HX.out]
        exact ⟨rfl, HB.out⟩
    · obtain rfl : k = n := by omega
      have HX := Lib.hid (show idxF nm l 0 = -1 by rw [HE.out, show l.drop k = [] from List.drop_of_length_le (by rw [← HN.out]; exact Nat.le_refl _)]; rfl)
      go_wp2
      go_ret
      rw [HX.out]
      exact ⟨rfl, HB.out⟩
def inS (nm : ByteArray) (l : List S36) : Bool := decide (idxF nm l 0 ≥ 0)
theorem inS_any (nm : ByteArray) (l : List S36) : inS nm l = l.any fun x => sameS x.f0 nm := idxF_any nm l 0
set_option maxHeartbeats 4000000 in
set_option maxRecDepth 100000 in
theorem contains_calls (A : Option Addr) (c : Nat) (l : List S36) (g : Nat) (nm : ByteArray) (kd : Int) (w : World) (ha : Kd.C k36 w A l.length l) (hl : l.length < 4611686018427387904) (hc : w.heap[g]? = some (.cells #[.string nm, .int .u8 kd] 36 (0, 0))) :
    Calls Tryd.prog 57 #[.slice A l.length c, .func (.func 58) #[] #[.pointer (some ⟨g, 0, none⟩)]] w fun e w' => e = .returned (.bool (inS nm l)) ∧ Below w.heap.size w w' := by
  have HA := Lib.hid ha
  have HC := Lib.hid hc
  clear ha hc
  obtain ⟨n, hn⟩ : ∃ n, n = idxF nm l 0 := ⟨_, rfl⟩
  obtain ⟨b, hb⟩ : ∃ b, b = inS nm l := ⟨_, rfl⟩
  have hd : decide (n ≥ 0) = b := by rw [hb, hn]; rfl
  rw [← hb]
  have HN := Lib.hid hn
  clear hn hb
  go_enter Tryd.func57, Tryd.ntmps57
  go_wp2_with (go_at_call 77; refine (index_calls A c l g nm kd _ HA.out hl HC.out).mono ?_; rw [← HN.out]; rintro e w6 ⟨rfl, hb⟩)
  go_ret
  exact ⟨rfl, hb⟩
end Go.Proofs.YtepgjdmdogblmaaDoor.Val
namespace Go.Proofs.YtepgjdmdogblmaaDoor.Val
open Go.RowKit Go.Proofs.YtepgjdmdogblmaaDoor.G Go.Proofs.YtepgjdmdogblmaaDoor.Lx Go.Proofs.YtepgjdmdogblmaaDoorW.PrintWords Go.Proofs.YtepgjdmdogblmaaDoorW.PrintLast Go.Proofs.YtepgjdmdogblmaaDoorW.PrintMore
set_option linter.unusedVariables false
set_option linter.unusedSimpArgs false
def colsF (l : List S36) : Nat → Nat → Int
  | 0, _ => 0
  | f + 1, k => if nameV (l.getD k z36).f0 ≠ 0 then nameV (l.getD k z36).f0 else if inS (l.getD k z36).f0 (l.take k) = true then 15 else if (l.getD k z36).f1 = 0 ∨ 4 ≤ (l.getD k z36).f1 then 5 else colsF l f (k + 1)
def colsV (l : List S36) : Int := if l.length = 0 ∨ 8 < l.length then 3 else colsF l l.length 0
/-- the names fit -/
def ShortC (l : List S36) : Prop := ∀ x ∈ l, x.f0.size ≤ 9223372036854775807
instance (l : List S36) : Decidable (ShortC l) := inferInstanceAs (Decidable (∀ x ∈ l, x.f0.size ≤ 9223372036854775807))
theorem ShortC.at {l : List S36} (h : ShortC l) {k : Nat} (hk : k < l.length) : (l.getD k z36).f0.size ≤ 9223372036854775807 := by
  rw [List.getD_eq_getElem?_getD, List.getElem?_eq_getElem hk]
  exact h _ (List.getElem_mem hk)
set_option maxHeartbeats 4000000 in
set_option maxRecDepth 100000 in
theorem cols_calls (A : Option Addr) (c : Nat) (l : List S36) (w : World) (ha : Kd.C k36 w A l.length l) (hc : l.length ≤ c) (hl : l.length < 4611686018427387904) (hs : ShortC l) (hT : Lib.Utf8Tabs 0 1 w) :
    Calls Tryd.prog 33 #[.slice A l.length c] w fun e w' => e = .returned (.int .i64 (colsV l)) ∧ Below w.heap.size w w' := by
  have HT := Lib.hid hT
  have HS := Lib.hid hs
  have HA := Lib.hid ha
  clear ha hT hs
  obtain ⟨n, hn⟩ : ∃ n, n = l.length := ⟨_, rfl⟩
  rw [← hn] at HA hl hc ⊢
  have HN := Lib.hid hn
  clear hn
  by_cases h0 : n = 0
  · subst h0
    have hX : colsV l = 3 := by unfold colsV; rw [if_pos (Or.inl HN.out.symm)]
    rw [hX]
    go_enter Tryd.func33, Tryd.ntmps33
    go_wp2
    go_ret
    exact ⟨rfl, Below.refl _ _⟩
  by_cases h8 : 8 < n
  · have hX : colsV l = 3 := by unfold colsV; rw [if_pos (Or.inr (by rw [← HN.out]; exact h8))]
    rw [hX]
    have d0 : ((n : Int) == 0) = false := by simpa using h0
    have d8 : decide (8 < (n : Int)) = true := decide_eq_true (by omega)
    go_enter Tryd.func33, Tryd.ntmps33
    go_wp2
    go_ret
    exact ⟨rfl, Below.refl _ _⟩
  have d0 : ((n : Int) == 0) = false := by simpa using h0
  have d8 : decide (8 < (n : Int)) = false := decide_eq_false (by omega)
  have HX := Lib.hid (show colsV l = colsF l n 0 by unfold colsV; rw [if_neg (by rw [← HN.out]; omega), ← HN.out])
  go_enter Tryd.func33, Tryd.ntmps33
  go_wp2
  go_loopw [16] (fun vi wr => ∃ k f : Nat, n = k + f ∧ vi = .int .i64 k ∧ Hid (colsV l = colsF l f k) ∧ Hid (Below w.heap.size w wr)) (fun vi _ => n - (intOf vi).toNat)
  case atStart => exact ⟨0, n, by omega, rfl, HX, Lib.hid (Below.refl _ _)⟩
  case round =>
    obtain ⟨k, f, hkf, rfl, HE, HB⟩ := hrel
    by_cases h1 : k < n
    · have hkl : k < l.length := by rw [← HN.out]; exact h1
      obtain ⟨ad, eA, x0, x1⟩ := at_T36 (Kd.C_below HA.out HB.out) (k : Int) (by omega) (by omega)
      simp only [Int.toNat_natCast] at x0 x1
      have hx : rd_T36 l (k : Int) = l.getD k z36 := by simp [rd_T36]
      rw [hx] at x0 x1
      have HAT := Lib.hid (Kd.C_take (by rw [← HN.out]; exact HA.out) (Nat.le_of_lt hkl))
      have HAK := Lib.hid (show (l.take k).length = k by rw [List.length_take]; omega)
      subst eA
      obtain ⟨f, rfl⟩ : ∃ f', f = f' + 1 := ⟨f - 1, by omega⟩
      have HKF := Lib.hid (show n = (k + 1) + f by omega)
      clear hkf
      have hE := HE.out
      rw [colsF] at hE
      have hsf := HS.out.at hkl
      obtain ⟨F, hF⟩ : ∃ F, F = l.getD k z36 := ⟨_, rfl⟩
      rw [← hF] at x0 x1 hE hsf
      clear HX HE hF hx
      have hkk : (k : Int) < (n : Int) := by omega
      go_upto_region 6 with (fail)
      obtain ⟨W1, hW1⟩ : ∃ W1, W1 = wr.alloc (.cells #[.string F.f0, .int .u8 F.f1] 36 (0, 0)) := ⟨_, rfl⟩
      obtain ⟨g1, hg1⟩ : ∃ g, g = wr.heap.size := ⟨_, rfl⟩
      have B1 : Hid (W1.heap[g1]? = some (.cells #[.string F.f0, .int .u8 F.f1] 36 (0, 0))) := Lib.hid (by rw [hW1, hg1]; exact blk_new wr _)
      have HB1 : Hid (Below w.heap.size w W1) := Lib.hid (by rw [hW1]; exact HB.out.alloc HB.out.size _)
      rw [← hg1, ← hW1]
      clear hW1 hg1 x0 x1 HB
      have l1 := blk_lt B1.out
      have q0 := (blk_cell B1.out 0).trans rfl
      have q1 := (blk_cell B1.out 1).trans rfl
      by_cases hnm : nameV F.f0 = 0
      · rw [if_neg (by simp [hnm])] at hE
        have HNM := Lib.hid hnm
        clear hnm
        have HCC := fun (wx : World) (hx : Below w.heap.size w wx) (hg : wx.heap[g1]? = some (.cells #[.string F.f0, .int .u8 F.f1] 36 (0, 0))) => contains_calls (some ad) c (l.take k) g1 F.f0 F.f1 wx (Kd.C_below HAT.out hx) (by rw [HAK.out]; omega) hg
        rw [HAK.out] at HCC
        have HC1 := Lib.hid HCC
        clear HCC
        rcases hin : inS F.f0 (l.take k) with _ | _
        · rw [if_neg (by simp [hin])] at hE
          have HIN := Lib.hid hin
          clear hin
          by_cases hk0 : F.f1 = 0 ∨ 4 ≤ F.f1
          · rw [if_pos hk0] at hE
            have HX1 := Lib.hid hE
            clear hE
            rcases hk0 with hk0 | hk0
            · have e1 : (F.f1 == 0) = true := by simpa using hk0
              clear hk0
              go_wp2_with (first
                | (go_at_call 55; refine (name_calls F.f0 _ hsf (Utf8Tabs_below HT.out HB1.out)).mono ?_; rw [HNM.out]; rintro e w6 ⟨rfl, hb⟩; have nR := Lib.hid (blk_below B1.out hb); have nB := Lib.hid (below_step HB1.out hb); clear HB1 B1 hb q0 q1; have HB1 := nB; have B1 := nR; clear nB nR; have q0 := (blk_cell B1.out 0).trans rfl; have q1 := (blk_cell B1.out 1).trans rfl)
                | (go_at_call 57; refine (HC1.out _ HB1.out B1.out).mono ?_; rw [HIN.out]; rintro e w7 ⟨rfl, hb⟩; have nR := Lib.hid (blk_below B1.out hb); have nB := Lib.hid (below_step HB1.out hb); clear HB1 B1 hb q0 q1; have HB1 := nB; have B1 := nR; clear nB nR; have q0 := (blk_cell B1.out 0).trans rfl; have q1 := (blk_cell B1.out 1).trans rfl))
              go_ret
              rw [HX1.out]
              exact ⟨rfl, HB1.out⟩
            · have e1 : (F.f1 == 0) = false := by simpa using (show ¬ F.f1 = 0 by omega)
              have e2 : decide (F.f1 ≥ 4) = true := decide_eq_true hk0
              go_wp2_with (first
                | (go_at_call 55; refine (name_calls F.f0 _ hsf (Utf8Tabs_below HT.out HB1.out)).mono ?_; rw [HNM.out]; rintro e w6 ⟨rfl, hb⟩; have nR := Lib.hid (blk_below B1.out hb); have nB := Lib.hid (below_step HB1.out hb); clear HB1 B1 hb q0 q1; have HB1 := nB; have B1 := nR; clear nB nR; have q0 := (blk_cell B1.out 0).trans rfl; have q1 := (blk_cell B1.out 1).trans rfl)
                | (go_at_call 57; refine (HC1.out _ HB1.out B1.out).mono ?_; rw [HIN.out]; rintro e w7 ⟨rfl, hb⟩; have nR := Lib.hid (blk_below B1.out hb); have nB := Lib.hid (below_step HB1.out hb); clear HB1 B1 hb q0 q1; have HB1 := nB; have B1 := nR; clear nB nR; have q0 := (blk_cell B1.out 0).trans rfl; have q1 := (blk_cell B1.out 1).trans rfl))
              go_ret
              rw [HX1.out]
              exact ⟨rfl, HB1.out⟩
          · rw [if_neg hk0] at hE
            have HX1 := Lib.hid hE
            have e1 : (F.f1 == 0) = false := by simpa using (show ¬ F.f1 = 0 by omega)
            have e2 : decide (F.f1 ≥ 4) = false := decide_eq_false (by omega)
            clear hE hk0
            go_wp2_with (first
              | (go_at_call 55; refine (name_calls F.f0 _ hsf (Utf8Tabs_below HT.out HB1.out)).mono ?_; rw [HNM.out]; rintro e w6 ⟨rfl, hb⟩; have nR := Lib.hid (blk_below B1.out hb); have nB := Lib.hid (below_step HB1.out hb); clear HB1 B1 hb q0 q1; have HB1 := nB; have B1 := nR; clear nB nR; have q0 := (blk_cell B1.out 0).trans rfl; have q1 := (blk_cell B1.out 1).trans rfl)
              | (go_at_call 57; refine (HC1.out _ HB1.out B1.out).mono ?_; rw [HIN.out]; rintro e w7 ⟨rfl, hb⟩; have nR := Lib.hid (blk_below B1.out hb); have nB := Lib.hid (below_step HB1.out hb); clear HB1 B1 hb q0 q1; have HB1 := nB; have B1 := nR; clear nB nR; have q0 := (blk_cell B1.out 0).trans rfl; have q1 := (blk_cell B1.out 1).trans rfl))
            go_roundw
            case rel => exact ⟨k + 1, f, HKF.out, by simp, HX1, HB1⟩
            case measure => simp [intOf]; omega
        · rw [if_pos hin] at hE
          have HX1 := Lib.hid hE
          have HIN := Lib.hid hin
          clear hin hE
          go_wp2_with (first
            | (go_at_call 55; refine (name_calls F.f0 _ hsf (Utf8Tabs_below HT.out HB1.out)).mono ?_; rw [HNM.out]; rintro e w6 ⟨rfl, hb⟩; have nR := Lib.hid (blk_below B1.out hb); have nB := Lib.hid (below_step HB1.out hb); clear HB1 B1 hb q0 q1; have HB1 := nB; have B1 := nR; clear nB nR; have q0 := (blk_cell B1.out 0).trans rfl; have q1 := (blk_cell B1.out 1).trans rfl)
            | (go_at_call 57; refine (HC1.out _ HB1.out B1.out).mono ?_; rw [HIN.out]; rintro e w7 ⟨rfl, hb⟩; have nR := Lib.hid (blk_below B1.out hb); have nB := Lib.hid (below_step HB1.out hb); clear HB1 B1 hb q0 q1; have HB1 := nB; have B1 := nR; clear nB nR; have q0 := (blk_cell B1.out 0).trans rfl; have q1 := (blk_cell B1.out 1).trans rfl))
          go_ret
          rw [HX1.out]
          exact ⟨rfl, HB1.out⟩
      · rw [if_pos hnm] at hE
        obtain ⟨E, hEE⟩ : ∃ E, E = nameV F.f0 := ⟨_, rfl⟩
        rw [← hEE] at hE hnm
        have d9 : (E != 0) = true := by simpa using hnm
        have HX1 := Lib.hid hE
        have HNM := Lib.hid hEE.symm
        clear hE hEE hnm
        go_wp2_with (go_at_call 55; refine (name_calls F.f0 _ hsf (Utf8Tabs_below HT.out HB1.out)).mono ?_; rw [HNM.out]; rintro e w6 ⟨rfl, hb⟩; have nB := Lib.hid (below_step HB1.out hb); clear HB1 hb; have HB1 := nB; clear nB)
        go_ret
        rw [HX1.out]
        exact ⟨rfl, HB1.out⟩
    · obtain rfl : k = n := by omega
      obtain rfl : f = 0 := by omega
      have HZ := Lib.hid (show colsV l = 0 by rw [HE.out]; rfl)
      clear hkf
      go_wp2
      go_ret
      rw [HZ.out]
      exact ⟨rfl, HB.out⟩
end Go.Proofs.YtepgjdmdogblmaaDoor.Val
