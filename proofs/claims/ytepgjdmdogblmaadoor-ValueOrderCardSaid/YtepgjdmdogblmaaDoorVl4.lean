/- Package slices: two rows sorted by insertion. No condition but that the rows are read. -/
import Derived.Test.YtepgjdmdogblmaaDoorVl3
namespace Go.Proofs.YtepgjdmdogblmaaDoor.Val
open Go.RowKit Go.Proofs.YtepgjdmdogblmaaDoor.G Go.Proofs.YtepgjdmdogblmaaDoorW.PrintWords Go.Proofs.YtepgjdmdogblmaaDoorW.PrintLast Go.Proofs.YtepgjdmdogblmaaDoorW.PrintMore
set_option linter.unusedVariables false
set_option linter.unusedSimpArgs false
theorem w64_0 : wrap64 0 = 0 := by unfold wrap64; omega
def Two (w : World) (g : Nat) (v0 v1 : Value) : Prop := ∃ cs, w.heap[g]? = some (.cells cs 33 (0, 0)) ∧ cs[0]? = some v0 ∧ cs[1]? = some v1
section
variable {w w1 : World} {g : Nat} {v0 v1 : Value}
theorem Two.c0 (h : Two w g v0 v1) : w.cell? ⟨g, 0, none⟩ = some v0 := by obtain ⟨cs, hg, h0, h1⟩ := h; exact (blk_cell hg 0).trans h0
theorem Two.c1 (h : Two w g v0 v1) : w.cell? ⟨g, 1, none⟩ = some v1 := by obtain ⟨cs, hg, h0, h1⟩ := h; exact (blk_cell hg 1).trans h1
theorem Two.fr (h : Two w g v0 v1) (i : Nat) : w.frozen? ⟨g, i, none⟩ = false := by obtain ⟨cs, hg, h0, h1⟩ := h; exact blk_frozen hg i
theorem Two.below (h : Two w g v0 v1) (hb : Below w.heap.size w w1) : Two w1 g v0 v1 := by obtain ⟨cs, hg, h0, h1⟩ := h; exact ⟨cs, blk_below hg hb, h0, h1⟩
theorem Two.drew (h : Two w g v0 v1) : Two w.drew g v0 v1 := by obtain ⟨cs, hg, h0, h1⟩ := h; exact ⟨cs, blk_drew hg, h0, h1⟩
theorem Two.drewN (h : Two w g v0 v1) (n : Nat) : Two (w.drewN n) g v0 v1 := by obtain ⟨cs, hg, h0, h1⟩ := h; exact ⟨cs, blk_drewN hg n, h0, h1⟩
theorem Two.put0 (h : Two w g v0 v1) (u : Value) : Two (w.setCell ⟨g, 0, none⟩ u) g u v1 := by
  obtain ⟨cs, hg, h0, h1⟩ := h
  have hl : 0 < cs.size := by
    rcases Nat.lt_or_ge 0 cs.size with h | h
    · exact h
    · rw [Array.getElem?_eq_none h] at h0; cases h0
  exact ⟨_, blk_put hg 0 u rfl, by simp [hl], by rw [Array.getElem?_setIfInBounds_ne (by decide)]; exact h1⟩
theorem Two.put1 (h : Two w g v0 v1) (u : Value) : Two (w.setCell ⟨g, 1, none⟩ u) g v0 u := by
  obtain ⟨cs, hg, h0, h1⟩ := h
  have hl : 1 < cs.size := by
    rcases Nat.lt_or_ge 1 cs.size with h | h
    · exact h
    · rw [Array.getElem?_eq_none h] at h1; cases h1
  exact ⟨_, blk_put hg 1 u rfl, by rw [Array.getElem?_setIfInBounds_ne (by decide)]; exact h0, by simp [hl]⟩
end
def ins4_T : Bool × List (List Nat × List Nat) := (true, [([], []), ([], []), ([0, 1], [0, 1]), ([2], [2]), ([3], [3]), ([3], [3]), ([3], [3]), ([5, 6, 3], [3, 5, 6]), ([7, 3], [3, 7]), ([3], [3]), ([3], [3]), ([10, 3], [3, 10]), ([9, 11, 3], [3, 9, 11]), ([12, 3], [3, 12]), ([4, 8, 13, 3, 3], [3, 4, 8, 13]), ([14, 3], [3, 14]), ([3, 15], [3, 15])])
def ins4_B : List Nat := [0, 0, 3, 7, 15, 15, 15, 111, 239, 15, 15, 1039, 3599, 7695, 16383, 32767, 65535]
theorem ins4_tab : rtab .any (opsOf Tryd.f88 4) = ins4_T := by kernel_rfl
theorem ins4_bits : waitsOk ins4_T.2 ins4_B = true := by kernel_rfl
def ins6_T : Bool × List (List Nat × List Nat) := (true, [([], []), ([], []), ([], []), ([], []), ([3], [3]), ([], []), ([], []), ([6], [6]), ([5, 7], [5, 7]), ([8], [8]), ([], []), ([], []), ([10, 11], [10, 11]), ([12], [12]), ([0, 1, 0, 1, 5, 6, 7, 8, 9, 13], [0, 1]), ([14, 9, 0, 1, 5, 6, 7, 8, 9, 13], [9, 14]), ([2, 4, 0, 1, 2, 3, 4, 5, 6, 7, 8, 9, 10, 11, 12, 13, 14, 15], [2, 4]), ([16, 13, 15, 0, 1, 2, 3, 4, 5, 6, 7, 8, 9, 10, 11, 12, 13, 14, 15], [13, 16])])
def ins6_B : List Nat := [0, 0, 0, 0, 8, 0, 0, 64, 224, 480, 0, 0, 3072, 7168, 16355, 32739, 65535, 131071]
theorem ins6_tab : rtab .any (opsOf Tryd.f88 6) = ins6_T := by kernel_rfl
theorem ins6_bits : waitsOk ins6_T.2 ins6_B = true := by kernel_rfl
set_option maxHeartbeats 4000000 in
set_option maxRecDepth 100000 in
theorem ins_swap (base g c : Nat) (A0 A1 : Option Addr) (c0 c1 : Nat) (l0 l1 : List S27) (v0 v1 : Value) (w : World) (e0 : v0 = .slice A0 l0.length c0) (e1 : v1 = .slice A1 l1.length c1) (hT : Two w g v0 v1) (hr0 : ∀ w', KeepBut w w' g none → Kd.C k27 w' A0 l0.length l0) (hr1 : ∀ w', KeepBut w w' g none → Kd.C k27 w' A1 l1.length l1) (hl0 : l0.length < 4611686018427387904) (hl1 : l1.length < 4611686018427387904) (hbg : base ≤ g) (hbw : base ≤ w.heap.size) (hs : rowsN exactN l1 l0 < 0) :
    Calls Tryd.prog 88 #[.slice (some ⟨g, 0, none⟩) 2 c, .int .i64 0, .int .i64 2, .func (.func 63) #[] #[]] w fun e w' => e = .returned (.tuple #[]) ∧ Two w' g v1 v0 ∧ Below base w w' ∧ KeepBut w w' g none := by
  obtain ⟨E, hE⟩ : ∃ E, E = rowsN exactN l1 l0 := ⟨_, rfl⟩
  rw [← hE] at hs
  have HS : Hid (rowsN exactN l1 l0 = E) := Lib.hid hE.symm
  have HE0 := Lib.hid e0
  have HE1 := Lib.hid e1
  clear hE e0 e1
  go_enter Tryd.func88, Tryd.ntmps88
  go_wp2
  go_loopw [8] (fun vi wr => (vi = .int .i64 1 ∧ Hid (Two wr g v0 v1) ∧ Hid (Below base w wr) ∧ Hid (KeepBut w wr g none)) ∨ (vi = .int .i64 2 ∧ Hid (Two wr g v1 v0) ∧ Hid (Below base w wr) ∧ Hid (KeepBut w wr g none))) (fun vi _ => 2 - (intOf vi).toNat)
  case atStart => exact .inl ⟨rfl, Lib.hid hT, Lib.hid (Below.refl _ _), Lib.hid (KeepBut.refl _ _ _)⟩
  case round =>
    rcases hrel with ⟨rfl, HT, HB, HK⟩ | ⟨rfl, HT, HB, HK⟩
    · go_wp2
      go_loopw [9] (fun vj wr2 => (vj = .int .i64 1 ∧ Hid (Two wr2 g v0 v1) ∧ Hid (Below base w wr2) ∧ Hid (KeepBut w wr2 g none)) ∨ (vj = .int .i64 0 ∧ Hid (Two wr2 g v1 v0) ∧ Hid (Below base w wr2) ∧ Hid (KeepBut w wr2 g none))) (fun vj _ => (intOf vj).toNat)
      case atStart => exact .inl ⟨rfl, HT, HB, HK⟩
      case round =>
        clear HT HB HK
        rcases hrel with ⟨rfl, HT, HB, HK⟩ | ⟨rfl, HT, HB, HK⟩
        · go_wp2
          have HTd := Lib.hid (Two.drew HT.out)
          have HBd := Lib.hid (below_drew1 HB.out)
          have HKd := Lib.hid (keep_drew HK.out)
          clear HT HB HK
          have HT := HTd
          have HB := HBd
          have HK := HKd
          clear HBd HKd
          refine start_ (n := 17) (S := fun w' => w'.cell? ⟨g, 0, none⟩ = some v0 ∧ w'.cell? ⟨g, 1, none⟩ = some v1) (ds := []) #[false, false, false, false, false, false, false, false, false, false, false, false, false, false, false, false, false] (by kernel_rfl) rfl rfl ⟨HTd.out.c0, HTd.out.c1⟩ (fun hHeld => ?_); refine with_tabW ins4_tab ins4_bits (fun HT_ HW_ => ?_)
          refine pure_ (i := 0) (N := some 18) (v := ?_) (a' := ?_) #[true, false, false, false, false, false, false, false, false, false, false, false, false, false, false, false, false] rfl rfl (any_of HT_.out (by kernel_rfl)) (fun _ _ _ h => h) (Or.inl ⟨by rfl, ?_⟩) ?_ ?_
          rotate_left
          · intro w'
            go_simp
            with_reducible rfl
          rotate_left
          · simp only [Act.put, List.setIfInBounds_toArray, List.set_cons_zero, List.set_cons_succ, i64_w, i32_w, w64_0]
            rfl
          refine pure_ (i := 1) (N := some 19) (v := ?_) (a' := ?_) #[true, true, false, false, false, false, false, false, false, false, false, false, false, false, false, false, false] rfl rfl (any_of HT_.out (by kernel_rfl)) (fun _ _ _ h => h) (Or.inl ⟨by rfl, ?_⟩) ?_ ?_
          rotate_left
          · intro w'
            go_simp
            with_reducible rfl
          rotate_left
          · simp only [Act.put, List.setIfInBounds_toArray, List.set_cons_zero, List.set_cons_succ, i64_w, i32_w, w64_0]
            rfl
          refine pure_ (i := 2) (N := some 20) (v := ?_) (a' := ?_) #[true, true, true, false, false, false, false, false, false, false, false, false, false, false, false, false, false] rfl rfl (any_of HT_.out (by kernel_rfl)) (fun _ _ _ h => h) (Or.inl ⟨by rfl, ?_⟩) ?_ ?_
          rotate_left
          · intro w'
            go_simp
            with_reducible rfl
          rotate_left
          · simp only [Act.put, List.setIfInBounds_toArray, List.set_cons_zero, List.set_cons_succ, i64_w, i32_w, w64_0]
            rfl
          refine pure_ (i := 3) (N := some 21) (v := ?_) (a' := ?_) #[true, true, true, true, false, false, false, false, false, false, false, false, false, false, false, false, false] rfl rfl (any_of HT_.out (by kernel_rfl)) (fun _ _ _ h => h) (Or.inl ⟨by rfl, ?_⟩) ?_ ?_
          rotate_left
          · intro w'
            go_simp
            with_reducible rfl
          rotate_left
          · simp only [Act.put, List.setIfInBounds_toArray, List.set_cons_zero, List.set_cons_succ, i64_w, i32_w, w64_0]
            rfl
          refine pure_ (i := 4) (N := some 22) (v := ?_) (a' := ?_) #[true, true, true, true, true, false, false, false, false, false, false, false, false, false, false, false, false] rfl rfl (any_of HT_.out (by kernel_rfl)) (fun _ _ _ h => h) (Or.inl ⟨by rfl, ?_⟩) ?_ ?_
          rotate_left
          · intro w'
            go_simp
            with_reducible rfl
          rotate_left
          · simp only [Act.put, List.setIfInBounds_toArray, List.set_cons_zero, List.set_cons_succ, i64_w, i32_w, w64_0]
            rfl
          refine pure_ (i := 5) (N := some 23) (v := ?_) (a' := ?_) #[true, true, true, true, true, true, false, false, false, false, false, false, false, false, false, false, false] rfl rfl (any_of HT_.out (by kernel_rfl)) (fun _ _ _ h => h) (Or.inl ⟨by rfl, ?_⟩) ?_ ?_
          rotate_left
          · intro w'
            go_simp
            with_reducible rfl
          rotate_left
          · simp only [Act.put, List.setIfInBounds_toArray, List.set_cons_zero, List.set_cons_succ, i64_w, i32_w, w64_0]
            rfl
          refine pure_ (i := 6) (N := some 24) (v := ?_) (a' := ?_) #[true, true, true, true, true, true, true, false, false, false, false, false, false, false, false, false, false] rfl rfl (any_of HT_.out (by kernel_rfl)) (fun _ _ _ h => h) (Or.inl ⟨by rfl, ?_⟩) ?_ ?_
          rotate_left
          · intro w'
            go_simp
            with_reducible rfl
          rotate_left
          · simp only [Act.put, List.setIfInBounds_toArray, List.set_cons_zero, List.set_cons_succ, i64_w, i32_w, w64_0]
            rfl
          refine pure_ (i := 7) (N := some 25) (v := ?_) (a' := ?_) #[true, true, true, true, true, true, true, true, false, false, false, false, false, false, false, false, false] rfl rfl (any_of HT_.out (by kernel_rfl)) (fun _ _ _ h => h) (Or.inl ⟨by rfl, ?_⟩) ?_ ?_
          rotate_left
          · intro w'
            go_simp
            with_reducible rfl
          rotate_left
          · simp only [Act.put, List.setIfInBounds_toArray, List.set_cons_zero, List.set_cons_succ, i64_w, i32_w, w64_0]
            rfl
          refine take_ (i := 8) (N := some 26) (v := ?_) (a' := ?_) #[true, true, true, true, true, true, true, true, true, false, false, false, false, false, false, false, false] rfl rfl (take_ofW HT_.out HW_.out (by kernel_rfl)) (fun _ _ _ h => h) (Or.inl ⟨by rfl, ?_⟩) hHeld ?_ ?_
          rotate_left
          · rintro w' ⟨s0, s1⟩
            go_simp
            with_reducible rfl
          rotate_left
          · simp only [Act.put, List.setIfInBounds_toArray, List.set_cons_zero, List.set_cons_succ, i64_w, i32_w, w64_0]
            rfl
          refine pure_ (i := 9) (N := some 27) (v := ?_) (a' := ?_) #[true, true, true, true, true, true, true, true, true, true, false, false, false, false, false, false, false] rfl rfl (any_of HT_.out (by kernel_rfl)) (fun _ _ _ h => h) (Or.inl ⟨by rfl, ?_⟩) ?_ ?_
          rotate_left
          · intro w'
            go_simp
            with_reducible rfl
          rotate_left
          · simp only [Act.put, List.setIfInBounds_toArray, List.set_cons_zero, List.set_cons_succ, i64_w, i32_w, w64_0]
            rfl
          refine pure_ (i := 10) (N := some 28) (v := ?_) (a' := ?_) #[true, true, true, true, true, true, true, true, true, true, true, false, false, false, false, false, false] rfl rfl (any_of HT_.out (by kernel_rfl)) (fun _ _ _ h => h) (Or.inl ⟨by rfl, ?_⟩) ?_ ?_
          rotate_left
          · intro w'
            go_simp
            with_reducible rfl
          rotate_left
          · simp only [Act.put, List.setIfInBounds_toArray, List.set_cons_zero, List.set_cons_succ, i64_w, i32_w, w64_0]
            rfl
          refine pure_ (i := 11) (N := some 29) (v := ?_) (a' := ?_) #[true, true, true, true, true, true, true, true, true, true, true, true, false, false, false, false, false] rfl rfl (any_of HT_.out (by kernel_rfl)) (fun _ _ _ h => h) (Or.inl ⟨by rfl, ?_⟩) ?_ ?_
          rotate_left
          · intro w'
            go_simp
            with_reducible rfl
          rotate_left
          · simp only [Act.put, List.setIfInBounds_toArray, List.set_cons_zero, List.set_cons_succ, i64_w, i32_w, w64_0]
            rfl
          refine pure_ (i := 12) (N := some 30) (v := ?_) (a' := ?_) #[true, true, true, true, true, true, true, true, true, true, true, true, true, false, false, false, false] rfl rfl (any_of HT_.out (by kernel_rfl)) (fun _ _ _ h => h) (Or.inl ⟨by rfl, ?_⟩) ?_ ?_
          rotate_left
          · intro w'
            go_simp
            with_reducible rfl
          rotate_left
          · simp only [Act.put, List.setIfInBounds_toArray, List.set_cons_zero, List.set_cons_succ, i64_w, i32_w, w64_0]
            rfl
          refine take_ (i := 13) (N := some 31) (v := ?_) (a' := ?_) #[true, true, true, true, true, true, true, true, true, true, true, true, true, true, false, false, false] rfl rfl (take_ofW HT_.out HW_.out (by kernel_rfl)) (fun _ _ _ h => h) (Or.inl ⟨by rfl, ?_⟩) hHeld ?_ ?_
          rotate_left
          · rintro w' ⟨s0, s1⟩
            go_simp
            with_reducible rfl
          rotate_left
          · simp only [Act.put, List.setIfInBounds_toArray, List.set_cons_zero, List.set_cons_succ, i64_w, i32_w, w64_0]
            rfl
          refine one_ (i := 14) (N := some 32) #[true, true, true, true, true, true, true, true, true, true, true, true, true, true, true, false, false] rfl rfl (one_of HT_.out (by kernel_rfl)) (by decide) (fun K hK => ?_)
          refine goesv_ Tryd.func63 (by kernel_rfl) rfl #[v1, v0] (by rfl) rfl rfl (by rfl) (by (try simp only [List.map_toArray, List.map_cons, List.map_nil]); first | done | rfl) ?_
          have hc := by_calls A1 A0 c1 c0 l1 l0 _ (hr1 _ HK.out) (hr0 _ HK.out) hl1 hl0
          rw [← HE1.out, ← HE0.out] at hc
          refine hc.mono ?_
          rintro e w6 ⟨rfl, hb⟩
          refine ⟨_, rfl, ?_⟩
          rw [HS.out]
          have nT := Lib.hid (Two.below HT.out hb)
          have nB := Lib.hid (HB.out.trans (hb.mono (Nat.le_trans hbw HB.out.size)))
          have nK := Lib.hid (KeepBut.trans HK.out (KeepBut.of_below hb g none) (.inl rfl))
          clear HT HB HK hb
          have HT := nT
          have HB := nB
          have HK := nK
          clear nT nB nK
          refine hK.out _ _ ⟨HT.out.c0, HT.out.c1⟩ (fun hHeld => ?_)
          clear hK K
          refine norm_ (a' := ?_) ?_ ?_
          rotate_left
          · show Act.put _ (some 32) _ = _
            simp only [Act.put, List.setIfInBounds_toArray, List.set_cons_zero, List.set_cons_succ, i64_w, i32_w, w64_0]
            rfl
          refine pure_ (i := 15) (N := some 33) (v := ?_) (a' := ?_) #[true, true, true, true, true, true, true, true, true, true, true, true, true, true, true, true, false] rfl rfl (any_of HT_.out (by kernel_rfl)) (fun _ _ _ h => h) (Or.inl ⟨by rfl, ?_⟩) ?_ ?_
          rotate_left
          · intro w'
            go_simp
            with_reducible rfl
          rotate_left
          · simp only [Act.put, List.setIfInBounds_toArray, List.set_cons_zero, List.set_cons_succ, i64_w, i32_w, w64_0]
            rfl
          refine pure_ (i := 16) (N := some 34) (v := ?_) (a' := ?_) #[true, true, true, true, true, true, true, true, true, true, true, true, true, true, true, true, true] rfl rfl (any_of HT_.out (by kernel_rfl)) (fun _ _ _ h => h) (Or.inl ⟨by rfl, ?_⟩) ?_ ?_
          rotate_left
          · intro w'
            go_simp
            with_reducible rfl
          rotate_left
          · simp only [Act.put, List.setIfInBounds_toArray, List.set_cons_zero, List.set_cons_succ, i64_w, i32_w, w64_0]
            rfl
          refine done_ (done_of HT_.out (by kernel_rfl)) ?_
          clear HTd
          go_wp2
          have p0 := HT.out.c0
          have p1 := HT.out.c1
          have z0 := HT.out.fr 0
          have z1 := HT.out.fr 1
          obtain rfl := HE0.out
          obtain rfl := HE1.out
          go_region
          go_wp2
          go_roundw
          case rel => exact .inr ⟨rfl, Lib.hid (Two.drew (Two.put0 (Two.put1 HT.out _) _)), Lib.hid (below_drew1 (Below.setCell (Below.setCell HB.out (p := ⟨g, 1, none⟩) hbg _) (p := ⟨g, 0, none⟩) hbg _)), Lib.hid (keep_drew (KeepBut.set_ (KeepBut.set_ HK.out 1 _) 0 _))⟩
          case measure => simp [intOf]
        · go_wp2
          go_quiet (fail)
          go_wp2
          exact ⟨.inr ⟨rfl, Lib.hid (Two.drewN HT.out _), Lib.hid (pw_below_drewN HB.out _), Lib.hid (keep_drewN HK.out _)⟩, by simp [intOf]⟩
    · go_wp2
      go_end0
      exact ⟨rfl, HT.out, HB.out, HK.out⟩
set_option maxHeartbeats 4000000 in
set_option maxRecDepth 100000 in
theorem ins_keep (base g c : Nat) (A0 A1 : Option Addr) (c0 c1 : Nat) (l0 l1 : List S27) (v0 v1 : Value) (w : World) (e0 : v0 = .slice A0 l0.length c0) (e1 : v1 = .slice A1 l1.length c1) (hT : Two w g v0 v1) (hr0 : ∀ w', KeepBut w w' g none → Kd.C k27 w' A0 l0.length l0) (hr1 : ∀ w', KeepBut w w' g none → Kd.C k27 w' A1 l1.length l1) (hl0 : l0.length < 4611686018427387904) (hl1 : l1.length < 4611686018427387904) (hbg : base ≤ g) (hbw : base ≤ w.heap.size) (hs : ¬ rowsN exactN l1 l0 < 0) :
    Calls Tryd.prog 88 #[.slice (some ⟨g, 0, none⟩) 2 c, .int .i64 0, .int .i64 2, .func (.func 63) #[] #[]] w fun e w' => e = .returned (.tuple #[]) ∧ Two w' g v0 v1 ∧ Below base w w' ∧ KeepBut w w' g none := by
  obtain ⟨E, hE⟩ : ∃ E, E = rowsN exactN l1 l0 := ⟨_, rfl⟩
  rw [← hE] at hs
  have HS : Hid (rowsN exactN l1 l0 = E) := Lib.hid hE.symm
  have HE0 := Lib.hid e0
  have HE1 := Lib.hid e1
  clear hE e0 e1
  go_enter Tryd.func88, Tryd.ntmps88
  go_wp2
  go_loopw [8] (fun vi wr => (vi = .int .i64 1 ∧ Hid (Two wr g v0 v1) ∧ Hid (Below base w wr) ∧ Hid (KeepBut w wr g none)) ∨ (vi = .int .i64 2 ∧ Hid (Two wr g v0 v1) ∧ Hid (Below base w wr) ∧ Hid (KeepBut w wr g none))) (fun vi _ => 2 - (intOf vi).toNat)
  case atStart => exact .inl ⟨rfl, Lib.hid hT, Lib.hid (Below.refl _ _), Lib.hid (KeepBut.refl _ _ _)⟩
  case round =>
    rcases hrel with ⟨rfl, HT, HB, HK⟩ | ⟨rfl, HT, HB, HK⟩
    · go_wp2
      go_loopw [9] (fun vj wr2 => (vj = .int .i64 1 ∧ Hid (Two wr2 g v0 v1) ∧ Hid (Below base w wr2) ∧ Hid (KeepBut w wr2 g none)) ∨ (False ∧ vj = .int .i64 0 ∧ Hid (Two wr2 g v1 v0) ∧ Hid (Below base w wr2) ∧ Hid (KeepBut w wr2 g none))) (fun vj _ => (intOf vj).toNat)
      case atStart => exact .inl ⟨rfl, HT, HB, HK⟩
      case round =>
        clear HT HB HK
        rcases hrel with ⟨rfl, HT, HB, HK⟩ | ⟨h, _⟩
        · go_wp2
          have HTd := Lib.hid (Two.drew HT.out)
          have HBd := Lib.hid (below_drew1 HB.out)
          have HKd := Lib.hid (keep_drew HK.out)
          clear HT HB HK
          have HT := HTd
          have HB := HBd
          have HK := HKd
          clear HBd HKd
          refine start_ (n := 17) (S := fun w' => w'.cell? ⟨g, 0, none⟩ = some v0 ∧ w'.cell? ⟨g, 1, none⟩ = some v1) (ds := []) #[false, false, false, false, false, false, false, false, false, false, false, false, false, false, false, false, false] (by kernel_rfl) rfl rfl ⟨HTd.out.c0, HTd.out.c1⟩ (fun hHeld => ?_); refine with_tabW ins4_tab ins4_bits (fun HT_ HW_ => ?_)
          refine pure_ (i := 0) (N := some 18) (v := ?_) (a' := ?_) #[true, false, false, false, false, false, false, false, false, false, false, false, false, false, false, false, false] rfl rfl (any_of HT_.out (by kernel_rfl)) (fun _ _ _ h => h) (Or.inl ⟨by rfl, ?_⟩) ?_ ?_
          rotate_left
          · intro w'
            go_simp
            with_reducible rfl
          rotate_left
          · simp only [Act.put, List.setIfInBounds_toArray, List.set_cons_zero, List.set_cons_succ, i64_w, i32_w, w64_0]
            rfl
          refine pure_ (i := 1) (N := some 19) (v := ?_) (a' := ?_) #[true, true, false, false, false, false, false, false, false, false, false, false, false, false, false, false, false] rfl rfl (any_of HT_.out (by kernel_rfl)) (fun _ _ _ h => h) (Or.inl ⟨by rfl, ?_⟩) ?_ ?_
          rotate_left
          · intro w'
            go_simp
            with_reducible rfl
          rotate_left
          · simp only [Act.put, List.setIfInBounds_toArray, List.set_cons_zero, List.set_cons_succ, i64_w, i32_w, w64_0]
            rfl
          refine pure_ (i := 2) (N := some 20) (v := ?_) (a' := ?_) #[true, true, true, false, false, false, false, false, false, false, false, false, false, false, false, false, false] rfl rfl (any_of HT_.out (by kernel_rfl)) (fun _ _ _ h => h) (Or.inl ⟨by rfl, ?_⟩) ?_ ?_
          rotate_left
          · intro w'
            go_simp
            with_reducible rfl
          rotate_left
          · simp only [Act.put, List.setIfInBounds_toArray, List.set_cons_zero, List.set_cons_succ, i64_w, i32_w, w64_0]
            rfl
          refine pure_ (i := 3) (N := some 21) (v := ?_) (a' := ?_) #[true, true, true, true, false, false, false, false, false, false, false, false, false, false, false, false, false] rfl rfl (any_of HT_.out (by kernel_rfl)) (fun _ _ _ h => h) (Or.inl ⟨by rfl, ?_⟩) ?_ ?_
          rotate_left
          · intro w'
            go_simp
            with_reducible rfl
          rotate_left
          · simp only [Act.put, List.setIfInBounds_toArray, List.set_cons_zero, List.set_cons_succ, i64_w, i32_w, w64_0]
            rfl
          refine pure_ (i := 4) (N := some 22) (v := ?_) (a' := ?_) #[true, true, true, true, true, false, false, false, false, false, false, false, false, false, false, false, false] rfl rfl (any_of HT_.out (by kernel_rfl)) (fun _ _ _ h => h) (Or.inl ⟨by rfl, ?_⟩) ?_ ?_
          rotate_left
          · intro w'
            go_simp
            with_reducible rfl
          rotate_left
          · simp only [Act.put, List.setIfInBounds_toArray, List.set_cons_zero, List.set_cons_succ, i64_w, i32_w, w64_0]
            rfl
          refine pure_ (i := 5) (N := some 23) (v := ?_) (a' := ?_) #[true, true, true, true, true, true, false, false, false, false, false, false, false, false, false, false, false] rfl rfl (any_of HT_.out (by kernel_rfl)) (fun _ _ _ h => h) (Or.inl ⟨by rfl, ?_⟩) ?_ ?_
          rotate_left
          · intro w'
            go_simp
            with_reducible rfl
          rotate_left
          · simp only [Act.put, List.setIfInBounds_toArray, List.set_cons_zero, List.set_cons_succ, i64_w, i32_w, w64_0]
            rfl
          refine pure_ (i := 6) (N := some 24) (v := ?_) (a' := ?_) #[true, true, true, true, true, true, true, false, false, false, false, false, false, false, false, false, false] rfl rfl (any_of HT_.out (by kernel_rfl)) (fun _ _ _ h => h) (Or.inl ⟨by rfl, ?_⟩) ?_ ?_
          rotate_left
          · intro w'
            go_simp
            with_reducible rfl
          rotate_left
          · simp only [Act.put, List.setIfInBounds_toArray, List.set_cons_zero, List.set_cons_succ, i64_w, i32_w, w64_0]
            rfl
          refine pure_ (i := 7) (N := some 25) (v := ?_) (a' := ?_) #[true, true, true, true, true, true, true, true, false, false, false, false, false, false, false, false, false] rfl rfl (any_of HT_.out (by kernel_rfl)) (fun _ _ _ h => h) (Or.inl ⟨by rfl, ?_⟩) ?_ ?_
          rotate_left
          · intro w'
            go_simp
            with_reducible rfl
          rotate_left
          · simp only [Act.put, List.setIfInBounds_toArray, List.set_cons_zero, List.set_cons_succ, i64_w, i32_w, w64_0]
            rfl
          refine take_ (i := 8) (N := some 26) (v := ?_) (a' := ?_) #[true, true, true, true, true, true, true, true, true, false, false, false, false, false, false, false, false] rfl rfl (take_ofW HT_.out HW_.out (by kernel_rfl)) (fun _ _ _ h => h) (Or.inl ⟨by rfl, ?_⟩) hHeld ?_ ?_
          rotate_left
          · rintro w' ⟨s0, s1⟩
            go_simp
            with_reducible rfl
          rotate_left
          · simp only [Act.put, List.setIfInBounds_toArray, List.set_cons_zero, List.set_cons_succ, i64_w, i32_w, w64_0]
            rfl
          refine pure_ (i := 9) (N := some 27) (v := ?_) (a' := ?_) #[true, true, true, true, true, true, true, true, true, true, false, false, false, false, false, false, false] rfl rfl (any_of HT_.out (by kernel_rfl)) (fun _ _ _ h => h) (Or.inl ⟨by rfl, ?_⟩) ?_ ?_
          rotate_left
          · intro w'
            go_simp
            with_reducible rfl
          rotate_left
          · simp only [Act.put, List.setIfInBounds_toArray, List.set_cons_zero, List.set_cons_succ, i64_w, i32_w, w64_0]
            rfl
          refine pure_ (i := 10) (N := some 28) (v := ?_) (a' := ?_) #[true, true, true, true, true, true, true, true, true, true, true, false, false, false, false, false, false] rfl rfl (any_of HT_.out (by kernel_rfl)) (fun _ _ _ h => h) (Or.inl ⟨by rfl, ?_⟩) ?_ ?_
          rotate_left
          · intro w'
            go_simp
            with_reducible rfl
          rotate_left
          · simp only [Act.put, List.setIfInBounds_toArray, List.set_cons_zero, List.set_cons_succ, i64_w, i32_w, w64_0]
            rfl
          refine pure_ (i := 11) (N := some 29) (v := ?_) (a' := ?_) #[true, true, true, true, true, true, true, true, true, true, true, true, false, false, false, false, false] rfl rfl (any_of HT_.out (by kernel_rfl)) (fun _ _ _ h => h) (Or.inl ⟨by rfl, ?_⟩) ?_ ?_
          rotate_left
          · intro w'
            go_simp
            with_reducible rfl
          rotate_left
          · simp only [Act.put, List.setIfInBounds_toArray, List.set_cons_zero, List.set_cons_succ, i64_w, i32_w, w64_0]
            rfl
          refine pure_ (i := 12) (N := some 30) (v := ?_) (a' := ?_) #[true, true, true, true, true, true, true, true, true, true, true, true, true, false, false, false, false] rfl rfl (any_of HT_.out (by kernel_rfl)) (fun _ _ _ h => h) (Or.inl ⟨by rfl, ?_⟩) ?_ ?_
          rotate_left
          · intro w'
            go_simp
            with_reducible rfl
          rotate_left
          · simp only [Act.put, List.setIfInBounds_toArray, List.set_cons_zero, List.set_cons_succ, i64_w, i32_w, w64_0]
            rfl
          refine take_ (i := 13) (N := some 31) (v := ?_) (a' := ?_) #[true, true, true, true, true, true, true, true, true, true, true, true, true, true, false, false, false] rfl rfl (take_ofW HT_.out HW_.out (by kernel_rfl)) (fun _ _ _ h => h) (Or.inl ⟨by rfl, ?_⟩) hHeld ?_ ?_
          rotate_left
          · rintro w' ⟨s0, s1⟩
            go_simp
            with_reducible rfl
          rotate_left
          · simp only [Act.put, List.setIfInBounds_toArray, List.set_cons_zero, List.set_cons_succ, i64_w, i32_w, w64_0]
            rfl
          refine one_ (i := 14) (N := some 32) #[true, true, true, true, true, true, true, true, true, true, true, true, true, true, true, false, false] rfl rfl (one_of HT_.out (by kernel_rfl)) (by decide) (fun K hK => ?_)
          refine goesv_ Tryd.func63 (by kernel_rfl) rfl #[v1, v0] (by rfl) rfl rfl (by rfl) (by (try simp only [List.map_toArray, List.map_cons, List.map_nil]); first | done | rfl) ?_
          have hc := by_calls A1 A0 c1 c0 l1 l0 _ (hr1 _ HK.out) (hr0 _ HK.out) hl1 hl0
          rw [← HE1.out, ← HE0.out] at hc
          refine hc.mono ?_
          rintro e w6 ⟨rfl, hb⟩
          refine ⟨_, rfl, ?_⟩
          rw [HS.out]
          have nT := Lib.hid (Two.below HT.out hb)
          have nB := Lib.hid (HB.out.trans (hb.mono (Nat.le_trans hbw HB.out.size)))
          have nK := Lib.hid (KeepBut.trans HK.out (KeepBut.of_below hb g none) (.inl rfl))
          clear HT HB HK hb
          have HT := nT
          have HB := nB
          have HK := nK
          clear nT nB nK
          refine hK.out _ _ ⟨HT.out.c0, HT.out.c1⟩ (fun hHeld => ?_)
          clear hK K
          refine norm_ (a' := ?_) ?_ ?_
          rotate_left
          · show Act.put _ (some 32) _ = _
            simp only [Act.put, List.setIfInBounds_toArray, List.set_cons_zero, List.set_cons_succ, i64_w, i32_w, w64_0]
            rfl
          refine pure_ (i := 15) (N := some 33) (v := ?_) (a' := ?_) #[true, true, true, true, true, true, true, true, true, true, true, true, true, true, true, true, false] rfl rfl (any_of HT_.out (by kernel_rfl)) (fun _ _ _ h => h) (Or.inl ⟨by rfl, ?_⟩) ?_ ?_
          rotate_left
          · intro w'
            go_simp
            with_reducible rfl
          rotate_left
          · simp only [Act.put, List.setIfInBounds_toArray, List.set_cons_zero, List.set_cons_succ, i64_w, i32_w, w64_0]
            rfl
          refine pure_ (i := 16) (N := some 34) (v := ?_) (a' := ?_) #[true, true, true, true, true, true, true, true, true, true, true, true, true, true, true, true, true] rfl rfl (any_of HT_.out (by kernel_rfl)) (fun _ _ _ h => h) (Or.inl ⟨by rfl, ?_⟩) ?_ ?_
          rotate_left
          · intro w'
            go_simp
            with_reducible rfl
          rotate_left
          · simp only [Act.put, List.setIfInBounds_toArray, List.set_cons_zero, List.set_cons_succ, i64_w, i32_w, w64_0]
            rfl
          refine done_ (done_of HT_.out (by kernel_rfl)) ?_
          clear HTd
          go_wp2
          exact ⟨.inr ⟨rfl, HT, HB, HK⟩, by simp [intOf]⟩
        · exact h.elim
    · go_wp2
      go_end0
      exact ⟨rfl, HT.out, HB.out, HK.out⟩
end Go.Proofs.YtepgjdmdogblmaaDoor.Val
