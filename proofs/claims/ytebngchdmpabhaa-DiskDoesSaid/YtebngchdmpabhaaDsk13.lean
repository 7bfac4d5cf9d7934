/- Package disk: DiskFuse answers true, whatever the fuse and however many changes are asked. No condition. -/
import Derived.Test.YtebngchdmpabhaaDsk12
namespace Go.Proofs.Ytebngchdmpabhaa.Disk
open Go.RowKit Go.Proofs.Ytebngchdmpabhaa.G Go.Proofs.YtebngchdmpabhaaW.PrintWords Go.Proofs.YtebngchdmpabhaaW.PrintLast Go.Proofs.YtebngchdmpabhaaW.PrintMore Go.Proofs.YtebngchdmpabhaaW.Raw
set_option linter.unusedVariables false
set_option linter.unusedSimpArgs false
def fuseFiles (k : Nat) : List S41 := if k = 0 then [] else [⟨⟨#[97]⟩, ⟨#[120]⟩, 0⟩]
def fuseDown (f : Int) (k : Nat) : Bool := decide (f < (k : Int))
def fuseLeft (f : Int) (k : Nat) : Int := max (f - k) 0
theorem fuse_step (f : Int) (k : Nat) (hf : 0 ≤ f) : doA (fuseFiles k) (fuseDown f k) (fuseLeft f k) 1 ⟨#[97]⟩ ⟨#[]⟩ ⟨#[120]⟩ = ⟨fuseFiles (k + 1), fuseDown f (k + 1), fuseLeft f (k + 1), if (k : Int) < f then 0 else 12⟩ := by
  have ho : ok (fuseFiles k) = true := by
    unfold fuseFiles
    split
    · kernel_rfl
    · kernel_rfl
  have hw : whyF (fuseFiles k) 1 ⟨#[97]⟩ ⟨#[]⟩ ⟨#[120]⟩ = 0 := by
    unfold fuseFiles
    split
    · kernel_rfl
    · kernel_rfl
  have hd : ∀ p, doneF (fuseFiles k) 1 ⟨#[97]⟩ ⟨#[]⟩ ⟨#[120]⟩ p = [⟨⟨#[97]⟩, ⟨#[120]⟩, 0⟩] := by
    intro p
    unfold fuseFiles
    split
    · kernel_rfl
    · kernel_rfl
  have h1 : fuseFiles (k + 1) = [⟨⟨#[97]⟩, ⟨#[120]⟩, 0⟩] := if_neg (by omega)
  rcases hdn : fuseDown f k with _ | _
  · have hfk : ¬ f < (k : Int) := by simpa [fuseDown] using hdn
    rw [doA_live ho (by omega) (by omega), if_neg (by simp [hw]), hd, h1]
    by_cases hz : fuseLeft f k = 0
    · rw [if_pos hz]
      have e1 : fuseDown f (k + 1) = true := by unfold fuseLeft at hz; unfold fuseDown; rw [decide_eq_true_eq]; push_cast; omega
      have e2 : fuseLeft f (k + 1) = 0 := by unfold fuseLeft at *; push_cast; omega
      rw [e1, e2, hz, if_neg (by unfold fuseLeft at hz; omega)]
    · rw [if_neg hz]
      have e1 : fuseDown f (k + 1) = false := by unfold fuseLeft at hz; unfold fuseDown; rw [decide_eq_false_iff_not]; push_cast; omega
      have e2 : fuseLeft f (k + 1) = fuseLeft f k - 1 := by unfold fuseLeft at *; push_cast; omega
      rw [e1, e2, if_pos (by unfold fuseLeft at *; omega), if_pos (by unfold fuseLeft at *; omega)]
  · have hfk : f < (k : Int) := by simpa [fuseDown] using hdn
    have e1 : fuseDown f (k + 1) = true := by unfold fuseDown; rw [decide_eq_true_eq]; push_cast; omega
    have e2 : fuseLeft f (k + 1) = fuseLeft f k := by unfold fuseLeft; push_cast; omega
    have e3 : fuseFiles k = fuseFiles (k + 1) := by rw [h1]; exact if_neg (by omega)
    rw [e1, e2, if_neg (by omega), ← e3]
    exact (if_neg (by simp [ho])).trans ((if_neg (by omega)).trans (if_pos rfl))
def fuse_T : Bool × List (List Nat × List Nat) := (true, [([], []), ([], []), ([0, 1, 1], [0, 1]), ([2], [2]), ([3], [3]), ([3], [3]), ([], []), ([6, 4, 2, 0, 1, 2, 3, 4, 6], [4, 6]), ([5, 7, 0, 1, 2, 3, 4, 5, 6, 7], [5])])
def fuse_B : List Nat := [0, 0, 3, 7, 15, 15, 0, 95, 255]
theorem fuse_tab : rtab .any (opsOf Try.f8 7) = fuse_T := by kernel_rfl
theorem fuse_bits : waitsOk fuse_T.2 fuse_B = true := by kernel_rfl
set_option maxHeartbeats 4000000 in
set_option maxRecDepth 100000 in
theorem fuse_calls (f many : Int) (w : World) (hf : 0 ≤ f) (hf2 : f ≤ 255) (hm : many ≤ 9223372036854775807) : Calls Try.prog 8 #[.int .u8 f, .int .i64 many] w fun e w' => e = .returned (.bool true) ∧ Below w.heap.size w w' := by
  go_enter Try.func8, Try.ntmps8
  go_wp2_with (first
    | (go_at_call 16; refine (lives_calls _).mono ?_; rintro e w2 ⟨rfl, hb⟩; have HB := Lib.hid hb; clear hb))
  have Bd := Lib.hid (blk_new w2 (.cells #[.slice none 0 0, .bool false, .int .i64 f] 24 (0, 0)))
  obtain ⟨gd, hgd⟩ : ∃ g, g = w2.heap.size := ⟨_, rfl⟩
  have Eg : w.heap.size ≤ gd := by rw [hgd]; exact HB.out.size
  rw [← hgd] at Bd ⊢
  have HB1 := Lib.hid (HB.out.alloc HB.out.size (.cells #[.slice none 0 0, .bool false, .int .i64 f] 24 (0, 0)))
  clear HB hgd
  go_loopw [6] (fun vi wr => ∃ k : Nat, vi = .int .i64 k ∧ k ≤ 300 ∧ Hid (∃ v, wr.heap[gd]? = some (.cells #[v, .bool (fuseDown f k), .int .i64 (fuseLeft f k)] 24 (0, 0)) ∧ Kd.R k41 41 wr w.heap.size (fun _ => True) v (fuseFiles k)) ∧ Hid (Below w.heap.size w wr)) (fun vi _ => 300 - (intOf vi).toNat)
  case atStart =>
    have e1 : fuseDown f 0 = false := by unfold fuseDown; rw [decide_eq_false_iff_not]; push_cast; omega
    have e2 : fuseLeft f 0 = f := by unfold fuseLeft; push_cast; omega
    exact ⟨0, rfl, by omega, Lib.hid ⟨_, by rw [e1, e2]; exact Bd.out, Kd.R_nil _ _ _ _ _⟩, HB1⟩
  case round =>
    clear Bd HB1
    obtain ⟨k, rfl, hk, HD, HB⟩ := hrel
    obtain ⟨v, hg1, hr⟩ := HD.out
    obtain ⟨A1, c1, rfl, hlc, hC1⟩ := Kd.R_reads hr
    clear HD
    by_cases hlt : (k : Int) < many ∧ (k : Int) < 300
    · obtain ⟨l1, l2⟩ := hlt
      have HB' := HB.out
      clear HB
      have HB := Aside0.mk HB'
      have Bd := Aside0.mk hg1
      have HOd := Aside0.mk hr
      obtain ⟨N, hN⟩ : ∃ N : Int, N = if (k : Int) < f then 0 else 12 := ⟨_, rfl⟩
      have HA := Lib.hid (fuse_step f k hf)
      rw [← hN] at HA
      have HN := Lib.hid hN
      clear hN
      clear hg1 hr hC1 hlc HB'
      have hln : (fuseFiles k).length < 3518437208883 := by unfold fuseFiles; split <;> simp
      have hfl : fuseLeft f k ≤ 9223372036854775807 := by unfold fuseLeft; omega
      go_wp2
      have n0_ := Aside0.mk (Kd.R_drew HOd.out)
      have n1_ := Aside0.mk (blk_drew Bd.out)
      have n2_ := Aside0.mk (below_drew1 HB.out)
      clear HOd
      clear Bd
      clear HB
      have HOd := n0_
      have Bd := n1_
      have HB := n2_
      clear n0_ n1_ n2_
      refine start_ (n := 9) (S := fun w' => w'.cell? ⟨gd, 0, none⟩ = some (.slice A1 (fuseFiles k).length c1) ∧ w'.cell? ⟨gd, 1, none⟩ = some (.bool (fuseDown f k)) ∧ w'.cell? ⟨gd, 2, none⟩ = some (.int .i64 (fuseLeft f k))) (ds := []) #[false, false, false, false, false, false, false, false, false] (by kernel_rfl) rfl rfl ⟨(blk_cell Bd.out 0).trans rfl, (blk_cell Bd.out 1).trans rfl, (blk_cell Bd.out 2).trans rfl⟩ (fun hHeld => ?_); refine with_tabW fuse_tab fuse_bits (fun HT_ HW_ => ?_)
      generalize wr.drew = w15 at HOd Bd HB hHeld ⊢
      refine take_ (i := 0) (N := some 24) (v := ?_) (a' := ?_) #[true, false, false, false, false, false, false, false, false] rfl rfl (take_ofW HT_.out HW_.out (by kernel_rfl)) (fun _ _ _ h => h) (Or.inl ⟨by rfl, ?_⟩) hHeld ?_ ?_
      rotate_left
      · rintro w' ⟨s0, s1, s2⟩
        go_simp
        with_reducible rfl
      rotate_left
      · simp only [Act.put, List.setIfInBounds_toArray, List.set_cons_zero, List.set_cons_succ, i64_w, i32_w]
        rfl
      refine join_ (σ := Value × Nat) 2 #[true, true, true, true, true, true, true, false, false] (fun s_ => [(25, .agg #[.int .u8 (1 : Int), .string (⟨#[97]⟩ : ByteArray), .string (⟨#[]⟩ : ByteArray), .string (⟨#[120]⟩ : ByteArray)]), (26, .tuple #[.agg #[s_.1, .bool (fuseDown f (k + 1)), .int .i64 (fuseLeft f (k + 1))], .int .i64 N]), (7, .pointer (some ⟨s_.2, 0, none⟩)), (23, .tuple #[.agg #[s_.1, .bool (fuseDown f (k + 1)), .int .i64 (fuseLeft f (k + 1))], .int .i64 N]), (27, .agg #[s_.1, .bool (fuseDown f (k + 1)), .int .i64 (fuseLeft f (k + 1))]), (28, .int .i64 N)]) (fun s_ w' => (w'.cell? ⟨gd, 0, none⟩ = some (.slice A1 (fuseFiles k).length c1) ∧ w'.cell? ⟨gd, 1, none⟩ = some (.bool (fuseDown f k)) ∧ w'.cell? ⟨gd, 2, none⟩ = some (.int .i64 (fuseLeft f k))) ∧ (Kd.R k41 41 w' w.heap.size (fun k_ => some k_ ≠ (.slice A1 (fuseFiles k).length c1 : Value).ownBlock) s_.1 (fuseFiles (k + 1))) ∧ (Kd.R k41 41 w' w.heap.size (fun k_ => some k_ ≠ (s_.1 : Value).ownBlock) (.slice A1 (fuseFiles k).length c1) (fuseFiles k)) ∧ (w'.heap[gd]? = some (.cells #[.slice A1 (fuseFiles k).length c1, .bool (fuseDown f k), .int .i64 (fuseLeft f k)] 24 (0, 0))) ∧ (w'.heap[s_.2]? = some (.cells #[.slice none 0 0, .bool false, .int .i64 0] 24 (0, 0))) ∧ (w.heap.size ≤ s_.2) ∧ (w.heap.size ≤ s_.2) ∧ (gd ≠ s_.2) ∧ (s_.2 ≠ gd) ∧ (Below w.heap.size w w')) ?_ ?_
      rotate_left
      · intro hCont
        refine two_ (i := 1) (j := 6) (Ni := some 25) (Nj := some 7) #[true, true, false, false, false, false, false, false, false] #[true, false, false, false, false, false, true, false, false] rfl rfl rfl rfl (two_of HT_.out (by kernel_rfl)) (by decide) (by decide) (fun K hK => ?_) (fun K hK => ?_)
        · skip
          refine goes_ Try.func21 (by kernel_rfl) rfl #[.string (⟨#[97]⟩ : ByteArray), .string (⟨#[120]⟩ : ByteArray)] (by rfl) rfl rfl (by (try simp only [List.map_toArray, List.map_cons, List.map_nil]); first | done | rfl | (simp only [List.length_drop, List.length_take]; rfl)) ?_
          refine (put_step_calls ⟨#[97]⟩ ⟨#[120]⟩ _).mono ?_
          rintro e w16 ⟨rfl, hb⟩
          refine ⟨_, rfl, ?_⟩
          have n0_ := Aside0.mk (Kd.R_below (by (with_reducible repeat (first | apply Kd.R_alloc | apply Kd.R_drewN | apply Kd.R_drew)); exact HOd.out) hb)
          have n1_ := Aside0.mk (blk_below (g := gd) (o := .cells #[.slice A1 (fuseFiles k).length c1, .bool (fuseDown f k), .int .i64 (fuseLeft f k)] 24 (0, 0)) (by (with_reducible repeat (first | refine blk_drewN ?_ _ | refine blk_drew ?_ | refine blk_alloc ?_ _)); exact Bd.out) hb)
          have n2_ := Aside0.mk (below_step (by repeat (first | (with_reducible first | exact HB.out | apply below_alloc | apply pw_below_drewN | apply below_drew1 | refine below_set ?_ Eg.out) | exact HB.out)) hb)
          clear HOd
          clear Bd
          clear HB
          have HOd := n0_
          have Bd := n1_
          have HB := n2_
          clear n0_ n1_ n2_
          (try clear hb)
          (try clear hb2)
          (try clear hk)
          (try clear hi)
          refine hK.out _ _ ⟨(blk_cell Bd.out 0).trans rfl, (blk_cell Bd.out 1).trans rfl, (blk_cell Bd.out 2).trans rfl⟩ (fun hHeld => ?_)
          clear hK K
          refine norm_ (a' := ?_) ?_ ?_
          rotate_left
          · show Act.put _ (some 25) _ = _
            simp only [Act.put, List.setIfInBounds_toArray, List.set_cons_zero, List.set_cons_succ, i64_w, i32_w]
            rfl
          refine two_ (i := 2) (j := 6) (Ni := some 26) (Nj := some 7) #[true, true, true, false, false, false, false, false, false] #[true, true, false, false, false, false, true, false, false] rfl rfl rfl rfl (two_of HT_.out (by kernel_rfl)) (by decide) (by decide) (fun K hK => ?_) (fun K hK => ?_)
          · skip
            refine goes_ Try.func10 (by kernel_rfl) rfl #[.agg #[.slice A1 (fuseFiles k).length c1, .bool (fuseDown f k), .int .i64 (fuseLeft f k)], .agg #[.int .u8 (1 : Int), .string (⟨#[97]⟩ : ByteArray), .string (⟨#[]⟩ : ByteArray), .string (⟨#[120]⟩ : ByteArray)]] (by rfl) rfl rfl (by (try simp only [List.map_toArray, List.map_cons, List.map_nil]); first | done | rfl | (simp only [List.length_drop, List.length_take]; rfl)) ?_
            refine (do_calls A1 c1 (fuseFiles k) (fuseDown f k) (fuseLeft f k) 1 ⟨#[97]⟩ ⟨#[]⟩ ⟨#[120]⟩ _ ?side1 hln (Nat.le_of_ble_eq_true rfl) hfl).mono ?_
            (case side1 => repeat (first | exact (Kd.R_reads' HOd.out).2.2 | (with_reducible refine Kd.C_alloc ?_ _) | (with_reducible refine Kd.C_drewN ?_ _) | (with_reducible refine Kd.C_drew ?_)))
            rw [HA.out]
            rintro e w17 ⟨v5, rfl, ho0, hb⟩
            refine ⟨_, rfl, ?_⟩
            have n0_ := Aside0.mk (Kd.R_elder' (by (with_reducible repeat (first | apply Kd.R_alloc | apply Kd.R_drewN | apply Kd.R_drew)); exact HOd.out) (Kd.R_base ho0) hb)
            have n1_ := Aside0.mk (Kd.R_lower (Kd.R_new' ho0 (Kd.R_lt (by (with_reducible repeat (first | apply Kd.R_alloc | apply Kd.R_drewN | apply Kd.R_drew)); exact HOd.out))) (below_size (by repeat (first | (with_reducible first | exact HB.out | apply below_alloc | apply pw_below_drewN | apply below_drew1 | refine below_set ?_ Eg.out) | exact HB.out))))
            have n2_ := Aside0.mk (blk_below (g := gd) (o := .cells #[.slice A1 (fuseFiles k).length c1, .bool (fuseDown f k), .int .i64 (fuseLeft f k)] 24 (0, 0)) (by (with_reducible repeat (first | refine blk_drewN ?_ _ | refine blk_drew ?_ | refine blk_alloc ?_ _)); exact Bd.out) hb)
            have n3_ := Aside0.mk (below_step (by repeat (first | (with_reducible first | exact HB.out | apply below_alloc | apply pw_below_drewN | apply below_drew1 | refine below_set ?_ Eg.out) | exact HB.out)) hb)
            clear HOd
            clear Bd
            clear HB
            have HOd := n0_
            have HO5 := n1_
            have Bd := n2_
            have HB := n3_
            clear n0_ n1_ n2_ n3_
            (try clear hb)
            (try clear hb2)
            (try clear hk)
            (try clear hi)
            (try clear ho0)
            refine hK.out _ _ ⟨(blk_cell Bd.out 0).trans rfl, (blk_cell Bd.out 1).trans rfl, (blk_cell Bd.out 2).trans rfl⟩ (fun hHeld => ?_)
            clear hK K
            refine norm_ (a' := ?_) ?_ ?_
            rotate_left
            · show Act.put _ (some 26) _ = _
              simp only [Act.put, List.setIfInBounds_toArray, List.set_cons_zero, List.set_cons_succ, i64_w, i32_w]
              rfl
            refine pure_ (i := 3) (N := some 23) (v := ?_) (a' := ?_) #[true, true, true, true, false, false, false, false, false] rfl rfl (any_of HT_.out (by kernel_rfl)) (fun _ _ _ h => h) (Or.inl ⟨by rfl, ?_⟩) ?_ ?_
            rotate_left
            · intro w'
              go_simp
              with_reducible rfl
            rotate_left
            · simp only [Act.put, List.setIfInBounds_toArray, List.set_cons_zero, List.set_cons_succ, i64_w, i32_w]
              rfl
            refine pure_ (i := 4) (N := some 27) (v := ?_) (a' := ?_) #[true, true, true, true, true, false, false, false, false] rfl rfl (any_of HT_.out (by kernel_rfl)) (fun _ _ _ h => h) (Or.inl ⟨by rfl, ?_⟩) ?_ ?_
            rotate_left
            · intro w'
              go_simp
              with_reducible rfl
            rotate_left
            · simp only [Act.put, List.setIfInBounds_toArray, List.set_cons_zero, List.set_cons_succ, i64_w, i32_w]
              rfl
            refine pure_ (i := 5) (N := some 28) (v := ?_) (a' := ?_) #[true, true, true, true, true, true, false, false, false] rfl rfl (any_of HT_.out (by kernel_rfl)) (fun _ _ _ h => h) (Or.inl ⟨by rfl, ?_⟩) ?_ ?_
            rotate_left
            · intro w'
              go_simp
              with_reducible rfl
            rotate_left
            · simp only [Act.put, List.setIfInBounds_toArray, List.set_cons_zero, List.set_cons_succ, i64_w, i32_w]
              rfl
            refine one_ (i := 6) (N := some 7) #[true, true, true, true, true, true, true, false, false] rfl rfl (one_of HT_.out (by kernel_rfl)) (by decide) (fun K hK => ?_)
            refine box_step ?hg (N := 7) ?hd (cs := #[.slice none 0 0, .bool false, .int .i64 0]) (t := 24) ?hr ?_; (case hd => rfl); (case hg => rfl); (case hr => first | (go_simp; done) | (go_simp; rfl))
            intro g7 hg w18 hbox hb
            have n0_ := Aside0.mk (Kd.R_below (by (with_reducible repeat (first | apply Kd.R_alloc | apply Kd.R_drewN | apply Kd.R_drew)); exact HOd.out) hb)
            have n1_ := Aside0.mk (Kd.R_below (by (with_reducible repeat (first | apply Kd.R_alloc | apply Kd.R_drewN | apply Kd.R_drew)); exact HO5.out) hb)
            have n2_ := Aside0.mk (blk_below (g := gd) (o := .cells #[.slice A1 (fuseFiles k).length c1, .bool (fuseDown f k), .int .i64 (fuseLeft f k)] 24 (0, 0)) (by (with_reducible repeat (first | refine blk_drewN ?_ _ | refine blk_drew ?_ | refine blk_alloc ?_ _)); exact Bd.out) hb)
            have n3_ := Aside0.mk (below_step (by repeat (first | (with_reducible first | exact HB.out | apply below_alloc | apply pw_below_drewN | apply below_drew1 | refine below_set ?_ Eg.out) | exact HB.out)) hb)
            have n4_ := Aside0.mk (hbox)
            have n5_ := Aside0.mk ((by rw [hg]; exact (below_size (by repeat (first | (with_reducible first | exact HB.out | apply below_alloc | apply pw_below_drewN | apply below_drew1 | refine below_set ?_ Eg.out) | exact HB.out))) : w.heap.size ≤ g7))
            have n6_ := Aside0.mk ((by rw [hg]; exact (below_size (by repeat (first | (with_reducible first | exact HB.out | apply below_alloc | apply pw_below_drewN | apply below_drew1 | refine below_set ?_ Eg.out) | exact HB.out))) : w.heap.size ≤ g7))
            have n7_ := Aside0.mk ((by rw [hg]; exact Nat.ne_of_lt (blk_lt (g := gd) (o := .cells #[.slice A1 (fuseFiles k).length c1, .bool (fuseDown f k), .int .i64 (fuseLeft f k)] 24 (0, 0)) (by (with_reducible repeat (first | refine blk_drewN ?_ _ | refine blk_drew ?_ | refine blk_alloc ?_ _)); exact Bd.out)) : gd ≠ g7))
            have n8_ := Aside0.mk ((by rw [hg]; exact Nat.ne_of_gt (blk_lt (g := gd) (o := .cells #[.slice A1 (fuseFiles k).length c1, .bool (fuseDown f k), .int .i64 (fuseLeft f k)] 24 (0, 0)) (by (with_reducible repeat (first | refine blk_drewN ?_ _ | refine blk_drew ?_ | refine blk_alloc ?_ _)); exact Bd.out)) : g7 ≠ gd))
            clear HOd
            clear HO5
            clear Bd
            clear HB
            have HOd := n0_
            have HO5 := n1_
            have Bd := n2_
            have HB := n3_
            have B7 := n4_
            have G7 := n5_
            have E7 := n6_
            have Nd7 := n7_
            have N7d := n8_
            clear n0_ n1_ n2_ n3_ n4_ n5_ n6_ n7_ n8_
            clear hb hbox hg
            refine hK.out _ _ ⟨(blk_cell Bd.out 0).trans rfl, (blk_cell Bd.out 1).trans rfl, (blk_cell Bd.out 2).trans rfl⟩ (fun hHeld => ?_)
            clear hK K
            refine norm_ (a' := ?_) ?_ ?_
            rotate_left
            · show Act.put _ (some 7) _ = _
              simp only [Act.put, List.setIfInBounds_toArray, List.set_cons_zero, List.set_cons_succ, i64_w, i32_w]
              rfl
            exact norm_ (by simp only [putAll, Act.put, List.setIfInBounds_toArray, List.set_cons_zero, List.set_cons_succ]) (hCont (v5, g7) _ ⟨hHeld, (by (with_reducible repeat (first | apply Kd.R_alloc | apply Kd.R_drewN | apply Kd.R_drew)); exact Kd.R_mono HO5.out (fun _ hk => hk.2)), (by (with_reducible repeat (first | apply Kd.R_alloc | apply Kd.R_drewN | apply Kd.R_drew)); exact Kd.R_mono HOd.out (fun _ hk => hk.2)), (by (with_reducible repeat (first | refine blk_drewN ?_ _ | refine blk_drew ?_ | refine blk_alloc ?_ _)); exact Bd.out), (by (with_reducible repeat (first | refine blk_drewN ?_ _ | refine blk_drew ?_ | refine blk_alloc ?_ _)); exact B7.out), G7.out, E7.out, Nd7.out, N7d.out, (by repeat (first | (with_reducible first | exact HB.out | apply below_alloc | apply pw_below_drewN | apply below_drew1 | refine below_set ?_ Eg.out | refine below_set ?_ E7.out) | exact HB.out))⟩)
          · skip
            refine box_step ?hg (N := 7) ?hd (cs := #[.slice none 0 0, .bool false, .int .i64 0]) (t := 24) ?hr ?_; (case hd => rfl); (case hg => rfl); (case hr => first | (go_simp; done) | (go_simp; rfl))
            intro g7 hg w17 hbox hb
            have n0_ := Aside0.mk (Kd.R_below (by (with_reducible repeat (first | apply Kd.R_alloc | apply Kd.R_drewN | apply Kd.R_drew)); exact HOd.out) hb)
            have n1_ := Aside0.mk (blk_below (g := gd) (o := .cells #[.slice A1 (fuseFiles k).length c1, .bool (fuseDown f k), .int .i64 (fuseLeft f k)] 24 (0, 0)) (by (with_reducible repeat (first | refine blk_drewN ?_ _ | refine blk_drew ?_ | refine blk_alloc ?_ _)); exact Bd.out) hb)
            have n2_ := Aside0.mk (below_step (by repeat (first | (with_reducible first | exact HB.out | apply below_alloc | apply pw_below_drewN | apply below_drew1 | refine below_set ?_ Eg.out) | exact HB.out)) hb)
            have n3_ := Aside0.mk (hbox)
            have n4_ := Aside0.mk ((by rw [hg]; exact (below_size (by repeat (first | (with_reducible first | exact HB.out | apply below_alloc | apply pw_below_drewN | apply below_drew1 | refine below_set ?_ Eg.out) | exact HB.out))) : w.heap.size ≤ g7))
            have n5_ := Aside0.mk ((by rw [hg]; exact (below_size (by repeat (first | (with_reducible first | exact HB.out | apply below_alloc | apply pw_below_drewN | apply below_drew1 | refine below_set ?_ Eg.out) | exact HB.out))) : w.heap.size ≤ g7))
            have n6_ := Aside0.mk ((by rw [hg]; exact Nat.ne_of_lt (blk_lt (g := gd) (o := .cells #[.slice A1 (fuseFiles k).length c1, .bool (fuseDown f k), .int .i64 (fuseLeft f k)] 24 (0, 0)) (by (with_reducible repeat (first | refine blk_drewN ?_ _ | refine blk_drew ?_ | refine blk_alloc ?_ _)); exact Bd.out)) : gd ≠ g7))
            have n7_ := Aside0.mk ((by rw [hg]; exact Nat.ne_of_gt (blk_lt (g := gd) (o := .cells #[.slice A1 (fuseFiles k).length c1, .bool (fuseDown f k), .int .i64 (fuseLeft f k)] 24 (0, 0)) (by (with_reducible repeat (first | refine blk_drewN ?_ _ | refine blk_drew ?_ | refine blk_alloc ?_ _)); exact Bd.out)) : g7 ≠ gd))
            clear HOd
            clear Bd
            clear HB
            have HOd := n0_
            have Bd := n1_
            have HB := n2_
            have B7 := n3_
            have G7 := n4_
            have E7 := n5_
            have Nd7 := n6_
            have N7d := n7_
            clear n0_ n1_ n2_ n3_ n4_ n5_ n6_ n7_
            clear hb hbox hg
            refine hK.out _ _ ⟨(blk_cell Bd.out 0).trans rfl, (blk_cell Bd.out 1).trans rfl, (blk_cell Bd.out 2).trans rfl⟩ (fun hHeld => ?_)
            clear hK K
            refine norm_ (a' := ?_) ?_ ?_
            rotate_left
            · show Act.put _ (some 7) _ = _
              simp only [Act.put, List.setIfInBounds_toArray, List.set_cons_zero, List.set_cons_succ, i64_w, i32_w]
              rfl
            refine one_ (i := 2) (N := some 26) #[true, true, true, false, false, false, true, false, false] rfl rfl (one_of HT_.out (by kernel_rfl)) (by decide) (fun K hK => ?_)
            refine goes_ Try.func10 (by kernel_rfl) rfl #[.agg #[.slice A1 (fuseFiles k).length c1, .bool (fuseDown f k), .int .i64 (fuseLeft f k)], .agg #[.int .u8 (1 : Int), .string (⟨#[97]⟩ : ByteArray), .string (⟨#[]⟩ : ByteArray), .string (⟨#[120]⟩ : ByteArray)]] (by rfl) rfl rfl (by (try simp only [List.map_toArray, List.map_cons, List.map_nil]); first | done | rfl | (simp only [List.length_drop, List.length_take]; rfl)) ?_
            refine (do_calls A1 c1 (fuseFiles k) (fuseDown f k) (fuseLeft f k) 1 ⟨#[97]⟩ ⟨#[]⟩ ⟨#[120]⟩ _ ?side1 hln (Nat.le_of_ble_eq_true rfl) hfl).mono ?_
            (case side1 => repeat (first | exact (Kd.R_reads' HOd.out).2.2 | (with_reducible refine Kd.C_alloc ?_ _) | (with_reducible refine Kd.C_drewN ?_ _) | (with_reducible refine Kd.C_drew ?_)))
            rw [HA.out]
            rintro e w18 ⟨v5, rfl, ho0, hb⟩
            refine ⟨_, rfl, ?_⟩
            have n0_ := Aside0.mk (Kd.R_elder' (by (with_reducible repeat (first | apply Kd.R_alloc | apply Kd.R_drewN | apply Kd.R_drew)); exact HOd.out) (Kd.R_base ho0) hb)
            have n1_ := Aside0.mk (Kd.R_lower (Kd.R_new' ho0 (Kd.R_lt (by (with_reducible repeat (first | apply Kd.R_alloc | apply Kd.R_drewN | apply Kd.R_drew)); exact HOd.out))) (below_size (by repeat (first | (with_reducible first | exact HB.out | apply below_alloc | apply pw_below_drewN | apply below_drew1 | refine below_set ?_ Eg.out | refine below_set ?_ E7.out) | exact HB.out))))
            have n2_ := Aside0.mk (blk_below (g := gd) (o := .cells #[.slice A1 (fuseFiles k).length c1, .bool (fuseDown f k), .int .i64 (fuseLeft f k)] 24 (0, 0)) (by (with_reducible repeat (first | refine blk_drewN ?_ _ | refine blk_drew ?_ | refine blk_alloc ?_ _)); exact Bd.out) hb)
            have n3_ := Aside0.mk (blk_below (g := g7) (o := .cells #[.slice none 0 0, .bool false, .int .i64 0] 24 (0, 0)) (by (with_reducible repeat (first | refine blk_drewN ?_ _ | refine blk_drew ?_ | refine blk_alloc ?_ _)); exact B7.out) hb)
            have n4_ := Aside0.mk (below_step (by repeat (first | (with_reducible first | exact HB.out | apply below_alloc | apply pw_below_drewN | apply below_drew1 | refine below_set ?_ Eg.out | refine below_set ?_ E7.out) | exact HB.out)) hb)
            clear HOd
            clear Bd
            clear B7
            clear HB
            have HOd := n0_
            have HO5 := n1_
            have Bd := n2_
            have B7 := n3_
            have HB := n4_
            clear n0_ n1_ n2_ n3_ n4_
            (try clear hb)
            (try clear hb2)
            (try clear hk)
            (try clear hi)
            (try clear ho0)
            refine hK.out _ _ ⟨(blk_cell Bd.out 0).trans rfl, (blk_cell Bd.out 1).trans rfl, (blk_cell Bd.out 2).trans rfl⟩ (fun hHeld => ?_)
            clear hK K
            refine norm_ (a' := ?_) ?_ ?_
            rotate_left
            · show Act.put _ (some 26) _ = _
              simp only [Act.put, List.setIfInBounds_toArray, List.set_cons_zero, List.set_cons_succ, i64_w, i32_w]
              rfl
            refine pure_ (i := 3) (N := some 23) (v := ?_) (a' := ?_) #[true, true, true, true, false, false, true, false, false] rfl rfl (any_of HT_.out (by kernel_rfl)) (fun _ _ _ h => h) (Or.inl ⟨by rfl, ?_⟩) ?_ ?_
            rotate_left
            · intro w'
              go_simp
              with_reducible rfl
            rotate_left
            · simp only [Act.put, List.setIfInBounds_toArray, List.set_cons_zero, List.set_cons_succ, i64_w, i32_w]
              rfl
            refine pure_ (i := 4) (N := some 27) (v := ?_) (a' := ?_) #[true, true, true, true, true, false, true, false, false] rfl rfl (any_of HT_.out (by kernel_rfl)) (fun _ _ _ h => h) (Or.inl ⟨by rfl, ?_⟩) ?_ ?_
            rotate_left
            · intro w'
              go_simp
              with_reducible rfl
            rotate_left
            · simp only [Act.put, List.setIfInBounds_toArray, List.set_cons_zero, List.set_cons_succ, i64_w, i32_w]
              rfl
            refine pure_ (i := 5) (N := some 28) (v := ?_) (a' := ?_) #[true, true, true, true, true, true, true, false, false] rfl rfl (any_of HT_.out (by kernel_rfl)) (fun _ _ _ h => h) (Or.inl ⟨by rfl, ?_⟩) ?_ ?_
            rotate_left
            · intro w'
              go_simp
              with_reducible rfl
            rotate_left
            · simp only [Act.put, List.setIfInBounds_toArray, List.set_cons_zero, List.set_cons_succ, i64_w, i32_w]
              rfl
            exact norm_ (by simp only [putAll, Act.put, List.setIfInBounds_toArray, List.set_cons_zero, List.set_cons_succ]) (hCont (v5, g7) _ ⟨hHeld, (by (with_reducible repeat (first | apply Kd.R_alloc | apply Kd.R_drewN | apply Kd.R_drew)); exact Kd.R_mono HO5.out (fun _ hk => hk.2)), (by (with_reducible repeat (first | apply Kd.R_alloc | apply Kd.R_drewN | apply Kd.R_drew)); exact Kd.R_mono HOd.out (fun _ hk => hk.2)), (by (with_reducible repeat (first | refine blk_drewN ?_ _ | refine blk_drew ?_ | refine blk_alloc ?_ _)); exact Bd.out), (by (with_reducible repeat (first | refine blk_drewN ?_ _ | refine blk_drew ?_ | refine blk_alloc ?_ _)); exact B7.out), G7.out, E7.out, Nd7.out, N7d.out, (by repeat (first | (with_reducible first | exact HB.out | apply below_alloc | apply pw_below_drewN | apply below_drew1 | refine below_set ?_ Eg.out | refine below_set ?_ E7.out) | exact HB.out))⟩)
        · skip
          refine box_step ?hg (N := 7) ?hd (cs := #[.slice none 0 0, .bool false, .int .i64 0]) (t := 24) ?hr ?_; (case hd => rfl); (case hg => rfl); (case hr => first | (go_simp; done) | (go_simp; rfl))
          intro g7 hg w16 hbox hb
          have n0_ := Aside0.mk (Kd.R_below (by (with_reducible repeat (first | apply Kd.R_alloc | apply Kd.R_drewN | apply Kd.R_drew)); exact HOd.out) hb)
          have n1_ := Aside0.mk (blk_below (g := gd) (o := .cells #[.slice A1 (fuseFiles k).length c1, .bool (fuseDown f k), .int .i64 (fuseLeft f k)] 24 (0, 0)) (by (with_reducible repeat (first | refine blk_drewN ?_ _ | refine blk_drew ?_ | refine blk_alloc ?_ _)); exact Bd.out) hb)
          have n2_ := Aside0.mk (below_step (by repeat (first | (with_reducible first | exact HB.out | apply below_alloc | apply pw_below_drewN | apply below_drew1 | refine below_set ?_ Eg.out) | exact HB.out)) hb)
          have n3_ := Aside0.mk (hbox)
          have n4_ := Aside0.mk ((by rw [hg]; exact (below_size (by repeat (first | (with_reducible first | exact HB.out | apply below_alloc | apply pw_below_drewN | apply below_drew1 | refine below_set ?_ Eg.out) | exact HB.out))) : w.heap.size ≤ g7))
          have n5_ := Aside0.mk ((by rw [hg]; exact (below_size (by repeat (first | (with_reducible first | exact HB.out | apply below_alloc | apply pw_below_drewN | apply below_drew1 | refine below_set ?_ Eg.out) | exact HB.out))) : w.heap.size ≤ g7))
          have n6_ := Aside0.mk ((by rw [hg]; exact Nat.ne_of_lt (blk_lt (g := gd) (o := .cells #[.slice A1 (fuseFiles k).length c1, .bool (fuseDown f k), .int .i64 (fuseLeft f k)] 24 (0, 0)) (by (with_reducible repeat (first | refine blk_drewN ?_ _ | refine blk_drew ?_ | refine blk_alloc ?_ _)); exact Bd.out)) : gd ≠ g7))
          have n7_ := Aside0.mk ((by rw [hg]; exact Nat.ne_of_gt (blk_lt (g := gd) (o := .cells #[.slice A1 (fuseFiles k).length c1, .bool (fuseDown f k), .int .i64 (fuseLeft f k)] 24 (0, 0)) (by (with_reducible repeat (first | refine blk_drewN ?_ _ | refine blk_drew ?_ | refine blk_alloc ?_ _)); exact Bd.out)) : g7 ≠ gd))
          clear HOd
          clear Bd
          clear HB
          have HOd := n0_
          have Bd := n1_
          have HB := n2_
          have B7 := n3_
          have G7 := n4_
          have E7 := n5_
          have Nd7 := n6_
          have N7d := n7_
          clear n0_ n1_ n2_ n3_ n4_ n5_ n6_ n7_
          clear hb hbox hg
          refine hK.out _ _ ⟨(blk_cell Bd.out 0).trans rfl, (blk_cell Bd.out 1).trans rfl, (blk_cell Bd.out 2).trans rfl⟩ (fun hHeld => ?_)
          clear hK K
          refine norm_ (a' := ?_) ?_ ?_
          rotate_left
          · show Act.put _ (some 7) _ = _
            simp only [Act.put, List.setIfInBounds_toArray, List.set_cons_zero, List.set_cons_succ, i64_w, i32_w]
            rfl
          refine one_ (i := 1) (N := some 25) #[true, true, false, false, false, false, true, false, false] rfl rfl (one_of HT_.out (by kernel_rfl)) (by decide) (fun K hK => ?_)
          refine goes_ Try.func21 (by kernel_rfl) rfl #[.string (⟨#[97]⟩ : ByteArray), .string (⟨#[120]⟩ : ByteArray)] (by rfl) rfl rfl (by (try simp only [List.map_toArray, List.map_cons, List.map_nil]); first | done | rfl | (simp only [List.length_drop, List.length_take]; rfl)) ?_
          refine (put_step_calls ⟨#[97]⟩ ⟨#[120]⟩ _).mono ?_
          rintro e w17 ⟨rfl, hb⟩
          refine ⟨_, rfl, ?_⟩
          have n0_ := Aside0.mk (Kd.R_below (by (with_reducible repeat (first | apply Kd.R_alloc | apply Kd.R_drewN | apply Kd.R_drew)); exact HOd.out) hb)
          have n1_ := Aside0.mk (blk_below (g := gd) (o := .cells #[.slice A1 (fuseFiles k).length c1, .bool (fuseDown f k), .int .i64 (fuseLeft f k)] 24 (0, 0)) (by (with_reducible repeat (first | refine blk_drewN ?_ _ | refine blk_drew ?_ | refine blk_alloc ?_ _)); exact Bd.out) hb)
          have n2_ := Aside0.mk (blk_below (g := g7) (o := .cells #[.slice none 0 0, .bool false, .int .i64 0] 24 (0, 0)) (by (with_reducible repeat (first | refine blk_drewN ?_ _ | refine blk_drew ?_ | refine blk_alloc ?_ _)); exact B7.out) hb)
          have n3_ := Aside0.mk (below_step (by repeat (first | (with_reducible first | exact HB.out | apply below_alloc | apply pw_below_drewN | apply below_drew1 | refine below_set ?_ Eg.out | refine below_set ?_ E7.out) | exact HB.out)) hb)
          clear HOd
          clear Bd
          clear B7
          clear HB
          have HOd := n0_
          have Bd := n1_
          have B7 := n2_
          have HB := n3_
          clear n0_ n1_ n2_ n3_
          (try clear hb)
          (try clear hb2)
          (try clear hk)
          (try clear hi)
          refine hK.out _ _ ⟨(blk_cell Bd.out 0).trans rfl, (blk_cell Bd.out 1).trans rfl, (blk_cell Bd.out 2).trans rfl⟩ (fun hHeld => ?_)
          clear hK K
          refine norm_ (a' := ?_) ?_ ?_
          rotate_left
          · show Act.put _ (some 25) _ = _
            simp only [Act.put, List.setIfInBounds_toArray, List.set_cons_zero, List.set_cons_succ, i64_w, i32_w]
            rfl
          refine one_ (i := 2) (N := some 26) #[true, true, true, false, false, false, true, false, false] rfl rfl (one_of HT_.out (by kernel_rfl)) (by decide) (fun K hK => ?_)
          refine goes_ Try.func10 (by kernel_rfl) rfl #[.agg #[.slice A1 (fuseFiles k).length c1, .bool (fuseDown f k), .int .i64 (fuseLeft f k)], .agg #[.int .u8 (1 : Int), .string (⟨#[97]⟩ : ByteArray), .string (⟨#[]⟩ : ByteArray), .string (⟨#[120]⟩ : ByteArray)]] (by rfl) rfl rfl (by (try simp only [List.map_toArray, List.map_cons, List.map_nil]); first | done | rfl | (simp only [List.length_drop, List.length_take]; rfl)) ?_
          refine (do_calls A1 c1 (fuseFiles k) (fuseDown f k) (fuseLeft f k) 1 ⟨#[97]⟩ ⟨#[]⟩ ⟨#[120]⟩ _ ?side1 hln (Nat.le_of_ble_eq_true rfl) hfl).mono ?_
          (case side1 => repeat (first | exact (Kd.R_reads' HOd.out).2.2 | (with_reducible refine Kd.C_alloc ?_ _) | (with_reducible refine Kd.C_drewN ?_ _) | (with_reducible refine Kd.C_drew ?_)))
          rw [HA.out]
          rintro e w18 ⟨v5, rfl, ho0, hb⟩
          refine ⟨_, rfl, ?_⟩
          have n0_ := Aside0.mk (Kd.R_elder' (by (with_reducible repeat (first | apply Kd.R_alloc | apply Kd.R_drewN | apply Kd.R_drew)); exact HOd.out) (Kd.R_base ho0) hb)
          have n1_ := Aside0.mk (Kd.R_lower (Kd.R_new' ho0 (Kd.R_lt (by (with_reducible repeat (first | apply Kd.R_alloc | apply Kd.R_drewN | apply Kd.R_drew)); exact HOd.out))) (below_size (by repeat (first | (with_reducible first | exact HB.out | apply below_alloc | apply pw_below_drewN | apply below_drew1 | refine below_set ?_ Eg.out | refine below_set ?_ E7.out) | exact HB.out))))
          have n2_ := Aside0.mk (blk_below (g := gd) (o := .cells #[.slice A1 (fuseFiles k).length c1, .bool (fuseDown f k), .int .i64 (fuseLeft f k)] 24 (0, 0)) (by (with_reducible repeat (first | refine blk_drewN ?_ _ | refine blk_drew ?_ | refine blk_alloc ?_ _)); exact Bd.out) hb)
          have n3_ := Aside0.mk (blk_below (g := g7) (o := .cells #[.slice none 0 0, .bool false, .int .i64 0] 24 (0, 0)) (by (with_reducible repeat (first | refine blk_drewN ?_ _ | refine blk_drew ?_ | refine blk_alloc ?_ _)); exact B7.out) hb)
          have n4_ := Aside0.mk (below_step (by repeat (first | (with_reducible first | exact HB.out | apply below_alloc | apply pw_below_drewN | apply below_drew1 | refine below_set ?_ Eg.out | refine below_set ?_ E7.out) | exact HB.out)) hb)
          clear HOd
          clear Bd
          clear B7
          clear HB
          have HOd := n0_
          have HO5 := n1_
          have Bd := n2_
          have B7 := n3_
          have HB := n4_
          clear n0_ n1_ n2_ n3_ n4_
          (try clear hb)
          (try clear hb2)
          (try clear hk)
          (try clear hi)
          (try clear ho0)
          refine hK.out _ _ ⟨(blk_cell Bd.out 0).trans rfl, (blk_cell Bd.out 1).trans rfl, (blk_cell Bd.out 2).trans rfl⟩ (fun hHeld => ?_)
          clear hK K
          refine norm_ (a' := ?_) ?_ ?_
          rotate_left
          · show Act.put _ (some 26) _ = _
            simp only [Act.put, List.setIfInBounds_toArray, List.set_cons_zero, List.set_cons_succ, i64_w, i32_w]
            rfl
          refine pure_ (i := 3) (N := some 23) (v := ?_) (a' := ?_) #[true, true, true, true, false, false, true, false, false] rfl rfl (any_of HT_.out (by kernel_rfl)) (fun _ _ _ h => h) (Or.inl ⟨by rfl, ?_⟩) ?_ ?_
          rotate_left
          · intro w'
            go_simp
            with_reducible rfl
          rotate_left
          · simp only [Act.put, List.setIfInBounds_toArray, List.set_cons_zero, List.set_cons_succ, i64_w, i32_w]
            rfl
          refine pure_ (i := 4) (N := some 27) (v := ?_) (a' := ?_) #[true, true, true, true, true, false, true, false, false] rfl rfl (any_of HT_.out (by kernel_rfl)) (fun _ _ _ h => h) (Or.inl ⟨by rfl, ?_⟩) ?_ ?_
          rotate_left
          · intro w'
            go_simp
            with_reducible rfl
          rotate_left
          · simp only [Act.put, List.setIfInBounds_toArray, List.set_cons_zero, List.set_cons_succ, i64_w, i32_w]
            rfl
          refine pure_ (i := 5) (N := some 28) (v := ?_) (a' := ?_) #[true, true, true, true, true, true, true, false, false] rfl rfl (any_of HT_.out (by kernel_rfl)) (fun _ _ _ h => h) (Or.inl ⟨by rfl, ?_⟩) ?_ ?_
          rotate_left
          · intro w'
            go_simp
            with_reducible rfl
          rotate_left
          · simp only [Act.put, List.setIfInBounds_toArray, List.set_cons_zero, List.set_cons_succ, i64_w, i32_w]
            rfl
          exact norm_ (by simp only [putAll, Act.put, List.setIfInBounds_toArray, List.set_cons_zero, List.set_cons_succ]) (hCont (v5, g7) _ ⟨hHeld, (by (with_reducible repeat (first | apply Kd.R_alloc | apply Kd.R_drewN | apply Kd.R_drew)); exact Kd.R_mono HO5.out (fun _ hk => hk.2)), (by (with_reducible repeat (first | apply Kd.R_alloc | apply Kd.R_drewN | apply Kd.R_drew)); exact Kd.R_mono HOd.out (fun _ hk => hk.2)), (by (with_reducible repeat (first | refine blk_drewN ?_ _ | refine blk_drew ?_ | refine blk_alloc ?_ _)); exact Bd.out), (by (with_reducible repeat (first | refine blk_drewN ?_ _ | refine blk_drew ?_ | refine blk_alloc ?_ _)); exact B7.out), G7.out, E7.out, Nd7.out, N7d.out, (by repeat (first | (with_reducible first | exact HB.out | apply below_alloc | apply pw_below_drewN | apply below_drew1 | refine below_set ?_ Eg.out | refine below_set ?_ E7.out) | exact HB.out))⟩)
      rintro ⟨v5, g7⟩ w19 ⟨hS_, h0_, h1_, h2_, h3_, h4_, h5_, h6_, h7_, h8_⟩
      have n0_ : Aside0 (Kd.R k41 41 w19 w.heap.size (fun k_ => some k_ ≠ (.slice A1 (fuseFiles k).length c1 : Value).ownBlock) v5 (fuseFiles (k + 1))) := ⟨h0_⟩
      have n1_ : Aside0 (Kd.R k41 41 w19 w.heap.size (fun k_ => some k_ ≠ (v5 : Value).ownBlock) (.slice A1 (fuseFiles k).length c1) (fuseFiles k)) := ⟨h1_⟩
      have n2_ : Aside0 (w19.heap[gd]? = some (.cells #[.slice A1 (fuseFiles k).length c1, .bool (fuseDown f k), .int .i64 (fuseLeft f k)] 24 (0, 0))) := ⟨h2_⟩
      have n3_ : Aside0 (w19.heap[g7]? = some (.cells #[.slice none 0 0, .bool false, .int .i64 0] 24 (0, 0))) := ⟨h3_⟩
      have n4_ : Aside0 (w.heap.size ≤ g7) := ⟨h4_⟩
      have n5_ : Aside0 (w.heap.size ≤ g7) := ⟨h5_⟩
      have n6_ : Aside0 (gd ≠ g7) := ⟨h6_⟩
      have n7_ : Aside0 (g7 ≠ gd) := ⟨h7_⟩
      have n8_ : Aside0 (Below w.heap.size w w19) := ⟨h8_⟩
      clear HOd
      clear Bd
      clear HB
      clear h0_ h1_ h2_ h3_ h4_ h5_ h6_ h7_ h8_
      have HO5 := n0_
      have HOd := n1_
      have Bd := n2_
      have B7 := n3_
      have G7 := n4_
      have E7 := n5_
      have Nd7 := n6_
      have N7d := n7_
      have HB := n8_
      clear n0_ n1_ n2_ n3_ n4_ n5_ n6_ n7_ n8_
      have hHeld : w19.cell? ⟨gd, 0, none⟩ = some (.slice A1 (fuseFiles k).length c1) ∧ w19.cell? ⟨gd, 1, none⟩ = some (.bool (fuseDown f k)) ∧ w19.cell? ⟨gd, 2, none⟩ = some (.int .i64 (fuseLeft f k)) := hS_
      obtain ⟨A5, c5, eo20⟩ := Kd.R_slice HO5.out
      (first | subst eo20 | (injection eo20 with f1_ f2_ f3_; have f4_ := f1_.symm; have f5_ := f3_.symm; clear f1_ f2_ f3_; subst f4_; subst f5_))
      refine norm_ (a' := ?_) ?_ ?_
      rotate_left
      · simp only [putAll, Act.put, List.setIfInBounds_toArray, List.set_cons_zero, List.set_cons_succ]
        rfl
      refine one_ (i := 7) (N := none) #[true, true, true, true, true, true, true, true, false] rfl rfl (one_of HT_.out (by kernel_rfl)) (by decide) (fun K hK => ?_)
      have hs21 : w19.cell? ⟨g7, 0, none⟩ = some (.slice none 0 0) := (blk_cell B7.out 0).trans rfl
      have hfs21 := blk_frozen B7.out 0
      have hns21_0 := Nd7.out
      have hms21_0 := N7d.out
      have hs22 : w19.cell? ⟨g7, 1, none⟩ = some (.bool false) := (blk_cell B7.out 1).trans rfl
      have hfs22 := blk_frozen B7.out 1
      have hns22_0 := Nd7.out
      have hms22_0 := N7d.out
      have hs23 : w19.cell? ⟨g7, 2, none⟩ = some (.int .i64 0) := (blk_cell B7.out 2).trans rfl
      have hfs23 := blk_frozen B7.out 2
      have hns23_0 := Nd7.out
      have hms23_0 := N7d.out
      refine skip_ (w1 := ?_) (by rfl) rfl ?_ ?_
      rotate_left
      · go_simp
        rfl
      refine hK.out _ _ ⟨((cell_far (p := ⟨g7, _, none⟩) Nd7.out _).trans (((cell_far (p := ⟨g7, _, none⟩) Nd7.out _).trans (((cell_far (p := ⟨g7, _, none⟩) Nd7.out _).trans (hHeld.1)))))), ((cell_far (p := ⟨g7, _, none⟩) Nd7.out _).trans (((cell_far (p := ⟨g7, _, none⟩) Nd7.out _).trans (((cell_far (p := ⟨g7, _, none⟩) Nd7.out _).trans (hHeld.2.1)))))), ((cell_far (p := ⟨g7, _, none⟩) Nd7.out _).trans (((cell_far (p := ⟨g7, _, none⟩) Nd7.out _).trans (((cell_far (p := ⟨g7, _, none⟩) Nd7.out _).trans (hHeld.2.2))))))⟩ (fun hHeld => ?_)
      clear hK K
      refine pure_ (i := 8) (N := some 8) (v := ?_) (a' := ?_) #[true, true, true, true, true, true, true, true, true] rfl rfl (any_of HT_.out (by kernel_rfl)) (fun _ _ _ h => h) (Or.inl ⟨by rfl, ?_⟩) ?_ ?_
      rotate_left
      · intro w'
        go_simp
        with_reducible rfl
      rotate_left
      · simp only [Act.put, List.setIfInBounds_toArray, List.set_cons_zero, List.set_cons_succ, i64_w, i32_w]
        rfl
      refine done_ (done_of HT_.out (by kernel_rfl)) ?_
      obtain ⟨W, hW⟩ : ∃ W, W = (((w19.setCell ⟨g7, 0, none⟩ (.slice A5 (fuseFiles (k + 1)).length c5)).setCell ⟨g7, 1, none⟩ (.bool (fuseDown f (k + 1)))).setCell ⟨g7, 2, none⟩ (.int .i64 (fuseLeft f (k + 1)))) := ⟨_, rfl⟩
      rw [← hW]
      have C7 : Hid (W.heap[g7]? = some (.cells #[.slice A5 (fuseFiles (k + 1)).length c5, .bool (fuseDown f (k + 1)), .int .i64 (fuseLeft f (k + 1))] 24 (0, 0))) := Lib.hid (by rw [hW]; exact blk_put (blk_put (blk_put B7.out 0 _ rfl) 1 _ rfl) 2 _ rfl)
      have Cd : Hid (W.heap[gd]? = some (.cells #[.slice A1 (fuseFiles k).length c1, .bool (fuseDown f k), .int .i64 (fuseLeft f k)] 24 (0, 0))) := Lib.hid (by rw [hW]; exact blk_far (blk_far (blk_far Bd.out Nd7.out _) Nd7.out _) Nd7.out _)
      have HR5 : Hid (Kd.R k41 41 W w.heap.size (fun _ => True) (.slice A5 (fuseFiles (k + 1)).length c5) (fuseFiles (k + 1))) := Lib.hid (by rw [hW]; exact Kd.R_mono (Kd.R_far (p := ⟨g7, 2, none⟩) (Kd.R_far (p := ⟨g7, 1, none⟩) (Kd.R_far (p := ⟨g7, 0, none⟩) (Kd.R_types HO5.out B7.out (by decide)) (fun _ hk => hk.2) _) (fun _ hk => hk.2) _) (fun _ hk => hk.2) _) (fun _ _ => trivial))
      have HBW : Hid (Below w.heap.size w W) := Lib.hid (by rw [hW]; exact below_set (below_set (below_set HB.out E7.out) E7.out) E7.out)
      have Nd := Nd7.out
      have N7 := N7d.out
      clear hW HO5 HB Bd B7 HOd
      have q0 := (blk_cell C7.out 0).trans rfl
      have q1 := (blk_cell C7.out 1).trans rfl
      have q2 := (blk_cell C7.out 2).trans rfl
      have r0 := (blk_cell Cd.out 0).trans rfl
      have r1 := (blk_cell Cd.out 1).trans rfl
      have r2 := (blk_cell Cd.out 2).trans rfl
      have z0 := blk_frozen Cd.out 0
      have z1 := blk_frozen Cd.out 1
      have z2 := blk_frozen Cd.out 2
      have HNN := HN.out
      have hcv : IntKind.i64.wrap f = f := by rw [IntKind.wrap_i64]; omega
      by_cases hkf : (k : Int) < f
      · have hN0 : N = 0 := by rw [HNN, if_pos hkf]
        clear HNN
        subst hN0
        go_wp2
        go_roundw
        case rel => exact ⟨k + 1, by simp, by omega, Lib.hid ⟨_, blk_put (blk_put (blk_put Cd.out 0 _ rfl) 1 _ rfl) 2 _ rfl, Kd.R_mono (Kd.R_far (p := ⟨gd, 2, none⟩) (Kd.R_far (p := ⟨gd, 1, none⟩) (Kd.R_far (p := ⟨gd, 0, none⟩) (Kd.R_types HR5.out Cd.out (by decide)) (fun _ hk => hk.2) _) (fun _ hk => hk.2) _) (fun _ hk => hk.2) _) (fun _ _ => trivial)⟩, Lib.hid (below_set (below_set (below_set HBW.out Eg) Eg) Eg)⟩
        case measure => simp [intOf]; omega
      · have hN0 : N = 12 := by rw [HNN, if_neg hkf]
        have hdn : fuseDown f (k + 1) = true := by unfold fuseDown; rw [decide_eq_true_eq]; push_cast; omega
        have HDN := Lib.hid hdn
        rw [hdn] at q1 C7
        clear HNN hdn
        subst hN0
        go_wp2
        go_roundw
        case rel => exact ⟨k + 1, by simp, by omega, Lib.hid ⟨_, by rw [HDN.out]; exact blk_put (blk_put (blk_put Cd.out 0 _ rfl) 1 _ rfl) 2 _ rfl, Kd.R_mono (Kd.R_far (p := ⟨gd, 2, none⟩) (Kd.R_far (p := ⟨gd, 1, none⟩) (Kd.R_far (p := ⟨gd, 0, none⟩) (Kd.R_types HR5.out Cd.out (by decide)) (fun _ hk => hk.2) _) (fun _ hk => hk.2) _) (fun _ hk => hk.2) _) (fun _ _ => trivial)⟩, Lib.hid (below_set (below_set (below_set HBW.out Eg) Eg) Eg)⟩
        case measure => simp [intOf]; omega
    · clear hg1 hr hC1 hlc
      by_cases l1 : (k : Int) < many
      · have l2 : ¬ (k : Int) < 300 := fun h => hlt ⟨l1, h⟩
        clear hlt
        go_wp2
        go_ret
        exact ⟨rfl, HB.out⟩
      · clear hlt
        go_wp2
        go_ret
        exact ⟨rfl, HB.out⟩
end Go.Proofs.Ytebngchdmpabhaa.Disk
