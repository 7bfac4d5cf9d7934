/- Package disk: DiskMoves answers true, whatever a disk, two names and what a crash keeps are. No condition but the bounds on a slice's and a fuse's size. -/
import Derived.Test.YtebngchdmpabhaaDsk20
namespace Go.Proofs.Ytebngchdmpabhaa.Disk
open Go.RowKit Go.Proofs.Ytebngchdmpabhaa.G Go.Proofs.YtebngchdmpabhaaW.PrintWords Go.Proofs.YtebngchdmpabhaaW.PrintLast Go.Proofs.YtebngchdmpabhaaW.PrintMore Go.Proofs.YtebngchdmpabhaaW.Raw
set_option linter.unusedVariables false
set_option linter.unusedSimpArgs false
def moves_T : Bool × List (List Nat × List Nat) := (true, [([], []), ([], []), ([], []), ([1, 2], [1, 2]), ([0, 3, 3], [0, 3]), ([4], [4]), ([5], [5]), ([5], [5]), ([], []), ([8, 6, 4, 0, 1, 2, 3, 4, 5, 6, 8], [6, 8]), ([7, 9, 0, 1, 2, 3, 4, 5, 6, 7, 8, 9], [7])])
def moves_B : List Nat := [0, 0, 0, 6, 15, 31, 63, 63, 0, 383, 1023]
theorem moves_tab : rtab .any (opsOf Try.f6 4) = moves_T := by kernel_rfl
theorem moves_bits : waitsOk moves_T.2 moves_B = true := by kernel_rfl
theorem doA_move_len (l : List S41) (down : Bool) (fuse : Int) (src dst : ByteArray) (ho : ok l = true) : (doneF l 3 src dst ⟨#[]⟩ true).length ≤ l.length := by
  show (if (foundAt l src && true && !emptyS dst) = true then moveF l src dst else l).length ≤ l.length
  split
  · rename_i h
    have hf : foundAt l src = true := by
      rcases hq : foundAt l src with _ | _
      · rw [hq] at h; simp at h
      · rfl
    have hlt := found_lt hf
    have h1 : (dropF l src).length + 1 ≤ l.length := by unfold dropF; rw [List.length_append, List.length_take, List.length_drop]; omega
    have h2 : ∀ (x : S41), (layF (dropF l src) x).length ≤ (dropF l src).length + 1 := by
      intro x
      unfold layF
      split
      · rw [List.length_set]; omega
      · rw [List.length_append, List.length_append, List.length_take, List.length_drop]; simp only [List.length_cons, List.length_nil]; omega
    have h3 := h2 ⟨dst, (l.getD (lb l src) z41).f1, (l.getD (lb l src) z41).f2⟩
    unfold moveF
    omega
  · exact Nat.le_refl _
set_option maxHeartbeats 8000000 in
set_option maxRecDepth 100000 in
theorem moves_no (A : Option Addr) (c : Nat) (l : List S41) (down : Bool) (fuse keep : Int) (src dst : ByteArray) (w : World) (hr : Kd.C k41 w A l.length l) (hn : l.length < 3518437208883) (hlc : l.length ≤ c) (hf : fuse ≤ 9223372036854775807) (F : List S41) (dn : Bool) (fu n : Int) (ha : doA l down fuse 3 src dst ⟨#[]⟩ = ⟨F, dn, fu, n⟩) (hn0 : n ≠ 0) (R1 : Int) (h1 : readN l down src = R1)
    (hor : R1 ≠ 0 ∨ emptyS dst = true ∨ dn = true) :
    Calls Try.prog 6 #[.agg #[.slice A l.length c, .bool down, .int .i64 fuse], .string src, .string dst, .int .i64 keep] w fun e w' => e = .returned (.bool true) ∧ Below w.heap.size w w' := by
  have HR := Lib.hid hr
  clear hr
  have HB := Lib.hid (Below.refl w.heap.size w)
  have HA := Lib.hid ha
  have H1 := Lib.hid h1
  have HOR := Lib.hid hor
  have d0 : (n != 0) = true := by simpa using hn0
  clear ha h1 hor
  go_enter Try.func6, Try.ntmps6
  go_wp2_with (first
    | ((with_reducible refine gate_dst (N := 4) rfl ?_); refine box_event ?hg (N := 4) ?hd (cs := #[.slice A l.length c, .bool down, .int .i64 fuse]) (t := 24) ?hr ?_; (case hd => rfl); (case hg => rfl); (case hr => first | (go_simp; done) | (go_simp; rfl)); intro g4 hg w3 hbx hb; have Eg4 : w.heap.size ≤ g4 := (by rw [hg]; exact HB.out.size); have nHB := Lib.hid (below_step HB.out hb); clear HB; have HB := nHB; have Bg4 := Lib.hid hbx; clear nHB hg hbx hb)
    | (go_at_call 16; refine (lives_calls _).mono ?_; rintro e wa ⟨rfl, hb⟩; have nBg4 := Lib.hid (blk_below Bg4.out hb); have nHB := Lib.hid (below_step HB.out hb); clear Bg4 HB; have Bg4 := nBg4; have HB := nHB; clear nBg4 nHB hb; have q0 := (blk_cell Bg4.out 0).trans rfl; have q1 := (blk_cell Bg4.out 1).trans rfl; have q2 := (blk_cell Bg4.out 2).trans rfl)
    | (go_at_call 12; refine (read_calls A c l down fuse src _ (Kd.C_below HR.out HB.out) (by omega) hlc).mono ?_; rintro e w17 ⟨rfl, hb⟩; clear q0 q1 q2; rw [H1.out]; have nBg4 := Lib.hid (blk_below Bg4.out hb); have nHB := Lib.hid (below_step HB.out hb); clear Bg4 HB; have Bg4 := nBg4; have HB := nHB; clear nBg4 nHB hb; have E4 := Lib.hid Eg4; clear Eg4))
  have n0_ := Aside0.mk (blk_drew Bg4.out)
  have n1_ := Aside0.mk (below_drew1 HB.out)
  clear Bg4
  clear HB
  have Bg4 := n0_
  have HB := n1_
  clear n0_ n1_
  refine start_ (n := 11) (S := fun w' => w'.cell? ⟨g4, 0, none⟩ = some (.slice A l.length c) ∧ w'.cell? ⟨g4, 1, none⟩ = some (.bool down) ∧ w'.cell? ⟨g4, 2, none⟩ = some (.int .i64 fuse)) (ds := []) #[false, false, false, false, false, false, false, false, false, false, false] (by kernel_rfl) rfl rfl ⟨(blk_cell Bg4.out 0).trans rfl, (blk_cell Bg4.out 1).trans rfl, (blk_cell Bg4.out 2).trans rfl⟩ (fun hHeld => ?_); refine with_tabW moves_tab moves_bits (fun HT_ HW_ => ?_)
  generalize w17.drew = w18 at Bg4 HB hHeld ⊢
  refine pure_ (i := 1) (N := some 35) (v := ?_) (a' := ?_) #[false, true, false, false, false, false, false, false, false, false, false] rfl rfl (any_of HT_.out (by kernel_rfl)) (fun _ _ _ h => h) (Or.inl ⟨by rfl, ?_⟩) ?_ ?_
  rotate_left
  · intro w'
    go_simp
    with_reducible rfl
  rotate_left
  · simp only [Act.put, List.setIfInBounds_toArray, List.set_cons_zero, List.set_cons_succ, i64_w, i32_w]
    rfl
  refine pure_ (i := 2) (N := some 36) (v := ?_) (a' := ?_) #[false, true, true, false, false, false, false, false, false, false, false] rfl rfl (any_of HT_.out (by kernel_rfl)) (fun _ _ _ h => h) (Or.inl ⟨by rfl, ?_⟩) ?_ ?_
  rotate_left
  · intro w'
    go_simp
    with_reducible rfl
  rotate_left
  · simp only [Act.put, List.setIfInBounds_toArray, List.set_cons_zero, List.set_cons_succ, i64_w, i32_w]
    rfl
  refine take_ (i := 0) (N := some 34) (v := ?_) (a' := ?_) #[true, true, true, false, false, false, false, false, false, false, false] rfl rfl (take_ofW HT_.out HW_.out (by kernel_rfl)) (fun _ _ _ h => h) (Or.inl ⟨by rfl, ?_⟩) hHeld ?_ ?_
  rotate_left
  · rintro w' ⟨s0, s1, s2⟩
    go_simp
    with_reducible rfl
  rotate_left
  · simp only [Act.put, List.setIfInBounds_toArray, List.set_cons_zero, List.set_cons_succ, i64_w, i32_w]
    rfl
  refine join_ (σ := Value × Nat) 2 #[true, true, true, true, true, true, true, true, true, false, false] (fun s_ => [(37, .agg #[.int .u8 (3 : Int), .string src, .string dst, .string (⟨#[]⟩ : ByteArray)]), (38, .tuple #[.agg #[s_.1, .bool dn, .int .i64 fu], .int .i64 n]), (11, .pointer (some ⟨s_.2, 0, none⟩)), (33, .tuple #[.agg #[s_.1, .bool dn, .int .i64 fu], .int .i64 n]), (39, .agg #[s_.1, .bool dn, .int .i64 fu]), (40, .int .i64 n)]) (fun s_ w' => (w'.cell? ⟨g4, 0, none⟩ = some (.slice A l.length c) ∧ w'.cell? ⟨g4, 1, none⟩ = some (.bool down) ∧ w'.cell? ⟨g4, 2, none⟩ = some (.int .i64 fuse)) ∧ (Kd.R k41 41 w' w.heap.size (fun _ => True) s_.1 F) ∧ (w'.heap[g4]? = some (.cells #[.slice A l.length c, .bool down, .int .i64 fuse] 24 (0, 0))) ∧ (w'.heap[s_.2]? = some (.cells #[.slice none 0 0, .bool false, .int .i64 0] 24 (0, 0))) ∧ (w.heap.size ≤ s_.2) ∧ (w.heap.size ≤ s_.2) ∧ (g4 ≠ s_.2) ∧ (s_.2 ≠ g4) ∧ (Below w.heap.size w w')) ?_ ?_
  rotate_left
  · intro hCont
    refine two_ (i := 3) (j := 8) (Ni := some 37) (Nj := some 11) #[true, true, true, true, false, false, false, false, false, false, false] #[true, true, true, false, false, false, false, false, true, false, false] rfl rfl rfl rfl (two_of HT_.out (by kernel_rfl)) (by decide) (by decide) (fun K hK => ?_) (fun K hK => ?_)
    · skip
      refine goes_ Try.func20 (by kernel_rfl) rfl #[.string src, .string dst] (by rfl) rfl rfl (by (try simp only [List.map_toArray, List.map_cons, List.map_nil]); first | done | rfl | (simp only [List.length_drop, List.length_take]; rfl)) ?_
      refine (move_step_calls src dst _).mono ?_
      rintro e w19 ⟨rfl, hb⟩
      refine ⟨_, rfl, ?_⟩
      have n0_ := Aside0.mk (blk_below (g := g4) (o := .cells #[.slice A l.length c, .bool down, .int .i64 fuse] 24 (0, 0)) (by (with_reducible repeat (first | refine blk_drewN ?_ _ | refine blk_drew ?_ | refine blk_alloc ?_ _)); exact Bg4.out) hb)
      have n1_ := Aside0.mk (below_step (by repeat (first | (with_reducible first | exact HB.out | apply below_alloc | apply pw_below_drewN | apply below_drew1 | refine below_set ?_ E4.out) | exact HB.out)) hb)
      clear Bg4
      clear HB
      have Bg4 := n0_
      have HB := n1_
      clear n0_ n1_
      (try clear hb)
      (try clear hb2)
      (try clear hk)
      (try clear hi)
      refine hK.out _ _ ⟨(blk_cell Bg4.out 0).trans rfl, (blk_cell Bg4.out 1).trans rfl, (blk_cell Bg4.out 2).trans rfl⟩ (fun hHeld => ?_)
      clear hK K
      refine norm_ (a' := ?_) ?_ ?_
      rotate_left
      · show Act.put _ (some 37) _ = _
        simp only [Act.put, List.setIfInBounds_toArray, List.set_cons_zero, List.set_cons_succ, i64_w, i32_w]
        rfl
      refine two_ (i := 4) (j := 8) (Ni := some 38) (Nj := some 11) #[true, true, true, true, true, false, false, false, false, false, false] #[true, true, true, true, false, false, false, false, true, false, false] rfl rfl rfl rfl (two_of HT_.out (by kernel_rfl)) (by decide) (by decide) (fun K hK => ?_) (fun K hK => ?_)
      · skip
        refine goes_ Try.func10 (by kernel_rfl) rfl #[.agg #[.slice A l.length c, .bool down, .int .i64 fuse], .agg #[.int .u8 (3 : Int), .string src, .string dst, .string (⟨#[]⟩ : ByteArray)]] (by rfl) rfl rfl (by (try simp only [List.map_toArray, List.map_cons, List.map_nil]); first | done | rfl | (simp only [List.length_drop, List.length_take]; rfl)) ?_
        refine (do_calls A c l down fuse 3 src dst ⟨#[]⟩ _ ?side1 hn (Nat.le_of_ble_eq_true rfl) hf).mono ?_
        (case side1 => repeat (first | exact (Kd.C_below HR.out HB.out) | (with_reducible refine Kd.C_alloc ?_ _) | (with_reducible refine Kd.C_drewN ?_ _) | (with_reducible refine Kd.C_drew ?_)))
        rw [HA.out]
        rintro e w20 ⟨v5, rfl, ho0, hb⟩
        refine ⟨_, rfl, ?_⟩
        have n0_ := Aside0.mk (Kd.R_lower ho0 (below_size (by repeat (first | (with_reducible first | exact HB.out | apply below_alloc | apply pw_below_drewN | apply below_drew1 | refine below_set ?_ E4.out) | exact HB.out))))
        have n1_ := Aside0.mk (blk_below (g := g4) (o := .cells #[.slice A l.length c, .bool down, .int .i64 fuse] 24 (0, 0)) (by (with_reducible repeat (first | refine blk_drewN ?_ _ | refine blk_drew ?_ | refine blk_alloc ?_ _)); exact Bg4.out) hb)
        have n2_ := Aside0.mk (below_step (by repeat (first | (with_reducible first | exact HB.out | apply below_alloc | apply pw_below_drewN | apply below_drew1 | refine below_set ?_ E4.out) | exact HB.out)) hb)
        clear Bg4
        clear HB
        have HO5 := n0_
        have Bg4 := n1_
        have HB := n2_
        clear n0_ n1_ n2_
        (try clear hb)
        (try clear hb2)
        (try clear hk)
        (try clear hi)
        (try clear ho0)
        refine hK.out _ _ ⟨(blk_cell Bg4.out 0).trans rfl, (blk_cell Bg4.out 1).trans rfl, (blk_cell Bg4.out 2).trans rfl⟩ (fun hHeld => ?_)
        clear hK K
        refine norm_ (a' := ?_) ?_ ?_
        rotate_left
        · show Act.put _ (some 38) _ = _
          simp only [Act.put, List.setIfInBounds_toArray, List.set_cons_zero, List.set_cons_succ, i64_w, i32_w]
          rfl
        refine pure_ (i := 5) (N := some 33) (v := ?_) (a' := ?_) #[true, true, true, true, true, true, false, false, false, false, false] rfl rfl (any_of HT_.out (by kernel_rfl)) (fun _ _ _ h => h) (Or.inl ⟨by rfl, ?_⟩) ?_ ?_
        rotate_left
        · intro w'
          go_simp
          with_reducible rfl
        rotate_left
        · simp only [Act.put, List.setIfInBounds_toArray, List.set_cons_zero, List.set_cons_succ, i64_w, i32_w]
          rfl
        refine pure_ (i := 6) (N := some 39) (v := ?_) (a' := ?_) #[true, true, true, true, true, true, true, false, false, false, false] rfl rfl (any_of HT_.out (by kernel_rfl)) (fun _ _ _ h => h) (Or.inl ⟨by rfl, ?_⟩) ?_ ?_
        rotate_left
        · intro w'
          go_simp
          with_reducible rfl
        rotate_left
        · simp only [Act.put, List.setIfInBounds_toArray, List.set_cons_zero, List.set_cons_succ, i64_w, i32_w]
          rfl
        refine pure_ (i := 7) (N := some 40) (v := ?_) (a' := ?_) #[true, true, true, true, true, true, true, true, false, false, false] rfl rfl (any_of HT_.out (by kernel_rfl)) (fun _ _ _ h => h) (Or.inl ⟨by rfl, ?_⟩) ?_ ?_
        rotate_left
        · intro w'
          go_simp
          with_reducible rfl
        rotate_left
        · simp only [Act.put, List.setIfInBounds_toArray, List.set_cons_zero, List.set_cons_succ, i64_w, i32_w]
          rfl
        refine one_ (i := 8) (N := some 11) #[true, true, true, true, true, true, true, true, true, false, false] rfl rfl (one_of HT_.out (by kernel_rfl)) (by decide) (fun K hK => ?_)
        refine box_step ?hg (N := 11) ?hd (cs := #[.slice none 0 0, .bool false, .int .i64 0]) (t := 24) ?hr ?_; (case hd => rfl); (case hg => rfl); (case hr => first | (go_simp; done) | (go_simp; rfl))
        intro g5 hg w21 hbox hb
        have n0_ := Aside0.mk (Kd.R_below (by (with_reducible repeat (first | apply Kd.R_alloc | apply Kd.R_drewN | apply Kd.R_drew)); exact HO5.out) hb)
        have n1_ := Aside0.mk (blk_below (g := g4) (o := .cells #[.slice A l.length c, .bool down, .int .i64 fuse] 24 (0, 0)) (by (with_reducible repeat (first | refine blk_drewN ?_ _ | refine blk_drew ?_ | refine blk_alloc ?_ _)); exact Bg4.out) hb)
        have n2_ := Aside0.mk (below_step (by repeat (first | (with_reducible first | exact HB.out | apply below_alloc | apply pw_below_drewN | apply below_drew1 | refine below_set ?_ E4.out) | exact HB.out)) hb)
        have n3_ := Aside0.mk (hbox)
        have n4_ := Aside0.mk ((by rw [hg]; exact (below_size (by repeat (first | (with_reducible first | exact HB.out | apply below_alloc | apply pw_below_drewN | apply below_drew1 | refine below_set ?_ E4.out) | exact HB.out))) : w.heap.size ≤ g5))
        have n5_ := Aside0.mk ((by rw [hg]; exact (below_size (by repeat (first | (with_reducible first | exact HB.out | apply below_alloc | apply pw_below_drewN | apply below_drew1 | refine below_set ?_ E4.out) | exact HB.out))) : w.heap.size ≤ g5))
        have n6_ := Aside0.mk ((by rw [hg]; exact Nat.ne_of_lt (blk_lt (g := g4) (o := .cells #[.slice A l.length c, .bool down, .int .i64 fuse] 24 (0, 0)) (by (with_reducible repeat (first | refine blk_drewN ?_ _ | refine blk_drew ?_ | refine blk_alloc ?_ _)); exact Bg4.out)) : g4 ≠ g5))
        have n7_ := Aside0.mk ((by rw [hg]; exact Nat.ne_of_gt (blk_lt (g := g4) (o := .cells #[.slice A l.length c, .bool down, .int .i64 fuse] 24 (0, 0)) (by (with_reducible repeat (first | refine blk_drewN ?_ _ | refine blk_drew ?_ | refine blk_alloc ?_ _)); exact Bg4.out)) : g5 ≠ g4))
        clear HO5
        clear Bg4
        clear HB
        have HO5 := n0_
        have Bg4 := n1_
        have HB := n2_
        have B5 := n3_
        have G5 := n4_
        have E5 := n5_
        have N45 := n6_
        have N54 := n7_
        clear n0_ n1_ n2_ n3_ n4_ n5_ n6_ n7_
        clear hb hbox hg
        refine hK.out _ _ ⟨(blk_cell Bg4.out 0).trans rfl, (blk_cell Bg4.out 1).trans rfl, (blk_cell Bg4.out 2).trans rfl⟩ (fun hHeld => ?_)
        clear hK K
        refine norm_ (a' := ?_) ?_ ?_
        rotate_left
        · show Act.put _ (some 11) _ = _
          simp only [Act.put, List.setIfInBounds_toArray, List.set_cons_zero, List.set_cons_succ, i64_w, i32_w]
          rfl
        exact norm_ (by simp only [putAll, Act.put, List.setIfInBounds_toArray, List.set_cons_zero, List.set_cons_succ]) (hCont (v5, g5) _ ⟨hHeld, (by (with_reducible repeat (first | apply Kd.R_alloc | apply Kd.R_drewN | apply Kd.R_drew)); exact HO5.out), (by (with_reducible repeat (first | refine blk_drewN ?_ _ | refine blk_drew ?_ | refine blk_alloc ?_ _)); exact Bg4.out), (by (with_reducible repeat (first | refine blk_drewN ?_ _ | refine blk_drew ?_ | refine blk_alloc ?_ _)); exact B5.out), G5.out, E5.out, N45.out, N54.out, (by repeat (first | (with_reducible first | exact HB.out | apply below_alloc | apply pw_below_drewN | apply below_drew1 | refine below_set ?_ E4.out | refine below_set ?_ E5.out) | exact HB.out))⟩)
      · skip
        refine box_step ?hg (N := 11) ?hd (cs := #[.slice none 0 0, .bool false, .int .i64 0]) (t := 24) ?hr ?_; (case hd => rfl); (case hg => rfl); (case hr => first | (go_simp; done) | (go_simp; rfl))
        intro g5 hg w20 hbox hb
        have n0_ := Aside0.mk (blk_below (g := g4) (o := .cells #[.slice A l.length c, .bool down, .int .i64 fuse] 24 (0, 0)) (by (with_reducible repeat (first | refine blk_drewN ?_ _ | refine blk_drew ?_ | refine blk_alloc ?_ _)); exact Bg4.out) hb)
        have n1_ := Aside0.mk (below_step (by repeat (first | (with_reducible first | exact HB.out | apply below_alloc | apply pw_below_drewN | apply below_drew1 | refine below_set ?_ E4.out) | exact HB.out)) hb)
        have n2_ := Aside0.mk (hbox)
        have n3_ := Aside0.mk ((by rw [hg]; exact (below_size (by repeat (first | (with_reducible first | exact HB.out | apply below_alloc | apply pw_below_drewN | apply below_drew1 | refine below_set ?_ E4.out) | exact HB.out))) : w.heap.size ≤ g5))
        have n4_ := Aside0.mk ((by rw [hg]; exact (below_size (by repeat (first | (with_reducible first | exact HB.out | apply below_alloc | apply pw_below_drewN | apply below_drew1 | refine below_set ?_ E4.out) | exact HB.out))) : w.heap.size ≤ g5))
        have n5_ := Aside0.mk ((by rw [hg]; exact Nat.ne_of_lt (blk_lt (g := g4) (o := .cells #[.slice A l.length c, .bool down, .int .i64 fuse] 24 (0, 0)) (by (with_reducible repeat (first | refine blk_drewN ?_ _ | refine blk_drew ?_ | refine blk_alloc ?_ _)); exact Bg4.out)) : g4 ≠ g5))
        have n6_ := Aside0.mk ((by rw [hg]; exact Nat.ne_of_gt (blk_lt (g := g4) (o := .cells #[.slice A l.length c, .bool down, .int .i64 fuse] 24 (0, 0)) (by (with_reducible repeat (first | refine blk_drewN ?_ _ | refine blk_drew ?_ | refine blk_alloc ?_ _)); exact Bg4.out)) : g5 ≠ g4))
        clear Bg4
        clear HB
        have Bg4 := n0_
        have HB := n1_
        have B5 := n2_
        have G5 := n3_
        have E5 := n4_
        have N45 := n5_
        have N54 := n6_
        clear n0_ n1_ n2_ n3_ n4_ n5_ n6_
        clear hb hbox hg
        refine hK.out _ _ ⟨(blk_cell Bg4.out 0).trans rfl, (blk_cell Bg4.out 1).trans rfl, (blk_cell Bg4.out 2).trans rfl⟩ (fun hHeld => ?_)
        clear hK K
        refine norm_ (a' := ?_) ?_ ?_
        rotate_left
        · show Act.put _ (some 11) _ = _
          simp only [Act.put, List.setIfInBounds_toArray, List.set_cons_zero, List.set_cons_succ, i64_w, i32_w]
          rfl
        refine one_ (i := 4) (N := some 38) #[true, true, true, true, true, false, false, false, true, false, false] rfl rfl (one_of HT_.out (by kernel_rfl)) (by decide) (fun K hK => ?_)
        refine goes_ Try.func10 (by kernel_rfl) rfl #[.agg #[.slice A l.length c, .bool down, .int .i64 fuse], .agg #[.int .u8 (3 : Int), .string src, .string dst, .string (⟨#[]⟩ : ByteArray)]] (by rfl) rfl rfl (by (try simp only [List.map_toArray, List.map_cons, List.map_nil]); first | done | rfl | (simp only [List.length_drop, List.length_take]; rfl)) ?_
        refine (do_calls A c l down fuse 3 src dst ⟨#[]⟩ _ ?side1 hn (Nat.le_of_ble_eq_true rfl) hf).mono ?_
        (case side1 => repeat (first | exact (Kd.C_below HR.out HB.out) | (with_reducible refine Kd.C_alloc ?_ _) | (with_reducible refine Kd.C_drewN ?_ _) | (with_reducible refine Kd.C_drew ?_)))
        rw [HA.out]
        rintro e w21 ⟨v5, rfl, ho0, hb⟩
        refine ⟨_, rfl, ?_⟩
        have n0_ := Aside0.mk (Kd.R_lower ho0 (below_size (by repeat (first | (with_reducible first | exact HB.out | apply below_alloc | apply pw_below_drewN | apply below_drew1 | refine below_set ?_ E4.out | refine below_set ?_ E5.out) | exact HB.out))))
        have n1_ := Aside0.mk (blk_below (g := g4) (o := .cells #[.slice A l.length c, .bool down, .int .i64 fuse] 24 (0, 0)) (by (with_reducible repeat (first | refine blk_drewN ?_ _ | refine blk_drew ?_ | refine blk_alloc ?_ _)); exact Bg4.out) hb)
        have n2_ := Aside0.mk (blk_below (g := g5) (o := .cells #[.slice none 0 0, .bool false, .int .i64 0] 24 (0, 0)) (by (with_reducible repeat (first | refine blk_drewN ?_ _ | refine blk_drew ?_ | refine blk_alloc ?_ _)); exact B5.out) hb)
        have n3_ := Aside0.mk (below_step (by repeat (first | (with_reducible first | exact HB.out | apply below_alloc | apply pw_below_drewN | apply below_drew1 | refine below_set ?_ E4.out | refine below_set ?_ E5.out) | exact HB.out)) hb)
        clear Bg4
        clear B5
        clear HB
        have HO5 := n0_
        have Bg4 := n1_
        have B5 := n2_
        have HB := n3_
        clear n0_ n1_ n2_ n3_
        (try clear hb)
        (try clear hb2)
        (try clear hk)
        (try clear hi)
        (try clear ho0)
        refine hK.out _ _ ⟨(blk_cell Bg4.out 0).trans rfl, (blk_cell Bg4.out 1).trans rfl, (blk_cell Bg4.out 2).trans rfl⟩ (fun hHeld => ?_)
        clear hK K
        refine norm_ (a' := ?_) ?_ ?_
        rotate_left
        · show Act.put _ (some 38) _ = _
          simp only [Act.put, List.setIfInBounds_toArray, List.set_cons_zero, List.set_cons_succ, i64_w, i32_w]
          rfl
        refine pure_ (i := 5) (N := some 33) (v := ?_) (a' := ?_) #[true, true, true, true, true, true, false, false, true, false, false] rfl rfl (any_of HT_.out (by kernel_rfl)) (fun _ _ _ h => h) (Or.inl ⟨by rfl, ?_⟩) ?_ ?_
        rotate_left
        · intro w'
          go_simp
          with_reducible rfl
        rotate_left
        · simp only [Act.put, List.setIfInBounds_toArray, List.set_cons_zero, List.set_cons_succ, i64_w, i32_w]
          rfl
        refine pure_ (i := 6) (N := some 39) (v := ?_) (a' := ?_) #[true, true, true, true, true, true, true, false, true, false, false] rfl rfl (any_of HT_.out (by kernel_rfl)) (fun _ _ _ h => h) (Or.inl ⟨by rfl, ?_⟩) ?_ ?_
        rotate_left
        · intro w'
          go_simp
          with_reducible rfl
        rotate_left
        · simp only [Act.put, List.setIfInBounds_toArray, List.set_cons_zero, List.set_cons_succ, i64_w, i32_w]
          rfl
        refine pure_ (i := 7) (N := some 40) (v := ?_) (a' := ?_) #[true, true, true, true, true, true, true, true, true, false, false] rfl rfl (any_of HT_.out (by kernel_rfl)) (fun _ _ _ h => h) (Or.inl ⟨by rfl, ?_⟩) ?_ ?_
        rotate_left
        · intro w'
          go_simp
          with_reducible rfl
        rotate_left
        · simp only [Act.put, List.setIfInBounds_toArray, List.set_cons_zero, List.set_cons_succ, i64_w, i32_w]
          rfl
        exact norm_ (by simp only [putAll, Act.put, List.setIfInBounds_toArray, List.set_cons_zero, List.set_cons_succ]) (hCont (v5, g5) _ ⟨hHeld, (by (with_reducible repeat (first | apply Kd.R_alloc | apply Kd.R_drewN | apply Kd.R_drew)); exact HO5.out), (by (with_reducible repeat (first | refine blk_drewN ?_ _ | refine blk_drew ?_ | refine blk_alloc ?_ _)); exact Bg4.out), (by (with_reducible repeat (first | refine blk_drewN ?_ _ | refine blk_drew ?_ | refine blk_alloc ?_ _)); exact B5.out), G5.out, E5.out, N45.out, N54.out, (by repeat (first | (with_reducible first | exact HB.out | apply below_alloc | apply pw_below_drewN | apply below_drew1 | refine below_set ?_ E4.out | refine below_set ?_ E5.out) | exact HB.out))⟩)
    · skip
      refine box_step ?hg (N := 11) ?hd (cs := #[.slice none 0 0, .bool false, .int .i64 0]) (t := 24) ?hr ?_; (case hd => rfl); (case hg => rfl); (case hr => first | (go_simp; done) | (go_simp; rfl))
      intro g5 hg w19 hbox hb
      have n0_ := Aside0.mk (blk_below (g := g4) (o := .cells #[.slice A l.length c, .bool down, .int .i64 fuse] 24 (0, 0)) (by (with_reducible repeat (first | refine blk_drewN ?_ _ | refine blk_drew ?_ | refine blk_alloc ?_ _)); exact Bg4.out) hb)
      have n1_ := Aside0.mk (below_step (by repeat (first | (with_reducible first | exact HB.out | apply below_alloc | apply pw_below_drewN | apply below_drew1 | refine below_set ?_ E4.out) | exact HB.out)) hb)
      have n2_ := Aside0.mk (hbox)
      have n3_ := Aside0.mk ((by rw [hg]; exact (below_size (by repeat (first | (with_reducible first | exact HB.out | apply below_alloc | apply pw_below_drewN | apply below_drew1 | refine below_set ?_ E4.out) | exact HB.out))) : w.heap.size ≤ g5))
      have n4_ := Aside0.mk ((by rw [hg]; exact (below_size (by repeat (first | (with_reducible first | exact HB.out | apply below_alloc | apply pw_below_drewN | apply below_drew1 | refine below_set ?_ E4.out) | exact HB.out))) : w.heap.size ≤ g5))
      have n5_ := Aside0.mk ((by rw [hg]; exact Nat.ne_of_lt (blk_lt (g := g4) (o := .cells #[.slice A l.length c, .bool down, .int .i64 fuse] 24 (0, 0)) (by (with_reducible repeat (first | refine blk_drewN ?_ _ | refine blk_drew ?_ | refine blk_alloc ?_ _)); exact Bg4.out)) : g4 ≠ g5))
      have n6_ := Aside0.mk ((by rw [hg]; exact Nat.ne_of_gt (blk_lt (g := g4) (o := .cells #[.slice A l.length c, .bool down, .int .i64 fuse] 24 (0, 0)) (by (with_reducible repeat (first | refine blk_drewN ?_ _ | refine blk_drew ?_ | refine blk_alloc ?_ _)); exact Bg4.out)) : g5 ≠ g4))
      clear Bg4
      clear HB
      have Bg4 := n0_
      have HB := n1_
      have B5 := n2_
      have G5 := n3_
      have E5 := n4_
      have N45 := n5_
      have N54 := n6_
      clear n0_ n1_ n2_ n3_ n4_ n5_ n6_
      clear hb hbox hg
      refine hK.out _ _ ⟨(blk_cell Bg4.out 0).trans rfl, (blk_cell Bg4.out 1).trans rfl, (blk_cell Bg4.out 2).trans rfl⟩ (fun hHeld => ?_)
      clear hK K
      refine norm_ (a' := ?_) ?_ ?_
      rotate_left
      · show Act.put _ (some 11) _ = _
        simp only [Act.put, List.setIfInBounds_toArray, List.set_cons_zero, List.set_cons_succ, i64_w, i32_w]
        rfl
      refine one_ (i := 3) (N := some 37) #[true, true, true, true, false, false, false, false, true, false, false] rfl rfl (one_of HT_.out (by kernel_rfl)) (by decide) (fun K hK => ?_)
      refine goes_ Try.func20 (by kernel_rfl) rfl #[.string src, .string dst] (by rfl) rfl rfl (by (try simp only [List.map_toArray, List.map_cons, List.map_nil]); first | done | rfl | (simp only [List.length_drop, List.length_take]; rfl)) ?_
      refine (move_step_calls src dst _).mono ?_
      rintro e w20 ⟨rfl, hb⟩
      refine ⟨_, rfl, ?_⟩
      have n0_ := Aside0.mk (blk_below (g := g4) (o := .cells #[.slice A l.length c, .bool down, .int .i64 fuse] 24 (0, 0)) (by (with_reducible repeat (first | refine blk_drewN ?_ _ | refine blk_drew ?_ | refine blk_alloc ?_ _)); exact Bg4.out) hb)
      have n1_ := Aside0.mk (blk_below (g := g5) (o := .cells #[.slice none 0 0, .bool false, .int .i64 0] 24 (0, 0)) (by (with_reducible repeat (first | refine blk_drewN ?_ _ | refine blk_drew ?_ | refine blk_alloc ?_ _)); exact B5.out) hb)
      have n2_ := Aside0.mk (below_step (by repeat (first | (with_reducible first | exact HB.out | apply below_alloc | apply pw_below_drewN | apply below_drew1 | refine below_set ?_ E4.out | refine below_set ?_ E5.out) | exact HB.out)) hb)
      clear Bg4
      clear B5
      clear HB
      have Bg4 := n0_
      have B5 := n1_
      have HB := n2_
      clear n0_ n1_ n2_
      (try clear hb)
      (try clear hb2)
      (try clear hk)
      (try clear hi)
      refine hK.out _ _ ⟨(blk_cell Bg4.out 0).trans rfl, (blk_cell Bg4.out 1).trans rfl, (blk_cell Bg4.out 2).trans rfl⟩ (fun hHeld => ?_)
      clear hK K
      refine norm_ (a' := ?_) ?_ ?_
      rotate_left
      · show Act.put _ (some 37) _ = _
        simp only [Act.put, List.setIfInBounds_toArray, List.set_cons_zero, List.set_cons_succ, i64_w, i32_w]
        rfl
      refine one_ (i := 4) (N := some 38) #[true, true, true, true, true, false, false, false, true, false, false] rfl rfl (one_of HT_.out (by kernel_rfl)) (by decide) (fun K hK => ?_)
      refine goes_ Try.func10 (by kernel_rfl) rfl #[.agg #[.slice A l.length c, .bool down, .int .i64 fuse], .agg #[.int .u8 (3 : Int), .string src, .string dst, .string (⟨#[]⟩ : ByteArray)]] (by rfl) rfl rfl (by (try simp only [List.map_toArray, List.map_cons, List.map_nil]); first | done | rfl | (simp only [List.length_drop, List.length_take]; rfl)) ?_
      refine (do_calls A c l down fuse 3 src dst ⟨#[]⟩ _ ?side1 hn (Nat.le_of_ble_eq_true rfl) hf).mono ?_
      (case side1 => repeat (first | exact (Kd.C_below HR.out HB.out) | (with_reducible refine Kd.C_alloc ?_ _) | (with_reducible refine Kd.C_drewN ?_ _) | (with_reducible refine Kd.C_drew ?_)))
      rw [HA.out]
      rintro e w21 ⟨v5, rfl, ho0, hb⟩
      refine ⟨_, rfl, ?_⟩
      have n0_ := Aside0.mk (Kd.R_lower ho0 (below_size (by repeat (first | (with_reducible first | exact HB.out | apply below_alloc | apply pw_below_drewN | apply below_drew1 | refine below_set ?_ E4.out | refine below_set ?_ E5.out) | exact HB.out))))
      have n1_ := Aside0.mk (blk_below (g := g4) (o := .cells #[.slice A l.length c, .bool down, .int .i64 fuse] 24 (0, 0)) (by (with_reducible repeat (first | refine blk_drewN ?_ _ | refine blk_drew ?_ | refine blk_alloc ?_ _)); exact Bg4.out) hb)
      have n2_ := Aside0.mk (blk_below (g := g5) (o := .cells #[.slice none 0 0, .bool false, .int .i64 0] 24 (0, 0)) (by (with_reducible repeat (first | refine blk_drewN ?_ _ | refine blk_drew ?_ | refine blk_alloc ?_ _)); exact B5.out) hb)
      have n3_ := Aside0.mk (below_step (by repeat (first | (with_reducible first | exact HB.out | apply below_alloc | apply pw_below_drewN | apply below_drew1 | refine below_set ?_ E4.out | refine below_set ?_ E5.out) | exact HB.out)) hb)
      clear Bg4
      clear B5
      clear HB
      have HO5 := n0_
      have Bg4 := n1_
      have B5 := n2_
      have HB := n3_
      clear n0_ n1_ n2_ n3_
      (try clear hb)
      (try clear hb2)
      (try clear hk)
      (try clear hi)
      (try clear ho0)
      refine hK.out _ _ ⟨(blk_cell Bg4.out 0).trans rfl, (blk_cell Bg4.out 1).trans rfl, (blk_cell Bg4.out 2).trans rfl⟩ (fun hHeld => ?_)
      clear hK K
      refine norm_ (a' := ?_) ?_ ?_
      rotate_left
      · show Act.put _ (some 38) _ = _
        simp only [Act.put, List.setIfInBounds_toArray, List.set_cons_zero, List.set_cons_succ, i64_w, i32_w]
        rfl
      refine pure_ (i := 5) (N := some 33) (v := ?_) (a' := ?_) #[true, true, true, true, true, true, false, false, true, false, false] rfl rfl (any_of HT_.out (by kernel_rfl)) (fun _ _ _ h => h) (Or.inl ⟨by rfl, ?_⟩) ?_ ?_
      rotate_left
      · intro w'
        go_simp
        with_reducible rfl
      rotate_left
      · simp only [Act.put, List.setIfInBounds_toArray, List.set_cons_zero, List.set_cons_succ, i64_w, i32_w]
        rfl
      refine pure_ (i := 6) (N := some 39) (v := ?_) (a' := ?_) #[true, true, true, true, true, true, true, false, true, false, false] rfl rfl (any_of HT_.out (by kernel_rfl)) (fun _ _ _ h => h) (Or.inl ⟨by rfl, ?_⟩) ?_ ?_
      rotate_left
      · intro w'
        go_simp
        with_reducible rfl
      rotate_left
      · simp only [Act.put, List.setIfInBounds_toArray, List.set_cons_zero, List.set_cons_succ, i64_w, i32_w]
        rfl
      refine pure_ (i := 7) (N := some 40) (v := ?_) (a' := ?_) #[true, true, true, true, true, true, true, true, true, false, false] rfl rfl (any_of HT_.out (by kernel_rfl)) (fun _ _ _ h => h) (Or.inl ⟨by rfl, ?_⟩) ?_ ?_
      rotate_left
      · intro w'
        go_simp
        with_reducible rfl
      rotate_left
      · simp only [Act.put, List.setIfInBounds_toArray, List.set_cons_zero, List.set_cons_succ, i64_w, i32_w]
        rfl
      exact norm_ (by simp only [putAll, Act.put, List.setIfInBounds_toArray, List.set_cons_zero, List.set_cons_succ]) (hCont (v5, g5) _ ⟨hHeld, (by (with_reducible repeat (first | apply Kd.R_alloc | apply Kd.R_drewN | apply Kd.R_drew)); exact HO5.out), (by (with_reducible repeat (first | refine blk_drewN ?_ _ | refine blk_drew ?_ | refine blk_alloc ?_ _)); exact Bg4.out), (by (with_reducible repeat (first | refine blk_drewN ?_ _ | refine blk_drew ?_ | refine blk_alloc ?_ _)); exact B5.out), G5.out, E5.out, N45.out, N54.out, (by repeat (first | (with_reducible first | exact HB.out | apply below_alloc | apply pw_below_drewN | apply below_drew1 | refine below_set ?_ E4.out | refine below_set ?_ E5.out) | exact HB.out))⟩)
  rintro ⟨v5, g5⟩ w22 ⟨hS_, h0_, h1_, h2_, h3_, h4_, h5_, h6_, h7_⟩
  have n0_ : Aside0 (Kd.R k41 41 w22 w.heap.size (fun _ => True) v5 F) := ⟨h0_⟩
  have n1_ : Aside0 (w22.heap[g4]? = some (.cells #[.slice A l.length c, .bool down, .int .i64 fuse] 24 (0, 0))) := ⟨h1_⟩
  have n2_ : Aside0 (w22.heap[g5]? = some (.cells #[.slice none 0 0, .bool false, .int .i64 0] 24 (0, 0))) := ⟨h2_⟩
  have n3_ : Aside0 (w.heap.size ≤ g5) := ⟨h3_⟩
  have n4_ : Aside0 (w.heap.size ≤ g5) := ⟨h4_⟩
  have n5_ : Aside0 (g4 ≠ g5) := ⟨h5_⟩
  have n6_ : Aside0 (g5 ≠ g4) := ⟨h6_⟩
  have n7_ : Aside0 (Below w.heap.size w w22) := ⟨h7_⟩
  clear Bg4
  clear HB
  clear h0_ h1_ h2_ h3_ h4_ h5_ h6_ h7_
  have HO5 := n0_
  have Bg4 := n1_
  have B5 := n2_
  have G5 := n3_
  have E5 := n4_
  have N45 := n5_
  have N54 := n6_
  have HB := n7_
  clear n0_ n1_ n2_ n3_ n4_ n5_ n6_ n7_
  have hHeld : w22.cell? ⟨g4, 0, none⟩ = some (.slice A l.length c) ∧ w22.cell? ⟨g4, 1, none⟩ = some (.bool down) ∧ w22.cell? ⟨g4, 2, none⟩ = some (.int .i64 fuse) := hS_
  obtain ⟨A5, c5, eo23⟩ := Kd.R_slice HO5.out
  (first | subst eo23 | (injection eo23 with f1_ f2_ f3_; have f4_ := f1_.symm; have f5_ := f3_.symm; clear f1_ f2_ f3_; subst f4_; subst f5_))
  refine norm_ (a' := ?_) ?_ ?_
  rotate_left
  · simp only [putAll, Act.put, List.setIfInBounds_toArray, List.set_cons_zero, List.set_cons_succ]
    rfl
  refine one_ (i := 9) (N := none) #[true, true, true, true, true, true, true, true, true, true, false] rfl rfl (one_of HT_.out (by kernel_rfl)) (by decide) (fun K hK => ?_)
  have hs24 : w22.cell? ⟨g5, 0, none⟩ = some (.slice none 0 0) := (blk_cell B5.out 0).trans rfl
  have hfs24 := blk_frozen B5.out 0
  have hns24_0 := N45.out
  have hms24_0 := N54.out
  have hs25 : w22.cell? ⟨g5, 1, none⟩ = some (.bool false) := (blk_cell B5.out 1).trans rfl
  have hfs25 := blk_frozen B5.out 1
  have hns25_0 := N45.out
  have hms25_0 := N54.out
  have hs26 : w22.cell? ⟨g5, 2, none⟩ = some (.int .i64 0) := (blk_cell B5.out 2).trans rfl
  have hfs26 := blk_frozen B5.out 2
  have hns26_0 := N45.out
  have hms26_0 := N54.out
  refine skip_ (w1 := ?_) (by rfl) rfl ?_ ?_
  rotate_left
  · go_simp
    rfl
  refine hK.out _ _ ⟨((cell_far (p := ⟨g5, _, none⟩) N45.out _).trans (((cell_far (p := ⟨g5, _, none⟩) N45.out _).trans (((cell_far (p := ⟨g5, _, none⟩) N45.out _).trans (hHeld.1)))))), ((cell_far (p := ⟨g5, _, none⟩) N45.out _).trans (((cell_far (p := ⟨g5, _, none⟩) N45.out _).trans (((cell_far (p := ⟨g5, _, none⟩) N45.out _).trans (hHeld.2.1)))))), ((cell_far (p := ⟨g5, _, none⟩) N45.out _).trans (((cell_far (p := ⟨g5, _, none⟩) N45.out _).trans (((cell_far (p := ⟨g5, _, none⟩) N45.out _).trans (hHeld.2.2))))))⟩ (fun hHeld => ?_)
  clear hK K
  refine pure_ (i := 10) (N := some 12) (v := ?_) (a' := ?_) #[true, true, true, true, true, true, true, true, true, true, true] rfl rfl (any_of HT_.out (by kernel_rfl)) (fun _ _ _ h => h) (Or.inl ⟨by rfl, ?_⟩) ?_ ?_
  rotate_left
  · intro w'
    go_simp
    with_reducible rfl
  rotate_left
  · simp only [Act.put, List.setIfInBounds_toArray, List.set_cons_zero, List.set_cons_succ, i64_w, i32_w]
    rfl
  refine done_ (done_of HT_.out (by kernel_rfl)) ?_
  obtain ⟨W, hW⟩ : ∃ W, W = (((w22.setCell ⟨g5, 0, none⟩ (.slice A5 F.length c5)).setCell ⟨g5, 1, none⟩ (.bool dn)).setCell ⟨g5, 2, none⟩ (.int .i64 fu)) := ⟨_, rfl⟩
  rw [← hW]
  have C5 : Hid (W.heap[g5]? = some (.cells #[.slice A5 F.length c5, .bool dn, .int .i64 fu] 24 (0, 0))) := Lib.hid (by rw [hW]; exact blk_put (blk_put (blk_put B5.out 0 _ rfl) 1 _ rfl) 2 _ rfl)
  have C4 : Hid (W.heap[g4]? = some (.cells #[.slice A l.length c, .bool down, .int .i64 fuse] 24 (0, 0))) := Lib.hid (by rw [hW]; exact blk_far (blk_far (blk_far Bg4.out N45.out _) N45.out _) N45.out _)
  have HR5 : Hid (Kd.R k41 41 W w.heap.size (fun _ => True) (.slice A5 F.length c5) F) := Lib.hid (by rw [hW]; exact Kd.R_mono (Kd.R_far (p := ⟨g5, 2, none⟩) (Kd.R_far (p := ⟨g5, 1, none⟩) (Kd.R_far (p := ⟨g5, 0, none⟩) (Kd.R_types HO5.out B5.out (by decide)) (fun _ hk => hk.2) _) (fun _ hk => hk.2) _) (fun _ hk => hk.2) _) (fun _ _ => trivial))
  have HBW : Hid (Below w.heap.size w W) := Lib.hid (by rw [hW]; exact below_set (below_set (below_set HB.out E5.out) E5.out) E5.out)
  have N5 := N45.out
  have N5' := N54.out
  clear hW HO5 HB Bg4 B5
  have HB := HBW
  have hR5 := Kd.R_reads HR5.out
  have hlc5 : F.length ≤ c5 := (Kd.R_reads' HR5.out).2.1
  have HC5 := Lib.hid (Kd.R_reads' HR5.out).2.2
  clear HBW HR5 hR5
  have q0 := (blk_cell C4.out 0).trans rfl
  have q1 := (blk_cell C4.out 1).trans rfl
  have q2 := (blk_cell C4.out 2).trans rfl
  have r0 := (blk_cell C5.out 0).trans rfl
  have r1 := (blk_cell C5.out 1).trans rfl
  have r2 := (blk_cell C5.out 2).trans rfl
  go_wp2
  all_goals
    go_ret
    refine ⟨?_, HB.out⟩
    rcases HOR.out with h | h | h
    · first | rfl | (exfalso; apply h; assumption)
    · first | rfl | (have h' : dst.toList.isEmpty = true := h; rw [h']; rfl) | (exfalso; have h' : dst.toList.isEmpty = true := h; simp_all; done)
    · subst h; first | rfl | (rw [Bool.or_true]; rfl)
set_option maxHeartbeats 8000000 in
set_option maxRecDepth 100000 in
theorem moves_yes (A : Option Addr) (c : Nat) (l : List S41) (down : Bool) (fuse keep : Int) (src dst : ByteArray) (w : World) (hr : Kd.C k41 w A l.length l) (hn : l.length < 3518437208883) (hlc : l.length ≤ c) (hf : fuse ≤ 9223372036854775807) (F X Y : List S41) (dn : Bool) (fu : Int) (ha : doA l down fuse 3 src dst ⟨#[]⟩ = ⟨F, dn, fu, 0⟩) (S P : ByteArray) (N2 : Int) (hFl : F.length ≤ l.length) (h1 : readN l down src = 0) (h1s : readS l down src = S)
    (hf1 : readS F dn dst = S ∧ readN F dn dst = 0) (hf2 : readN F dn src = N2) (hq : (N2 == 0) = eqS src dst)
    (hk1 : crashA l keep = ⟨X, false, -1, 0⟩) (hk2 : crashA F keep = ⟨Y, false, -1, 0⟩) (hX : X.length = l.length) (hY : Y.length = F.length)
    (hf3 : readS X false src = P ∧ readN X false src = 0) (hf4 : readS Y false dst = P ∧ readN Y false dst = 0) :
    Calls Try.prog 6 #[.agg #[.slice A l.length c, .bool down, .int .i64 fuse], .string src, .string dst, .int .i64 keep] w fun e w' => e = .returned (.bool true) ∧ Below w.heap.size w w' := by
  have HR := Lib.hid hr
  clear hr
  have HB := Lib.hid (Below.refl w.heap.size w)
  have HA := Lib.hid ha
  have H1 : Hid (readN l down src = 0) := Lib.hid h1
  have H1s := Lib.hid h1s
  have HF1 := Lib.hid hf1
  have HF2 := Lib.hid hf2
  have HF3 := Lib.hid hf3
  have HF4 := Lib.hid hf4
  have HK1 := Lib.hid hk1
  have HK2 := Lib.hid hk2
  have c2 : (N2 == 0) = (src.toList == dst.toList) := hq
  have HQ := Lib.hid c2
  have HL1 := Lib.hid hFl
  have HLX := Lib.hid hX
  have HLY := Lib.hid hY
  clear ha h1 h1s hf1 hf2 hf3 hf4 hk1 hk2 hq c2 hFl hX hY
  go_enter Try.func6, Try.ntmps6
  go_wp2_with (first
    | ((with_reducible refine gate_dst (N := 4) rfl ?_); refine box_event ?hg (N := 4) ?hd (cs := #[.slice A l.length c, .bool down, .int .i64 fuse]) (t := 24) ?hr ?_; (case hd => rfl); (case hg => rfl); (case hr => first | (go_simp; done) | (go_simp; rfl)); intro g4 hg w3 hbx hb; have Eg4 : w.heap.size ≤ g4 := (by rw [hg]; exact HB.out.size); have nHB := Lib.hid (below_step HB.out hb); clear HB; have HB := nHB; have Bg4 := Lib.hid hbx; clear nHB hg hbx hb)
    | (go_at_call 16; refine (lives_calls _).mono ?_; rintro e wa ⟨rfl, hb⟩; have nBg4 := Lib.hid (blk_below Bg4.out hb); have nHB := Lib.hid (below_step HB.out hb); clear Bg4 HB; have Bg4 := nBg4; have HB := nHB; clear nBg4 nHB hb; have q0 := (blk_cell Bg4.out 0).trans rfl; have q1 := (blk_cell Bg4.out 1).trans rfl; have q2 := (blk_cell Bg4.out 2).trans rfl)
    | (go_at_call 12; refine (read_calls A c l down fuse src _ (Kd.C_below HR.out HB.out) (by omega) hlc).mono ?_; rintro e w17 ⟨rfl, hb⟩; clear q0 q1 q2; rw [H1.out, H1s.out]; have nBg4 := Lib.hid (blk_below Bg4.out hb); have nHB := Lib.hid (below_step HB.out hb); clear Bg4 HB; have Bg4 := nBg4; have HB := nHB; clear nBg4 nHB hb; have E4 := Lib.hid Eg4; clear Eg4))
  have n0_ := Aside0.mk (blk_drew Bg4.out)
  have n1_ := Aside0.mk (below_drew1 HB.out)
  clear Bg4
  clear HB
  have Bg4 := n0_
  have HB := n1_
  clear n0_ n1_
  refine start_ (n := 11) (S := fun w' => w'.cell? ⟨g4, 0, none⟩ = some (.slice A l.length c) ∧ w'.cell? ⟨g4, 1, none⟩ = some (.bool down) ∧ w'.cell? ⟨g4, 2, none⟩ = some (.int .i64 fuse)) (ds := []) #[false, false, false, false, false, false, false, false, false, false, false] (by kernel_rfl) rfl rfl ⟨(blk_cell Bg4.out 0).trans rfl, (blk_cell Bg4.out 1).trans rfl, (blk_cell Bg4.out 2).trans rfl⟩ (fun hHeld => ?_); refine with_tabW moves_tab moves_bits (fun HT_ HW_ => ?_)
  generalize w17.drew = w18 at Bg4 HB hHeld ⊢
  refine pure_ (i := 1) (N := some 35) (v := ?_) (a' := ?_) #[false, true, false, false, false, false, false, false, false, false, false] rfl rfl (any_of HT_.out (by kernel_rfl)) (fun _ _ _ h => h) (Or.inl ⟨by rfl, ?_⟩) ?_ ?_
  rotate_left
  · intro w'
    go_simp
    with_reducible rfl
  rotate_left
  · simp only [Act.put, List.setIfInBounds_toArray, List.set_cons_zero, List.set_cons_succ, i64_w, i32_w]
    rfl
  refine pure_ (i := 2) (N := some 36) (v := ?_) (a' := ?_) #[false, true, true, false, false, false, false, false, false, false, false] rfl rfl (any_of HT_.out (by kernel_rfl)) (fun _ _ _ h => h) (Or.inl ⟨by rfl, ?_⟩) ?_ ?_
  rotate_left
  · intro w'
    go_simp
    with_reducible rfl
  rotate_left
  · simp only [Act.put, List.setIfInBounds_toArray, List.set_cons_zero, List.set_cons_succ, i64_w, i32_w]
    rfl
  refine take_ (i := 0) (N := some 34) (v := ?_) (a' := ?_) #[true, true, true, false, false, false, false, false, false, false, false] rfl rfl (take_ofW HT_.out HW_.out (by kernel_rfl)) (fun _ _ _ h => h) (Or.inl ⟨by rfl, ?_⟩) hHeld ?_ ?_
  rotate_left
  · rintro w' ⟨s0, s1, s2⟩
    go_simp
    with_reducible rfl
  rotate_left
  · simp only [Act.put, List.setIfInBounds_toArray, List.set_cons_zero, List.set_cons_succ, i64_w, i32_w]
    rfl
  refine join_ (σ := Value × Nat) 2 #[true, true, true, true, true, true, true, true, true, false, false] (fun s_ => [(37, .agg #[.int .u8 (3 : Int), .string src, .string dst, .string (⟨#[]⟩ : ByteArray)]), (38, .tuple #[.agg #[s_.1, .bool dn, .int .i64 fu], .int .i64 (0 : Int)]), (11, .pointer (some ⟨s_.2, 0, none⟩)), (33, .tuple #[.agg #[s_.1, .bool dn, .int .i64 fu], .int .i64 (0 : Int)]), (39, .agg #[s_.1, .bool dn, .int .i64 fu]), (40, .int .i64 (0 : Int))]) (fun s_ w' => (w'.cell? ⟨g4, 0, none⟩ = some (.slice A l.length c) ∧ w'.cell? ⟨g4, 1, none⟩ = some (.bool down) ∧ w'.cell? ⟨g4, 2, none⟩ = some (.int .i64 fuse)) ∧ (Kd.R k41 41 w' w.heap.size (fun _ => True) s_.1 F) ∧ (w'.heap[g4]? = some (.cells #[.slice A l.length c, .bool down, .int .i64 fuse] 24 (0, 0))) ∧ (w'.heap[s_.2]? = some (.cells #[.slice none 0 0, .bool false, .int .i64 0] 24 (0, 0))) ∧ (w.heap.size ≤ s_.2) ∧ (w.heap.size ≤ s_.2) ∧ (g4 ≠ s_.2) ∧ (s_.2 ≠ g4) ∧ (Below w.heap.size w w')) ?_ ?_
  rotate_left
  · intro hCont
    refine two_ (i := 3) (j := 8) (Ni := some 37) (Nj := some 11) #[true, true, true, true, false, false, false, false, false, false, false] #[true, true, true, false, false, false, false, false, true, false, false] rfl rfl rfl rfl (two_of HT_.out (by kernel_rfl)) (by decide) (by decide) (fun K hK => ?_) (fun K hK => ?_)
    · skip
      refine goes_ Try.func20 (by kernel_rfl) rfl #[.string src, .string dst] (by rfl) rfl rfl (by (try simp only [List.map_toArray, List.map_cons, List.map_nil]); first | done | rfl | (simp only [List.length_drop, List.length_take]; rfl)) ?_
      refine (move_step_calls src dst _).mono ?_
      rintro e w19 ⟨rfl, hb⟩
      refine ⟨_, rfl, ?_⟩
      have n0_ := Aside0.mk (blk_below (g := g4) (o := .cells #[.slice A l.length c, .bool down, .int .i64 fuse] 24 (0, 0)) (by (with_reducible repeat (first | refine blk_drewN ?_ _ | refine blk_drew ?_ | refine blk_alloc ?_ _)); exact Bg4.out) hb)
      have n1_ := Aside0.mk (below_step (by repeat (first | (with_reducible first | exact HB.out | apply below_alloc | apply pw_below_drewN | apply below_drew1 | refine below_set ?_ E4.out) | exact HB.out)) hb)
      clear Bg4
      clear HB
      have Bg4 := n0_
      have HB := n1_
      clear n0_ n1_
      (try clear hb)
      (try clear hb2)
      (try clear hk)
      (try clear hi)
      refine hK.out _ _ ⟨(blk_cell Bg4.out 0).trans rfl, (blk_cell Bg4.out 1).trans rfl, (blk_cell Bg4.out 2).trans rfl⟩ (fun hHeld => ?_)
      clear hK K
      refine norm_ (a' := ?_) ?_ ?_
      rotate_left
      · show Act.put _ (some 37) _ = _
        simp only [Act.put, List.setIfInBounds_toArray, List.set_cons_zero, List.set_cons_succ, i64_w, i32_w]
        rfl
      refine two_ (i := 4) (j := 8) (Ni := some 38) (Nj := some 11) #[true, true, true, true, true, false, false, false, false, false, false] #[true, true, true, true, false, false, false, false, true, false, false] rfl rfl rfl rfl (two_of HT_.out (by kernel_rfl)) (by decide) (by decide) (fun K hK => ?_) (fun K hK => ?_)
      · skip
        refine goes_ Try.func10 (by kernel_rfl) rfl #[.agg #[.slice A l.length c, .bool down, .int .i64 fuse], .agg #[.int .u8 (3 : Int), .string src, .string dst, .string (⟨#[]⟩ : ByteArray)]] (by rfl) rfl rfl (by (try simp only [List.map_toArray, List.map_cons, List.map_nil]); first | done | rfl | (simp only [List.length_drop, List.length_take]; rfl)) ?_
        refine (do_calls A c l down fuse 3 src dst ⟨#[]⟩ _ ?side1 hn (Nat.le_of_ble_eq_true rfl) hf).mono ?_
        (case side1 => repeat (first | exact (Kd.C_below HR.out HB.out) | (with_reducible refine Kd.C_alloc ?_ _) | (with_reducible refine Kd.C_drewN ?_ _) | (with_reducible refine Kd.C_drew ?_)))
        rw [HA.out]
        rintro e w20 ⟨v5, rfl, ho0, hb⟩
        refine ⟨_, rfl, ?_⟩
        have n0_ := Aside0.mk (Kd.R_lower ho0 (below_size (by repeat (first | (with_reducible first | exact HB.out | apply below_alloc | apply pw_below_drewN | apply below_drew1 | refine below_set ?_ E4.out) | exact HB.out))))
        have n1_ := Aside0.mk (blk_below (g := g4) (o := .cells #[.slice A l.length c, .bool down, .int .i64 fuse] 24 (0, 0)) (by (with_reducible repeat (first | refine blk_drewN ?_ _ | refine blk_drew ?_ | refine blk_alloc ?_ _)); exact Bg4.out) hb)
        have n2_ := Aside0.mk (below_step (by repeat (first | (with_reducible first | exact HB.out | apply below_alloc | apply pw_below_drewN | apply below_drew1 | refine below_set ?_ E4.out) | exact HB.out)) hb)
        clear Bg4
        clear HB
        have HO5 := n0_
        have Bg4 := n1_
        have HB := n2_
        clear n0_ n1_ n2_
        (try clear hb)
        (try clear hb2)
        (try clear hk)
        (try clear hi)
        (try clear ho0)
        refine hK.out _ _ ⟨(blk_cell Bg4.out 0).trans rfl, (blk_cell Bg4.out 1).trans rfl, (blk_cell Bg4.out 2).trans rfl⟩ (fun hHeld => ?_)
        clear hK K
        refine norm_ (a' := ?_) ?_ ?_
        rotate_left
        · show Act.put _ (some 38) _ = _
          simp only [Act.put, List.setIfInBounds_toArray, List.set_cons_zero, List.set_cons_succ, i64_w, i32_w]
          rfl
        refine pure_ (i := 5) (N := some 33) (v := ?_) (a' := ?_) #[true, true, true, true, true, true, false, false, false, false, false] rfl rfl (any_of HT_.out (by kernel_rfl)) (fun _ _ _ h => h) (Or.inl ⟨by rfl, ?_⟩) ?_ ?_
        rotate_left
        · intro w'
          go_simp
          with_reducible rfl
        rotate_left
        · simp only [Act.put, List.setIfInBounds_toArray, List.set_cons_zero, List.set_cons_succ, i64_w, i32_w]
          rfl
        refine pure_ (i := 6) (N := some 39) (v := ?_) (a' := ?_) #[true, true, true, true, true, true, true, false, false, false, false] rfl rfl (any_of HT_.out (by kernel_rfl)) (fun _ _ _ h => h) (Or.inl ⟨by rfl, ?_⟩) ?_ ?_
        rotate_left
        · intro w'
          go_simp
          with_reducible rfl
        rotate_left
        · simp only [Act.put, List.setIfInBounds_toArray, List.set_cons_zero, List.set_cons_succ, i64_w, i32_w]
          rfl
        refine pure_ (i := 7) (N := some 40) (v := ?_) (a' := ?_) #[true, true, true, true, true, true, true, true, false, false, false] rfl rfl (any_of HT_.out (by kernel_rfl)) (fun _ _ _ h => h) (Or.inl ⟨by rfl, ?_⟩) ?_ ?_
        rotate_left
        · intro w'
          go_simp
          with_reducible rfl
        rotate_left
        · simp only [Act.put, List.setIfInBounds_toArray, List.set_cons_zero, List.set_cons_succ, i64_w, i32_w]
          rfl
        refine one_ (i := 8) (N := some 11) #[true, true, true, true, true, true, true, true, true, false, false] rfl rfl (one_of HT_.out (by kernel_rfl)) (by decide) (fun K hK => ?_)
        refine box_step ?hg (N := 11) ?hd (cs := #[.slice none 0 0, .bool false, .int .i64 0]) (t := 24) ?hr ?_; (case hd => rfl); (case hg => rfl); (case hr => first | (go_simp; done) | (go_simp; rfl))
        intro g5 hg w21 hbox hb
        have n0_ := Aside0.mk (Kd.R_below (by (with_reducible repeat (first | apply Kd.R_alloc | apply Kd.R_drewN | apply Kd.R_drew)); exact HO5.out) hb)
        have n1_ := Aside0.mk (blk_below (g := g4) (o := .cells #[.slice A l.length c, .bool down, .int .i64 fuse] 24 (0, 0)) (by (with_reducible repeat (first | refine blk_drewN ?_ _ | refine blk_drew ?_ | refine blk_alloc ?_ _)); exact Bg4.out) hb)
        have n2_ := Aside0.mk (below_step (by repeat (first | (with_reducible first | exact HB.out | apply below_alloc | apply pw_below_drewN | apply below_drew1 | refine below_set ?_ E4.out) | exact HB.out)) hb)
        have n3_ := Aside0.mk (hbox)
        have n4_ := Aside0.mk ((by rw [hg]; exact (below_size (by repeat (first | (with_reducible first | exact HB.out | apply below_alloc | apply pw_below_drewN | apply below_drew1 | refine below_set ?_ E4.out) | exact HB.out))) : w.heap.size ≤ g5))
        have n5_ := Aside0.mk ((by rw [hg]; exact (below_size (by repeat (first | (with_reducible first | exact HB.out | apply below_alloc | apply pw_below_drewN | apply below_drew1 | refine below_set ?_ E4.out) | exact HB.out))) : w.heap.size ≤ g5))
        have n6_ := Aside0.mk ((by rw [hg]; exact Nat.ne_of_lt (blk_lt (g := g4) (o := .cells #[.slice A l.length c, .bool down, .int .i64 fuse] 24 (0, 0)) (by (with_reducible repeat (first | refine blk_drewN ?_ _ | refine blk_drew ?_ | refine blk_alloc ?_ _)); exact Bg4.out)) : g4 ≠ g5))
        have n7_ := Aside0.mk ((by rw [hg]; exact Nat.ne_of_gt (blk_lt (g := g4) (o := .cells #[.slice A l.length c, .bool down, .int .i64 fuse] 24 (0, 0)) (by (with_reducible repeat (first | refine blk_drewN ?_ _ | refine blk_drew ?_ | refine blk_alloc ?_ _)); exact Bg4.out)) : g5 ≠ g4))
        clear HO5
        clear Bg4
        clear HB
        have HO5 := n0_
        have Bg4 := n1_
        have HB := n2_
        have B5 := n3_
        have G5 := n4_
        have E5 := n5_
        have N45 := n6_
        have N54 := n7_
        clear n0_ n1_ n2_ n3_ n4_ n5_ n6_ n7_
        clear hb hbox hg
        refine hK.out _ _ ⟨(blk_cell Bg4.out 0).trans rfl, (blk_cell Bg4.out 1).trans rfl, (blk_cell Bg4.out 2).trans rfl⟩ (fun hHeld => ?_)
        clear hK K
        refine norm_ (a' := ?_) ?_ ?_
        rotate_left
        · show Act.put _ (some 11) _ = _
          simp only [Act.put, List.setIfInBounds_toArray, List.set_cons_zero, List.set_cons_succ, i64_w, i32_w]
          rfl
        exact norm_ (by simp only [putAll, Act.put, List.setIfInBounds_toArray, List.set_cons_zero, List.set_cons_succ]) (hCont (v5, g5) _ ⟨hHeld, (by (with_reducible repeat (first | apply Kd.R_alloc | apply Kd.R_drewN | apply Kd.R_drew)); exact HO5.out), (by (with_reducible repeat (first | refine blk_drewN ?_ _ | refine blk_drew ?_ | refine blk_alloc ?_ _)); exact Bg4.out), (by (with_reducible repeat (first | refine blk_drewN ?_ _ | refine blk_drew ?_ | refine blk_alloc ?_ _)); exact B5.out), G5.out, E5.out, N45.out, N54.out, (by repeat (first | (with_reducible first | exact HB.out | apply below_alloc | apply pw_below_drewN | apply below_drew1 | refine below_set ?_ E4.out | refine below_set ?_ E5.out) | exact HB.out))⟩)
      · skip
        refine box_step ?hg (N := 11) ?hd (cs := #[.slice none 0 0, .bool false, .int .i64 0]) (t := 24) ?hr ?_; (case hd => rfl); (case hg => rfl); (case hr => first | (go_simp; done) | (go_simp; rfl))
        intro g5 hg w20 hbox hb
        have n0_ := Aside0.mk (blk_below (g := g4) (o := .cells #[.slice A l.length c, .bool down, .int .i64 fuse] 24 (0, 0)) (by (with_reducible repeat (first | refine blk_drewN ?_ _ | refine blk_drew ?_ | refine blk_alloc ?_ _)); exact Bg4.out) hb)
        have n1_ := Aside0.mk (below_step (by repeat (first | (with_reducible first | exact HB.out | apply below_alloc | apply pw_below_drewN | apply below_drew1 | refine below_set ?_ E4.out) | exact HB.out)) hb)
        have n2_ := Aside0.mk (hbox)
        have n3_ := Aside0.mk ((by rw [hg]; exact (below_size (by repeat (first | (with_reducible first | exact HB.out | apply below_alloc | apply pw_below_drewN | apply below_drew1 | refine below_set ?_ E4.out) | exact HB.out))) : w.heap.size ≤ g5))
        have n4_ := Aside0.mk ((by rw [hg]; exact (below_size (by repeat (first | (with_reducible first | exact HB.out | apply below_alloc | apply pw_below_drewN | apply below_drew1 | refine below_set ?_ E4.out) | exact HB.out))) : w.heap.size ≤ g5))
        have n5_ := Aside0.mk ((by rw [hg]; exact Nat.ne_of_lt (blk_lt (g := g4) (o := .cells #[.slice A l.length c, .bool down, .int .i64 fuse] 24 (0, 0)) (by (with_reducible repeat (first | refine blk_drewN ?_ _ | refine blk_drew ?_ | refine blk_alloc ?_ _)); exact Bg4.out)) : g4 ≠ g5))
        have n6_ := Aside0.mk ((by rw [hg]; exact Nat.ne_of_gt (blk_lt (g := g4) (o := .cells #[.slice A l.length c, .bool down, .int .i64 fuse] 24 (0, 0)) (by (with_reducible repeat (first | refine blk_drewN ?_ _ | refine blk_drew ?_ | refine blk_alloc ?_ _)); exact Bg4.out)) : g5 ≠ g4))
        clear Bg4
        clear HB
        have Bg4 := n0_
        have HB := n1_
        have B5 := n2_
        have G5 := n3_
        have E5 := n4_
        have N45 := n5_
        have N54 := n6_
        clear n0_ n1_ n2_ n3_ n4_ n5_ n6_
        clear hb hbox hg
        refine hK.out _ _ ⟨(blk_cell Bg4.out 0).trans rfl, (blk_cell Bg4.out 1).trans rfl, (blk_cell Bg4.out 2).trans rfl⟩ (fun hHeld => ?_)
        clear hK K
        refine norm_ (a' := ?_) ?_ ?_
        rotate_left
        · show Act.put _ (some 11) _ = _
          simp only [Act.put, List.setIfInBounds_toArray, List.set_cons_zero, List.set_cons_succ, i64_w, i32_w]
          rfl
        refine one_ (i := 4) (N := some 38) #[true, true, true, true, true, false, false, false, true, false, false] rfl rfl (one_of HT_.out (by kernel_rfl)) (by decide) (fun K hK => ?_)
        refine goes_ Try.func10 (by kernel_rfl) rfl #[.agg #[.slice A l.length c, .bool down, .int .i64 fuse], .agg #[.int .u8 (3 : Int), .string src, .string dst, .string (⟨#[]⟩ : ByteArray)]] (by rfl) rfl rfl (by (try simp only [List.map_toArray, List.map_cons, List.map_nil]); first | done | rfl | (simp only [List.length_drop, List.length_take]; rfl)) ?_
        refine (do_calls A c l down fuse 3 src dst ⟨#[]⟩ _ ?side1 hn (Nat.le_of_ble_eq_true rfl) hf).mono ?_
        (case side1 => repeat (first | exact (Kd.C_below HR.out HB.out) | (with_reducible refine Kd.C_alloc ?_ _) | (with_reducible refine Kd.C_drewN ?_ _) | (with_reducible refine Kd.C_drew ?_)))
        rw [HA.out]
        rintro e w21 ⟨v5, rfl, ho0, hb⟩
        refine ⟨_, rfl, ?_⟩
        have n0_ := Aside0.mk (Kd.R_lower ho0 (below_size (by repeat (first | (with_reducible first | exact HB.out | apply below_alloc | apply pw_below_drewN | apply below_drew1 | refine below_set ?_ E4.out | refine below_set ?_ E5.out) | exact HB.out))))
        have n1_ := Aside0.mk (blk_below (g := g4) (o := .cells #[.slice A l.length c, .bool down, .int .i64 fuse] 24 (0, 0)) (by (with_reducible repeat (first | refine blk_drewN ?_ _ | refine blk_drew ?_ | refine blk_alloc ?_ _)); exact Bg4.out) hb)
        have n2_ := Aside0.mk (blk_below (g := g5) (o := .cells #[.slice none 0 0, .bool false, .int .i64 0] 24 (0, 0)) (by (with_reducible repeat (first | refine blk_drewN ?_ _ | refine blk_drew ?_ | refine blk_alloc ?_ _)); exact B5.out) hb)
        have n3_ := Aside0.mk (below_step (by repeat (first | (with_reducible first | exact HB.out | apply below_alloc | apply pw_below_drewN | apply below_drew1 | refine below_set ?_ E4.out | refine below_set ?_ E5.out) | exact HB.out)) hb)
        clear Bg4
        clear B5
        clear HB
        have HO5 := n0_
        have Bg4 := n1_
        have B5 := n2_
        have HB := n3_
        clear n0_ n1_ n2_ n3_
        (try clear hb)
        (try clear hb2)
        (try clear hk)
        (try clear hi)
        (try clear ho0)
        refine hK.out _ _ ⟨(blk_cell Bg4.out 0).trans rfl, (blk_cell Bg4.out 1).trans rfl, (blk_cell Bg4.out 2).trans rfl⟩ (fun hHeld => ?_)
        clear hK K
        refine norm_ (a' := ?_) ?_ ?_
        rotate_left
        · show Act.put _ (some 38) _ = _
          simp only [Act.put, List.setIfInBounds_toArray, List.set_cons_zero, List.set_cons_succ, i64_w, i32_w]
          rfl
        refine pure_ (i := 5) (N := some 33) (v := ?_) (a' := ?_) #[true, true, true, true, true, true, false, false, true, false, false] rfl rfl (any_of HT_.out (by kernel_rfl)) (fun _ _ _ h => h) (Or.inl ⟨by rfl, ?_⟩) ?_ ?_
        rotate_left
        · intro w'
          go_simp
          with_reducible rfl
        rotate_left
        · simp only [Act.put, List.setIfInBounds_toArray, List.set_cons_zero, List.set_cons_succ, i64_w, i32_w]
          rfl
        refine pure_ (i := 6) (N := some 39) (v := ?_) (a' := ?_) #[true, true, true, true, true, true, true, false, true, false, false] rfl rfl (any_of HT_.out (by kernel_rfl)) (fun _ _ _ h => h) (Or.inl ⟨by rfl, ?_⟩) ?_ ?_
        rotate_left
        · intro w'
          go_simp
          with_reducible rfl
        rotate_left
        · simp only [Act.put, List.setIfInBounds_toArray, List.set_cons_zero, List.set_cons_succ, i64_w, i32_w]
          rfl
        refine pure_ (i := 7) (N := some 40) (v := ?_) (a' := ?_) #[true, true, true, true, true, true, true, true, true, false, false] rfl rfl (any_of HT_.out (by kernel_rfl)) (fun _ _ _ h => h) (Or.inl ⟨by rfl, ?_⟩) ?_ ?_
        rotate_left
        · intro w'
          go_simp
          with_reducible rfl
        rotate_left
        · simp only [Act.put, List.setIfInBounds_toArray, List.set_cons_zero, List.set_cons_succ, i64_w, i32_w]
          rfl
        exact norm_ (by simp only [putAll, Act.put, List.setIfInBounds_toArray, List.set_cons_zero, List.set_cons_succ]) (hCont (v5, g5) _ ⟨hHeld, (by (with_reducible repeat (first | apply Kd.R_alloc | apply Kd.R_drewN | apply Kd.R_drew)); exact HO5.out), (by (with_reducible repeat (first | refine blk_drewN ?_ _ | refine blk_drew ?_ | refine blk_alloc ?_ _)); exact Bg4.out), (by (with_reducible repeat (first | refine blk_drewN ?_ _ | refine blk_drew ?_ | refine blk_alloc ?_ _)); exact B5.out), G5.out, E5.out, N45.out, N54.out, (by repeat (first | (with_reducible first | exact HB.out | apply below_alloc | apply pw_below_drewN | apply below_drew1 | refine below_set ?_ E4.out | refine below_set ?_ E5.out) | exact HB.out))⟩)
    · skip
      refine box_step ?hg (N := 11) ?hd (cs := #[.slice none 0 0, .bool false, .int .i64 0]) (t := 24) ?hr ?_; (case hd => rfl); (case hg => rfl); (case hr => first | (go_simp; done) | (go_simp; rfl))
      intro g5 hg w19 hbox hb
      have n0_ := Aside0.mk (blk_below (g := g4) (o := .cells #[.slice A l.length c, .bool down, .int .i64 fuse] 24 (0, 0)) (by (with_reducible repeat (first | refine blk_drewN ?_ _ | refine blk_drew ?_ | refine blk_alloc ?_ _)); exact Bg4.out) hb)
      have n1_ := Aside0.mk (below_step (by repeat (first | (with_reducible first | exact HB.out | apply below_alloc | apply pw_below_drewN | apply below_drew1 | refine below_set ?_ E4.out) | exact HB.out)) hb)
      have n2_ := Aside0.mk (hbox)
      have n3_ := Aside0.mk ((by rw [hg]; exact (below_size (by repeat (first | (with_reducible first | exact HB.out | apply below_alloc | apply pw_below_drewN | apply below_drew1 | refine below_set ?_ E4.out) | exact HB.out))) : w.heap.size ≤ g5))
      have n4_ := Aside0.mk ((by rw [hg]; exact (below_size (by repeat (first | (with_reducible first | exact HB.out | apply below_alloc | apply pw_below_drewN | apply below_drew1 | refine below_set ?_ E4.out) | exact HB.out))) : w.heap.size ≤ g5))
      have n5_ := Aside0.mk ((by rw [hg]; exact Nat.ne_of_lt (blk_lt (g := g4) (o := .cells #[.slice A l.length c, .bool down, .int .i64 fuse] 24 (0, 0)) (by (with_reducible repeat (first | refine blk_drewN ?_ _ | refine blk_drew ?_ | refine blk_alloc ?_ _)); exact Bg4.out)) : g4 ≠ g5))
      have n6_ := Aside0.mk ((by rw [hg]; exact Nat.ne_of_gt (blk_lt (g := g4) (o := .cells #[.slice A l.length c, .bool down, .int .i64 fuse] 24 (0, 0)) (by (with_reducible repeat (first | refine blk_drewN ?_ _ | refine blk_drew ?_ | refine blk_alloc ?_ _)); exact Bg4.out)) : g5 ≠ g4))
      clear Bg4
      clear HB
      have Bg4 := n0_
      have HB := n1_
      have B5 := n2_
      have G5 := n3_
      have E5 := n4_
      have N45 := n5_
      have N54 := n6_
      clear n0_ n1_ n2_ n3_ n4_ n5_ n6_
      clear hb hbox hg
      refine hK.out _ _ ⟨(blk_cell Bg4.out 0).trans rfl, (blk_cell Bg4.out 1).trans rfl, (blk_cell Bg4.out 2).trans rfl⟩ (fun hHeld => ?_)
      clear hK K
      refine norm_ (a' := ?_) ?_ ?_
      rotate_left
      · show Act.put _ (some 11) _ = _
        simp only [Act.put, List.setIfInBounds_toArray, List.set_cons_zero, List.set_cons_succ, i64_w, i32_w]
        rfl
      refine one_ (i := 3) (N := some 37) #[true, true, true, true, false, false, false, false, true, false, false] rfl rfl (one_of HT_.out (by kernel_rfl)) (by decide) (fun K hK => ?_)
      refine goes_ Try.func20 (by kernel_rfl) rfl #[.string src, .string dst] (by rfl) rfl rfl (by (try simp only [List.map_toArray, List.map_cons, List.map_nil]); first | done | rfl | (simp only [List.length_drop, List.length_take]; rfl)) ?_
      refine (move_step_calls src dst _).mono ?_
      rintro e w20 ⟨rfl, hb⟩
      refine ⟨_, rfl, ?_⟩
      have n0_ := Aside0.mk (blk_below (g := g4) (o := .cells #[.slice A l.length c, .bool down, .int .i64 fuse] 24 (0, 0)) (by (with_reducible repeat (first | refine blk_drewN ?_ _ | refine blk_drew ?_ | refine blk_alloc ?_ _)); exact Bg4.out) hb)
      have n1_ := Aside0.mk (blk_below (g := g5) (o := .cells #[.slice none 0 0, .bool false, .int .i64 0] 24 (0, 0)) (by (with_reducible repeat (first | refine blk_drewN ?_ _ | refine blk_drew ?_ | refine blk_alloc ?_ _)); exact B5.out) hb)
      have n2_ := Aside0.mk (below_step (by repeat (first | (with_reducible first | exact HB.out | apply below_alloc | apply pw_below_drewN | apply below_drew1 | refine below_set ?_ E4.out | refine below_set ?_ E5.out) | exact HB.out)) hb)
      clear Bg4
      clear B5
      clear HB
      have Bg4 := n0_
      have B5 := n1_
      have HB := n2_
      clear n0_ n1_ n2_
      (try clear hb)
      (try clear hb2)
      (try clear hk)
      (try clear hi)
      refine hK.out _ _ ⟨(blk_cell Bg4.out 0).trans rfl, (blk_cell Bg4.out 1).trans rfl, (blk_cell Bg4.out 2).trans rfl⟩ (fun hHeld => ?_)
      clear hK K
      refine norm_ (a' := ?_) ?_ ?_
      rotate_left
      · show Act.put _ (some 37) _ = _
        simp only [Act.put, List.setIfInBounds_toArray, List.set_cons_zero, List.set_cons_succ, i64_w, i32_w]
        rfl
      refine one_ (i := 4) (N := some 38) #[true, true, true, true, true, false, false, false, true, false, false] rfl rfl (one_of HT_.out (by kernel_rfl)) (by decide) (fun K hK => ?_)
      refine goes_ Try.func10 (by kernel_rfl) rfl #[.agg #[.slice A l.length c, .bool down, .int .i64 fuse], .agg #[.int .u8 (3 : Int), .string src, .string dst, .string (⟨#[]⟩ : ByteArray)]] (by rfl) rfl rfl (by (try simp only [List.map_toArray, List.map_cons, List.map_nil]); first | done | rfl | (simp only [List.length_drop, List.length_take]; rfl)) ?_
      refine (do_calls A c l down fuse 3 src dst ⟨#[]⟩ _ ?side1 hn (Nat.le_of_ble_eq_true rfl) hf).mono ?_
      (case side1 => repeat (first | exact (Kd.C_below HR.out HB.out) | (with_reducible refine Kd.C_alloc ?_ _) | (with_reducible refine Kd.C_drewN ?_ _) | (with_reducible refine Kd.C_drew ?_)))
      rw [HA.out]
      rintro e w21 ⟨v5, rfl, ho0, hb⟩
      refine ⟨_, rfl, ?_⟩
      have n0_ := Aside0.mk (Kd.R_lower ho0 (below_size (by repeat (first | (with_reducible first | exact HB.out | apply below_alloc | apply pw_below_drewN | apply below_drew1 | refine below_set ?_ E4.out | refine below_set ?_ E5.out) | exact HB.out))))
      have n1_ := Aside0.mk (blk_below (g := g4) (o := .cells #[.slice A l.length c, .bool down, .int .i64 fuse] 24 (0, 0)) (by (with_reducible repeat (first | refine blk_drewN ?_ _ | refine blk_drew ?_ | refine blk_alloc ?_ _)); exact Bg4.out) hb)
      have n2_ := Aside0.mk (blk_below (g := g5) (o := .cells #[.slice none 0 0, .bool false, .int .i64 0] 24 (0, 0)) (by (with_reducible repeat (first | refine blk_drewN ?_ _ | refine blk_drew ?_ | refine blk_alloc ?_ _)); exact B5.out) hb)
      have n3_ := Aside0.mk (below_step (by repeat (first | (with_reducible first | exact HB.out | apply below_alloc | apply pw_below_drewN | apply below_drew1 | refine below_set ?_ E4.out | refine below_set ?_ E5.out) | exact HB.out)) hb)
      clear Bg4
      clear B5
      clear HB
      have HO5 := n0_
      have Bg4 := n1_
      have B5 := n2_
      have HB := n3_
      clear n0_ n1_ n2_ n3_
      (try clear hb)
      (try clear hb2)
      (try clear hk)
      (try clear hi)
      (try clear ho0)
      refine hK.out _ _ ⟨(blk_cell Bg4.out 0).trans rfl, (blk_cell Bg4.out 1).trans rfl, (blk_cell Bg4.out 2).trans rfl⟩ (fun hHeld => ?_)
      clear hK K
      refine norm_ (a' := ?_) ?_ ?_
      rotate_left
      · show Act.put _ (some 38) _ = _
        simp only [Act.put, List.setIfInBounds_toArray, List.set_cons_zero, List.set_cons_succ, i64_w, i32_w]
        rfl
      refine pure_ (i := 5) (N := some 33) (v := ?_) (a' := ?_) #[true, true, true, true, true, true, false, false, true, false, false] rfl rfl (any_of HT_.out (by kernel_rfl)) (fun _ _ _ h => h) (Or.inl ⟨by rfl, ?_⟩) ?_ ?_
      rotate_left
      · intro w'
        go_simp
        with_reducible rfl
      rotate_left
      · simp only [Act.put, List.setIfInBounds_toArray, List.set_cons_zero, List.set_cons_succ, i64_w, i32_w]
        rfl
      refine pure_ (i := 6) (N := some 39) (v := ?_) (a' := ?_) #[true, true, true, true, true, true, true, false, true, false, false] rfl rfl (any_of HT_.out (by kernel_rfl)) (fun _ _ _ h => h) (Or.inl ⟨by rfl, ?_⟩) ?_ ?_
      rotate_left
      · intro w'
        go_simp
        with_reducible rfl
      rotate_left
      · simp only [Act.put, List.setIfInBounds_toArray, List.set_cons_zero, List.set_cons_succ, i64_w, i32_w]
        rfl
      refine pure_ (i := 7) (N := some 40) (v := ?_) (a' := ?_) #[true, true, true, true, true, true, true, true, true, false, false] rfl rfl (any_of HT_.out (by kernel_rfl)) (fun _ _ _ h => h) (Or.inl ⟨by rfl, ?_⟩) ?_ ?_
      rotate_left
      · intro w'
        go_simp
        with_reducible rfl
      rotate_left
      · simp only [Act.put, List.setIfInBounds_toArray, List.set_cons_zero, List.set_cons_succ, i64_w, i32_w]
        rfl
      exact norm_ (by simp only [putAll, Act.put, List.setIfInBounds_toArray, List.set_cons_zero, List.set_cons_succ]) (hCont (v5, g5) _ ⟨hHeld, (by (with_reducible repeat (first | apply Kd.R_alloc | apply Kd.R_drewN | apply Kd.R_drew)); exact HO5.out), (by (with_reducible repeat (first | refine blk_drewN ?_ _ | refine blk_drew ?_ | refine blk_alloc ?_ _)); exact Bg4.out), (by (with_reducible repeat (first | refine blk_drewN ?_ _ | refine blk_drew ?_ | refine blk_alloc ?_ _)); exact B5.out), G5.out, E5.out, N45.out, N54.out, (by repeat (first | (with_reducible first | exact HB.out | apply below_alloc | apply pw_below_drewN | apply below_drew1 | refine below_set ?_ E4.out | refine below_set ?_ E5.out) | exact HB.out))⟩)
  rintro ⟨v5, g5⟩ w22 ⟨hS_, h0_, h1_, h2_, h3_, h4_, h5_, h6_, h7_⟩
  have n0_ : Aside0 (Kd.R k41 41 w22 w.heap.size (fun _ => True) v5 F) := ⟨h0_⟩
  have n1_ : Aside0 (w22.heap[g4]? = some (.cells #[.slice A l.length c, .bool down, .int .i64 fuse] 24 (0, 0))) := ⟨h1_⟩
  have n2_ : Aside0 (w22.heap[g5]? = some (.cells #[.slice none 0 0, .bool false, .int .i64 0] 24 (0, 0))) := ⟨h2_⟩
  have n3_ : Aside0 (w.heap.size ≤ g5) := ⟨h3_⟩
  have n4_ : Aside0 (w.heap.size ≤ g5) := ⟨h4_⟩
  have n5_ : Aside0 (g4 ≠ g5) := ⟨h5_⟩
  have n6_ : Aside0 (g5 ≠ g4) := ⟨h6_⟩
  have n7_ : Aside0 (Below w.heap.size w w22) := ⟨h7_⟩
  clear Bg4
  clear HB
  clear h0_ h1_ h2_ h3_ h4_ h5_ h6_ h7_
  have HO5 := n0_
  have Bg4 := n1_
  have B5 := n2_
  have G5 := n3_
  have E5 := n4_
  have N45 := n5_
  have N54 := n6_
  have HB := n7_
  clear n0_ n1_ n2_ n3_ n4_ n5_ n6_ n7_
  have hHeld : w22.cell? ⟨g4, 0, none⟩ = some (.slice A l.length c) ∧ w22.cell? ⟨g4, 1, none⟩ = some (.bool down) ∧ w22.cell? ⟨g4, 2, none⟩ = some (.int .i64 fuse) := hS_
  obtain ⟨A5, c5, eo23⟩ := Kd.R_slice HO5.out
  (first | subst eo23 | (injection eo23 with f1_ f2_ f3_; have f4_ := f1_.symm; have f5_ := f3_.symm; clear f1_ f2_ f3_; subst f4_; subst f5_))
  refine norm_ (a' := ?_) ?_ ?_
  rotate_left
  · simp only [putAll, Act.put, List.setIfInBounds_toArray, List.set_cons_zero, List.set_cons_succ]
    rfl
  refine one_ (i := 9) (N := none) #[true, true, true, true, true, true, true, true, true, true, false] rfl rfl (one_of HT_.out (by kernel_rfl)) (by decide) (fun K hK => ?_)
  have hs24 : w22.cell? ⟨g5, 0, none⟩ = some (.slice none 0 0) := (blk_cell B5.out 0).trans rfl
  have hfs24 := blk_frozen B5.out 0
  have hns24_0 := N45.out
  have hms24_0 := N54.out
  have hs25 : w22.cell? ⟨g5, 1, none⟩ = some (.bool false) := (blk_cell B5.out 1).trans rfl
  have hfs25 := blk_frozen B5.out 1
  have hns25_0 := N45.out
  have hms25_0 := N54.out
  have hs26 : w22.cell? ⟨g5, 2, none⟩ = some (.int .i64 0) := (blk_cell B5.out 2).trans rfl
  have hfs26 := blk_frozen B5.out 2
  have hns26_0 := N45.out
  have hms26_0 := N54.out
  refine skip_ (w1 := ?_) (by rfl) rfl ?_ ?_
  rotate_left
  · go_simp
    rfl
  refine hK.out _ _ ⟨((cell_far (p := ⟨g5, _, none⟩) N45.out _).trans (((cell_far (p := ⟨g5, _, none⟩) N45.out _).trans (((cell_far (p := ⟨g5, _, none⟩) N45.out _).trans (hHeld.1)))))), ((cell_far (p := ⟨g5, _, none⟩) N45.out _).trans (((cell_far (p := ⟨g5, _, none⟩) N45.out _).trans (((cell_far (p := ⟨g5, _, none⟩) N45.out _).trans (hHeld.2.1)))))), ((cell_far (p := ⟨g5, _, none⟩) N45.out _).trans (((cell_far (p := ⟨g5, _, none⟩) N45.out _).trans (((cell_far (p := ⟨g5, _, none⟩) N45.out _).trans (hHeld.2.2))))))⟩ (fun hHeld => ?_)
  clear hK K
  refine pure_ (i := 10) (N := some 12) (v := ?_) (a' := ?_) #[true, true, true, true, true, true, true, true, true, true, true] rfl rfl (any_of HT_.out (by kernel_rfl)) (fun _ _ _ h => h) (Or.inl ⟨by rfl, ?_⟩) ?_ ?_
  rotate_left
  · intro w'
    go_simp
    with_reducible rfl
  rotate_left
  · simp only [Act.put, List.setIfInBounds_toArray, List.set_cons_zero, List.set_cons_succ, i64_w, i32_w]
    rfl
  refine done_ (done_of HT_.out (by kernel_rfl)) ?_
  obtain ⟨W, hW⟩ : ∃ W, W = (((w22.setCell ⟨g5, 0, none⟩ (.slice A5 F.length c5)).setCell ⟨g5, 1, none⟩ (.bool dn)).setCell ⟨g5, 2, none⟩ (.int .i64 fu)) := ⟨_, rfl⟩
  rw [← hW]
  have C5 : Hid (W.heap[g5]? = some (.cells #[.slice A5 F.length c5, .bool dn, .int .i64 fu] 24 (0, 0))) := Lib.hid (by rw [hW]; exact blk_put (blk_put (blk_put B5.out 0 _ rfl) 1 _ rfl) 2 _ rfl)
  have C4 : Hid (W.heap[g4]? = some (.cells #[.slice A l.length c, .bool down, .int .i64 fuse] 24 (0, 0))) := Lib.hid (by rw [hW]; exact blk_far (blk_far (blk_far Bg4.out N45.out _) N45.out _) N45.out _)
  have HR5 : Hid (Kd.R k41 41 W w.heap.size (fun _ => True) (.slice A5 F.length c5) F) := Lib.hid (by rw [hW]; exact Kd.R_mono (Kd.R_far (p := ⟨g5, 2, none⟩) (Kd.R_far (p := ⟨g5, 1, none⟩) (Kd.R_far (p := ⟨g5, 0, none⟩) (Kd.R_types HO5.out B5.out (by decide)) (fun _ hk => hk.2) _) (fun _ hk => hk.2) _) (fun _ hk => hk.2) _) (fun _ _ => trivial))
  have HBW : Hid (Below w.heap.size w W) := Lib.hid (by rw [hW]; exact below_set (below_set (below_set HB.out E5.out) E5.out) E5.out)
  have N5 := N45.out
  have N5' := N54.out
  clear hW HO5 HB Bg4 B5
  have HB := HBW
  have hR5 := Kd.R_reads HR5.out
  have hlc5 : F.length ≤ c5 := (Kd.R_reads' HR5.out).2.1
  have HC5 := Lib.hid (Kd.R_reads' HR5.out).2.2
  clear HBW HR5 hR5
  have q0 := (blk_cell C4.out 0).trans rfl
  have q1 := (blk_cell C4.out 1).trans rfl
  have q2 := (blk_cell C4.out 2).trans rfl
  have r0 := (blk_cell C5.out 0).trans rfl
  have r1 := (blk_cell C5.out 1).trans rfl
  have r2 := (blk_cell C5.out 2).trans rfl
  have HQ' := HQ.out
  clear HQ
  rcases b1 : (src.toList == dst.toList) with _ | _
  all_goals
    rw [b1] at HQ'
    have p1 := b1
    have p2 := HQ'
    simp only [beq_iff_eq, beq_eq_false_iff_ne, ne_eq] at p1 p2
    go_wp2_with (first
      | (go_at_call 12; have M1 := HF1; refine (read_calls A5 c5 F dn fu dst _ HC5.out (by have := HL1.out; omega) hlc5).mono ?_; rintro e w25 ⟨rfl, hb⟩; clear q0 q1 q2 r0 r1 r2 M1; rw [HF1.out.1, HF1.out.2]; clear HF1; have nC4 := Lib.hid (blk_below C4.out hb); have nC5 := Lib.hid (blk_below C5.out hb); have nHC := Lib.hid (Kd.C_below HC5.out hb); have nHB := Lib.hid (below_step HB.out hb); clear C4 C5 HC5 HB hb; have C4 := nC4; have C5 := nC5; have HC5 := nHC; have HB := nHB; clear nC4 nC5 nHC nHB; have q0 := (blk_cell C4.out 0).trans rfl; have q1 := (blk_cell C4.out 1).trans rfl; have q2 := (blk_cell C4.out 2).trans rfl; have r0 := (blk_cell C5.out 0).trans rfl; have r1 := (blk_cell C5.out 1).trans rfl; have r2 := (blk_cell C5.out 2).trans rfl)
      | (go_at_call 12; have M2 := HF2; refine (read_calls A5 c5 F dn fu src _ HC5.out (by have := HL1.out; omega) hlc5).mono ?_; rintro e w26 ⟨rfl, hb⟩; clear q0 q1 q2 r0 r1 r2 M2; rw [HF2.out]; clear HF2; have nC4 := Lib.hid (blk_below C4.out hb); have nC5 := Lib.hid (blk_below C5.out hb); have nHC := Lib.hid (Kd.C_below HC5.out hb); have nHB := Lib.hid (below_step HB.out hb); clear C4 C5 HC5 HB hb; have C4 := nC4; have C5 := nC5; have HC5 := nHC; have HB := nHB; clear nC4 nC5 nHC nHB; have q0 := (blk_cell C4.out 0).trans rfl; have q1 := (blk_cell C4.out 1).trans rfl; have q2 := (blk_cell C4.out 2).trans rfl; have r0 := (blk_cell C5.out 0).trans rfl; have r1 := (blk_cell C5.out 1).trans rfl; have r2 := (blk_cell C5.out 2).trans rfl)
      | (go_at_call 14; have M3 := HK1; refine (crash_calls A c l down fuse keep _ (Kd.C_below HR.out HB.out) hn).mono ?_; rw [HK1.out]; rintro e w27 ⟨v6, rfl, hr6, hb⟩; have HR6 := Lib.hid hr6; clear q0 q1 q2 r0 r1 r2 HK1 M3 hr6; have nC4 := Lib.hid (blk_below C4.out hb); have nC5 := Lib.hid (blk_below C5.out hb); have nHC := Lib.hid (Kd.C_below HC5.out hb); have nHB := Lib.hid (below_step HB.out hb); clear C4 C5 HC5 HB hb; have C4 := nC4; have C5 := nC5; have HC5 := nHC; have HB := nHB; clear nC4 nC5 nHC nHB; have q0 := (blk_cell C4.out 0).trans rfl; have q1 := (blk_cell C4.out 1).trans rfl; have q2 := (blk_cell C4.out 2).trans rfl; have r0 := (blk_cell C5.out 0).trans rfl; have r1 := (blk_cell C5.out 1).trans rfl; have r2 := (blk_cell C5.out 2).trans rfl; obtain ⟨A6, c6, e6, hlc6, hC6⟩ := Kd.R_reads HR6.out; subst e6; have HC6 := Lib.hid hC6; clear hC6 HR6; have l5 := blk_lt C5.out)
      | (go_at_call 14; have M4 := HC6; refine (crash_calls A5 c5 F dn fu keep _ (Kd.C_alloc HC5.out _) (by have := HL1.out; omega)).mono ?_; rw [HK2.out]; rintro e w28 ⟨v7, rfl, hr7, hb⟩; have HR7 := Lib.hid hr7; have B6 := Lib.hid (blk_below (blk_new w27 _) hb); have nHC := Lib.hid (Kd.C_below (Kd.C_alloc HC6.out _) hb); have nHB := Lib.hid (below_step (HB.out.alloc HB.out.size _) hb); clear q0 q1 q2 r0 r1 r2 HK2 M4 hr7 HC6 HB C4 C5 HC5 hb l5; have HC6 := nHC; have HB := nHB; clear nHC nHB; obtain ⟨A7, c7, e7, hlc7, hC7⟩ := Kd.R_reads HR7.out; subst e7; have HC7 := Lib.hid hC7; clear hC7 HR7; have l6 := blk_lt B6.out; have q0 := (blk_cell B6.out 0).trans rfl; have q1 := (blk_cell B6.out 1).trans rfl; have q2 := (blk_cell B6.out 2).trans rfl)
      | (go_at_call 12; have M5 := B6; refine (read_calls A6 c6 X false (-1) src _ (Kd.C_alloc HC6.out _) (by have := HLX.out; omega) hlc6).mono ?_; rintro e w29 ⟨rfl, hb⟩; rw [HF3.out.1, HF3.out.2]; have B7 := Lib.hid (blk_below (blk_new w28 _) hb); have nHC := Lib.hid (Kd.C_below (Kd.C_alloc HC7.out _) hb); have nHB := Lib.hid (below_step (HB.out.alloc HB.out.size _) hb); clear HB HC7 B6 M5 hb l6 q0 q1 q2; have HC7 := nHC; have HB := nHB; clear nHC nHB; have q0 := (blk_cell B7.out 0).trans rfl; have q1 := (blk_cell B7.out 1).trans rfl; have q2 := (blk_cell B7.out 2).trans rfl)
      | (go_at_call 12; refine (read_calls A7 c7 Y false (-1) dst _ HC7.out (by have := HLY.out; have := HL1.out; omega) hlc7).mono ?_; rintro e w30 ⟨rfl, hb⟩; rw [HF4.out.1, HF4.out.2]; have nHB := Lib.hid (below_step HB.out hb); clear HB hb q0 q1 q2; have HB := nHB; clear nHB))
    all_goals
      go_ret
      refine ⟨?_, HB.out⟩
      first | rfl | (simp; done)
theorem moves_calls (A : Option Addr) (c : Nat) (l : List S41) (down : Bool) (fuse keep : Int) (src dst : ByteArray) (w : World) (hr : Kd.C k41 w A l.length l) (hn : l.length < 3518437208883) (hlc : l.length ≤ c) (hf : fuse ≤ 9223372036854775807) :
    Calls Try.prog 6 #[.agg #[.slice A l.length c, .bool down, .int .i64 fuse], .string src, .string dst, .int .i64 keep] w fun e w' => e = .returned (.bool true) ∧ Below w.heap.size w w' := by
  rcases ho : ok l with _ | _
  · have ha : doA l down fuse 3 src dst ⟨#[]⟩ = ⟨[], false, 0, 6⟩ := if_pos ho
    have h1 : readN l down src = 6 := by unfold readN; rw [if_pos ho]
    exact moves_no A c l down fuse keep src dst w hr hn hlc hf [] false 0 6 ha (by decide) 6 h1 (.inl (by decide))
  · have hok := doA_ok (down := down) (fuse := fuse) (kind := 3) (name := src) (dst := dst) (data := ⟨#[]⟩) ho
    rcases doA_cases (down := down) (fuse := fuse) (kind := 3) (name := src) (dst := dst) (data := ⟨#[]⟩) ho with ⟨n, hn0, h12, he⟩ | ⟨hdn, h1, h4, hw, hz, he⟩ | ⟨hdn, h1, h4, hw, hz, he⟩
    · exact moves_no A c l down fuse keep src dst w hr hn hlc hf l down fuse n he hn0 _ rfl (moves_kept ho hn0 he)
    · exact moves_no A c l down fuse keep src dst w hr hn hlc hf _ true fuse 12 he (by decide) _ rfl (.inr (.inr rfl))
    · subst hdn
      rw [he] at hok
      obtain ⟨m1, m2, m3, m4, m5, m6, m7⟩ := moves_done keep ho hw
      exact moves_yes A c l false fuse keep src dst w hr hn hlc hf _ _ _ false _ he _ _ _ (doA_move_len l false fuse src dst ho) m1 rfl ⟨m3, m2⟩ rfl m4 (if_pos ho) (if_pos hok) (List.length_map ..) (List.length_map ..) ⟨rfl, m5⟩ ⟨m7, m6⟩
end Go.Proofs.Ytebngchdmpabhaa.Disk
