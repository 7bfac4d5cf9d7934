/- Printed by the kit's printer (gp.sh with conf01b.py), then turned by asm01.py: api_Row_62, stream_ownOut, stream_Acked. Condition: utf8's tables are laid, where a function reads them. -/
import Derived.Test.YtkbemagcoojmmaaLp1Q1
namespace Go.Proofs.Ytkbemagcoojmmaa.Lx
open Go.RowKit Go.Proofs.Ytkbemagcoojmmaa.G Go.Proofs.YtkbemagcoojmmaaW.PrintWords Go.Proofs.YtkbemagcoojmmaaW.PrintLast Go.Proofs.YtkbemagcoojmmaaW.PrintMore
attribute [local go_sem] max2_int min2_int max_two min_two max_three min_three max_four min_four str_leq str_gtr str_geq
attribute [local go_sem high] eqA26
set_option linter.unusedVariables false
set_option linter.unusedSimpArgs false
def api_Row_62.f (l0 : List (List (List (S112)))) : Option ((List (List (List (S112))))) := (some (([] : List (List (List (S112)))) : List (List (List (S112))))).bind fun y534 => (if y534.length + l0.length < 5864062014805 then (some (y534 ++ l0)) else (none))
set_option maxHeartbeats 8000000 in
set_option maxRecDepth 100000 in
theorem api_Row_62.calls (P0_ : Nat → Prop) (A0 : Option Addr) (c0 : Nat) (l0 : List (List (List (S112)))) (r : List (List (List (S112)))) (w : World) (hs0 : Kd.V (Kd.slice 101 (Kd.slice 112 k112)) 28 w w.heap.size (fun k_ => P0_ k_) (.slice A0 l0.length c0) l0) (h : api_Row_62.f l0 = some r) :
    Calls Try.prog 62 #[.slice A0 l0.length c0] w fun e w' => ∃ v0_ : Value, e = .returned (v0_) ∧ Kd.N (Kd.slice 101 (Kd.slice 112 k112)) 28 w' w.heap.size (fun k_ => (P0_ k_ ∨ w.heap.size ≤ k_)) v0_ r ∧ Below w.heap.size w w' := by
  have HO0 := Aside0.mk (show Kd.V (Kd.slice 101 (Kd.slice 112 k112)) 28 w w.heap.size (fun k_ => (P0_ k_ ∨ w.heap.size ≤ k_)) (.slice A0 l0.length c0) l0 from Kd.V_mono hs0 (fun k_ hk => .inl hk))
  have HB := Aside0.mk (Below.refl w.heap.size w)
  have H : ((some (([] : List (List (List (S112)))) : List (List (List (S112))))).bind fun y534 => (if y534.length + l0.length < 5864062014805 then (some (y534 ++ l0)) else (none))) = some r := h
  clear h
  obtain ⟨y534, hy534⟩ : ∃ y_ : List (List (List (S112))), y_ = (([] : List (List (List (S112))))) := ⟨_, rfl⟩
  replace H : (if y534.length + l0.length < 5864062014805 then (some (y534 ++ l0)) else (none)) = some r := by first | (rw [hy534]; with_reducible exact H) | (have H2_ := (Option.bind_some _ _).symm.trans H; rw [hy534]; with_reducible exact H2_) | (have H2_ := (Option.bind_some _ _).symm.trans H; with_reducible exact H2_) | with_reducible exact H | (rw [hy534]; exact H) | exact H
  have Ny534 := Aside0.mk hy534
  clear hy534
  by_cases c2 : y534.length + l0.length < 5864062014805
  · rw [if_pos c2] at H
    have LMc2 := Aside0.mk c2
    clear c2
    obtain ⟨y537, hy537⟩ : ∃ y_ : List (List (List (S112))), y_ = (y534 ++ l0) := ⟨_, rfl⟩
    replace H : (some y537) = some r := by first | (rw [hy537]; with_reducible exact H) | (have H2_ := (Option.bind_some _ _).symm.trans H; rw [hy537]; with_reducible exact H2_) | (have H2_ := (Option.bind_some _ _).symm.trans H; with_reducible exact H2_) | with_reducible exact H | (rw [hy537]; exact H) | exact H
    have Ny537 := Aside0.mk hy537
    clear hy537
    obtain rfl := Option.some.inj H
    rcases hA_ : A0.isNone with _ | _
    · have hq_ := fun w => (Lib.run_eql_slice_nil (P := Try.prog) w 63 28 A0 l0.length c0 0 0 Try.underlying63).trans (by rw [hA_])
      go_enter Try.func62, Try.ntmps62
      go_wp2_with (first | ((with_reducible refine gate_dst (N := 5) rfl ?_); refine Kd.N_lit (Kd.slice 101 (Kd.slice 112 k112)) _ 28 ?hg (N' := 5) ?hd (xs := ([] : List (List (List (S112))))) (inner := []) (ok := (fun k_ => (P0_ k_ ∨ w.heap.size ≤ k_))) (okp := (fun k_ => (P0_ k_ ∨ w.heap.size ≤ k_))) ?hr ?hp (fun _ hk => hk) ((show ∀ k_, w.heap.size ≤ k_ → (fun k_ => (P0_ k_ ∨ w.heap.size ≤ k_)) k_ from fun k_ hk => (.inr (Nat.le_trans (below_size (by repeat (first | (with_reducible first | exact HB.out | apply below_alloc | apply pw_below_drewN | apply below_drew1) | exact HB.out))) hk))) _ (Nat.le_refl _)) (Below.refl _ _) (Nat.le_refl _) (by simp) ?_; (case hd => rfl); (case hg => rfl); (case hr => first | (go_simp; done) | (go_simp; rfl)); (case hp => exact (Reps.none _ _)); intro v535 w3 ho4 hb hg_ hnew_; clear hg_ hnew_; (first | rw [← Ny534.out] at ho4 | (simp only [Int.reduceToNat] at ho4; rw [← Ny534.out] at ho4)); have n0_ := Aside0.mk (Kd.V_elder' (by (with_reducible repeat (first | apply Kd.V_alloc | apply Kd.V_drewN | apply Kd.V_drew)); exact HO0.out) (Kd.N_base ho4) hb); have n1_ := Aside0.mk (Kd.N_lower ho4 (below_size (by repeat (first | (with_reducible first | exact HB.out | apply below_alloc | apply pw_below_drewN | apply below_drew1) | exact HB.out)))); have n2_ := Aside0.mk (below_step (by repeat (first | (with_reducible first | exact HB.out | apply below_alloc | apply pw_below_drewN | apply below_drew1) | exact HB.out)) hb); clear HO0; clear HB; have HO0 := n0_; have HO536 := n1_; have HB := n2_; clear n0_ n1_ n2_; clear hb ho4) | ((with_reducible refine gate_builtin (b := .append) (xs := #[.tmp 5, .tmp 6]) rfl ?_); at_builtin; refine Kd.N_append_rows (Kd.slice 101 (Kd.slice 112 k112)) (w0 := w) w.heap.size rfl (.tmp 5) (.tmp 6) 63 28 (.slice none 0 0) 24 rfl Try.underlying63 info28 rfl (by decide) (by omega) v535 y534 l0 _ _ _ (fun k_ => (P0_ k_ ∨ w.heap.size ≤ k_)) (fun k_ => ((fun k_ => (P0_ k_ ∨ w.heap.size ≤ k_))) k_ ∧ some k_ ≠ (v535 : Value).ownBlock) rfl rfl ?aO ?aR (fun _ hk => hk) ?aF ?aB ?aS ?aL ?_; (case aR => exact (by skip; exact Kd.V_F (Kd.V_mono (ok' := (fun k_ => ((fun k_ => (P0_ k_ ∨ w.heap.size ≤ k_))) k_ ∧ some k_ ≠ (v535 : Value).ownBlock)) (HO0.out) (fun k_ hk => ⟨hk.1, hk.2⟩)))); (case aB => exact (by repeat (first | (with_reducible first | exact HB.out | apply below_alloc | apply pw_below_drewN | apply below_drew1) | exact HB.out))); (case aF => exact (fun k_ hk => (.inr (Nat.le_trans (below_size (by repeat (first | (with_reducible first | exact HB.out | apply below_alloc | apply pw_below_drewN | apply below_drew1) | exact HB.out))) hk)))); (case aO => exact (by (with_reducible repeat (first | apply Kd.N_alloc | apply Kd.N_drewN | apply Kd.N_drew)); exact HO536.out)); (case aS => exact (below_size (by repeat (first | (with_reducible first | exact HB.out | apply below_alloc | apply pw_below_drewN | apply below_drew1) | exact HB.out)))); (case aL => have := LMc2.out; omega); intro v538 w5 ho hb hg hat; rw [← Ny537.out] at ho; have n0_ := Aside0.mk (Kd.V_afterv (ok := (fun k_ => (P0_ k_ ∨ w.heap.size ≤ k_))) (by (with_reducible repeat (first | apply Kd.V_alloc | apply Kd.V_drewN | apply Kd.V_drew)); exact HO0.out) hg hat); have n1_ := Aside0.mk (hb); have n2_ := Aside0.mk (ho); clear HO0; clear HB; clear HO536; have HO0 := n0_; have HB := n1_; have HO539 := n2_; clear n0_ n1_ n2_; clear ho hb hg hat))
      go_ret
      exact ⟨_, by first | rfl | (simp [errW_none, errW_some] <;> rfl) | (simp [*, errW_none, errW_some] <;> rfl), by (with_reducible repeat (first | apply Kd.N_alloc | apply Kd.N_drewN | apply Kd.N_drew)); exact HO539.out, by repeat (first | (with_reducible first | exact HB.out | apply below_alloc | apply pw_below_drewN | apply below_drew1) | exact HB.out)⟩
    · obtain rfl : A0 = none := by simpa using hA_
      have hl_ : l0 = [] := by
        have h2_ := (Kd.V_reads' hs0).2.2
        rcases Nat.eq_zero_or_pos l0.length with h3_ | h3_
        · exact List.length_eq_zero_iff.1 h3_
        · obtain ⟨ad_, h4_, _⟩ := h2_.2.2 h3_
          cases h4_
      clear hA_
      subst hl_
      have hr_ : y537 = [] := by simp [Ny537.out, Ny534.out]
      clear Ny534 Ny537
      subst hr_
      have hq_ := fun (w : World) (n c : Nat) => (Lib.run_eql_slice_nil (P := Try.prog) w 63 28 none n c 0 0 Try.underlying63)
      go_enter Try.func62, Try.ntmps62
      go_wp2
      go_ret
      exact ⟨_, rfl, by first | exact Kd.N_nil _ _ _ _ _ | exact Kd.S_nil _ _ _ _ _ | exact Kd.R_nil _ _ _ _ _ | exact Kd.V_nil _ _ _ _ _, Below.refl _ _⟩
  · rw [if_neg c2] at H
    exact absurd H (by simp)
def stream_ownOut.l0 : Nat → Int → Int → Int → Int → Int → Int → Int → List (List (List (S112))) → Int → Option (Int × Int × Int × Int × Int × (List (List (List (S112)))) × Int)
  | 0, _, _, _, _, _, _, _, _, _ => none
  | k + 1, x10, x11, x541000, x541001, x541002, x541003, x541004, x541005, x541006 => if x11 < x10 then (if 0 ≤ x11 then (if x11 < (x541005.length : Int) then ((stream_own.f k (rd_L7 x541005 x11)).bind fun t546 => (stream_ownOut.l0 k x10 (wrap64 (x11 + 1)) x541000 x541001 x541002 x541003 x541004 (x541005.set (x11 : Int).toNat t546) x541006)) else (none)) else (none)) else (some (x541000, x541001, x541002, x541003, x541004, x541005, x541006))
def stream_ownOut.f (k : Nat) (a0_0 : Int) (a0_1 : Int) (a0_2 : Int) (a0_3 : Int) (a0_4 : Int) (l0_5 : List (List (List (S112)))) (a0_6 : Int) : Option (Int × Int × Int × Int × Int × (List (List (List (S112)))) × Int) := (api_Row_62.f l0_5).bind fun t542 => (stream_ownOut.l0 k (t542.length : Int) 0 a0_0 a0_1 a0_2 a0_3 a0_4 t542 a0_6)
def stream_ownOut.T5 : Bool × List (List Nat × List Nat) := (true, [([], []), ([0], [0]), ([], []), ([], []), ([3], [3]), ([], []), ([4, 5], [4, 5]), ([6], [6]), ([7], [7]), ([1, 2, 0, 1, 2, 3, 4, 5, 6, 7, 8], [1, 2]), ([9, 8, 8, 0, 1, 2, 3, 4, 5, 6, 7, 8], [8, 9])])
def stream_ownOut.B5 : List Nat := [0, 1, 0, 0, 8, 0, 56, 120, 248, 511, 1023]
theorem stream_ownOut.tab5 : rtab .any (opsOf Try.f48 5) = stream_ownOut.T5 := by kernel_rfl
theorem stream_ownOut.bits5 : waitsOk stream_ownOut.T5.2 stream_ownOut.B5 = true := by kernel_rfl
set_option maxHeartbeats 8000000 in
set_option maxRecDepth 100000 in
theorem stream_ownOut.calls (k : Nat) (a0_0 : Int) (a0_1 : Int) (a0_2 : Int) (a0_3 : Int) (a0_4 : Int) (P0_5_ : Nat → Prop) (A0_5 : Option Addr) (c0_5 : Nat) (l0_5 : List (List (List (S112)))) (a0_6 : Int) (r1 : Int) (r2 : Int) (r3 : Int) (r4 : Int) (r5 : Int) (r6 : List (List (List (S112)))) (r7 : Int) (w : World) (hs0_5 : Kd.V (Kd.slice 101 (Kd.slice 112 k112)) 28 w w.heap.size (fun k_ => P0_5_ k_) (.slice A0_5 l0_5.length c0_5) l0_5) (h : stream_ownOut.f k a0_0 a0_1 a0_2 a0_3 a0_4 l0_5 a0_6 = some (r1, r2, r3, r4, r5, r6, r7)) :
    Calls Try.prog 48 #[.agg #[.int .u64 a0_0, .int .u64 a0_1, .int .i64 a0_2, .int .i64 a0_3, .int .i64 a0_4, .slice A0_5 l0_5.length c0_5, .int .u64 a0_6]] w fun e w' => ∃ v5_ : Value, e = .returned (.agg #[.int .u64 r1, .int .u64 r2, .int .i64 r3, .int .i64 r4, .int .i64 r5, v5_, .int .u64 r7]) ∧ Kd.N (Kd.slice 101 (Kd.slice 112 k112)) 28 w' w.heap.size (fun k_ => (P0_5_ k_ ∨ w.heap.size ≤ k_)) v5_ r6 ∧ Below w.heap.size w w' := by
  have hu65 := Try.underlying65
  have HO0_5 := Aside0.mk (show Kd.V (Kd.slice 101 (Kd.slice 112 k112)) 28 w w.heap.size (fun k_ => (P0_5_ k_ ∨ w.heap.size ≤ k_)) (.slice A0_5 l0_5.length c0_5) l0_5 from Kd.V_mono hs0_5 (fun k_ hk => .inl hk))
  have HB := Aside0.mk (Below.refl w.heap.size w)
  have H : ((api_Row_62.f l0_5).bind fun t542 => (stream_ownOut.l0 k (t542.length : Int) 0 a0_0 a0_1 a0_2 a0_3 a0_4 t542 a0_6)) = some (r1, r2, r3, r4, r5, r6, r7) := h
  clear h
  replace H := Option.bind_eq_some_iff.mp H
  obtain ⟨t542, A20, H⟩ := H
  replace H : (stream_ownOut.l0 k (t542.length : Int) 0 a0_0 a0_1 a0_2 a0_3 a0_4 t542 a0_6) = some (r1, r2, r3, r4, r5, r6, r7) := H
  have A2 := Aside0.mk A20
  clear A20
  have H' := Aside0.mk H
  clear H
  go_enter Try.func48, Try.ntmps48
  go_wp2_with (first | ((with_reducible refine gate_dst (N := 1) rfl ?_); refine box_event ?hg (N := 1) ?hd (cs := #[.int .u64 a0_0, .int .u64 a0_1, .int .i64 a0_2, .int .i64 a0_3, .int .i64 a0_4, .slice A0_5 l0_5.length c0_5, .int .u64 a0_6]) (t := 65) ?hr ?_; (case hd => rfl); (case hg => rfl); (case hr => first | (go_simp; done) | (go_simp; rfl)); intro gb540 hg w3 hbox hb; have n0_ := Aside0.mk (Kd.V_below (Kd.V_elderB (by (with_reducible repeat (first | apply Kd.V_alloc | apply Kd.V_drewN | apply Kd.V_drew)); exact HO0_5.out) gb540 (Nat.le_of_eq hg.symm)) hb); have n1_ := Aside0.mk (below_step (by repeat (first | (with_reducible first | exact HB.out | apply below_alloc | apply pw_below_drewN | apply below_drew1) | exact HB.out)) hb); have n2_ := Aside0.mk (hbox); have n3_ := Aside0.mk ((by rw [hg]; exact (below_size (by repeat (first | (with_reducible first | exact HB.out | apply below_alloc | apply pw_below_drewN | apply below_drew1) | exact HB.out))) : w.heap.size ≤ gb540)); have n4_ := Aside0.mk ((by rw [hg]; exact (below_size (by repeat (first | (with_reducible first | exact HB.out | apply below_alloc | apply pw_below_drewN | apply below_drew1) | exact HB.out))) : w.heap.size ≤ gb540)); clear HO0_5; clear HB; have HO0_5 := n0_; have HB := n1_; have BK540 := n2_; have GW540 := n3_; have GE540 := n4_; clear n0_ n1_ n2_ n3_ n4_; clear hb hbox hg) | ((with_reducible refine gate_dst (N := 2) rfl ?_); refine box_event ?hg (N := 2) ?hd (cs := #[.int .u64 0, .int .u64 0, .int .i64 0, .int .i64 0, .int .i64 0, .slice none 0 0, .int .u64 0]) (t := 65) ?hr ?_; (case hd => rfl); (case hg => rfl); (case hr => first | (go_simp; done) | (go_simp; rfl)); intro gb541 hg w4 hbox hb; have n0_ := Aside0.mk (Kd.V_below (Kd.V_elderB (by (with_reducible repeat (first | apply Kd.V_alloc | apply Kd.V_drewN | apply Kd.V_drew)); exact HO0_5.out) gb541 (Nat.le_of_eq hg.symm)) hb); have n1_ := Aside0.mk (blk_below (g := gb540) (o := .cells #[.int .u64 a0_0, .int .u64 a0_1, .int .i64 a0_2, .int .i64 a0_3, .int .i64 a0_4, .slice A0_5 l0_5.length c0_5, .int .u64 a0_6] 65 (0, 0)) (by (with_reducible repeat (first | refine blk_drewN ?_ _ | refine blk_drew ?_ | refine blk_alloc ?_ _)); exact BK540.out) hb); have n2_ := Aside0.mk (below_step (by repeat (first | (with_reducible first | exact HB.out | apply below_alloc | apply pw_below_drewN | apply below_drew1 | refine below_set ?_ GE540.out) | exact HB.out)) hb); have n3_ := Aside0.mk (hbox); have n4_ := Aside0.mk ((by rw [hg]; exact (below_size (by repeat (first | (with_reducible first | exact HB.out | apply below_alloc | apply pw_below_drewN | apply below_drew1 | refine below_set ?_ GE540.out) | exact HB.out))) : w.heap.size ≤ gb541)); have n5_ := Aside0.mk ((by rw [hg]; exact (below_size (by repeat (first | (with_reducible first | exact HB.out | apply below_alloc | apply pw_below_drewN | apply below_drew1 | refine below_set ?_ GE540.out) | exact HB.out))) : w.heap.size ≤ gb541)); have n6_ := Aside0.mk ((by rw [hg]; exact Nat.ne_of_lt (blk_lt (g := gb540) (o := .cells #[.int .u64 a0_0, .int .u64 a0_1, .int .i64 a0_2, .int .i64 a0_3, .int .i64 a0_4, .slice A0_5 l0_5.length c0_5, .int .u64 a0_6] 65 (0, 0)) (by (with_reducible repeat (first | refine blk_drewN ?_ _ | refine blk_drew ?_ | refine blk_alloc ?_ _)); exact BK540.out)) : gb540 ≠ gb541)); have n7_ := Aside0.mk ((by rw [hg]; exact Nat.ne_of_gt (blk_lt (g := gb540) (o := .cells #[.int .u64 a0_0, .int .u64 a0_1, .int .i64 a0_2, .int .i64 a0_3, .int .i64 a0_4, .slice A0_5 l0_5.length c0_5, .int .u64 a0_6] 65 (0, 0)) (by (with_reducible repeat (first | refine blk_drewN ?_ _ | refine blk_drew ?_ | refine blk_alloc ?_ _)); exact BK540.out)) : gb541 ≠ gb540)); clear HO0_5; clear BK540; clear HB; have HO0_5 := n0_; have BK540 := n1_; have HB := n2_; have BK541 := n3_; have GW541 := n4_; have GE541 := n5_; have NB540_541 := n6_; have NB541_540 := n7_; clear n0_ n1_ n2_ n3_ n4_ n5_ n6_ n7_; clear hb hbox hg; have hnb5 := NB540_541.out; have hnc5 := NB541_540.out; have hcz6_0 : w4.cell? ⟨gb540, 0, none⟩ = some (.int .u64 a0_0) := (blk_cell BK540.out 0).trans rfl; have hcz6_1 : w4.cell? ⟨gb540, 1, none⟩ = some (.int .u64 a0_1) := (blk_cell BK540.out 1).trans rfl; have hcz6_2 : w4.cell? ⟨gb540, 2, none⟩ = some (.int .i64 a0_2) := (blk_cell BK540.out 2).trans rfl; have hcz6_3 : w4.cell? ⟨gb540, 3, none⟩ = some (.int .i64 a0_3) := (blk_cell BK540.out 3).trans rfl; have hcz6_4 : w4.cell? ⟨gb540, 4, none⟩ = some (.int .i64 a0_4) := (blk_cell BK540.out 4).trans rfl; have hcz6_5 : w4.cell? ⟨gb540, 5, none⟩ = some (.slice A0_5 l0_5.length c0_5) := (blk_cell BK540.out 5).trans rfl; have hcz6_6 : w4.cell? ⟨gb540, 6, none⟩ = some (.int .u64 a0_6) := (blk_cell BK540.out 6).trans rfl; have hfz6_0 := blk_frozen BK540.out 0; have hfz6_1 := blk_frozen BK540.out 1; have hfz6_2 := blk_frozen BK540.out 2; have hfz6_3 := blk_frozen BK540.out 3; have hfz6_4 := blk_frozen BK540.out 4; have hfz6_5 := blk_frozen BK540.out 5; have hfz6_6 := blk_frozen BK540.out 6) | ((with_reducible refine gate_callee (f := 62) rfl ?_); refine goesL_ (some 6) rfl rfl Try.func62 (by kernel_rfl) rfl #[.slice A0_5 l0_5.length c0_5] rfl (by (try simp only [List.map_toArray, List.map_cons, List.map_nil]); first | done | rfl | (simp only [List.length_drop, List.length_take]; rfl)) ?_; (with_reducible refine (api_Row_62.calls (fun k_ => (((P0_5_ k_ ∨ w.heap.size ≤ k_) ∧ k_ ≠ gb540) ∧ k_ ≠ gb541)) _ _ l0_5 t542 _ ?side1 A2.out).mono ?_); (case side1 => exact HO0_5.out); rintro e w7 ⟨v543, rfl, ho0, hb⟩; refine ⟨_, rfl, ?_⟩; have n0_ := Aside0.mk (Kd.V_elder' (by (with_reducible repeat (first | apply Kd.V_alloc | apply Kd.V_drewN | apply Kd.V_drew)); exact HO0_5.out) (Kd.N_base ho0) hb); have n1_ := Aside0.mk (Kd.N_lower (Kd.N_mono (ok' := fun k_ => (P0_5_ k_ ∨ w.heap.size ≤ k_) ∧ k_ ≠ gb540 ∧ k_ ≠ gb541) ho0 (fun k_ hk_ => ⟨Or.elim hk_ (fun hs_ => hs_.1.1) (fun hn_ => (.inr (Nat.le_trans (below_size (by repeat (first | (with_reducible first | exact HB.out | apply below_alloc | apply pw_below_drewN | apply below_drew1 | refine below_set ?_ GE540.out | refine below_set ?_ GE541.out) | exact HB.out))) hn_))), Or.elim hk_ (fun hs_ => hs_.1.2) (fun hn_ => (Kd.freshB (g := gb540) (o := .cells #[.int .u64 a0_0, .int .u64 a0_1, .int .i64 a0_2, .int .i64 a0_3, .int .i64 a0_4, .slice A0_5 l0_5.length c0_5, .int .u64 a0_6] 65 (0, 0)) (by (with_reducible repeat (first | refine blk_drewN ?_ _ | refine blk_drew ?_ | refine blk_alloc ?_ _)); exact BK540.out) k_ hn_)), Or.elim hk_ (fun hs_ => hs_.2) (fun hn_ => (Kd.freshB (g := gb541) (o := .cells #[.int .u64 0, .int .u64 0, .int .i64 0, .int .i64 0, .int .i64 0, .slice none 0 0, .int .u64 0] 65 (0, 0)) (by (with_reducible repeat (first | refine blk_drewN ?_ _ | refine blk_drew ?_ | refine blk_alloc ?_ _)); exact BK541.out) k_ hn_))⟩)) (below_size (by repeat (first | (with_reducible first | exact HB.out | apply below_alloc | apply pw_below_drewN | apply below_drew1 | refine below_set ?_ GE540.out | refine below_set ?_ GE541.out) | exact HB.out)))); have n2_ := Aside0.mk (blk_below (g := gb540) (o := .cells #[.int .u64 a0_0, .int .u64 a0_1, .int .i64 a0_2, .int .i64 a0_3, .int .i64 a0_4, .slice A0_5 l0_5.length c0_5, .int .u64 a0_6] 65 (0, 0)) (by (with_reducible repeat (first | refine blk_drewN ?_ _ | refine blk_drew ?_ | refine blk_alloc ?_ _)); exact BK540.out) hb); have n3_ := Aside0.mk (blk_below (g := gb541) (o := .cells #[.int .u64 0, .int .u64 0, .int .i64 0, .int .i64 0, .int .i64 0, .slice none 0 0, .int .u64 0] 65 (0, 0)) (by (with_reducible repeat (first | refine blk_drewN ?_ _ | refine blk_drew ?_ | refine blk_alloc ?_ _)); exact BK541.out) hb); have n4_ := Aside0.mk (below_step (by repeat (first | (with_reducible first | exact HB.out | apply below_alloc | apply pw_below_drewN | apply below_drew1 | refine below_set ?_ GE540.out | refine below_set ?_ GE541.out) | exact HB.out)) hb); clear HO0_5; clear BK540; clear BK541; clear HB; have HO0_5 := n0_; have HO544 := n1_; have BK540 := n2_; have BK541 := n3_; have HB := n4_; clear n0_ n1_ n2_ n3_ n4_; (try clear hb); (try clear hb2); (try clear hk); (try clear hi); (try clear ho0); obtain ⟨Ao8, co8, eo8⟩ := Kd.N_slice HO544.out; subst eo8; have hcz9_0 : w7.cell? ⟨gb540, 0, none⟩ = some (.int .u64 a0_0) := (blk_cell BK540.out 0).trans rfl; have hcz9_1 : w7.cell? ⟨gb540, 1, none⟩ = some (.int .u64 a0_1) := (blk_cell BK540.out 1).trans rfl; have hcz9_2 : w7.cell? ⟨gb540, 2, none⟩ = some (.int .i64 a0_2) := (blk_cell BK540.out 2).trans rfl; have hcz9_3 : w7.cell? ⟨gb540, 3, none⟩ = some (.int .i64 a0_3) := (blk_cell BK540.out 3).trans rfl; have hcz9_4 : w7.cell? ⟨gb540, 4, none⟩ = some (.int .i64 a0_4) := (blk_cell BK540.out 4).trans rfl; have hcz9_5 : w7.cell? ⟨gb540, 5, none⟩ = some (.slice A0_5 l0_5.length c0_5) := (blk_cell BK540.out 5).trans rfl; have hcz9_6 : w7.cell? ⟨gb540, 6, none⟩ = some (.int .u64 a0_6) := (blk_cell BK540.out 6).trans rfl; have hfz9_0 := blk_frozen BK540.out 0; have hfz9_1 := blk_frozen BK540.out 1; have hfz9_2 := blk_frozen BK540.out 2; have hfz9_3 := blk_frozen BK540.out 3; have hfz9_4 := blk_frozen BK540.out 4; have hfz9_5 := blk_frozen BK540.out 5; have hfz9_6 := blk_frozen BK540.out 6))
  go_loopg [11] k (fun kq v11 w' => ∃ (x11_1 : Int) (x541005_1 : List (List (List (S112)))) (u541005 : Value), v11 = .int .i64 x11_1 ∧ Aside0 (stream_ownOut.l0 kq (t542.length : Int) x11_1 a0_0 a0_1 a0_2 a0_3 a0_4 x541005_1 a0_6 = some (r1, r2, r3, r4, r5, r6, r7)) ∧ Aside0 (kq ≤ k) ∧ Aside0 (Kd.N (Kd.slice 101 (Kd.slice 112 k112)) 28 w' w.heap.size (fun k_ => (P0_5_ k_ ∨ w.heap.size ≤ k_) ∧ k_ ≠ gb540 ∧ k_ ≠ gb541) u541005 x541005_1) ∧ Aside0 (w'.heap[gb540]? = some (.cells #[.int .u64 a0_0, .int .u64 a0_1, .int .i64 a0_2, .int .i64 a0_3, .int .i64 a0_4, u541005, .int .u64 a0_6] 65 (0, 0))) ∧ Aside0 (w'.heap[gb541]? = some (.cells #[.int .u64 0, .int .u64 0, .int .i64 0, .int .i64 0, .int .i64 0, (.slice none 0 0), .int .u64 0] 65 (0, 0))) ∧ Aside0 (Below w.heap.size w w'))
  case atStart => exact ⟨(0), (t542), (.slice Ao8 t542.length co8), (by first | rfl | (simp; done) | (simp [*]; done)), H', ⟨Nat.le_refl _⟩, ⟨by (with_reducible repeat (first | apply Kd.N_alloc | apply Kd.N_drewN | apply Kd.N_drew)); exact Kd.N_mono (Kd.N_far (p := ⟨gb540, 5, none⟩) (Kd.N_mono HO544.out (fun k_ hk => (⟨hk, hk.2.1⟩ : _ ∧ k_ ≠ gb540))) (fun _ hk => hk.2) (.slice Ao8 t542.length co8)) (fun _ hk => ⟨hk.1.1, ⟨hk.1.2.1, hk.1.2.2⟩⟩)⟩, ⟨by (with_reducible repeat (first | refine blk_drewN ?_ _ | refine blk_drew ?_ | refine blk_alloc ?_ _)); refine blk_put (cs := #[.int .u64 a0_0, .int .u64 a0_1, .int .i64 a0_2, .int .i64 a0_3, .int .i64 a0_4, .slice A0_5 l0_5.length c0_5, .int .u64 a0_6]) ?_ 5 _ rfl; (with_reducible repeat (first | refine blk_drewN ?_ _ | refine blk_drew ?_ | refine blk_alloc ?_ _)); exact BK540.out⟩, ⟨by (with_reducible repeat (first | refine blk_drewN ?_ _ | refine blk_drew ?_ | refine blk_alloc ?_ _)); refine blk_far ?_ NB541_540.out _; (with_reducible repeat (first | refine blk_drewN ?_ _ | refine blk_drew ?_ | refine blk_alloc ?_ _)); exact BK541.out⟩, ⟨by repeat (first | (with_reducible first | exact HB.out | apply below_alloc | apply pw_below_drewN | apply below_drew1 | refine below_set ?_ GE540.out | refine below_set ?_ GE541.out) | exact HB.out)⟩⟩
  case round =>
    clear H'
    try clear p2
    try clear c4
    try clear c5
    try clear c6
    try clear hcz6_0
    try clear hcz6_1
    try clear hcz6_2
    try clear hcz6_3
    try clear hcz6_4
    try clear hcz6_5
    try clear hcz6_6
    try clear hcz9_0
    try clear hcz9_1
    try clear hcz9_2
    try clear hcz9_3
    try clear hcz9_4
    try clear hcz9_5
    try clear hcz9_6
    try clear hfz6_0
    try clear hfz6_1
    try clear hfz6_2
    try clear hfz6_3
    try clear hfz6_4
    try clear hfz6_5
    try clear hfz6_6
    try clear hfz9_0
    try clear hfz9_1
    try clear hfz9_2
    try clear hfz9_3
    try clear hfz9_4
    try clear hfz9_5
    try clear hfz9_6
    obtain ⟨x11_1, x541005_1, u541005, rfl, HA, HK1, HO_541005, BK540, BK541, HB⟩ := hrel
    cases gk with
    | zero => exact absurd HA.out (by simp [stream_ownOut.l0])
    | succ k1 =>
      have H := HA.out
      clear HA
      simp only [stream_ownOut.l0] at H
      by_cases c10 : x11_1 < (t542.length : Int)
      · rw [if_pos c10] at H
        have c10b0 : decide (x11_1 < (t542.length : Int)) = true := decide_eq_true c10
        clear c10
        by_cases c11 : 0 ≤ x11_1
        · rw [if_pos c11] at H
          have c11b0 : decide (0 ≤ x11_1) = true := decide_eq_true c11
          clear c11
          by_cases c12 : x11_1 < (x541005_1.length : Int)
          · rw [if_pos c12] at H
            have c12b0 : decide (x11_1 < (x541005_1.length : Int)) = true := decide_eq_true c12
            clear c12
            replace H := Option.bind_eq_some_iff.mp H
            obtain ⟨t546, A130, H⟩ := H
            replace H : (stream_ownOut.l0 k1 (t542.length : Int) (wrap64 (x11_1 + 1)) a0_0 a0_1 a0_2 a0_3 a0_4 (x541005_1.set (x11_1 : Int).toNat t546) a0_6) = some (r1, r2, r3, r4, r5, r6, r7) := H
            have A13 := Aside0.mk A130
            clear A130
            obtain ⟨y549, hy549⟩ : ∃ y_ : List (List (List (S112))), y_ = (x541005_1.set (x11_1 : Int).toNat t546) := ⟨_, rfl⟩
            replace H : (stream_ownOut.l0 k1 (t542.length : Int) (wrap64 (x11_1 + 1)) a0_0 a0_1 a0_2 a0_3 a0_4 y549 a0_6) = some (r1, r2, r3, r4, r5, r6, r7) := by first | (rw [hy549]; with_reducible exact H) | (have H2_ := (Option.bind_some _ _).symm.trans H; rw [hy549]; with_reducible exact H2_) | (have H2_ := (Option.bind_some _ _).symm.trans H; with_reducible exact H2_) | with_reducible exact H | (rw [hy549]; exact H) | exact H
            have Ny549 := Aside0.mk hy549
            clear hy549
            have H' := Aside0.mk H
            clear H
            try go_wp2
            have n0_ := Aside0.mk (Kd.N_drew HO_541005.out)
            have n1_ := Aside0.mk (blk_drew BK540.out)
            have n2_ := Aside0.mk (blk_drew BK541.out)
            have n3_ := Aside0.mk (below_drew1 HB.out)
            clear HO_541005
            clear BK540
            clear BK541
            clear HB
            have HO_541005 := n0_
            have BK540 := n1_
            have BK541 := n2_
            have HB := n3_
            clear n0_ n1_ n2_ n3_
            obtain ⟨Ao16, co16, eo16⟩ := Kd.N_slice HO_541005.out
            (first | subst eo16 | (injection eo16 with f1_ f2_ f3_; have f4_ := f1_.symm; have f5_ := f3_.symm; clear f1_ f2_ f3_; subst f4_; subst f5_))
            have p545 : 0 ≤ (x11_1 : Int) := of_decide_eq_true (by first | (with_reducible assumption) | assumption)
            have q545 : x11_1 < (x541005_1.length : Int) := of_decide_eq_true (by first | (with_reducible assumption) | assumption)
            obtain ⟨ad545, A545_0, c545_0, e545, hx545_0, hl545_0, hi545_0⟩ := at_L7 (Kd.N_reads' HO_541005.out).2.2 x11_1 p545 q545
            cases e545
            obtain ⟨ce545, hce545, hMe545, hcc545⟩ := Kd.N_get HO_541005.out [] x11_1 p545 (by first | exact q545 | exact of_decide_eq_true (by first | (with_reducible assumption) | assumption) | (have e_ := (Kd.N_reads' HO_541005.out).1; omega))
            obtain ⟨ua545_0, uc545_0, rfl, ul545_0, ge545_0⟩ := Kd.FK_slice_open hMe545
            have hv545_0 := hcc545 0 _ rfl
            rw [Nat.add_zero, show ((Kd.slice 101 (Kd.slice 112 k112))).sz = 1 from rfl, Nat.mul_one] at hv545_0
            replace hv545_0 := Option.some.inj (hv545_0.symm.trans hx545_0)
            injection hv545_0 with hva_ hvn_ hvc_
            rw [hva_] at ge545_0
            rw [hvc_] at ul545_0
            have HL545_0 := Aside0.mk (show Kd.V (Kd.slice 112 k112) 101 _ w.heap.size _ _ (rd_L7 x541005_1 x11_1) from Kd.V_mk ul545_0 ge545_0)
            clear hva_ hvn_ hvc_ ge545_0 ul545_0
            clear hcc545 hce545
            have HR545_0 := Aside0.mk hi545_0
            have HC545_0 := Aside0.mk hl545_0
            clear hi545_0 hl545_0
            replace p545 := eq_true p545
            replace q545 := eq_true q545
            refine start_ (n := 11) (S := fun w' => w'.cell? ⟨gb540, 0, none⟩ = some (.int .u64 a0_0) ∧ w'.cell? ⟨gb540, 1, none⟩ = some (.int .u64 a0_1) ∧ w'.cell? ⟨gb540, 2, none⟩ = some (.int .i64 a0_2) ∧ w'.cell? ⟨gb540, 3, none⟩ = some (.int .i64 a0_3) ∧ w'.cell? ⟨gb540, 4, none⟩ = some (.int .i64 a0_4) ∧ w'.cell? ⟨gb540, 5, none⟩ = some (.slice (some ad545) x541005_1.length co16) ∧ w'.cell? ⟨gb540, 6, none⟩ = some (.int .u64 a0_6) ∧ w'.cell? (ad545.add (x11_1).toNat) = some (.slice A545_0 (rd_L7 x541005_1 x11_1).length c545_0)) (ds := [10]) #[false, false, false, false, false, false, false, false, false, false, false] (by kernel_rfl) rfl rfl ⟨(blk_cell BK540.out 0).trans rfl, (blk_cell BK540.out 1).trans rfl, (blk_cell BK540.out 2).trans rfl, (blk_cell BK540.out 3).trans rfl, (blk_cell BK540.out 4).trans rfl, (blk_cell BK540.out 5).trans rfl, (blk_cell BK540.out 6).trans rfl, hx545_0⟩ (fun hHeld => ?_); refine with_tabW stream_ownOut.tab5 stream_ownOut.bits5 (fun HT_ HW_ => ?_)
            generalize wr.drew = w15 at HO_541005 BK540 BK541 HB HL545_0 HR545_0 hx545_0 hHeld ⊢
            refine pure_ (i := 0) (N := some 14) (v := ?_) (a' := ?_) #[true, false, false, false, false, false, false, false, false, false, false] rfl rfl (any_of HT_.out (by kernel_rfl)) (fun _ _ _ h => h) (Or.inl ⟨by rfl, ?_⟩) ?_ ?_
            rotate_left
            · intro w'
              go_simp
              with_reducible rfl
            rotate_left
            · simp only [Act.put, List.setIfInBounds_toArray, List.set_cons_zero, List.set_cons_succ, i64_w, i32_w]
              rfl
            refine pure_ (i := 2) (N := some 16) (v := ?_) (a' := ?_) #[true, false, true, false, false, false, false, false, false, false, false] rfl rfl (any_of HT_.out (by kernel_rfl)) (fun _ _ _ h => h) (Or.inl ⟨by rfl, ?_⟩) ?_ ?_
            rotate_left
            · intro w'
              go_simp
              with_reducible rfl
            rotate_left
            · simp only [Act.put, List.setIfInBounds_toArray, List.set_cons_zero, List.set_cons_succ, i64_w, i32_w]
              rfl
            refine pure_ (i := 3) (N := some 17) (v := ?_) (a' := ?_) #[true, false, true, true, false, false, false, false, false, false, false] rfl rfl (any_of HT_.out (by kernel_rfl)) (fun _ _ _ h => h) (Or.inl ⟨by rfl, ?_⟩) ?_ ?_
            rotate_left
            · intro w'
              go_simp
              with_reducible rfl
            rotate_left
            · simp only [Act.put, List.setIfInBounds_toArray, List.set_cons_zero, List.set_cons_succ, i64_w, i32_w]
              rfl
            refine pure_ (i := 5) (N := some 19) (v := ?_) (a' := ?_) #[true, false, true, true, false, true, false, false, false, false, false] rfl rfl (any_of HT_.out (by kernel_rfl)) (fun _ _ _ h => h) (Or.inl ⟨by rfl, ?_⟩) ?_ ?_
            rotate_left
            · intro w'
              go_simp
              with_reducible rfl
            rotate_left
            · simp only [Act.put, List.setIfInBounds_toArray, List.set_cons_zero, List.set_cons_succ, i64_w, i32_w]
              rfl
            refine take_ (i := 1) (N := some 15) (v := ?_) (a' := ?_) #[true, true, true, true, false, true, false, false, false, false, false] rfl rfl (take_ofW HT_.out HW_.out (by kernel_rfl)) (fun _ _ _ h => h) (Or.inl ⟨by rfl, ?_⟩) hHeld ?_ ?_
            rotate_left
            · rintro w' ⟨s0, s1, s2, s3, s4, s5, s6, s7⟩
              go_simp
              with_reducible rfl
            rotate_left
            · simp only [Act.put, List.setIfInBounds_toArray, List.set_cons_zero, List.set_cons_succ, i64_w, i32_w]
              rfl
            refine take_ (i := 4) (N := some 18) (v := ?_) (a' := ?_) #[true, true, true, true, true, true, false, false, false, false, false] rfl rfl (take_ofW HT_.out HW_.out (by kernel_rfl)) (fun _ _ _ h => h) (Or.inl ⟨by rfl, ?_⟩) hHeld ?_ ?_
            rotate_left
            · rintro w' ⟨s0, s1, s2, s3, s4, s5, s6, s7⟩
              go_simp
              with_reducible rfl
            rotate_left
            · simp only [Act.put, List.setIfInBounds_toArray, List.set_cons_zero, List.set_cons_succ, i64_w, i32_w]
              rfl
            refine pure_ (i := 6) (N := some 20) (v := ?_) (a' := ?_) #[true, true, true, true, true, true, true, false, false, false, false] rfl rfl (any_of HT_.out (by kernel_rfl)) (fun _ _ _ h => h) (Or.inl ⟨by rfl, ?_⟩) ?_ ?_
            rotate_left
            · intro w'
              go_simp
              with_reducible rfl
            rotate_left
            · simp only [Act.put, List.setIfInBounds_toArray, List.set_cons_zero, List.set_cons_succ, i64_w, i32_w]
              rfl
            refine take_ (i := 7) (N := some 21) (v := ?_) (a' := ?_) #[true, true, true, true, true, true, true, true, false, false, false] rfl rfl (take_ofW HT_.out HW_.out (by kernel_rfl)) (fun _ _ _ h => h) (Or.inl ⟨by rfl, ?_⟩) hHeld ?_ ?_
            rotate_left
            · rintro w' ⟨s0, s1, s2, s3, s4, s5, s6, s7⟩
              go_simp
              with_reducible rfl
            rotate_left
            · simp only [Act.put, List.setIfInBounds_toArray, List.set_cons_zero, List.set_cons_succ, i64_w, i32_w]
              rfl
            refine one_ (i := 8) (N := some 22) #[true, true, true, true, true, true, true, true, true, false, false] rfl rfl (one_of HT_.out (by kernel_rfl)) (by decide) (fun K hK => ?_)
            refine goes_ Try.func36 (by kernel_rfl) rfl #[.slice A545_0 (rd_L7 x541005_1 x11_1).length c545_0] (by rfl) rfl rfl (by (try simp only [List.map_toArray, List.map_cons, List.map_nil]); first | done | rfl | (simp only [List.length_drop, List.length_take]; rfl)) ?_
            with_reducible refine (stream_own.calls k1 (fun k_ => (((P0_5_ k_ ∨ w.heap.size ≤ k_) ∧ (k_ ≠ gb540 ∧ k_ ≠ gb541)) ∧ some k_ ≠ (.slice (some ad545) x541005_1.length co16 : Value).ownBlock)) _ _ (rd_L7 x541005_1 x11_1) t546 _ ?side1 A13.out).mono ?_
            (case side1 => exact HL545_0.out)
            rintro e w17 ⟨v547, rfl, ho0, hb⟩
            have HS7_ := (hb.cell (World.block_lt_of_cell? _ _ (hHeld.2.2.2.2.2.2.2))).trans (hHeld.2.2.2.2.2.2.2)
            refine ⟨_, rfl, ?_⟩
            have n0_ := Aside0.mk (Kd.N_elder' (by (with_reducible repeat (first | apply Kd.N_alloc | apply Kd.N_drewN | apply Kd.N_drew)); exact HO_541005.out) (Kd.N_base ho0) hb)
            have n1_ := Aside0.mk (Kd.V_elder' (by (with_reducible repeat (first | apply Kd.V_alloc | apply Kd.V_drewN | apply Kd.V_drew)); exact HL545_0.out) (Kd.N_base ho0) hb)
            have n2_ := Aside0.mk (Kd.N_lower (Kd.N_mono (ok' := fun k_ => (P0_5_ k_ ∨ w.heap.size ≤ k_) ∧ some k_ ≠ (.slice (some ad545) x541005_1.length co16 : Value).ownBlock ∧ k_ ≠ gb540 ∧ k_ ≠ gb541) ho0 (fun k_ hk_ => ⟨Or.elim hk_ (fun hs_ => hs_.1.1) (fun hn_ => (.inr (Nat.le_trans (below_size (by repeat (first | (with_reducible first | exact HB.out | apply below_alloc | apply pw_below_drewN | apply below_drew1 | refine below_set ?_ GE540.out | refine below_set ?_ GE541.out) | exact HB.out))) hn_))), Or.elim hk_ (fun hs_ => hs_.2) (fun hn_ => (Kd.fresh' (Kd.N_lt (by (with_reducible repeat (first | apply Kd.N_alloc | apply Kd.N_drewN | apply Kd.N_drew)); exact HO_541005.out)) k_ hn_)), Or.elim hk_ (fun hs_ => hs_.1.2.1) (fun hn_ => (Kd.freshB (g := gb540) (o := .cells #[.int .u64 a0_0, .int .u64 a0_1, .int .i64 a0_2, .int .i64 a0_3, .int .i64 a0_4, .slice (some ad545) x541005_1.length co16, .int .u64 a0_6] 65 (0, 0)) (by (with_reducible repeat (first | refine blk_drewN ?_ _ | refine blk_drew ?_ | refine blk_alloc ?_ _)); exact BK540.out) k_ hn_)), Or.elim hk_ (fun hs_ => hs_.1.2.2) (fun hn_ => (Kd.freshB (g := gb541) (o := .cells #[.int .u64 0, .int .u64 0, .int .i64 0, .int .i64 0, .int .i64 0, .slice none 0 0, .int .u64 0] 65 (0, 0)) (by (with_reducible repeat (first | refine blk_drewN ?_ _ | refine blk_drew ?_ | refine blk_alloc ?_ _)); exact BK541.out) k_ hn_))⟩)) (below_size (by repeat (first | (with_reducible first | exact HB.out | apply below_alloc | apply pw_below_drewN | apply below_drew1 | refine below_set ?_ GE540.out | refine below_set ?_ GE541.out) | exact HB.out))))
            have n3_ := Aside0.mk (blk_below (g := gb540) (o := .cells #[.int .u64 a0_0, .int .u64 a0_1, .int .i64 a0_2, .int .i64 a0_3, .int .i64 a0_4, .slice (some ad545) x541005_1.length co16, .int .u64 a0_6] 65 (0, 0)) (by (with_reducible repeat (first | refine blk_drewN ?_ _ | refine blk_drew ?_ | refine blk_alloc ?_ _)); exact BK540.out) hb)
            have n4_ := Aside0.mk (blk_below (g := gb541) (o := .cells #[.int .u64 0, .int .u64 0, .int .i64 0, .int .i64 0, .int .i64 0, .slice none 0 0, .int .u64 0] 65 (0, 0)) (by (with_reducible repeat (first | refine blk_drewN ?_ _ | refine blk_drew ?_ | refine blk_alloc ?_ _)); exact BK541.out) hb)
            have n5_ := Aside0.mk (Kd.C_below (by repeat (first | (with_reducible exact HR545_0.out) | (with_reducible refine Kd.C_alloc ?_ _) | (with_reducible refine Kd.C_drewN ?_ _) | (with_reducible refine Kd.C_drew ?_) | exact HR545_0.out)) hb)
            have n6_ := Aside0.mk (below_step (by repeat (first | (with_reducible first | exact HB.out | apply below_alloc | apply pw_below_drewN | apply below_drew1 | refine below_set ?_ GE540.out | refine below_set ?_ GE541.out) | exact HB.out)) hb)
            clear HO_541005
            clear HL545_0
            clear BK540
            clear BK541
            clear HR545_0
            clear HB
            have HO_541005 := n0_
            have HL545_0 := n1_
            have HO548 := n2_
            have BK540 := n3_
            have BK541 := n4_
            have HR545_0 := n5_
            have HB := n6_
            clear n0_ n1_ n2_ n3_ n4_ n5_ n6_
            (try clear hb)
            (try clear hb2)
            (try clear hk)
            (try clear hi)
            (try clear ho0)
            have p14 : 0 ≤ (x11_1 : Int) := of_decide_eq_true (by first | (with_reducible assumption) | assumption)
            have q14 : (x11_1 : Int) < ((x541005_1.length : Int) : Int) := of_decide_eq_true (by first | (with_reducible assumption) | assumption)
            obtain ⟨go14, co14, eo14, gb14, gl14, cl14, HG14⟩ := Kd.N_form HO_541005.out (by omega)
            (first | cases eo14 | (injection eo14 with ea_ en_ ec_; (first | subst ea_ | (injection ea_ with ea_; subst ea_)); subst ec_; clear en_))
            have GB14 := Aside0.mk gb14
            have GG14 := Aside0.mk HG14
            clear gb14 gl14 HG14
            (first | simp only [add_plain] at hx545_0 | skip)
            obtain ⟨ce14, hcl14, hM14, hcc14, hfr14⟩ := Kd.N_elem HO_541005.out [] (x11_1 : Int) p14 q14
            obtain ⟨ua14_0, uc14_0, rfl, ul14_0, ge14_0⟩ := Kd.FK_slice_open hM14
            have hx14_0 := hcc14 0 _ rfl
            have hf14_0 := hfr14 0
            (try simp only [show ((Kd.slice 101 (Kd.slice 112 k112))).sz = 1 from rfl, Nat.mul_one, Nat.add_zero] at hx14_0)
            (try simp only [show ((Kd.slice 101 (Kd.slice 112 k112))).sz = 1 from rfl, Nat.mul_one, Nat.add_zero] at hf14_0)
            clear hcl14 hcc14 hfr14 hM14
            replace p14 := eq_true p14
            replace q14 := eq_true q14
            obtain ⟨Ao18, co18, eo18⟩ := Kd.N_slice HO548.out
            (first | subst eo18 | (injection eo18 with f1_ f2_ f3_; have f4_ := f1_.symm; have f5_ := f3_.symm; clear f1_ f2_ f3_; subst f4_; subst f5_))
            have HX19 := Aside0.mk (show Kd.N (Kd.slice 101 (Kd.slice 112 k112)) 28 _ w.heap.size (fun k_ => (P0_5_ k_ ∨ w.heap.size ≤ k_) ∧ some k_ ≠ (.slice Ao18 t546.length co18 : Value).ownBlock ∧ k_ ≠ gb540 ∧ k_ ≠ gb541) (.slice (some ⟨go14, 0, none⟩) x541005_1.length co16) x541005_1 from (Kd.N_mono (HO_541005.out) (fun k_ hk => ⟨hk.1.1, ⟨hk.2, ⟨hk.1.2.1, hk.1.2.2⟩⟩⟩)))
            replace HX19 := Aside0.mk (show Kd.N (Kd.slice 101 (Kd.slice 112 k112)) 28 _ w.heap.size (fun k_ => (P0_5_ k_ ∨ w.heap.size ≤ k_) ∧ k_ ≠ gb540 ∧ k_ ≠ gb541) (.slice (some ⟨go14, 0, none⟩) x541005_1.length co16) x541005_1 from Kd.N_mono HX19.out (fun k_ hk => ⟨hk.1, ⟨hk.2.2.1, hk.2.2.2⟩⟩))
            obtain ⟨ce19, hcl19, hM19, hcc19, hfr19⟩ := Kd.N_elem HX19.out [] (x11_1 : Int) (of_decide_eq_true (by first | (with_reducible assumption) | assumption)) (by have h_ : (x11_1 : Int) < ((x541005_1.length : Int) : Int) := of_decide_eq_true (by first | (with_reducible assumption) | assumption); first | exact h_ | (have e_ := (Kd.N_reads' HO_541005.out).1; omega) | simpa using h_)
            obtain ⟨ua19_0, uc19_0, rfl, ul19_0, ge19_0⟩ := Kd.FK_slice_open hM19
            have HP19 := (Kd.N_seg HX19.out (x11_1 : Int) (of_decide_eq_true (by first | (with_reducible assumption) | assumption)) (by have h_ : (x11_1 : Int) < ((x541005_1.length : Int) : Int) := of_decide_eq_true (by first | (with_reducible assumption) | assumption); first | exact h_ | (have e_ := (Kd.N_reads' HO_541005.out).1; omega) | simpa using h_) (seg := [.slice Ao18 t546.length co18]) (j := 0) hcl19 hcc19 (show 1 ≤ 1 from by decide) (x' := t546) (Kd.FK_slice_V (Kd.N_V (base' := 0) (Kd.N_mono (ok' := (fun k_ => ((fun k_ => (P0_5_ k_ ∨ w.heap.size ≤ k_) ∧ k_ ≠ gb540 ∧ k_ ≠ gb541)) k_ ∧ k_ ≠ go14)) (HO548.out) (fun k_ hk => ⟨⟨hk.1, ⟨hk.2.2.1, hk.2.2.2⟩⟩, fun e_ => (hk.2.1) (by rw [e_]; rfl)⟩)))) (fun _ hk => hk)).1
            (try simp only [show ((Kd.slice 101 (Kd.slice 112 k112))).sz = 1 from rfl, Nat.mul_one, Nat.add_zero] at HP19)
            rw [← Ny549.out] at HP19
            have HQ19 := Aside0.mk HP19
            clear hcl19 hcc19 hfr19 hM19 HP19
            refine hK.out _ _ ⟨(blk_cell BK540.out 0).trans rfl, (blk_cell BK540.out 1).trans rfl, (blk_cell BK540.out 2).trans rfl, (blk_cell BK540.out 3).trans rfl, (blk_cell BK540.out 4).trans rfl, (blk_cell BK540.out 5).trans rfl, (blk_cell BK540.out 6).trans rfl, HS7_⟩ (fun hHeld => ?_)
            clear hK K
            refine norm_ (a' := ?_) ?_ ?_
            rotate_left
            · show Act.put _ (some 22) _ = _
              simp only [Act.put, List.setIfInBounds_toArray, List.set_cons_zero, List.set_cons_succ, i64_w, i32_w]
              rfl
            refine pure_ (i := 9) (N := some 23) (v := ?_) (a' := ?_) #[true, true, true, true, true, true, true, true, true, true, false] rfl rfl (any_of HT_.out (by kernel_rfl)) (fun _ _ _ h => h) (Or.inl ⟨by rfl, ?_⟩) ?_ ?_
            rotate_left
            · intro w'
              go_simp
              with_reducible rfl
            rotate_left
            · simp only [Act.put, List.setIfInBounds_toArray, List.set_cons_zero, List.set_cons_succ, i64_w, i32_w]
              rfl
            refine last_ (i := 10) (N := none) #[true, true, true, true, true, true, true, true, true, true, true] rfl rfl (one_of HT_.out (by kernel_rfl)) (by decide) (fun K hK => ?_)
            refine skip_ (w1 := ?_) (by rfl) rfl ?_ ?_
            rotate_left
            · go_simp
              rfl
            refine hK.out _ _ ?_
            clear hK K
            refine done_ (done_of HT_.out (by kernel_rfl)) ?_
            try go_wp2
            go_roundg k1
            case measure => have := HK1.out; omega
            case rel => exact ⟨(wrap64 (x11_1 + 1)), (y549), (.slice (some ⟨go14, 0, none⟩) x541005_1.length co16), (by first | rfl | (simp; done) | (simp [*]; done)), H', ⟨by have := HK1.out; omega⟩, ⟨by (with_reducible repeat (first | apply Kd.N_alloc | apply Kd.N_drewN | apply Kd.N_drew)); exact HQ19.out⟩, ⟨by (with_reducible repeat (first | refine blk_drewN ?_ _ | refine blk_drew ?_ | refine blk_alloc ?_ _)); refine blk_far ?_ (by have h_ := Kd.N_away HO_541005.out (fun _ hk => hk.1.2.1); intro e_; exact h_ (by rw [e_]; rfl)) _; (with_reducible repeat (first | refine blk_drewN ?_ _ | refine blk_drew ?_ | refine blk_alloc ?_ _)); exact BK540.out⟩, ⟨by (with_reducible repeat (first | refine blk_drewN ?_ _ | refine blk_drew ?_ | refine blk_alloc ?_ _)); refine blk_far ?_ (by have h_ := Kd.N_away HO_541005.out (fun _ hk => hk.1.2.2); intro e_; exact h_ (by rw [e_]; rfl)) _; (with_reducible repeat (first | refine blk_drewN ?_ _ | refine blk_drew ?_ | refine blk_alloc ?_ _)); exact BK541.out⟩, ⟨by repeat (first | (with_reducible first | exact HB.out | apply below_alloc | apply pw_below_drewN | apply below_drew1 | refine below_set ?_ GB14.out | refine below_set ?_ GE540.out | refine below_set ?_ GE541.out) | exact HB.out)⟩⟩
          · rw [if_neg c12] at H
            exact absurd H (by simp)
        · rw [if_neg c11] at H
          exact absurd H (by simp)
      · rw [if_neg c10] at H
        have c10b0 : decide (x11_1 < (t542.length : Int)) = false := decide_eq_false c10
        clear c10
        simp only [Option.some.injEq, Prod.mk.injEq] at H
        obtain ⟨rfl, rfl, rfl, rfl, rfl, rfl, rfl⟩ := H
        have hnb20 := NB540_541.out
        have hnc20 := NB541_540.out
        have hcz21_0 : wr.cell? ⟨gb540, 0, none⟩ = some (.int .u64 a0_0) := (blk_cell BK540.out 0).trans rfl
        have hcz21_1 : wr.cell? ⟨gb540, 1, none⟩ = some (.int .u64 a0_1) := (blk_cell BK540.out 1).trans rfl
        have hcz21_2 : wr.cell? ⟨gb540, 2, none⟩ = some (.int .i64 a0_2) := (blk_cell BK540.out 2).trans rfl
        have hcz21_3 : wr.cell? ⟨gb540, 3, none⟩ = some (.int .i64 a0_3) := (blk_cell BK540.out 3).trans rfl
        have hcz21_4 : wr.cell? ⟨gb540, 4, none⟩ = some (.int .i64 a0_4) := (blk_cell BK540.out 4).trans rfl
        have hcz21_5 : wr.cell? ⟨gb540, 5, none⟩ = some (u541005) := (blk_cell BK540.out 5).trans rfl
        have hcz21_6 : wr.cell? ⟨gb540, 6, none⟩ = some (.int .u64 a0_6) := (blk_cell BK540.out 6).trans rfl
        have hfz21_0 := blk_frozen BK540.out 0
        have hfz21_1 := blk_frozen BK540.out 1
        have hfz21_2 := blk_frozen BK540.out 2
        have hfz21_3 := blk_frozen BK540.out 3
        have hfz21_4 := blk_frozen BK540.out 4
        have hfz21_5 := blk_frozen BK540.out 5
        have hfz21_6 := blk_frozen BK540.out 6
        have hcz22_0 : wr.cell? ⟨gb541, 0, none⟩ = some (.int .u64 0) := (blk_cell BK541.out 0).trans rfl
        have hcz22_1 : wr.cell? ⟨gb541, 1, none⟩ = some (.int .u64 0) := (blk_cell BK541.out 1).trans rfl
        have hcz22_2 : wr.cell? ⟨gb541, 2, none⟩ = some (.int .i64 0) := (blk_cell BK541.out 2).trans rfl
        have hcz22_3 : wr.cell? ⟨gb541, 3, none⟩ = some (.int .i64 0) := (blk_cell BK541.out 3).trans rfl
        have hcz22_4 : wr.cell? ⟨gb541, 4, none⟩ = some (.int .i64 0) := (blk_cell BK541.out 4).trans rfl
        have hcz22_5 : wr.cell? ⟨gb541, 5, none⟩ = some (.slice none 0 0) := (blk_cell BK541.out 5).trans rfl
        have hcz22_6 : wr.cell? ⟨gb541, 6, none⟩ = some (.int .u64 0) := (blk_cell BK541.out 6).trans rfl
        have hfz22_0 := blk_frozen BK541.out 0
        have hfz22_1 := blk_frozen BK541.out 1
        have hfz22_2 := blk_frozen BK541.out 2
        have hfz22_3 := blk_frozen BK541.out 3
        have hfz22_4 := blk_frozen BK541.out 4
        have hfz22_5 := blk_frozen BK541.out 5
        have hfz22_6 := blk_frozen BK541.out 6
        obtain ⟨Ao23, co23, eo23⟩ := Kd.N_slice HO_541005.out
        subst eo23
        go_wp2
        refine bodyPost_ret (results_cell_row rfl _ _ gb541 65 #[.int .u64 a0_0, .int .u64 a0_1, .int .i64 a0_2, .int .i64 a0_3, .int .i64 a0_4, .slice Ao23 x541005_1.length co23, .int .u64 a0_6] (0, 0) _ rfl (by (with_reducible repeat (first | refine blk_drewN ?_ _ | refine blk_drew ?_ | refine blk_alloc ?_ _)); refine blk_put (cs := #[.int .u64 a0_0, .int .u64 a0_1, .int .i64 a0_2, .int .i64 a0_3, .int .i64 a0_4, .slice Ao23 x541005_1.length co23, .int .u64 0]) ?_ 6 _ rfl; (with_reducible repeat (first | refine blk_drewN ?_ _ | refine blk_drew ?_ | refine blk_alloc ?_ _)); refine blk_put (cs := #[.int .u64 a0_0, .int .u64 a0_1, .int .i64 a0_2, .int .i64 a0_3, .int .i64 a0_4, .slice none 0 0, .int .u64 0]) ?_ 5 _ rfl; (with_reducible repeat (first | refine blk_drewN ?_ _ | refine blk_drew ?_ | refine blk_alloc ?_ _)); refine blk_put (cs := #[.int .u64 a0_0, .int .u64 a0_1, .int .i64 a0_2, .int .i64 a0_3, .int .i64 0, .slice none 0 0, .int .u64 0]) ?_ 4 _ rfl; (with_reducible repeat (first | refine blk_drewN ?_ _ | refine blk_drew ?_ | refine blk_alloc ?_ _)); refine blk_put (cs := #[.int .u64 a0_0, .int .u64 a0_1, .int .i64 a0_2, .int .i64 0, .int .i64 0, .slice none 0 0, .int .u64 0]) ?_ 3 _ rfl; (with_reducible repeat (first | refine blk_drewN ?_ _ | refine blk_drew ?_ | refine blk_alloc ?_ _)); refine blk_put (cs := #[.int .u64 a0_0, .int .u64 a0_1, .int .i64 0, .int .i64 0, .int .i64 0, .slice none 0 0, .int .u64 0]) ?_ 2 _ rfl; (with_reducible repeat (first | refine blk_drewN ?_ _ | refine blk_drew ?_ | refine blk_alloc ?_ _)); refine blk_put (cs := #[.int .u64 a0_0, .int .u64 0, .int .i64 0, .int .i64 0, .int .i64 0, .slice none 0 0, .int .u64 0]) ?_ 1 _ rfl; (with_reducible repeat (first | refine blk_drewN ?_ _ | refine blk_drew ?_ | refine blk_alloc ?_ _)); refine blk_put (cs := #[.int .u64 0, .int .u64 0, .int .i64 0, .int .i64 0, .int .i64 0, .slice none 0 0, .int .u64 0]) ?_ 0 _ rfl; (with_reducible repeat (first | refine blk_drewN ?_ _ | refine blk_drew ?_ | refine blk_alloc ?_ _)); exact BK541.out) Try.underlying65 rfl (by kernel_rfl)) rfl ?_
        exact ⟨_, by first | rfl | (simp [errW_none, errW_some] <;> rfl) | (simp [*, errW_none, errW_some] <;> rfl), by (with_reducible repeat (first | apply Kd.N_alloc | apply Kd.N_drewN | apply Kd.N_drew)); exact Kd.N_mono (Kd.N_far (p := ⟨gb541, 6, none⟩) (Kd.N_far (p := ⟨gb541, 5, none⟩) (Kd.N_far (p := ⟨gb541, 4, none⟩) (Kd.N_far (p := ⟨gb541, 3, none⟩) (Kd.N_far (p := ⟨gb541, 2, none⟩) (Kd.N_far (p := ⟨gb541, 1, none⟩) (Kd.N_far (p := ⟨gb541, 0, none⟩) (Kd.N_mono HO_541005.out (fun k_ hk => (⟨hk, hk.2.2⟩ : _ ∧ k_ ≠ gb541))) (fun _ hk => hk.2) (.int .u64 a0_0)) (fun _ hk => hk.2) (.int .u64 a0_1)) (fun _ hk => hk.2) (.int .i64 a0_2)) (fun _ hk => hk.2) (.int .i64 a0_3)) (fun _ hk => hk.2) (.int .i64 a0_4)) (fun _ hk => hk.2) (.slice Ao23 x541005_1.length co23)) (fun _ hk => hk.2) (.int .u64 a0_6)) (fun _ hk => hk.1.1), by repeat (first | (with_reducible first | exact HB.out | apply below_alloc | apply pw_below_drewN | apply below_drew1 | refine below_set ?_ GE540.out | refine below_set ?_ GE541.out) | exact HB.out)⟩
end Go.Proofs.Ytkbemagcoojmmaa.Lx
