/- Printed by the kit's printer (gp.sh with conf01b.py), then turned by asm01.py: potsherdref13_CopyOut, potsherdref13_Acked. Condition: utf8's tables are laid, where a function reads them. -/
import Derived.Test.YtkbemagcoojmmaaLp1Qs
namespace Go.Proofs.Ytkbemagcoojmmaa.Lx
open Go.RowKit Go.Proofs.Ytkbemagcoojmmaa.G Go.Proofs.YtkbemagcoojmmaaW.PrintWords Go.Proofs.YtkbemagcoojmmaaW.PrintLast Go.Proofs.YtkbemagcoojmmaaW.PrintMore
attribute [local go_sem] max2_int min2_int max_two min_two max_three min_three max_four min_four str_leq str_gtr str_geq
attribute [local go_sem high] eqA26
set_option linter.unusedVariables false
set_option linter.unusedSimpArgs false
def potsherdref13_CopyOut.l0 : Nat → List (List (List (S112))) → List (List (List (S112))) → Int → Int → Int → Int → Int → Int → Int → List (List (List (S112))) → Int → Option (Int × Int × Int × Int × Int × (List (List (List (S112)))) × Int)
  | 0, _, _, _, _, _, _, _, _, _, _, _ => none
  | k + 1, x3, x7, x8, x9, x479000, x479001, x479002, x479003, x479004, x479005, x479006 => if x9 < x8 then (if 0 ≤ x9 then (if x9 < (x7.length : Int) then ((potsherdref01_CopyRows.f k (rd_L7 x7 x9)).bind fun t481 => (if x3.length < 5864062014805 then (potsherdref13_CopyOut.l0 k (x3 ++ [t481]) x7 x8 (wrap64 (x9 + 1)) x479000 x479001 x479002 x479003 x479004 x479005 x479006) else (none))) else (none)) else (none)) else (some (x479000, x479001, x479002, x479003, x479004, x3, x479006))
def potsherdref13_CopyOut.f (k : Nat) (a0_0 : Int) (a0_1 : Int) (a0_2 : Int) (a0_3 : Int) (a0_4 : Int) (l0_5 : List (List (List (S112)))) (a0_6 : Int) : Option (Int × Int × Int × Int × Int × (List (List (List (S112)))) × Int) := potsherdref13_CopyOut.l0 k ([] : List (List (List (S112)))) l0_5 (l0_5.length : Int) 0 a0_0 a0_1 a0_2 a0_3 a0_4 l0_5 a0_6
set_option maxHeartbeats 8000000 in
set_option maxRecDepth 100000 in
theorem potsherdref13_CopyOut.calls (k : Nat) (a0_0 : Int) (a0_1 : Int) (a0_2 : Int) (a0_3 : Int) (a0_4 : Int) (A0_5 : Option Addr) (c0_5 : Nat) (l0_5 : List (List (List (S112)))) (a0_6 : Int) (r1 : Int) (r2 : Int) (r3 : Int) (r4 : Int) (r5 : Int) (r6 : List (List (List (S112)))) (r7 : Int) (w : World) (hr0_5 : Kd.C (Kd.slice 101 (Kd.slice 112 k112)) w A0_5 l0_5.length l0_5) (hc0_5 : l0_5.length ≤ c0_5) (h : potsherdref13_CopyOut.f k a0_0 a0_1 a0_2 a0_3 a0_4 l0_5 a0_6 = some (r1, r2, r3, r4, r5, r6, r7)) :
    Calls Try.prog 22 #[.agg #[.int .u64 a0_0, .int .u64 a0_1, .int .i64 a0_2, .int .i64 a0_3, .int .i64 a0_4, .slice A0_5 l0_5.length c0_5, .int .u64 a0_6]] w fun e w' => ∃ v5_ : Value, e = .returned (.agg #[.int .u64 r1, .int .u64 r2, .int .i64 r3, .int .i64 r4, .int .i64 r5, v5_, .int .u64 r7]) ∧ Kd.R (Kd.slice 101 (Kd.slice 112 k112)) 28 w' w.heap.size (fun _ => True) v5_ r6 ∧ Below w.heap.size w w' := by
  have hu65 := Try.underlying65
  have HR0_5 := Aside0.mk hr0_5
  have HC0_5 := Aside0.mk hc0_5
  clear hr0_5 hc0_5
  have HB := Aside0.mk (Below.refl w.heap.size w)
  have H : (potsherdref13_CopyOut.l0 k ([] : List (List (List (S112)))) l0_5 (l0_5.length : Int) 0 a0_0 a0_1 a0_2 a0_3 a0_4 l0_5 a0_6) = some (r1, r2, r3, r4, r5, r6, r7) := h
  clear h
  have H' := Aside0.mk H
  clear H
  go_enter Try.func22, Try.ntmps22
  go_wp2_with (first | ((with_reducible refine gate_dst (N := 1) rfl ?_); refine box_event ?hg (N := 1) ?hd (cs := #[.int .u64 a0_0, .int .u64 a0_1, .int .i64 a0_2, .int .i64 a0_3, .int .i64 a0_4, .slice A0_5 l0_5.length c0_5, .int .u64 a0_6]) (t := 65) ?hr ?_; (case hd => rfl); (case hg => rfl); (case hr => first | (go_simp; done) | (go_simp; rfl)); intro gb478 hg w2 hbox hb; have n0_ := Aside0.mk (below_step (by repeat (first | (with_reducible first | exact HB.out | apply below_alloc | apply pw_below_drewN | apply below_drew1) | exact HB.out)) hb); have n1_ := Aside0.mk (hbox); have n2_ := Aside0.mk ((by rw [hg]; exact (below_size (by repeat (first | (with_reducible first | exact HB.out | apply below_alloc | apply pw_below_drewN | apply below_drew1) | exact HB.out))) : w.heap.size ≤ gb478)); have n3_ := Aside0.mk ((by rw [hg]; exact (below_size (by repeat (first | (with_reducible first | exact HB.out | apply below_alloc | apply pw_below_drewN | apply below_drew1) | exact HB.out))) : w.heap.size ≤ gb478)); clear HB; have HB := n0_; have BK478 := n1_; have GW478 := n2_; have GE478 := n3_; clear n0_ n1_ n2_ n3_; clear hb hbox hg) | ((with_reducible refine gate_dst (N := 2) rfl ?_); refine box_event ?hg (N := 2) ?hd (cs := #[.int .u64 0, .int .u64 0, .int .i64 0, .int .i64 0, .int .i64 0, .slice none 0 0, .int .u64 0]) (t := 65) ?hr ?_; (case hd => rfl); (case hg => rfl); (case hr => first | (go_simp; done) | (go_simp; rfl)); intro gb479 hg w3 hbox hb; have n0_ := Aside0.mk (blk_below (g := gb478) (o := .cells #[.int .u64 a0_0, .int .u64 a0_1, .int .i64 a0_2, .int .i64 a0_3, .int .i64 a0_4, .slice A0_5 l0_5.length c0_5, .int .u64 a0_6] 65 (0, 0)) (by (with_reducible repeat (first | refine blk_drewN ?_ _ | refine blk_drew ?_ | refine blk_alloc ?_ _)); exact BK478.out) hb); have n1_ := Aside0.mk (below_step (by repeat (first | (with_reducible first | exact HB.out | apply below_alloc | apply pw_below_drewN | apply below_drew1 | refine below_set ?_ GE478.out) | exact HB.out)) hb); have n2_ := Aside0.mk (hbox); have n3_ := Aside0.mk ((by rw [hg]; exact (below_size (by repeat (first | (with_reducible first | exact HB.out | apply below_alloc | apply pw_below_drewN | apply below_drew1 | refine below_set ?_ GE478.out) | exact HB.out))) : w.heap.size ≤ gb479)); have n4_ := Aside0.mk ((by rw [hg]; exact (below_size (by repeat (first | (with_reducible first | exact HB.out | apply below_alloc | apply pw_below_drewN | apply below_drew1 | refine below_set ?_ GE478.out) | exact HB.out))) : w.heap.size ≤ gb479)); have n5_ := Aside0.mk ((by rw [hg]; exact Nat.ne_of_lt (blk_lt (g := gb478) (o := .cells #[.int .u64 a0_0, .int .u64 a0_1, .int .i64 a0_2, .int .i64 a0_3, .int .i64 a0_4, .slice A0_5 l0_5.length c0_5, .int .u64 a0_6] 65 (0, 0)) (by (with_reducible repeat (first | refine blk_drewN ?_ _ | refine blk_drew ?_ | refine blk_alloc ?_ _)); exact BK478.out)) : gb478 ≠ gb479)); have n6_ := Aside0.mk ((by rw [hg]; exact Nat.ne_of_gt (blk_lt (g := gb478) (o := .cells #[.int .u64 a0_0, .int .u64 a0_1, .int .i64 a0_2, .int .i64 a0_3, .int .i64 a0_4, .slice A0_5 l0_5.length c0_5, .int .u64 a0_6] 65 (0, 0)) (by (with_reducible repeat (first | refine blk_drewN ?_ _ | refine blk_drew ?_ | refine blk_alloc ?_ _)); exact BK478.out)) : gb479 ≠ gb478)); clear BK478; clear HB; have BK478 := n0_; have HB := n1_; have BK479 := n2_; have GW479 := n3_; have GE479 := n4_; have NB478_479 := n5_; have NB479_478 := n6_; clear n0_ n1_ n2_ n3_ n4_ n5_ n6_; clear hb hbox hg; have hnb4 := NB478_479.out; have hnc4 := NB479_478.out; have hcz5_0 : w3.cell? ⟨gb478, 0, none⟩ = some (.int .u64 a0_0) := (blk_cell BK478.out 0).trans rfl; have hcz5_1 : w3.cell? ⟨gb478, 1, none⟩ = some (.int .u64 a0_1) := (blk_cell BK478.out 1).trans rfl; have hcz5_2 : w3.cell? ⟨gb478, 2, none⟩ = some (.int .i64 a0_2) := (blk_cell BK478.out 2).trans rfl; have hcz5_3 : w3.cell? ⟨gb478, 3, none⟩ = some (.int .i64 a0_3) := (blk_cell BK478.out 3).trans rfl; have hcz5_4 : w3.cell? ⟨gb478, 4, none⟩ = some (.int .i64 a0_4) := (blk_cell BK478.out 4).trans rfl; have hcz5_5 : w3.cell? ⟨gb478, 5, none⟩ = some (.slice A0_5 l0_5.length c0_5) := (blk_cell BK478.out 5).trans rfl; have hcz5_6 : w3.cell? ⟨gb478, 6, none⟩ = some (.int .u64 a0_6) := (blk_cell BK478.out 6).trans rfl; have hfz5_0 := blk_frozen BK478.out 0; have hfz5_1 := blk_frozen BK478.out 1; have hfz5_2 := blk_frozen BK478.out 2; have hfz5_3 := blk_frozen BK478.out 3; have hfz5_4 := blk_frozen BK478.out 4; have hfz5_5 := blk_frozen BK478.out 5; have hfz5_6 := blk_frozen BK478.out 6))
  go_loopg [3, 9] k (fun kq v3 v9 w' => ∃ (x3_1 : List (List (List (S112)))) (x9_1 : Int), v9 = .int .i64 x9_1 ∧ Aside0 (potsherdref13_CopyOut.l0 kq x3_1 l0_5 (l0_5.length : Int) x9_1 a0_0 a0_1 a0_2 a0_3 a0_4 l0_5 a0_6 = some (r1, r2, r3, r4, r5, r6, r7)) ∧ Aside0 (kq ≤ k) ∧ Aside0 (Kd.R (Kd.slice 101 (Kd.slice 112 k112)) 28 w' w.heap.size (fun _ => True) v3 x3_1) ∧ Aside0 (w'.heap[gb478]? = some (.cells #[.int .u64 a0_0, .int .u64 a0_1, .int .i64 a0_2, .int .i64 a0_3, .int .i64 a0_4, (.slice A0_5 l0_5.length c0_5), .int .u64 a0_6] 65 (0, 0))) ∧ Aside0 (w'.heap[gb479]? = some (.cells #[.int .u64 0, .int .u64 0, .int .i64 0, .int .i64 0, .int .i64 0, (.slice none 0 0), .int .u64 0] 65 (0, 0))) ∧ Aside0 (Below w.heap.size w w'))
  case atStart => exact ⟨(([] : List (List (List (S112))))), (0), (by first | rfl | (simp; done) | (simp [*]; done)), H', ⟨Nat.le_refl _⟩, ⟨by first | exact Kd.R_nil _ _ _ _ _ | exact Kd.N_nil _ _ _ _ _ | exact Kd.V_nil _ _ _ _ _ | exact Kd.Q_nil _ _ _ _ _ | exact Kd.S_nil _ _ _ _ _⟩, ⟨by (with_reducible repeat (first | refine blk_drewN ?_ _ | refine blk_drew ?_ | refine blk_alloc ?_ _)); exact BK478.out⟩, ⟨by (with_reducible repeat (first | refine blk_drewN ?_ _ | refine blk_drew ?_ | refine blk_alloc ?_ _)); exact BK479.out⟩, ⟨by repeat (first | (with_reducible first | exact HB.out | apply below_alloc | apply pw_below_drewN | apply below_drew1 | refine below_set ?_ GE478.out | refine below_set ?_ GE479.out) | exact HB.out)⟩⟩
  case round =>
    clear H'
    try clear c2
    try clear p2
    try clear c4
    try clear hcz5_0
    try clear hcz5_1
    try clear hcz5_2
    try clear hcz5_3
    try clear hcz5_4
    try clear hcz5_5
    try clear hcz5_6
    try clear hfz5_0
    try clear hfz5_1
    try clear hfz5_2
    try clear hfz5_3
    try clear hfz5_4
    try clear hfz5_5
    try clear hfz5_6
    obtain ⟨x3_1, x9_1, rfl, HA, HK1, HO_3, BK478, BK479, HB⟩ := hrel
    cases gk with
    | zero => exact absurd HA.out (by simp [potsherdref13_CopyOut.l0])
    | succ k1 =>
      have H := HA.out
      clear HA
      simp only [potsherdref13_CopyOut.l0] at H
      by_cases c6 : x9_1 < (l0_5.length : Int)
      · rw [if_pos c6] at H
        have c6b0 : decide (x9_1 < (l0_5.length : Int)) = true := decide_eq_true c6
        clear c6
        by_cases c7 : 0 ≤ x9_1
        · rw [if_pos c7] at H
          have c7b0 : decide (0 ≤ x9_1) = true := decide_eq_true c7
          clear c7
          by_cases c8 : x9_1 < (l0_5.length : Int)
          · rw [if_pos c8] at H
            have c8b0 : decide (x9_1 < (l0_5.length : Int)) = true := decide_eq_true c8
            clear c8
            replace H := Option.bind_eq_some_iff.mp H
            obtain ⟨t481, A90, H⟩ := H
            replace H : (if x3_1.length < 5864062014805 then (potsherdref13_CopyOut.l0 k1 (x3_1 ++ [t481]) l0_5 (l0_5.length : Int) (wrap64 (x9_1 + 1)) a0_0 a0_1 a0_2 a0_3 a0_4 l0_5 a0_6) else (none)) = some (r1, r2, r3, r4, r5, r6, r7) := H
            have A9 := Aside0.mk A90
            clear A90
            by_cases c10 : x3_1.length < 5864062014805
            · rw [if_pos c10] at H
              have LMc10 := Aside0.mk c10
              clear c10
              obtain ⟨y484, hy484⟩ : ∃ y_ : List (List (List (S112))), y_ = (x3_1 ++ [t481]) := ⟨_, rfl⟩
              replace H : (potsherdref13_CopyOut.l0 k1 y484 l0_5 (l0_5.length : Int) (wrap64 (x9_1 + 1)) a0_0 a0_1 a0_2 a0_3 a0_4 l0_5 a0_6) = some (r1, r2, r3, r4, r5, r6, r7) := by first | (rw [hy484]; with_reducible exact H) | (have H2_ := (Option.bind_some _ _).symm.trans H; rw [hy484]; with_reducible exact H2_) | (have H2_ := (Option.bind_some _ _).symm.trans H; with_reducible exact H2_) | with_reducible exact H | (rw [hy484]; exact H) | exact H
              have Ny484 := Aside0.mk hy484
              clear hy484
              have H' := Aside0.mk H
              clear H
              have p480 : 0 ≤ (x9_1 : Int) := of_decide_eq_true (by first | (with_reducible assumption) | assumption)
              have q480 : x9_1 < (l0_5.length : Int) := of_decide_eq_true (by first | (with_reducible assumption) | assumption)
              obtain ⟨ad480, A480_0, c480_0, e480, hx480_0, hl480_0, hi480_0⟩ := at_L7 HR0_5.out x9_1 p480 q480
              cases e480
              replace hx480_0 := (HB.out.cell (World.block_lt_of_cell? w _ hx480_0)).trans hx480_0
              have HR480_0 := Aside0.mk hi480_0
              have HC480_0 := Aside0.mk hl480_0
              clear hi480_0 hl480_0
              replace p480 := eq_true p480
              replace q480 := eq_true q480
              go_wp2_with (first | ((with_reducible refine gate_callee (f := 30) rfl ?_); refine goesL_ (some 15) rfl rfl Try.func30 (by kernel_rfl) rfl #[.slice A480_0 (rd_L7 l0_5 x9_1).length c480_0] rfl (by (try simp only [List.map_toArray, List.map_cons, List.map_nil]); first | done | rfl | (simp only [List.length_drop, List.length_take]; rfl)) ?_; (with_reducible refine (potsherdref01_CopyRows.calls k1 _ _ (rd_L7 l0_5 x9_1) t481 _ ?side1 ?side2 A9.out).mono ?_); (case side1 => repeat (first | exact (Kd.C_below HR480_0.out HB.out) | (with_reducible refine Kd.C_alloc ?_ _) | (with_reducible refine Kd.C_drewN ?_ _) | (with_reducible refine Kd.C_drew ?_))); (case side2 => exact HC480_0.out); rintro e w11 ⟨v482, rfl, ho0, hb⟩; refine ⟨_, rfl, ?_⟩; have n0_ := Aside0.mk (Kd.R_elder' (by (with_reducible repeat (first | apply Kd.R_alloc | apply Kd.R_drewN | apply Kd.R_drew)); exact HO_3.out) (Kd.S_base ho0) hb); have n1_ := Aside0.mk (Kd.S_lower ho0 (below_size (by repeat (first | (with_reducible first | exact HB.out | apply below_alloc | apply pw_below_drewN | apply below_drew1 | refine below_set ?_ GE478.out | refine below_set ?_ GE479.out) | exact HB.out)))); have n2_ := Aside0.mk (blk_below (g := gb478) (o := .cells #[.int .u64 a0_0, .int .u64 a0_1, .int .i64 a0_2, .int .i64 a0_3, .int .i64 a0_4, .slice (some ad480) l0_5.length c0_5, .int .u64 a0_6] 65 (0, 0)) (by (with_reducible repeat (first | refine blk_drewN ?_ _ | refine blk_drew ?_ | refine blk_alloc ?_ _)); exact BK478.out) hb); have n3_ := Aside0.mk (blk_below (g := gb479) (o := .cells #[.int .u64 0, .int .u64 0, .int .i64 0, .int .i64 0, .int .i64 0, .slice none 0 0, .int .u64 0] 65 (0, 0)) (by (with_reducible repeat (first | refine blk_drewN ?_ _ | refine blk_drew ?_ | refine blk_alloc ?_ _)); exact BK479.out) hb); have n4_ := Aside0.mk (below_step (by repeat (first | (with_reducible first | exact HB.out | apply below_alloc | apply pw_below_drewN | apply below_drew1 | refine below_set ?_ GE478.out | refine below_set ?_ GE479.out) | exact HB.out)) hb); clear HO_3; clear BK478; clear BK479; clear HB; have HO_3 := n0_; have HO483 := n1_; have BK478 := n2_; have BK479 := n3_; have HB := n4_; clear n0_ n1_ n2_ n3_ n4_; (try clear hb); (try clear hb2); (try clear hk); (try clear hi); (try clear ho0); obtain ⟨Ao13, co13, eo13⟩ := Kd.S_slice HO483.out; subst eo13) | ((with_reducible refine gate_builtin (b := .append) (xs := #[.tmp 13, .tmp 16]) rfl ?_); at_builtin; refine Kd.R_append (Kd.slice 101 (Kd.slice 112 k112)) (w0 := w) w.heap.size rfl (.tmp 13) (.tmp 16) 63 28 (.slice none 0 0) 24 rfl Try.underlying63 info28 rfl (by decide) (by omega) u3 x3_1 t481 [.slice Ao13 t481.length co13] (fun _ => True) (fun k_ => ((fun _ => True)) k_ ∧ some k_ ≠ (u3 : Value).ownBlock) rfl rfl ?aP (fun _ hk => hk) ?aF ?aO ?aB ?aS ?aL ?_; (case aP => exact Kd.M_row (Kd.R_mono (Kd.R_apart' ((Kd.S_R HO483.out)) (Kd.R_typed HO_3.out) (by decide)) (fun k_ hk => ⟨trivial, hk.2⟩))); (case aB => exact (by repeat (first | (with_reducible first | exact HB.out | apply below_alloc | apply pw_below_drewN | apply below_drew1 | refine below_set ?_ GE478.out | refine below_set ?_ GE479.out) | exact HB.out))); (case aF => exact (fun _ _ => trivial)); (case aO => exact (by (with_reducible repeat (first | apply Kd.R_alloc | apply Kd.R_drewN | apply Kd.R_drew)); exact Kd.R_mono HO_3.out (fun _ hk => trivial))); (case aS => exact (below_size (by repeat (first | (with_reducible first | exact HB.out | apply below_alloc | apply pw_below_drewN | apply below_drew1 | refine below_set ?_ GE478.out | refine below_set ?_ GE479.out) | exact HB.out)))); (case aL => have := LMc10.out; omega); intro v485 w12 ho hb hg hat; rw [← Ny484.out] at ho; have n0_ := Aside0.mk (blk_grown (g := gb478) (o := .cells #[.int .u64 a0_0, .int .u64 a0_1, .int .i64 a0_2, .int .i64 a0_3, .int .i64 a0_4, .slice (some ad480) l0_5.length c0_5, .int .u64 a0_6] 65 (0, 0)) (by (with_reducible repeat (first | refine blk_drewN ?_ _ | refine blk_drew ?_ | refine blk_alloc ?_ _)); exact BK478.out) hg (Kd.R_ne HO_3.out BK478.out (by decide))); have n1_ := Aside0.mk (blk_grown (g := gb479) (o := .cells #[.int .u64 0, .int .u64 0, .int .i64 0, .int .i64 0, .int .i64 0, .slice none 0 0, .int .u64 0] 65 (0, 0)) (by (with_reducible repeat (first | refine blk_drewN ?_ _ | refine blk_drew ?_ | refine blk_alloc ?_ _)); exact BK479.out) hg (Kd.R_ne HO_3.out BK479.out (by decide))); have n2_ := Aside0.mk (hb); have n3_ := Aside0.mk (ho); clear BK478; clear BK479; clear HB; clear HO_3; clear HO483; have BK478 := n0_; have BK479 := n1_; have HB := n2_; have HO486 := n3_; clear n0_ n1_ n2_ n3_; clear ho hb hg hat))
              go_roundg k1
              case measure => have := HK1.out; omega
              case rel => exact ⟨(y484), (wrap64 (x9_1 + 1)), (by first | rfl | (simp; done) | (simp [*]; done)), H', ⟨by have := HK1.out; omega⟩, ⟨by (with_reducible repeat (first | apply Kd.R_alloc | apply Kd.R_drewN | apply Kd.R_drew)); exact HO486.out⟩, ⟨by (with_reducible repeat (first | refine blk_drewN ?_ _ | refine blk_drew ?_ | refine blk_alloc ?_ _)); exact BK478.out⟩, ⟨by (with_reducible repeat (first | refine blk_drewN ?_ _ | refine blk_drew ?_ | refine blk_alloc ?_ _)); exact BK479.out⟩, ⟨by repeat (first | (with_reducible first | exact HB.out | apply below_alloc | apply pw_below_drewN | apply below_drew1 | refine below_set ?_ GE478.out | refine below_set ?_ GE479.out) | exact HB.out)⟩⟩
            · rw [if_neg c10] at H
              exact absurd H (by simp)
          · rw [if_neg c8] at H
            exact absurd H (by simp)
        · rw [if_neg c7] at H
          exact absurd H (by simp)
      · rw [if_neg c6] at H
        have c6b0 : decide (x9_1 < (l0_5.length : Int)) = false := decide_eq_false c6
        clear c6
        simp only [Option.some.injEq, Prod.mk.injEq] at H
        obtain ⟨rfl, rfl, rfl, rfl, rfl, rfl, rfl⟩ := H
        obtain ⟨Ao14, co14, eo14⟩ := Kd.R_slice HO_3.out
        subst eo14
        have hnb15 := NB478_479.out
        have hnc15 := NB479_478.out
        have hcz16_0 : wr.cell? ⟨gb478, 0, none⟩ = some (.int .u64 a0_0) := (blk_cell BK478.out 0).trans rfl
        have hcz16_1 : wr.cell? ⟨gb478, 1, none⟩ = some (.int .u64 a0_1) := (blk_cell BK478.out 1).trans rfl
        have hcz16_2 : wr.cell? ⟨gb478, 2, none⟩ = some (.int .i64 a0_2) := (blk_cell BK478.out 2).trans rfl
        have hcz16_3 : wr.cell? ⟨gb478, 3, none⟩ = some (.int .i64 a0_3) := (blk_cell BK478.out 3).trans rfl
        have hcz16_4 : wr.cell? ⟨gb478, 4, none⟩ = some (.int .i64 a0_4) := (blk_cell BK478.out 4).trans rfl
        have hcz16_5 : wr.cell? ⟨gb478, 5, none⟩ = some (.slice A0_5 l0_5.length c0_5) := (blk_cell BK478.out 5).trans rfl
        have hcz16_6 : wr.cell? ⟨gb478, 6, none⟩ = some (.int .u64 a0_6) := (blk_cell BK478.out 6).trans rfl
        have hfz16_0 := blk_frozen BK478.out 0
        have hfz16_1 := blk_frozen BK478.out 1
        have hfz16_2 := blk_frozen BK478.out 2
        have hfz16_3 := blk_frozen BK478.out 3
        have hfz16_4 := blk_frozen BK478.out 4
        have hfz16_5 := blk_frozen BK478.out 5
        have hfz16_6 := blk_frozen BK478.out 6
        have hcz17_0 : wr.cell? ⟨gb479, 0, none⟩ = some (.int .u64 0) := (blk_cell BK479.out 0).trans rfl
        have hcz17_1 : wr.cell? ⟨gb479, 1, none⟩ = some (.int .u64 0) := (blk_cell BK479.out 1).trans rfl
        have hcz17_2 : wr.cell? ⟨gb479, 2, none⟩ = some (.int .i64 0) := (blk_cell BK479.out 2).trans rfl
        have hcz17_3 : wr.cell? ⟨gb479, 3, none⟩ = some (.int .i64 0) := (blk_cell BK479.out 3).trans rfl
        have hcz17_4 : wr.cell? ⟨gb479, 4, none⟩ = some (.int .i64 0) := (blk_cell BK479.out 4).trans rfl
        have hcz17_5 : wr.cell? ⟨gb479, 5, none⟩ = some (.slice none 0 0) := (blk_cell BK479.out 5).trans rfl
        have hcz17_6 : wr.cell? ⟨gb479, 6, none⟩ = some (.int .u64 0) := (blk_cell BK479.out 6).trans rfl
        have hfz17_0 := blk_frozen BK479.out 0
        have hfz17_1 := blk_frozen BK479.out 1
        have hfz17_2 := blk_frozen BK479.out 2
        have hfz17_3 := blk_frozen BK479.out 3
        have hfz17_4 := blk_frozen BK479.out 4
        have hfz17_5 := blk_frozen BK479.out 5
        have hfz17_6 := blk_frozen BK479.out 6
        go_wp2
        refine bodyPost_ret (results_cell_row rfl _ _ gb479 65 #[.int .u64 a0_0, .int .u64 a0_1, .int .i64 a0_2, .int .i64 a0_3, .int .i64 a0_4, .slice Ao14 x3_1.length co14, .int .u64 a0_6] (0, 0) _ rfl (by (with_reducible repeat (first | refine blk_drewN ?_ _ | refine blk_drew ?_ | refine blk_alloc ?_ _)); refine blk_put (cs := #[.int .u64 a0_0, .int .u64 a0_1, .int .i64 a0_2, .int .i64 a0_3, .int .i64 a0_4, .slice Ao14 x3_1.length co14, .int .u64 0]) ?_ 6 _ rfl; (with_reducible repeat (first | refine blk_drewN ?_ _ | refine blk_drew ?_ | refine blk_alloc ?_ _)); refine blk_put (cs := #[.int .u64 a0_0, .int .u64 a0_1, .int .i64 a0_2, .int .i64 a0_3, .int .i64 a0_4, .slice none 0 0, .int .u64 0]) ?_ 5 _ rfl; (with_reducible repeat (first | refine blk_drewN ?_ _ | refine blk_drew ?_ | refine blk_alloc ?_ _)); refine blk_put (cs := #[.int .u64 a0_0, .int .u64 a0_1, .int .i64 a0_2, .int .i64 a0_3, .int .i64 0, .slice none 0 0, .int .u64 0]) ?_ 4 _ rfl; (with_reducible repeat (first | refine blk_drewN ?_ _ | refine blk_drew ?_ | refine blk_alloc ?_ _)); refine blk_put (cs := #[.int .u64 a0_0, .int .u64 a0_1, .int .i64 a0_2, .int .i64 0, .int .i64 0, .slice none 0 0, .int .u64 0]) ?_ 3 _ rfl; (with_reducible repeat (first | refine blk_drewN ?_ _ | refine blk_drew ?_ | refine blk_alloc ?_ _)); refine blk_put (cs := #[.int .u64 a0_0, .int .u64 a0_1, .int .i64 0, .int .i64 0, .int .i64 0, .slice none 0 0, .int .u64 0]) ?_ 2 _ rfl; (with_reducible repeat (first | refine blk_drewN ?_ _ | refine blk_drew ?_ | refine blk_alloc ?_ _)); refine blk_put (cs := #[.int .u64 a0_0, .int .u64 0, .int .i64 0, .int .i64 0, .int .i64 0, .slice none 0 0, .int .u64 0]) ?_ 1 _ rfl; (with_reducible repeat (first | refine blk_drewN ?_ _ | refine blk_drew ?_ | refine blk_alloc ?_ _)); refine blk_put (cs := #[.int .u64 0, .int .u64 0, .int .i64 0, .int .i64 0, .int .i64 0, .slice none 0 0, .int .u64 0]) ?_ 0 _ rfl; (with_reducible repeat (first | refine blk_drewN ?_ _ | refine blk_drew ?_ | refine blk_alloc ?_ _)); refine blk_far ?_ NB479_478.out _; (with_reducible repeat (first | refine blk_drewN ?_ _ | refine blk_drew ?_ | refine blk_alloc ?_ _)); exact BK479.out) Try.underlying65 rfl (by kernel_rfl)) rfl ?_
        exact ⟨_, by first | rfl | (simp [errW_none, errW_some] <;> rfl) | (simp [*, errW_none, errW_some] <;> rfl), by (with_reducible repeat (first | apply Kd.R_alloc | apply Kd.R_drewN | apply Kd.R_drew)); exact Kd.R_mono (Kd.R_far (p := ⟨gb479, 6, none⟩) (Kd.R_far (p := ⟨gb479, 5, none⟩) (Kd.R_far (p := ⟨gb479, 4, none⟩) (Kd.R_far (p := ⟨gb479, 3, none⟩) (Kd.R_far (p := ⟨gb479, 2, none⟩) (Kd.R_far (p := ⟨gb479, 1, none⟩) (Kd.R_far (p := ⟨gb479, 0, none⟩) (Kd.R_far (p := ⟨gb478, 5, none⟩) (Kd.R_types (Kd.R_types HO_3.out BK478.out (by decide)) BK479.out (by decide)) (fun _ hk => hk.1.2) (.slice Ao14 x3_1.length co14)) (fun _ hk => hk.2) (.int .u64 a0_0)) (fun _ hk => hk.2) (.int .u64 a0_1)) (fun _ hk => hk.2) (.int .i64 a0_2)) (fun _ hk => hk.2) (.int .i64 a0_3)) (fun _ hk => hk.2) (.int .i64 a0_4)) (fun _ hk => hk.2) (.slice Ao14 x3_1.length co14)) (fun _ hk => hk.2) (.int .u64 a0_6)) (fun _ hk => trivial), by repeat (first | (with_reducible first | exact HB.out | apply below_alloc | apply pw_below_drewN | apply below_drew1 | refine below_set ?_ GE478.out | refine below_set ?_ GE479.out) | exact HB.out)⟩
end Go.Proofs.Ytkbemagcoojmmaa.Lx
