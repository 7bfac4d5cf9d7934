/- Printed by the kit's printer (gp.sh with conf01b.py), then turned by asm01.py: potsherdref13_Send. Condition: utf8's tables are laid, where a function reads them. -/
import Derived.Test.YtkbemagcoojmmaaLp3Qs
namespace Go.Proofs.Ytkbemagcoojmmaa.Lx
open Go.RowKit Go.Proofs.Ytkbemagcoojmmaa.G Go.Proofs.YtkbemagcoojmmaaW.PrintWords Go.Proofs.YtkbemagcoojmmaaW.PrintLast Go.Proofs.YtkbemagcoojmmaaW.PrintMore
attribute [local go_sem] max2_int min2_int max_two min_two max_three min_three max_four min_four str_leq str_gtr str_geq
set_option linter.unusedVariables false
set_option linter.unusedSimpArgs false
def potsherdref13_Send.l0 : Nat → List (S52) → Int → Int → Int → Int → Int → Int → List (List (List (S112))) → Int → Option ((List (S52)) × Int)
  | 0, _, _, _, _, _, _, _, _, _ => none
  | k + 1, x4, x5, x521000, x521001, x521002, x521003, x521004, x521005, x521006 => if x5 < (x521005.length : Int) then (if (x4.length : Int) < 4 then (if 0 ≤ x5 then ((potsherdref01_CopyRows.f k (rd_L7 x521005 x5)).bind fun t523 => (if x4.length < 219902325555 then (potsherdref13_Send.l0 k (x4 ++ [(⟨4, 0, (⟨(⟨x521000, x521001⟩ : S24), x521002, x521003, x521004⟩ : S26), (⟨(⟨#[]⟩ : ByteArray), (⟨#[]⟩ : ByteArray), 0, 0, 0, ([] : List (S130)), ([] : List Int), ([] : List (S119)), false, ([] : List ByteArray), ([] : List Int)⟩ : S38), ([] : List (S91)), (⟨0, 0, (⟨0, (⟨#[]⟩ : ByteArray), (⟨0, 0⟩ : S42), 0, ([] : List Int)⟩ : S44), (⟨0, (⟨#[]⟩ : ByteArray), (⟨0, 0⟩ : S42), 0, ([] : List Int)⟩ : S44), false, 0, ([] : List Int)⟩ : S46), ([] : List Int), IntKind.u64.wrap (x5), (x5 == (wrap64 ((x521005.length : Int) - 1))), t523, (⟨(⟨#[]⟩ : ByteArray), (⟨0, 0⟩ : S42), 0, ([] : List (S114)), ([] : List (List (S112)))⟩ : S49), ([] : List (S125))⟩ : S52)]) (wrap64 (x5 + 1)) x521000 x521001 x521002 x521003 x521004 x521005 x521006) else (none))) else (none)) else (some (x4, 0))) else (some (x4, 0))
def potsherdref13_Send.f (k : Nat) (a0_0 : Int) (a0_1 : Int) (a0_2 : Int) (a0_3 : Int) (a0_4 : Int) (l0_5 : List (List (List (S112)))) (a0_6 : Int) : Option ((List (S52)) × Int) := (potsherdref13_CheckOut.f k a0_0 a0_1 a0_2 a0_3 a0_4 l0_5 a0_6).bind fun t521 => (if t521 = 0 then (potsherdref13_Send.l0 k ([] : List (S52)) (wrap64 (a0_6)) a0_0 a0_1 a0_2 a0_3 a0_4 l0_5 a0_6) else (some (([] : List (S52)), 6)))
def potsherdref13_Send.T7 : Bool × List (List Nat × List Nat) := (true, [([], []), ([], []), ([1], [1]), ([], []), ([3], [3]), ([], []), ([], []), ([6], [6]), ([7], [7]), ([8], [8]), ([5, 9], [5, 9]), ([], []), ([11], [11]), ([], []), ([12, 13], [12, 13]), ([14], [14]), ([15], [15]), ([2, 4, 10, 16], [2, 4, 10, 16]), ([17], [17]), ([0, 18, 16], [0, 18]), ([19, 19, 0, 1, 2, 3, 4, 5, 6, 7, 8, 9, 10, 11, 12, 13, 14, 15, 16, 17, 18, 19], [0, 19])])
def potsherdref13_Send.B7 : List Nat := [0, 0, 2, 0, 8, 0, 0, 64, 192, 448, 992, 0, 2048, 0, 14336, 30720, 63488, 131070, 262142, 524287, 1048575]
theorem potsherdref13_Send.tab7 : rtab .any (opsOf Try.f25 7) = potsherdref13_Send.T7 := by kernel_rfl
theorem potsherdref13_Send.bits7 : waitsOk potsherdref13_Send.T7.2 potsherdref13_Send.B7 = true := by kernel_rfl
set_option maxHeartbeats 8000000 in
set_option maxRecDepth 100000 in
theorem potsherdref13_Send.calls (k : Nat) (a0_0 : Int) (a0_1 : Int) (a0_2 : Int) (a0_3 : Int) (a0_4 : Int) (A0_5 : Option Addr) (c0_5 : Nat) (l0_5 : List (List (List (S112)))) (a0_6 : Int) (r1 : List (S52)) (r2 : Int) (w : World) (hr0_5 : Kd.C (Kd.slice 101 (Kd.slice 112 k112)) w A0_5 l0_5.length l0_5) (hc0_5 : l0_5.length ≤ c0_5) (h : potsherdref13_Send.f k a0_0 a0_1 a0_2 a0_3 a0_4 l0_5 a0_6 = some (r1, r2)) :
    Calls Try.prog 25 #[.agg #[.int .u64 a0_0, .int .u64 a0_1, .int .i64 a0_2, .int .i64 a0_3, .int .i64 a0_4, .slice A0_5 l0_5.length c0_5, .int .u64 a0_6]] w fun e w' => ∃ v0_ : Value, e = .returned (.tuple #[v0_, .int .i64 r2]) ∧ Kd.R k52 52 w' w.heap.size (fun _ => True) v0_ r1 ∧ Below w.heap.size w w' := by
  have hu65 := Try.underlying65
  have hu26 := Try.underlying26
  have hu52 := Try.underlying52
  have HR0_5 := Aside0.mk hr0_5
  have HC0_5 := Aside0.mk hc0_5
  clear hr0_5 hc0_5
  have HB := Aside0.mk (Below.refl w.heap.size w)
  have H : ((potsherdref13_CheckOut.f k a0_0 a0_1 a0_2 a0_3 a0_4 l0_5 a0_6).bind fun t521 => (if t521 = 0 then (potsherdref13_Send.l0 k ([] : List (S52)) (wrap64 (a0_6)) a0_0 a0_1 a0_2 a0_3 a0_4 l0_5 a0_6) else (some (([] : List (S52)), 6)))) = some (r1, r2) := h
  clear h
  replace H := Option.bind_eq_some_iff.mp H
  obtain ⟨t521, A20, H⟩ := H
  replace H : (if t521 = 0 then (potsherdref13_Send.l0 k ([] : List (S52)) (wrap64 (a0_6)) a0_0 a0_1 a0_2 a0_3 a0_4 l0_5 a0_6) else (some (([] : List (S52)), 6))) = some (r1, r2) := H
  have A2 := Aside0.mk A20
  clear A20
  by_cases c3 : t521 = 0
  · rw [if_pos c3] at H
    have c3b0 : (t521 == 0) = true := beq_iff_eq.mpr c3
    have c3b1 : (t521 != 0) = false := bne_eq_false_iff_eq.mpr c3
    clear c3
    have H' := Aside0.mk H
    clear H
    go_enter Try.func25, Try.ntmps25
    go_wp2_with (first | ((with_reducible refine gate_dst (N := 1) rfl ?_); (try (refine gate_guard (by rfl) ?_; dsimp only)); refine box_event ?hg (N := 1) ?hd (cs := #[.int .u64 a0_0, .int .u64 a0_1, .int .i64 a0_2, .int .i64 a0_3, .int .i64 a0_4, .slice A0_5 l0_5.length c0_5, .int .u64 a0_6]) (t := 65) ?hr ?_; (case hd => rfl); (case hg => rfl); (case hr => first | (go_simp; done) | (go_simp; rfl)); intro gb520 hg w4 hbox hb; have n0_ := Aside0.mk (below_step (by repeat (first | (with_reducible first | exact HB.out | apply below_alloc | apply pw_below_drewN | apply below_drew1) | exact HB.out)) hb); have n1_ := Aside0.mk (hbox); have n2_ := Aside0.mk ((by rw [hg]; exact (below_size (by repeat (first | (with_reducible first | exact HB.out | apply below_alloc | apply pw_below_drewN | apply below_drew1) | exact HB.out))) : w.heap.size ≤ gb520)); have n3_ := Aside0.mk ((by rw [hg]; exact (below_size (by repeat (first | (with_reducible first | exact HB.out | apply below_alloc | apply pw_below_drewN | apply below_drew1) | exact HB.out))) : w.heap.size ≤ gb520)); clear HB; have HB := n0_; have BK520 := n1_; have GW520 := n2_; have GE520 := n3_; clear n0_ n1_ n2_ n3_; clear hb hbox hg; have hcz5_0 : w4.cell? ⟨gb520, 0, none⟩ = some (.int .u64 a0_0) := (blk_cell BK520.out 0).trans rfl; have hcz5_1 : w4.cell? ⟨gb520, 1, none⟩ = some (.int .u64 a0_1) := (blk_cell BK520.out 1).trans rfl; have hcz5_2 : w4.cell? ⟨gb520, 2, none⟩ = some (.int .i64 a0_2) := (blk_cell BK520.out 2).trans rfl; have hcz5_3 : w4.cell? ⟨gb520, 3, none⟩ = some (.int .i64 a0_3) := (blk_cell BK520.out 3).trans rfl; have hcz5_4 : w4.cell? ⟨gb520, 4, none⟩ = some (.int .i64 a0_4) := (blk_cell BK520.out 4).trans rfl; have hcz5_5 : w4.cell? ⟨gb520, 5, none⟩ = some (.slice A0_5 l0_5.length c0_5) := (blk_cell BK520.out 5).trans rfl; have hcz5_6 : w4.cell? ⟨gb520, 6, none⟩ = some (.int .u64 a0_6) := (blk_cell BK520.out 6).trans rfl; have hfz5_0 := blk_frozen BK520.out 0; have hfz5_1 := blk_frozen BK520.out 1; have hfz5_2 := blk_frozen BK520.out 2; have hfz5_3 := blk_frozen BK520.out 3; have hfz5_4 := blk_frozen BK520.out 4; have hfz5_5 := blk_frozen BK520.out 5; have hfz5_6 := blk_frozen BK520.out 6) | ((with_reducible refine gate_callee (f := 29) rfl ?_); refine goesL_ (some 7) rfl rfl Try.func29 (by kernel_rfl) rfl #[.agg #[.int .u64 a0_0, .int .u64 a0_1, .int .i64 a0_2, .int .i64 a0_3, .int .i64 a0_4, .slice A0_5 l0_5.length c0_5, .int .u64 a0_6]] rfl (by (try simp only [List.map_toArray, List.map_cons, List.map_nil]); first | done | rfl | (simp only [List.length_drop, List.length_take]; rfl)) ?_; (with_reducible refine (potsherdref13_CheckOut.calls k a0_0 a0_1 a0_2 a0_3 a0_4 _ _ l0_5 a0_6 t521 _ ?side1 ?side2 A2.out).mono ?_); (case side1 => repeat (first | exact (Kd.C_below HR0_5.out HB.out) | (with_reducible refine Kd.C_alloc ?_ _) | (with_reducible refine Kd.C_drewN ?_ _) | (with_reducible refine Kd.C_drew ?_))); (case side2 => exact HC0_5.out); rintro e w6 ⟨rfl, hb⟩; refine ⟨_, rfl, ?_⟩; have n0_ := Aside0.mk (blk_below (g := gb520) (o := .cells #[.int .u64 a0_0, .int .u64 a0_1, .int .i64 a0_2, .int .i64 a0_3, .int .i64 a0_4, .slice A0_5 l0_5.length c0_5, .int .u64 a0_6] 65 (0, 0)) (by (with_reducible repeat (first | refine blk_drewN ?_ _ | refine blk_drew ?_ | refine blk_alloc ?_ _)); exact BK520.out) hb); have n1_ := Aside0.mk (below_step (by repeat (first | (with_reducible first | exact HB.out | apply below_alloc | apply pw_below_drewN | apply below_drew1 | refine below_set ?_ GE520.out) | exact HB.out)) hb); clear BK520; clear HB; have BK520 := n0_; have HB := n1_; clear n0_ n1_; (try clear hb); (try clear hb2); (try clear hk); (try clear hi); have hcz7_0 : w6.cell? ⟨gb520, 0, none⟩ = some (.int .u64 a0_0) := (blk_cell BK520.out 0).trans rfl; have hcz7_1 : w6.cell? ⟨gb520, 1, none⟩ = some (.int .u64 a0_1) := (blk_cell BK520.out 1).trans rfl; have hcz7_2 : w6.cell? ⟨gb520, 2, none⟩ = some (.int .i64 a0_2) := (blk_cell BK520.out 2).trans rfl; have hcz7_3 : w6.cell? ⟨gb520, 3, none⟩ = some (.int .i64 a0_3) := (blk_cell BK520.out 3).trans rfl; have hcz7_4 : w6.cell? ⟨gb520, 4, none⟩ = some (.int .i64 a0_4) := (blk_cell BK520.out 4).trans rfl; have hcz7_5 : w6.cell? ⟨gb520, 5, none⟩ = some (.slice A0_5 l0_5.length c0_5) := (blk_cell BK520.out 5).trans rfl; have hcz7_6 : w6.cell? ⟨gb520, 6, none⟩ = some (.int .u64 a0_6) := (blk_cell BK520.out 6).trans rfl; have hfz7_0 := blk_frozen BK520.out 0; have hfz7_1 := blk_frozen BK520.out 1; have hfz7_2 := blk_frozen BK520.out 2; have hfz7_3 := blk_frozen BK520.out 3; have hfz7_4 := blk_frozen BK520.out 4; have hfz7_5 := blk_frozen BK520.out 5; have hfz7_6 := blk_frozen BK520.out 6))
    go_loopg [4, 5] k (fun kq v4 v5 w' => ∃ (x4_1 : List (S52)) (x5_1 : Int), v5 = .int .i64 x5_1 ∧ Aside0 (potsherdref13_Send.l0 kq x4_1 x5_1 a0_0 a0_1 a0_2 a0_3 a0_4 l0_5 a0_6 = some (r1, r2)) ∧ Aside0 (kq ≤ k) ∧ Aside0 (Kd.R k52 52 w' w.heap.size (fun _ => True) v4 x4_1) ∧ Aside0 (w'.heap[gb520]? = some (.cells #[.int .u64 a0_0, .int .u64 a0_1, .int .i64 a0_2, .int .i64 a0_3, .int .i64 a0_4, (.slice A0_5 l0_5.length c0_5), .int .u64 a0_6] 65 (0, 0))) ∧ Aside0 (Below w.heap.size w w'))
    case atStart => exact ⟨(([] : List (S52))), (wrap64 (a0_6)), (by first | rfl | (simp; done) | (simp [*]; done)), H', ⟨Nat.le_refl _⟩, ⟨by first | exact Kd.R_nil _ _ _ _ _ | exact Kd.N_nil _ _ _ _ _ | exact Kd.V_nil _ _ _ _ _ | exact Kd.Q_nil _ _ _ _ _ | exact Kd.S_nil _ _ _ _ _⟩, ⟨by (with_reducible repeat (first | refine blk_drewN ?_ _ | refine blk_drew ?_ | refine blk_alloc ?_ _)); exact BK520.out⟩, ⟨by repeat (first | (with_reducible first | exact HB.out | apply below_alloc | apply pw_below_drewN | apply below_drew1 | refine below_set ?_ GE520.out) | exact HB.out)⟩⟩
    case round =>
      clear H'
      try clear c2
      try clear p2
      try clear c3
      try clear c3b0
      try clear c3b1
      try clear p6
      try clear hcz5_0
      try clear hcz5_1
      try clear hcz5_2
      try clear hcz5_3
      try clear hcz5_4
      try clear hcz5_5
      try clear hcz5_6
      try clear hcz7_0
      try clear hcz7_1
      try clear hcz7_2
      try clear hcz7_3
      try clear hcz7_4
      try clear hcz7_5
      try clear hcz7_6
      try clear hfz5_0
      try clear hfz5_1
      try clear hfz5_2
      try clear hfz5_3
      try clear hfz5_4
      try clear hfz5_5
      try clear hfz5_6
      try clear hfz7_0
      try clear hfz7_1
      try clear hfz7_2
      try clear hfz7_3
      try clear hfz7_4
      try clear hfz7_5
      try clear hfz7_6
      obtain ⟨x4_1, x5_1, rfl, HA, HK1, HO_4, BK520, HB⟩ := hrel
      cases gk with
      | zero => exact absurd HA.out (by simp [potsherdref13_Send.l0])
      | succ k1 =>
        have H := HA.out
        clear HA
        simp only [potsherdref13_Send.l0] at H
        by_cases c8 : x5_1 < (l0_5.length : Int)
        · rw [if_pos c8] at H
          have c8b0 : decide (x5_1 < (l0_5.length : Int)) = true := decide_eq_true c8
          clear c8
          by_cases c9 : (x4_1.length : Int) < 4
          · rw [if_pos c9] at H
            have c9b0 : decide ((x4_1.length : Int) < 4) = true := decide_eq_true c9
            have c9b1 : decide (x4_1.length < 4) = true := decide_eq_true (by omega)
            clear c9
            by_cases c10 : 0 ≤ x5_1
            · rw [if_pos c10] at H
              have c10b0 : decide (0 ≤ x5_1) = true := decide_eq_true c10
              clear c10
              replace H := Option.bind_eq_some_iff.mp H
              obtain ⟨t523, A110, H⟩ := H
              replace H : (if x4_1.length < 219902325555 then (potsherdref13_Send.l0 k1 (x4_1 ++ [(⟨4, 0, (⟨(⟨a0_0, a0_1⟩ : S24), a0_2, a0_3, a0_4⟩ : S26), (⟨(⟨#[]⟩ : ByteArray), (⟨#[]⟩ : ByteArray), 0, 0, 0, ([] : List (S130)), ([] : List Int), ([] : List (S119)), false, ([] : List ByteArray), ([] : List Int)⟩ : S38), ([] : List (S91)), (⟨0, 0, (⟨0, (⟨#[]⟩ : ByteArray), (⟨0, 0⟩ : S42), 0, ([] : List Int)⟩ : S44), (⟨0, (⟨#[]⟩ : ByteArray), (⟨0, 0⟩ : S42), 0, ([] : List Int)⟩ : S44), false, 0, ([] : List Int)⟩ : S46), ([] : List Int), IntKind.u64.wrap (x5_1), (x5_1 == (wrap64 ((l0_5.length : Int) - 1))), t523, (⟨(⟨#[]⟩ : ByteArray), (⟨0, 0⟩ : S42), 0, ([] : List (S114)), ([] : List (List (S112)))⟩ : S49), ([] : List (S125))⟩ : S52)]) (wrap64 (x5_1 + 1)) a0_0 a0_1 a0_2 a0_3 a0_4 l0_5 a0_6) else (none)) = some (r1, r2) := H
              have A11 := Aside0.mk A110
              clear A110
              by_cases c12 : x4_1.length < 219902325555
              · rw [if_pos c12] at H
                have LMc12 := Aside0.mk c12
                clear c12
                obtain ⟨y526, hy526⟩ : ∃ y_ : List (S52), y_ = (x4_1 ++ [(⟨4, 0, (⟨(⟨a0_0, a0_1⟩ : S24), a0_2, a0_3, a0_4⟩ : S26), (⟨(⟨#[]⟩ : ByteArray), (⟨#[]⟩ : ByteArray), 0, 0, 0, ([] : List (S130)), ([] : List Int), ([] : List (S119)), false, ([] : List ByteArray), ([] : List Int)⟩ : S38), ([] : List (S91)), (⟨0, 0, (⟨0, (⟨#[]⟩ : ByteArray), (⟨0, 0⟩ : S42), 0, ([] : List Int)⟩ : S44), (⟨0, (⟨#[]⟩ : ByteArray), (⟨0, 0⟩ : S42), 0, ([] : List Int)⟩ : S44), false, 0, ([] : List Int)⟩ : S46), ([] : List Int), IntKind.u64.wrap (x5_1), (x5_1 == (wrap64 ((l0_5.length : Int) - 1))), t523, (⟨(⟨#[]⟩ : ByteArray), (⟨0, 0⟩ : S42), 0, ([] : List (S114)), ([] : List (List (S112)))⟩ : S49), ([] : List (S125))⟩ : S52)]) := ⟨_, rfl⟩
                replace H : (potsherdref13_Send.l0 k1 y526 (wrap64 (x5_1 + 1)) a0_0 a0_1 a0_2 a0_3 a0_4 l0_5 a0_6) = some (r1, r2) := by first | (rw [hy526]; with_reducible exact H) | (have H2_ := (Option.bind_some _ _).symm.trans H; rw [hy526]; with_reducible exact H2_) | (have H2_ := (Option.bind_some _ _).symm.trans H; with_reducible exact H2_) | with_reducible exact H | (rw [hy526]; exact H) | exact H
                have Ny526 := Aside0.mk hy526
                clear hy526
                have H' := Aside0.mk H
                clear H
                have hcz13_0 : wr.cell? ⟨gb520, 0, none⟩ = some (.int .u64 a0_0) := (blk_cell BK520.out 0).trans rfl
                have hcz13_1 : wr.cell? ⟨gb520, 1, none⟩ = some (.int .u64 a0_1) := (blk_cell BK520.out 1).trans rfl
                have hcz13_2 : wr.cell? ⟨gb520, 2, none⟩ = some (.int .i64 a0_2) := (blk_cell BK520.out 2).trans rfl
                have hcz13_3 : wr.cell? ⟨gb520, 3, none⟩ = some (.int .i64 a0_3) := (blk_cell BK520.out 3).trans rfl
                have hcz13_4 : wr.cell? ⟨gb520, 4, none⟩ = some (.int .i64 a0_4) := (blk_cell BK520.out 4).trans rfl
                have hcz13_5 : wr.cell? ⟨gb520, 5, none⟩ = some (.slice A0_5 l0_5.length c0_5) := (blk_cell BK520.out 5).trans rfl
                have hcz13_6 : wr.cell? ⟨gb520, 6, none⟩ = some (.int .u64 a0_6) := (blk_cell BK520.out 6).trans rfl
                have hfz13_0 := blk_frozen BK520.out 0
                have hfz13_1 := blk_frozen BK520.out 1
                have hfz13_2 := blk_frozen BK520.out 2
                have hfz13_3 := blk_frozen BK520.out 3
                have hfz13_4 := blk_frozen BK520.out 4
                have hfz13_5 := blk_frozen BK520.out 5
                have hfz13_6 := blk_frozen BK520.out 6
                obtain ⟨Ao14, co14, eo14⟩ := Kd.R_slice HO_4.out
                subst eo14
                try go_wp2
                have n0_ := Aside0.mk (Kd.R_drew HO_4.out)
                have n1_ := Aside0.mk (blk_drew BK520.out)
                have n2_ := Aside0.mk (below_drew1 HB.out)
                clear HO_4
                clear BK520
                clear HB
                have HO_4 := n0_
                have BK520 := n1_
                have HB := n2_
                clear n0_ n1_ n2_
                have p522 : 0 ≤ (x5_1 : Int) := of_decide_eq_true (by first | (with_reducible assumption) | assumption)
                have q522 : x5_1 < (l0_5.length : Int) := of_decide_eq_true (by first | (with_reducible assumption) | assumption)
                obtain ⟨ad522, A522_0, c522_0, e522, hx522_0, hl522_0, hi522_0⟩ := at_L7 HR0_5.out x5_1 p522 q522
                have hw522_0 := hx522_0
                cases e522
                replace hx522_0 := (HB.out.cell (World.block_lt_of_cell? w _ hx522_0)).trans hx522_0
                have HR522_0 := Aside0.mk hi522_0
                have HC522_0 := Aside0.mk hl522_0
                clear hi522_0 hl522_0
                replace p522 := eq_true p522
                replace q522 := eq_true q522
                refine start_ (n := 21) (S := fun w' => w'.cell? ⟨gb520, 0, none⟩ = some (.int .u64 a0_0) ∧ w'.cell? ⟨gb520, 1, none⟩ = some (.int .u64 a0_1) ∧ w'.cell? ⟨gb520, 2, none⟩ = some (.int .i64 a0_2) ∧ w'.cell? ⟨gb520, 3, none⟩ = some (.int .i64 a0_3) ∧ w'.cell? ⟨gb520, 4, none⟩ = some (.int .i64 a0_4) ∧ w'.cell? ⟨gb520, 5, none⟩ = some (.slice (some ad522) l0_5.length c0_5) ∧ w'.cell? ⟨gb520, 6, none⟩ = some (.int .u64 a0_6) ∧ w'.cell? (ad522.add (x5_1).toNat) = some (.slice A522_0 (rd_L7 l0_5 x5_1).length c522_0)) (ds := []) #[false, false, false, false, false, false, false, false, false, false, false, false, false, false, false, false, false, false, false, false, false] (by kernel_rfl) rfl rfl ⟨(blk_cell BK520.out 0).trans rfl, (blk_cell BK520.out 1).trans rfl, (blk_cell BK520.out 2).trans rfl, (blk_cell BK520.out 3).trans rfl, (blk_cell BK520.out 4).trans rfl, (blk_cell BK520.out 5).trans rfl, (blk_cell BK520.out 6).trans rfl, ((HB.out.cell (World.block_lt_of_cell? w _ hw522_0)).trans hw522_0)⟩ (fun hHeld => ?_); refine with_tabW potsherdref13_Send.tab7 potsherdref13_Send.bits7 (fun HT_ HW_ => ?_)
                generalize wr.drew = w15 at HO_4 BK520 HB HR522_0 hx522_0 hHeld ⊢
                refine pure_ (i := 0) (N := some 24) (v := ?_) (a' := ?_) #[true, false, false, false, false, false, false, false, false, false, false, false, false, false, false, false, false, false, false, false, false] rfl rfl (any_of HT_.out (by kernel_rfl)) (fun _ _ _ h => h) (Or.inl ⟨by rfl, ?_⟩) ?_ ?_
                rotate_left
                · intro w'
                  go_simp
                  with_reducible rfl
                rotate_left
                · simp only [Act.put, List.setIfInBounds_toArray, List.set_cons_zero, List.set_cons_succ, i64_w, i32_w]
                  rfl
                refine pure_ (i := 1) (N := some 25) (v := ?_) (a' := ?_) #[true, true, false, false, false, false, false, false, false, false, false, false, false, false, false, false, false, false, false, false, false] rfl rfl (any_of HT_.out (by kernel_rfl)) (fun _ _ _ h => h) (Or.inl ⟨by rfl, ?_⟩) ?_ ?_
                rotate_left
                · intro w'
                  go_simp
                  with_reducible rfl
                rotate_left
                · simp only [Act.put, List.setIfInBounds_toArray, List.set_cons_zero, List.set_cons_succ, i64_w, i32_w]
                  rfl
                refine pure_ (i := 3) (N := some 27) (v := ?_) (a' := ?_) #[true, true, false, true, false, false, false, false, false, false, false, false, false, false, false, false, false, false, false, false, false] rfl rfl (any_of HT_.out (by kernel_rfl)) (fun _ _ _ h => h) (Or.inl ⟨by rfl, ?_⟩) ?_ ?_
                rotate_left
                · intro w'
                  go_simp
                  with_reducible rfl
                rotate_left
                · simp only [Act.put, List.setIfInBounds_toArray, List.set_cons_zero, List.set_cons_succ, i64_w, i32_w]
                  rfl
                refine pure_ (i := 4) (N := some 28) (v := ?_) (a' := ?_) #[true, true, false, true, true, false, false, false, false, false, false, false, false, false, false, false, false, false, false, false, false] rfl rfl (any_of HT_.out (by kernel_rfl)) (fun _ _ _ h => h) (Or.inl ⟨by rfl, ?_⟩) ?_ ?_
                rotate_left
                · intro w'
                  go_simp
                  with_reducible rfl
                rotate_left
                · simp only [Act.put, List.setIfInBounds_toArray, List.set_cons_zero, List.set_cons_succ, i64_w, i32_w]
                  rfl
                refine pure_ (i := 5) (N := some 29) (v := ?_) (a' := ?_) #[true, true, false, true, true, true, false, false, false, false, false, false, false, false, false, false, false, false, false, false, false] rfl rfl (any_of HT_.out (by kernel_rfl)) (fun _ _ _ h => h) (Or.inl ⟨by rfl, ?_⟩) ?_ ?_
                rotate_left
                · intro w'
                  go_simp
                  with_reducible rfl
                rotate_left
                · simp only [Act.put, List.setIfInBounds_toArray, List.set_cons_zero, List.set_cons_succ, i64_w, i32_w]
                  rfl
                refine pure_ (i := 6) (N := some 30) (v := ?_) (a' := ?_) #[true, true, false, true, true, true, true, false, false, false, false, false, false, false, false, false, false, false, false, false, false] rfl rfl (any_of HT_.out (by kernel_rfl)) (fun _ _ _ h => h) (Or.inl ⟨by rfl, ?_⟩) ?_ ?_
                rotate_left
                · intro w'
                  go_simp
                  with_reducible rfl
                rotate_left
                · simp only [Act.put, List.setIfInBounds_toArray, List.set_cons_zero, List.set_cons_succ, i64_w, i32_w]
                  rfl
                refine pure_ (i := 11) (N := some 35) (v := ?_) (a' := ?_) #[true, true, false, true, true, true, true, false, false, false, false, true, false, false, false, false, false, false, false, false, false] rfl rfl (any_of HT_.out (by kernel_rfl)) (fun _ _ _ h => h) (Or.inl ⟨by rfl, ?_⟩) ?_ ?_
                rotate_left
                · intro w'
                  go_simp
                  with_reducible rfl
                rotate_left
                · simp only [Act.put, List.setIfInBounds_toArray, List.set_cons_zero, List.set_cons_succ, i64_w, i32_w]
                  rfl
                refine pure_ (i := 13) (N := some 37) (v := ?_) (a' := ?_) #[true, true, false, true, true, true, true, false, false, false, false, true, false, true, false, false, false, false, false, false, false] rfl rfl (any_of HT_.out (by kernel_rfl)) (fun _ _ _ h => h) (Or.inl ⟨by rfl, ?_⟩) ?_ ?_
                rotate_left
                · intro w'
                  go_simp
                  with_reducible rfl
                rotate_left
                · simp only [Act.put, List.setIfInBounds_toArray, List.set_cons_zero, List.set_cons_succ, i64_w, i32_w]
                  rfl
                refine take_ (i := 2) (N := some 26) (v := ?_) (a' := ?_) #[true, true, true, true, true, true, true, false, false, false, false, true, false, true, false, false, false, false, false, false, false] rfl rfl (take_ofW HT_.out HW_.out (by kernel_rfl)) (fun _ _ _ h => h) (Or.inl ⟨by rfl, ?_⟩) hHeld ?_ ?_
                rotate_left
                · rintro w' ⟨s0, s1, s2, s3, s4, s5, s6, s7⟩
                  go_simp
                  with_reducible rfl
                rotate_left
                · simp only [Act.put, List.setIfInBounds_toArray, List.set_cons_zero, List.set_cons_succ, i64_w, i32_w]
                  rfl
                refine take_ (i := 7) (N := some 31) (v := ?_) (a' := ?_) #[true, true, true, true, true, true, true, true, false, false, false, true, false, true, false, false, false, false, false, false, false] rfl rfl (take_ofW HT_.out HW_.out (by kernel_rfl)) (fun _ _ _ h => h) (Or.inl ⟨by rfl, ?_⟩) hHeld ?_ ?_
                rotate_left
                · rintro w' ⟨s0, s1, s2, s3, s4, s5, s6, s7⟩
                  go_simp
                  with_reducible rfl
                rotate_left
                · simp only [Act.put, List.setIfInBounds_toArray, List.set_cons_zero, List.set_cons_succ, i64_w, i32_w]
                  rfl
                refine pure_ (i := 8) (N := some 32) (v := ?_) (a' := ?_) #[true, true, true, true, true, true, true, true, true, false, false, true, false, true, false, false, false, false, false, false, false] rfl rfl (any_of HT_.out (by kernel_rfl)) (fun _ _ _ h => h) (Or.inl ⟨by rfl, ?_⟩) ?_ ?_
                rotate_left
                · intro w'
                  go_simp
                  with_reducible rfl
                rotate_left
                · simp only [Act.put, List.setIfInBounds_toArray, List.set_cons_zero, List.set_cons_succ, i64_w, i32_w]
                  rfl
                refine pure_ (i := 9) (N := some 33) (v := ?_) (a' := ?_) #[true, true, true, true, true, true, true, true, true, true, false, true, false, true, false, false, false, false, false, false, false] rfl rfl (any_of HT_.out (by kernel_rfl)) (fun _ _ _ h => h) (Or.inl ⟨by rfl, ?_⟩) ?_ ?_
                rotate_left
                · intro w'
                  go_simp
                  with_reducible rfl
                rotate_left
                · simp only [Act.put, List.setIfInBounds_toArray, List.set_cons_zero, List.set_cons_succ, i64_w, i32_w]
                  rfl
                refine pure_ (i := 10) (N := some 34) (v := ?_) (a' := ?_) #[true, true, true, true, true, true, true, true, true, true, true, true, false, true, false, false, false, false, false, false, false] rfl rfl (any_of HT_.out (by kernel_rfl)) (fun _ _ _ h => h) (Or.inl ⟨by rfl, ?_⟩) ?_ ?_
                rotate_left
                · intro w'
                  go_simp
                  with_reducible rfl
                rotate_left
                · simp only [Act.put, List.setIfInBounds_toArray, List.set_cons_zero, List.set_cons_succ, i64_w, i32_w]
                  rfl
                refine take_ (i := 12) (N := some 36) (v := ?_) (a' := ?_) #[true, true, true, true, true, true, true, true, true, true, true, true, true, true, false, false, false, false, false, false, false] rfl rfl (take_ofW HT_.out HW_.out (by kernel_rfl)) (fun _ _ _ h => h) (Or.inl ⟨by rfl, ?_⟩) hHeld ?_ ?_
                rotate_left
                · rintro w' ⟨s0, s1, s2, s3, s4, s5, s6, s7⟩
                  go_simp
                  with_reducible rfl
                rotate_left
                · simp only [Act.put, List.setIfInBounds_toArray, List.set_cons_zero, List.set_cons_succ, i64_w, i32_w]
                  rfl
                refine pure_ (i := 14) (N := some 38) (v := ?_) (a' := ?_) #[true, true, true, true, true, true, true, true, true, true, true, true, true, true, true, false, false, false, false, false, false] rfl rfl (any_of HT_.out (by kernel_rfl)) (fun _ _ _ h => h) (Or.inl ⟨by rfl, ?_⟩) ?_ ?_
                rotate_left
                · intro w'
                  go_simp
                  with_reducible rfl
                rotate_left
                · simp only [Act.put, List.setIfInBounds_toArray, List.set_cons_zero, List.set_cons_succ, i64_w, i32_w]
                  rfl
                refine take_ (i := 15) (N := some 39) (v := ?_) (a' := ?_) #[true, true, true, true, true, true, true, true, true, true, true, true, true, true, true, true, false, false, false, false, false] rfl rfl (take_ofW HT_.out HW_.out (by kernel_rfl)) (fun _ _ _ h => h) (Or.inl ⟨by rfl, ?_⟩) hHeld ?_ ?_
                rotate_left
                · rintro w' ⟨s0, s1, s2, s3, s4, s5, s6, s7⟩
                  go_simp
                  with_reducible rfl
                rotate_left
                · simp only [Act.put, List.setIfInBounds_toArray, List.set_cons_zero, List.set_cons_succ, i64_w, i32_w]
                  rfl
                refine one_ (i := 16) (N := some 40) #[true, true, true, true, true, true, true, true, true, true, true, true, true, true, true, true, true, false, false, false, false] rfl rfl (one_of HT_.out (by kernel_rfl)) (by decide) (fun K hK => ?_)
                refine goes_ Try.func30 (by kernel_rfl) rfl #[.slice A522_0 (rd_L7 l0_5 x5_1).length c522_0] (by rfl) rfl rfl (by (try simp only [List.map_toArray, List.map_cons, List.map_nil]); first | done | rfl | (simp only [List.length_drop, List.length_take]; rfl)) ?_
                with_reducible refine (potsherdref01_CopyRows.calls k1 _ _ (rd_L7 l0_5 x5_1) t523 _ ?side1 ?side2 A11.out).mono ?_
                (case side1 => repeat (first | exact (Kd.C_below HR522_0.out HB.out) | (with_reducible refine Kd.C_alloc ?_ _) | (with_reducible refine Kd.C_drewN ?_ _) | (with_reducible refine Kd.C_drew ?_)))
                (case side2 => exact HC522_0.out)
                rintro e w16 ⟨v524, rfl, ho0, hb⟩
                refine ⟨_, rfl, ?_⟩
                have n0_ := Aside0.mk (Kd.R_elder' (by (with_reducible repeat (first | apply Kd.R_alloc | apply Kd.R_drewN | apply Kd.R_drew)); exact HO_4.out) (Kd.S_base ho0) hb)
                have n1_ := Aside0.mk (Kd.S_lower ho0 (below_size (by repeat (first | (with_reducible first | exact HB.out | apply below_alloc | apply pw_below_drewN | apply below_drew1 | refine below_set ?_ GE520.out) | exact HB.out))))
                have n2_ := Aside0.mk (blk_below (g := gb520) (o := .cells #[.int .u64 a0_0, .int .u64 a0_1, .int .i64 a0_2, .int .i64 a0_3, .int .i64 a0_4, .slice (some ad522) l0_5.length c0_5, .int .u64 a0_6] 65 (0, 0)) (by (with_reducible repeat (first | refine blk_drewN ?_ _ | refine blk_drew ?_ | refine blk_alloc ?_ _)); exact BK520.out) hb)
                have n3_ := Aside0.mk (below_step (by repeat (first | (with_reducible first | exact HB.out | apply below_alloc | apply pw_below_drewN | apply below_drew1 | refine below_set ?_ GE520.out) | exact HB.out)) hb)
                clear HO_4
                clear BK520
                clear HB
                have HO_4 := n0_
                have HO525 := n1_
                have BK520 := n2_
                have HB := n3_
                clear n0_ n1_ n2_ n3_
                (try clear hb)
                (try clear hb2)
                (try clear hk)
                (try clear hi)
                (try clear ho0)
                obtain ⟨Ao17, co17, eo17⟩ := Kd.S_slice HO525.out
                (first | subst eo17 | (injection eo17 with f1_ f2_ f3_; have f4_ := f1_.symm; have f5_ := f3_.symm; clear f1_ f2_ f3_; subst f4_; subst f5_))
                refine hK.out _ _ ⟨(blk_cell BK520.out 0).trans rfl, (blk_cell BK520.out 1).trans rfl, (blk_cell BK520.out 2).trans rfl, (blk_cell BK520.out 3).trans rfl, (blk_cell BK520.out 4).trans rfl, (blk_cell BK520.out 5).trans rfl, (blk_cell BK520.out 6).trans rfl, ((HB.out.cell (World.block_lt_of_cell? w _ hw522_0)).trans hw522_0)⟩ (fun hHeld => ?_)
                clear hK K
                refine norm_ (a' := ?_) ?_ ?_
                rotate_left
                · show Act.put _ (some 40) _ = _
                  simp only [Act.put, List.setIfInBounds_toArray, List.set_cons_zero, List.set_cons_succ, i64_w, i32_w]
                  rfl
                refine pure_ (i := 17) (N := some 41) (v := ?_) (a' := ?_) #[true, true, true, true, true, true, true, true, true, true, true, true, true, true, true, true, true, true, false, false, false] rfl rfl (any_of HT_.out (by kernel_rfl)) (fun _ _ _ h => h) (Or.inl ⟨by rfl, ?_⟩) ?_ ?_
                rotate_left
                · intro w'
                  go_simp
                  with_reducible rfl
                rotate_left
                · simp only [Act.put, List.setIfInBounds_toArray, List.set_cons_zero, List.set_cons_succ, i64_w, i32_w]
                  rfl
                refine one_ (i := 18) (N := some 42) #[true, true, true, true, true, true, true, true, true, true, true, true, true, true, true, true, true, true, true, false, false] rfl rfl (one_of HT_.out (by kernel_rfl)) (by decide) (fun K hK => ?_)
                refine value_ (w1 := ?_) (v := ?_) (by rfl) rfl ?_ ?_
                rotate_left 2
                · go_simp
                  constructor
                  · rfl
                  · rfl
                refine hK.out _ _ ⟨(blk_cell (blk_alloc BK520.out _) 0).trans rfl, (blk_cell (blk_alloc BK520.out _) 1).trans rfl, (blk_cell (blk_alloc BK520.out _) 2).trans rfl, (blk_cell (blk_alloc BK520.out _) 3).trans rfl, (blk_cell (blk_alloc BK520.out _) 4).trans rfl, (blk_cell (blk_alloc BK520.out _) 5).trans rfl, (blk_cell (blk_alloc BK520.out _) 6).trans rfl, (World.cell?_alloc_lt _ _ _ (World.block_lt_of_cell? _ _ (((HB.out.cell (World.block_lt_of_cell? w _ hw522_0)).trans hw522_0)))).trans (((HB.out.cell (World.block_lt_of_cell? w _ hw522_0)).trans hw522_0))⟩ (fun hHeld => ?_)
                clear hK K
                refine norm_ (a' := ?_) ?_ ?_
                rotate_left
                · show Act.put _ (some 42) _ = _
                  simp only [Act.put, List.setIfInBounds_toArray, List.set_cons_zero, List.set_cons_succ, i64_w, i32_w]
                  rfl
                refine one_ (i := 19) (N := some 43) #[true, true, true, true, true, true, true, true, true, true, true, true, true, true, true, true, true, true, true, true, false] rfl rfl (one_of HT_.out (by kernel_rfl)) (by decide) (fun K hK => ?_)
                refine Kd.R_append_step k52 (w0 := w) w.heap.size (by rfl) (.tmp 24) (.tmp 42) 72 52 (.agg #[(.int .u8 0), (.int .u64 0), (.int .u64 0), (.int .u64 0), (.int .i64 0), (.int .i64 0), (.int .i64 0), (.string ⟨#[]⟩), (.string ⟨#[]⟩), (.int .i64 0), (.int .i64 0), (.int .i64 0), (.slice none 0 0), (.slice none 0 0), (.slice none 0 0), (.bool false), (.slice none 0 0), (.slice none 0 0), (.slice none 0 0), (.int .i64 0), (.int .i64 0), (.int .u8 0), (.string ⟨#[]⟩), (.int .u64 0), (.int .u64 0), (.int .i64 0), (.slice none 0 0), (.int .u8 0), (.string ⟨#[]⟩), (.int .u64 0), (.int .u64 0), (.int .i64 0), (.slice none 0 0), (.bool false), (.int .i64 0), (.slice none 0 0), (.slice none 0 0), (.int .u64 0), (.bool false), (.slice none 0 0), (.string ⟨#[]⟩), (.int .u64 0), (.int .u64 0), (.int .i64 0), (.slice none 0 0), (.slice none 0 0), (.slice none 0 0)]) 640 rfl Try.underlying72 info52 rfl (by decide) (by omega) (.slice Ao14 x4_1.length co14) x4_1 (⟨4, 0, (⟨(⟨a0_0, a0_1⟩ : S24), a0_2, a0_3, a0_4⟩ : S26), (⟨(⟨#[]⟩ : ByteArray), (⟨#[]⟩ : ByteArray), 0, 0, 0, ([] : List (S130)), ([] : List Int), ([] : List (S119)), false, ([] : List ByteArray), ([] : List Int)⟩ : S38), ([] : List (S91)), (⟨0, 0, (⟨0, (⟨#[]⟩ : ByteArray), (⟨0, 0⟩ : S42), 0, ([] : List Int)⟩ : S44), (⟨0, (⟨#[]⟩ : ByteArray), (⟨0, 0⟩ : S42), 0, ([] : List Int)⟩ : S44), false, 0, ([] : List Int)⟩ : S46), ([] : List Int), IntKind.u64.wrap (x5_1), (x5_1 == (wrap64 ((l0_5.length : Int) - 1))), t523, (⟨(⟨#[]⟩ : ByteArray), (⟨0, 0⟩ : S42), 0, ([] : List (S114)), ([] : List (List (S112)))⟩ : S49), ([] : List (S125))⟩ : S52) _ (fun _ => True) (fun k_ => ((fun _ => True)) k_ ∧ some k_ ≠ (.slice Ao14 x4_1.length co14 : Value).ownBlock) rfl rfl ?aP (fun _ hk => hk) ?aF ?aO ?aB ?aS ?aL ?_
                (case aP => exact k52_mkM _ _ _ (⟨4, 0, (⟨(⟨a0_0, a0_1⟩ : S24), a0_2, a0_3, a0_4⟩ : S26), (⟨(⟨#[]⟩ : ByteArray), (⟨#[]⟩ : ByteArray), 0, 0, 0, ([] : List (S130)), ([] : List Int), ([] : List (S119)), false, ([] : List ByteArray), ([] : List Int)⟩ : S38), ([] : List (S91)), (⟨0, 0, (⟨0, (⟨#[]⟩ : ByteArray), (⟨0, 0⟩ : S42), 0, ([] : List Int)⟩ : S44), (⟨0, (⟨#[]⟩ : ByteArray), (⟨0, 0⟩ : S42), 0, ([] : List Int)⟩ : S44), false, 0, ([] : List Int)⟩ : S46), ([] : List Int), IntKind.u64.wrap (x5_1), (x5_1 == (wrap64 ((l0_5.length : Int) - 1))), t523, (⟨(⟨#[]⟩ : ByteArray), (⟨0, 0⟩ : S42), 0, ([] : List (S114)), ([] : List (List (S112)))⟩ : S49), ([] : List (S125))⟩ : S52) (Kd.R_nil _ _ _ _ _) (Kd.R_nil _ _ _ _ _) (Kd.R_nil _ _ _ _ _) (Kd.R_nil _ _ _ _ _) (Kd.R_nil _ _ _ _ _) (Kd.R_nil _ _ _ _ _) (Kd.R_nil _ _ _ _ _) (Kd.R_nil _ _ _ _ _) (Kd.R_nil _ _ _ _ _) (Kd.R_nil _ _ _ _ _) (Kd.R_mono (Kd.R_apart' ((Kd.S_R HO525.out)) (Kd.R_typed HO_4.out) (by decide)) (fun k_ hk => ⟨trivial, hk.2⟩)) (Kd.R_nil _ _ _ _ _) (Kd.R_nil _ _ _ _ _) (Kd.R_nil _ _ _ _ _))
                (case aB => exact (by repeat (first | (with_reducible first | exact HB.out | apply below_alloc | apply pw_below_drewN | apply below_drew1 | refine below_set ?_ GE520.out) | exact HB.out)))
                (case aF => exact (fun _ _ => trivial))
                (case aO => exact (by (with_reducible repeat (first | apply Kd.R_alloc | apply Kd.R_drewN | apply Kd.R_drew)); exact Kd.R_mono HO_4.out (fun _ hk => trivial)))
                (case aS => exact (below_size (by repeat (first | (with_reducible first | exact HB.out | apply below_alloc | apply pw_below_drewN | apply below_drew1 | refine below_set ?_ GE520.out) | exact HB.out))))
                (case aL => have := LMc12.out; omega)
                intro v527 w18 ho hb hg hat
                rw [← Ny526.out] at ho
                have n0_ := Aside0.mk (blk_grown (g := gb520) (o := .cells #[.int .u64 a0_0, .int .u64 a0_1, .int .i64 a0_2, .int .i64 a0_3, .int .i64 a0_4, .slice (some ad522) l0_5.length c0_5, .int .u64 a0_6] 65 (0, 0)) (by (with_reducible repeat (first | refine blk_drewN ?_ _ | refine blk_drew ?_ | refine blk_alloc ?_ _)); exact BK520.out) hg (Kd.R_ne HO_4.out BK520.out (by decide)))
                have n1_ := Aside0.mk (hb)
                have n2_ := Aside0.mk (ho)
                clear BK520
                clear HB
                clear HO_4
                clear HO525
                have BK520 := n0_
                have HB := n1_
                have HO528 := n2_
                clear n0_ n1_ n2_
                clear ho hb hg hat
                refine hK.out _ _ ⟨(blk_cell BK520.out 0).trans rfl, (blk_cell BK520.out 1).trans rfl, (blk_cell BK520.out 2).trans rfl, (blk_cell BK520.out 3).trans rfl, (blk_cell BK520.out 4).trans rfl, (blk_cell BK520.out 5).trans rfl, (blk_cell BK520.out 6).trans rfl, ((HB.out.cell (World.block_lt_of_cell? w _ hw522_0)).trans hw522_0)⟩ (fun hHeld => ?_)
                clear hK K
                refine norm_ (a' := ?_) ?_ ?_
                rotate_left
                · show Act.put _ (some 43) _ = _
                  simp only [Act.put, List.setIfInBounds_toArray, List.set_cons_zero, List.set_cons_succ, i64_w, i32_w]
                  rfl
                refine pure_ (i := 20) (N := some 4) (v := ?_) (a' := ?_) #[true, true, true, true, true, true, true, true, true, true, true, true, true, true, true, true, true, true, true, true, true] rfl rfl (any_of HT_.out (by kernel_rfl)) (fun _ _ _ h => h) (Or.inl ⟨by rfl, ?_⟩) ?_ ?_
                rotate_left
                · intro w'
                  go_simp
                  with_reducible rfl
                rotate_left
                · simp only [Act.put, List.setIfInBounds_toArray, List.set_cons_zero, List.set_cons_succ, i64_w, i32_w]
                  rfl
                refine done_ (done_of HT_.out (by kernel_rfl)) ?_
                try go_wp2
                go_roundg k1
                case measure => have := HK1.out; omega
                case rel => exact ⟨(y526), (wrap64 (x5_1 + 1)), (by first | rfl | (simp; done) | (simp [*]; done)), H', ⟨by have := HK1.out; omega⟩, ⟨by (with_reducible repeat (first | apply Kd.R_alloc | apply Kd.R_drewN | apply Kd.R_drew)); exact HO528.out⟩, ⟨by (with_reducible repeat (first | refine blk_drewN ?_ _ | refine blk_drew ?_ | refine blk_alloc ?_ _)); exact BK520.out⟩, ⟨by repeat (first | (with_reducible first | exact HB.out | apply below_alloc | apply pw_below_drewN | apply below_drew1 | refine below_set ?_ GE520.out) | exact HB.out)⟩⟩
              · rw [if_neg c12] at H
                exact absurd H (by simp)
            · rw [if_neg c10] at H
              exact absurd H (by simp)
          · rw [if_neg c9] at H
            have c9b0 : decide ((x4_1.length : Int) < 4) = false := decide_eq_false c9
            have c9b1 : decide (x4_1.length < 4) = false := decide_eq_false (by omega)
            clear c9
            simp only [Option.some.injEq, Prod.mk.injEq] at H
            obtain ⟨rfl, rfl⟩ := H
            have hcz19_0 : wr.cell? ⟨gb520, 0, none⟩ = some (.int .u64 a0_0) := (blk_cell BK520.out 0).trans rfl
            have hcz19_1 : wr.cell? ⟨gb520, 1, none⟩ = some (.int .u64 a0_1) := (blk_cell BK520.out 1).trans rfl
            have hcz19_2 : wr.cell? ⟨gb520, 2, none⟩ = some (.int .i64 a0_2) := (blk_cell BK520.out 2).trans rfl
            have hcz19_3 : wr.cell? ⟨gb520, 3, none⟩ = some (.int .i64 a0_3) := (blk_cell BK520.out 3).trans rfl
            have hcz19_4 : wr.cell? ⟨gb520, 4, none⟩ = some (.int .i64 a0_4) := (blk_cell BK520.out 4).trans rfl
            have hcz19_5 : wr.cell? ⟨gb520, 5, none⟩ = some (.slice A0_5 l0_5.length c0_5) := (blk_cell BK520.out 5).trans rfl
            have hcz19_6 : wr.cell? ⟨gb520, 6, none⟩ = some (.int .u64 a0_6) := (blk_cell BK520.out 6).trans rfl
            have hfz19_0 := blk_frozen BK520.out 0
            have hfz19_1 := blk_frozen BK520.out 1
            have hfz19_2 := blk_frozen BK520.out 2
            have hfz19_3 := blk_frozen BK520.out 3
            have hfz19_4 := blk_frozen BK520.out 4
            have hfz19_5 := blk_frozen BK520.out 5
            have hfz19_6 := blk_frozen BK520.out 6
            obtain ⟨Ao20, co20, eo20⟩ := Kd.R_slice HO_4.out
            subst eo20
            go_wp2
            go_ret2
            exact ⟨_, by first | rfl | (simp [errW_none, errW_some] <;> rfl) | (simp [*, errW_none, errW_some] <;> rfl), by (with_reducible repeat (first | apply Kd.R_alloc | apply Kd.R_drewN | apply Kd.R_drew)); exact HO_4.out, by repeat (first | (with_reducible first | exact HB.out | apply below_alloc | apply pw_below_drewN | apply below_drew1 | refine below_set ?_ GE520.out) | exact HB.out)⟩
        · rw [if_neg c8] at H
          have c8b0 : decide (x5_1 < (l0_5.length : Int)) = false := decide_eq_false c8
          clear c8
          simp only [Option.some.injEq, Prod.mk.injEq] at H
          obtain ⟨rfl, rfl⟩ := H
          have hcz21_0 : wr.cell? ⟨gb520, 0, none⟩ = some (.int .u64 a0_0) := (blk_cell BK520.out 0).trans rfl
          have hcz21_1 : wr.cell? ⟨gb520, 1, none⟩ = some (.int .u64 a0_1) := (blk_cell BK520.out 1).trans rfl
          have hcz21_2 : wr.cell? ⟨gb520, 2, none⟩ = some (.int .i64 a0_2) := (blk_cell BK520.out 2).trans rfl
          have hcz21_3 : wr.cell? ⟨gb520, 3, none⟩ = some (.int .i64 a0_3) := (blk_cell BK520.out 3).trans rfl
          have hcz21_4 : wr.cell? ⟨gb520, 4, none⟩ = some (.int .i64 a0_4) := (blk_cell BK520.out 4).trans rfl
          have hcz21_5 : wr.cell? ⟨gb520, 5, none⟩ = some (.slice A0_5 l0_5.length c0_5) := (blk_cell BK520.out 5).trans rfl
          have hcz21_6 : wr.cell? ⟨gb520, 6, none⟩ = some (.int .u64 a0_6) := (blk_cell BK520.out 6).trans rfl
          have hfz21_0 := blk_frozen BK520.out 0
          have hfz21_1 := blk_frozen BK520.out 1
          have hfz21_2 := blk_frozen BK520.out 2
          have hfz21_3 := blk_frozen BK520.out 3
          have hfz21_4 := blk_frozen BK520.out 4
          have hfz21_5 := blk_frozen BK520.out 5
          have hfz21_6 := blk_frozen BK520.out 6
          go_wp2
          go_ret2
          exact ⟨_, by first | rfl | (simp [errW_none, errW_some] <;> rfl) | (simp [*, errW_none, errW_some] <;> rfl), by (with_reducible repeat (first | apply Kd.R_alloc | apply Kd.R_drewN | apply Kd.R_drew)); exact HO_4.out, by repeat (first | (with_reducible first | exact HB.out | apply below_alloc | apply pw_below_drewN | apply below_drew1 | refine below_set ?_ GE520.out) | exact HB.out)⟩
  · rw [if_neg c3] at H
    have c3b0 : (t521 == 0) = false := beq_eq_false_iff_ne.mpr c3
    have c3b1 : (t521 != 0) = true := bne_iff_ne.mpr c3
    simp only [Option.some.injEq, Prod.mk.injEq] at H
    obtain ⟨rfl, rfl⟩ := H
    go_enter Try.func25, Try.ntmps25
    go_wp2_with (first | ((with_reducible refine gate_dst (N := 1) rfl ?_); (try (refine gate_guard (by rfl) ?_; dsimp only)); refine box_event ?hg (N := 1) ?hd (cs := #[.int .u64 a0_0, .int .u64 a0_1, .int .i64 a0_2, .int .i64 a0_3, .int .i64 a0_4, .slice A0_5 l0_5.length c0_5, .int .u64 a0_6]) (t := 65) ?hr ?_; (case hd => rfl); (case hg => rfl); (case hr => first | (go_simp; done) | (go_simp; rfl)); intro gb520 hg w22 hbox hb; have n0_ := Aside0.mk (below_step (by repeat (first | (with_reducible first | exact HB.out | apply below_alloc | apply pw_below_drewN | apply below_drew1) | exact HB.out)) hb); have n1_ := Aside0.mk (hbox); have n2_ := Aside0.mk ((by rw [hg]; exact (below_size (by repeat (first | (with_reducible first | exact HB.out | apply below_alloc | apply pw_below_drewN | apply below_drew1) | exact HB.out))) : w.heap.size ≤ gb520)); have n3_ := Aside0.mk ((by rw [hg]; exact (below_size (by repeat (first | (with_reducible first | exact HB.out | apply below_alloc | apply pw_below_drewN | apply below_drew1) | exact HB.out))) : w.heap.size ≤ gb520)); clear HB; have HB := n0_; have BK520 := n1_; have GW520 := n2_; have GE520 := n3_; clear n0_ n1_ n2_ n3_; clear hb hbox hg; have hcz23_0 : w22.cell? ⟨gb520, 0, none⟩ = some (.int .u64 a0_0) := (blk_cell BK520.out 0).trans rfl; have hcz23_1 : w22.cell? ⟨gb520, 1, none⟩ = some (.int .u64 a0_1) := (blk_cell BK520.out 1).trans rfl; have hcz23_2 : w22.cell? ⟨gb520, 2, none⟩ = some (.int .i64 a0_2) := (blk_cell BK520.out 2).trans rfl; have hcz23_3 : w22.cell? ⟨gb520, 3, none⟩ = some (.int .i64 a0_3) := (blk_cell BK520.out 3).trans rfl; have hcz23_4 : w22.cell? ⟨gb520, 4, none⟩ = some (.int .i64 a0_4) := (blk_cell BK520.out 4).trans rfl; have hcz23_5 : w22.cell? ⟨gb520, 5, none⟩ = some (.slice A0_5 l0_5.length c0_5) := (blk_cell BK520.out 5).trans rfl; have hcz23_6 : w22.cell? ⟨gb520, 6, none⟩ = some (.int .u64 a0_6) := (blk_cell BK520.out 6).trans rfl; have hfz23_0 := blk_frozen BK520.out 0; have hfz23_1 := blk_frozen BK520.out 1; have hfz23_2 := blk_frozen BK520.out 2; have hfz23_3 := blk_frozen BK520.out 3; have hfz23_4 := blk_frozen BK520.out 4; have hfz23_5 := blk_frozen BK520.out 5; have hfz23_6 := blk_frozen BK520.out 6) | ((with_reducible refine gate_callee (f := 29) rfl ?_); refine goesL_ (some 7) rfl rfl Try.func29 (by kernel_rfl) rfl #[.agg #[.int .u64 a0_0, .int .u64 a0_1, .int .i64 a0_2, .int .i64 a0_3, .int .i64 a0_4, .slice A0_5 l0_5.length c0_5, .int .u64 a0_6]] rfl (by (try simp only [List.map_toArray, List.map_cons, List.map_nil]); first | done | rfl | (simp only [List.length_drop, List.length_take]; rfl)) ?_; (with_reducible refine (potsherdref13_CheckOut.calls k a0_0 a0_1 a0_2 a0_3 a0_4 _ _ l0_5 a0_6 t521 _ ?side1 ?side2 A2.out).mono ?_); (case side1 => repeat (first | exact (Kd.C_below HR0_5.out HB.out) | (with_reducible refine Kd.C_alloc ?_ _) | (with_reducible refine Kd.C_drewN ?_ _) | (with_reducible refine Kd.C_drew ?_))); (case side2 => exact HC0_5.out); rintro e w24 ⟨rfl, hb⟩; refine ⟨_, rfl, ?_⟩; have n0_ := Aside0.mk (blk_below (g := gb520) (o := .cells #[.int .u64 a0_0, .int .u64 a0_1, .int .i64 a0_2, .int .i64 a0_3, .int .i64 a0_4, .slice A0_5 l0_5.length c0_5, .int .u64 a0_6] 65 (0, 0)) (by (with_reducible repeat (first | refine blk_drewN ?_ _ | refine blk_drew ?_ | refine blk_alloc ?_ _)); exact BK520.out) hb); have n1_ := Aside0.mk (below_step (by repeat (first | (with_reducible first | exact HB.out | apply below_alloc | apply pw_below_drewN | apply below_drew1 | refine below_set ?_ GE520.out) | exact HB.out)) hb); clear BK520; clear HB; have BK520 := n0_; have HB := n1_; clear n0_ n1_; (try clear hb); (try clear hb2); (try clear hk); (try clear hi)))
    go_ret2
    exact ⟨_, by first | rfl | (simp [errW_none, errW_some] <;> rfl) | (simp [*, errW_none, errW_some] <;> rfl), by first | exact Kd.R_nil _ _ _ _ _ | exact Kd.N_nil _ _ _ _ _ | exact Kd.V_nil _ _ _ _ _ | exact Kd.Q_nil _ _ _ _ _ | exact Kd.S_nil _ _ _ _ _, by repeat (first | (with_reducible first | exact HB.out | apply below_alloc | apply pw_below_drewN | apply below_drew1 | refine below_set ?_ GE520.out) | exact HB.out)⟩
end Go.Proofs.Ytkbemagcoojmmaa.Lx
