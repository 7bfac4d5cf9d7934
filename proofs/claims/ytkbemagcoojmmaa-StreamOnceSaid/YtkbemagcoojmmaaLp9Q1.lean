/- Printed by the kit's printer (gp.sh with conf01b.py), then turned by asm01.py: stream_Send. Condition: utf8's tables are laid, where a function reads them. -/
import Derived.Test.YtkbemagcoojmmaaCs3Q1
namespace Go.Proofs.Ytkbemagcoojmmaa.Lx
open Go.RowKit Go.Proofs.Ytkbemagcoojmmaa.G Go.Proofs.YtkbemagcoojmmaaW.PrintWords Go.Proofs.YtkbemagcoojmmaaW.PrintLast Go.Proofs.YtkbemagcoojmmaaW.PrintMore
attribute [local go_sem] max2_int min2_int max_two min_two max_three min_three max_four min_four str_leq str_gtr str_geq
set_option linter.unusedVariables false
set_option linter.unusedSimpArgs false
def stream_Send.l0 : Nat → List (S52) → List (List (List (S112))) → List (List (List (S112))) → Int → Int → Int → Int → Int → Int → Int → List (List (List (S112))) → Int → Option ((List (S52)) × Int)
  | 0, _, _, _, _, _, _, _, _, _, _, _, _ => none
  | k + 1, x5, x6, x23, x24, x25, x500000, x500001, x500002, x500003, x500004, x500005, x500006 => if x25 < x24 then (if 0 ≤ x25 then (if x25 < (x23.length : Int) then ((stream_own.f k (rd_L7 x23 x25)).bind fun t512 => (if x5.length < 219902325555 then (stream_Send.l0 k (x5 ++ [(⟨4, 0, (⟨(⟨x500000, x500001⟩ : S24), x500002, x500003, x500004⟩ : S26), (⟨(⟨#[]⟩ : ByteArray), (⟨#[]⟩ : ByteArray), 0, 0, 0, ([] : List (S130)), ([] : List Int), ([] : List (S119)), false, ([] : List ByteArray), ([] : List Int)⟩ : S38), ([] : List (S91)), (⟨0, 0, (⟨0, (⟨#[]⟩ : ByteArray), (⟨0, 0⟩ : S42), 0, ([] : List Int)⟩ : S44), (⟨0, (⟨#[]⟩ : ByteArray), (⟨0, 0⟩ : S42), 0, ([] : List Int)⟩ : S44), false, 0, ([] : List Int)⟩ : S46), ([] : List Int), IntKind.u64.wrap (x500006 + (IntKind.u64.wrap (x25))), (x25 == (wrap64 ((x6.length : Int) - 1))), t512, (⟨(⟨#[]⟩ : ByteArray), (⟨0, 0⟩ : S42), 0, ([] : List (S114)), ([] : List (List (S112)))⟩ : S49), ([] : List (S125))⟩ : S52)]) x6 x23 x24 (wrap64 (x25 + 1)) x500000 x500001 x500002 x500003 x500004 x500005 x500006) else (none))) else (none)) else (none)) else (some (x5, 0))
def stream_Send.f (k : Nat) (a0_0 : Int) (a0_1 : Int) (a0_2 : Int) (a0_3 : Int) (a0_4 : Int) (l0_5 : List (List (List (S112)))) (a0_6 : Int) : Option ((List (S52)) × Int) := (stream_CheckOut.f k a0_0 a0_1 a0_2 a0_3 a0_4 l0_5 a0_6).bind fun t500 => (if t500 = 0 then (if 0 ≤ a0_6 then (if a0_6 ≤ (l0_5.length : Int) then ((some (l0_5.drop (a0_6 : Int).toNat : List (List (List (S112))))).bind fun y501 => (if 0 ≤ (mn (y501.length : Int) 4) then (if (mn (y501.length : Int) 4) ≤ (y501.length : Int) then ((some (y501.take ((mn (y501.length : Int) 4) : Int).toNat : List (List (List (S112))))).bind fun y506 => (stream_Send.l0 k ([] : List (S52)) y501 y506 (y506.length : Int) 0 a0_0 a0_1 a0_2 a0_3 a0_4 l0_5 a0_6)) else (none)) else (none))) else (none)) else (none)) else (some (([] : List (S52)), t500)))
def stream_Send.T9 : Bool × List (List Nat × List Nat) := (true, [([], []), ([], []), ([1], [1]), ([], []), ([3], [3]), ([], []), ([5], [5]), ([4, 6], [4, 6]), ([], []), ([], []), ([9], [9]), ([10], [10]), ([8, 11], [8, 11]), ([], []), ([13], [13]), ([2, 7, 12, 14], [2, 7, 12, 14]), ([15], [15]), ([0, 16, 14], [0, 16]), ([17, 17, 0, 1, 2, 3, 4, 5, 6, 7, 8, 9, 10, 11, 12, 13, 14, 15, 16, 17], [0, 17])])
def stream_Send.B9 : List Nat := [0, 0, 2, 0, 8, 0, 32, 120, 0, 0, 512, 1536, 3840, 0, 8192, 32766, 65534, 131071, 262143]
theorem stream_Send.tab9 : rtab .any (opsOf Try.f24 9) = stream_Send.T9 := by kernel_rfl
theorem stream_Send.bits9 : waitsOk stream_Send.T9.2 stream_Send.B9 = true := by kernel_rfl
set_option maxHeartbeats 8000000 in
set_option maxRecDepth 100000 in
theorem stream_Send.calls (k : Nat) (a0_0 : Int) (a0_1 : Int) (a0_2 : Int) (a0_3 : Int) (a0_4 : Int) (P0_5_ : Nat → Prop) (A0_5 : Option Addr) (c0_5 : Nat) (l0_5 : List (List (List (S112)))) (a0_6 : Int) (r1 : List (S52)) (r2 : Int) (w : World) (hs0_5 : Kd.V (Kd.slice 101 (Kd.slice 112 k112)) 28 w w.heap.size (fun k_ => P0_5_ k_) (.slice A0_5 l0_5.length c0_5) l0_5) (h : stream_Send.f k a0_0 a0_1 a0_2 a0_3 a0_4 l0_5 a0_6 = some (r1, r2)) :
    Calls Try.prog 24 #[.agg #[.int .u64 a0_0, .int .u64 a0_1, .int .i64 a0_2, .int .i64 a0_3, .int .i64 a0_4, .slice A0_5 l0_5.length c0_5, .int .u64 a0_6]] w fun e w' => ∃ v0_ : Value, e = .returned (.tuple #[v0_, .int .i64 r2]) ∧ Kd.N k52 52 w' w.heap.size (fun k_ => (P0_5_ k_ ∨ w.heap.size ≤ k_)) v0_ r1 ∧ Below w.heap.size w w' := by
  have hu65 := Try.underlying65
  have hu26 := Try.underlying26
  have hu52 := Try.underlying52
  have HO0_5 := Aside0.mk (show Kd.V (Kd.slice 101 (Kd.slice 112 k112)) 28 w w.heap.size (fun k_ => (P0_5_ k_ ∨ w.heap.size ≤ k_)) (.slice A0_5 l0_5.length c0_5) l0_5 from Kd.V_mono hs0_5 (fun k_ hk => .inl hk))
  have HB := Aside0.mk (Below.refl w.heap.size w)
  have H : ((stream_CheckOut.f k a0_0 a0_1 a0_2 a0_3 a0_4 l0_5 a0_6).bind fun t500 => (if t500 = 0 then (if 0 ≤ a0_6 then (if a0_6 ≤ (l0_5.length : Int) then ((some (l0_5.drop (a0_6 : Int).toNat : List (List (List (S112))))).bind fun y501 => (if 0 ≤ (mn (y501.length : Int) 4) then (if (mn (y501.length : Int) 4) ≤ (y501.length : Int) then ((some (y501.take ((mn (y501.length : Int) 4) : Int).toNat : List (List (List (S112))))).bind fun y506 => (stream_Send.l0 k ([] : List (S52)) y501 y506 (y506.length : Int) 0 a0_0 a0_1 a0_2 a0_3 a0_4 l0_5 a0_6)) else (none)) else (none))) else (none)) else (none)) else (some (([] : List (S52)), t500)))) = some (r1, r2) := h
  clear h
  replace H := Option.bind_eq_some_iff.mp H
  obtain ⟨t500, A20, H⟩ := H
  replace H : (if t500 = 0 then (if 0 ≤ a0_6 then (if a0_6 ≤ (l0_5.length : Int) then ((some (l0_5.drop (a0_6 : Int).toNat : List (List (List (S112))))).bind fun y501 => (if 0 ≤ (mn (y501.length : Int) 4) then (if (mn (y501.length : Int) 4) ≤ (y501.length : Int) then ((some (y501.take ((mn (y501.length : Int) 4) : Int).toNat : List (List (List (S112))))).bind fun y506 => (stream_Send.l0 k ([] : List (S52)) y501 y506 (y506.length : Int) 0 a0_0 a0_1 a0_2 a0_3 a0_4 l0_5 a0_6)) else (none)) else (none))) else (none)) else (none)) else (some (([] : List (S52)), t500))) = some (r1, r2) := H
  have A2 := Aside0.mk A20
  clear A20
  by_cases c3 : t500 = 0
  · rw [if_pos c3] at H
    have c3b0 : (t500 == 0) = true := beq_iff_eq.mpr c3
    have c3b1 : (t500 != 0) = false := bne_eq_false_iff_eq.mpr c3
    clear c3
    by_cases c4 : 0 ≤ a0_6
    · rw [if_pos c4] at H
      have c4b0 := eq_true c4
      have c4b1 : decide (0 ≤ a0_6) = true := decide_eq_true c4
      clear c4
      by_cases c5 : a0_6 ≤ (l0_5.length : Int)
      · rw [if_pos c5] at H
        have c5b0 := eq_true c5
        have c5b1 : decide (a0_6 ≤ (l0_5.length : Int)) = true := decide_eq_true c5
        clear c5
        obtain ⟨y501, hy501⟩ : ∃ y_ : List (List (List (S112))), y_ = (l0_5.drop (a0_6 : Int).toNat) := ⟨_, rfl⟩
        replace H : (if 0 ≤ (mn (y501.length : Int) 4) then (if (mn (y501.length : Int) 4) ≤ (y501.length : Int) then ((some (y501.take ((mn (y501.length : Int) 4) : Int).toNat : List (List (List (S112))))).bind fun y506 => (stream_Send.l0 k ([] : List (S52)) y501 y506 (y506.length : Int) 0 a0_0 a0_1 a0_2 a0_3 a0_4 l0_5 a0_6)) else (none)) else (none)) = some (r1, r2) := by first | (rw [hy501]; with_reducible exact H) | (have H2_ := (Option.bind_some _ _).symm.trans H; rw [hy501]; with_reducible exact H2_) | (have H2_ := (Option.bind_some _ _).symm.trans H; with_reducible exact H2_) | with_reducible exact H | (rw [hy501]; exact H) | exact H
        have Ny501 := Aside0.mk hy501
        clear hy501
        obtain ⟨ji6, hji6⟩ : ∃ j_ : Int, (mn (y501.length : Int) 4) = j_ := ⟨_, rfl⟩
        replace H : (if 0 ≤ (ji6) then (if (ji6) ≤ (y501.length : Int) then ((some (y501.take ((ji6) : Int).toNat : List (List (List (S112))))).bind fun y506 => (stream_Send.l0 k ([] : List (S52)) y501 y506 (y506.length : Int) 0 a0_0 a0_1 a0_2 a0_3 a0_4 l0_5 a0_6)) else (none)) else (none)) = some (r1, r2) := by first | (rw [hji6] at H; exact H) | (simp only [hji6] at H ⊢; exact H)
        (try rw [hji6] at A2)
        (try (have hji6h : ji6 ≤ 4 := by (rw [← hji6]; unfold mn; (repeat' split) <;> omega)))
        (try (have hji6g : ji6 ≤ 64 := by omega))
        (try (have hji6l : 0 ≤ ji6 := by (rw [← hji6]; unfold mn; (repeat' split) <;> omega)))
        (try (have hji6m : 0 ≤ ji6 := by omega))
        have hji6_ : (if 4 < (y501.length : Int) then 4 else (y501.length : Int)) = ji6 := hji6
        by_cases c7 : 0 ≤ (ji6)
        · rw [if_pos c7] at H
          have c7b0 := eq_true c7
          have c7b1 : decide (0 ≤ (ji6)) = true := decide_eq_true c7
          clear c7
          by_cases c8 : (ji6) ≤ (y501.length : Int)
          · rw [if_pos c8] at H
            have c8b0 := eq_true c8
            have c8b1 : decide ((ji6) ≤ (y501.length : Int)) = true := decide_eq_true c8
            clear c8
            obtain ⟨y506, hy506⟩ : ∃ y_ : List (List (List (S112))), y_ = (y501.take ((ji6) : Int).toNat) := ⟨_, rfl⟩
            replace H : (stream_Send.l0 k ([] : List (S52)) y501 y506 (y506.length : Int) 0 a0_0 a0_1 a0_2 a0_3 a0_4 l0_5 a0_6) = some (r1, r2) := by first | (rw [hy506]; with_reducible exact H) | (have H2_ := (Option.bind_some _ _).symm.trans H; rw [hy506]; with_reducible exact H2_) | (have H2_ := (Option.bind_some _ _).symm.trans H; with_reducible exact H2_) | with_reducible exact H | (rw [hy506]; exact H) | exact H
            have Ny506 := Aside0.mk hy506
            clear hy506
            have H' := Aside0.mk H
            clear H
            go_enter Try.func24, Try.ntmps24
            go_wp2_with (first | ((with_reducible refine gate_dst (N := 1) rfl ?_); refine box_event ?hg (N := 1) ?hd (cs := #[.int .u64 a0_0, .int .u64 a0_1, .int .i64 a0_2, .int .i64 a0_3, .int .i64 a0_4, .slice A0_5 l0_5.length c0_5, .int .u64 a0_6]) (t := 65) ?hr ?_; (case hd => rfl); (case hg => rfl); (case hr => first | (go_simp; done) | (go_simp; rfl)); intro gb499 hg w9 hbox hb; have n0_ := Aside0.mk (Kd.V_below (Kd.V_elderB (by (with_reducible repeat (first | apply Kd.V_alloc | apply Kd.V_drewN | apply Kd.V_drew)); exact HO0_5.out) gb499 (Nat.le_of_eq hg.symm)) hb); have n1_ := Aside0.mk (below_step (by repeat (first | (with_reducible first | exact HB.out | apply below_alloc | apply pw_below_drewN | apply below_drew1) | exact HB.out)) hb); have n2_ := Aside0.mk (hbox); have n3_ := Aside0.mk ((by rw [hg]; exact (below_size (by repeat (first | (with_reducible first | exact HB.out | apply below_alloc | apply pw_below_drewN | apply below_drew1) | exact HB.out))) : w.heap.size ≤ gb499)); have n4_ := Aside0.mk ((by rw [hg]; exact (below_size (by repeat (first | (with_reducible first | exact HB.out | apply below_alloc | apply pw_below_drewN | apply below_drew1) | exact HB.out))) : w.heap.size ≤ gb499)); clear HO0_5; clear HB; have HO0_5 := n0_; have HB := n1_; have BK499 := n2_; have GW499 := n3_; have GE499 := n4_; clear n0_ n1_ n2_ n3_ n4_; clear hb hbox hg; have hcz10_0 : w9.cell? ⟨gb499, 0, none⟩ = some (.int .u64 a0_0) := (blk_cell BK499.out 0).trans rfl; have hcz10_1 : w9.cell? ⟨gb499, 1, none⟩ = some (.int .u64 a0_1) := (blk_cell BK499.out 1).trans rfl; have hcz10_2 : w9.cell? ⟨gb499, 2, none⟩ = some (.int .i64 a0_2) := (blk_cell BK499.out 2).trans rfl; have hcz10_3 : w9.cell? ⟨gb499, 3, none⟩ = some (.int .i64 a0_3) := (blk_cell BK499.out 3).trans rfl; have hcz10_4 : w9.cell? ⟨gb499, 4, none⟩ = some (.int .i64 a0_4) := (blk_cell BK499.out 4).trans rfl; have hcz10_5 : w9.cell? ⟨gb499, 5, none⟩ = some (.slice A0_5 l0_5.length c0_5) := (blk_cell BK499.out 5).trans rfl; have hcz10_6 : w9.cell? ⟨gb499, 6, none⟩ = some (.int .u64 a0_6) := (blk_cell BK499.out 6).trans rfl; have hfz10_0 := blk_frozen BK499.out 0; have hfz10_1 := blk_frozen BK499.out 1; have hfz10_2 := blk_frozen BK499.out 2; have hfz10_3 := blk_frozen BK499.out 3; have hfz10_4 := blk_frozen BK499.out 4; have hfz10_5 := blk_frozen BK499.out 5; have hfz10_6 := blk_frozen BK499.out 6) | ((with_reducible refine gate_callee (f := 21) rfl ?_); refine goesL_ (some 10) rfl rfl Try.func21 (by kernel_rfl) rfl #[.agg #[.int .u64 a0_0, .int .u64 a0_1, .int .i64 a0_2, .int .i64 a0_3, .int .i64 a0_4, .slice A0_5 l0_5.length c0_5, .int .u64 a0_6]] rfl (by (try simp only [List.map_toArray, List.map_cons, List.map_nil]); first | done | rfl | (simp only [List.length_drop, List.length_take]; rfl)) ?_; (with_reducible refine (stream_CheckOut.calls k a0_0 a0_1 a0_2 a0_3 a0_4 _ _ l0_5 a0_6 t500 _ ?side1 ?side2 A2.out).mono ?_); (case side1 => repeat (first | exact (Kd.V_reads' HO0_5.out).2.2 | (with_reducible refine Kd.C_alloc ?_ _) | (with_reducible refine Kd.C_drewN ?_ _) | (with_reducible refine Kd.C_drew ?_))); (case side2 => exact (Kd.V_reads' HO0_5.out).2.1); rintro e w11 ⟨rfl, hb⟩; refine ⟨_, rfl, ?_⟩; have n0_ := Aside0.mk (Kd.V_below (by (with_reducible repeat (first | apply Kd.V_alloc | apply Kd.V_drewN | apply Kd.V_drew)); exact HO0_5.out) hb); have n1_ := Aside0.mk (blk_below (g := gb499) (o := .cells #[.int .u64 a0_0, .int .u64 a0_1, .int .i64 a0_2, .int .i64 a0_3, .int .i64 a0_4, .slice A0_5 l0_5.length c0_5, .int .u64 a0_6] 65 (0, 0)) (by (with_reducible repeat (first | refine blk_drewN ?_ _ | refine blk_drew ?_ | refine blk_alloc ?_ _)); exact BK499.out) hb); have n2_ := Aside0.mk (below_step (by repeat (first | (with_reducible first | exact HB.out | apply below_alloc | apply pw_below_drewN | apply below_drew1 | refine below_set ?_ GE499.out) | exact HB.out)) hb); clear HO0_5; clear BK499; clear HB; have HO0_5 := n0_; have BK499 := n1_; have HB := n2_; clear n0_ n1_ n2_; (try clear hb); (try clear hb2); (try clear hk); (try clear hi); have hcz12_0 : w11.cell? ⟨gb499, 0, none⟩ = some (.int .u64 a0_0) := (blk_cell BK499.out 0).trans rfl; have hcz12_1 : w11.cell? ⟨gb499, 1, none⟩ = some (.int .u64 a0_1) := (blk_cell BK499.out 1).trans rfl; have hcz12_2 : w11.cell? ⟨gb499, 2, none⟩ = some (.int .i64 a0_2) := (blk_cell BK499.out 2).trans rfl; have hcz12_3 : w11.cell? ⟨gb499, 3, none⟩ = some (.int .i64 a0_3) := (blk_cell BK499.out 3).trans rfl; have hcz12_4 : w11.cell? ⟨gb499, 4, none⟩ = some (.int .i64 a0_4) := (blk_cell BK499.out 4).trans rfl; have hcz12_5 : w11.cell? ⟨gb499, 5, none⟩ = some (.slice A0_5 l0_5.length c0_5) := (blk_cell BK499.out 5).trans rfl; have hcz12_6 : w11.cell? ⟨gb499, 6, none⟩ = some (.int .u64 a0_6) := (blk_cell BK499.out 6).trans rfl; have hfz12_0 := blk_frozen BK499.out 0; have hfz12_1 := blk_frozen BK499.out 1; have hfz12_2 := blk_frozen BK499.out 2; have hfz12_3 := blk_frozen BK499.out 3; have hfz12_4 := blk_frozen BK499.out 4; have hfz12_5 := blk_frozen BK499.out 5; have hfz12_6 := blk_frozen BK499.out 6; have q13 : (a0_6 : Int) ≤ ((l0_5.length : Int) : Int) := of_decide_eq_true (by first | (with_reducible assumption) | assumption); obtain ⟨i013, hi013, _, hsz13, _⟩ := info_parts info28; have hroom13 : l0_5.length ≤ c0_5 := (Kd.V_reads' HO0_5.out).2.1; have hC13 : Kd.F (Kd.slice 101 (Kd.slice 112 k112)) _ _ A0_5 l0_5.length l0_5 := (Kd.V_at (base := w.heap.size) HO0_5.out).2.2; have q013 : (0 : Int) ≤ (a0_6 : Int) := of_decide_eq_true (by first | (with_reducible assumption) | assumption); have hcut13 := cut_from (P := Try.prog) 63 28 .u64 Try.underlying63 hi013 1 hsz13 A0_5 l0_5.length c0_5 a0_6 q013 q13; have hr13 := Kd.F_cut (m := (a0_6 : Int).toNat) (c := c0_5) hC13 (by omega) hroom13; obtain ⟨A13, hA13⟩ : ∃ A1, A1 = (if c0_5 = (a0_6 : Int).toNat then A0_5 else (A0_5 : Option Addr).map (·.add ((a0_6 : Int).toNat * 1))) := ⟨_, rfl⟩; obtain ⟨c13, hc13⟩ : ∃ c1, c1 = c0_5 - (a0_6 : Int).toNat := ⟨_, rfl⟩; have hy13 : y501.length = l0_5.length - (a0_6 : Int).toNat := (by rw [Ny501.out, List.length_drop] <;> omega); rw [show (l0_5).drop (a0_6 : Int).toNat = y501 from Ny501.out.symm] at hr13; replace hr13 : Kd.F (Kd.slice 101 (Kd.slice 112 k112)) _ _ A13 y501.length y501 := (by rw [hA13]; exact hr13); rw [← hy13, ← hA13, ← hc13] at hcut13; have HO505 := Aside0.mk (show Kd.V (Kd.slice 101 (Kd.slice 112 k112)) 28 _ w.heap.size _ (.slice A13 y501.length c13) y501 from Kd.V_mk (by rw [hy13, hc13]; exact Nat.sub_le_sub_right hroom13 _) hr13); have HC505 := Aside0.mk (show y501.length ≤ c13 from by rw [hy13, hc13]; exact Nat.sub_le_sub_right hroom13 _); clear hr13 hC13 hroom13 hi013 hsz13 hc13; have KY13 := Aside0.mk hy13; have KA13 := Aside0.mk hA13; clear hy13 hA13; replace q13 := eq_true q13; have q14 : ((ji6) : Int) ≤ ((y501.length : Int) : Int) := of_decide_eq_true (by first | (with_reducible assumption) | assumption); obtain ⟨i014, hi014, _, hsz14, _⟩ := info_parts info28; have hroom14 : y501.length ≤ c13 := (Kd.V_reads' HO505.out).2.1; have hC14 : Kd.F (Kd.slice 101 (Kd.slice 112 k112)) _ _ A13 y501.length y501 := (Kd.V_at (base := w.heap.size) HO505.out).2.2; have hcut14 := cut_to (P := Try.prog) 63 28 .i64 Try.underlying63 hi014 A13 y501.length c13 (ji6) (of_decide_eq_true (by first | (with_reducible assumption) | assumption)) q14 hroom14; have hr14 := Kd.F_take (m := ((ji6) : Int).toNat) hC14 (by omega); have hy14 : y506.length = ((ji6) : Int).toNat := (by rw [Ny506.out, List.length_take]; omega); rw [← Ny506.out] at hr14; rw [← hy14] at hcut14; have HO510 := Aside0.mk (show Kd.V (Kd.slice 101 (Kd.slice 112 k112)) 28 _ w.heap.size _ (.slice A13 y506.length c13) y506 from Kd.V_mk (by omega) hr14); have HC510 := Aside0.mk (show y506.length ≤ c13 from by omega); clear hr14 hC14 hroom14 hi014 hsz14; have KY14 := Aside0.mk hy14; clear hy14; replace q14 := eq_true q14))
            go_loopg [5, 25] k (fun kq v5 v25 w' => ∃ (x5_1 : List (S52)) (x25_1 : Int), v25 = .int .i64 x25_1 ∧ Aside0 (stream_Send.l0 kq x5_1 y501 y506 (y506.length : Int) x25_1 a0_0 a0_1 a0_2 a0_3 a0_4 l0_5 a0_6 = some (r1, r2)) ∧ Aside0 (kq ≤ k) ∧ Aside0 (Kd.N k52 52 w' w.heap.size (fun k_ => (P0_5_ k_ ∨ w.heap.size ≤ k_) ∧ k_ ≠ gb499) v5 x5_1) ∧ Aside0 (Kd.V (Kd.slice 101 (Kd.slice 112 k112)) 28 w' w.heap.size (fun k_ => (P0_5_ k_ ∨ w.heap.size ≤ k_) ∧ some k_ ≠ (v5 : Value).ownBlock ∧ k_ ≠ gb499) (.slice A13 y501.length c13) y501) ∧ Aside0 (Kd.V (Kd.slice 101 (Kd.slice 112 k112)) 28 w' w.heap.size (fun k_ => (P0_5_ k_ ∨ w.heap.size ≤ k_) ∧ some k_ ≠ (v5 : Value).ownBlock ∧ k_ ≠ gb499) (.slice A13 y506.length c13) y506) ∧ Aside0 (Kd.V (Kd.slice 101 (Kd.slice 112 k112)) 28 w' w.heap.size (fun k_ => (P0_5_ k_ ∨ w.heap.size ≤ k_) ∧ some k_ ≠ (v5 : Value).ownBlock ∧ k_ ≠ gb499) (.slice A0_5 l0_5.length c0_5) l0_5) ∧ Aside0 (w'.heap[gb499]? = some (.cells #[.int .u64 a0_0, .int .u64 a0_1, .int .i64 a0_2, .int .i64 a0_3, .int .i64 a0_4, (.slice A0_5 l0_5.length c0_5), .int .u64 a0_6] 65 (0, 0))) ∧ Aside0 (Below w.heap.size w w'))
            case atStart => exact ⟨(([] : List (S52))), (0), (by first | rfl | (simp; done) | (simp [*]; done)), H', ⟨Nat.le_refl _⟩, ⟨by first | exact Kd.R_nil _ _ _ _ _ | exact Kd.N_nil _ _ _ _ _ | exact Kd.V_nil _ _ _ _ _ | exact Kd.Q_nil _ _ _ _ _ | exact Kd.S_nil _ _ _ _ _⟩, ⟨by (with_reducible repeat (first | apply Kd.V_alloc | apply Kd.V_drewN | apply Kd.V_drew)); exact Kd.V_mono HO505.out (fun _ hk => ⟨hk.1, ⟨(by simp [Value.ownBlock]), hk.2⟩⟩)⟩, ⟨by (with_reducible repeat (first | apply Kd.V_alloc | apply Kd.V_drewN | apply Kd.V_drew)); exact Kd.V_mono HO510.out (fun _ hk => ⟨hk.1, ⟨(by simp [Value.ownBlock]), hk.2⟩⟩)⟩, ⟨by (with_reducible repeat (first | apply Kd.V_alloc | apply Kd.V_drewN | apply Kd.V_drew)); exact Kd.V_mono HO0_5.out (fun _ hk => ⟨hk.1, ⟨(by simp [Value.ownBlock]), hk.2⟩⟩)⟩, ⟨by (with_reducible repeat (first | refine blk_drewN ?_ _ | refine blk_drew ?_ | refine blk_alloc ?_ _)); exact BK499.out⟩, ⟨by repeat (first | (with_reducible first | exact HB.out | apply below_alloc | apply pw_below_drewN | apply below_drew1 | refine below_set ?_ GE499.out) | exact HB.out)⟩⟩
            case round =>
              clear H'
              try clear c1
              try clear q1
              try clear c2
              try clear p2
              try clear c3
              try clear c3b0
              try clear c3b1
              try clear c4
              try clear c4b0
              try clear c4b1
              try clear c5
              try clear c5b0
              try clear c5b1
              try clear c7
              try clear c7b0
              try clear c7b1
              try clear c8
              try clear c8b0
              try clear c8b1
              try clear c13
              try clear q13
              try clear q14
              try clear hcz10_0
              try clear hcz10_1
              try clear hcz10_2
              try clear hcz10_3
              try clear hcz10_4
              try clear hcz10_5
              try clear hcz10_6
              try clear hcz12_0
              try clear hcz12_1
              try clear hcz12_2
              try clear hcz12_3
              try clear hcz12_4
              try clear hcz12_5
              try clear hcz12_6
              try clear hfz10_0
              try clear hfz10_1
              try clear hfz10_2
              try clear hfz10_3
              try clear hfz10_4
              try clear hfz10_5
              try clear hfz10_6
              try clear hfz12_0
              try clear hfz12_1
              try clear hfz12_2
              try clear hfz12_3
              try clear hfz12_4
              try clear hfz12_5
              try clear hfz12_6
              try clear q013
              try clear q13
              try clear q14
              obtain ⟨x5_1, x25_1, rfl, HA, HK1, HO_5, HO_6, HO_23, HO_500005, BK499, HB⟩ := hrel
              cases gk with
              | zero => exact absurd HA.out (by simp [stream_Send.l0])
              | succ k1 =>
                have H := HA.out
                clear HA
                simp only [stream_Send.l0] at H
                by_cases c15 : x25_1 < (y506.length : Int)
                · rw [if_pos c15] at H
                  have c15b0 : decide (x25_1 < (y506.length : Int)) = true := decide_eq_true c15
                  clear c15
                  by_cases c16 : 0 ≤ x25_1
                  · rw [if_pos c16] at H
                    have c16b0 : decide (0 ≤ x25_1) = true := decide_eq_true c16
                    clear c16
                    by_cases c17 : x25_1 < (y506.length : Int)
                    · rw [if_pos c17] at H
                      have c17b0 : decide (x25_1 < (y506.length : Int)) = true := decide_eq_true c17
                      clear c17
                      replace H := Option.bind_eq_some_iff.mp H
                      obtain ⟨t512, A180, H⟩ := H
                      replace H : (if x5_1.length < 219902325555 then (stream_Send.l0 k1 (x5_1 ++ [(⟨4, 0, (⟨(⟨a0_0, a0_1⟩ : S24), a0_2, a0_3, a0_4⟩ : S26), (⟨(⟨#[]⟩ : ByteArray), (⟨#[]⟩ : ByteArray), 0, 0, 0, ([] : List (S130)), ([] : List Int), ([] : List (S119)), false, ([] : List ByteArray), ([] : List Int)⟩ : S38), ([] : List (S91)), (⟨0, 0, (⟨0, (⟨#[]⟩ : ByteArray), (⟨0, 0⟩ : S42), 0, ([] : List Int)⟩ : S44), (⟨0, (⟨#[]⟩ : ByteArray), (⟨0, 0⟩ : S42), 0, ([] : List Int)⟩ : S44), false, 0, ([] : List Int)⟩ : S46), ([] : List Int), IntKind.u64.wrap (a0_6 + (IntKind.u64.wrap (x25_1))), (x25_1 == (wrap64 ((y501.length : Int) - 1))), t512, (⟨(⟨#[]⟩ : ByteArray), (⟨0, 0⟩ : S42), 0, ([] : List (S114)), ([] : List (List (S112)))⟩ : S49), ([] : List (S125))⟩ : S52)]) y501 y506 (y506.length : Int) (wrap64 (x25_1 + 1)) a0_0 a0_1 a0_2 a0_3 a0_4 l0_5 a0_6) else (none)) = some (r1, r2) := H
                      have A18 := Aside0.mk A180
                      clear A180
                      by_cases c19 : x5_1.length < 219902325555
                      · rw [if_pos c19] at H
                        have LMc19 := Aside0.mk c19
                        clear c19
                        obtain ⟨y515, hy515⟩ : ∃ y_ : List (S52), y_ = (x5_1 ++ [(⟨4, 0, (⟨(⟨a0_0, a0_1⟩ : S24), a0_2, a0_3, a0_4⟩ : S26), (⟨(⟨#[]⟩ : ByteArray), (⟨#[]⟩ : ByteArray), 0, 0, 0, ([] : List (S130)), ([] : List Int), ([] : List (S119)), false, ([] : List ByteArray), ([] : List Int)⟩ : S38), ([] : List (S91)), (⟨0, 0, (⟨0, (⟨#[]⟩ : ByteArray), (⟨0, 0⟩ : S42), 0, ([] : List Int)⟩ : S44), (⟨0, (⟨#[]⟩ : ByteArray), (⟨0, 0⟩ : S42), 0, ([] : List Int)⟩ : S44), false, 0, ([] : List Int)⟩ : S46), ([] : List Int), IntKind.u64.wrap (a0_6 + (IntKind.u64.wrap (x25_1))), (x25_1 == (wrap64 ((y501.length : Int) - 1))), t512, (⟨(⟨#[]⟩ : ByteArray), (⟨0, 0⟩ : S42), 0, ([] : List (S114)), ([] : List (List (S112)))⟩ : S49), ([] : List (S125))⟩ : S52)]) := ⟨_, rfl⟩
                        replace H : (stream_Send.l0 k1 y515 y501 y506 (y506.length : Int) (wrap64 (x25_1 + 1)) a0_0 a0_1 a0_2 a0_3 a0_4 l0_5 a0_6) = some (r1, r2) := by first | (rw [hy515]; with_reducible exact H) | (have H2_ := (Option.bind_some _ _).symm.trans H; rw [hy515]; with_reducible exact H2_) | (have H2_ := (Option.bind_some _ _).symm.trans H; with_reducible exact H2_) | with_reducible exact H | (rw [hy515]; exact H) | exact H
                        have Ny515 := Aside0.mk hy515
                        clear hy515
                        have H' := Aside0.mk H
                        clear H
                        have p511 : 0 ≤ (x25_1 : Int) := of_decide_eq_true (by first | (with_reducible assumption) | assumption)
                        have q511 : x25_1 < (y506.length : Int) := of_decide_eq_true (by first | (with_reducible assumption) | assumption)
                        obtain ⟨ad511, A511_0, c511_0, e511, hx511_0, hl511_0, hi511_0⟩ := at_L7 (Kd.V_reads' HO_23.out).2.2 x25_1 p511 q511
                        cases e511
                        obtain ⟨ce511, hce511, hMe511, hcc511⟩ := Kd.V_get HO_23.out [] x25_1 p511 (by first | exact q511 | exact of_decide_eq_true (by first | (with_reducible assumption) | assumption) | (have e_ := (Kd.V_reads' HO_23.out).1; omega))
                        obtain ⟨ua511_0, uc511_0, rfl, ul511_0, ge511_0⟩ := Kd.FK_slice_open hMe511
                        have hv511_0 := hcc511 0 _ rfl
                        rw [Nat.add_zero, show ((Kd.slice 101 (Kd.slice 112 k112))).sz = 1 from rfl, Nat.mul_one] at hv511_0
                        replace hv511_0 := Option.some.inj (hv511_0.symm.trans hx511_0)
                        injection hv511_0 with hva_ hvn_ hvc_
                        rw [hva_] at ge511_0
                        rw [hvc_] at ul511_0
                        have HL511_0 := Aside0.mk (show Kd.V (Kd.slice 112 k112) 101 _ w.heap.size _ _ (rd_L7 y506 x25_1) from Kd.V_mk ul511_0 ge511_0)
                        clear hva_ hvn_ hvc_ ge511_0 ul511_0
                        clear hcc511 hce511
                        have HR511_0 := Aside0.mk hi511_0
                        have HC511_0 := Aside0.mk hl511_0
                        clear hi511_0 hl511_0
                        replace p511 := eq_true p511
                        replace q511 := eq_true q511
                        try go_wp2
                        have n0_ := Aside0.mk (Kd.N_drew HO_5.out)
                        have n1_ := Aside0.mk (Kd.V_drew HO_6.out)
                        have n2_ := Aside0.mk (Kd.V_drew HO_23.out)
                        have n3_ := Aside0.mk (Kd.V_drew HO_500005.out)
                        have n4_ := Aside0.mk (Kd.V_drew HL511_0.out)
                        have n5_ := Aside0.mk (blk_drew BK499.out)
                        have n6_ := Aside0.mk (Kd.C_drew HR511_0.out)
                        have n7_ := Aside0.mk (below_drew1 HB.out)
                        clear HO_5
                        clear HO_6
                        clear HO_23
                        clear HO_500005
                        clear HL511_0
                        clear BK499
                        clear HR511_0
                        clear HB
                        have HO_5 := n0_
                        have HO_6 := n1_
                        have HO_23 := n2_
                        have HO_500005 := n3_
                        have HL511_0 := n4_
                        have BK499 := n5_
                        have HR511_0 := n6_
                        have HB := n7_
                        clear n0_ n1_ n2_ n3_ n4_ n5_ n6_ n7_
                        refine start_ (n := 19) (S := fun w' => w'.cell? ⟨gb499, 0, none⟩ = some (.int .u64 a0_0) ∧ w'.cell? ⟨gb499, 1, none⟩ = some (.int .u64 a0_1) ∧ w'.cell? ⟨gb499, 2, none⟩ = some (.int .i64 a0_2) ∧ w'.cell? ⟨gb499, 3, none⟩ = some (.int .i64 a0_3) ∧ w'.cell? ⟨gb499, 4, none⟩ = some (.int .i64 a0_4) ∧ w'.cell? ⟨gb499, 5, none⟩ = some (.slice A0_5 l0_5.length c0_5) ∧ w'.cell? ⟨gb499, 6, none⟩ = some (.int .u64 a0_6)) (ds := []) #[false, false, false, false, false, false, false, false, false, false, false, false, false, false, false, false, false, false, false] (by kernel_rfl) rfl rfl ⟨(blk_cell BK499.out 0).trans rfl, (blk_cell BK499.out 1).trans rfl, (blk_cell BK499.out 2).trans rfl, (blk_cell BK499.out 3).trans rfl, (blk_cell BK499.out 4).trans rfl, (blk_cell BK499.out 5).trans rfl, (blk_cell BK499.out 6).trans rfl⟩ (fun hHeld => ?_); refine with_tabW stream_Send.tab9 stream_Send.bits9 (fun HT_ HW_ => ?_)
                        generalize wr.drew = w20 at HO_5 HO_6 HO_23 HO_500005 HL511_0 BK499 HR511_0 HB hHeld ⊢
                        refine pure_ (i := 0) (N := some 30) (v := ?_) (a' := ?_) #[true, false, false, false, false, false, false, false, false, false, false, false, false, false, false, false, false, false, false] rfl rfl (any_of HT_.out (by kernel_rfl)) (fun _ _ _ h => h) (Or.inl ⟨by rfl, ?_⟩) ?_ ?_
                        rotate_left
                        · intro w'
                          go_simp
                          with_reducible rfl
                        rotate_left
                        · simp only [Act.put, List.setIfInBounds_toArray, List.set_cons_zero, List.set_cons_succ, i64_w, i32_w]
                          rfl
                        refine pure_ (i := 1) (N := some 31) (v := ?_) (a' := ?_) #[true, true, false, false, false, false, false, false, false, false, false, false, false, false, false, false, false, false, false] rfl rfl (any_of HT_.out (by kernel_rfl)) (fun _ _ _ h => h) (Or.inl ⟨by rfl, ?_⟩) ?_ ?_
                        rotate_left
                        · intro w'
                          go_simp
                          with_reducible rfl
                        rotate_left
                        · simp only [Act.put, List.setIfInBounds_toArray, List.set_cons_zero, List.set_cons_succ, i64_w, i32_w]
                          rfl
                        refine pure_ (i := 3) (N := some 33) (v := ?_) (a' := ?_) #[true, true, false, true, false, false, false, false, false, false, false, false, false, false, false, false, false, false, false] rfl rfl (any_of HT_.out (by kernel_rfl)) (fun _ _ _ h => h) (Or.inl ⟨by rfl, ?_⟩) ?_ ?_
                        rotate_left
                        · intro w'
                          go_simp
                          with_reducible rfl
                        rotate_left
                        · simp only [Act.put, List.setIfInBounds_toArray, List.set_cons_zero, List.set_cons_succ, i64_w, i32_w]
                          rfl
                        refine pure_ (i := 5) (N := some 35) (v := ?_) (a' := ?_) #[true, true, false, true, false, true, false, false, false, false, false, false, false, false, false, false, false, false, false] rfl rfl (any_of HT_.out (by kernel_rfl)) (fun _ _ _ h => h) (Or.inl ⟨by rfl, ?_⟩) ?_ ?_
                        rotate_left
                        · intro w'
                          go_simp
                          with_reducible rfl
                        rotate_left
                        · simp only [Act.put, List.setIfInBounds_toArray, List.set_cons_zero, List.set_cons_succ, i64_w, i32_w]
                          rfl
                        refine pure_ (i := 6) (N := some 36) (v := ?_) (a' := ?_) #[true, true, false, true, false, true, true, false, false, false, false, false, false, false, false, false, false, false, false] rfl rfl (any_of HT_.out (by kernel_rfl)) (fun _ _ _ h => h) (Or.inl ⟨by rfl, ?_⟩) ?_ ?_
                        rotate_left
                        · intro w'
                          go_simp
                          with_reducible rfl
                        rotate_left
                        · simp only [Act.put, List.setIfInBounds_toArray, List.set_cons_zero, List.set_cons_succ, i64_w, i32_w]
                          rfl
                        refine pure_ (i := 8) (N := some 38) (v := ?_) (a' := ?_) #[true, true, false, true, false, true, true, false, true, false, false, false, false, false, false, false, false, false, false] rfl rfl (any_of HT_.out (by kernel_rfl)) (fun _ _ _ h => h) (Or.inl ⟨by rfl, ?_⟩) ?_ ?_
                        rotate_left
                        · intro w'
                          go_simp
                          with_reducible rfl
                        rotate_left
                        · simp only [Act.put, List.setIfInBounds_toArray, List.set_cons_zero, List.set_cons_succ, i64_w, i32_w]
                          rfl
                        refine pure_ (i := 9) (N := some 39) (v := ?_) (a' := ?_) #[true, true, false, true, false, true, true, false, true, true, false, false, false, false, false, false, false, false, false] rfl rfl (any_of HT_.out (by kernel_rfl)) (fun _ _ _ h => h) (Or.inl ⟨by rfl, ?_⟩) ?_ ?_
                        rotate_left
                        · intro w'
                          go_simp
                          with_reducible rfl
                        rotate_left
                        · simp only [Act.put, List.setIfInBounds_toArray, List.set_cons_zero, List.set_cons_succ, i64_w, i32_w]
                          rfl
                        refine pure_ (i := 10) (N := some 40) (v := ?_) (a' := ?_) #[true, true, false, true, false, true, true, false, true, true, true, false, false, false, false, false, false, false, false] rfl rfl (any_of HT_.out (by kernel_rfl)) (fun _ _ _ h => h) (Or.inl ⟨by rfl, ?_⟩) ?_ ?_
                        rotate_left
                        · intro w'
                          go_simp
                          with_reducible rfl
                        rotate_left
                        · simp only [Act.put, List.setIfInBounds_toArray, List.set_cons_zero, List.set_cons_succ, i64_w, i32_w]
                          rfl
                        refine pure_ (i := 11) (N := some 41) (v := ?_) (a' := ?_) #[true, true, false, true, false, true, true, false, true, true, true, true, false, false, false, false, false, false, false] rfl rfl (any_of HT_.out (by kernel_rfl)) (fun _ _ _ h => h) (Or.inl ⟨by rfl, ?_⟩) ?_ ?_
                        rotate_left
                        · intro w'
                          go_simp
                          with_reducible rfl
                        rotate_left
                        · simp only [Act.put, List.setIfInBounds_toArray, List.set_cons_zero, List.set_cons_succ, i64_w, i32_w]
                          rfl
                        refine pure_ (i := 12) (N := some 42) (v := ?_) (a' := ?_) #[true, true, false, true, false, true, true, false, true, true, true, true, true, false, false, false, false, false, false] rfl rfl (any_of HT_.out (by kernel_rfl)) (fun _ _ _ h => h) (Or.inl ⟨by rfl, ?_⟩) ?_ ?_
                        rotate_left
                        · intro w'
                          go_simp
                          with_reducible rfl
                        rotate_left
                        · simp only [Act.put, List.setIfInBounds_toArray, List.set_cons_zero, List.set_cons_succ, i64_w, i32_w]
                          rfl
                        refine pure_ (i := 13) (N := some 43) (v := ?_) (a' := ?_) #[true, true, false, true, false, true, true, false, true, true, true, true, true, true, false, false, false, false, false] rfl rfl (any_of HT_.out (by kernel_rfl)) (fun _ _ _ h => h) (Or.inl ⟨by rfl, ?_⟩) ?_ ?_
                        rotate_left
                        · intro w'
                          go_simp
                          with_reducible rfl
                        rotate_left
                        · simp only [Act.put, List.setIfInBounds_toArray, List.set_cons_zero, List.set_cons_succ, i64_w, i32_w]
                          rfl
                        refine take_ (i := 2) (N := some 32) (v := ?_) (a' := ?_) #[true, true, true, true, false, true, true, false, true, true, true, true, true, true, false, false, false, false, false] rfl rfl (take_ofW HT_.out HW_.out (by kernel_rfl)) (fun _ _ _ h => h) (Or.inl ⟨by rfl, ?_⟩) hHeld ?_ ?_
                        rotate_left
                        · rintro w' ⟨s0, s1, s2, s3, s4, s5, s6⟩
                          go_simp
                          with_reducible rfl
                        rotate_left
                        · simp only [Act.put, List.setIfInBounds_toArray, List.set_cons_zero, List.set_cons_succ, i64_w, i32_w]
                          rfl
                        refine take_ (i := 4) (N := some 34) (v := ?_) (a' := ?_) #[true, true, true, true, true, true, true, false, true, true, true, true, true, true, false, false, false, false, false] rfl rfl (take_ofW HT_.out HW_.out (by kernel_rfl)) (fun _ _ _ h => h) (Or.inl ⟨by rfl, ?_⟩) hHeld ?_ ?_
                        rotate_left
                        · rintro w' ⟨s0, s1, s2, s3, s4, s5, s6⟩
                          go_simp
                          with_reducible rfl
                        rotate_left
                        · simp only [Act.put, List.setIfInBounds_toArray, List.set_cons_zero, List.set_cons_succ, i64_w, i32_w]
                          rfl
                        refine pure_ (i := 7) (N := some 37) (v := ?_) (a' := ?_) #[true, true, true, true, true, true, true, true, true, true, true, true, true, true, false, false, false, false, false] rfl rfl (any_of HT_.out (by kernel_rfl)) (fun _ _ _ h => h) (Or.inl ⟨by rfl, ?_⟩) ?_ ?_
                        rotate_left
                        · intro w'
                          go_simp
                          with_reducible rfl
                        rotate_left
                        · simp only [Act.put, List.setIfInBounds_toArray, List.set_cons_zero, List.set_cons_succ, i64_w, i32_w]
                          rfl
                        refine one_ (i := 14) (N := some 44) #[true, true, true, true, true, true, true, true, true, true, true, true, true, true, true, false, false, false, false] rfl rfl (one_of HT_.out (by kernel_rfl)) (by decide) (fun K hK => ?_)
                        refine goes_ Try.func36 (by kernel_rfl) rfl #[.slice A511_0 (rd_L7 y506 x25_1).length c511_0] (by rfl) rfl rfl (by (try simp only [List.map_toArray, List.map_cons, List.map_nil]); first | done | rfl | (simp only [List.length_drop, List.length_take]; rfl)) ?_
                        with_reducible refine (stream_own.calls k1 (fun k_ => ((P0_5_ k_ ∨ w.heap.size ≤ k_) ∧ (some k_ ≠ (u5 : Value).ownBlock ∧ k_ ≠ gb499))) _ _ (rd_L7 y506 x25_1) t512 _ ?side1 A18.out).mono ?_
                        (case side1 => exact HL511_0.out)
                        rintro e w21 ⟨v513, rfl, ho0, hb⟩
                        refine ⟨_, rfl, ?_⟩
                        have n0_ := Aside0.mk (Kd.N_elder' (by (with_reducible repeat (first | apply Kd.N_alloc | apply Kd.N_drewN | apply Kd.N_drew)); exact HO_5.out) (Kd.N_base ho0) hb)
                        have n1_ := Aside0.mk (Kd.V_elder' (by (with_reducible repeat (first | apply Kd.V_alloc | apply Kd.V_drewN | apply Kd.V_drew)); exact HO_6.out) (Kd.N_base ho0) hb)
                        have n2_ := Aside0.mk (Kd.V_elder' (by (with_reducible repeat (first | apply Kd.V_alloc | apply Kd.V_drewN | apply Kd.V_drew)); exact HO_23.out) (Kd.N_base ho0) hb)
                        have n3_ := Aside0.mk (Kd.V_elder' (by (with_reducible repeat (first | apply Kd.V_alloc | apply Kd.V_drewN | apply Kd.V_drew)); exact HO_500005.out) (Kd.N_base ho0) hb)
                        have n4_ := Aside0.mk (Kd.V_elder' (by (with_reducible repeat (first | apply Kd.V_alloc | apply Kd.V_drewN | apply Kd.V_drew)); exact HL511_0.out) (Kd.N_base ho0) hb)
                        have n5_ := Aside0.mk (Kd.N_lower (Kd.N_mono (ok' := fun k_ => (P0_5_ k_ ∨ w.heap.size ≤ k_) ∧ some k_ ≠ (u5 : Value).ownBlock ∧ k_ ≠ gb499) ho0 (fun k_ hk_ => ⟨Or.elim hk_ (fun hs_ => hs_.1) (fun hn_ => (.inr (Nat.le_trans (below_size (by repeat (first | (with_reducible first | exact HB.out | apply below_alloc | apply pw_below_drewN | apply below_drew1 | refine below_set ?_ GE499.out) | exact HB.out))) hn_))), Or.elim hk_ (fun hs_ => hs_.2.1) (fun hn_ => (Kd.fresh' (Kd.N_lt (by (with_reducible repeat (first | apply Kd.N_alloc | apply Kd.N_drewN | apply Kd.N_drew)); exact HO_5.out)) k_ hn_)), Or.elim hk_ (fun hs_ => hs_.2.2) (fun hn_ => (Kd.freshB (g := gb499) (o := .cells #[.int .u64 a0_0, .int .u64 a0_1, .int .i64 a0_2, .int .i64 a0_3, .int .i64 a0_4, .slice A0_5 l0_5.length c0_5, .int .u64 a0_6] 65 (0, 0)) (by (with_reducible repeat (first | refine blk_drewN ?_ _ | refine blk_drew ?_ | refine blk_alloc ?_ _)); exact BK499.out) k_ hn_))⟩)) (below_size (by repeat (first | (with_reducible first | exact HB.out | apply below_alloc | apply pw_below_drewN | apply below_drew1 | refine below_set ?_ GE499.out) | exact HB.out))))
                        have n6_ := Aside0.mk (blk_below (g := gb499) (o := .cells #[.int .u64 a0_0, .int .u64 a0_1, .int .i64 a0_2, .int .i64 a0_3, .int .i64 a0_4, .slice A0_5 l0_5.length c0_5, .int .u64 a0_6] 65 (0, 0)) (by (with_reducible repeat (first | refine blk_drewN ?_ _ | refine blk_drew ?_ | refine blk_alloc ?_ _)); exact BK499.out) hb)
                        have n7_ := Aside0.mk (Kd.C_below (by repeat (first | (with_reducible exact HR511_0.out) | (with_reducible refine Kd.C_alloc ?_ _) | (with_reducible refine Kd.C_drewN ?_ _) | (with_reducible refine Kd.C_drew ?_) | exact HR511_0.out)) hb)
                        have n8_ := Aside0.mk (below_step (by repeat (first | (with_reducible first | exact HB.out | apply below_alloc | apply pw_below_drewN | apply below_drew1 | refine below_set ?_ GE499.out) | exact HB.out)) hb)
                        clear HO_5
                        clear HO_6
                        clear HO_23
                        clear HO_500005
                        clear HL511_0
                        clear BK499
                        clear HR511_0
                        clear HB
                        have HO_5 := n0_
                        have HO_6 := n1_
                        have HO_23 := n2_
                        have HO_500005 := n3_
                        have HL511_0 := n4_
                        have HO514 := n5_
                        have BK499 := n6_
                        have HR511_0 := n7_
                        have HB := n8_
                        clear n0_ n1_ n2_ n3_ n4_ n5_ n6_ n7_ n8_
                        (try clear hb)
                        (try clear hb2)
                        (try clear hk)
                        (try clear hi)
                        (try clear ho0)
                        obtain ⟨Ao22, co22, eo22⟩ := Kd.N_slice HO514.out
                        (first | subst eo22 | (injection eo22 with f1_ f2_ f3_; have f4_ := f1_.symm; have f5_ := f3_.symm; clear f1_ f2_ f3_; subst f4_; subst f5_))
                        refine hK.out _ _ ⟨(blk_cell BK499.out 0).trans rfl, (blk_cell BK499.out 1).trans rfl, (blk_cell BK499.out 2).trans rfl, (blk_cell BK499.out 3).trans rfl, (blk_cell BK499.out 4).trans rfl, (blk_cell BK499.out 5).trans rfl, (blk_cell BK499.out 6).trans rfl⟩ (fun hHeld => ?_)
                        clear hK K
                        refine norm_ (a' := ?_) ?_ ?_
                        rotate_left
                        · show Act.put _ (some 44) _ = _
                          simp only [Act.put, List.setIfInBounds_toArray, List.set_cons_zero, List.set_cons_succ, i64_w, i32_w]
                          rfl
                        refine pure_ (i := 15) (N := some 45) (v := ?_) (a' := ?_) #[true, true, true, true, true, true, true, true, true, true, true, true, true, true, true, true, false, false, false] rfl rfl (any_of HT_.out (by kernel_rfl)) (fun _ _ _ h => h) (Or.inl ⟨by rfl, ?_⟩) ?_ ?_
                        rotate_left
                        · intro w'
                          go_simp
                          with_reducible rfl
                        rotate_left
                        · simp only [Act.put, List.setIfInBounds_toArray, List.set_cons_zero, List.set_cons_succ, i64_w, i32_w]
                          rfl
                        refine one_ (i := 16) (N := some 46) #[true, true, true, true, true, true, true, true, true, true, true, true, true, true, true, true, true, false, false] rfl rfl (one_of HT_.out (by kernel_rfl)) (by decide) (fun K hK => ?_)
                        refine value_ (w1 := ?_) (v := ?_) (by rfl) rfl ?_ ?_
                        rotate_left 2
                        · go_simp
                          constructor
                          · rfl
                          · rfl
                        refine hK.out _ _ ⟨(blk_cell (blk_alloc BK499.out _) 0).trans rfl, (blk_cell (blk_alloc BK499.out _) 1).trans rfl, (blk_cell (blk_alloc BK499.out _) 2).trans rfl, (blk_cell (blk_alloc BK499.out _) 3).trans rfl, (blk_cell (blk_alloc BK499.out _) 4).trans rfl, (blk_cell (blk_alloc BK499.out _) 5).trans rfl, (blk_cell (blk_alloc BK499.out _) 6).trans rfl⟩ (fun hHeld => ?_)
                        clear hK K
                        refine norm_ (a' := ?_) ?_ ?_
                        rotate_left
                        · show Act.put _ (some 46) _ = _
                          simp only [Act.put, List.setIfInBounds_toArray, List.set_cons_zero, List.set_cons_succ, i64_w, i32_w]
                          rfl
                        refine one_ (i := 17) (N := some 47) #[true, true, true, true, true, true, true, true, true, true, true, true, true, true, true, true, true, true, false] rfl rfl (one_of HT_.out (by kernel_rfl)) (by decide) (fun K hK => ?_)
                        refine Kd.N_append_step k52 (w0 := w) w.heap.size (by rfl) (.tmp 30) (.tmp 46) 72 52 (.agg #[(.int .u8 0), (.int .u64 0), (.int .u64 0), (.int .u64 0), (.int .i64 0), (.int .i64 0), (.int .i64 0), (.string ⟨#[]⟩), (.string ⟨#[]⟩), (.int .i64 0), (.int .i64 0), (.int .i64 0), (.slice none 0 0), (.slice none 0 0), (.slice none 0 0), (.bool false), (.slice none 0 0), (.slice none 0 0), (.slice none 0 0), (.int .i64 0), (.int .i64 0), (.int .u8 0), (.string ⟨#[]⟩), (.int .u64 0), (.int .u64 0), (.int .i64 0), (.slice none 0 0), (.int .u8 0), (.string ⟨#[]⟩), (.int .u64 0), (.int .u64 0), (.int .i64 0), (.slice none 0 0), (.bool false), (.int .i64 0), (.slice none 0 0), (.slice none 0 0), (.int .u64 0), (.bool false), (.slice none 0 0), (.string ⟨#[]⟩), (.int .u64 0), (.int .u64 0), (.int .i64 0), (.slice none 0 0), (.slice none 0 0), (.slice none 0 0)]) 640 rfl Try.underlying72 info52 rfl (by decide) (by omega) u5 x5_1 (⟨4, 0, (⟨(⟨a0_0, a0_1⟩ : S24), a0_2, a0_3, a0_4⟩ : S26), (⟨(⟨#[]⟩ : ByteArray), (⟨#[]⟩ : ByteArray), 0, 0, 0, ([] : List (S130)), ([] : List Int), ([] : List (S119)), false, ([] : List ByteArray), ([] : List Int)⟩ : S38), ([] : List (S91)), (⟨0, 0, (⟨0, (⟨#[]⟩ : ByteArray), (⟨0, 0⟩ : S42), 0, ([] : List Int)⟩ : S44), (⟨0, (⟨#[]⟩ : ByteArray), (⟨0, 0⟩ : S42), 0, ([] : List Int)⟩ : S44), false, 0, ([] : List Int)⟩ : S46), ([] : List Int), IntKind.u64.wrap (a0_6 + (IntKind.u64.wrap (x25_1))), (x25_1 == (wrap64 ((y501.length : Int) - 1))), t512, (⟨(⟨#[]⟩ : ByteArray), (⟨0, 0⟩ : S42), 0, ([] : List (S114)), ([] : List (List (S112)))⟩ : S49), ([] : List (S125))⟩ : S52) _ (fun k_ => (P0_5_ k_ ∨ w.heap.size ≤ k_) ∧ k_ ≠ gb499) (fun k_ => ((fun k_ => (P0_5_ k_ ∨ w.heap.size ≤ k_) ∧ k_ ≠ gb499)) k_ ∧ some k_ ≠ (u5 : Value).ownBlock) rfl rfl ?aP (fun _ hk => hk) ?aF ?aO ?aB ?aS ?aL ?_
                        (case aP => exact (k52_mkF _ _ (⟨4, 0, (⟨(⟨a0_0, a0_1⟩ : S24), a0_2, a0_3, a0_4⟩ : S26), (⟨(⟨#[]⟩ : ByteArray), (⟨#[]⟩ : ByteArray), 0, 0, 0, ([] : List (S130)), ([] : List Int), ([] : List (S119)), false, ([] : List ByteArray), ([] : List Int)⟩ : S38), ([] : List (S91)), (⟨0, 0, (⟨0, (⟨#[]⟩ : ByteArray), (⟨0, 0⟩ : S42), 0, ([] : List Int)⟩ : S44), (⟨0, (⟨#[]⟩ : ByteArray), (⟨0, 0⟩ : S42), 0, ([] : List Int)⟩ : S44), false, 0, ([] : List Int)⟩ : S46), ([] : List Int), IntKind.u64.wrap (a0_6 + (IntKind.u64.wrap (x25_1))), (x25_1 == (wrap64 ((y501.length : Int) - 1))), t512, (⟨(⟨#[]⟩ : ByteArray), (⟨0, 0⟩ : S42), 0, ([] : List (S114)), ([] : List (List (S112)))⟩ : S49), ([] : List (S125))⟩ : S52) (Nat.le_refl _) (Kd.F_nil _ _ _) (Nat.le_refl _) (Kd.F_nil _ _ _) (Nat.le_refl _) (Kd.F_nil _ _ _) (Nat.le_refl _) (Kd.F_nil _ _ _) (Nat.le_refl _) (Kd.F_nil _ _ _) (Nat.le_refl _) (Kd.F_nil _ _ _) (Nat.le_refl _) (Kd.F_nil _ _ _) (Nat.le_refl _) (Kd.F_nil _ _ _) (Nat.le_refl _) (Kd.F_nil _ _ _) (Nat.le_refl _) (Kd.F_nil _ _ _) (Kd.N_reads' (Kd.N_mono (ok' := (fun k_ => ((fun k_ => (P0_5_ k_ ∨ w.heap.size ≤ k_) ∧ k_ ≠ gb499)) k_ ∧ some k_ ≠ (u5 : Value).ownBlock)) (HO514.out) (fun k_ hk => ⟨⟨hk.1, hk.2.2⟩, hk.2.1⟩))).2.1 (Kd.N_F (Kd.N_mono (ok' := (fun k_ => ((fun k_ => (P0_5_ k_ ∨ w.heap.size ≤ k_) ∧ k_ ≠ gb499)) k_ ∧ some k_ ≠ (u5 : Value).ownBlock)) (HO514.out) (fun k_ hk => ⟨⟨hk.1, hk.2.2⟩, hk.2.1⟩))) (Nat.le_refl _) (Kd.F_nil _ _ _) (Nat.le_refl _) (Kd.F_nil _ _ _) (Nat.le_refl _) (Kd.F_nil _ _ _)))
                        (case aB => exact (by repeat (first | (with_reducible first | exact HB.out | apply below_alloc | apply pw_below_drewN | apply below_drew1 | refine below_set ?_ GE499.out) | exact HB.out)))
                        (case aF => exact (fun k_ hk => ⟨(.inr (Nat.le_trans (below_size (by repeat (first | (with_reducible first | exact HB.out | apply below_alloc | apply pw_below_drewN | apply below_drew1 | refine below_set ?_ GE499.out) | exact HB.out))) hk)), Kd.freshB (g := gb499) (o := .cells #[.int .u64 a0_0, .int .u64 a0_1, .int .i64 a0_2, .int .i64 a0_3, .int .i64 a0_4, .slice A0_5 l0_5.length c0_5, .int .u64 a0_6] 65 (0, 0)) (by (with_reducible repeat (first | refine blk_drewN ?_ _ | refine blk_drew ?_ | refine blk_alloc ?_ _)); exact BK499.out) k_ hk⟩))
                        (case aO => exact (by (with_reducible repeat (first | apply Kd.N_alloc | apply Kd.N_drewN | apply Kd.N_drew)); exact Kd.N_mono HO_5.out (fun _ hk => ⟨hk.1.1, hk.1.2⟩)))
                        (case aS => exact (below_size (by repeat (first | (with_reducible first | exact HB.out | apply below_alloc | apply pw_below_drewN | apply below_drew1 | refine below_set ?_ GE499.out) | exact HB.out))))
                        (case aL => have := LMc19.out; omega)
                        intro v516 w23 ho hb hg hat
                        rw [← Ny515.out] at ho
                        have n0_ := Aside0.mk (Kd.V_afterv (ok := (fun k_ => (P0_5_ k_ ∨ w.heap.size ≤ k_) ∧ some k_ ≠ (.slice Ao22 t512.length co22 : Value).ownBlock ∧ k_ ≠ gb499)) (by (with_reducible repeat (first | apply Kd.V_alloc | apply Kd.V_drewN | apply Kd.V_drew)); exact Kd.V_mono HO_6.out (fun _ hk => ⟨⟨hk.1.1, ⟨hk.2, hk.1.2.2⟩⟩, hk.1.2.1⟩)) hg hat)
                        have n1_ := Aside0.mk (Kd.V_afterv (ok := (fun k_ => (P0_5_ k_ ∨ w.heap.size ≤ k_) ∧ some k_ ≠ (.slice Ao22 t512.length co22 : Value).ownBlock ∧ k_ ≠ gb499)) (by (with_reducible repeat (first | apply Kd.V_alloc | apply Kd.V_drewN | apply Kd.V_drew)); exact Kd.V_mono HO_23.out (fun _ hk => ⟨⟨hk.1.1, ⟨hk.2, hk.1.2.2⟩⟩, hk.1.2.1⟩)) hg hat)
                        have n2_ := Aside0.mk (Kd.V_afterv (ok := (fun k_ => (P0_5_ k_ ∨ w.heap.size ≤ k_) ∧ some k_ ≠ (.slice Ao22 t512.length co22 : Value).ownBlock ∧ k_ ≠ gb499)) (by (with_reducible repeat (first | apply Kd.V_alloc | apply Kd.V_drewN | apply Kd.V_drew)); exact Kd.V_mono HO_500005.out (fun _ hk => ⟨⟨hk.1.1, ⟨hk.2, hk.1.2.2⟩⟩, hk.1.2.1⟩)) hg hat)
                        have n3_ := Aside0.mk (blk_grown (g := gb499) (o := .cells #[.int .u64 a0_0, .int .u64 a0_1, .int .i64 a0_2, .int .i64 a0_3, .int .i64 a0_4, .slice A0_5 l0_5.length c0_5, .int .u64 a0_6] 65 (0, 0)) (by (with_reducible repeat (first | refine blk_drewN ?_ _ | refine blk_drew ?_ | refine blk_alloc ?_ _)); exact BK499.out) hg (Kd.N_ne HO_5.out BK499.out (by decide)))
                        have n4_ := Aside0.mk (Kd.V_afterv (ok := (fun k_ => (P0_5_ k_ ∨ w.heap.size ≤ k_) ∧ some k_ ≠ (.slice Ao22 t512.length co22 : Value).ownBlock ∧ k_ ≠ gb499)) (by (with_reducible repeat (first | apply Kd.V_alloc | apply Kd.V_drewN | apply Kd.V_drew)); exact Kd.V_mono HL511_0.out (fun _ hk => ⟨⟨hk.1.1, ⟨hk.2, hk.1.2.2⟩⟩, hk.1.2.1⟩)) hg hat)
                        have n5_ := Aside0.mk (hb)
                        have n6_ := Aside0.mk (ho)
                        clear HO_6
                        clear HO_23
                        clear HO_500005
                        clear BK499
                        clear HL511_0
                        clear HB
                        clear HO_5
                        clear HO514
                        have HO_6 := n0_
                        have HO_23 := n1_
                        have HO_500005 := n2_
                        have BK499 := n3_
                        have HL511_0 := n4_
                        have HB := n5_
                        have HO517 := n6_
                        clear n0_ n1_ n2_ n3_ n4_ n5_ n6_
                        clear ho hb hg hat
                        refine hK.out _ _ ⟨(blk_cell BK499.out 0).trans rfl, (blk_cell BK499.out 1).trans rfl, (blk_cell BK499.out 2).trans rfl, (blk_cell BK499.out 3).trans rfl, (blk_cell BK499.out 4).trans rfl, (blk_cell BK499.out 5).trans rfl, (blk_cell BK499.out 6).trans rfl⟩ (fun hHeld => ?_)
                        clear hK K
                        refine norm_ (a' := ?_) ?_ ?_
                        rotate_left
                        · show Act.put _ (some 47) _ = _
                          simp only [Act.put, List.setIfInBounds_toArray, List.set_cons_zero, List.set_cons_succ, i64_w, i32_w]
                          rfl
                        refine pure_ (i := 18) (N := some 5) (v := ?_) (a' := ?_) #[true, true, true, true, true, true, true, true, true, true, true, true, true, true, true, true, true, true, true] rfl rfl (any_of HT_.out (by kernel_rfl)) (fun _ _ _ h => h) (Or.inl ⟨by rfl, ?_⟩) ?_ ?_
                        rotate_left
                        · intro w'
                          go_simp
                          with_reducible rfl
                        rotate_left
                        · simp only [Act.put, List.setIfInBounds_toArray, List.set_cons_zero, List.set_cons_succ, i64_w, i32_w]
                          rfl
                        refine done_ (done_of HT_.out (by kernel_rfl)) ?_
                        try go_wp2
                        go_roundg k1
                        case measure => have := HK1.out; omega
                        case rel => exact ⟨(y515), (wrap64 (x25_1 + 1)), (by first | rfl | (simp; done) | (simp [*]; done)), H', ⟨by have := HK1.out; omega⟩, ⟨by (with_reducible repeat (first | apply Kd.N_alloc | apply Kd.N_drewN | apply Kd.N_drew)); exact HO517.out⟩, ⟨by (with_reducible repeat (first | apply Kd.V_alloc | apply Kd.V_drewN | apply Kd.V_drew)); exact Kd.V_mono HO_6.out (fun _ hk => ⟨hk.1.1, ⟨hk.2, hk.1.2.2⟩⟩)⟩, ⟨by (with_reducible repeat (first | apply Kd.V_alloc | apply Kd.V_drewN | apply Kd.V_drew)); exact Kd.V_mono HO_23.out (fun _ hk => ⟨hk.1.1, ⟨hk.2, hk.1.2.2⟩⟩)⟩, ⟨by (with_reducible repeat (first | apply Kd.V_alloc | apply Kd.V_drewN | apply Kd.V_drew)); exact Kd.V_mono HO_500005.out (fun _ hk => ⟨hk.1.1, ⟨hk.2, hk.1.2.2⟩⟩)⟩, ⟨by (with_reducible repeat (first | refine blk_drewN ?_ _ | refine blk_drew ?_ | refine blk_alloc ?_ _)); exact BK499.out⟩, ⟨by repeat (first | (with_reducible first | exact HB.out | apply below_alloc | apply pw_below_drewN | apply below_drew1 | refine below_set ?_ GE499.out) | exact HB.out)⟩⟩
                      · rw [if_neg c19] at H
                        exact absurd H (by simp)
                    · rw [if_neg c17] at H
                      exact absurd H (by simp)
                  · rw [if_neg c16] at H
                    exact absurd H (by simp)
                · rw [if_neg c15] at H
                  have c15b0 : decide (x25_1 < (y506.length : Int)) = false := decide_eq_false c15
                  clear c15
                  simp only [Option.some.injEq, Prod.mk.injEq] at H
                  obtain ⟨rfl, rfl⟩ := H
                  go_wp2
                  go_ret2
                  exact ⟨_, by first | rfl | (simp [errW_none, errW_some] <;> rfl) | (simp only [← hji6]; first | rfl | (simp [errW_none, errW_some] <;> rfl)) | (simp [*, errW_none, errW_some] <;> rfl), by (with_reducible repeat (first | apply Kd.N_alloc | apply Kd.N_drewN | apply Kd.N_drew)); exact Kd.N_mono HO_5.out (fun _ hk => hk.1), by repeat (first | (with_reducible first | exact HB.out | apply below_alloc | apply pw_below_drewN | apply below_drew1 | refine below_set ?_ GE499.out) | exact HB.out)⟩
          · rw [if_neg c8] at H
            exact absurd H (by simp)
        · rw [if_neg c7] at H
          exact absurd H (by simp)
      · rw [if_neg c5] at H
        exact absurd H (by simp)
    · rw [if_neg c4] at H
      exact absurd H (by simp)
  · rw [if_neg c3] at H
    have c3b0 : (t500 == 0) = false := beq_eq_false_iff_ne.mpr c3
    have c3b1 : (t500 != 0) = true := bne_iff_ne.mpr c3
    simp only [Option.some.injEq, Prod.mk.injEq] at H
    obtain ⟨rfl, rfl⟩ := H
    go_enter Try.func24, Try.ntmps24
    go_wp2_with (first | ((with_reducible refine gate_dst (N := 1) rfl ?_); refine box_event ?hg (N := 1) ?hd (cs := #[.int .u64 a0_0, .int .u64 a0_1, .int .i64 a0_2, .int .i64 a0_3, .int .i64 a0_4, .slice A0_5 l0_5.length c0_5, .int .u64 a0_6]) (t := 65) ?hr ?_; (case hd => rfl); (case hg => rfl); (case hr => first | (go_simp; done) | (go_simp; rfl)); intro gb499 hg w24 hbox hb; have n0_ := Aside0.mk (Kd.V_below (Kd.V_elderB (by (with_reducible repeat (first | apply Kd.V_alloc | apply Kd.V_drewN | apply Kd.V_drew)); exact HO0_5.out) gb499 (Nat.le_of_eq hg.symm)) hb); have n1_ := Aside0.mk (below_step (by repeat (first | (with_reducible first | exact HB.out | apply below_alloc | apply pw_below_drewN | apply below_drew1) | exact HB.out)) hb); have n2_ := Aside0.mk (hbox); have n3_ := Aside0.mk ((by rw [hg]; exact (below_size (by repeat (first | (with_reducible first | exact HB.out | apply below_alloc | apply pw_below_drewN | apply below_drew1) | exact HB.out))) : w.heap.size ≤ gb499)); have n4_ := Aside0.mk ((by rw [hg]; exact (below_size (by repeat (first | (with_reducible first | exact HB.out | apply below_alloc | apply pw_below_drewN | apply below_drew1) | exact HB.out))) : w.heap.size ≤ gb499)); clear HO0_5; clear HB; have HO0_5 := n0_; have HB := n1_; have BK499 := n2_; have GW499 := n3_; have GE499 := n4_; clear n0_ n1_ n2_ n3_ n4_; clear hb hbox hg; have hcz25_0 : w24.cell? ⟨gb499, 0, none⟩ = some (.int .u64 a0_0) := (blk_cell BK499.out 0).trans rfl; have hcz25_1 : w24.cell? ⟨gb499, 1, none⟩ = some (.int .u64 a0_1) := (blk_cell BK499.out 1).trans rfl; have hcz25_2 : w24.cell? ⟨gb499, 2, none⟩ = some (.int .i64 a0_2) := (blk_cell BK499.out 2).trans rfl; have hcz25_3 : w24.cell? ⟨gb499, 3, none⟩ = some (.int .i64 a0_3) := (blk_cell BK499.out 3).trans rfl; have hcz25_4 : w24.cell? ⟨gb499, 4, none⟩ = some (.int .i64 a0_4) := (blk_cell BK499.out 4).trans rfl; have hcz25_5 : w24.cell? ⟨gb499, 5, none⟩ = some (.slice A0_5 l0_5.length c0_5) := (blk_cell BK499.out 5).trans rfl; have hcz25_6 : w24.cell? ⟨gb499, 6, none⟩ = some (.int .u64 a0_6) := (blk_cell BK499.out 6).trans rfl; have hfz25_0 := blk_frozen BK499.out 0; have hfz25_1 := blk_frozen BK499.out 1; have hfz25_2 := blk_frozen BK499.out 2; have hfz25_3 := blk_frozen BK499.out 3; have hfz25_4 := blk_frozen BK499.out 4; have hfz25_5 := blk_frozen BK499.out 5; have hfz25_6 := blk_frozen BK499.out 6) | ((with_reducible refine gate_callee (f := 21) rfl ?_); refine goesL_ (some 10) rfl rfl Try.func21 (by kernel_rfl) rfl #[.agg #[.int .u64 a0_0, .int .u64 a0_1, .int .i64 a0_2, .int .i64 a0_3, .int .i64 a0_4, .slice A0_5 l0_5.length c0_5, .int .u64 a0_6]] rfl (by (try simp only [List.map_toArray, List.map_cons, List.map_nil]); first | done | rfl | (simp only [List.length_drop, List.length_take]; rfl)) ?_; (with_reducible refine (stream_CheckOut.calls k a0_0 a0_1 a0_2 a0_3 a0_4 _ _ l0_5 a0_6 t500 _ ?side1 ?side2 A2.out).mono ?_); (case side1 => repeat (first | exact (Kd.V_reads' HO0_5.out).2.2 | (with_reducible refine Kd.C_alloc ?_ _) | (with_reducible refine Kd.C_drewN ?_ _) | (with_reducible refine Kd.C_drew ?_))); (case side2 => exact (Kd.V_reads' HO0_5.out).2.1); rintro e w26 ⟨rfl, hb⟩; refine ⟨_, rfl, ?_⟩; have n0_ := Aside0.mk (Kd.V_below (by (with_reducible repeat (first | apply Kd.V_alloc | apply Kd.V_drewN | apply Kd.V_drew)); exact HO0_5.out) hb); have n1_ := Aside0.mk (blk_below (g := gb499) (o := .cells #[.int .u64 a0_0, .int .u64 a0_1, .int .i64 a0_2, .int .i64 a0_3, .int .i64 a0_4, .slice A0_5 l0_5.length c0_5, .int .u64 a0_6] 65 (0, 0)) (by (with_reducible repeat (first | refine blk_drewN ?_ _ | refine blk_drew ?_ | refine blk_alloc ?_ _)); exact BK499.out) hb); have n2_ := Aside0.mk (below_step (by repeat (first | (with_reducible first | exact HB.out | apply below_alloc | apply pw_below_drewN | apply below_drew1 | refine below_set ?_ GE499.out) | exact HB.out)) hb); clear HO0_5; clear BK499; clear HB; have HO0_5 := n0_; have BK499 := n1_; have HB := n2_; clear n0_ n1_ n2_; (try clear hb); (try clear hb2); (try clear hk); (try clear hi)))
    go_ret2
    exact ⟨_, by first | rfl | (simp [errW_none, errW_some] <;> rfl) | (simp [*, errW_none, errW_some] <;> rfl), by first | exact Kd.R_nil _ _ _ _ _ | exact Kd.N_nil _ _ _ _ _ | exact Kd.V_nil _ _ _ _ _ | exact Kd.Q_nil _ _ _ _ _ | exact Kd.S_nil _ _ _ _ _, by repeat (first | (with_reducible first | exact HB.out | apply below_alloc | apply pw_below_drewN | apply below_drew1 | refine below_set ?_ GE499.out) | exact HB.out)⟩
end Go.Proofs.Ytkbemagcoojmmaa.Lx
