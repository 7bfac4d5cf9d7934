/- Package potsherdlaw13: lives answers true. No condition. Printed by glv.py. -/
import Derived.Test.YtkbemagcoojmmaaTbQ1
import Derived.Test.YtkbemagcoojmmaaAkQ1
import Derived.Test.YtkbemagcoojmmaaLp9Q1
import Derived.Test.YtkbemagcoojmmaaSmQ1
namespace Go.Proofs.Ytkbemagcoojmmaa.Lx
open Go.RowKit Go.Proofs.Ytkbemagcoojmmaa.G Go.Proofs.Ytkbemagcoojmmaa.Val Go.Proofs.YtkbemagcoojmmaaW.PrintWords Go.Proofs.YtkbemagcoojmmaaW.PrintLast Go.Proofs.YtkbemagcoojmmaaW.PrintMore
set_option linter.unusedVariables false
set_option linter.unusedSimpArgs false
theorem lives_cut : stream_Cut.f 40 0 0 0 1 0 (List.replicate 9 []) = some (0, 0, 0, 1, 0, [List.replicate 8 [], [[]]], 0, 0) := by kernel_rfl
def msgV (seq : Int) (lst : Bool) (rows : List (List S112)) : S52 := { z52 with f0 := 4, f2 := ⟨⟨0, 0⟩, 0, 1, 0⟩, f7 := seq, f8 := lst, f9 := rows }
theorem lives_send : stream_Send.f 40 0 0 0 1 0 [List.replicate 8 [], [[]]] 0 = some ([msgV 0 false (List.replicate 8 []), msgV 1 true [[]]], 0) := by kernel_rfl
theorem two_msgs {W : World} {base q c : Nat} {ok : Nat → Prop} {Av : Option Addr} {m0 m1 : S52} (h : Kd.V k52 52 W base ok (.slice Av q c) [m0, m1]) : ∃ ab ao cs0 cs1, Av = some ⟨ab, ao, none⟩ ∧ q = 2 ∧ Kd.FK k52 W ok m0 cs0 ∧ Kd.FK k52 W ok m1 cs1 ∧ W.rangeAt ab ao cs0 ∧ W.rangeAt ab (ao + 47) cs1 := by
  have h0 := Kd.V_reads' h
  have hq : q = 2 := by rw [h0.1]; rfl
  subst hq
  obtain ⟨ad, _, eA, _⟩ := Kd.C_get h0.2.2 z52 0 (by omega) (by simp)
  subst eA
  obtain ⟨cs0, l0, f0, c0⟩ := Kd.V_get h z52 0 (by omega) (by omega)
  obtain ⟨cs1, l1, f1, c1⟩ := Kd.V_get h z52 1 (by omega) (by omega)
  have hs : ad.spot = none := by
    have hl : 0 < cs0.length := by
      obtain ⟨_, _, _, _, _, _, _, _, _, _, _, _, _, _, _, _, _, _, _, _, _, _, _, _, _, _, _, _, e, _⟩ := k52_openF f0
      rw [e]
      simp
    have h1 : W.cell? (ad.add 0) = some _ := c0 0 _ (List.getElem?_eq_getElem hl)
    cases hsp : ad.spot with
    | none => rfl
    | some s =>
      have h2 : W.cell? (ad.add 0) = none := by
        unfold World.cell? Addr.add
        rw [if_pos rfl, hsp]
        split <;> rfl
      rw [h2] at h1
      cases h1
  obtain ⟨ab, ao, sp⟩ := ad
  subst hs
  have ha : ∀ j, (⟨ab, ao, none⟩ : Addr).add j = ⟨ab, ao + j, none⟩ := by
    intro j
    unfold Addr.add
    split
    · rename_i h_
      rw [h_]
      rfl
    · rfl
  refine ⟨ab, ao, cs0, cs1, rfl, rfl, f0, f1, fun j v hj => ?_, fun j v hj => ?_⟩
  · have h_ := c0 j v hj
    rw [show Int.toNat 0 * Kd.sz k52 + j = j by simp, ha] at h_
    exact h_
  · have h_ := c1 j v hj
    rw [show Int.toNat 1 * Kd.sz k52 = 47 from rfl, ha] at h_
    rw [show ao + 47 + j = ao + (47 + j) by omega]
    exact h_
theorem wpList_run_on {P : Program} {ops : Array Oper} {rest : List Oper} {op : Oper} {a : Act} {w : World} {Q : Exit → Act → World → Prop} {v : Value} (hw : Region.wanted op (yielded ops a.tmps) = true) (hrun : (execOp a.eval op).run P w = .ok (.value v) w) (h : wpList P ops Q rest (a.put op.dst v) w) : wpList P ops Q (op :: rest) a w := by
  unfold wpList
  rw [if_pos hw]
  refine .inl ?_
  unfold Oper.wp
  rw [hrun]
  exact h
theorem range_below {w w' : World} {b o : Nat} {cs : List Value} (h : w.rangeAt b o cs) (hb : Below w.heap.size w w') : w'.rangeAt b o cs := fun j v hj => by
  have h1 := h j v hj
  rw [← h1]
  exact hb.cell (World.block_lt_of_cell? w _ h1)
set_option maxHeartbeats 8000000 in
set_option maxRecDepth 100000 in
theorem lives_walk (k : Nat) (y202 : List (List S112)) (t205 t206 t207 t208 t209 t213 t214 t219 : Int) (t210 : List (List (List S112))) (t216 : List S52) (w : World) (hy202 : y202 = List.replicate 9 []) (A20 : stream_Cut.f k 0 0 0 1 0 y202 = some (t205, t206, t207, t208, t209, t210, t213, t214)) (A30 : stream_Send.f k t205 t206 t207 t208 t209 t210 t213 = some (t216, t219)) (h214 : t214 = 0) (h219 : t219 = 0) (hl : t216 = [msgV 0 false (List.replicate 8 []), msgV 1 true [[]]]) :
    Calls Try.prog 12 #[] w fun e w' => e = .returned (.bool true) ∧ Below w.heap.size w w' := by
  have hu26 := Try.underlying26
  have hu65 := Try.underlying65
  have hu30 := Try.underlying30
  have hu52 := Try.underlying52
  have HB := Aside0.mk (Below.refl w.heap.size w)
  have Ny202 := Aside0.mk hy202
  have A2 := Aside0.mk A20
  have A3 := Aside0.mk A30
  have H214 := Aside0.mk h214
  have H219 := Aside0.mk h219
  have HL := Aside0.mk hl
  clear hy202 A20 A30 h214 h219 hl
  go_enter Try.func12, Try.ntmps12
  go_upto_region 4 with (first | ((with_reducible refine gate_dst (N := 11) rfl ?_); (try (refine gate_guard (by rfl) ?_; dsimp only)); refine Kd.N_make (Kd.slice 112 k112) _ 101 rfl (N' := 11) rfl 28 _ _ rfl 9 rfl rfl Try.underlying28 (.slice none 0 0) 24 info101 rfl (by decide) (by omega) [] (ok := fun k_ => w.heap.size ≤ k_) (okp := fun _ => False) (Kd.FK_slice_mk (Nat.le_refl _) (Kd.F_nil _ _ _)) (fun _ hk => hk.elim) (Nat.le_refl _) (by omega) (by omega) (Below.refl _ _) (Nat.le_refl _) ?_; intro v203 w5 ho6 hb hg_ hnew_; clear hg_ hnew_; (first | rw [← Ny202.out] at ho6 | (simp only [Int.reduceToNat] at ho6; rw [← Ny202.out] at ho6)); have n0_ := Aside0.mk (Kd.N_lower (Kd.N_mono (ok' := fun k_ => True) ho6 (fun k_ hk_ => trivial)) (below_size (by repeat (first | (with_reducible first | exact HB.out | apply below_alloc | apply pw_below_drewN | apply below_drew1) | exact HB.out)))); have n1_ := Aside0.mk (below_step (by repeat (first | (with_reducible first | exact HB.out | apply below_alloc | apply pw_below_drewN | apply below_drew1) | exact HB.out)) hb); clear HB; have HO204 := n0_; have HB := n1_; clear n0_ n1_; clear hb ho6; obtain ⟨Ao7, co7, eo7⟩ := Kd.N_slice HO204.out; subst eo7) | ((with_reducible refine gate_callee (f := 19) rfl ?_); refine goesL_ (some 15) rfl rfl Try.func19 (by kernel_rfl) rfl #[.agg #[.int .u64 0, .int .u64 0, .int .i64 0, .int .i64 1, .int .i64 0], .slice Ao7 y202.length co7] rfl (by (try simp only [List.map_toArray, List.map_cons, List.map_nil]); first | done | rfl | (simp only [List.length_drop, List.length_take]; rfl)) ?_; (with_reducible refine (stream_Cut.calls k 0 0 0 1 0 (fun k_ => True) _ _ y202 t205 t206 t207 t208 t209 t210 t213 t214 _ ?side1 A2.out).mono ?_); (case side1 => exact Kd.N_V (HO204.out)); rintro e w8 ⟨v211, rfl, ho0, hb⟩; refine ⟨_, rfl, ?_⟩; have n0_ := Aside0.mk (Kd.N_elder' (by (with_reducible repeat (first | apply Kd.N_alloc | apply Kd.N_drewN | apply Kd.N_drew)); exact HO204.out) (Kd.N_base ho0) hb); have n1_ := Aside0.mk (Kd.N_lower (Kd.N_mono (ok' := fun k_ => True) ho0 (fun k_ hk_ => trivial)) (below_size (by repeat (first | (with_reducible first | exact HB.out | apply below_alloc | apply pw_below_drewN | apply below_drew1) | exact HB.out)))); have n2_ := Aside0.mk (below_step (by repeat (first | (with_reducible first | exact HB.out | apply below_alloc | apply pw_below_drewN | apply below_drew1) | exact HB.out)) hb); clear HO204; clear HB; have HO204 := n0_; have HO212 := n1_; have HB := n2_; clear n0_ n1_ n2_; (try clear hb); (try clear hb2); (try clear hk); (try clear hi); (try clear ho0)) | ((with_reducible refine gate_dst (N := 2) rfl ?_); (try (refine gate_guard (by rfl) ?_; dsimp only)); refine box_event ?hg (N := 2) ?hd (cs := #[.int .u64 0, .int .u64 0, .int .i64 0, .int .i64 0, .int .i64 0, .slice none 0 0, .int .u64 0]) (t := 65) ?hr ?_; (case hd => rfl); (case hg => rfl); (case hr => first | (go_simp; done) | (go_simp; rfl)); intro gb215 hg w9 hbox hb; have n0_ := Aside0.mk (Kd.N_below (Kd.N_elderB (by (with_reducible repeat (first | apply Kd.N_alloc | apply Kd.N_drewN | apply Kd.N_drew)); exact HO204.out) gb215 (Nat.le_of_eq hg.symm)) hb); have n1_ := Aside0.mk (Kd.N_below (Kd.N_elderB (by (with_reducible repeat (first | apply Kd.N_alloc | apply Kd.N_drewN | apply Kd.N_drew)); exact HO212.out) gb215 (Nat.le_of_eq hg.symm)) hb); have n2_ := Aside0.mk (below_step (by repeat (first | (with_reducible first | exact HB.out | apply below_alloc | apply pw_below_drewN | apply below_drew1) | exact HB.out)) hb); have n3_ := Aside0.mk (hbox); have n4_ := Aside0.mk ((by rw [hg]; exact (below_size (by repeat (first | (with_reducible first | exact HB.out | apply below_alloc | apply pw_below_drewN | apply below_drew1) | exact HB.out))) : w.heap.size ≤ gb215)); have n5_ := Aside0.mk ((by rw [hg]; exact (below_size (by repeat (first | (with_reducible first | exact HB.out | apply below_alloc | apply pw_below_drewN | apply below_drew1) | exact HB.out))) : w.heap.size ≤ gb215)); clear HO204; clear HO212; clear HB; have HO204 := n0_; have HO212 := n1_; have HB := n2_; have BK215 := n3_; have GW215 := n4_; have GE215 := n5_; clear n0_ n1_ n2_ n3_ n4_ n5_; clear hb hbox hg; have hcz10_0 : w9.cell? ⟨gb215, 0, none⟩ = some (.int .u64 0) := (blk_cell BK215.out 0).trans rfl; have hcz10_1 : w9.cell? ⟨gb215, 1, none⟩ = some (.int .u64 0) := (blk_cell BK215.out 1).trans rfl; have hcz10_2 : w9.cell? ⟨gb215, 2, none⟩ = some (.int .i64 0) := (blk_cell BK215.out 2).trans rfl; have hcz10_3 : w9.cell? ⟨gb215, 3, none⟩ = some (.int .i64 0) := (blk_cell BK215.out 3).trans rfl; have hcz10_4 : w9.cell? ⟨gb215, 4, none⟩ = some (.int .i64 0) := (blk_cell BK215.out 4).trans rfl; have hcz10_5 : w9.cell? ⟨gb215, 5, none⟩ = some (.slice none 0 0) := (blk_cell BK215.out 5).trans rfl; have hcz10_6 : w9.cell? ⟨gb215, 6, none⟩ = some (.int .u64 0) := (blk_cell BK215.out 6).trans rfl; have hfz10_0 := blk_frozen BK215.out 0; have hfz10_1 := blk_frozen BK215.out 1; have hfz10_2 := blk_frozen BK215.out 2; have hfz10_3 := blk_frozen BK215.out 3; have hfz10_4 := blk_frozen BK215.out 4; have hfz10_5 := blk_frozen BK215.out 5; have hfz10_6 := blk_frozen BK215.out 6; obtain ⟨Ao11, co11, eo11⟩ := Kd.N_slice HO212.out; subst eo11) | ((with_reducible refine gate_store (t := 65) (p := 2) rfl ?_); refine store_event (t := 65) (p := 2) (v := ?vo_w12) (w1 := (((((((w9.setCell ⟨gb215, 0, none⟩ (.int .u64 t205)).setCell ⟨gb215, 1, none⟩ (.int .u64 t206)).setCell ⟨gb215, 2, none⟩ (.int .i64 t207)).setCell ⟨gb215, 3, none⟩ (.int .i64 t208)).setCell ⟨gb215, 4, none⟩ (.int .i64 t209)).setCell ⟨gb215, 5, none⟩ (.slice Ao11 t210.length co11)).setCell ⟨gb215, 6, none⟩ (.int .u64 t213))) ?hg ?ho ?hn ?hr ?_; (case ho => rfl); (case hg => rfl); (case hn => rfl); (case hr => first | (go_simp; done) | (go_simp; rfl)); intro w12 hw; have n0_ : Aside0 (Kd.N (Kd.slice 112 k112) 101 w12 w.heap.size (fun k_ => some k_ ≠ (.slice Ao11 t210.length co11 : Value).ownBlock ∧ k_ ≠ gb215) (.slice Ao7 y202.length co7) y202) := ⟨(by rw [hw]; exact (by (with_reducible repeat (first | apply Kd.N_alloc | apply Kd.N_drewN | apply Kd.N_drew)); exact Kd.N_mono (Kd.N_far (p := ⟨gb215, 6, none⟩) (Kd.N_far (p := ⟨gb215, 5, none⟩) (Kd.N_far (p := ⟨gb215, 4, none⟩) (Kd.N_far (p := ⟨gb215, 3, none⟩) (Kd.N_far (p := ⟨gb215, 2, none⟩) (Kd.N_far (p := ⟨gb215, 1, none⟩) (Kd.N_far (p := ⟨gb215, 0, none⟩) (Kd.N_mono HO204.out (fun k_ hk => (⟨hk, hk.2⟩ : _ ∧ k_ ≠ gb215))) (fun _ hk => hk.2) (.int .u64 t205)) (fun _ hk => hk.2) (.int .u64 t206)) (fun _ hk => hk.2) (.int .i64 t207)) (fun _ hk => hk.2) (.int .i64 t208)) (fun _ hk => hk.2) (.int .i64 t209)) (fun _ hk => hk.2) (.slice Ao11 t210.length co11)) (fun _ hk => hk.2) (.int .u64 t213)) (fun _ hk => ⟨hk.1.1.2, hk.1.2⟩)))⟩; have n1_ : Aside0 (Kd.N (Kd.slice 101 (Kd.slice 112 k112)) 28 w12 w.heap.size (fun k_ => k_ ≠ gb215) (.slice Ao11 t210.length co11) t210) := ⟨(by rw [hw]; exact (by (with_reducible repeat (first | apply Kd.N_alloc | apply Kd.N_drewN | apply Kd.N_drew)); exact Kd.N_mono (Kd.N_far (p := ⟨gb215, 6, none⟩) (Kd.N_far (p := ⟨gb215, 5, none⟩) (Kd.N_far (p := ⟨gb215, 4, none⟩) (Kd.N_far (p := ⟨gb215, 3, none⟩) (Kd.N_far (p := ⟨gb215, 2, none⟩) (Kd.N_far (p := ⟨gb215, 1, none⟩) (Kd.N_far (p := ⟨gb215, 0, none⟩) (Kd.N_mono HO212.out (fun k_ hk => (⟨hk, hk.2⟩ : _ ∧ k_ ≠ gb215))) (fun _ hk => hk.2) (.int .u64 t205)) (fun _ hk => hk.2) (.int .u64 t206)) (fun _ hk => hk.2) (.int .i64 t207)) (fun _ hk => hk.2) (.int .i64 t208)) (fun _ hk => hk.2) (.int .i64 t209)) (fun _ hk => hk.2) (.slice Ao11 t210.length co11)) (fun _ hk => hk.2) (.int .u64 t213)) (fun _ hk => hk.1.2)))⟩; have n2_ : Aside0 (w12.heap[gb215]? = some (.cells #[.int .u64 t205, .int .u64 t206, .int .i64 t207, .int .i64 t208, .int .i64 t209, .slice Ao11 t210.length co11, .int .u64 t213] 65 (0, 0))) := ⟨(by rw [hw]; exact (by (with_reducible repeat (first | refine blk_drewN ?_ _ | refine blk_drew ?_ | refine blk_alloc ?_ _)); refine blk_put (cs := #[.int .u64 t205, .int .u64 t206, .int .i64 t207, .int .i64 t208, .int .i64 t209, .slice Ao11 t210.length co11, .int .u64 0]) ?_ 6 _ rfl; (with_reducible repeat (first | refine blk_drewN ?_ _ | refine blk_drew ?_ | refine blk_alloc ?_ _)); refine blk_put (cs := #[.int .u64 t205, .int .u64 t206, .int .i64 t207, .int .i64 t208, .int .i64 t209, .slice none 0 0, .int .u64 0]) ?_ 5 _ rfl; (with_reducible repeat (first | refine blk_drewN ?_ _ | refine blk_drew ?_ | refine blk_alloc ?_ _)); refine blk_put (cs := #[.int .u64 t205, .int .u64 t206, .int .i64 t207, .int .i64 t208, .int .i64 0, .slice none 0 0, .int .u64 0]) ?_ 4 _ rfl; (with_reducible repeat (first | refine blk_drewN ?_ _ | refine blk_drew ?_ | refine blk_alloc ?_ _)); refine blk_put (cs := #[.int .u64 t205, .int .u64 t206, .int .i64 t207, .int .i64 0, .int .i64 0, .slice none 0 0, .int .u64 0]) ?_ 3 _ rfl; (with_reducible repeat (first | refine blk_drewN ?_ _ | refine blk_drew ?_ | refine blk_alloc ?_ _)); refine blk_put (cs := #[.int .u64 t205, .int .u64 t206, .int .i64 0, .int .i64 0, .int .i64 0, .slice none 0 0, .int .u64 0]) ?_ 2 _ rfl; (with_reducible repeat (first | refine blk_drewN ?_ _ | refine blk_drew ?_ | refine blk_alloc ?_ _)); refine blk_put (cs := #[.int .u64 t205, .int .u64 0, .int .i64 0, .int .i64 0, .int .i64 0, .slice none 0 0, .int .u64 0]) ?_ 1 _ rfl; (with_reducible repeat (first | refine blk_drewN ?_ _ | refine blk_drew ?_ | refine blk_alloc ?_ _)); refine blk_put (cs := #[.int .u64 0, .int .u64 0, .int .i64 0, .int .i64 0, .int .i64 0, .slice none 0 0, .int .u64 0]) ?_ 0 _ rfl; (with_reducible repeat (first | refine blk_drewN ?_ _ | refine blk_drew ?_ | refine blk_alloc ?_ _)); exact BK215.out))⟩; have n3_ : Aside0 (Below w.heap.size w w12) := ⟨(by rw [hw]; exact (by repeat (first | (with_reducible first | exact HB.out | apply below_alloc | apply pw_below_drewN | apply below_drew1 | refine below_set ?_ GE215.out) | exact HB.out)))⟩; clear hw; clear HO204; clear HO212; clear BK215; clear HB; have HO204 := n0_; have HO212 := n1_; have BK215 := n2_; have HB := n3_; clear n0_ n1_ n2_ n3_; have hcz13_0 : w12.cell? ⟨gb215, 0, none⟩ = some (.int .u64 t205) := (blk_cell BK215.out 0).trans rfl; have hcz13_1 : w12.cell? ⟨gb215, 1, none⟩ = some (.int .u64 t206) := (blk_cell BK215.out 1).trans rfl; have hcz13_2 : w12.cell? ⟨gb215, 2, none⟩ = some (.int .i64 t207) := (blk_cell BK215.out 2).trans rfl; have hcz13_3 : w12.cell? ⟨gb215, 3, none⟩ = some (.int .i64 t208) := (blk_cell BK215.out 3).trans rfl; have hcz13_4 : w12.cell? ⟨gb215, 4, none⟩ = some (.int .i64 t209) := (blk_cell BK215.out 4).trans rfl; have hcz13_5 : w12.cell? ⟨gb215, 5, none⟩ = some (.slice Ao11 t210.length co11) := (blk_cell BK215.out 5).trans rfl; have hcz13_6 : w12.cell? ⟨gb215, 6, none⟩ = some (.int .u64 t213) := (blk_cell BK215.out 6).trans rfl; have hfz13_0 := blk_frozen BK215.out 0; have hfz13_1 := blk_frozen BK215.out 1; have hfz13_2 := blk_frozen BK215.out 2; have hfz13_3 := blk_frozen BK215.out 3; have hfz13_4 := blk_frozen BK215.out 4; have hfz13_5 := blk_frozen BK215.out 5; have hfz13_6 := blk_frozen BK215.out 6) | ((with_reducible refine gate_callee (f := 24) rfl ?_); refine goesL_ (some 20) rfl rfl Try.func24 (by kernel_rfl) rfl #[.agg #[.int .u64 t205, .int .u64 t206, .int .i64 t207, .int .i64 t208, .int .i64 t209, .slice Ao11 t210.length co11, .int .u64 t213]] rfl (by (try simp only [List.map_toArray, List.map_cons, List.map_nil]); first | done | rfl | (simp only [List.length_drop, List.length_take]; rfl)) ?_; (with_reducible refine (stream_Send.calls k t205 t206 t207 t208 t209 (fun k_ => k_ ≠ gb215) _ _ t210 t213 t216 t219 _ ?side1 A3.out).mono ?_); (case side1 => exact Kd.N_V (HO212.out)); rintro e w14 ⟨v217, rfl, ho0, hb⟩; refine ⟨_, rfl, ?_⟩; have n0_ := Aside0.mk (Kd.N_elder' (by (with_reducible repeat (first | apply Kd.N_alloc | apply Kd.N_drewN | apply Kd.N_drew)); exact HO204.out) (Kd.N_base ho0) hb); have n1_ := Aside0.mk (Kd.N_elder' (by (with_reducible repeat (first | apply Kd.N_alloc | apply Kd.N_drewN | apply Kd.N_drew)); exact HO212.out) (Kd.N_base ho0) hb); have n2_ := Aside0.mk (Kd.N_lower (Kd.N_mono (ok' := fun k_ => k_ ≠ gb215) ho0 (fun k_ hk_ => Or.elim hk_ (fun hs_ => hs_) (fun hn_ => (Kd.freshB (g := gb215) (o := .cells #[.int .u64 t205, .int .u64 t206, .int .i64 t207, .int .i64 t208, .int .i64 t209, .slice Ao11 t210.length co11, .int .u64 t213] 65 (0, 0)) (by (with_reducible repeat (first | refine blk_drewN ?_ _ | refine blk_drew ?_ | refine blk_alloc ?_ _)); exact BK215.out) k_ hn_)))) (below_size (by repeat (first | (with_reducible first | exact HB.out | apply below_alloc | apply pw_below_drewN | apply below_drew1 | refine below_set ?_ GE215.out) | exact HB.out)))); have n3_ := Aside0.mk (blk_below (g := gb215) (o := .cells #[.int .u64 t205, .int .u64 t206, .int .i64 t207, .int .i64 t208, .int .i64 t209, .slice Ao11 t210.length co11, .int .u64 t213] 65 (0, 0)) (by (with_reducible repeat (first | refine blk_drewN ?_ _ | refine blk_drew ?_ | refine blk_alloc ?_ _)); exact BK215.out) hb); have n4_ := Aside0.mk (below_step (by repeat (first | (with_reducible first | exact HB.out | apply below_alloc | apply pw_below_drewN | apply below_drew1 | refine below_set ?_ GE215.out) | exact HB.out)) hb); clear HO204; clear HO212; clear BK215; clear HB; have HO204 := n0_; have HO212 := n1_; have HO218 := n2_; have BK215 := n3_; have HB := n4_; clear n0_ n1_ n2_ n3_ n4_; (try clear hb); (try clear hb2); (try clear hk); (try clear hi); (try clear ho0)))
  (try simp only [Act.put, List.setIfInBounds_toArray, List.set_cons_zero, List.set_cons_succ])
  obtain ⟨Al, cl, ev⟩ := Kd.N_slice HO218.out
  subst ev
  have hN := HO218.out
  have hlen : t216.length = 2 := by rw [HL.out]; rfl
  rw [hlen] at hN ⊢
  rw [HL.out] at hN
  obtain ⟨ab, ao, cs0, cs1, eA, hq, f0, f1, c0, c1⟩ := two_msgs (base := w.heap.size) (Kd.N_V hN)
  subst eA
  clear hlen hq
  have HM := Lib.hid hN
  have HBB := Lib.hid HB.out
  have h214 := H214.out
  have h219 := H219.out
  subst h214
  subst h219
  have F0 := Lib.hid f0
  have F1 := Lib.hid f1
  have C0 := Lib.hid c0
  have C1 := Lib.hid c1
  clear hN HO218 HO204 HO212 HB f0 f1 c0 c1 A2 A3 H214 H219 HL Ny202 hcz10_0 hcz10_1 hcz10_2 hcz10_3 hcz10_4 hcz10_5 hcz10_6 hfz10_0 hfz10_1 hfz10_2 hfz10_3 hfz10_4 hfz10_5 hfz10_6 hcz13_0 hcz13_1 hcz13_2 hcz13_3 hcz13_4 hcz13_5 hcz13_6 hfz13_0 hfz13_1 hfz13_2 hfz13_3 hfz13_4 hfz13_5 hfz13_6
  (try clear BK215 GW215 GE215)
  obtain ⟨A12, c12, A13, c13, A14, c14, A16, c16, A17, c17, A18, c18, A26, c26, A32, c32, A35, c35, A36, c36, A39, c39, A44, c44, A45, c45, A46, c46, e1, _, _, _, _, _, _, _, _, _, _, _, _, _, _, _, _, _, _, _, _, hl39, hf39, _⟩ := k52_openF F1.out
  have g38 := C1.out 38 (.bool true) (by rw [e1]; rfl)
  have g39 := C1.out 39 (.slice A39 1 c39) (by rw [e1]; rfl)
  have R1 := Lib.hid (show w14.rangeAt ab (ao + 47) [.int .u8 4, .int .u64 0, .int .u64 0, .int .u64 0, .int .i64 0, .int .i64 1, .int .i64 0, .string (⟨#[]⟩ : ByteArray), .string (⟨#[]⟩ : ByteArray), .int .i64 0, .int .i64 0, .int .i64 0, .slice A12 0 c12, .slice A13 0 c13, .slice A14 0 c14, .bool false, .slice A16 0 c16, .slice A17 0 c17, .slice A18 0 c18, .int .i64 0, .int .i64 0, .int .u8 0, .string (⟨#[]⟩ : ByteArray), .int .u64 0, .int .u64 0, .int .i64 0, .slice A26 0 c26, .int .u8 0, .string (⟨#[]⟩ : ByteArray), .int .u64 0, .int .u64 0, .int .i64 0, .slice A32 0 c32, .bool false, .int .i64 0, .slice A35 0 c35, .slice A36 0 c36, .int .u64 1, .bool true, .slice A39 1 c39, .string (⟨#[]⟩ : ByteArray), .int .u64 0, .int .u64 0, .int .i64 0, .slice A44 0 c44, .slice A45 0 c45, .slice A46 0 c46] from by rw [e1] at C1; exact C1.out)
  have HM9 := Lib.hid (show Kd.V E1 101 w14 w14.heap.size _ (.slice A39 1 c39) [[]] from Kd.V_mk hl39 hf39)
  clear e1 hl39 hf39
  go_wp2_with (first
    | ((with_reducible refine gate_dst (N := 54) rfl ?_); refine wpList_load_mid rfl 52 (.tmp 53) rfl ab (ao + 47) rfl _ _ R1.out Try.underlying52 rfl (by kernel_rfl) ?_)
    | (go_at_call 10; refine (take_light 0 0 0 1 0 0 4 0 0 0 1 0 1 false true _ _ _ _ _ _ _ _ _ _ _ _ _ _ _ _ _ _ _ _ _ _ _ _ _ _ _ _ _ _ _ _ _ _ _ _ _ _ (fun _ => False) (fun _ => False) _ none none A39 0 0 c39 [] [] [[]] w14 0 0 0 1 0 0 0 [⟨1, true, [[]]⟩] [] false (Kd.V_nil _ _ _ _ _) (Kd.V_nil _ _ _ _ _) HM9.out (by decide) (by kernel_rfl) (.inl rfl) (by kernel_rfl)).mono ?_; rintro e w20 ⟨v6, v7, rfl, hh, hr, hb⟩; obtain ⟨A6, c6, ev6⟩ := Kd.V_slice hh; subst ev6; obtain ⟨A7, c7, ev7⟩ := Kd.N_slice hr; subst ev7; have HH1 := Lib.hid (show Kd.V k83 83 w20 w14.heap.size (fun k => some k ≠ (.slice A7 0 c7 : Value).ownBlock) (.slice A6 1 c6) [⟨1, true, [[]]⟩] from Kd.V_mono hh (fun k hk => hk.2)); have HR1 := Lib.hid (show Kd.N E1 101 w20 w14.heap.size (fun _ => True) (.slice A7 0 c7) [] from Kd.N_mono hr (fun _ _ => trivial)); have n_HM := Lib.hid (show Kd.N k52 52 w20 w.heap.size (fun _ => True) (.slice (some ⟨ab, ao, none⟩) 2 cl) [msgV 0 false (List.replicate 8 []), msgV 1 true [[]]] from Kd.N_mono (Kd.N_below HM.out hb) (fun _ _ => trivial)); have n_HBB := Lib.hid (below_step HBB.out hb); clear hh hr hb HM HBB HM9 R1; (try clear g38 g39); have HM := n_HM; have HB := n_HBB; clear n_HM n_HBB)
    | ((with_reducible refine gate_dst (N := 6) rfl ?_); refine box_event ?hg (N := 6) ?hd (cs := #[.int .u64 0, .int .u64 0, .int .i64 0, .int .i64 0, .int .i64 0, .int .u64 0, .slice none 0 0, .slice none 0 0, .bool false]) (t := 30) ?hr ?_; (case hd => rfl); (case hg => rfl); (case hr => first | (go_simp; done) | (go_simp; rfl)); intro g6 hg wb6 hbx hb; have Eg6 := Lib.hid (show w.heap.size ≤ g6 by rw [hg]; exact HB.out.size); have n_HH1 := Lib.hid (Kd.V_below (Kd.V_elderB HH1.out g6 (Nat.le_of_eq hg.symm)) hb); have n_HR1 := Lib.hid (Kd.N_below (Kd.N_elderB HR1.out g6 (Nat.le_of_eq hg.symm)) hb); have n_HM := Lib.hid (Kd.N_below (Kd.N_elderB HM.out g6 (Nat.le_of_eq hg.symm)) hb); have n_HB := Lib.hid (below_step HB.out hb); clear HH1 HR1 HM HB; have HH1 := n_HH1; have HR1 := n_HR1; have HM := n_HM; have HB := n_HB; clear n_HH1 n_HR1 n_HM n_HB; have B6 := Lib.hid hbx; clear hg hbx hb)
    | ((with_reducible refine gate_store (t := 30) (p := 6) rfl ?_); have zc0 := (blk_cell B6.out 0).trans rfl; have zf0 := blk_frozen B6.out 0; have zc1 := (blk_cell B6.out 1).trans rfl; have zf1 := blk_frozen B6.out 1; have zc2 := (blk_cell B6.out 2).trans rfl; have zf2 := blk_frozen B6.out 2; have zc3 := (blk_cell B6.out 3).trans rfl; have zf3 := blk_frozen B6.out 3; have zc4 := (blk_cell B6.out 4).trans rfl; have zf4 := blk_frozen B6.out 4; have zc5 := (blk_cell B6.out 5).trans rfl; have zf5 := blk_frozen B6.out 5; have zc6 := (blk_cell B6.out 6).trans rfl; have zf6 := blk_frozen B6.out 6; have zc7 := (blk_cell B6.out 7).trans rfl; have zf7 := blk_frozen B6.out 7; have zc8 := (blk_cell B6.out 8).trans rfl; have zf8 := blk_frozen B6.out 8; refine store_event (t := 30) (p := 6) (v := ?vows51) (w1 := setAll wb6 g6 0 [.int .u64 0, .int .u64 0, .int .i64 0, .int .i64 1, .int .i64 0, .int .u64 0, .slice A6 1 c6, .slice A7 0 c7, .bool false]) ?hg ?ho ?hn ?hr ?_; (case ho => rfl); (case hg => rfl); (case hn => rfl); (case hr => first | (go_simp; done) | (go_simp; rfl)); intro ws51 hw; clear zc0 zf0 zc1 zf1 zc2 zf2 zc3 zf3 zc4 zf4 zc5 zf5 zc6 zf6 zc7 zf7 zc8 zf8; have n_B6 := Lib.hid (((by rw [hw]; exact setAll_box [.int .u64 0, .int .u64 0, .int .i64 0, .int .i64 1, .int .i64 0, .int .u64 0, .slice A6 1 c6, .slice A7 0 c7, .bool false] B6.out rfl) : ws51.heap[g6]? = some (.cells #[.int .u64 0, .int .u64 0, .int .i64 0, .int .i64 1, .int .i64 0, .int .u64 0, .slice A6 1 c6, .slice A7 0 c7, .bool false] 30 (0, 0)))); have n_HH1 := Lib.hid ((by rw [hw]; exact Kd.V_kept HH1.out (setAll_kept [.int .u64 0, .int .u64 0, .int .i64 0, .int .i64 1, .int .i64 0, .int .u64 0, .slice A6 1 c6, .slice A7 0 c7, .bool false] 0 wb6) (fun k hk => hk.2) : Kd.V k83 83 ws51 w14.heap.size (fun k => (fun k => some k ≠ (.slice A7 0 c7 : Value).ownBlock) k ∧ k ≠ g6) (.slice A6 1 c6) [⟨1, true, [[]]⟩])); have n_HR1 := Lib.hid ((by rw [hw]; exact Kd.N_kept HR1.out (setAll_kept [.int .u64 0, .int .u64 0, .int .i64 0, .int .i64 1, .int .i64 0, .int .u64 0, .slice A6 1 c6, .slice A7 0 c7, .bool false] 0 wb6) (fun k hk => hk.2) : Kd.N E1 101 ws51 w14.heap.size (fun k => (fun _ => True) k ∧ k ≠ g6) (.slice A7 0 c7) [])); have n_HM := Lib.hid ((by rw [hw]; exact Kd.N_kept HM.out (setAll_kept [.int .u64 0, .int .u64 0, .int .i64 0, .int .i64 1, .int .i64 0, .int .u64 0, .slice A6 1 c6, .slice A7 0 c7, .bool false] 0 wb6) (fun k hk => hk.2) : Kd.N k52 52 ws51 w.heap.size (fun k => (fun _ => True) k ∧ k ≠ g6) (.slice (some ⟨ab, ao, none⟩) 2 cl) [msgV 0 false (List.replicate 8 []), msgV 1 true [[]]])); have n_HB := Lib.hid ((by rw [hw]; exact setAll_below Eg6.out [.int .u64 0, .int .u64 0, .int .i64 0, .int .i64 1, .int .i64 0, .int .u64 0, .slice A6 1 c6, .slice A7 0 c7, .bool false] 0 wb6 HB.out : Below w.heap.size w ws51)); clear B6 HH1 HR1 HM HB; have B6 := n_B6; have HH1 := n_HH1; have HR1 := n_HR1; have HM := n_HM; have HB := n_HB; clear n_B6 n_HH1 n_HR1 n_HM n_HB; clear hw; skip))
  have hN := HM.out
  obtain ⟨ab', ao', ds0, ds1, eA', _, f0', _, c0', _⟩ := two_msgs (base := w.heap.size) (Kd.N_V hN)
  cases eA'
  obtain ⟨B12, d12, B13, d13, B14, d14, B16, d16, B17, d17, B18, d18, B26, d26, B32, d32, B35, d35, B36, d36, B39, d39, B44, d44, B45, d45, B46, d46, e0, _, _, _, _, _, _, _, _, _, _, _, _, _, _, _, _, _, _, _, _, hl39, hf39, _⟩ := k52_openF f0'
  have HM9 := Lib.hid (show Kd.V E1 101 ws51 w.heap.size (fun k => k ≠ g6) (.slice B39 8 d39) (List.replicate 8 []) from Kd.V_mono (Kd.V_mk (base := w.heap.size) hl39 hf39) (fun k hk => hk.2))
  obtain ⟨DS, hDS⟩ : ∃ x : List Value, x = [.int .u8 4, .int .u64 0, .int .u64 0, .int .u64 0, .int .i64 0, .int .i64 1, .int .i64 0, .string (⟨#[]⟩ : ByteArray), .string (⟨#[]⟩ : ByteArray), .int .i64 0, .int .i64 0, .int .i64 0, .slice B12 0 d12, .slice B13 0 d13, .slice B14 0 d14, .bool false, .slice B16 0 d16, .slice B17 0 d17, .slice B18 0 d18, .int .i64 0, .int .i64 0, .int .u8 0, .string (⟨#[]⟩ : ByteArray), .int .u64 0, .int .u64 0, .int .i64 0, .slice B26 0 d26, .int .u8 0, .string (⟨#[]⟩ : ByteArray), .int .u64 0, .int .u64 0, .int .i64 0, .slice B32 0 d32, .bool false, .int .i64 0, .slice B35 0 d35, .slice B36 0 d36, .int .u64 0, .bool false, .slice B39 8 d39, .string (⟨#[]⟩ : ByteArray), .int .u64 0, .int .u64 0, .int .i64 0, .slice B44 0 d44, .slice B45 0 d45, .slice B46 0 d46] := ⟨_, rfl⟩
  have R0 := Lib.hid (show ws51.rangeAt ab ao DS from by rw [hDS]; rw [e0] at c0'; exact c0')
  have HDS := Lib.hid hDS
  clear hN f0' c0' hl39 hf39 e0 hDS
  refine start_ (n := 10) (S := fun w' => w'.rangeAt g6 0 [.int .u64 0, .int .u64 0, .int .i64 0, .int .i64 1, .int .i64 0, .int .u64 0, .slice A6 1 c6, .slice A7 0 c7, .bool false] ∧ w'.rangeAt ab ao DS) (ds := [4, 8]) #[false, false, false, false, false, false, false, false, false, false] (by kernel_rfl) rfl rfl ⟨range_of (blk_drew B6.out) 0 _ (by rfl), R0.out⟩ (fun hHeld => ?_)
  generalize hw8 : World.drew _ = wd at hHeld ⊢
  have n_B6 := Lib.hid (show wd.heap[g6]? = some (.cells #[.int .u64 0, .int .u64 0, .int .i64 0, .int .i64 1, .int .i64 0, .int .u64 0, .slice A6 1 c6, .slice A7 0 c7, .bool false] 30 (0, 0)) from (by rw [← hw8]; exact blk_drew B6.out))
  have n_HH1 := Lib.hid (show Kd.V k83 83 wd w14.heap.size (fun k => (fun k => some k ≠ (.slice A7 0 c7 : Value).ownBlock) k ∧ k ≠ g6) (.slice A6 1 c6) [⟨1, true, [[]]⟩] from (by rw [← hw8]; exact Kd.V_drew HH1.out))
  have n_HR1 := Lib.hid (show Kd.N E1 101 wd w14.heap.size (fun k => (fun _ => True) k ∧ k ≠ g6) (.slice A7 0 c7) [] from (by rw [← hw8]; exact Kd.N_drew HR1.out))
  have n_HM := Lib.hid (show Kd.N k52 52 wd w.heap.size (fun k => (fun _ => True) k ∧ k ≠ g6) (.slice (some ⟨ab, ao, none⟩) 2 cl) [msgV 0 false (List.replicate 8 []), msgV 1 true [[]]] from (by rw [← hw8]; exact Kd.N_drew HM.out))
  have n_HB := Lib.hid (show Below w.heap.size w wd from (by rw [← hw8]; exact below_drew1 HB.out))
  have n_HM9 := Lib.hid (show Kd.V E1 101 wd w.heap.size (fun k => k ≠ g6) (.slice B39 8 d39) (List.replicate 8 []) from (by rw [← hw8]; exact Kd.V_drew HM9.out))
  clear B6 HH1 HR1 HM HB HM9 R0 hw8
  have B6 := n_B6
  have HH1 := n_HH1
  have HR1 := n_HR1
  have HM := n_HM
  have HB := n_HB
  have HM9 := n_HM9
  clear n_B6 n_HH1 n_HR1 n_HM n_HB n_HM9
  refine take_ (i := 0) (N := some 59) (v := .agg (List.toArray [.int .u64 0, .int .u64 0, .int .i64 0, .int .i64 1, .int .i64 0, .int .u64 0, .slice A6 1 c6, .slice A7 0 c7, .bool false])) (a' := ?aa59) #[true, false, false, false, false, false, false, false, false, false] rfl rfl (by kernel_rfl) (fun _ _ _ h => h) ?yy59 hHeld ?pp59 ?nn59
  case yy59 => exact yieldsIf_load_mid (by rfl) 30 (.tmp 6) (by rfl) g6 0 (by rfl) _ _ (fun w' s_ => s_.1) Try.underlying30 rfl (by kernel_rfl)
  case pp59 =>
    simp only [Act.put, List.setIfInBounds_toArray, List.set_cons_zero, List.set_cons_succ, i64_w, i32_w]
    rfl
  refine pure_ (i := 1) (N := some 60) (v := ?_) (a' := ?_) #[true, true, false, false, false, false, false, false, false, false] rfl rfl (by kernel_rfl) (fun _ _ _ h => h) (Or.inl ⟨by rfl, ?_⟩) ?_ ?_
  rotate_left
  · intro w'
    go_simp
    with_reducible rfl
  rotate_left
  · simp only [Act.put, List.setIfInBounds_toArray, List.set_cons_zero, List.set_cons_succ, i64_w, i32_w]
    rfl
  refine pure_ (i := 2) (N := some 61) (v := ?_) (a' := ?_) #[true, true, true, false, false, false, false, false, false, false] rfl rfl (by kernel_rfl) (fun _ _ _ h => h) (Or.inl ⟨by rfl, ?_⟩) ?_ ?_
  rotate_left
  · intro w'
    go_simp
    with_reducible rfl
  rotate_left
  · simp only [Act.put, List.setIfInBounds_toArray, List.set_cons_zero, List.set_cons_succ, i64_w, i32_w]
    rfl
  refine take_ (i := 3) (N := some 62) (v := .agg DS.toArray) (a' := ?aa62) #[true, true, true, true, false, false, false, false, false, false] rfl rfl (by kernel_rfl) (fun _ _ _ h => h) ?yy62 hHeld ?pp62 ?nn62
  case yy62 => exact yieldsIf_load_mid (by rfl) 52 (.tmp 61) (by rfl) ab ao (by rfl) _ _ (fun w' s_ => s_.2) Try.underlying52 rfl (by rw [HDS.out]; kernel_rfl)
  case pp62 =>
    simp only [Act.put, List.setIfInBounds_toArray, List.set_cons_zero, List.set_cons_succ, i64_w, i32_w]
    rfl
  refine last_ (i := 4) (N := some 63) #[true, true, true, true, true, false, false, false, false, false] rfl rfl (by kernel_rfl) (by decide) (fun K hK => ?_)
  have hDS := HDS.out
  clear HDS
  subst hDS
  refine goes_ Try.func10 (by kernel_rfl) rfl #[.agg #[.int .u64 0, .int .u64 0, .int .i64 0, .int .i64 1, .int .i64 0, .int .u64 0, .slice A6 1 c6, .slice A7 0 c7, .bool false], .agg #[.int .u8 4, .int .u64 0, .int .u64 0, .int .u64 0, .int .i64 0, .int .i64 1, .int .i64 0, .string (⟨#[]⟩ : ByteArray), .string (⟨#[]⟩ : ByteArray), .int .i64 0, .int .i64 0, .int .i64 0, .slice B12 0 d12, .slice B13 0 d13, .slice B14 0 d14, .bool false, .slice B16 0 d16, .slice B17 0 d17, .slice B18 0 d18, .int .i64 0, .int .i64 0, .int .u8 0, .string (⟨#[]⟩ : ByteArray), .int .u64 0, .int .u64 0, .int .i64 0, .slice B26 0 d26, .int .u8 0, .string (⟨#[]⟩ : ByteArray), .int .u64 0, .int .u64 0, .int .i64 0, .slice B32 0 d32, .bool false, .int .i64 0, .slice B35 0 d35, .slice B36 0 d36, .int .u64 0, .bool false, .slice B39 8 d39, .string (⟨#[]⟩ : ByteArray), .int .u64 0, .int .u64 0, .int .i64 0, .slice B44 0 d44, .slice B45 0 d45, .slice B46 0 d46]] (by rfl) rfl rfl (by (try simp only [List.map_toArray, List.map_cons, List.map_nil]); first | done | rfl) ?_
  refine (take_light 0 0 0 1 0 0 4 0 0 0 1 0 0 false false _ _ _ _ _ _ _ _ _ _ _ _ _ _ _ _ _ _ _ _ _ _ _ _ _ _ _ _ _ _ _ _ _ _ _ _ _ _ _ _ _ A6 A7 B39 c6 c7 d39 [⟨1, true, [[]]⟩] [] (List.replicate 8 []) wd 0 0 0 1 0 2 0 [] (List.replicate 8 [] ++ [[]]) true (Kd.V_map (base := w14.heap.size) (base' := wd.heap.size) HH1.out (fun _ hf => hf)) (Kd.N_V (base' := wd.heap.size) HR1.out) (Kd.V_map (base := w.heap.size) (base' := wd.heap.size) HM9.out (fun _ hf => hf)) (by decide) (by kernel_rfl) (.inl rfl) (by kernel_rfl)).mono ?_
  rintro e wo ⟨v6, v7, rfl, hh, hr, hb⟩
  refine ⟨_, rfl, ?_⟩
  have l6 := blk_lt B6.out
  have HR2 := Lib.hid (show Kd.N E1 101 wo wd.heap.size (fun k => k ≠ g6) v7 (List.replicate 8 [] ++ [[]]) from Kd.N_mono hr (fun k hk => by rcases hk with (h | h | h) | h <;> first | exact h.2 | exact h | omega))
  have HH2 := Lib.hid (show Kd.V k83 83 wo wd.heap.size (fun k => k ≠ g6) v6 [] from Kd.V_mono hh (fun k hk => by rcases hk.1 with (h | h | h) | h <;> first | exact h.2 | exact h | omega))
  obtain ⟨A8, c8, ev6⟩ := Kd.V_slice hh
  have ev6' : v6 = .slice A8 0 c8 := ev6
  obtain ⟨A9, c9, ev7⟩ := Kd.N_slice hr
  have ev7' : v7 = .slice A9 9 c9 := ev7
  clear ev6 ev7 hh hr
  subst ev6' ev7'
  have n_B6 := Lib.hid (blk_below B6.out hb)
  have n_HM := Lib.hid (show Kd.N k52 52 wo w.heap.size (fun k => (fun _ => True) k ∧ k ≠ g6) (.slice (some ⟨ab, ao, none⟩) 2 cl) [msgV 0 false (List.replicate 8 []), msgV 1 true [[]]] from Kd.N_below HM.out hb)
  have n_HB := Lib.hid (below_step HB.out hb)
  clear B6 HM HB
  have B6 := n_B6
  have HM := n_HM
  have HB := n_HB
  clear n_B6 n_HM n_HB
  clear hb HH1 HR1 HM9
  refine hK.out _ _ ?_
  clear hK K hHeld
  refine norm_ (a' := ?_) ?_ ?_
  rotate_left
  · show Act.put _ (some 63) _ = _
    simp only [Act.put, List.setIfInBounds_toArray, List.set_cons_zero, List.set_cons_succ, i64_w, i32_w]
    rfl
  refine pure_ (i := 5) (N := some 58) (v := ?_) (a' := ?_) #[true, true, true, true, true, true, false, false, false, false] rfl rfl (by kernel_rfl) (fun _ _ _ h => h) (Or.inl ⟨by rfl, ?_⟩) ?_ ?_
  rotate_left
  · intro w'
    go_simp
    with_reducible rfl
  rotate_left
  · simp only [Act.put, List.setIfInBounds_toArray, List.set_cons_zero, List.set_cons_succ, i64_w, i32_w]
    rfl
  refine pure_ (i := 6) (N := some 64) (v := ?_) (a' := ?_) #[true, true, true, true, true, true, true, false, false, false] rfl rfl (by kernel_rfl) (fun _ _ _ h => h) (Or.inl ⟨by rfl, ?_⟩) ?_ ?_
  rotate_left
  · intro w'
    go_simp
    with_reducible rfl
  rotate_left
  · simp only [Act.put, List.setIfInBounds_toArray, List.set_cons_zero, List.set_cons_succ, i64_w, i32_w]
    rfl
  refine pure_ (i := 7) (N := some 65) (v := ?_) (a' := ?_) #[true, true, true, true, true, true, true, true, false, false] rfl rfl (by kernel_rfl) (fun _ _ _ h => h) (Or.inl ⟨by rfl, ?_⟩) ?_ ?_
  rotate_left
  · intro w'
    go_simp
    with_reducible rfl
  rotate_left
  · simp only [Act.put, List.setIfInBounds_toArray, List.set_cons_zero, List.set_cons_succ, i64_w, i32_w]
    rfl
  have zc0 := (blk_cell B6.out 0).trans rfl
  have zf0 := blk_frozen B6.out 0
  have zc1 := (blk_cell B6.out 1).trans rfl
  have zf1 := blk_frozen B6.out 1
  have zc2 := (blk_cell B6.out 2).trans rfl
  have zf2 := blk_frozen B6.out 2
  have zc3 := (blk_cell B6.out 3).trans rfl
  have zf3 := blk_frozen B6.out 3
  have zc4 := (blk_cell B6.out 4).trans rfl
  have zf4 := blk_frozen B6.out 4
  have zc5 := (blk_cell B6.out 5).trans rfl
  have zf5 := blk_frozen B6.out 5
  have zc6 := (blk_cell B6.out 6).trans rfl
  have zf6 := blk_frozen B6.out 6
  have zc7 := (blk_cell B6.out 7).trans rfl
  have zf7 := blk_frozen B6.out 7
  have zc8 := (blk_cell B6.out 8).trans rfl
  have zf8 := blk_frozen B6.out 8
  refine last_ (i := 8) (N := none) #[true, true, true, true, true, true, true, true, true, false] rfl rfl (by kernel_rfl) (by decide) (fun K hK => ?_)
  refine skip_ (w1 := setAll wo g6 0 [.int .u64 0, .int .u64 0, .int .i64 0, .int .i64 1, .int .i64 0, .int .u64 2, .slice A8 0 c8, .slice A9 9 c9, .bool true]) (by rfl) rfl ?_ ?_
  · first | (go_simp; done) | (go_simp; rfl)
  refine hK.out _ _ ?_
  clear hK K
  clear zc0 zf0 zc1 zf1 zc2 zf2 zc3 zf3 zc4 zf4 zc5 zf5 zc6 zf6 zc7 zf7 zc8 zf8
  obtain ⟨ws7, hw⟩ : ∃ x, x = setAll wo g6 0 [.int .u64 0, .int .u64 0, .int .i64 0, .int .i64 1, .int .i64 0, .int .u64 2, .slice A8 0 c8, .slice A9 9 c9, .bool true] := ⟨_, rfl⟩
  rw [← hw]
  have n_B6 := Lib.hid (show ws7.heap[g6]? = some (.cells #[.int .u64 0, .int .u64 0, .int .i64 0, .int .i64 1, .int .i64 0, .int .u64 2, .slice A8 0 c8, .slice A9 9 c9, .bool true] 30 (0, 0)) from (by rw [hw]; exact setAll_box [.int .u64 0, .int .u64 0, .int .i64 0, .int .i64 1, .int .i64 0, .int .u64 2, .slice A8 0 c8, .slice A9 9 c9, .bool true] B6.out rfl)); have n_HM := Lib.hid (show Kd.N k52 52 ws7 w.heap.size (fun k => (fun _ => True) k ∧ k ≠ g6) (.slice (some ⟨ab, ao, none⟩) 2 cl) [msgV 0 false (List.replicate 8 []), msgV 1 true [[]]] from (by rw [hw]; exact Kd.N_kept HM.out (setAll_kept [.int .u64 0, .int .u64 0, .int .i64 0, .int .i64 1, .int .i64 0, .int .u64 2, .slice A8 0 c8, .slice A9 9 c9, .bool true] 0 _) (fun k hk => hk.2))); have n_HH2 := Lib.hid (show Kd.V k83 83 ws7 wd.heap.size (fun k => k ≠ g6) (.slice A8 0 c8) [] from (by rw [hw]; exact Kd.V_kept HH2.out (setAll_kept [.int .u64 0, .int .u64 0, .int .i64 0, .int .i64 1, .int .i64 0, .int .u64 2, .slice A8 0 c8, .slice A9 9 c9, .bool true] 0 _) (fun k hk => hk))); have n_HR2 := Lib.hid (show Kd.N E1 101 ws7 wd.heap.size (fun k => k ≠ g6) (.slice A9 9 c9) (List.replicate 8 [] ++ [[]]) from (by rw [hw]; exact Kd.N_kept HR2.out (setAll_kept [.int .u64 0, .int .u64 0, .int .i64 0, .int .i64 1, .int .i64 0, .int .u64 2, .slice A8 0 c8, .slice A9 9 c9, .bool true] 0 _) (fun k hk => hk))); have n_HB := Lib.hid (show Below w.heap.size w ws7 from (by rw [hw]; exact setAll_below Eg6.out [.int .u64 0, .int .u64 0, .int .i64 0, .int .i64 1, .int .i64 0, .int .u64 2, .slice A8 0 c8, .slice A9 9 c9, .bool true] 0 _ HB.out)); clear B6 HM HH2 HR2 HB; have B6 := n_B6; have HM := n_HM; have HH2 := n_HH2; have HR2 := n_HR2; have HB := n_HB; clear n_B6 n_HM n_HH2 n_HR2 n_HB
  clear hw
  refine pure_ (i := 9) (N := some 8) (v := ?_) (a' := ?_) #[true, true, true, true, true, true, true, true, true, true] rfl rfl (by kernel_rfl) (fun _ _ _ h => h) (Or.inl ⟨by rfl, ?_⟩) ?_ ?_
  rotate_left
  · intro w'
    go_simp
    with_reducible rfl
  rotate_left
  · simp only [Act.put, List.setIfInBounds_toArray, List.set_cons_zero, List.set_cons_succ, i64_w, i32_w]
    rfl
  refine done_ (by kernel_rfl) ?_
  go_wp2
  have hN := HM.out
  obtain ⟨ab1, ao1, ds2, ds3, eA1, _, f1', _, c1', _⟩ := two_msgs (base := w.heap.size) (Kd.N_V hN)
  cases eA1
  obtain ⟨X12, x12, X13, x13, X14, x14, X16, x16, X17, x17, X18, x18, X26, x26, X32, x32, X35, x35, X36, x36, X39, x39, X44, x44, X45, x45, X46, x46, e2, _, _, _, _, _, _, _, _, _, _, _, _, _, _, _, _, _, _, _, _, hl39, hf39, _⟩ := k52_openF f1'
  have HM9 := Lib.hid (show Kd.V E1 101 ws7 w.heap.size (fun k => k ≠ g6) (.slice X39 8 x39) (List.replicate 8 []) from Kd.V_mono (Kd.V_mk (base := w.heap.size) hl39 hf39) (fun k hk => hk.2))
  obtain ⟨DT, hDS⟩ : ∃ x : List Value, x = [.int .u8 4, .int .u64 0, .int .u64 0, .int .u64 0, .int .i64 0, .int .i64 1, .int .i64 0, .string (⟨#[]⟩ : ByteArray), .string (⟨#[]⟩ : ByteArray), .int .i64 0, .int .i64 0, .int .i64 0, .slice X12 0 x12, .slice X13 0 x13, .slice X14 0 x14, .bool false, .slice X16 0 x16, .slice X17 0 x17, .slice X18 0 x18, .int .i64 0, .int .i64 0, .int .u8 0, .string (⟨#[]⟩ : ByteArray), .int .u64 0, .int .u64 0, .int .i64 0, .slice X26 0 x26, .int .u8 0, .string (⟨#[]⟩ : ByteArray), .int .u64 0, .int .u64 0, .int .i64 0, .slice X32 0 x32, .bool false, .int .i64 0, .slice X35 0 x35, .slice X36 0 x36, .int .u64 0, .bool false, .slice X39 8 x39, .string (⟨#[]⟩ : ByteArray), .int .u64 0, .int .u64 0, .int .i64 0, .slice X44 0 x44, .slice X45 0 x45, .slice X46 0 x46] := ⟨_, rfl⟩
  have R0 := Lib.hid (show ws7.rangeAt ab ao DT from by rw [hDS]; rw [e2] at c1'; exact c1')
  have HDS := Lib.hid hDS
  clear hN f1' c1' hl39 hf39 e2 hDS
  refine start_ (n := 11) (S := fun w' => w'.rangeAt g6 0 [.int .u64 0, .int .u64 0, .int .i64 0, .int .i64 1, .int .i64 0, .int .u64 2, .slice A8 0 c8, .slice A9 9 c9, .bool true] ∧ w'.rangeAt ab ao DT) (ds := [9]) #[false, false, false, false, false, false, false, false, false, false, false] (by kernel_rfl) rfl rfl ⟨range_of (blk_drew B6.out) 0 _ (by rfl), R0.out⟩ (fun hHeld => ?_)
  generalize hw8 : World.drew _ = we at hHeld ⊢
  have n_B6 := Lib.hid (show we.heap[g6]? = some (.cells #[.int .u64 0, .int .u64 0, .int .i64 0, .int .i64 1, .int .i64 0, .int .u64 2, .slice A8 0 c8, .slice A9 9 c9, .bool true] 30 (0, 0)) from (by rw [← hw8]; exact blk_drew B6.out))
  have n_HM := Lib.hid (show Kd.N k52 52 we w.heap.size (fun k => (fun _ => True) k ∧ k ≠ g6) (.slice (some ⟨ab, ao, none⟩) 2 cl) [msgV 0 false (List.replicate 8 []), msgV 1 true [[]]] from (by rw [← hw8]; exact Kd.N_drew HM.out))
  have n_HR2 := Lib.hid (show Kd.N E1 101 we wd.heap.size (fun k => k ≠ g6) (.slice A9 9 c9) ([[], [], [], [], [], [], [], [], []] : List (List S112)) from (by rw [← hw8]; exact Kd.N_drew HR2.out))
  have n_HB := Lib.hid (show Below w.heap.size w we from (by rw [← hw8]; exact below_drew1 HB.out))
  have n_HH2 := Lib.hid (show Kd.V k83 83 we wd.heap.size (fun k => k ≠ g6) (.slice A8 0 c8) [] from (by rw [← hw8]; exact Kd.V_drew HH2.out))
  have n_HM9 := Lib.hid (show Kd.V E1 101 we w.heap.size (fun k => k ≠ g6) (.slice X39 8 x39) (List.replicate 8 []) from (by rw [← hw8]; exact Kd.V_drew HM9.out))
  clear B6 HM HR2 HB HH2 HM9 R0 hw8
  have B6 := n_B6
  have HM := n_HM
  have HR2 := n_HR2
  have HB := n_HB
  have HH2 := n_HH2
  have HM9 := n_HM9
  clear n_B6 n_HM n_HR2 n_HB n_HH2 n_HM9
  refine take_ (i := 0) (N := some 67) (v := .agg (List.toArray [.int .u64 0, .int .u64 0, .int .i64 0, .int .i64 1, .int .i64 0, .int .u64 2, .slice A8 0 c8, .slice A9 9 c9, .bool true])) (a' := ?aa67) #[true, false, false, false, false, false, false, false, false, false, false] rfl rfl (by kernel_rfl) (fun _ _ _ h => h) ?yy67 hHeld ?pp67 ?nn67
  case yy67 => exact yieldsIf_load_mid (by rfl) 30 (.tmp 6) (by rfl) g6 0 (by rfl) _ _ (fun w' s_ => s_.1) Try.underlying30 rfl (by kernel_rfl)
  case pp67 =>
    simp only [Act.put, List.setIfInBounds_toArray, List.set_cons_zero, List.set_cons_succ, i64_w, i32_w]
    rfl
  refine pure_ (i := 1) (N := some 68) (v := ?_) (a' := ?_) #[true, true, false, false, false, false, false, false, false, false, false] rfl rfl (by kernel_rfl) (fun _ _ _ h => h) (Or.inl ⟨by rfl, ?_⟩) ?_ ?_
  rotate_left
  · intro w'
    go_simp
    with_reducible rfl
  rotate_left
  · simp only [Act.put, List.setIfInBounds_toArray, List.set_cons_zero, List.set_cons_succ, i64_w, i32_w]
    rfl
  refine pure_ (i := 2) (N := some 69) (v := ?_) (a' := ?_) #[true, true, true, false, false, false, false, false, false, false, false] rfl rfl (by kernel_rfl) (fun _ _ _ h => h) (Or.inl ⟨by rfl, ?_⟩) ?_ ?_
  rotate_left
  · intro w'
    go_simp
    with_reducible rfl
  rotate_left
  · simp only [Act.put, List.setIfInBounds_toArray, List.set_cons_zero, List.set_cons_succ, i64_w, i32_w]
    rfl
  refine take_ (i := 3) (N := some 70) (v := .agg DT.toArray) (a' := ?aa70) #[true, true, true, true, false, false, false, false, false, false, false] rfl rfl (by kernel_rfl) (fun _ _ _ h => h) ?yy70 hHeld ?pp70 ?nn70
  case yy70 => exact yieldsIf_load_mid (by rfl) 52 (.tmp 69) (by rfl) ab ao (by rfl) _ _ (fun w' s_ => s_.2) Try.underlying52 rfl (by rw [HDS.out]; kernel_rfl)
  case pp70 =>
    simp only [Act.put, List.setIfInBounds_toArray, List.set_cons_zero, List.set_cons_succ, i64_w, i32_w]
    rfl
  have hDS := HDS.out
  clear HDS
  subst hDS
  refine join_ (σ := (Option Addr × Nat) × (Option Addr × Nat) × Nat) 2 #[true, true, true, true, true, true, true, true, true, false, false] (fun s_ => [(71, .tuple #[.agg #[.int .u64 0, .int .u64 0, .int .i64 0, .int .i64 1, .int .i64 0, .int .u64 2, .slice s_.1.1 0 s_.1.2, .slice s_.2.1.1 9 s_.2.1.2, .bool true], .int .i64 15]), (66, .tuple #[.agg #[.int .u64 0, .int .u64 0, .int .i64 0, .int .i64 1, .int .i64 0, .int .u64 2, .slice s_.1.1 0 s_.1.2, .slice s_.2.1.1 9 s_.2.1.2, .bool true], .int .i64 15]), (72, .agg #[.int .u64 0, .int .u64 0, .int .i64 0, .int .i64 1, .int .i64 0, .int .u64 2, .slice s_.1.1 0 s_.1.2, .slice s_.2.1.1 9 s_.2.1.2, .bool true]), (73, .int .i64 15), (9, .pointer (some ⟨s_.2.2, 0, none⟩))]) (fun s_ w' => w'.heap[g6]? = some (.cells #[.int .u64 0, .int .u64 0, .int .i64 0, .int .i64 1, .int .i64 0, .int .u64 2, .slice A8 0 c8, .slice A9 9 c9, .bool true] 30 (0, 0)) ∧ w'.heap[s_.2.2]? = some (.cells #[.int .u64 0, .int .u64 0, .int .i64 0, .int .i64 0, .int .i64 0, .int .u64 0, .slice none 0 0, .slice none 0 0, .bool false] 30 (0, 0)) ∧ w.heap.size ≤ s_.2.2 ∧ g6 ≠ s_.2.2 ∧ Below w.heap.size w w') ?_ ?_
  rotate_left
  · intro hCont
    refine two_ (i := 4) (j := 8) (Ni := some 71) (Nj := some 9) #[true, true, true, true, true, false, false, false, false, false, false] #[true, true, true, true, false, false, false, false, true, false, false] rfl rfl rfl rfl (by kernel_rfl) (by decide) (by decide) (fun K hK => ?_) (fun K hK => ?_)
    · have hR := hHeld.2
      refine goes_ Try.func10 (by kernel_rfl) rfl #[.agg #[.int .u64 0, .int .u64 0, .int .i64 0, .int .i64 1, .int .i64 0, .int .u64 2, .slice A8 0 c8, .slice A9 9 c9, .bool true], .agg #[.int .u8 4, .int .u64 0, .int .u64 0, .int .u64 0, .int .i64 0, .int .i64 1, .int .i64 0, .string (⟨#[]⟩ : ByteArray), .string (⟨#[]⟩ : ByteArray), .int .i64 0, .int .i64 0, .int .i64 0, .slice X12 0 x12, .slice X13 0 x13, .slice X14 0 x14, .bool false, .slice X16 0 x16, .slice X17 0 x17, .slice X18 0 x18, .int .i64 0, .int .i64 0, .int .u8 0, .string (⟨#[]⟩ : ByteArray), .int .u64 0, .int .u64 0, .int .i64 0, .slice X26 0 x26, .int .u8 0, .string (⟨#[]⟩ : ByteArray), .int .u64 0, .int .u64 0, .int .i64 0, .slice X32 0 x32, .bool false, .int .i64 0, .slice X35 0 x35, .slice X36 0 x36, .int .u64 0, .bool false, .slice X39 8 x39, .string (⟨#[]⟩ : ByteArray), .int .u64 0, .int .u64 0, .int .i64 0, .slice X44 0 x44, .slice X45 0 x45, .slice X46 0 x46]] (by rfl) rfl rfl (by (try simp only [List.map_toArray, List.map_cons, List.map_nil]); first | done | rfl) ?_
      refine (take_light 0 0 0 1 0 2 4 0 0 0 1 0 0 true false _ _ _ _ _ _ _ _ _ _ _ _ _ _ _ _ _ _ _ _ _ _ _ _ _ _ _ _ _ _ _ _ _ _ _ _ _ _ _ _ _ A8 A9 X39 c8 c9 x39 [] ([[], [], [], [], [], [], [], [], []] : List (List S112)) (List.replicate 8 []) we 0 0 0 1 0 2 15 [] ([[], [], [], [], [], [], [], [], []] : List (List S112)) true (Kd.V_map (base := wd.heap.size) (base' := we.heap.size) HH2.out (fun _ hf => hf)) (Kd.N_V (base' := we.heap.size) HR2.out) (Kd.V_map (base := w.heap.size) (base' := we.heap.size) HM9.out (fun _ hf => hf)) (by decide) (by kernel_rfl) (.inr rfl) (by kernel_rfl)).mono ?_
      rintro e wo ⟨v6, v7, rfl, hh, hr, hb⟩
      refine ⟨_, rfl, ?_⟩
      obtain ⟨Ap, cp, ev6⟩ := Kd.V_slice hh
      have ev6' : v6 = .slice Ap 0 cp := ev6
      obtain ⟨Aq, cq, ev7⟩ := Kd.N_slice hr
      have ev7' : v7 = .slice Aq 9 cq := ev7
      clear ev6 ev7 hh hr
      subst ev6' ev7'
      simp only [List.cons_append, List.nil_append]
      have n_B6 := Lib.hid (blk_below B6.out hb)
      have n_HB := Lib.hid (below_step HB.out hb)
      clear B6 HB
      have B6 := n_B6
      have HB := n_HB
      clear n_B6 n_HB
      have R0 := Lib.hid (range_below hR hb)
      clear hb hR
      refine hK.out _ _ ⟨range_of B6.out 0 _ (by rfl), R0.out⟩ (fun hHeld => ?_)
      clear hK K
      refine norm_ (a' := ?_) ?_ ?_
      rotate_left
      · show Act.put _ (some 71) _ = _
        simp only [Act.put, List.setIfInBounds_toArray, List.set_cons_zero, List.set_cons_succ, i64_w, i32_w]
        rfl
      refine pure_ (i := 5) (N := some 66) (v := ?_) (a' := ?_) #[true, true, true, true, true, true, false, false, false, false, false] rfl rfl (by kernel_rfl) (fun _ _ _ h => h) (Or.inl ⟨by rfl, ?_⟩) ?_ ?_
      rotate_left
      · intro w'
        go_simp
        with_reducible rfl
      rotate_left
      · simp only [Act.put, List.setIfInBounds_toArray, List.set_cons_zero, List.set_cons_succ, i64_w, i32_w]
        rfl
      refine pure_ (i := 6) (N := some 72) (v := ?_) (a' := ?_) #[true, true, true, true, true, true, true, false, false, false, false] rfl rfl (by kernel_rfl) (fun _ _ _ h => h) (Or.inl ⟨by rfl, ?_⟩) ?_ ?_
      rotate_left
      · intro w'
        go_simp
        with_reducible rfl
      rotate_left
      · simp only [Act.put, List.setIfInBounds_toArray, List.set_cons_zero, List.set_cons_succ, i64_w, i32_w]
        rfl
      refine pure_ (i := 7) (N := some 73) (v := ?_) (a' := ?_) #[true, true, true, true, true, true, true, true, false, false, false] rfl rfl (by kernel_rfl) (fun _ _ _ h => h) (Or.inl ⟨by rfl, ?_⟩) ?_ ?_
      rotate_left
      · intro w'
        go_simp
        with_reducible rfl
      rotate_left
      · simp only [Act.put, List.setIfInBounds_toArray, List.set_cons_zero, List.set_cons_succ, i64_w, i32_w]
        rfl
      refine one_ (i := 8) (N := some 9) #[true, true, true, true, true, true, true, true, true, false, false] rfl rfl (by kernel_rfl) (by decide) (fun K hK => ?_)
      refine box_step ?hg (N := 9) ?hd (cs := #[.int .u64 0, .int .u64 0, .int .i64 0, .int .i64 0, .int .i64 0, .int .u64 0, .slice none 0 0, .slice none 0 0, .bool false]) (t := 30) ?hr ?_; (case hd => rfl); (case hg => rfl); (case hr => first | (go_simp; done) | (go_simp; rfl))
      intro g9 hg wa hbx hb
      have l6 := blk_lt B6.out
      have Ne := Lib.hid (show g6 ≠ g9 by omega)
      have E9 := Lib.hid (show w.heap.size ≤ g9 by rw [hg]; exact HB.out.size)
      have n_B6 := Lib.hid (blk_below B6.out hb)
      have n_HB := Lib.hid (below_step HB.out hb)
      clear B6 HB
      have B6 := n_B6
      have HB := n_HB
      clear n_B6 n_HB
      have B9 := Lib.hid hbx
      have R0' := Lib.hid (range_below R0.out hb)
      clear hb hbx hg R0 hHeld
      have R0 := R0'
      clear R0'
      refine hK.out _ _ ⟨range_of B6.out 0 _ (by rfl), R0.out⟩ (fun hHeld => ?_)
      clear hK K
      refine norm_ (a' := ?_) ?_ ?_
      rotate_left
      · show Act.put _ (some 9) _ = _
        simp only [Act.put, List.setIfInBounds_toArray, List.set_cons_zero, List.set_cons_succ, i64_w, i32_w]
        rfl
      exact norm_ (by simp only [putAll, Act.put, List.setIfInBounds_toArray, List.set_cons_zero, List.set_cons_succ]) (hCont ((Ap, cp), (Aq, cq), g9) _ ⟨B6.out, B9.out, E9.out, Ne.out, HB.out⟩)
    · refine box_step ?hg (N := 9) ?hd (cs := #[.int .u64 0, .int .u64 0, .int .i64 0, .int .i64 0, .int .i64 0, .int .u64 0, .slice none 0 0, .slice none 0 0, .bool false]) (t := 30) ?hr ?_; (case hd => rfl); (case hg => rfl); (case hr => first | (go_simp; done) | (go_simp; rfl))
      intro g9 hg wa hbx hb
      have l6 := blk_lt B6.out
      have Ne := Lib.hid (show g6 ≠ g9 by omega)
      have E9 := Lib.hid (show w.heap.size ≤ g9 by rw [hg]; exact HB.out.size)
      have n_B6 := Lib.hid (blk_below B6.out hb)
      have n_HB := Lib.hid (below_step HB.out hb)
      have n_HR2 := Lib.hid (Kd.N_below (Kd.N_elderB HR2.out g9 (Nat.le_of_eq hg.symm)) hb)
      have n_HM9 := Lib.hid (Kd.V_below (Kd.V_elderB HM9.out g9 (Nat.le_of_eq hg.symm)) hb)
      have n_HH2 := Lib.hid (Kd.V_below (Kd.V_elderB HH2.out g9 (Nat.le_of_eq hg.symm)) hb)
      clear B6 HB HR2 HM9 HH2
      have B6 := n_B6
      have HB := n_HB
      have HR2 := n_HR2
      have HM9 := n_HM9
      have HH2 := n_HH2
      clear n_B6 n_HB n_HR2 n_HM9 n_HH2
      have B9 := Lib.hid hbx
      have R0 := Lib.hid (range_below hHeld.2 hb)
      clear hb hbx hg hHeld
      refine hK.out _ _ ⟨range_of B6.out 0 _ (by rfl), R0.out⟩ (fun hHeld => ?_)
      clear hK K
      refine norm_ (a' := ?_) ?_ ?_
      rotate_left
      · show Act.put _ (some 9) _ = _
        simp only [Act.put, List.setIfInBounds_toArray, List.set_cons_zero, List.set_cons_succ, i64_w, i32_w]
        rfl
      refine one_ (i := 4) (N := some 71) #[true, true, true, true, true, false, false, false, true, false, false] rfl rfl (by kernel_rfl) (by decide) (fun K hK => ?_)
      have hR := hHeld.2
      refine goes_ Try.func10 (by kernel_rfl) rfl #[.agg #[.int .u64 0, .int .u64 0, .int .i64 0, .int .i64 1, .int .i64 0, .int .u64 2, .slice A8 0 c8, .slice A9 9 c9, .bool true], .agg #[.int .u8 4, .int .u64 0, .int .u64 0, .int .u64 0, .int .i64 0, .int .i64 1, .int .i64 0, .string (⟨#[]⟩ : ByteArray), .string (⟨#[]⟩ : ByteArray), .int .i64 0, .int .i64 0, .int .i64 0, .slice X12 0 x12, .slice X13 0 x13, .slice X14 0 x14, .bool false, .slice X16 0 x16, .slice X17 0 x17, .slice X18 0 x18, .int .i64 0, .int .i64 0, .int .u8 0, .string (⟨#[]⟩ : ByteArray), .int .u64 0, .int .u64 0, .int .i64 0, .slice X26 0 x26, .int .u8 0, .string (⟨#[]⟩ : ByteArray), .int .u64 0, .int .u64 0, .int .i64 0, .slice X32 0 x32, .bool false, .int .i64 0, .slice X35 0 x35, .slice X36 0 x36, .int .u64 0, .bool false, .slice X39 8 x39, .string (⟨#[]⟩ : ByteArray), .int .u64 0, .int .u64 0, .int .i64 0, .slice X44 0 x44, .slice X45 0 x45, .slice X46 0 x46]] (by rfl) rfl rfl (by (try simp only [List.map_toArray, List.map_cons, List.map_nil]); first | done | rfl) ?_
      refine (take_light 0 0 0 1 0 2 4 0 0 0 1 0 0 true false _ _ _ _ _ _ _ _ _ _ _ _ _ _ _ _ _ _ _ _ _ _ _ _ _ _ _ _ _ _ _ _ _ _ _ _ _ _ _ _ _ A8 A9 X39 c8 c9 x39 [] ([[], [], [], [], [], [], [], [], []] : List (List S112)) (List.replicate 8 []) wa 0 0 0 1 0 2 15 [] ([[], [], [], [], [], [], [], [], []] : List (List S112)) true (Kd.V_map (base := wd.heap.size) (base' := wa.heap.size) HH2.out (fun _ hf => hf)) (Kd.N_V (base' := wa.heap.size) HR2.out) (Kd.V_map (base := w.heap.size) (base' := wa.heap.size) HM9.out (fun _ hf => hf)) (by decide) (by kernel_rfl) (.inr rfl) (by kernel_rfl)).mono ?_
      rintro e wo ⟨v6, v7, rfl, hh, hr, hb⟩
      refine ⟨_, rfl, ?_⟩
      obtain ⟨Ap, cp, ev6⟩ := Kd.V_slice hh
      have ev6' : v6 = .slice Ap 0 cp := ev6
      obtain ⟨Aq, cq, ev7⟩ := Kd.N_slice hr
      have ev7' : v7 = .slice Aq 9 cq := ev7
      clear ev6 ev7 hh hr
      subst ev6' ev7'
      simp only [List.cons_append, List.nil_append]
      have n_B6 := Lib.hid (blk_below B6.out hb)
      have n_B9 := Lib.hid (blk_below B9.out hb)
      have n_HB := Lib.hid (below_step HB.out hb)
      clear B6 B9 HB
      have B6 := n_B6
      have B9 := n_B9
      have HB := n_HB
      clear n_B6 n_B9 n_HB
      have R0 := Lib.hid (range_below hR hb)
      clear hb hR
      refine hK.out _ _ ⟨range_of B6.out 0 _ (by rfl), R0.out⟩ (fun hHeld => ?_)
      clear hK K
      refine norm_ (a' := ?_) ?_ ?_
      rotate_left
      · show Act.put _ (some 71) _ = _
        simp only [Act.put, List.setIfInBounds_toArray, List.set_cons_zero, List.set_cons_succ, i64_w, i32_w]
        rfl
      refine pure_ (i := 5) (N := some 66) (v := ?_) (a' := ?_) #[true, true, true, true, true, true, false, false, true, false, false] rfl rfl (by kernel_rfl) (fun _ _ _ h => h) (Or.inl ⟨by rfl, ?_⟩) ?_ ?_
      rotate_left
      · intro w'
        go_simp
        with_reducible rfl
      rotate_left
      · simp only [Act.put, List.setIfInBounds_toArray, List.set_cons_zero, List.set_cons_succ, i64_w, i32_w]
        rfl
      refine pure_ (i := 6) (N := some 72) (v := ?_) (a' := ?_) #[true, true, true, true, true, true, true, false, true, false, false] rfl rfl (by kernel_rfl) (fun _ _ _ h => h) (Or.inl ⟨by rfl, ?_⟩) ?_ ?_
      rotate_left
      · intro w'
        go_simp
        with_reducible rfl
      rotate_left
      · simp only [Act.put, List.setIfInBounds_toArray, List.set_cons_zero, List.set_cons_succ, i64_w, i32_w]
        rfl
      refine pure_ (i := 7) (N := some 73) (v := ?_) (a' := ?_) #[true, true, true, true, true, true, true, true, true, false, false] rfl rfl (by kernel_rfl) (fun _ _ _ h => h) (Or.inl ⟨by rfl, ?_⟩) ?_ ?_
      rotate_left
      · intro w'
        go_simp
        with_reducible rfl
      rotate_left
      · simp only [Act.put, List.setIfInBounds_toArray, List.set_cons_zero, List.set_cons_succ, i64_w, i32_w]
        rfl
      exact norm_ (by simp only [putAll, Act.put, List.setIfInBounds_toArray, List.set_cons_zero, List.set_cons_succ]) (hCont ((Ap, cp), (Aq, cq), g9) _ ⟨B6.out, B9.out, E9.out, Ne.out, HB.out⟩)
  rintro ⟨⟨Ap, cp⟩, ⟨Aq, cq⟩, g9⟩ wf ⟨hb6, hb9, he9, hne, hbb⟩
  clear HH2 B6 HB HM HR2 HM9 hHeld
  have B6 := Lib.hid (show wf.heap[g6]? = _ from hb6)
  have B9 := Lib.hid (show wf.heap[g9]? = _ from hb9)
  have E9 := Lib.hid (show w.heap.size ≤ g9 from he9)
  have Ne := Lib.hid (show g6 ≠ g9 from hne)
  have HB := Lib.hid (show Below w.heap.size w wf from hbb)
  clear hb6 hb9 he9 hne hbb
  refine norm_ (a' := ?_) ?_ ?_
  rotate_left
  · simp only [putAll, Act.put, List.setIfInBounds_toArray, List.set_cons_zero, List.set_cons_succ]
    rfl
  have zc0 := (blk_cell B9.out 0).trans rfl
  have zf0 := blk_frozen B9.out 0
  have zc1 := (blk_cell B9.out 1).trans rfl
  have zf1 := blk_frozen B9.out 1
  have zc2 := (blk_cell B9.out 2).trans rfl
  have zf2 := blk_frozen B9.out 2
  have zc3 := (blk_cell B9.out 3).trans rfl
  have zf3 := blk_frozen B9.out 3
  have zc4 := (blk_cell B9.out 4).trans rfl
  have zf4 := blk_frozen B9.out 4
  have zc5 := (blk_cell B9.out 5).trans rfl
  have zf5 := blk_frozen B9.out 5
  have zc6 := (blk_cell B9.out 6).trans rfl
  have zf6 := blk_frozen B9.out 6
  have zc7 := (blk_cell B9.out 7).trans rfl
  have zf7 := blk_frozen B9.out 7
  have zc8 := (blk_cell B9.out 8).trans rfl
  have zf8 := blk_frozen B9.out 8
  refine last_ (i := 9) (N := none) #[true, true, true, true, true, true, true, true, true, true, false] rfl rfl (by kernel_rfl) (by decide) (fun K hK => ?_)
  refine skip_ (w1 := setAll wf g9 0 [.int .u64 0, .int .u64 0, .int .i64 0, .int .i64 1, .int .i64 0, .int .u64 2, .slice Ap 0 cp, .slice Aq 9 cq, .bool true]) (by rfl) rfl ?_ ?_
  · first | (go_simp; done) | (go_simp; rfl)
  refine hK.out _ _ ?_
  clear hK K
  clear zc0 zf0 zc1 zf1 zc2 zf2 zc3 zf3 zc4 zf4 zc5 zf5 zc6 zf6 zc7 zf7 zc8 zf8
  obtain ⟨ws8, hw⟩ : ∃ x, x = setAll wf g9 0 [.int .u64 0, .int .u64 0, .int .i64 0, .int .i64 1, .int .i64 0, .int .u64 2, .slice Ap 0 cp, .slice Aq 9 cq, .bool true] := ⟨_, rfl⟩
  rw [← hw]
  have n_B6 := Lib.hid (show ws8.heap[g6]? = some (.cells #[.int .u64 0, .int .u64 0, .int .i64 0, .int .i64 1, .int .i64 0, .int .u64 2, .slice A8 0 c8, .slice A9 9 c9, .bool true] 30 (0, 0)) from (by rw [hw]; exact blk_kept B6.out (setAll_kept [.int .u64 0, .int .u64 0, .int .i64 0, .int .i64 1, .int .i64 0, .int .u64 2, .slice Ap 0 cp, .slice Aq 9 cq, .bool true] 0 _) Ne.out)); have n_HB := Lib.hid (show Below w.heap.size w ws8 from (by rw [hw]; exact setAll_below E9.out [.int .u64 0, .int .u64 0, .int .i64 0, .int .i64 1, .int .i64 0, .int .u64 2, .slice Ap 0 cp, .slice Aq 9 cq, .bool true] 0 _ HB.out)); clear B6 HB; have B6 := n_B6; have HB := n_HB; clear n_B6 n_HB
  clear hw B9 E9 Ne
  refine pure_ (i := 10) (N := some 10) (v := ?_) (a' := ?_) #[true, true, true, true, true, true, true, true, true, true, true] rfl rfl (by kernel_rfl) (fun _ _ _ h => h) (Or.inl ⟨by rfl, ?_⟩) ?_ ?_
  rotate_left
  · intro w'
    go_simp
    with_reducible rfl
  rotate_left
  · simp only [Act.put, List.setIfInBounds_toArray, List.set_cons_zero, List.set_cons_succ, i64_w, i32_w]
    rfl
  refine done_ (by kernel_rfl) ?_
  have p6_7 := (show World.cell? _ ⟨g6, 7, none⟩ = some (.slice A9 9 c9) from blk_cell B6.out 7)
  have p6_8 := (show World.cell? _ ⟨g6, 8, none⟩ = some (.bool true) from blk_cell B6.out 8)
  go_wp2_with (first
    | ((with_reducible refine gate_dst (N := 95) rfl ?_); refine wpList_load_on (by rfl) 30 (.tmp 6) rfl g6 0 rfl [.int .u64 0, .int .u64 0, .int .i64 0, .int .i64 1, .int .i64 0, .int .u64 2, .slice A8 0 c8, .slice A9 9 c9, .bool true] _ (range_of B6.out 0 _ (by rfl)) Try.underlying30 rfl (by kernel_rfl) ?_)
    | ((with_reducible refine gate_dst (N := 97) rfl ?_); refine wpList_run_on (v := .int .u64 2) (by rfl) (by rfl) ?_)
    | (go_at_call 17; refine (ack_calls 0 0 0 1 0 2 _ _ true _).mono ?_; intro e w2 he_; obtain ⟨he, hb⟩ := he_; subst he; have n_HB := Lib.hid (below_step HB.out hb); clear HB hb p6_7 p6_8; have HB := n_HB; clear n_HB)
    | (go_at_call 21; refine (stream_CheckOut.calls 0 0 0 0 0 0 none 0 [] 0 6 _ ⟨rfl, by simp, fun h_ => absurd h_ (by simp)⟩ (Nat.le_refl _) (by kernel_rfl)).mono ?_; intro e w2 he_; obtain ⟨he, hb⟩ := he_; subst he; have n_HB := Lib.hid (below_step HB.out hb); clear HB hb; have HB := n_HB; clear n_HB))
  go_ret
  exact ⟨rfl, HB.out⟩
def potsherdlaw13_lives.f : Option Bool := some true
theorem potsherdlaw13_lives.calls (r : Bool) (w : World) (h : potsherdlaw13_lives.f = some r) : Calls Try.prog 12 #[] w fun e w' => e = .returned (.bool r) ∧ Below w.heap.size w w' := by
  cases h
  exact lives_walk 40 _ _ _ _ _ _ _ _ _ _ _ w rfl lives_cut lives_send rfl rfl rfl
end Go.Proofs.Ytkbemagcoojmmaa.Lx
