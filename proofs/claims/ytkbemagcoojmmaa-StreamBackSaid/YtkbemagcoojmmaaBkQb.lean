/- StreamBack, by hand: it answers true. Conditions: batches, rows, values of a row are not too many. Printed by gbk.py. -/
import Derived.Test.YtkbemagcoojmmaaMgQb
import Derived.Test.YtkbemagcoojmmaaAcdQb
namespace Go.Proofs.Ytkbemagcoojmmaa.Val
open Go.RowKit Go.Proofs.Ytkbemagcoojmmaa.G Go.Proofs.Ytkbemagcoojmmaa.Lx Go.Proofs.YtkbemagcoojmmaaW.PrintWords Go.Proofs.YtkbemagcoojmmaaW.PrintLast Go.Proofs.YtkbemagcoojmmaaW.PrintMore
set_option linter.unusedVariables false
set_option linter.unusedSimpArgs false
attribute [local go_sem high] eqA26
theorem outBad_eq (l : List (List (List S112))) (a : Int) : outBad l a = (l.length == 0 || decide (512 < l.length) || decide ((l.length : Int) < a) || decide (8 < (l.getD (l.length - 1) []).length) || ((l.getD (l.length - 1) []).length == 0 && decide (1 < l.length)) || (l.take (l.length - 1)).any no8) := rfl
theorem outV_acked {l : List (List (List S112))} {a q : Int} (h : outV l a = 0) (hq : q ≤ (l.length : Int)) : outV l q = 0 := by
  have hl := outV_le h
  unfold outV at h ⊢
  split at h
  · cases h
  · rename_i hb
    rw [if_neg]
    rw [outBad_eq] at hb ⊢
    rw [decide_eq_false (show ¬ ((l.length : Int) < a) by omega)] at hb
    rw [decide_eq_false (show ¬ ((l.length : Int) < q) by omega)]
    exact hb
set_option maxHeartbeats 4000000 in
set_option maxRecDepth 100000 in
theorem back_bad (s0 s1 s2 s3 s4 a q : Int) (A : Option Addr) (n c : Nat) (l : List (List (List S112))) (w : World) (hl : l.length = n) (hr : Kd.C O2 w A n l) (hc : n ≤ c) (hf : FitO l) (hq0 : 0 ≤ q) (ho : outV l a ≠ 0) :
    Calls Try.prog 8 #[.agg #[.int .u64 s0, .int .u64 s1, .int .i64 s2, .int .i64 s3, .int .i64 s4, .slice A n c, .int .u64 a], .int .u64 q] w fun e w' => e = .returned (.bool true) ∧ Below w.heap.size w w' := by
  have HB := Lib.hid (Below.refl w.heap.size w)
  have hn1 : n < 5864062014805 := hl ▸ hf.1
  have HCK := Lib.hid (fun (wx : World) (hb : Below w.heap.size w wx) => stream_CheckOut.calls 1 s0 s1 s2 s3 s4 A c l a (outV l a) wx (by rw [hl]; exact Kd.C_below hr hb) (by rw [hl]; exact hc) (by unfold stream_CheckOut.f; rw [if_pos (by omega)]))
  rw [hl] at HCK
  obtain ⟨ov, hov⟩ : ∃ x, x = outV l a := ⟨_, rfl⟩
  rw [← hov] at HCK ho
  clear hov hr hf hl
  have y : (ov != 0) = true := bne_iff_ne.2 ho
  clear ho
  go_enter Try.func8, Try.ntmps8
  go_wp2_with (first
    | ((with_reducible refine gate_dst (N := 2) rfl ?_); refine box_event ?hg (N := 2) ?hd (cs := #[.int .u64 s0, .int .u64 s1, .int .i64 s2, .int .i64 s3, .int .i64 s4, .slice A n c, .int .u64 a]) (t := 65) ?hr ?_; (case hd => rfl); (case hg => rfl); (case hr => first | (go_simp; done) | (go_simp; rfl)); intro g2 hg wb2 hbx hb; have Eg2 := Lib.hid (show w.heap.size ≤ g2 by rw [hg]; exact HB.out.size); have n_HB := Lib.hid (below_step HB.out hb); clear HB; have HB := n_HB; clear n_HB; have B2 := Lib.hid hbx; clear hg hbx hb; have p2_0 := (blk_cell B2.out 0).trans rfl; have p2_1 := (blk_cell B2.out 1).trans rfl; have p2_2 := (blk_cell B2.out 2).trans rfl; have p2_3 := (blk_cell B2.out 3).trans rfl; have p2_4 := (blk_cell B2.out 4).trans rfl; have p2_5 := (blk_cell B2.out 5).trans rfl; have p2_6 := (blk_cell B2.out 6).trans rfl; have l2 := blk_lt B2.out)
    | (go_at_call 12; refine (potsherdlaw13_lives.calls true _ rfl).mono ?_; rintro e w1 ⟨rfl, hb⟩; (try clear p2_0 p2_1 p2_2 p2_3 p2_4 p2_5 p2_6); have n_B2 := Lib.hid (blk_below B2.out hb); have n_HB := Lib.hid (below_step HB.out hb); clear B2 HB; have B2 := n_B2; have HB := n_HB; clear n_B2 n_HB; have p2_0 := (blk_cell B2.out 0).trans rfl; have p2_1 := (blk_cell B2.out 1).trans rfl; have p2_2 := (blk_cell B2.out 2).trans rfl; have p2_3 := (blk_cell B2.out 3).trans rfl; have p2_4 := (blk_cell B2.out 4).trans rfl; have p2_5 := (blk_cell B2.out 5).trans rfl; have p2_6 := (blk_cell B2.out 6).trans rfl; clear hb)
    | (go_at_call 21; refine (HCK.out _ HB.out).mono ?_; rintro e w2 ⟨rfl, hb⟩; (try clear p2_0 p2_1 p2_2 p2_3 p2_4 p2_5 p2_6); have n_B2 := Lib.hid (blk_below B2.out hb); have n_HB := Lib.hid (below_step HB.out hb); clear B2 HB; have B2 := n_B2; have HB := n_HB; clear n_B2 n_HB; have p2_0 := (blk_cell B2.out 0).trans rfl; have p2_1 := (blk_cell B2.out 1).trans rfl; have p2_2 := (blk_cell B2.out 2).trans rfl; have p2_3 := (blk_cell B2.out 3).trans rfl; have p2_4 := (blk_cell B2.out 4).trans rfl; have p2_5 := (blk_cell B2.out 5).trans rfl; have p2_6 := (blk_cell B2.out 6).trans rfl; clear hb))
  go_ret
  exact ⟨rfl, HB.out⟩
set_option maxHeartbeats 4000000 in
set_option maxRecDepth 100000 in
theorem back_far (s0 s1 s2 s3 s4 a q : Int) (A : Option Addr) (n c : Nat) (l : List (List (List S112))) (w : World) (hl : l.length = n) (hr : Kd.C O2 w A n l) (hc : n ≤ c) (hf : FitO l) (hq0 : 0 ≤ q) (ho : outV l a = 0) (hq : (n : Int) < q) :
    Calls Try.prog 8 #[.agg #[.int .u64 s0, .int .u64 s1, .int .i64 s2, .int .i64 s3, .int .i64 s4, .slice A n c, .int .u64 a], .int .u64 q] w fun e w' => e = .returned (.bool true) ∧ Below w.heap.size w w' := by
  have HB := Lib.hid (Below.refl w.heap.size w)
  have hn1 : n < 5864062014805 := hl ▸ hf.1
  have HCK := Lib.hid (fun (wx : World) (hb : Below w.heap.size w wx) => stream_CheckOut.calls 1 s0 s1 s2 s3 s4 A c l a (outV l a) wx (by rw [hl]; exact Kd.C_below hr hb) (by rw [hl]; exact hc) (by unfold stream_CheckOut.f; rw [if_pos (by omega)]))
  rw [hl] at HCK
  have hw_ := u64_n n (by omega)
  have hd : decide ((n : Int) < q) = true := decide_eq_true hq
  obtain ⟨aq, haq⟩ : ∃ x, (if sameS s0 s1 s2 s3 s4 s0 s1 s2 s3 s4 = true ∧ q ≤ (l.length : Int) then q else a) = x := ⟨_, rfl⟩
  have haa : aq = a := by rw [← haq, if_neg (fun h => absurd h.2 (by omega))]
  have HAC := Lib.hid (fun (wx : World) (hb : Below w.heap.size w wx) => stream_Acked.calls 1 s0 s1 s2 s3 s4 (fun k => k < w.heap.size) A c l a s0 s1 s2 s3 s4 q s0 s1 s2 s3 s4 l aq wx (Kd.V_mk (by rw [hl]; exact hc) (Kd.F_below (Kd.C_F (Kd.heap_slice 101 (Kd.heap_slice 112 k112_heap)) (by rw [hl]; exact hr)) hb)) (by unfold stream_Acked.f; rw [if_pos hf, haq]))
  rw [hl] at HAC
  rw [haa] at HAC
  clear haq haa aq
  rw [ho] at HCK
  have HSO := Lib.hid (fun (wx : World) (Ah : Option Addr) (ch : Nat) (hb : Below w.heap.size w wx) (hx : Kd.C O2 wx Ah n l) (hcx : n ≤ ch) => potsherdref13_SameOut.calls (20000000000000) s0 s1 s2 s3 s4 Ah ch l a s0 s1 s2 s3 s4 A c l a true wx (by rw [hl]; exact hx) (by rw [hl]; exact hcx) (by rw [hl]; exact Kd.C_below hr hb) (by rw [hl]; exact hc) (sameOut_f _ l hf _ _ _ _ _ _ (by omega)))
  rw [hl] at HSO
  clear hr hf ho hq
  go_enter Try.func8, Try.ntmps8
  go_wp2_with (first
    | ((with_reducible refine gate_dst (N := 2) rfl ?_); refine box_event ?hg (N := 2) ?hd (cs := #[.int .u64 s0, .int .u64 s1, .int .i64 s2, .int .i64 s3, .int .i64 s4, .slice A n c, .int .u64 a]) (t := 65) ?hr ?_; (case hd => rfl); (case hg => rfl); (case hr => first | (go_simp; done) | (go_simp; rfl)); intro g2 hg wb2 hbx hb; have Eg2 := Lib.hid (show w.heap.size ≤ g2 by rw [hg]; exact HB.out.size); have n_HB := Lib.hid (below_step HB.out hb); clear HB; have HB := n_HB; clear n_HB; have B2 := Lib.hid hbx; clear hg hbx hb; have p2_0 := (blk_cell B2.out 0).trans rfl; have p2_1 := (blk_cell B2.out 1).trans rfl; have p2_2 := (blk_cell B2.out 2).trans rfl; have p2_3 := (blk_cell B2.out 3).trans rfl; have p2_4 := (blk_cell B2.out 4).trans rfl; have p2_5 := (blk_cell B2.out 5).trans rfl; have p2_6 := (blk_cell B2.out 6).trans rfl; have l2 := blk_lt B2.out)
    | (go_at_call 12; refine (potsherdlaw13_lives.calls true _ rfl).mono ?_; rintro e w1 ⟨rfl, hb⟩; (try clear p2_0 p2_1 p2_2 p2_3 p2_4 p2_5 p2_6); have n_B2 := Lib.hid (blk_below B2.out hb); have n_HB := Lib.hid (below_step HB.out hb); clear B2 HB; have B2 := n_B2; have HB := n_HB; clear n_B2 n_HB; have p2_0 := (blk_cell B2.out 0).trans rfl; have p2_1 := (blk_cell B2.out 1).trans rfl; have p2_2 := (blk_cell B2.out 2).trans rfl; have p2_3 := (blk_cell B2.out 3).trans rfl; have p2_4 := (blk_cell B2.out 4).trans rfl; have p2_5 := (blk_cell B2.out 5).trans rfl; have p2_6 := (blk_cell B2.out 6).trans rfl; clear hb)
    | (go_at_call 21; refine (HCK.out _ HB.out).mono ?_; rintro e w2 ⟨rfl, hb⟩; (try clear p2_0 p2_1 p2_2 p2_3 p2_4 p2_5 p2_6); have n_B2 := Lib.hid (blk_below B2.out hb); have n_HB := Lib.hid (below_step HB.out hb); clear B2 HB; have B2 := n_B2; have HB := n_HB; clear n_B2 n_HB; have p2_0 := (blk_cell B2.out 0).trans rfl; have p2_1 := (blk_cell B2.out 1).trans rfl; have p2_2 := (blk_cell B2.out 2).trans rfl; have p2_3 := (blk_cell B2.out 3).trans rfl; have p2_4 := (blk_cell B2.out 4).trans rfl; have p2_5 := (blk_cell B2.out 5).trans rfl; have p2_6 := (blk_cell B2.out 6).trans rfl; clear hb)
    | (go_at_call 27; refine (HAC.out _ HB.out).mono ?_; rintro e w3 ⟨v5, rfl, hn_, hb⟩; have l2_ := blk_lt B2.out; have HN := Lib.hid (Kd.N_lower (Kd.N_mono (ok' := fun k => k ≠ g2) hn_ (fun k hk => by have := Eg2.out; omega)) HB.out.size); obtain ⟨Ah, ch, eh⟩ := Kd.N_slice HN.out; rw [hl] at eh; subst eh; (try clear p2_0 p2_1 p2_2 p2_3 p2_4 p2_5 p2_6); have n_B2 := Lib.hid (blk_below B2.out hb); have n_HB := Lib.hid (below_step HB.out hb); clear B2 HB; have B2 := n_B2; have HB := n_HB; clear n_B2 n_HB; have p2_0 := (blk_cell B2.out 0).trans rfl; have p2_1 := (blk_cell B2.out 1).trans rfl; have p2_2 := (blk_cell B2.out 2).trans rfl; have p2_3 := (blk_cell B2.out 3).trans rfl; have p2_4 := (blk_cell B2.out 4).trans rfl; have p2_5 := (blk_cell B2.out 5).trans rfl; have p2_6 := (blk_cell B2.out 6).trans rfl; clear hb hn_ l2_; skip)
    | ((with_reducible refine gate_dst (N := 5) rfl ?_); refine box_event ?hg (N := 5) ?hd (cs := #[.int .u64 0, .int .u64 0, .int .i64 0, .int .i64 0, .int .i64 0, .slice none 0 0, .int .u64 0]) (t := 65) ?hr ?_; (case hd => rfl); (case hg => rfl); (case hr => first | (go_simp; done) | (go_simp; rfl)); intro g5 hg wb5 hbx hb; have Eg5 := Lib.hid (show w.heap.size ≤ g5 by rw [hg]; exact HB.out.size); have Ne2_5 := Lib.hid (show ¬ g2 = g5 by rw [hg]; have := blk_lt B2.out; omega); (try clear p2_0 p2_1 p2_2 p2_3 p2_4 p2_5 p2_6); have n_B2 := Lib.hid (blk_below B2.out hb); have n_HN := Lib.hid (Kd.N_below (Kd.N_elderB HN.out g5 (Nat.le_of_eq hg.symm)) hb); have n_HB := Lib.hid (below_step HB.out hb); clear B2 HN HB; have B2 := n_B2; have HN := n_HN; have HB := n_HB; clear n_B2 n_HN n_HB; have p2_0 := (blk_cell B2.out 0).trans rfl; have p2_1 := (blk_cell B2.out 1).trans rfl; have p2_2 := (blk_cell B2.out 2).trans rfl; have p2_3 := (blk_cell B2.out 3).trans rfl; have p2_4 := (blk_cell B2.out 4).trans rfl; have p2_5 := (blk_cell B2.out 5).trans rfl; have p2_6 := (blk_cell B2.out 6).trans rfl; have B5 := Lib.hid hbx; clear hg hbx hb; have l5 := blk_lt B5.out)
    | ((with_reducible refine gate_store (t := 65) (p := 5) rfl ?_); have zc0 := (blk_cell B5.out 0).trans rfl; have zf0 := blk_frozen B5.out 0; have zc1 := (blk_cell B5.out 1).trans rfl; have zf1 := blk_frozen B5.out 1; have zc2 := (blk_cell B5.out 2).trans rfl; have zf2 := blk_frozen B5.out 2; have zc3 := (blk_cell B5.out 3).trans rfl; have zf3 := blk_frozen B5.out 3; have zc4 := (blk_cell B5.out 4).trans rfl; have zf4 := blk_frozen B5.out 4; have zc5 := (blk_cell B5.out 5).trans rfl; have zf5 := blk_frozen B5.out 5; have zc6 := (blk_cell B5.out 6).trans rfl; have zf6 := blk_frozen B5.out 6; refine store_event (t := 65) (p := 5) (v := ?vows1) (w1 := setAll wb5 g5 0 [.int .u64 s0, .int .u64 s1, .int .i64 s2, .int .i64 s3, .int .i64 s4, .slice Ah n ch, .int .u64 a]) ?hg ?ho ?hn ?hr ?_; (case ho => rfl); (case hg => rfl); (case hn => rfl); (case hr => first | (go_simp; done) | (go_simp; rfl)); intro ws1 hw; clear zc0 zf0 zc1 zf1 zc2 zf2 zc3 zf3 zc4 zf4 zc5 zf5 zc6 zf6; (try clear p2_0 p2_1 p2_2 p2_3 p2_4 p2_5 p2_6 p5_0 p5_1 p5_2 p5_3 p5_4 p5_5 p5_6); have n_B2 := Lib.hid (((by rw [hw]; exact blk_kept B2.out (setAll_kept [.int .u64 s0, .int .u64 s1, .int .i64 s2, .int .i64 s3, .int .i64 s4, .slice Ah n ch, .int .u64 a] 0 wb5) (fun e_ => Ne2_5.out e_)) : ws1.heap[g2]? = some (.cells #[.int .u64 s0, .int .u64 s1, .int .i64 s2, .int .i64 s3, .int .i64 s4, .slice A n c, .int .u64 a] 65 (0, 0)))); have n_B5 := Lib.hid (((by rw [hw]; exact setAll_box [.int .u64 s0, .int .u64 s1, .int .i64 s2, .int .i64 s3, .int .i64 s4, .slice Ah n ch, .int .u64 a] B5.out rfl) : ws1.heap[g5]? = some (.cells #[.int .u64 s0, .int .u64 s1, .int .i64 s2, .int .i64 s3, .int .i64 s4, .slice Ah n ch, .int .u64 a] 65 (0, 0)))); have n_HN := Lib.hid ((by rw [hw]; exact Kd.N_kept HN.out (setAll_kept [.int .u64 s0, .int .u64 s1, .int .i64 s2, .int .i64 s3, .int .i64 s4, .slice Ah n ch, .int .u64 a] 0 wb5) (fun k hk => (by first | exact hk.1 | exact hk.2)) : Kd.N O2 28 ws1 w.heap.size (fun k => k ≠ g2 ∧ k ≠ g5) (.slice Ah n ch) l)); have n_HB := Lib.hid ((by rw [hw]; exact setAll_below Eg5.out [.int .u64 s0, .int .u64 s1, .int .i64 s2, .int .i64 s3, .int .i64 s4, .slice Ah n ch, .int .u64 a] 0 wb5 HB.out : Below w.heap.size w ws1)); clear B2 B5 HN HB; have B2 := n_B2; have B5 := n_B5; have HN := n_HN; have HB := n_HB; clear n_B2 n_B5 n_HN n_HB; clear hw; have p2_0 := (blk_cell B2.out 0).trans rfl; have p2_1 := (blk_cell B2.out 1).trans rfl; have p2_2 := (blk_cell B2.out 2).trans rfl; have p2_3 := (blk_cell B2.out 3).trans rfl; have p2_4 := (blk_cell B2.out 4).trans rfl; have p2_5 := (blk_cell B2.out 5).trans rfl; have p2_6 := (blk_cell B2.out 6).trans rfl; have p5_0 := (blk_cell B5.out 0).trans rfl; have p5_1 := (blk_cell B5.out 1).trans rfl; have p5_2 := (blk_cell B5.out 2).trans rfl; have p5_3 := (blk_cell B5.out 3).trans rfl; have p5_4 := (blk_cell B5.out 4).trans rfl; have p5_5 := (blk_cell B5.out 5).trans rfl; have p5_6 := (blk_cell B5.out 6).trans rfl; skip)
    | (go_at_call 26; refine (HSO.out _ Ah ch HB.out (by have h_ := (Kd.N_reads' HN.out).2.2; rw [hl] at h_; exact h_) (Kd.N_reads' HN.out).2.1).mono ?_; rintro e w9 ⟨rfl, hb⟩; (try clear p2_0 p2_1 p2_2 p2_3 p2_4 p2_5 p2_6 p5_0 p5_1 p5_2 p5_3 p5_4 p5_5 p5_6); have n_B2 := Lib.hid (blk_below B2.out hb); have n_B5 := Lib.hid (blk_below B5.out hb); have n_HN := Lib.hid (Kd.N_below HN.out hb); have n_HB := Lib.hid (below_step HB.out hb); clear B2 B5 HN HB; have B2 := n_B2; have B5 := n_B5; have HN := n_HN; have HB := n_HB; clear n_B2 n_B5 n_HN n_HB; have p2_0 := (blk_cell B2.out 0).trans rfl; have p2_1 := (blk_cell B2.out 1).trans rfl; have p2_2 := (blk_cell B2.out 2).trans rfl; have p2_3 := (blk_cell B2.out 3).trans rfl; have p2_4 := (blk_cell B2.out 4).trans rfl; have p2_5 := (blk_cell B2.out 5).trans rfl; have p2_6 := (blk_cell B2.out 6).trans rfl; have p5_0 := (blk_cell B5.out 0).trans rfl; have p5_1 := (blk_cell B5.out 1).trans rfl; have p5_2 := (blk_cell B5.out 2).trans rfl; have p5_3 := (blk_cell B5.out 3).trans rfl; have p5_4 := (blk_cell B5.out 4).trans rfl; have p5_5 := (blk_cell B5.out 5).trans rfl; have p5_6 := (blk_cell B5.out 6).trans rfl; clear hb))
  go_ret
  exact ⟨rfl, HB.out⟩
theorem three (m n : Nat) (q : Int) (h : m = 0 ↔ q = (n : Int)) : ((m : Int) == 0) = decide (m = 0) ∧ (m == 0) = decide (m = 0) ∧ (q == (n : Int)) = decide (m = 0) := by
  by_cases h0 : m = 0
  · have h1 := h.1 h0
    rw [decide_eq_true h0, beq_iff_eq, beq_iff_eq, beq_iff_eq]
    exact ⟨by omega, h0, h1⟩
  · have h1 : ¬ q = (n : Int) := fun e => h0 (h.2 e)
    rw [decide_eq_false h0, beq_eq_false_iff_ne, beq_eq_false_iff_ne, beq_eq_false_iff_ne]
    exact ⟨by omega, h0, h1⟩
set_option maxHeartbeats 8000000 in
set_option maxRecDepth 100000 in
theorem back_near (s0 s1 s2 s3 s4 a q : Int) (A : Option Addr) (n c : Nat) (l : List (List (List S112))) (w : World) (hl : l.length = n) (hr : Kd.C O2 w A n l) (hc : n ≤ c) (hf : FitO l) (hq0 : 0 ≤ q) (ho : outV l a = 0) (hq : q ≤ (n : Int)) :
    Calls Try.prog 8 #[.agg #[.int .u64 s0, .int .u64 s1, .int .i64 s2, .int .i64 s3, .int .i64 s4, .slice A n c, .int .u64 a], .int .u64 q] w fun e w' => e = .returned (.bool true) ∧ Below w.heap.size w w' := by
  have HB := Lib.hid (Below.refl w.heap.size w)
  have hn1 : n < 5864062014805 := hl ▸ hf.1
  have HCK := Lib.hid (fun (wx : World) (hb : Below w.heap.size w wx) => stream_CheckOut.calls 1 s0 s1 s2 s3 s4 A c l a (outV l a) wx (by rw [hl]; exact Kd.C_below hr hb) (by rw [hl]; exact hc) (by unfold stream_CheckOut.f; rw [if_pos (by omega)]))
  rw [hl] at HCK
  have hle := outV_le ho
  have hw_ := u64_n n (by omega)
  have hd : decide ((n : Int) < q) = false := decide_eq_false (by omega)
  obtain ⟨aq, haq⟩ : ∃ x, (if sameS s0 s1 s2 s3 s4 s0 s1 s2 s3 s4 = true ∧ q ≤ (l.length : Int) then q else a) = x := ⟨_, rfl⟩
  have haa : aq = q := by rw [← haq, if_pos ⟨sameS_refl _ _ _ _ _, by omega⟩]
  have HAC := Lib.hid (fun (wx : World) (hb : Below w.heap.size w wx) => stream_Acked.calls 1 s0 s1 s2 s3 s4 (fun k => k < w.heap.size) A c l a s0 s1 s2 s3 s4 q s0 s1 s2 s3 s4 l aq wx (Kd.V_mk (by rw [hl]; exact hc) (Kd.F_below (Kd.C_F (Kd.heap_slice 101 (Kd.heap_slice 112 k112_heap)) (by rw [hl]; exact hr)) hb)) (by unfold stream_Acked.f; rw [if_pos hf, haq]))
  rw [hl] at HAC
  rw [haa] at HAC
  clear haq haa aq
  rw [ho] at HCK
  obtain ⟨qn, hqn⟩ : ∃ x : Nat, q = (x : Int) := ⟨q.toNat, by omega⟩
  obtain ⟨ms, hms⟩ : ∃ x, x = sendV s0 s1 s2 s3 s4 l qn := ⟨_, rfl⟩
  have hml := sendV_length s0 s1 s2 s3 s4 l qn
  rw [← hms] at hml
  obtain ⟨m, hm⟩ : ∃ x, x = ms.length := ⟨_, rfl⟩
  rw [← hm] at hml
  have HSD := Lib.hid (fun (wx : World) (P : Nat → Prop) (Ah : Option Addr) (ch : Nat) (hV : Kd.V O2 28 wx wx.heap.size (fun k => P k) (.slice Ah n ch) l) => stream_Send.calls 6000000000000 s0 s1 s2 s3 s4 P Ah ch l q ms 0 wx (by rw [hl]; exact hV) (by rw [hqn, hms]; exact send_f _ s0 s1 s2 s3 s4 l hf qn (by rw [← hqn]; exact outV_acked ho (by omega)) (by omega) (by omega)))
  rw [hl] at HSD
  have HML := Lib.hid hm
  obtain ⟨b, hb0⟩ : ∃ x, x = decide (m = 0) := ⟨_, rfl⟩
  obtain ⟨e0, e0', e0q⟩ := three m n q (by omega)
  rw [← hb0] at e0 e0' e0q
  have e1 : decide ((4 : Int) < (m : Int)) = false := decide_eq_false (by omega)
  have e1' : decide (4 < m) = false := decide_eq_false (by omega)
  obtain ⟨nm, hnm⟩ : ∃ x : Int, x = (n : Int) - 1 := ⟨_, rfl⟩
  have e2 : IntKind.u64.wrap ((n : Int) - 1) = nm := by rw [hnm, show (n : Int) - 1 = ((n - 1 : Nat) : Int) by omega, u64_n _ (by omega)]
  have HE := Lib.hid (show ∀ j : Nat, j < m → ∃ (sq : Int) (lst : Bool) (rw_ : List (List S112)), ms.getD j z52 = msgS s0 s1 s2 s3 s4 sq lst rw_ ∧ IntKind.u64.wrap (q + IntKind.u64.wrap (j : Int)) = sq ∧ lst = (sq == nm) from fun j hj => by
    refine ⟨((qn + j : Nat) : Int), decide (qn + j + 1 = l.length), l.getD (qn + j) [], ?_, ?_, ?_⟩
    · have hj2 : j < (sendV s0 s1 s2 s3 s4 l qn).length := by rw [← hms, ← hm]; exact hj
      rw [hms, List.getD_eq_getElem?_getD, List.getElem?_eq_getElem hj2]
      simp [sendV, msgAt]
    · rw [hqn]; exact u64_at qn j (by omega)
    · rw [hnm]
      by_cases h : qn + j + 1 = l.length
      · rw [decide_eq_true h]; exact (beq_iff_eq.2 (by omega)).symm
      · rw [decide_eq_false h]; exact (beq_eq_false_iff_ne.2 (by omega)).symm)
  clear hr hf ho hq hqn hms hm hml hnm hb0 hle hq0
  go_enter Try.func8, Try.ntmps8
  go_wp2_with (first
    | ((with_reducible refine gate_dst (N := 2) rfl ?_); refine box_event ?hg (N := 2) ?hd (cs := #[.int .u64 s0, .int .u64 s1, .int .i64 s2, .int .i64 s3, .int .i64 s4, .slice A n c, .int .u64 a]) (t := 65) ?hr ?_; (case hd => rfl); (case hg => rfl); (case hr => first | (go_simp; done) | (go_simp; rfl)); intro g2 hg wb2 hbx hb; have Eg2 := Lib.hid (show w.heap.size ≤ g2 by rw [hg]; exact HB.out.size); have n_HB := Lib.hid (below_step HB.out hb); clear HB; have HB := n_HB; clear n_HB; have B2 := Lib.hid hbx; clear hg hbx hb; have p2_0 := (blk_cell B2.out 0).trans rfl; have p2_1 := (blk_cell B2.out 1).trans rfl; have p2_2 := (blk_cell B2.out 2).trans rfl; have p2_3 := (blk_cell B2.out 3).trans rfl; have p2_4 := (blk_cell B2.out 4).trans rfl; have p2_5 := (blk_cell B2.out 5).trans rfl; have p2_6 := (blk_cell B2.out 6).trans rfl; have l2 := blk_lt B2.out)
    | (go_at_call 12; refine (potsherdlaw13_lives.calls true _ rfl).mono ?_; rintro e w1 ⟨rfl, hb⟩; (try clear p2_0 p2_1 p2_2 p2_3 p2_4 p2_5 p2_6); have n_B2 := Lib.hid (blk_below B2.out hb); have n_HB := Lib.hid (below_step HB.out hb); clear B2 HB; have B2 := n_B2; have HB := n_HB; clear n_B2 n_HB; have p2_0 := (blk_cell B2.out 0).trans rfl; have p2_1 := (blk_cell B2.out 1).trans rfl; have p2_2 := (blk_cell B2.out 2).trans rfl; have p2_3 := (blk_cell B2.out 3).trans rfl; have p2_4 := (blk_cell B2.out 4).trans rfl; have p2_5 := (blk_cell B2.out 5).trans rfl; have p2_6 := (blk_cell B2.out 6).trans rfl; clear hb)
    | (go_at_call 21; refine (HCK.out _ HB.out).mono ?_; rintro e w2 ⟨rfl, hb⟩; (try clear p2_0 p2_1 p2_2 p2_3 p2_4 p2_5 p2_6); have n_B2 := Lib.hid (blk_below B2.out hb); have n_HB := Lib.hid (below_step HB.out hb); clear B2 HB; have B2 := n_B2; have HB := n_HB; clear n_B2 n_HB; have p2_0 := (blk_cell B2.out 0).trans rfl; have p2_1 := (blk_cell B2.out 1).trans rfl; have p2_2 := (blk_cell B2.out 2).trans rfl; have p2_3 := (blk_cell B2.out 3).trans rfl; have p2_4 := (blk_cell B2.out 4).trans rfl; have p2_5 := (blk_cell B2.out 5).trans rfl; have p2_6 := (blk_cell B2.out 6).trans rfl; clear hb)
    | (go_at_call 27; refine (HAC.out _ HB.out).mono ?_; rintro e w3 ⟨v5, rfl, hn_, hb⟩; have l2_ := blk_lt B2.out; have HN := Lib.hid (Kd.N_lower (Kd.N_mono (ok' := fun k => k ≠ g2) hn_ (fun k hk => by have := Eg2.out; omega)) HB.out.size); obtain ⟨Ah, ch, eh⟩ := Kd.N_slice HN.out; rw [hl] at eh; subst eh; (try clear p2_0 p2_1 p2_2 p2_3 p2_4 p2_5 p2_6); have n_B2 := Lib.hid (blk_below B2.out hb); have n_HB := Lib.hid (below_step HB.out hb); clear B2 HB; have B2 := n_B2; have HB := n_HB; clear n_B2 n_HB; have p2_0 := (blk_cell B2.out 0).trans rfl; have p2_1 := (blk_cell B2.out 1).trans rfl; have p2_2 := (blk_cell B2.out 2).trans rfl; have p2_3 := (blk_cell B2.out 3).trans rfl; have p2_4 := (blk_cell B2.out 4).trans rfl; have p2_5 := (blk_cell B2.out 5).trans rfl; have p2_6 := (blk_cell B2.out 6).trans rfl; clear hb hn_ l2_; skip)
    | ((with_reducible refine gate_dst (N := 5) rfl ?_); refine box_event ?hg (N := 5) ?hd (cs := #[.int .u64 0, .int .u64 0, .int .i64 0, .int .i64 0, .int .i64 0, .slice none 0 0, .int .u64 0]) (t := 65) ?hr ?_; (case hd => rfl); (case hg => rfl); (case hr => first | (go_simp; done) | (go_simp; rfl)); intro g5 hg wb5 hbx hb; have Eg5 := Lib.hid (show w.heap.size ≤ g5 by rw [hg]; exact HB.out.size); have Ne2_5 := Lib.hid (show ¬ g2 = g5 by rw [hg]; have := blk_lt B2.out; omega); (try clear p2_0 p2_1 p2_2 p2_3 p2_4 p2_5 p2_6); have n_B2 := Lib.hid (blk_below B2.out hb); have n_HN := Lib.hid (Kd.N_below (Kd.N_elderB HN.out g5 (Nat.le_of_eq hg.symm)) hb); have n_HB := Lib.hid (below_step HB.out hb); clear B2 HN HB; have B2 := n_B2; have HN := n_HN; have HB := n_HB; clear n_B2 n_HN n_HB; have p2_0 := (blk_cell B2.out 0).trans rfl; have p2_1 := (blk_cell B2.out 1).trans rfl; have p2_2 := (blk_cell B2.out 2).trans rfl; have p2_3 := (blk_cell B2.out 3).trans rfl; have p2_4 := (blk_cell B2.out 4).trans rfl; have p2_5 := (blk_cell B2.out 5).trans rfl; have p2_6 := (blk_cell B2.out 6).trans rfl; have B5 := Lib.hid hbx; clear hg hbx hb; have l5 := blk_lt B5.out)
    | ((with_reducible refine gate_store (t := 65) (p := 5) rfl ?_); have zc0 := (blk_cell B5.out 0).trans rfl; have zf0 := blk_frozen B5.out 0; have zc1 := (blk_cell B5.out 1).trans rfl; have zf1 := blk_frozen B5.out 1; have zc2 := (blk_cell B5.out 2).trans rfl; have zf2 := blk_frozen B5.out 2; have zc3 := (blk_cell B5.out 3).trans rfl; have zf3 := blk_frozen B5.out 3; have zc4 := (blk_cell B5.out 4).trans rfl; have zf4 := blk_frozen B5.out 4; have zc5 := (blk_cell B5.out 5).trans rfl; have zf5 := blk_frozen B5.out 5; have zc6 := (blk_cell B5.out 6).trans rfl; have zf6 := blk_frozen B5.out 6; refine store_event (t := 65) (p := 5) (v := ?vows1) (w1 := setAll wb5 g5 0 [.int .u64 s0, .int .u64 s1, .int .i64 s2, .int .i64 s3, .int .i64 s4, .slice Ah n ch, .int .u64 q]) ?hg ?ho ?hn ?hr ?_; (case ho => rfl); (case hg => rfl); (case hn => rfl); (case hr => first | (go_simp; done) | (go_simp; rfl)); intro ws1 hw; clear zc0 zf0 zc1 zf1 zc2 zf2 zc3 zf3 zc4 zf4 zc5 zf5 zc6 zf6; (try clear p2_0 p2_1 p2_2 p2_3 p2_4 p2_5 p2_6 p5_0 p5_1 p5_2 p5_3 p5_4 p5_5 p5_6); have n_B2 := Lib.hid (((by rw [hw]; exact blk_kept B2.out (setAll_kept [.int .u64 s0, .int .u64 s1, .int .i64 s2, .int .i64 s3, .int .i64 s4, .slice Ah n ch, .int .u64 q] 0 wb5) (fun e_ => Ne2_5.out e_)) : ws1.heap[g2]? = some (.cells #[.int .u64 s0, .int .u64 s1, .int .i64 s2, .int .i64 s3, .int .i64 s4, .slice A n c, .int .u64 a] 65 (0, 0)))); have n_B5 := Lib.hid (((by rw [hw]; exact setAll_box [.int .u64 s0, .int .u64 s1, .int .i64 s2, .int .i64 s3, .int .i64 s4, .slice Ah n ch, .int .u64 q] B5.out rfl) : ws1.heap[g5]? = some (.cells #[.int .u64 s0, .int .u64 s1, .int .i64 s2, .int .i64 s3, .int .i64 s4, .slice Ah n ch, .int .u64 q] 65 (0, 0)))); have n_HN := Lib.hid ((by rw [hw]; exact Kd.N_kept HN.out (setAll_kept [.int .u64 s0, .int .u64 s1, .int .i64 s2, .int .i64 s3, .int .i64 s4, .slice Ah n ch, .int .u64 q] 0 wb5) (fun k hk => (by first | exact hk.1 | exact hk.2)) : Kd.N O2 28 ws1 w.heap.size (fun k => k ≠ g2 ∧ k ≠ g5) (.slice Ah n ch) l)); have n_HB := Lib.hid ((by rw [hw]; exact setAll_below Eg5.out [.int .u64 s0, .int .u64 s1, .int .i64 s2, .int .i64 s3, .int .i64 s4, .slice Ah n ch, .int .u64 q] 0 wb5 HB.out : Below w.heap.size w ws1)); clear B2 B5 HN HB; have B2 := n_B2; have B5 := n_B5; have HN := n_HN; have HB := n_HB; clear n_B2 n_B5 n_HN n_HB; clear hw; have p2_0 := (blk_cell B2.out 0).trans rfl; have p2_1 := (blk_cell B2.out 1).trans rfl; have p2_2 := (blk_cell B2.out 2).trans rfl; have p2_3 := (blk_cell B2.out 3).trans rfl; have p2_4 := (blk_cell B2.out 4).trans rfl; have p2_5 := (blk_cell B2.out 5).trans rfl; have p2_6 := (blk_cell B2.out 6).trans rfl; have p5_0 := (blk_cell B5.out 0).trans rfl; have p5_1 := (blk_cell B5.out 1).trans rfl; have p5_2 := (blk_cell B5.out 2).trans rfl; have p5_3 := (blk_cell B5.out 3).trans rfl; have p5_4 := (blk_cell B5.out 4).trans rfl; have p5_5 := (blk_cell B5.out 5).trans rfl; have p5_6 := (blk_cell B5.out 6).trans rfl; skip)
    | (go_at_call 24; refine (HSD.out _ _ Ah ch (Kd.N_V HN.out)).mono ?_; rintro e w9 ⟨v0, rfl, hm_, hb⟩; have HM := Lib.hid (Kd.N_lower (Kd.N_mono (ok' := fun _ => True) hm_ (fun _ _ => trivial)) HB.out.size); obtain ⟨Am, cm, em⟩ := Kd.N_slice HM.out; rw [← HML.out] at em; subst em; (try clear p2_0 p2_1 p2_2 p2_3 p2_4 p2_5 p2_6 p5_0 p5_1 p5_2 p5_3 p5_4 p5_5 p5_6); have n_B2 := Lib.hid (blk_below B2.out hb); have n_B5 := Lib.hid (blk_below B5.out hb); have n_HN := Lib.hid (Kd.N_below HN.out hb); have n_HB := Lib.hid (below_step HB.out hb); clear B2 B5 HN HB; have B2 := n_B2; have B5 := n_B5; have HN := n_HN; have HB := n_HB; clear n_B2 n_B5 n_HN n_HB; have p2_0 := (blk_cell B2.out 0).trans rfl; have p2_1 := (blk_cell B2.out 1).trans rfl; have p2_2 := (blk_cell B2.out 2).trans rfl; have p2_3 := (blk_cell B2.out 3).trans rfl; have p2_4 := (blk_cell B2.out 4).trans rfl; have p2_5 := (blk_cell B2.out 5).trans rfl; have p2_6 := (blk_cell B2.out 6).trans rfl; have p5_0 := (blk_cell B5.out 0).trans rfl; have p5_1 := (blk_cell B5.out 1).trans rfl; have p5_2 := (blk_cell B5.out 2).trans rfl; have p5_3 := (blk_cell B5.out 3).trans rfl; have p5_4 := (blk_cell B5.out 4).trans rfl; have p5_5 := (blk_cell B5.out 5).trans rfl; have p5_6 := (blk_cell B5.out 6).trans rfl; clear hb hm_ HN; skip))
  go_loopw [61] (fun vi wr => ∃ j : Nat, vi = .int .i64 j ∧ j ≤ m ∧ Hid (wr.heap[g2]? = some (.cells #[.int .u64 s0, .int .u64 s1, .int .i64 s2, .int .i64 s3, .int .i64 s4, .slice A n c, .int .u64 a] 65 (0, 0))) ∧ Hid (Kd.N k52 52 wr w.heap.size (fun _ => True) (.slice Am m cm) ms) ∧ Hid (Below w.heap.size w wr)) (fun vi _ => m - (intOf vi).toNat)
  case atStart => exact ⟨0, rfl, Nat.zero_le _, B2, HM, HB⟩
  case round =>
    (try clear p2_0 p2_1 p2_2 p2_3 p2_4 p2_5 p2_6 p5_0 p5_1 p5_2 p5_3 p5_4 p5_5 p5_6); skip
    (try clear B2 B5 HM HB)
    obtain ⟨j, rfl, hj, B2, HM, HB⟩ := hrel
    by_cases hlt : j < m
    · obtain ⟨sq, lst, rw_, em, f1, f2⟩ := HE.out j hlt
      subst f2
      obtain ⟨ab, ao, cs, eA, hK_, hR_⟩ := msg_at (base := w.heap.size) (Kd.N_V HM.out) j (by rw [← HML.out]; exact hlt)
      rw [em] at hK_
      obtain ⟨hlen, hone, ⟨k2, k3, k4, k5, k6⟩, k37, k38, _⟩ := msg_cells hK_
      subst eA
      have RR := Lib.hid hR_
      have HL := Lib.hid hlen
      have H1 := Lib.hid hone
      have Hem := Lib.hid em
      clear hR_ hlen hone hK_ em
      have hjj : (j : Int) < (m : Int) := by omega
      have hj0 : (0 : Int) ≤ (j : Int) := by omega
      have Hb := Lib.hid (Below.refl wr.heap.size wr)
      go_wp2_with (first
        | ((with_reducible refine gate_dst (N := 65) rfl ?_); refine wpList_load_mid rfl 52 (.tmp 64) rfl ab (ao + j * 47) rfl cs _ RR.out Try.underlying52 rfl (by rw [HL.out]; kernel_rfl) ?_)
        | ((with_reducible refine gate_dst (N := 9) rfl ?_); refine box_event ?hg (N := 9) ?hd (cs := zero52) (t := 52) ?hr ?_; (case hd => rfl); (case hg => rfl); (case hr => first | (go_simp; done) | (go_simp; rfl)); intro g9 hg wb9 hbx hb; have E9 := Lib.hid (show wr.heap.size ≤ g9 by rw [hg]; exact Hb.out.size); have n_Hb := Lib.hid (below_step Hb.out hb); clear Hb; have Hb := n_Hb; clear n_Hb hb hg; have B9 := Lib.hid hbx; clear hbx)
        | ((with_reducible refine gate_store (t := 52) (p := 9) rfl ?_); refine wpList_store_row rfl 52 (.tmp 9) (.tmp 65) rfl g9 cs.toArray rfl rfl 52 zero52 B9.out (by rw [List.size_toArray, HL.out]; kernel_rfl) (show zero52.size = cs.toArray.size from (by rw [show cs.toArray.size = cs.length from List.size_toArray, HL.out]; rfl)) H1.out ?_; have n_B9 := Lib.hid (show (World.setRow wb9 g9 cs.toArray).heap[g9]? = some (.cells cs.toArray 52 (0, 0)) from setRow_heap _ _ zero52 _ _ _ B9.out); have n_Hb := Lib.hid (show Below wr.heap.size wr (World.setRow wb9 g9 cs.toArray) from row_below (cells := cs.toArray) Hb.out E9.out); clear B9 Hb; have B9 := n_B9; have Hb := n_Hb; clear n_B9 n_Hb; have p2_0 := (show World.cell? (World.setRow wb9 g9 cs.toArray) ⟨g2, 0, none⟩ = some (.int .u64 s0) from blk_cell (blk_below B2.out Hb.out) 0); have p2_1 := (show World.cell? (World.setRow wb9 g9 cs.toArray) ⟨g2, 1, none⟩ = some (.int .u64 s1) from blk_cell (blk_below B2.out Hb.out) 1); have p2_2 := (show World.cell? (World.setRow wb9 g9 cs.toArray) ⟨g2, 2, none⟩ = some (.int .i64 s2) from blk_cell (blk_below B2.out Hb.out) 2); have p2_3 := (show World.cell? (World.setRow wb9 g9 cs.toArray) ⟨g2, 3, none⟩ = some (.int .i64 s3) from blk_cell (blk_below B2.out Hb.out) 3); have p2_4 := (show World.cell? (World.setRow wb9 g9 cs.toArray) ⟨g2, 4, none⟩ = some (.int .i64 s4) from blk_cell (blk_below B2.out Hb.out) 4); have p2_5 := (show World.cell? (World.setRow wb9 g9 cs.toArray) ⟨g2, 5, none⟩ = some (.slice A n c) from blk_cell (blk_below B2.out Hb.out) 5); have p9_2 := (show World.cell? (World.setRow wb9 g9 cs.toArray) ⟨g9, 2, none⟩ = some (.int .u64 s0) from (blk_cell B9.out 2).trans k2); have p9_3 := (show World.cell? (World.setRow wb9 g9 cs.toArray) ⟨g9, 3, none⟩ = some (.int .u64 s1) from (blk_cell B9.out 3).trans k3); have p9_4 := (show World.cell? (World.setRow wb9 g9 cs.toArray) ⟨g9, 4, none⟩ = some (.int .i64 s2) from (blk_cell B9.out 4).trans k4); have p9_5 := (show World.cell? (World.setRow wb9 g9 cs.toArray) ⟨g9, 5, none⟩ = some (.int .i64 s3) from (blk_cell B9.out 5).trans k5); have p9_6 := (show World.cell? (World.setRow wb9 g9 cs.toArray) ⟨g9, 6, none⟩ = some (.int .i64 s4) from (blk_cell B9.out 6).trans k6); have p9_37 := (show World.cell? (World.setRow wb9 g9 cs.toArray) ⟨g9, 37, none⟩ = some (.int .u64 sq) from (blk_cell B9.out 37).trans k37); have p9_38 := (show World.cell? (World.setRow wb9 g9 cs.toArray) ⟨g9, 38, none⟩ = some (.bool (sq == nm)) from (blk_cell B9.out 38).trans k38); skip))
      have hm4 : m ≤ 4 := by simpa using e1'
      exact ⟨⟨j + 1, by rw [v64 (by omega)], hlt, Lib.hid (blk_below B2.out Hb.out), Lib.hid (Kd.N_below HM.out Hb.out), Lib.hid (below_step HB.out Hb.out)⟩, by rw [v64 (by omega)]; simp [intOf]; omega⟩
    · have hjj : ¬ ((j : Int) < (m : Int)) := by omega
      clear hlt
      go_wp2
      go_ret
      exact ⟨rfl, HB.out⟩
theorem back_true (s0 s1 s2 s3 s4 a q : Int) (A : Option Addr) (n c : Nat) (l : List (List (List S112))) (w : World) (hl : l.length = n) (hr : Kd.C O2 w A n l) (hc : n ≤ c) (hf : FitO l) (hq0 : 0 ≤ q) :
    Calls Try.prog 8 #[.agg #[.int .u64 s0, .int .u64 s1, .int .i64 s2, .int .i64 s3, .int .i64 s4, .slice A n c, .int .u64 a], .int .u64 q] w fun e w' => e = .returned (.bool true) ∧ Below w.heap.size w w' := by
  by_cases ho : outV l a = 0
  · by_cases hq : (n : Int) < q
    · exact back_far s0 s1 s2 s3 s4 a q A n c l w hl hr hc hf hq0 ho hq
    · exact back_near s0 s1 s2 s3 s4 a q A n c l w hl hr hc hf hq0 ho (by omega)
  · exact back_bad s0 s1 s2 s3 s4 a q A n c l w hl hr hc hf hq0 ho
end Go.Proofs.Ytkbemagcoojmmaa.Val
