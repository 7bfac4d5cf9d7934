/- StreamSends, by hand: it answers true. Conditions: batches, rows, values of a row are not too many. Printed by gsd.py. -/
import Derived.Test.YtkbemagcoojmmaaMgQs
import Derived.Test.YtkbemagcoojmmaaAcdQs
import Derived.Test.YtkbemagcoojmmaaPk5Qs
import Derived.Test.YtkbemagcoojmmaaSmQs
namespace Go.Proofs.Ytkbemagcoojmmaa.Val
open Go.RowKit Go.Proofs.Ytkbemagcoojmmaa.G Go.Proofs.Ytkbemagcoojmmaa.Lx Go.Proofs.YtkbemagcoojmmaaW.PrintWords Go.Proofs.YtkbemagcoojmmaaW.PrintLast Go.Proofs.YtkbemagcoojmmaaW.PrintMore
set_option linter.unusedVariables false
set_option linter.unusedSimpArgs false
attribute [local go_sem high] eqA26
theorem cutV_fit (b0 b1 b2 b3 b4 : Int) (rows : List (List S112)) (h : FitR rows) : FitO (cutV b0 b1 b2 b3 b4 rows).2.2.2.2.2.1 := by
  unfold cutV
  split
  · exact ⟨by simp, fun b hb => by cases hb⟩
  · exact cutG_fit rows h (by omega)
theorem both_send (s0 s1 s2 s3 s4 : Int) (l : List (List (List S112))) (hf : FitO l) (a : Int) (ha : 0 ≤ a) : ∃ ms e, stream_Send.f 30000000000000 s0 s1 s2 s3 s4 l a = some (ms, e) ∧ potsherdref13_Send.f 30000000000000 s0 s1 s2 s3 s4 l a = some (ms, e) ∧ ms.length ≤ 4 ∧ ∀ j : Nat, j < ms.length → ∃ (sq : Int) (lst : Bool) (rw_ : List (List S112)), ms.getD j z52 = msgS s0 s1 s2 s3 s4 sq lst rw_ ∧ FitR rw_ := by
  have hm1 := hf.1
  by_cases ho : outV l a = 0
  · have hle := outV_le ho
    obtain ⟨x, rfl⟩ : ∃ x : Nat, a = (x : Int) := ⟨a.toNat, by omega⟩
    have hsl := sendV_length s0 s1 s2 s3 s4 l x
    refine ⟨_, _, send_f _ s0 s1 s2 s3 s4 l hf x ho (by omega) (by omega), rsend_f _ s0 s1 s2 s3 s4 l hf x ho (by omega) (by omega), by omega, fun j hj => ?_⟩
    have hi : x + j < l.length := by omega
    refine ⟨((x + j : Nat) : Int), decide (x + j + 1 = l.length), l.getD (x + j) [], ?_, ?_⟩
    · rw [List.getD_eq_getElem?_getD, List.getElem?_eq_getElem hj]
      simp only [sendV, List.getElem_map, List.getElem_range, Option.getD_some]
      rfl
    · rw [show l.getD (x + j) [] = l[x + j] by simp [List.getD_eq_getElem?_getD, hi]]
      exact hf.2 _ (List.getElem_mem hi)
  · exact ⟨[], 6, send_bad _ s0 s1 s2 s3 s4 l (by omega) a ho, rsend_bad _ s0 s1 s2 s3 s4 l (by omega) a ho (by omega), by simp, fun j hj => by simp at hj⟩
theorem msg_lit {W : World} {ok : Nat → Prop} {s0 s1 s2 s3 s4 sq : Int} {lst : Bool} {rows : List (List S112)} {cs : List Value} (h : Kd.FK k52 W ok (msgS s0 s1 s2 s3 s4 sq lst rows) cs) :
    ∃ (A12 A13 A14 A16 A17 A18 A26 A32 A35 A36 A39 A44 A45 A46 : Option Addr) (c12 c13 c14 c16 c17 c18 c26 c32 c35 c36 c39 c44 c45 c46 : Nat), cs = [.int .u8 4, .int .u64 0, .int .u64 s0, .int .u64 s1, .int .i64 s2, .int .i64 s3, .int .i64 s4, .string (⟨#[]⟩ : ByteArray), .string (⟨#[]⟩ : ByteArray), .int .i64 0, .int .i64 0, .int .i64 0, .slice A12 0 c12, .slice A13 0 c13, .slice A14 0 c14, .bool false, .slice A16 0 c16, .slice A17 0 c17, .slice A18 0 c18, .int .i64 0, .int .i64 0, .int .u8 0, .string (⟨#[]⟩ : ByteArray), .int .u64 0, .int .u64 0, .int .i64 0, .slice A26 0 c26, .int .u8 0, .string (⟨#[]⟩ : ByteArray), .int .u64 0, .int .u64 0, .int .i64 0, .slice A32 0 c32, .bool false, .int .i64 0, .slice A35 0 c35, .slice A36 0 c36, .int .u64 sq, .bool lst, .slice A39 rows.length c39, .string (⟨#[]⟩ : ByteArray), .int .u64 0, .int .u64 0, .int .i64 0, .slice A44 0 c44, .slice A45 0 c45, .slice A46 0 c46] ∧ rows.length ≤ c39 ∧ Kd.F (Kd.slice 112 k112) W ok A39 rows.length rows := by
  obtain ⟨A12, c12, A13, c13, A14, c14, A16, c16, A17, c17, A18, c18, A26, c26, A32, c32, A35, c35, A36, c36, A39, c39, A44, c44, A45, c45, A46, c46, e, _, _, _, _, _, _, _, _, _, _, _, _, _, _, _, _, _, _, _, _, l39, f39, _⟩ := k52_openF h
  exact ⟨A12, A13, A14, A16, A17, A18, A26, A32, A35, A36, A39, A44, A45, A46, c12, c13, c14, c16, c17, c18, c26, c32, c35, c36, c39, c44, c45, c46, e, l39, f39⟩
set_option maxHeartbeats 16000000 in
set_option maxRecDepth 100000 in
theorem sends_true (s0 s1 s2 s3 s4 a b0 b1 b2 b3 b4 q : Int) (A A2 : Option Addr) (n c m2 c2 : Nat) (l : List (List (List S112))) (rows : List (List S112)) (w : World) (hl : l.length = n) (hr : Kd.C O2 w A n l) (hc : n ≤ c) (hrl : rows.length = m2) (hr2 : Kd.C (Kd.slice 112 k112) w A2 m2 rows) (hc2 : m2 ≤ c2) (hf : FitO l) (hft : FitR rows) (ha0 : 0 ≤ a) :
    Calls Try.prog 5 #[.agg #[.int .u64 s0, .int .u64 s1, .int .i64 s2, .int .i64 s3, .int .i64 s4, .slice A n c, .int .u64 a], .agg #[.int .u64 b0, .int .u64 b1, .int .i64 b2, .int .i64 b3, .int .i64 b4], .slice A2 m2 c2, .int .u64 q] w fun e w' => e = .returned (.bool true) ∧ Below w.heap.size w w' := by
  have HB := Lib.hid (Below.refl w.heap.size w)
  have hn1 : l.length < 5864062014805 := hf.1
  have HV2 := fun (wx : World) (hb : Below w.heap.size w wx) => (Kd.V_mk (e := 101) (base := wx.heap.size) (by rw [hrl]; exact hc2) (Kd.F_below (Kd.C_F (Kd.heap_slice 112 k112_heap) (by rw [hrl]; exact hr2)) hb) : Kd.V (Kd.slice 112 k112) 101 wx wx.heap.size (fun k => k < w.heap.size) (.slice A2 rows.length c2) rows)
  have HCO := Lib.hid (fun (wx : World) (hb : Below w.heap.size w wx) => potsherdref13_CopyOut.calls 30000000000000 s0 s1 s2 s3 s4 A c l a s0 s1 s2 s3 s4 l a wx (by rw [hl]; exact Kd.C_below hr hb) (by rw [hl]; exact hc) (copyOut_f _ l hf _ _ _ _ _ _ (by omega)))
  obtain ⟨r1, r2, r3, r4, r5, r6, r7, r8, hcv⟩ : ∃ r1 r2 r3 r4 r5 r6 r7 r8, cutV b0 b1 b2 b3 b4 rows = (r1, r2, r3, r4, r5, r6, r7, r8) := ⟨_, _, _, _, _, _, _, _, rfl⟩
  have hf6 : FitO r6 := by have h_ := cutV_fit b0 b1 b2 b3 b4 rows hft; rw [hcv] at h_; exact h_
  have h61 := hf6.1
  have HC1 := Lib.hid (fun (wx : World) (hb : Below w.heap.size w wx) => stream_Cut.calls 30000000000000 b0 b1 b2 b3 b4 (fun k => k < w.heap.size) A2 c2 rows r1 r2 r3 r4 r5 r6 r7 r8 wx (HV2 wx hb) (by unfold stream_Cut.f; rw [if_pos hft, hcv]))
  have HC2 := Lib.hid (fun (wx : World) (hb : Below w.heap.size w wx) => potsherdref13_Cut.calls 30000000000000 b0 b1 b2 b3 b4 (fun k => k < w.heap.size) A2 c2 rows r1 r2 r3 r4 r5 r6 r7 r8 wx (HV2 wx hb) (by unfold potsherdref13_Cut.f; rw [if_pos hft, hcv]))
  obtain ⟨m6, hm6⟩ : ∃ x, x = r6.length := ⟨_, rfl⟩
  have HM6 := Lib.hid hm6
  have HS1 := Lib.hid (fun (wx : World) (A3 A4 : Option Addr) (c3 c4 : Nat) (h3 : Kd.C O2 wx A3 r6.length r6) (h3' : r6.length ≤ c3) (h4 : Kd.C O2 wx A4 r6.length r6) (h4' : r6.length ≤ c4) => potsherdref13_SameOut.calls 30000000000000 r1 r2 r3 r4 r5 A3 c3 r6 r7 r1 r2 r3 r4 r5 A4 c4 r6 r7 true wx h3 h3' h4 h4' (sameOut_f _ r6 hf6 _ _ _ _ _ _ (by omega)))
  rw [← hm6] at HS1
  obtain ⟨ms, e1, hs1, hs2, hm4, hE⟩ := both_send s0 s1 s2 s3 s4 l hf a ha0
  obtain ⟨m, hm⟩ : ∃ x, x = ms.length := ⟨_, rfl⟩
  have HSD := Lib.hid (fun (wx : World) (P : Nat → Prop) (Ah : Option Addr) (ch : Nat) (hV : Kd.V O2 28 wx wx.heap.size (fun k => P k) (.slice Ah l.length ch) l) => stream_Send.calls 30000000000000 s0 s1 s2 s3 s4 P Ah ch l a ms e1 wx hV hs1)
  have HSR := Lib.hid (fun (wx : World) (hb : Below w.heap.size w wx) => potsherdref13_Send.calls 30000000000000 s0 s1 s2 s3 s4 A c l a ms e1 wx (by rw [hl]; exact Kd.C_below hr hb) (by rw [hl]; exact hc) hs2)
  obtain ⟨aq, haq⟩ : ∃ x, x = (if sameS b0 b1 b2 b3 b4 s0 s1 s2 s3 s4 = true ∧ q ≤ (l.length : Int) then q else a) := ⟨_, rfl⟩
  have HA1 := Lib.hid (fun (wx : World) (P : Nat → Prop) (Ah : Option Addr) (ch : Nat) (hV : Kd.V O2 28 wx wx.heap.size (fun k => P k) (.slice Ah l.length ch) l) => stream_Acked.calls 30000000000000 s0 s1 s2 s3 s4 P Ah ch l a b0 b1 b2 b3 b4 q s0 s1 s2 s3 s4 l aq wx hV (by unfold stream_Acked.f; rw [if_pos hf, ← haq]))
  have HA2 := Lib.hid (fun (wx : World) (hb : Below w.heap.size w wx) => potsherdref13_Acked.calls 30000000000000 s0 s1 s2 s3 s4 A c l a b0 b1 b2 b3 b4 q s0 s1 s2 s3 s4 l aq wx (by rw [hl]; exact Kd.C_below hr hb) (by rw [hl]; exact hc) (by unfold potsherdref13_Acked.f; rw [if_pos hf, ← haq]))
  have HS2 := Lib.hid (fun (x : Int) (wx : World) (A3 A4 : Option Addr) (c3 c4 : Nat) (h3 : Kd.C O2 wx A3 l.length l) (h3' : l.length ≤ c3) (h4 : Kd.C O2 wx A4 l.length l) (h4' : l.length ≤ c4) => potsherdref13_SameOut.calls 30000000000000 s0 s1 s2 s3 s4 A3 c3 l x s0 s1 s2 s3 s4 A4 c4 l x true wx h3 h3' h4 h4' (sameOut_f _ l hf _ _ _ _ _ _ (by omega)))
  obtain ⟨ov, hov⟩ : ∃ x, x = outV l a := ⟨_, rfl⟩
  have HK1 := Lib.hid (fun (wx : World) (Ah : Option Addr) (ch : Nat) (h3 : Kd.C O2 wx Ah l.length l) (h3' : l.length ≤ ch) => stream_CheckOut.calls 30000000000000 s0 s1 s2 s3 s4 Ah ch l a ov wx h3 h3' (by unfold stream_CheckOut.f; rw [if_pos (by omega), hov]))
  have HK2 := Lib.hid (fun (wx : World) (hb : Below w.heap.size w wx) => potsherdref13_CheckOut.calls 30000000000000 s0 s1 s2 s3 s4 A c l a ov wx (by rw [hl]; exact Kd.C_below hr hb) (by rw [hl]; exact hc) (by rw [rcheck_f _ _ _ _ _ _ l (by omega) a (by omega), hov]))
  have HCA := Lib.hid (fun (wx : World) (hb : Below w.heap.size w wx) => (Kd.C_below hr hb))
  have HC0 := Lib.hid hc
  rw [hl] at HCO HSD HSR HA1 HA2 HS2 HK1 HK2
  rw [hrl] at HC1 HC2
  have HL := Lib.hid hl
  have HML := Lib.hid hm
  rw [← hm] at hm4 hE
  have HE := Lib.hid hE
  have HM4 := Lib.hid hm4
  clear hr hc hr2 hc2 hrl hl hf hft ha0 HV2 hcv hf6 h61 hs1 hs2 hm4 hE hm hm6 haq hov hn1
  go_enter Try.func5, Try.ntmps5
  go_wp2_with (first
    | ((with_reducible refine gate_dst (N := 4) rfl ?_); refine box_event ?hg (N := 4) ?hd (cs := #[.int .u64 s0, .int .u64 s1, .int .i64 s2, .int .i64 s3, .int .i64 s4, .slice A n c, .int .u64 a]) (t := 65) ?hr ?_; (case hd => rfl); (case hg => rfl); (case hr => first | (go_simp; done) | (go_simp; rfl)); intro g4 hg wb4 hbx hb; have Eg4 := Lib.hid (show w.heap.size ≤ g4 by rw [hg]; exact HB.out.size); have n_HB := Lib.hid (below_step HB.out hb); clear HB; have HB := n_HB; clear n_HB; have B4 := Lib.hid hbx; clear hg hbx hb; have p4_0 := (blk_cell B4.out 0).trans rfl; have p4_1 := (blk_cell B4.out 1).trans rfl; have p4_2 := (blk_cell B4.out 2).trans rfl; have p4_3 := (blk_cell B4.out 3).trans rfl; have p4_4 := (blk_cell B4.out 4).trans rfl; have p4_5 := (blk_cell B4.out 5).trans rfl; have p4_6 := (blk_cell B4.out 6).trans rfl; have l4 := blk_lt B4.out)
    | ((with_reducible refine gate_dst (N := 5) rfl ?_); refine box_event ?hg (N := 5) ?hd (cs := #[.int .u64 b0, .int .u64 b1, .int .i64 b2, .int .i64 b3, .int .i64 b4]) (t := 26) ?hr ?_; (case hd => rfl); (case hg => rfl); (case hr => first | (go_simp; done) | (go_simp; rfl)); intro g5 hg wb5 hbx hb; have Eg5 := Lib.hid (show w.heap.size ≤ g5 by rw [hg]; exact HB.out.size); have Ne4_5 := Lib.hid (show ¬ g4 = g5 by rw [hg]; have := blk_lt B4.out; omega); (try clear p4_0 p4_1 p4_2 p4_3 p4_4 p4_5 p4_6); have n_B4 := Lib.hid (blk_below B4.out hb); have n_HB := Lib.hid (below_step HB.out hb); clear B4 HB; have B4 := n_B4; have HB := n_HB; clear n_B4 n_HB; have p4_0 := (blk_cell B4.out 0).trans rfl; have p4_1 := (blk_cell B4.out 1).trans rfl; have p4_2 := (blk_cell B4.out 2).trans rfl; have p4_3 := (blk_cell B4.out 3).trans rfl; have p4_4 := (blk_cell B4.out 4).trans rfl; have p4_5 := (blk_cell B4.out 5).trans rfl; have p4_6 := (blk_cell B4.out 6).trans rfl; have B5 := Lib.hid hbx; clear hg hbx hb; have p5_0 := (blk_cell B5.out 0).trans rfl; have p5_1 := (blk_cell B5.out 1).trans rfl; have p5_2 := (blk_cell B5.out 2).trans rfl; have p5_3 := (blk_cell B5.out 3).trans rfl; have p5_4 := (blk_cell B5.out 4).trans rfl; have l5 := blk_lt B5.out)
    | (go_at_call 22; refine (HCO.out _ HB.out).mono ?_; rintro e w3 ⟨v5, rfl, hn_, hb⟩; have HG := Lib.hid (Kd.R_lower (Kd.R_mono (ok' := fun _ => True) hn_ (fun _ _ => trivial)) HB.out.size); obtain ⟨Ah, ch, eh⟩ := Kd.R_slice HG.out; rw [HL.out] at eh; subst eh; (try clear p4_0 p4_1 p4_2 p4_3 p4_4 p4_5 p4_6 p5_0 p5_1 p5_2 p5_3 p5_4); have n_B4 := Lib.hid (blk_below B4.out hb); have n_B5 := Lib.hid (blk_below B5.out hb); have n_HB := Lib.hid (below_step HB.out hb); clear B4 B5 HB; have B4 := n_B4; have B5 := n_B5; have HB := n_HB; clear n_B4 n_B5 n_HB; have p4_0 := (blk_cell B4.out 0).trans rfl; have p4_1 := (blk_cell B4.out 1).trans rfl; have p4_2 := (blk_cell B4.out 2).trans rfl; have p4_3 := (blk_cell B4.out 3).trans rfl; have p4_4 := (blk_cell B4.out 4).trans rfl; have p4_5 := (blk_cell B4.out 5).trans rfl; have p4_6 := (blk_cell B4.out 6).trans rfl; have p5_0 := (blk_cell B5.out 0).trans rfl; have p5_1 := (blk_cell B5.out 1).trans rfl; have p5_2 := (blk_cell B5.out 2).trans rfl; have p5_3 := (blk_cell B5.out 3).trans rfl; have p5_4 := (blk_cell B5.out 4).trans rfl; clear hb hn_; skip)
    | ((with_reducible refine gate_dst (N := 9) rfl ?_); refine box_event ?hg (N := 9) ?hd (cs := #[.int .u64 0, .int .u64 0, .int .i64 0, .int .i64 0, .int .i64 0, .slice none 0 0, .int .u64 0]) (t := 65) ?hr ?_; (case hd => rfl); (case hg => rfl); (case hr => first | (go_simp; done) | (go_simp; rfl)); intro g9 hg wb9 hbx hb; have Eg9 := Lib.hid (show w.heap.size ≤ g9 by rw [hg]; exact HB.out.size); have Ne4_9 := Lib.hid (show ¬ g4 = g9 by rw [hg]; have := blk_lt B4.out; omega); have Ne5_9 := Lib.hid (show ¬ g5 = g9 by rw [hg]; have := blk_lt B5.out; omega); (try clear p4_0 p4_1 p4_2 p4_3 p4_4 p4_5 p4_6 p5_0 p5_1 p5_2 p5_3 p5_4); have n_B4 := Lib.hid (blk_below B4.out hb); have n_B5 := Lib.hid (blk_below B5.out hb); have n_HG := Lib.hid (Kd.R_mono (ok' := (fun k => k ≠ g9)) (Kd.R_below (Kd.R_elderB HG.out g9 (Nat.le_of_eq hg.symm)) hb) (fun k hk => hk.2)); have n_HB := Lib.hid (below_step HB.out hb); clear B4 B5 HG HB; have B4 := n_B4; have B5 := n_B5; have HG := n_HG; have HB := n_HB; clear n_B4 n_B5 n_HG n_HB; have p4_0 := (blk_cell B4.out 0).trans rfl; have p4_1 := (blk_cell B4.out 1).trans rfl; have p4_2 := (blk_cell B4.out 2).trans rfl; have p4_3 := (blk_cell B4.out 3).trans rfl; have p4_4 := (blk_cell B4.out 4).trans rfl; have p4_5 := (blk_cell B4.out 5).trans rfl; have p4_6 := (blk_cell B4.out 6).trans rfl; have p5_0 := (blk_cell B5.out 0).trans rfl; have p5_1 := (blk_cell B5.out 1).trans rfl; have p5_2 := (blk_cell B5.out 2).trans rfl; have p5_3 := (blk_cell B5.out 3).trans rfl; have p5_4 := (blk_cell B5.out 4).trans rfl; have B9 := Lib.hid hbx; clear hg hbx hb; have l9 := blk_lt B9.out)
    | ((with_reducible refine gate_store (t := 65) (p := 9) rfl ?_); have zc0 := (blk_cell B9.out 0).trans rfl; have zf0 := blk_frozen B9.out 0; have zc1 := (blk_cell B9.out 1).trans rfl; have zf1 := blk_frozen B9.out 1; have zc2 := (blk_cell B9.out 2).trans rfl; have zf2 := blk_frozen B9.out 2; have zc3 := (blk_cell B9.out 3).trans rfl; have zf3 := blk_frozen B9.out 3; have zc4 := (blk_cell B9.out 4).trans rfl; have zf4 := blk_frozen B9.out 4; have zc5 := (blk_cell B9.out 5).trans rfl; have zf5 := blk_frozen B9.out 5; have zc6 := (blk_cell B9.out 6).trans rfl; have zf6 := blk_frozen B9.out 6; refine store_event (t := 65) (p := 9) (v := ?vows1) (w1 := setAll wb9 g9 0 [.int .u64 s0, .int .u64 s1, .int .i64 s2, .int .i64 s3, .int .i64 s4, .slice Ah n ch, .int .u64 a]) ?hg ?ho ?hn ?hr ?_; (case ho => rfl); (case hg => rfl); (case hn => rfl); (case hr => first | (go_simp; done) | (go_simp; rfl)); intro ws1 hw; clear zc0 zf0 zc1 zf1 zc2 zf2 zc3 zf3 zc4 zf4 zc5 zf5 zc6 zf6; (try clear p4_0 p4_1 p4_2 p4_3 p4_4 p4_5 p4_6 p5_0 p5_1 p5_2 p5_3 p5_4 p9_0 p9_1 p9_2 p9_3 p9_4 p9_5 p9_6); have n_B4 := Lib.hid (((by rw [hw]; exact blk_kept B4.out (setAll_kept [.int .u64 s0, .int .u64 s1, .int .i64 s2, .int .i64 s3, .int .i64 s4, .slice Ah n ch, .int .u64 a] 0 wb9) (fun e_ => Ne4_9.out e_)) : ws1.heap[g4]? = some (.cells #[.int .u64 s0, .int .u64 s1, .int .i64 s2, .int .i64 s3, .int .i64 s4, .slice A n c, .int .u64 a] 65 (0, 0)))); have n_B5 := Lib.hid (((by rw [hw]; exact blk_kept B5.out (setAll_kept [.int .u64 s0, .int .u64 s1, .int .i64 s2, .int .i64 s3, .int .i64 s4, .slice Ah n ch, .int .u64 a] 0 wb9) (fun e_ => Ne5_9.out e_)) : ws1.heap[g5]? = some (.cells #[.int .u64 b0, .int .u64 b1, .int .i64 b2, .int .i64 b3, .int .i64 b4] 26 (0, 0)))); have n_B9 := Lib.hid (((by rw [hw]; exact setAll_box [.int .u64 s0, .int .u64 s1, .int .i64 s2, .int .i64 s3, .int .i64 s4, .slice Ah n ch, .int .u64 a] B9.out rfl) : ws1.heap[g9]? = some (.cells #[.int .u64 s0, .int .u64 s1, .int .i64 s2, .int .i64 s3, .int .i64 s4, .slice Ah n ch, .int .u64 a] 65 (0, 0)))); have n_HG := Lib.hid ((by rw [hw]; exact Kd.R_kept HG.out (setAll_kept [.int .u64 s0, .int .u64 s1, .int .i64 s2, .int .i64 s3, .int .i64 s4, .slice Ah n ch, .int .u64 a] 0 wb9) (fun k hk => (by first | exact hk | exact hk.1 | exact hk.2 | exact hk.2.1 | exact hk.2.2)) : Kd.R O2 28 ws1 w.heap.size (fun k => k ≠ g9) (.slice Ah n ch) l)); have n_HB := Lib.hid ((by rw [hw]; exact setAll_below Eg9.out [.int .u64 s0, .int .u64 s1, .int .i64 s2, .int .i64 s3, .int .i64 s4, .slice Ah n ch, .int .u64 a] 0 wb9 HB.out : Below w.heap.size w ws1)); clear B4 B5 B9 HG HB; have B4 := n_B4; have B5 := n_B5; have B9 := n_B9; have HG := n_HG; have HB := n_HB; clear n_B4 n_B5 n_B9 n_HG n_HB; clear hw; have p4_0 := (blk_cell B4.out 0).trans rfl; have p4_1 := (blk_cell B4.out 1).trans rfl; have p4_2 := (blk_cell B4.out 2).trans rfl; have p4_3 := (blk_cell B4.out 3).trans rfl; have p4_4 := (blk_cell B4.out 4).trans rfl; have p4_5 := (blk_cell B4.out 5).trans rfl; have p4_6 := (blk_cell B4.out 6).trans rfl; have p5_0 := (blk_cell B5.out 0).trans rfl; have p5_1 := (blk_cell B5.out 1).trans rfl; have p5_2 := (blk_cell B5.out 2).trans rfl; have p5_3 := (blk_cell B5.out 3).trans rfl; have p5_4 := (blk_cell B5.out 4).trans rfl; have p9_0 := (blk_cell B9.out 0).trans rfl; have p9_1 := (blk_cell B9.out 1).trans rfl; have p9_2 := (blk_cell B9.out 2).trans rfl; have p9_3 := (blk_cell B9.out 3).trans rfl; have p9_4 := (blk_cell B9.out 4).trans rfl; have p9_5 := (blk_cell B9.out 5).trans rfl; have p9_6 := (blk_cell B9.out 6).trans rfl; skip)
    | (go_at_call 19; refine (HC1.out _ HB.out).mono ?_; rintro e w4 ⟨v6, rfl, hn_, hb⟩; have HU := Lib.hid (Kd.N_lower (Kd.N_mono (ok' := fun _ => True) hn_ (fun _ _ => trivial)) HB.out.size); obtain ⟨Au, cu, eh⟩ := Kd.N_slice HU.out; rw [← HM6.out] at eh; subst eh; (try clear p4_0 p4_1 p4_2 p4_3 p4_4 p4_5 p4_6 p5_0 p5_1 p5_2 p5_3 p5_4 p9_0 p9_1 p9_2 p9_3 p9_4 p9_5 p9_6); have n_B4 := Lib.hid (blk_below B4.out hb); have n_B5 := Lib.hid (blk_below B5.out hb); have n_B9 := Lib.hid (blk_below B9.out hb); have n_HG := Lib.hid (Kd.R_below HG.out hb); have n_HB := Lib.hid (below_step HB.out hb); clear B4 B5 B9 HG HB; have B4 := n_B4; have B5 := n_B5; have B9 := n_B9; have HG := n_HG; have HB := n_HB; clear n_B4 n_B5 n_B9 n_HG n_HB; have p4_0 := (blk_cell B4.out 0).trans rfl; have p4_1 := (blk_cell B4.out 1).trans rfl; have p4_2 := (blk_cell B4.out 2).trans rfl; have p4_3 := (blk_cell B4.out 3).trans rfl; have p4_4 := (blk_cell B4.out 4).trans rfl; have p4_5 := (blk_cell B4.out 5).trans rfl; have p4_6 := (blk_cell B4.out 6).trans rfl; have p5_0 := (blk_cell B5.out 0).trans rfl; have p5_1 := (blk_cell B5.out 1).trans rfl; have p5_2 := (blk_cell B5.out 2).trans rfl; have p5_3 := (blk_cell B5.out 3).trans rfl; have p5_4 := (blk_cell B5.out 4).trans rfl; have p9_0 := (blk_cell B9.out 0).trans rfl; have p9_1 := (blk_cell B9.out 1).trans rfl; have p9_2 := (blk_cell B9.out 2).trans rfl; have p9_3 := (blk_cell B9.out 3).trans rfl; have p9_4 := (blk_cell B9.out 4).trans rfl; have p9_5 := (blk_cell B9.out 5).trans rfl; have p9_6 := (blk_cell B9.out 6).trans rfl; clear hb hn_; skip)
    | ((with_reducible refine gate_dst (N := 10) rfl ?_); refine box_event ?hg (N := 10) ?hd (cs := #[.int .u64 0, .int .u64 0, .int .i64 0, .int .i64 0, .int .i64 0, .slice none 0 0, .int .u64 0]) (t := 65) ?hr ?_; (case hd => rfl); (case hg => rfl); (case hr => first | (go_simp; done) | (go_simp; rfl)); intro g10 hg wb10 hbx hb; have Eg10 := Lib.hid (show w.heap.size ≤ g10 by rw [hg]; exact HB.out.size); have Ne4_10 := Lib.hid (show ¬ g4 = g10 by rw [hg]; have := blk_lt B4.out; omega); have Ne5_10 := Lib.hid (show ¬ g5 = g10 by rw [hg]; have := blk_lt B5.out; omega); have Ne9_10 := Lib.hid (show ¬ g9 = g10 by rw [hg]; have := blk_lt B9.out; omega); (try clear p4_0 p4_1 p4_2 p4_3 p4_4 p4_5 p4_6 p5_0 p5_1 p5_2 p5_3 p5_4 p9_0 p9_1 p9_2 p9_3 p9_4 p9_5 p9_6); have n_B4 := Lib.hid (blk_below B4.out hb); have n_B5 := Lib.hid (blk_below B5.out hb); have n_B9 := Lib.hid (blk_below B9.out hb); have n_HG := Lib.hid (Kd.R_mono (ok' := (fun k => k ≠ g9 ∧ k ≠ g10)) (Kd.R_below (Kd.R_elderB HG.out g10 (Nat.le_of_eq hg.symm)) hb) (fun k hk => hk)); have n_HU := Lib.hid (Kd.N_mono (ok' := (fun k => k ≠ g10)) (Kd.N_below (Kd.N_elderB HU.out g10 (Nat.le_of_eq hg.symm)) hb) (fun k hk => hk.2)); have n_HB := Lib.hid (below_step HB.out hb); clear B4 B5 B9 HG HU HB; have B4 := n_B4; have B5 := n_B5; have B9 := n_B9; have HG := n_HG; have HU := n_HU; have HB := n_HB; clear n_B4 n_B5 n_B9 n_HG n_HU n_HB; have p4_0 := (blk_cell B4.out 0).trans rfl; have p4_1 := (blk_cell B4.out 1).trans rfl; have p4_2 := (blk_cell B4.out 2).trans rfl; have p4_3 := (blk_cell B4.out 3).trans rfl; have p4_4 := (blk_cell B4.out 4).trans rfl; have p4_5 := (blk_cell B4.out 5).trans rfl; have p4_6 := (blk_cell B4.out 6).trans rfl; have p5_0 := (blk_cell B5.out 0).trans rfl; have p5_1 := (blk_cell B5.out 1).trans rfl; have p5_2 := (blk_cell B5.out 2).trans rfl; have p5_3 := (blk_cell B5.out 3).trans rfl; have p5_4 := (blk_cell B5.out 4).trans rfl; have p9_0 := (blk_cell B9.out 0).trans rfl; have p9_1 := (blk_cell B9.out 1).trans rfl; have p9_2 := (blk_cell B9.out 2).trans rfl; have p9_3 := (blk_cell B9.out 3).trans rfl; have p9_4 := (blk_cell B9.out 4).trans rfl; have p9_5 := (blk_cell B9.out 5).trans rfl; have p9_6 := (blk_cell B9.out 6).trans rfl; have B10 := Lib.hid hbx; clear hg hbx hb; have l10 := blk_lt B10.out)
    | ((with_reducible refine gate_store (t := 65) (p := 10) rfl ?_); have zc0 := (blk_cell B10.out 0).trans rfl; have zf0 := blk_frozen B10.out 0; have zc1 := (blk_cell B10.out 1).trans rfl; have zf1 := blk_frozen B10.out 1; have zc2 := (blk_cell B10.out 2).trans rfl; have zf2 := blk_frozen B10.out 2; have zc3 := (blk_cell B10.out 3).trans rfl; have zf3 := blk_frozen B10.out 3; have zc4 := (blk_cell B10.out 4).trans rfl; have zf4 := blk_frozen B10.out 4; have zc5 := (blk_cell B10.out 5).trans rfl; have zf5 := blk_frozen B10.out 5; have zc6 := (blk_cell B10.out 6).trans rfl; have zf6 := blk_frozen B10.out 6; refine store_event (t := 65) (p := 10) (v := ?vows2) (w1 := setAll wb10 g10 0 [.int .u64 r1, .int .u64 r2, .int .i64 r3, .int .i64 r4, .int .i64 r5, .slice Au m6 cu, .int .u64 r7]) ?hg ?ho ?hn ?hr ?_; (case ho => rfl); (case hg => rfl); (case hn => rfl); (case hr => first | (go_simp; done) | (go_simp; rfl)); intro ws2 hw; clear zc0 zf0 zc1 zf1 zc2 zf2 zc3 zf3 zc4 zf4 zc5 zf5 zc6 zf6; (try clear p4_0 p4_1 p4_2 p4_3 p4_4 p4_5 p4_6 p5_0 p5_1 p5_2 p5_3 p5_4 p9_0 p9_1 p9_2 p9_3 p9_4 p9_5 p9_6 p10_0 p10_1 p10_2 p10_3 p10_4 p10_5 p10_6); have n_B4 := Lib.hid (((by rw [hw]; exact blk_kept B4.out (setAll_kept [.int .u64 r1, .int .u64 r2, .int .i64 r3, .int .i64 r4, .int .i64 r5, .slice Au m6 cu, .int .u64 r7] 0 wb10) (fun e_ => Ne4_10.out e_)) : ws2.heap[g4]? = some (.cells #[.int .u64 s0, .int .u64 s1, .int .i64 s2, .int .i64 s3, .int .i64 s4, .slice A n c, .int .u64 a] 65 (0, 0)))); have n_B5 := Lib.hid (((by rw [hw]; exact blk_kept B5.out (setAll_kept [.int .u64 r1, .int .u64 r2, .int .i64 r3, .int .i64 r4, .int .i64 r5, .slice Au m6 cu, .int .u64 r7] 0 wb10) (fun e_ => Ne5_10.out e_)) : ws2.heap[g5]? = some (.cells #[.int .u64 b0, .int .u64 b1, .int .i64 b2, .int .i64 b3, .int .i64 b4] 26 (0, 0)))); have n_B9 := Lib.hid (((by rw [hw]; exact blk_kept B9.out (setAll_kept [.int .u64 r1, .int .u64 r2, .int .i64 r3, .int .i64 r4, .int .i64 r5, .slice Au m6 cu, .int .u64 r7] 0 wb10) (fun e_ => Ne9_10.out e_)) : ws2.heap[g9]? = some (.cells #[.int .u64 s0, .int .u64 s1, .int .i64 s2, .int .i64 s3, .int .i64 s4, .slice Ah n ch, .int .u64 a] 65 (0, 0)))); have n_B10 := Lib.hid (((by rw [hw]; exact setAll_box [.int .u64 r1, .int .u64 r2, .int .i64 r3, .int .i64 r4, .int .i64 r5, .slice Au m6 cu, .int .u64 r7] B10.out rfl) : ws2.heap[g10]? = some (.cells #[.int .u64 r1, .int .u64 r2, .int .i64 r3, .int .i64 r4, .int .i64 r5, .slice Au m6 cu, .int .u64 r7] 65 (0, 0)))); have n_HG := Lib.hid ((by rw [hw]; exact Kd.R_kept HG.out (setAll_kept [.int .u64 r1, .int .u64 r2, .int .i64 r3, .int .i64 r4, .int .i64 r5, .slice Au m6 cu, .int .u64 r7] 0 wb10) (fun k hk => (by first | exact hk | exact hk.1 | exact hk.2 | exact hk.2.1 | exact hk.2.2)) : Kd.R O2 28 ws2 w.heap.size (fun k => k ≠ g9 ∧ k ≠ g10) (.slice Ah n ch) l)); have n_HU := Lib.hid ((by rw [hw]; exact Kd.N_kept HU.out (setAll_kept [.int .u64 r1, .int .u64 r2, .int .i64 r3, .int .i64 r4, .int .i64 r5, .slice Au m6 cu, .int .u64 r7] 0 wb10) (fun k hk => (by first | exact hk | exact hk.1 | exact hk.2 | exact hk.2.1 | exact hk.2.2)) : Kd.N O2 28 ws2 w.heap.size (fun k => k ≠ g10) (.slice Au m6 cu) r6)); have n_HB := Lib.hid ((by rw [hw]; exact setAll_below Eg10.out [.int .u64 r1, .int .u64 r2, .int .i64 r3, .int .i64 r4, .int .i64 r5, .slice Au m6 cu, .int .u64 r7] 0 wb10 HB.out : Below w.heap.size w ws2)); clear B4 B5 B9 B10 HG HU HB; have B4 := n_B4; have B5 := n_B5; have B9 := n_B9; have B10 := n_B10; have HG := n_HG; have HU := n_HU; have HB := n_HB; clear n_B4 n_B5 n_B9 n_B10 n_HG n_HU n_HB; clear hw; have p4_0 := (blk_cell B4.out 0).trans rfl; have p4_1 := (blk_cell B4.out 1).trans rfl; have p4_2 := (blk_cell B4.out 2).trans rfl; have p4_3 := (blk_cell B4.out 3).trans rfl; have p4_4 := (blk_cell B4.out 4).trans rfl; have p4_5 := (blk_cell B4.out 5).trans rfl; have p4_6 := (blk_cell B4.out 6).trans rfl; have p5_0 := (blk_cell B5.out 0).trans rfl; have p5_1 := (blk_cell B5.out 1).trans rfl; have p5_2 := (blk_cell B5.out 2).trans rfl; have p5_3 := (blk_cell B5.out 3).trans rfl; have p5_4 := (blk_cell B5.out 4).trans rfl; have p9_0 := (blk_cell B9.out 0).trans rfl; have p9_1 := (blk_cell B9.out 1).trans rfl; have p9_2 := (blk_cell B9.out 2).trans rfl; have p9_3 := (blk_cell B9.out 3).trans rfl; have p9_4 := (blk_cell B9.out 4).trans rfl; have p9_5 := (blk_cell B9.out 5).trans rfl; have p9_6 := (blk_cell B9.out 6).trans rfl; have p10_0 := (blk_cell B10.out 0).trans rfl; have p10_1 := (blk_cell B10.out 1).trans rfl; have p10_2 := (blk_cell B10.out 2).trans rfl; have p10_3 := (blk_cell B10.out 3).trans rfl; have p10_4 := (blk_cell B10.out 4).trans rfl; have p10_5 := (blk_cell B10.out 5).trans rfl; have p10_6 := (blk_cell B10.out 6).trans rfl; skip)
    | (go_at_call 23; refine (HC2.out _ HB.out).mono ?_; rintro e w4 ⟨v6, rfl, hn_, hb⟩; have HV := Lib.hid (Kd.N_lower (Kd.N_mono (ok' := fun _ => True) hn_ (fun _ _ => trivial)) HB.out.size); obtain ⟨Av, cv, eh⟩ := Kd.N_slice HV.out; rw [← HM6.out] at eh; subst eh; (try clear p4_0 p4_1 p4_2 p4_3 p4_4 p4_5 p4_6 p5_0 p5_1 p5_2 p5_3 p5_4 p9_0 p9_1 p9_2 p9_3 p9_4 p9_5 p9_6 p10_0 p10_1 p10_2 p10_3 p10_4 p10_5 p10_6); have n_B4 := Lib.hid (blk_below B4.out hb); have n_B5 := Lib.hid (blk_below B5.out hb); have n_B9 := Lib.hid (blk_below B9.out hb); have n_B10 := Lib.hid (blk_below B10.out hb); have n_HG := Lib.hid (Kd.R_below HG.out hb); have n_HU := Lib.hid (Kd.N_below HU.out hb); have n_HB := Lib.hid (below_step HB.out hb); clear B4 B5 B9 B10 HG HU HB; have B4 := n_B4; have B5 := n_B5; have B9 := n_B9; have B10 := n_B10; have HG := n_HG; have HU := n_HU; have HB := n_HB; clear n_B4 n_B5 n_B9 n_B10 n_HG n_HU n_HB; have p4_0 := (blk_cell B4.out 0).trans rfl; have p4_1 := (blk_cell B4.out 1).trans rfl; have p4_2 := (blk_cell B4.out 2).trans rfl; have p4_3 := (blk_cell B4.out 3).trans rfl; have p4_4 := (blk_cell B4.out 4).trans rfl; have p4_5 := (blk_cell B4.out 5).trans rfl; have p4_6 := (blk_cell B4.out 6).trans rfl; have p5_0 := (blk_cell B5.out 0).trans rfl; have p5_1 := (blk_cell B5.out 1).trans rfl; have p5_2 := (blk_cell B5.out 2).trans rfl; have p5_3 := (blk_cell B5.out 3).trans rfl; have p5_4 := (blk_cell B5.out 4).trans rfl; have p9_0 := (blk_cell B9.out 0).trans rfl; have p9_1 := (blk_cell B9.out 1).trans rfl; have p9_2 := (blk_cell B9.out 2).trans rfl; have p9_3 := (blk_cell B9.out 3).trans rfl; have p9_4 := (blk_cell B9.out 4).trans rfl; have p9_5 := (blk_cell B9.out 5).trans rfl; have p9_6 := (blk_cell B9.out 6).trans rfl; have p10_0 := (blk_cell B10.out 0).trans rfl; have p10_1 := (blk_cell B10.out 1).trans rfl; have p10_2 := (blk_cell B10.out 2).trans rfl; have p10_3 := (blk_cell B10.out 3).trans rfl; have p10_4 := (blk_cell B10.out 4).trans rfl; have p10_5 := (blk_cell B10.out 5).trans rfl; have p10_6 := (blk_cell B10.out 6).trans rfl; clear hb hn_; skip)
    | ((with_reducible refine gate_dst (N := 12) rfl ?_); refine box_event ?hg (N := 12) ?hd (cs := #[.int .u64 0, .int .u64 0, .int .i64 0, .int .i64 0, .int .i64 0, .slice none 0 0, .int .u64 0]) (t := 65) ?hr ?_; (case hd => rfl); (case hg => rfl); (case hr => first | (go_simp; done) | (go_simp; rfl)); intro g12 hg wb12 hbx hb; have Eg12 := Lib.hid (show w.heap.size ≤ g12 by rw [hg]; exact HB.out.size); have Ne4_12 := Lib.hid (show ¬ g4 = g12 by rw [hg]; have := blk_lt B4.out; omega); have Ne5_12 := Lib.hid (show ¬ g5 = g12 by rw [hg]; have := blk_lt B5.out; omega); have Ne9_12 := Lib.hid (show ¬ g9 = g12 by rw [hg]; have := blk_lt B9.out; omega); have Ne10_12 := Lib.hid (show ¬ g10 = g12 by rw [hg]; have := blk_lt B10.out; omega); (try clear p4_0 p4_1 p4_2 p4_3 p4_4 p4_5 p4_6 p5_0 p5_1 p5_2 p5_3 p5_4 p9_0 p9_1 p9_2 p9_3 p9_4 p9_5 p9_6 p10_0 p10_1 p10_2 p10_3 p10_4 p10_5 p10_6); have n_B4 := Lib.hid (blk_below B4.out hb); have n_B5 := Lib.hid (blk_below B5.out hb); have n_B9 := Lib.hid (blk_below B9.out hb); have n_B10 := Lib.hid (blk_below B10.out hb); have n_HG := Lib.hid (Kd.R_mono (ok' := (fun k => (k ≠ g9 ∧ k ≠ g10) ∧ k ≠ g12)) (Kd.R_below (Kd.R_elderB HG.out g12 (Nat.le_of_eq hg.symm)) hb) (fun k hk => hk)); have n_HU := Lib.hid (Kd.N_mono (ok' := (fun k => k ≠ g10 ∧ k ≠ g12)) (Kd.N_below (Kd.N_elderB HU.out g12 (Nat.le_of_eq hg.symm)) hb) (fun k hk => hk)); have n_HV := Lib.hid (Kd.N_mono (ok' := (fun k => k ≠ g12)) (Kd.N_below (Kd.N_elderB HV.out g12 (Nat.le_of_eq hg.symm)) hb) (fun k hk => hk.2)); have n_HB := Lib.hid (below_step HB.out hb); clear B4 B5 B9 B10 HG HU HV HB; have B4 := n_B4; have B5 := n_B5; have B9 := n_B9; have B10 := n_B10; have HG := n_HG; have HU := n_HU; have HV := n_HV; have HB := n_HB; clear n_B4 n_B5 n_B9 n_B10 n_HG n_HU n_HV n_HB; have p4_0 := (blk_cell B4.out 0).trans rfl; have p4_1 := (blk_cell B4.out 1).trans rfl; have p4_2 := (blk_cell B4.out 2).trans rfl; have p4_3 := (blk_cell B4.out 3).trans rfl; have p4_4 := (blk_cell B4.out 4).trans rfl; have p4_5 := (blk_cell B4.out 5).trans rfl; have p4_6 := (blk_cell B4.out 6).trans rfl; have p5_0 := (blk_cell B5.out 0).trans rfl; have p5_1 := (blk_cell B5.out 1).trans rfl; have p5_2 := (blk_cell B5.out 2).trans rfl; have p5_3 := (blk_cell B5.out 3).trans rfl; have p5_4 := (blk_cell B5.out 4).trans rfl; have p9_0 := (blk_cell B9.out 0).trans rfl; have p9_1 := (blk_cell B9.out 1).trans rfl; have p9_2 := (blk_cell B9.out 2).trans rfl; have p9_3 := (blk_cell B9.out 3).trans rfl; have p9_4 := (blk_cell B9.out 4).trans rfl; have p9_5 := (blk_cell B9.out 5).trans rfl; have p9_6 := (blk_cell B9.out 6).trans rfl; have p10_0 := (blk_cell B10.out 0).trans rfl; have p10_1 := (blk_cell B10.out 1).trans rfl; have p10_2 := (blk_cell B10.out 2).trans rfl; have p10_3 := (blk_cell B10.out 3).trans rfl; have p10_4 := (blk_cell B10.out 4).trans rfl; have p10_5 := (blk_cell B10.out 5).trans rfl; have p10_6 := (blk_cell B10.out 6).trans rfl; have B12 := Lib.hid hbx; clear hg hbx hb; have l12 := blk_lt B12.out)
    | ((with_reducible refine gate_store (t := 65) (p := 12) rfl ?_); have zc0 := (blk_cell B12.out 0).trans rfl; have zf0 := blk_frozen B12.out 0; have zc1 := (blk_cell B12.out 1).trans rfl; have zf1 := blk_frozen B12.out 1; have zc2 := (blk_cell B12.out 2).trans rfl; have zf2 := blk_frozen B12.out 2; have zc3 := (blk_cell B12.out 3).trans rfl; have zf3 := blk_frozen B12.out 3; have zc4 := (blk_cell B12.out 4).trans rfl; have zf4 := blk_frozen B12.out 4; have zc5 := (blk_cell B12.out 5).trans rfl; have zf5 := blk_frozen B12.out 5; have zc6 := (blk_cell B12.out 6).trans rfl; have zf6 := blk_frozen B12.out 6; refine store_event (t := 65) (p := 12) (v := ?vows3) (w1 := setAll wb12 g12 0 [.int .u64 r1, .int .u64 r2, .int .i64 r3, .int .i64 r4, .int .i64 r5, .slice Av m6 cv, .int .u64 r7]) ?hg ?ho ?hn ?hr ?_; (case ho => rfl); (case hg => rfl); (case hn => rfl); (case hr => first | (go_simp; done) | (go_simp; rfl)); intro ws3 hw; clear zc0 zf0 zc1 zf1 zc2 zf2 zc3 zf3 zc4 zf4 zc5 zf5 zc6 zf6; (try clear p4_0 p4_1 p4_2 p4_3 p4_4 p4_5 p4_6 p5_0 p5_1 p5_2 p5_3 p5_4 p9_0 p9_1 p9_2 p9_3 p9_4 p9_5 p9_6 p10_0 p10_1 p10_2 p10_3 p10_4 p10_5 p10_6 p12_0 p12_1 p12_2 p12_3 p12_4 p12_5 p12_6); have n_B4 := Lib.hid (((by rw [hw]; exact blk_kept B4.out (setAll_kept [.int .u64 r1, .int .u64 r2, .int .i64 r3, .int .i64 r4, .int .i64 r5, .slice Av m6 cv, .int .u64 r7] 0 wb12) (fun e_ => Ne4_12.out e_)) : ws3.heap[g4]? = some (.cells #[.int .u64 s0, .int .u64 s1, .int .i64 s2, .int .i64 s3, .int .i64 s4, .slice A n c, .int .u64 a] 65 (0, 0)))); have n_B5 := Lib.hid (((by rw [hw]; exact blk_kept B5.out (setAll_kept [.int .u64 r1, .int .u64 r2, .int .i64 r3, .int .i64 r4, .int .i64 r5, .slice Av m6 cv, .int .u64 r7] 0 wb12) (fun e_ => Ne5_12.out e_)) : ws3.heap[g5]? = some (.cells #[.int .u64 b0, .int .u64 b1, .int .i64 b2, .int .i64 b3, .int .i64 b4] 26 (0, 0)))); have n_B9 := Lib.hid (((by rw [hw]; exact blk_kept B9.out (setAll_kept [.int .u64 r1, .int .u64 r2, .int .i64 r3, .int .i64 r4, .int .i64 r5, .slice Av m6 cv, .int .u64 r7] 0 wb12) (fun e_ => Ne9_12.out e_)) : ws3.heap[g9]? = some (.cells #[.int .u64 s0, .int .u64 s1, .int .i64 s2, .int .i64 s3, .int .i64 s4, .slice Ah n ch, .int .u64 a] 65 (0, 0)))); have n_B10 := Lib.hid (((by rw [hw]; exact blk_kept B10.out (setAll_kept [.int .u64 r1, .int .u64 r2, .int .i64 r3, .int .i64 r4, .int .i64 r5, .slice Av m6 cv, .int .u64 r7] 0 wb12) (fun e_ => Ne10_12.out e_)) : ws3.heap[g10]? = some (.cells #[.int .u64 r1, .int .u64 r2, .int .i64 r3, .int .i64 r4, .int .i64 r5, .slice Au m6 cu, .int .u64 r7] 65 (0, 0)))); have n_B12 := Lib.hid (((by rw [hw]; exact setAll_box [.int .u64 r1, .int .u64 r2, .int .i64 r3, .int .i64 r4, .int .i64 r5, .slice Av m6 cv, .int .u64 r7] B12.out rfl) : ws3.heap[g12]? = some (.cells #[.int .u64 r1, .int .u64 r2, .int .i64 r3, .int .i64 r4, .int .i64 r5, .slice Av m6 cv, .int .u64 r7] 65 (0, 0)))); have n_HG := Lib.hid ((by rw [hw]; exact Kd.R_kept HG.out (setAll_kept [.int .u64 r1, .int .u64 r2, .int .i64 r3, .int .i64 r4, .int .i64 r5, .slice Av m6 cv, .int .u64 r7] 0 wb12) (fun k hk => (by first | exact hk | exact hk.1 | exact hk.2 | exact hk.2.1 | exact hk.2.2)) : Kd.R O2 28 ws3 w.heap.size (fun k => (k ≠ g9 ∧ k ≠ g10) ∧ k ≠ g12) (.slice Ah n ch) l)); have n_HU := Lib.hid ((by rw [hw]; exact Kd.N_kept HU.out (setAll_kept [.int .u64 r1, .int .u64 r2, .int .i64 r3, .int .i64 r4, .int .i64 r5, .slice Av m6 cv, .int .u64 r7] 0 wb12) (fun k hk => (by first | exact hk | exact hk.1 | exact hk.2 | exact hk.2.1 | exact hk.2.2)) : Kd.N O2 28 ws3 w.heap.size (fun k => k ≠ g10 ∧ k ≠ g12) (.slice Au m6 cu) r6)); have n_HV := Lib.hid ((by rw [hw]; exact Kd.N_kept HV.out (setAll_kept [.int .u64 r1, .int .u64 r2, .int .i64 r3, .int .i64 r4, .int .i64 r5, .slice Av m6 cv, .int .u64 r7] 0 wb12) (fun k hk => (by first | exact hk | exact hk.1 | exact hk.2 | exact hk.2.1 | exact hk.2.2)) : Kd.N O2 28 ws3 w.heap.size (fun k => k ≠ g12) (.slice Av m6 cv) r6)); have n_HB := Lib.hid ((by rw [hw]; exact setAll_below Eg12.out [.int .u64 r1, .int .u64 r2, .int .i64 r3, .int .i64 r4, .int .i64 r5, .slice Av m6 cv, .int .u64 r7] 0 wb12 HB.out : Below w.heap.size w ws3)); clear B4 B5 B9 B10 B12 HG HU HV HB; have B4 := n_B4; have B5 := n_B5; have B9 := n_B9; have B10 := n_B10; have B12 := n_B12; have HG := n_HG; have HU := n_HU; have HV := n_HV; have HB := n_HB; clear n_B4 n_B5 n_B9 n_B10 n_B12 n_HG n_HU n_HV n_HB; clear hw; have p4_0 := (blk_cell B4.out 0).trans rfl; have p4_1 := (blk_cell B4.out 1).trans rfl; have p4_2 := (blk_cell B4.out 2).trans rfl; have p4_3 := (blk_cell B4.out 3).trans rfl; have p4_4 := (blk_cell B4.out 4).trans rfl; have p4_5 := (blk_cell B4.out 5).trans rfl; have p4_6 := (blk_cell B4.out 6).trans rfl; have p5_0 := (blk_cell B5.out 0).trans rfl; have p5_1 := (blk_cell B5.out 1).trans rfl; have p5_2 := (blk_cell B5.out 2).trans rfl; have p5_3 := (blk_cell B5.out 3).trans rfl; have p5_4 := (blk_cell B5.out 4).trans rfl; have p9_0 := (blk_cell B9.out 0).trans rfl; have p9_1 := (blk_cell B9.out 1).trans rfl; have p9_2 := (blk_cell B9.out 2).trans rfl; have p9_3 := (blk_cell B9.out 3).trans rfl; have p9_4 := (blk_cell B9.out 4).trans rfl; have p9_5 := (blk_cell B9.out 5).trans rfl; have p9_6 := (blk_cell B9.out 6).trans rfl; have p10_0 := (blk_cell B10.out 0).trans rfl; have p10_1 := (blk_cell B10.out 1).trans rfl; have p10_2 := (blk_cell B10.out 2).trans rfl; have p10_3 := (blk_cell B10.out 3).trans rfl; have p10_4 := (blk_cell B10.out 4).trans rfl; have p10_5 := (blk_cell B10.out 5).trans rfl; have p10_6 := (blk_cell B10.out 6).trans rfl; have p12_0 := (blk_cell B12.out 0).trans rfl; have p12_1 := (blk_cell B12.out 1).trans rfl; have p12_2 := (blk_cell B12.out 2).trans rfl; have p12_3 := (blk_cell B12.out 3).trans rfl; have p12_4 := (blk_cell B12.out 4).trans rfl; have p12_5 := (blk_cell B12.out 5).trans rfl; have p12_6 := (blk_cell B12.out 6).trans rfl; skip)
    | (go_at_call 24; refine (HSD.out _ _ Ah ch (Kd.N_V (Kd.R_N HG.out))).mono ?_; rintro e w5 ⟨v0, rfl, hm_, hb⟩; have HM := Lib.hid (Kd.N_lower (Kd.N_mono (ok' := fun _ => True) hm_ (fun _ _ => trivial)) HB.out.size); obtain ⟨Am, cm, em⟩ := Kd.N_slice HM.out; rw [← HML.out] at em; subst em; (try clear p4_0 p4_1 p4_2 p4_3 p4_4 p4_5 p4_6 p5_0 p5_1 p5_2 p5_3 p5_4 p9_0 p9_1 p9_2 p9_3 p9_4 p9_5 p9_6 p10_0 p10_1 p10_2 p10_3 p10_4 p10_5 p10_6 p12_0 p12_1 p12_2 p12_3 p12_4 p12_5 p12_6); have n_B4 := Lib.hid (blk_below B4.out hb); have n_B5 := Lib.hid (blk_below B5.out hb); have n_B9 := Lib.hid (blk_below B9.out hb); have n_B10 := Lib.hid (blk_below B10.out hb); have n_B12 := Lib.hid (blk_below B12.out hb); have n_HG := Lib.hid (Kd.R_below HG.out hb); have n_HU := Lib.hid (Kd.N_below HU.out hb); have n_HV := Lib.hid (Kd.N_below HV.out hb); have n_HB := Lib.hid (below_step HB.out hb); clear B4 B5 B9 B10 B12 HG HU HV HB; have B4 := n_B4; have B5 := n_B5; have B9 := n_B9; have B10 := n_B10; have B12 := n_B12; have HG := n_HG; have HU := n_HU; have HV := n_HV; have HB := n_HB; clear n_B4 n_B5 n_B9 n_B10 n_B12 n_HG n_HU n_HV n_HB; have p4_0 := (blk_cell B4.out 0).trans rfl; have p4_1 := (blk_cell B4.out 1).trans rfl; have p4_2 := (blk_cell B4.out 2).trans rfl; have p4_3 := (blk_cell B4.out 3).trans rfl; have p4_4 := (blk_cell B4.out 4).trans rfl; have p4_5 := (blk_cell B4.out 5).trans rfl; have p4_6 := (blk_cell B4.out 6).trans rfl; have p5_0 := (blk_cell B5.out 0).trans rfl; have p5_1 := (blk_cell B5.out 1).trans rfl; have p5_2 := (blk_cell B5.out 2).trans rfl; have p5_3 := (blk_cell B5.out 3).trans rfl; have p5_4 := (blk_cell B5.out 4).trans rfl; have p9_0 := (blk_cell B9.out 0).trans rfl; have p9_1 := (blk_cell B9.out 1).trans rfl; have p9_2 := (blk_cell B9.out 2).trans rfl; have p9_3 := (blk_cell B9.out 3).trans rfl; have p9_4 := (blk_cell B9.out 4).trans rfl; have p9_5 := (blk_cell B9.out 5).trans rfl; have p9_6 := (blk_cell B9.out 6).trans rfl; have p10_0 := (blk_cell B10.out 0).trans rfl; have p10_1 := (blk_cell B10.out 1).trans rfl; have p10_2 := (blk_cell B10.out 2).trans rfl; have p10_3 := (blk_cell B10.out 3).trans rfl; have p10_4 := (blk_cell B10.out 4).trans rfl; have p10_5 := (blk_cell B10.out 5).trans rfl; have p10_6 := (blk_cell B10.out 6).trans rfl; have p12_0 := (blk_cell B12.out 0).trans rfl; have p12_1 := (blk_cell B12.out 1).trans rfl; have p12_2 := (blk_cell B12.out 2).trans rfl; have p12_3 := (blk_cell B12.out 3).trans rfl; have p12_4 := (blk_cell B12.out 4).trans rfl; have p12_5 := (blk_cell B12.out 5).trans rfl; have p12_6 := (blk_cell B12.out 6).trans rfl; clear hb hm_; skip)
    | (go_at_call 25; refine (HSR.out _ HB.out).mono ?_; rintro e w6 ⟨v1, rfl, hm_, hb⟩; have HN := Lib.hid (Kd.R_lower (Kd.R_mono (ok' := fun _ => True) hm_ (fun _ _ => trivial)) HB.out.size); obtain ⟨Bm, dm, em⟩ := Kd.R_slice HN.out; rw [← HML.out] at em; subst em; (try clear p4_0 p4_1 p4_2 p4_3 p4_4 p4_5 p4_6 p5_0 p5_1 p5_2 p5_3 p5_4 p9_0 p9_1 p9_2 p9_3 p9_4 p9_5 p9_6 p10_0 p10_1 p10_2 p10_3 p10_4 p10_5 p10_6 p12_0 p12_1 p12_2 p12_3 p12_4 p12_5 p12_6); have n_B4 := Lib.hid (blk_below B4.out hb); have n_B5 := Lib.hid (blk_below B5.out hb); have n_B9 := Lib.hid (blk_below B9.out hb); have n_B10 := Lib.hid (blk_below B10.out hb); have n_B12 := Lib.hid (blk_below B12.out hb); have n_HG := Lib.hid (Kd.R_below HG.out hb); have n_HU := Lib.hid (Kd.N_below HU.out hb); have n_HV := Lib.hid (Kd.N_below HV.out hb); have n_HM := Lib.hid (Kd.N_below HM.out hb); have n_HB := Lib.hid (below_step HB.out hb); clear B4 B5 B9 B10 B12 HG HU HV HM HB; have B4 := n_B4; have B5 := n_B5; have B9 := n_B9; have B10 := n_B10; have B12 := n_B12; have HG := n_HG; have HU := n_HU; have HV := n_HV; have HM := n_HM; have HB := n_HB; clear n_B4 n_B5 n_B9 n_B10 n_B12 n_HG n_HU n_HV n_HM n_HB; have p4_0 := (blk_cell B4.out 0).trans rfl; have p4_1 := (blk_cell B4.out 1).trans rfl; have p4_2 := (blk_cell B4.out 2).trans rfl; have p4_3 := (blk_cell B4.out 3).trans rfl; have p4_4 := (blk_cell B4.out 4).trans rfl; have p4_5 := (blk_cell B4.out 5).trans rfl; have p4_6 := (blk_cell B4.out 6).trans rfl; have p5_0 := (blk_cell B5.out 0).trans rfl; have p5_1 := (blk_cell B5.out 1).trans rfl; have p5_2 := (blk_cell B5.out 2).trans rfl; have p5_3 := (blk_cell B5.out 3).trans rfl; have p5_4 := (blk_cell B5.out 4).trans rfl; have p9_0 := (blk_cell B9.out 0).trans rfl; have p9_1 := (blk_cell B9.out 1).trans rfl; have p9_2 := (blk_cell B9.out 2).trans rfl; have p9_3 := (blk_cell B9.out 3).trans rfl; have p9_4 := (blk_cell B9.out 4).trans rfl; have p9_5 := (blk_cell B9.out 5).trans rfl; have p9_6 := (blk_cell B9.out 6).trans rfl; have p10_0 := (blk_cell B10.out 0).trans rfl; have p10_1 := (blk_cell B10.out 1).trans rfl; have p10_2 := (blk_cell B10.out 2).trans rfl; have p10_3 := (blk_cell B10.out 3).trans rfl; have p10_4 := (blk_cell B10.out 4).trans rfl; have p10_5 := (blk_cell B10.out 5).trans rfl; have p10_6 := (blk_cell B10.out 6).trans rfl; have p12_0 := (blk_cell B12.out 0).trans rfl; have p12_1 := (blk_cell B12.out 1).trans rfl; have p12_2 := (blk_cell B12.out 2).trans rfl; have p12_3 := (blk_cell B12.out 3).trans rfl; have p12_4 := (blk_cell B12.out 4).trans rfl; have p12_5 := (blk_cell B12.out 5).trans rfl; have p12_6 := (blk_cell B12.out 6).trans rfl; clear hb hm_; skip)
    | (go_at_call 12; refine (potsherdlaw13_lives.calls true _ rfl).mono ?_; rintro e w7 ⟨rfl, hb⟩; (try clear p4_0 p4_1 p4_2 p4_3 p4_4 p4_5 p4_6 p5_0 p5_1 p5_2 p5_3 p5_4 p9_0 p9_1 p9_2 p9_3 p9_4 p9_5 p9_6 p10_0 p10_1 p10_2 p10_3 p10_4 p10_5 p10_6 p12_0 p12_1 p12_2 p12_3 p12_4 p12_5 p12_6); have n_B4 := Lib.hid (blk_below B4.out hb); have n_B5 := Lib.hid (blk_below B5.out hb); have n_B9 := Lib.hid (blk_below B9.out hb); have n_B10 := Lib.hid (blk_below B10.out hb); have n_B12 := Lib.hid (blk_below B12.out hb); have n_HG := Lib.hid (Kd.R_below HG.out hb); have n_HU := Lib.hid (Kd.N_below HU.out hb); have n_HV := Lib.hid (Kd.N_below HV.out hb); have n_HM := Lib.hid (Kd.N_below HM.out hb); have n_HN := Lib.hid (Kd.R_below HN.out hb); have n_HB := Lib.hid (below_step HB.out hb); clear B4 B5 B9 B10 B12 HG HU HV HM HN HB; have B4 := n_B4; have B5 := n_B5; have B9 := n_B9; have B10 := n_B10; have B12 := n_B12; have HG := n_HG; have HU := n_HU; have HV := n_HV; have HM := n_HM; have HN := n_HN; have HB := n_HB; clear n_B4 n_B5 n_B9 n_B10 n_B12 n_HG n_HU n_HV n_HM n_HN n_HB; have p4_0 := (blk_cell B4.out 0).trans rfl; have p4_1 := (blk_cell B4.out 1).trans rfl; have p4_2 := (blk_cell B4.out 2).trans rfl; have p4_3 := (blk_cell B4.out 3).trans rfl; have p4_4 := (blk_cell B4.out 4).trans rfl; have p4_5 := (blk_cell B4.out 5).trans rfl; have p4_6 := (blk_cell B4.out 6).trans rfl; have p5_0 := (blk_cell B5.out 0).trans rfl; have p5_1 := (blk_cell B5.out 1).trans rfl; have p5_2 := (blk_cell B5.out 2).trans rfl; have p5_3 := (blk_cell B5.out 3).trans rfl; have p5_4 := (blk_cell B5.out 4).trans rfl; have p9_0 := (blk_cell B9.out 0).trans rfl; have p9_1 := (blk_cell B9.out 1).trans rfl; have p9_2 := (blk_cell B9.out 2).trans rfl; have p9_3 := (blk_cell B9.out 3).trans rfl; have p9_4 := (blk_cell B9.out 4).trans rfl; have p9_5 := (blk_cell B9.out 5).trans rfl; have p9_6 := (blk_cell B9.out 6).trans rfl; have p10_0 := (blk_cell B10.out 0).trans rfl; have p10_1 := (blk_cell B10.out 1).trans rfl; have p10_2 := (blk_cell B10.out 2).trans rfl; have p10_3 := (blk_cell B10.out 3).trans rfl; have p10_4 := (blk_cell B10.out 4).trans rfl; have p10_5 := (blk_cell B10.out 5).trans rfl; have p10_6 := (blk_cell B10.out 6).trans rfl; have p12_0 := (blk_cell B12.out 0).trans rfl; have p12_1 := (blk_cell B12.out 1).trans rfl; have p12_2 := (blk_cell B12.out 2).trans rfl; have p12_3 := (blk_cell B12.out 3).trans rfl; have p12_4 := (blk_cell B12.out 4).trans rfl; have p12_5 := (blk_cell B12.out 5).trans rfl; have p12_6 := (blk_cell B12.out 6).trans rfl; clear hb)
    | (go_at_call 26; refine (HS1.out _ Au Av cu cv (by have h_ := (Kd.N_reads' HU.out).2.2; rw [← HM6.out] at h_; exact h_) (Kd.N_reads' HU.out).2.1 (by have h_ := (Kd.N_reads' HV.out).2.2; rw [← HM6.out] at h_; exact h_) (Kd.N_reads' HV.out).2.1).mono ?_; rintro e w8 ⟨rfl, hb⟩; (try clear p4_0 p4_1 p4_2 p4_3 p4_4 p4_5 p4_6 p5_0 p5_1 p5_2 p5_3 p5_4 p9_0 p9_1 p9_2 p9_3 p9_4 p9_5 p9_6 p10_0 p10_1 p10_2 p10_3 p10_4 p10_5 p10_6 p12_0 p12_1 p12_2 p12_3 p12_4 p12_5 p12_6); have n_B4 := Lib.hid (blk_below B4.out hb); have n_B5 := Lib.hid (blk_below B5.out hb); have n_B9 := Lib.hid (blk_below B9.out hb); have n_B10 := Lib.hid (blk_below B10.out hb); have n_B12 := Lib.hid (blk_below B12.out hb); have n_HG := Lib.hid (Kd.R_below HG.out hb); have n_HU := Lib.hid (Kd.N_below HU.out hb); have n_HV := Lib.hid (Kd.N_below HV.out hb); have n_HM := Lib.hid (Kd.N_below HM.out hb); have n_HN := Lib.hid (Kd.R_below HN.out hb); have n_HB := Lib.hid (below_step HB.out hb); clear B4 B5 B9 B10 B12 HG HU HV HM HN HB; have B4 := n_B4; have B5 := n_B5; have B9 := n_B9; have B10 := n_B10; have B12 := n_B12; have HG := n_HG; have HU := n_HU; have HV := n_HV; have HM := n_HM; have HN := n_HN; have HB := n_HB; clear n_B4 n_B5 n_B9 n_B10 n_B12 n_HG n_HU n_HV n_HM n_HN n_HB; have p4_0 := (blk_cell B4.out 0).trans rfl; have p4_1 := (blk_cell B4.out 1).trans rfl; have p4_2 := (blk_cell B4.out 2).trans rfl; have p4_3 := (blk_cell B4.out 3).trans rfl; have p4_4 := (blk_cell B4.out 4).trans rfl; have p4_5 := (blk_cell B4.out 5).trans rfl; have p4_6 := (blk_cell B4.out 6).trans rfl; have p5_0 := (blk_cell B5.out 0).trans rfl; have p5_1 := (blk_cell B5.out 1).trans rfl; have p5_2 := (blk_cell B5.out 2).trans rfl; have p5_3 := (blk_cell B5.out 3).trans rfl; have p5_4 := (blk_cell B5.out 4).trans rfl; have p9_0 := (blk_cell B9.out 0).trans rfl; have p9_1 := (blk_cell B9.out 1).trans rfl; have p9_2 := (blk_cell B9.out 2).trans rfl; have p9_3 := (blk_cell B9.out 3).trans rfl; have p9_4 := (blk_cell B9.out 4).trans rfl; have p9_5 := (blk_cell B9.out 5).trans rfl; have p9_6 := (blk_cell B9.out 6).trans rfl; have p10_0 := (blk_cell B10.out 0).trans rfl; have p10_1 := (blk_cell B10.out 1).trans rfl; have p10_2 := (blk_cell B10.out 2).trans rfl; have p10_3 := (blk_cell B10.out 3).trans rfl; have p10_4 := (blk_cell B10.out 4).trans rfl; have p10_5 := (blk_cell B10.out 5).trans rfl; have p10_6 := (blk_cell B10.out 6).trans rfl; have p12_0 := (blk_cell B12.out 0).trans rfl; have p12_1 := (blk_cell B12.out 1).trans rfl; have p12_2 := (blk_cell B12.out 2).trans rfl; have p12_3 := (blk_cell B12.out 3).trans rfl; have p12_4 := (blk_cell B12.out 4).trans rfl; have p12_5 := (blk_cell B12.out 5).trans rfl; have p12_6 := (blk_cell B12.out 6).trans rfl; clear hb))
  have HG' := Lib.hid (Kd.R_mono (ok' := fun _ => True) HG.out (fun _ _ => trivial))
  go_loopw [70] (fun vi wr => ∃ j : Nat, vi = .int .i64 j ∧ j ≤ m ∧ Hid (wr.heap[g4]? = some (.cells #[.int .u64 s0, .int .u64 s1, .int .i64 s2, .int .i64 s3, .int .i64 s4, .slice A n c, .int .u64 a] 65 (0, 0))) ∧ Hid (wr.heap[g5]? = some (.cells #[.int .u64 b0, .int .u64 b1, .int .i64 b2, .int .i64 b3, .int .i64 b4] 26 (0, 0))) ∧ Hid (wr.heap[g9]? = some (.cells #[.int .u64 s0, .int .u64 s1, .int .i64 s2, .int .i64 s3, .int .i64 s4, .slice Ah n ch, .int .u64 a] 65 (0, 0))) ∧ Hid (Kd.R O2 28 wr w.heap.size (fun _ => True) (.slice Ah n ch) l) ∧ Hid (Kd.N k52 52 wr w.heap.size (fun _ => True) (.slice Am m cm) ms) ∧ Hid (Kd.R k52 52 wr w.heap.size (fun _ => True) (.slice Bm m dm) ms) ∧ Hid (Below w.heap.size w wr)) (fun vi _ => m - (intOf vi).toNat)
  case atStart => exact ⟨0, rfl, Nat.zero_le _, B4, B5, B9, HG', HM, HN, HB⟩
  case round =>
    (try clear p4_0 p4_1 p4_2 p4_3 p4_4 p4_5 p4_6 p5_0 p5_1 p5_2 p5_3 p5_4 p9_0 p9_1 p9_2 p9_3 p9_4 p9_5 p9_6 p10_0 p10_1 p10_2 p10_3 p10_4 p10_5 p10_6 p12_0 p12_1 p12_2 p12_3 p12_4 p12_5 p12_6); skip
    clear B4 B5 B9 HG HG' HM HN HB B10 B12 HU HV
    obtain ⟨j, rfl, hj, B4, B5, B9, HG, HM, HN, HB⟩ := hrel
    by_cases hlt : j < m
    · have hjj : (j : Int) < (m : Int) := by omega
      have hj0 : (0 : Int) ≤ (j : Int) := by omega
      obtain ⟨sq, lst, rw_, em, hfr⟩ := HE.out j hlt
      obtain ⟨ab, ao, cs, eA, hK_, hR_⟩ := msg_at (base := w.heap.size) (Kd.N_V HM.out) j (by rw [← HML.out]; exact hlt)
      obtain ⟨bb, bo, ds, eB, hK2_, hR2_⟩ := msg_at (base := w.heap.size) (Kd.N_V (Kd.R_N HN.out)) j (by rw [← HML.out]; exact hlt)
      rw [em] at hK_ hK2_
      subst eA eB
      obtain ⟨X12, X13, X14, X16, X17, X18, X26, X32, X35, X36, X39, X44, X45, X46, x12, x13, x14, x16, x17, x18, x26, x32, x35, x36, x39, x44, x45, x46, ec, lc39, fc39⟩ := msg_lit hK_
      obtain ⟨Y12, Y13, Y14, Y16, Y17, Y18, Y26, Y32, Y35, Y36, Y39, Y44, Y45, Y46, y12, y13, y14, y16, y17, y18, y26, y32, y35, y36, y39, y44, y45, y46, ed, ld39, fd39⟩ := msg_lit hK2_
      have lc : cs.length = 47 := by rw [ec]; rfl
      have ld : ds.length = 47 := by rw [ed]; rfl
      have LC := Lib.hid lc
      have LD := Lib.hid ld
      have EC := Lib.hid ec
      have ED := Lib.hid ed
      have FC := Lib.hid (Kd.F_now fc39)
      have FD := Lib.hid (Kd.F_now fd39)
      have RC := Lib.hid hR_
      have RD := Lib.hid hR2_
      have LL := Lib.hid (And.intro lc39 ld39)
      have HFR := Lib.hid hfr
      clear hK_ hK2_ hR_ hR2_ ec ed lc39 ld39 fc39 fd39 lc ld hfr em
      go_wp2
      refine start_ (n := 10) (S := fun w' => w'.rangeAt ab (ao + j * 47) cs ∧ w'.rangeAt bb (bo + j * 47) ds) (ds := [8]) #[false, false, false, false, false, false, false, false, false, false] (by kernel_rfl) rfl rfl ⟨(World.rangeAt_drew _ _ _ _).2 RC.out, (World.rangeAt_drew _ _ _ _).2 RD.out⟩ (fun hHeld => ?_)
      generalize hw8 : World.drew _ = wd at hHeld ⊢
      have n_B4 := Lib.hid (show wd.heap[g4]? = some (.cells #[.int .u64 s0, .int .u64 s1, .int .i64 s2, .int .i64 s3, .int .i64 s4, .slice A n c, .int .u64 a] 65 (0, 0)) from (by rw [← hw8]; exact blk_drew B4.out))
      have n_B5 := Lib.hid (show wd.heap[g5]? = some (.cells #[.int .u64 b0, .int .u64 b1, .int .i64 b2, .int .i64 b3, .int .i64 b4] 26 (0, 0)) from (by rw [← hw8]; exact blk_drew B5.out))
      have n_B9 := Lib.hid (show wd.heap[g9]? = some (.cells #[.int .u64 s0, .int .u64 s1, .int .i64 s2, .int .i64 s3, .int .i64 s4, .slice Ah n ch, .int .u64 a] 65 (0, 0)) from (by rw [← hw8]; exact blk_drew B9.out))
      have n_HG := Lib.hid (show Kd.R O2 28 wd w.heap.size (fun _ => True) (.slice Ah n ch) l from (by rw [← hw8]; exact Kd.R_drew HG.out))
      have n_HM := Lib.hid (show Kd.N k52 52 wd w.heap.size (fun _ => True) (.slice (some ⟨ab, ao, none⟩) m cm) ms from (by rw [← hw8]; exact Kd.N_drew HM.out))
      have n_HN := Lib.hid (show Kd.R k52 52 wd w.heap.size (fun _ => True) (.slice (some ⟨bb, bo, none⟩) m dm) ms from (by rw [← hw8]; exact Kd.R_drew HN.out))
      have n_HB := Lib.hid (show Below w.heap.size w wd from (by rw [← hw8]; exact below_drew1 HB.out))
      have n_FC := Lib.hid (show Kd.C (Kd.slice 112 k112) wd X39 rw_.length rw_ from (by rw [← hw8]; exact Kd.C_drew FC.out))
      have n_FD := Lib.hid (show Kd.C (Kd.slice 112 k112) wd Y39 rw_.length rw_ from (by rw [← hw8]; exact Kd.C_drew FD.out))
      clear B4 B5 B9 HG HM HN HB FC FD
      have B4 := n_B4
      have B5 := n_B5
      have B9 := n_B9
      have HG := n_HG
      have HM := n_HM
      have HN := n_HN
      have HB := n_HB
      have FC := n_FC
      have FD := n_FD
      clear n_B4 n_B5 n_B9 n_HG n_HM n_HN n_HB n_FC n_FD
      clear hw8
      refine pure_ (i := 0) (N := some 73) (v := ?_) (a' := ?_) #[true, false, false, false, false, false, false, false, false, false] rfl rfl (by kernel_rfl) (fun _ _ _ h => h) (Or.inl ⟨by rfl, ?_⟩) ?_ ?_
      rotate_left
      · intro w'
        go_simp
        with_reducible rfl
      rotate_left
      · simp only [Act.put, List.setIfInBounds_toArray, List.set_cons_zero, List.set_cons_succ, i64_w, i32_w]
        rfl
      refine pure_ (i := 1) (N := some 74) (v := ?_) (a' := ?_) #[true, true, false, false, false, false, false, false, false, false] rfl rfl (by kernel_rfl) (fun _ _ _ h => h) (Or.inl ⟨by rfl, ?_⟩) ?_ ?_
      rotate_left
      · intro w'
        go_simp
        with_reducible rfl
      rotate_left
      · simp only [Act.put, List.setIfInBounds_toArray, List.set_cons_zero, List.set_cons_succ, i64_w, i32_w]
        rfl
      refine pure_ (i := 2) (N := some 75) (v := ?_) (a' := ?_) #[true, true, true, false, false, false, false, false, false, false] rfl rfl (by kernel_rfl) (fun _ _ _ h => h) (Or.inl ⟨by rfl, ?_⟩) ?_ ?_
      rotate_left
      · intro w'
        go_simp
        with_reducible rfl
      rotate_left
      · simp only [Act.put, List.setIfInBounds_toArray, List.set_cons_zero, List.set_cons_succ, i64_w, i32_w]
        rfl
      refine take_ (i := 3) (N := some 76) (v := .agg cs.toArray) (a' := ?aa76) #[true, true, true, true, false, false, false, false, false, false] rfl rfl (by kernel_rfl) (fun _ _ _ h => h) ?yy76 hHeld ?pp76 ?nn76
      case yy76 => exact yieldsIf_load_mid (by rfl) 52 (.tmp 75) (by rfl) ab (ao + j * 47) (by rfl) _ _ (fun w' s_ => s_.1) Try.underlying52 rfl (by rw [LC.out]; kernel_rfl)
      case pp76 =>
        simp only [Act.put, List.setIfInBounds_toArray, List.set_cons_zero, List.set_cons_succ, i64_w, i32_w]
        rfl
      refine pure_ (i := 4) (N := some 77) (v := ?_) (a' := ?_) #[true, true, true, true, true, false, false, false, false, false] rfl rfl (by kernel_rfl) (fun _ _ _ h => h) (Or.inl ⟨by rfl, ?_⟩) ?_ ?_
      rotate_left
      · intro w'
        go_simp
        with_reducible rfl
      rotate_left
      · simp only [Act.put, List.setIfInBounds_toArray, List.set_cons_zero, List.set_cons_succ, i64_w, i32_w]
        rfl
      refine pure_ (i := 5) (N := some 78) (v := ?_) (a' := ?_) #[true, true, true, true, true, true, false, false, false, false] rfl rfl (by kernel_rfl) (fun _ _ _ h => h) (Or.inl ⟨by rfl, ?_⟩) ?_ ?_
      rotate_left
      · intro w'
        go_simp
        with_reducible rfl
      rotate_left
      · simp only [Act.put, List.setIfInBounds_toArray, List.set_cons_zero, List.set_cons_succ, i64_w, i32_w]
        rfl
      refine pure_ (i := 6) (N := some 79) (v := ?_) (a' := ?_) #[true, true, true, true, true, true, true, false, false, false] rfl rfl (by kernel_rfl) (fun _ _ _ h => h) (Or.inl ⟨by rfl, ?_⟩) ?_ ?_
      rotate_left
      · intro w'
        go_simp
        with_reducible rfl
      rotate_left
      · simp only [Act.put, List.setIfInBounds_toArray, List.set_cons_zero, List.set_cons_succ, i64_w, i32_w]
        rfl
      refine take_ (i := 7) (N := some 80) (v := .agg ds.toArray) (a' := ?aa80) #[true, true, true, true, true, true, true, true, false, false] rfl rfl (by kernel_rfl) (fun _ _ _ h => h) ?yy80 hHeld ?pp80 ?nn80
      case yy80 => exact yieldsIf_load_mid (by rfl) 52 (.tmp 79) (by rfl) bb (bo + j * 47) (by rfl) _ _ (fun w' s_ => s_.2) Try.underlying52 rfl (by rw [LD.out]; kernel_rfl)
      case pp80 =>
        simp only [Act.put, List.setIfInBounds_toArray, List.set_cons_zero, List.set_cons_succ, i64_w, i32_w]
        rfl
      refine last_ (i := 8) (N := some 81) #[true, true, true, true, true, true, true, true, true, false] rfl rfl (by kernel_rfl) (by decide) (fun K hK => ?_)
      have ec := EC.out
      have ed := ED.out
      clear EC ED
      subst ec ed
      refine goes_ Try.func16 (by kernel_rfl) rfl #[.agg #[.int .u8 4, .int .u64 0, .int .u64 s0, .int .u64 s1, .int .i64 s2, .int .i64 s3, .int .i64 s4, .string (⟨#[]⟩ : ByteArray), .string (⟨#[]⟩ : ByteArray), .int .i64 0, .int .i64 0, .int .i64 0, .slice X12 0 x12, .slice X13 0 x13, .slice X14 0 x14, .bool false, .slice X16 0 x16, .slice X17 0 x17, .slice X18 0 x18, .int .i64 0, .int .i64 0, .int .u8 0, .string (⟨#[]⟩ : ByteArray), .int .u64 0, .int .u64 0, .int .i64 0, .slice X26 0 x26, .int .u8 0, .string (⟨#[]⟩ : ByteArray), .int .u64 0, .int .u64 0, .int .i64 0, .slice X32 0 x32, .bool false, .int .i64 0, .slice X35 0 x35, .slice X36 0 x36, .int .u64 sq, .bool lst, .slice X39 rw_.length x39, .string (⟨#[]⟩ : ByteArray), .int .u64 0, .int .u64 0, .int .i64 0, .slice X44 0 x44, .slice X45 0 x45, .slice X46 0 x46], .agg #[.int .u8 4, .int .u64 0, .int .u64 s0, .int .u64 s1, .int .i64 s2, .int .i64 s3, .int .i64 s4, .string (⟨#[]⟩ : ByteArray), .string (⟨#[]⟩ : ByteArray), .int .i64 0, .int .i64 0, .int .i64 0, .slice Y12 0 y12, .slice Y13 0 y13, .slice Y14 0 y14, .bool false, .slice Y16 0 y16, .slice Y17 0 y17, .slice Y18 0 y18, .int .i64 0, .int .i64 0, .int .u8 0, .string (⟨#[]⟩ : ByteArray), .int .u64 0, .int .u64 0, .int .i64 0, .slice Y26 0 y26, .int .u8 0, .string (⟨#[]⟩ : ByteArray), .int .u64 0, .int .u64 0, .int .i64 0, .slice Y32 0 y32, .bool false, .int .i64 0, .slice Y35 0 y35, .slice Y36 0 y36, .int .u64 sq, .bool lst, .slice Y39 rw_.length y39, .string (⟨#[]⟩ : ByteArray), .int .u64 0, .int .u64 0, .int .i64 0, .slice Y44 0 y44, .slice Y45 0 y45, .slice Y46 0 y46]] (by rfl) rfl rfl (by (try simp only [List.map_toArray, List.map_cons, List.map_nil]); first | done | rfl) ?_
      refine (same16 (4398046511106 + rw_.length) _ _ _ _ _ _ _ _ _ _ _ _ _ _ _ _ _ _ _ _ _ _ _ _ _ _ _ _ _ _ _ _ _ _ _ _ _ _ _ _ _ _ _ _ _ _ _ _ _ _ _ _ _ _ _ _ _ _ _ _ _ _ _ _ rw_.length rw_ wd rfl FC.out LL.out.1 FD.out LL.out.2 (same_fit _ rw_ HFR.out (Nat.le_refl _))).mono ?_
      rintro e wo ⟨rfl, hb⟩
      refine ⟨_, rfl, ?_⟩
      have n_B4 := Lib.hid (show wo.heap[g4]? = some (.cells #[.int .u64 s0, .int .u64 s1, .int .i64 s2, .int .i64 s3, .int .i64 s4, .slice A n c, .int .u64 a] 65 (0, 0)) from (blk_below B4.out hb))
      have n_B5 := Lib.hid (show wo.heap[g5]? = some (.cells #[.int .u64 b0, .int .u64 b1, .int .i64 b2, .int .i64 b3, .int .i64 b4] 26 (0, 0)) from (blk_below B5.out hb))
      have n_B9 := Lib.hid (show wo.heap[g9]? = some (.cells #[.int .u64 s0, .int .u64 s1, .int .i64 s2, .int .i64 s3, .int .i64 s4, .slice Ah n ch, .int .u64 a] 65 (0, 0)) from (blk_below B9.out hb))
      have n_HG := Lib.hid (show Kd.R O2 28 wo w.heap.size (fun _ => True) (.slice Ah n ch) l from (Kd.R_below HG.out hb))
      have n_HM := Lib.hid (show Kd.N k52 52 wo w.heap.size (fun _ => True) (.slice (some ⟨ab, ao, none⟩) m cm) ms from (Kd.N_below HM.out hb))
      have n_HN := Lib.hid (show Kd.R k52 52 wo w.heap.size (fun _ => True) (.slice (some ⟨bb, bo, none⟩) m dm) ms from (Kd.R_below HN.out hb))
      have n_HB := Lib.hid (show Below w.heap.size w wo from (below_step HB.out hb))
      clear B4 B5 B9 HG HM HN HB
      have B4 := n_B4
      have B5 := n_B5
      have B9 := n_B9
      have HG := n_HG
      have HM := n_HM
      have HN := n_HN
      have HB := n_HB
      clear n_B4 n_B5 n_B9 n_HG n_HM n_HN n_HB
      clear hb
      refine hK.out _ _ ?_
      clear hK K hHeld
      refine norm_ (a' := ?_) ?_ ?_
      rotate_left
      · show Act.put _ (some 81) _ = _
        simp only [Act.put, List.setIfInBounds_toArray, List.set_cons_zero, List.set_cons_succ, i64_w, i32_w]
        rfl
      refine pure_ (i := 9) (N := some 82) (v := ?_) (a' := ?_) #[true, true, true, true, true, true, true, true, true, true] rfl rfl (by kernel_rfl) (fun _ _ _ h => h) (Or.inl ⟨by rfl, ?_⟩) ?_ ?_
      rotate_left
      · intro w'
        go_simp
        with_reducible rfl
      rotate_left
      · simp only [Act.put, List.setIfInBounds_toArray, List.set_cons_zero, List.set_cons_succ, i64_w, i32_w]
        rfl
      refine done_ (by kernel_rfl) ?_
      go_wp2
      have hm4 := HM4.out
      exact ⟨⟨j + 1, by rw [v64 (by omega)], hlt, B4, B5, B9, HG, HM, HN, HB⟩, by rw [v64 (by omega)]; simp [intOf]; omega⟩
    · have hjj : ¬ ((j : Int) < (m : Int)) := by omega
      clear hlt HM HN hj
      go_wp2
      refine start_ (n := 22) (S := fun w' => w'.rangeAt g4 0 [.int .u64 s0, .int .u64 s1, .int .i64 s2, .int .i64 s3, .int .i64 s4, .slice A n c, .int .u64 a] ∧ w'.rangeAt g5 0 [.int .u64 b0, .int .u64 b1, .int .i64 b2, .int .i64 b3, .int .i64 b4] ∧ w'.rangeAt g9 0 [.int .u64 s0, .int .u64 s1, .int .i64 s2, .int .i64 s3, .int .i64 s4, .slice Ah n ch, .int .u64 a]) (ds := []) #[false, false, false, false, false, false, false, false, false, false, false, false, false, false, false, false, false, false, false, false, false, false] (by kernel_rfl) rfl rfl ⟨range_of (blk_drew B4.out) 0 _ (by rfl), range_of (blk_drew B5.out) 0 _ (by rfl), range_of (blk_drew B9.out) 0 _ (by rfl)⟩ (fun hHeld => ?_)
      generalize hw8 : World.drew _ = wd at hHeld ⊢
      have n_B4 := Lib.hid (show wd.heap[g4]? = some (.cells #[.int .u64 s0, .int .u64 s1, .int .i64 s2, .int .i64 s3, .int .i64 s4, .slice A n c, .int .u64 a] 65 (0, 0)) from (by rw [← hw8]; exact blk_drew B4.out))
      have n_B5 := Lib.hid (show wd.heap[g5]? = some (.cells #[.int .u64 b0, .int .u64 b1, .int .i64 b2, .int .i64 b3, .int .i64 b4] 26 (0, 0)) from (by rw [← hw8]; exact blk_drew B5.out))
      have n_B9 := Lib.hid (show wd.heap[g9]? = some (.cells #[.int .u64 s0, .int .u64 s1, .int .i64 s2, .int .i64 s3, .int .i64 s4, .slice Ah n ch, .int .u64 a] 65 (0, 0)) from (by rw [← hw8]; exact blk_drew B9.out))
      have n_HG := Lib.hid (show Kd.R O2 28 wd w.heap.size (fun _ => True) (.slice Ah n ch) l from (by rw [← hw8]; exact Kd.R_drew HG.out))
      have n_HB := Lib.hid (show Below w.heap.size w wd from (by rw [← hw8]; exact below_drew1 HB.out))
      clear B4 B5 B9 HG HB
      have B4 := n_B4
      have B5 := n_B5
      have B9 := n_B9
      have HG := n_HG
      have HB := n_HB
      clear n_B4 n_B5 n_B9 n_HG n_HB
      clear hw8
      refine take_ (i := 0) (N := some 84) (v := .agg (List.toArray [.int .u64 s0, .int .u64 s1, .int .i64 s2, .int .i64 s3, .int .i64 s4, .slice Ah n ch, .int .u64 a])) (a' := ?aa84) #[true, false, false, false, false, false, false, false, false, false, false, false, false, false, false, false, false, false, false, false, false, false] rfl rfl (by kernel_rfl) (fun _ _ _ h => h) ?yy84 hHeld ?pp84 ?nn84
      case yy84 => exact yieldsIf_load_mid (by rfl) 65 (.tmp 9) (by rfl) g9 0 (by rfl) _ _ (fun w' s_ => s_.2.2) Try.underlying65 rfl (by kernel_rfl)
      case pp84 =>
        simp only [Act.put, List.setIfInBounds_toArray, List.set_cons_zero, List.set_cons_succ, i64_w, i32_w]
        rfl
      refine take_ (i := 1) (N := some 85) (v := .agg (List.toArray [.int .u64 b0, .int .u64 b1, .int .i64 b2, .int .i64 b3, .int .i64 b4])) (a' := ?aa85) #[true, true, false, false, false, false, false, false, false, false, false, false, false, false, false, false, false, false, false, false, false, false] rfl rfl (by kernel_rfl) (fun _ _ _ h => h) ?yy85 hHeld ?pp85 ?nn85
      case yy85 => exact yieldsIf_load_mid (by rfl) 26 (.tmp 5) (by rfl) g5 0 (by rfl) _ _ (fun w' s_ => s_.2.1) Try.underlying26 rfl (by kernel_rfl)
      case pp85 =>
        simp only [Act.put, List.setIfInBounds_toArray, List.set_cons_zero, List.set_cons_succ, i64_w, i32_w]
        rfl
      refine pure_ (i := 2) (N := some 86) (v := ?_) (a' := ?_) #[true, true, true, false, false, false, false, false, false, false, false, false, false, false, false, false, false, false, false, false, false, false] rfl rfl (by kernel_rfl) (fun _ _ _ h => h) (Or.inl ⟨by rfl, ?_⟩) ?_ ?_
      rotate_left
      · intro w'
        go_simp
        with_reducible rfl
      rotate_left
      · simp only [Act.put, List.setIfInBounds_toArray, List.set_cons_zero, List.set_cons_succ, i64_w, i32_w]
        rfl
      refine take_ (i := 4) (N := some 88) (v := .agg (List.toArray [.int .u64 s0, .int .u64 s1, .int .i64 s2, .int .i64 s3, .int .i64 s4, .slice A n c, .int .u64 a])) (a' := ?aa88) #[true, true, true, false, true, false, false, false, false, false, false, false, false, false, false, false, false, false, false, false, false, false] rfl rfl (by kernel_rfl) (fun _ _ _ h => h) ?yy88 hHeld ?pp88 ?nn88
      case yy88 => exact yieldsIf_load_mid (by rfl) 65 (.tmp 4) (by rfl) g4 0 (by rfl) _ _ (fun w' s_ => s_.1) Try.underlying65 rfl (by kernel_rfl)
      case pp88 =>
        simp only [Act.put, List.setIfInBounds_toArray, List.set_cons_zero, List.set_cons_succ, i64_w, i32_w]
        rfl
      refine take_ (i := 5) (N := some 89) (v := .agg (List.toArray [.int .u64 b0, .int .u64 b1, .int .i64 b2, .int .i64 b3, .int .i64 b4])) (a' := ?aa89) #[true, true, true, false, true, true, false, false, false, false, false, false, false, false, false, false, false, false, false, false, false, false] rfl rfl (by kernel_rfl) (fun _ _ _ h => h) ?yy89 hHeld ?pp89 ?nn89
      case yy89 => exact yieldsIf_load_mid (by rfl) 26 (.tmp 5) (by rfl) g5 0 (by rfl) _ _ (fun w' s_ => s_.2.1) Try.underlying26 rfl (by kernel_rfl)
      case pp89 =>
        simp only [Act.put, List.setIfInBounds_toArray, List.set_cons_zero, List.set_cons_succ, i64_w, i32_w]
        rfl
      refine pure_ (i := 6) (N := some 90) (v := ?_) (a' := ?_) #[true, true, true, false, true, true, true, false, false, false, false, false, false, false, false, false, false, false, false, false, false, false] rfl rfl (by kernel_rfl) (fun _ _ _ h => h) (Or.inl ⟨by rfl, ?_⟩) ?_ ?_
      rotate_left
      · intro w'
        go_simp
        with_reducible rfl
      rotate_left
      · simp only [Act.put, List.setIfInBounds_toArray, List.set_cons_zero, List.set_cons_succ, i64_w, i32_w]
        rfl
      refine one_ (i := 3) (N := some 87) #[true, true, true, true, true, true, true, false, false, false, false, false, false, false, false, false, false, false, false, false, false, false] rfl rfl (by kernel_rfl) (by decide) (fun K hK => ?_)
      clear hHeld
      refine goes_ Try.func27 (by kernel_rfl) rfl #[.agg #[.int .u64 s0, .int .u64 s1, .int .i64 s2, .int .i64 s3, .int .i64 s4, .slice Ah n ch, .int .u64 a], .agg #[.int .u64 b0, .int .u64 b1, .int .i64 b2, .int .i64 b3, .int .i64 b4], .int .u64 q] (by rfl) rfl rfl (by (try simp only [List.map_toArray, List.map_cons, List.map_nil]); first | done | rfl) ?_
      refine (HA1.out _ _ Ah ch (Kd.N_V (Kd.R_N HG.out))).mono ?_
      rintro e wo ⟨v5, rfl, hx_, hb⟩
      refine ⟨_, rfl, ?_⟩
      have HX := Lib.hid (Kd.N_lower (Kd.N_mono (ok' := fun _ => True) hx_ (fun _ _ => trivial)) HB.out.size)
      obtain ⟨Ax, cx, ex⟩ := Kd.N_slice HX.out
      rw [HL.out] at ex
      subst ex
      clear hx_
      have n_B4 := Lib.hid (show wo.heap[g4]? = some (.cells #[.int .u64 s0, .int .u64 s1, .int .i64 s2, .int .i64 s3, .int .i64 s4, .slice A n c, .int .u64 a] 65 (0, 0)) from (blk_below B4.out hb))
      have n_B5 := Lib.hid (show wo.heap[g5]? = some (.cells #[.int .u64 b0, .int .u64 b1, .int .i64 b2, .int .i64 b3, .int .i64 b4] 26 (0, 0)) from (blk_below B5.out hb))
      have n_B9 := Lib.hid (show wo.heap[g9]? = some (.cells #[.int .u64 s0, .int .u64 s1, .int .i64 s2, .int .i64 s3, .int .i64 s4, .slice Ah n ch, .int .u64 a] 65 (0, 0)) from (blk_below B9.out hb))
      have n_HG := Lib.hid (show Kd.R O2 28 wo w.heap.size (fun _ => True) (.slice Ah n ch) l from (Kd.R_below HG.out hb))
      have n_HB := Lib.hid (show Below w.heap.size w wo from (below_step HB.out hb))
      clear B4 B5 B9 HG HB
      have B4 := n_B4
      have B5 := n_B5
      have B9 := n_B9
      have HG := n_HG
      have HB := n_HB
      clear n_B4 n_B5 n_B9 n_HG n_HB
      clear hb
      refine hK.out _ _ ⟨range_of B4.out 0 _ (by rfl), range_of B5.out 0 _ (by rfl), range_of B9.out 0 _ (by rfl)⟩ (fun hHeld => ?_)
      clear hK K
      refine norm_ (a' := ?_) ?_ ?_
      rotate_left
      · show Act.put _ (some 87) _ = _
        simp only [Act.put, List.setIfInBounds_toArray, List.set_cons_zero, List.set_cons_succ, i64_w, i32_w]
        rfl
      refine one_ (i := 7) (N := some 91) #[true, true, true, true, true, true, true, true, false, false, false, false, false, false, false, false, false, false, false, false, false, false] rfl rfl (by kernel_rfl) (by decide) (fun K hK => ?_)
      clear hHeld
      refine goes_ Try.func28 (by kernel_rfl) rfl #[.agg #[.int .u64 s0, .int .u64 s1, .int .i64 s2, .int .i64 s3, .int .i64 s4, .slice A n c, .int .u64 a], .agg #[.int .u64 b0, .int .u64 b1, .int .i64 b2, .int .i64 b3, .int .i64 b4], .int .u64 q] (by rfl) rfl rfl (by (try simp only [List.map_toArray, List.map_cons, List.map_nil]); first | done | rfl) ?_
      refine (HA2.out _ HB.out).mono ?_
      rintro e wo ⟨v5, rfl, hy_, hb⟩
      refine ⟨_, rfl, ?_⟩
      have HY := Lib.hid (Kd.R_lower (Kd.R_mono (ok' := fun _ => True) hy_ (fun _ _ => trivial)) HB.out.size)
      obtain ⟨Ay, cy, ey⟩ := Kd.R_slice HY.out
      rw [HL.out] at ey
      subst ey
      clear hy_
      have n_B4 := Lib.hid (show wo.heap[g4]? = some (.cells #[.int .u64 s0, .int .u64 s1, .int .i64 s2, .int .i64 s3, .int .i64 s4, .slice A n c, .int .u64 a] 65 (0, 0)) from (blk_below B4.out hb))
      have n_B5 := Lib.hid (show wo.heap[g5]? = some (.cells #[.int .u64 b0, .int .u64 b1, .int .i64 b2, .int .i64 b3, .int .i64 b4] 26 (0, 0)) from (blk_below B5.out hb))
      have n_B9 := Lib.hid (show wo.heap[g9]? = some (.cells #[.int .u64 s0, .int .u64 s1, .int .i64 s2, .int .i64 s3, .int .i64 s4, .slice Ah n ch, .int .u64 a] 65 (0, 0)) from (blk_below B9.out hb))
      have n_HG := Lib.hid (show Kd.R O2 28 wo w.heap.size (fun _ => True) (.slice Ah n ch) l from (Kd.R_below HG.out hb))
      have n_HB := Lib.hid (show Below w.heap.size w wo from (below_step HB.out hb))
      have n_HX := Lib.hid (show Kd.N O2 28 wo w.heap.size (fun _ => True) (.slice Ax n cx) l from (Kd.N_below HX.out hb))
      clear B4 B5 B9 HG HB HX
      have B4 := n_B4
      have B5 := n_B5
      have B9 := n_B9
      have HG := n_HG
      have HB := n_HB
      have HX := n_HX
      clear n_B4 n_B5 n_B9 n_HG n_HB n_HX
      clear hb
      refine hK.out _ _ ⟨range_of B4.out 0 _ (by rfl), range_of B5.out 0 _ (by rfl), range_of B9.out 0 _ (by rfl)⟩ (fun hHeld => ?_)
      clear hK K
      refine norm_ (a' := ?_) ?_ ?_
      rotate_left
      · show Act.put _ (some 91) _ = _
        simp only [Act.put, List.setIfInBounds_toArray, List.set_cons_zero, List.set_cons_succ, i64_w, i32_w]
        rfl
      refine one_ (i := 8) (N := some 92) #[true, true, true, true, true, true, true, true, true, false, false, false, false, false, false, false, false, false, false, false, false, false] rfl rfl (by kernel_rfl) (by decide) (fun K hK => ?_)
      clear hHeld
      refine goes_ Try.func26 (by kernel_rfl) rfl #[.agg #[.int .u64 s0, .int .u64 s1, .int .i64 s2, .int .i64 s3, .int .i64 s4, .slice Ax n cx, .int .u64 aq], .agg #[.int .u64 s0, .int .u64 s1, .int .i64 s2, .int .i64 s3, .int .i64 s4, .slice Ay n cy, .int .u64 aq]] (by rfl) rfl rfl (by (try simp only [List.map_toArray, List.map_cons, List.map_nil]); first | done | rfl) ?_
      refine (HS2.out aq _ Ax Ay cx cy (by have h_ := (Kd.N_reads' HX.out).2.2; rw [HL.out] at h_; exact h_) (Kd.N_reads' HX.out).2.1 (by have h_ := (Kd.R_reads' HY.out).2.2; rw [HL.out] at h_; exact h_) (Kd.R_reads' HY.out).2.1).mono ?_
      rintro e wo ⟨rfl, hb⟩
      refine ⟨_, rfl, ?_⟩
      have n_B4 := Lib.hid (show wo.heap[g4]? = some (.cells #[.int .u64 s0, .int .u64 s1, .int .i64 s2, .int .i64 s3, .int .i64 s4, .slice A n c, .int .u64 a] 65 (0, 0)) from (blk_below B4.out hb))
      have n_B5 := Lib.hid (show wo.heap[g5]? = some (.cells #[.int .u64 b0, .int .u64 b1, .int .i64 b2, .int .i64 b3, .int .i64 b4] 26 (0, 0)) from (blk_below B5.out hb))
      have n_B9 := Lib.hid (show wo.heap[g9]? = some (.cells #[.int .u64 s0, .int .u64 s1, .int .i64 s2, .int .i64 s3, .int .i64 s4, .slice Ah n ch, .int .u64 a] 65 (0, 0)) from (blk_below B9.out hb))
      have n_HG := Lib.hid (show Kd.R O2 28 wo w.heap.size (fun _ => True) (.slice Ah n ch) l from (Kd.R_below HG.out hb))
      have n_HB := Lib.hid (show Below w.heap.size w wo from (below_step HB.out hb))
      clear B4 B5 B9 HG HB
      have B4 := n_B4
      have B5 := n_B5
      have B9 := n_B9
      have HG := n_HG
      have HB := n_HB
      clear n_B4 n_B5 n_B9 n_HG n_HB
      clear hb HX HY
      refine hK.out _ _ ⟨range_of B4.out 0 _ (by rfl), range_of B5.out 0 _ (by rfl), range_of B9.out 0 _ (by rfl)⟩ (fun hHeld => ?_)
      clear hK K
      refine norm_ (a' := ?_) ?_ ?_
      rotate_left
      · show Act.put _ (some 92) _ = _
        simp only [Act.put, List.setIfInBounds_toArray, List.set_cons_zero, List.set_cons_succ, i64_w, i32_w]
        rfl
      refine pure_ (i := 9) (N := some 93) (v := ?_) (a' := ?_) #[true, true, true, true, true, true, true, true, true, true, false, false, false, false, false, false, false, false, false, false, false, false] rfl rfl (by kernel_rfl) (fun _ _ _ h => h) (Or.inl ⟨by rfl, ?_⟩) ?_ ?_
      rotate_left
      · intro w'
        go_simp
        with_reducible rfl
      rotate_left
      · simp only [Act.put, List.setIfInBounds_toArray, List.set_cons_zero, List.set_cons_succ, i64_w, i32_w]
        rfl
      refine take_ (i := 10) (N := some 94) (v := .agg (List.toArray [.int .u64 s0, .int .u64 s1, .int .i64 s2, .int .i64 s3, .int .i64 s4, .slice Ah n ch, .int .u64 a])) (a' := ?aa94) #[true, true, true, true, true, true, true, true, true, true, true, false, false, false, false, false, false, false, false, false, false, false] rfl rfl (by kernel_rfl) (fun _ _ _ h => h) ?yy94 hHeld ?pp94 ?nn94
      case yy94 => exact yieldsIf_load_mid (by rfl) 65 (.tmp 9) (by rfl) g9 0 (by rfl) _ _ (fun w' s_ => s_.2.2) Try.underlying65 rfl (by kernel_rfl)
      case pp94 =>
        simp only [Act.put, List.setIfInBounds_toArray, List.set_cons_zero, List.set_cons_succ, i64_w, i32_w]
        rfl
      refine take_ (i := 12) (N := some 96) (v := .agg (List.toArray [.int .u64 s0, .int .u64 s1, .int .i64 s2, .int .i64 s3, .int .i64 s4, .slice A n c, .int .u64 a])) (a' := ?aa96) #[true, true, true, true, true, true, true, true, true, true, true, false, true, false, false, false, false, false, false, false, false, false] rfl rfl (by kernel_rfl) (fun _ _ _ h => h) ?yy96 hHeld ?pp96 ?nn96
      case yy96 => exact yieldsIf_load_mid (by rfl) 65 (.tmp 4) (by rfl) g4 0 (by rfl) _ _ (fun w' s_ => s_.1) Try.underlying65 rfl (by kernel_rfl)
      case pp96 =>
        simp only [Act.put, List.setIfInBounds_toArray, List.set_cons_zero, List.set_cons_succ, i64_w, i32_w]
        rfl
      refine one_ (i := 11) (N := some 95) #[true, true, true, true, true, true, true, true, true, true, true, true, true, false, false, false, false, false, false, false, false, false] rfl rfl (by kernel_rfl) (by decide) (fun K hK => ?_)
      clear hHeld
      refine goes_ Try.func21 (by kernel_rfl) rfl #[.agg #[.int .u64 s0, .int .u64 s1, .int .i64 s2, .int .i64 s3, .int .i64 s4, .slice Ah n ch, .int .u64 a]] (by rfl) rfl rfl (by (try simp only [List.map_toArray, List.map_cons, List.map_nil]); first | done | rfl) ?_
      refine (HK1.out _ Ah ch (by have h_ := (Kd.R_reads' HG.out).2.2; rw [HL.out] at h_; exact h_) (Kd.R_reads' HG.out).2.1).mono ?_
      rintro e wo ⟨rfl, hb⟩
      refine ⟨_, rfl, ?_⟩
      have n_B4 := Lib.hid (show wo.heap[g4]? = some (.cells #[.int .u64 s0, .int .u64 s1, .int .i64 s2, .int .i64 s3, .int .i64 s4, .slice A n c, .int .u64 a] 65 (0, 0)) from (blk_below B4.out hb))
      have n_B5 := Lib.hid (show wo.heap[g5]? = some (.cells #[.int .u64 b0, .int .u64 b1, .int .i64 b2, .int .i64 b3, .int .i64 b4] 26 (0, 0)) from (blk_below B5.out hb))
      have n_B9 := Lib.hid (show wo.heap[g9]? = some (.cells #[.int .u64 s0, .int .u64 s1, .int .i64 s2, .int .i64 s3, .int .i64 s4, .slice Ah n ch, .int .u64 a] 65 (0, 0)) from (blk_below B9.out hb))
      have n_HG := Lib.hid (show Kd.R O2 28 wo w.heap.size (fun _ => True) (.slice Ah n ch) l from (Kd.R_below HG.out hb))
      have n_HB := Lib.hid (show Below w.heap.size w wo from (below_step HB.out hb))
      clear B4 B5 B9 HG HB
      have B4 := n_B4
      have B5 := n_B5
      have B9 := n_B9
      have HG := n_HG
      have HB := n_HB
      clear n_B4 n_B5 n_B9 n_HG n_HB
      clear hb
      refine hK.out _ _ ⟨range_of B4.out 0 _ (by rfl), range_of B5.out 0 _ (by rfl), range_of B9.out 0 _ (by rfl)⟩ (fun hHeld => ?_)
      clear hK K
      refine norm_ (a' := ?_) ?_ ?_
      rotate_left
      · show Act.put _ (some 95) _ = _
        simp only [Act.put, List.setIfInBounds_toArray, List.set_cons_zero, List.set_cons_succ, i64_w, i32_w]
        rfl
      refine one_ (i := 13) (N := some 97) #[true, true, true, true, true, true, true, true, true, true, true, true, true, true, false, false, false, false, false, false, false, false] rfl rfl (by kernel_rfl) (by decide) (fun K hK => ?_)
      clear hHeld
      refine goes_ Try.func29 (by kernel_rfl) rfl #[.agg #[.int .u64 s0, .int .u64 s1, .int .i64 s2, .int .i64 s3, .int .i64 s4, .slice A n c, .int .u64 a]] (by rfl) rfl rfl (by (try simp only [List.map_toArray, List.map_cons, List.map_nil]); first | done | rfl) ?_
      refine (HK2.out _ HB.out).mono ?_
      rintro e wo ⟨rfl, hb⟩
      refine ⟨_, rfl, ?_⟩
      have n_B4 := Lib.hid (show wo.heap[g4]? = some (.cells #[.int .u64 s0, .int .u64 s1, .int .i64 s2, .int .i64 s3, .int .i64 s4, .slice A n c, .int .u64 a] 65 (0, 0)) from (blk_below B4.out hb))
      have n_B5 := Lib.hid (show wo.heap[g5]? = some (.cells #[.int .u64 b0, .int .u64 b1, .int .i64 b2, .int .i64 b3, .int .i64 b4] 26 (0, 0)) from (blk_below B5.out hb))
      have n_B9 := Lib.hid (show wo.heap[g9]? = some (.cells #[.int .u64 s0, .int .u64 s1, .int .i64 s2, .int .i64 s3, .int .i64 s4, .slice Ah n ch, .int .u64 a] 65 (0, 0)) from (blk_below B9.out hb))
      have n_HG := Lib.hid (show Kd.R O2 28 wo w.heap.size (fun _ => True) (.slice Ah n ch) l from (Kd.R_below HG.out hb))
      have n_HB := Lib.hid (show Below w.heap.size w wo from (below_step HB.out hb))
      clear B4 B5 B9 HG HB
      have B4 := n_B4
      have B5 := n_B5
      have B9 := n_B9
      have HG := n_HG
      have HB := n_HB
      clear n_B4 n_B5 n_B9 n_HG n_HB
      clear hb
      refine hK.out _ _ ⟨range_of B4.out 0 _ (by rfl), range_of B5.out 0 _ (by rfl), range_of B9.out 0 _ (by rfl)⟩ (fun hHeld => ?_)
      clear hK K
      refine norm_ (a' := ?_) ?_ ?_
      rotate_left
      · show Act.put _ (some 97) _ = _
        simp only [Act.put, List.setIfInBounds_toArray, List.set_cons_zero, List.set_cons_succ, i64_w, i32_w]
        rfl
      refine pure_ (i := 14) (N := some 98) (v := ?_) (a' := ?_) #[true, true, true, true, true, true, true, true, true, true, true, true, true, true, true, false, false, false, false, false, false, false] rfl rfl (by kernel_rfl) (fun _ _ _ h => h) (Or.inl ⟨by rfl, ?_⟩) ?_ ?_
      rotate_left
      · intro w'
        go_simp
        with_reducible rfl
      rotate_left
      · simp only [Act.put, List.setIfInBounds_toArray, List.set_cons_zero, List.set_cons_succ, i64_w, i32_w]
        rfl
      refine pure_ (i := 15) (N := some 99) (v := ?_) (a' := ?_) #[true, true, true, true, true, true, true, true, true, true, true, true, true, true, true, true, false, false, false, false, false, false] rfl rfl (by kernel_rfl) (fun _ _ _ h => h) (Or.inl ⟨by rfl, ?_⟩) ?_ ?_
      rotate_left
      · intro w'
        go_simp
        with_reducible rfl
      rotate_left
      · simp only [Act.put, List.setIfInBounds_toArray, List.set_cons_zero, List.set_cons_succ, i64_w, i32_w]
        rfl
      refine pure_ (i := 16) (N := some 100) (v := ?_) (a' := ?_) #[true, true, true, true, true, true, true, true, true, true, true, true, true, true, true, true, true, false, false, false, false, false] rfl rfl (by kernel_rfl) (fun _ _ _ h => h) (Or.inl ⟨by rfl, ?_⟩) ?_ ?_
      rotate_left
      · intro w'
        go_simp
        with_reducible rfl
      rotate_left
      · simp only [Act.put, List.setIfInBounds_toArray, List.set_cons_zero, List.set_cons_succ, i64_w, i32_w]
        rfl
      refine take_ (i := 17) (N := some 101) (v := .agg (List.toArray [.int .u64 s0, .int .u64 s1, .int .i64 s2, .int .i64 s3, .int .i64 s4, .slice Ah n ch, .int .u64 a])) (a' := ?aa101) #[true, true, true, true, true, true, true, true, true, true, true, true, true, true, true, true, true, true, false, false, false, false] rfl rfl (by kernel_rfl) (fun _ _ _ h => h) ?yy101 hHeld ?pp101 ?nn101
      case yy101 => exact yieldsIf_load_mid (by rfl) 65 (.tmp 9) (by rfl) g9 0 (by rfl) _ _ (fun w' s_ => s_.2.2) Try.underlying65 rfl (by kernel_rfl)
      case pp101 =>
        simp only [Act.put, List.setIfInBounds_toArray, List.set_cons_zero, List.set_cons_succ, i64_w, i32_w]
        rfl
      refine take_ (i := 18) (N := some 102) (v := .agg (List.toArray [.int .u64 s0, .int .u64 s1, .int .i64 s2, .int .i64 s3, .int .i64 s4, .slice A n c, .int .u64 a])) (a' := ?aa102) #[true, true, true, true, true, true, true, true, true, true, true, true, true, true, true, true, true, true, true, false, false, false] rfl rfl (by kernel_rfl) (fun _ _ _ h => h) ?yy102 hHeld ?pp102 ?nn102
      case yy102 => exact yieldsIf_load_mid (by rfl) 65 (.tmp 4) (by rfl) g4 0 (by rfl) _ _ (fun w' s_ => s_.1) Try.underlying65 rfl (by kernel_rfl)
      case pp102 =>
        simp only [Act.put, List.setIfInBounds_toArray, List.set_cons_zero, List.set_cons_succ, i64_w, i32_w]
        rfl
      refine one_ (i := 19) (N := some 103) #[true, true, true, true, true, true, true, true, true, true, true, true, true, true, true, true, true, true, true, true, false, false] rfl rfl (by kernel_rfl) (by decide) (fun K hK => ?_)
      clear hHeld
      refine goes_ Try.func26 (by kernel_rfl) rfl #[.agg #[.int .u64 s0, .int .u64 s1, .int .i64 s2, .int .i64 s3, .int .i64 s4, .slice Ah n ch, .int .u64 a], .agg #[.int .u64 s0, .int .u64 s1, .int .i64 s2, .int .i64 s3, .int .i64 s4, .slice A n c, .int .u64 a]] (by rfl) rfl rfl (by (try simp only [List.map_toArray, List.map_cons, List.map_nil]); first | done | rfl) ?_
      refine (HS2.out a _ Ah A ch c (by have h_ := (Kd.R_reads' HG.out).2.2; rw [HL.out] at h_; exact h_) (Kd.R_reads' HG.out).2.1 (HCA.out _ HB.out) HC0.out).mono ?_
      rintro e wo ⟨rfl, hb⟩
      refine ⟨_, rfl, ?_⟩
      have n_B4 := Lib.hid (show wo.heap[g4]? = some (.cells #[.int .u64 s0, .int .u64 s1, .int .i64 s2, .int .i64 s3, .int .i64 s4, .slice A n c, .int .u64 a] 65 (0, 0)) from (blk_below B4.out hb))
      have n_B5 := Lib.hid (show wo.heap[g5]? = some (.cells #[.int .u64 b0, .int .u64 b1, .int .i64 b2, .int .i64 b3, .int .i64 b4] 26 (0, 0)) from (blk_below B5.out hb))
      have n_B9 := Lib.hid (show wo.heap[g9]? = some (.cells #[.int .u64 s0, .int .u64 s1, .int .i64 s2, .int .i64 s3, .int .i64 s4, .slice Ah n ch, .int .u64 a] 65 (0, 0)) from (blk_below B9.out hb))
      have n_HG := Lib.hid (show Kd.R O2 28 wo w.heap.size (fun _ => True) (.slice Ah n ch) l from (Kd.R_below HG.out hb))
      have n_HB := Lib.hid (show Below w.heap.size w wo from (below_step HB.out hb))
      clear B4 B5 B9 HG HB
      have B4 := n_B4
      have B5 := n_B5
      have B9 := n_B9
      have HG := n_HG
      have HB := n_HB
      clear n_B4 n_B5 n_B9 n_HG n_HB
      clear hb
      refine hK.out _ _ ⟨range_of B4.out 0 _ (by rfl), range_of B5.out 0 _ (by rfl), range_of B9.out 0 _ (by rfl)⟩ (fun hHeld => ?_)
      clear hK K
      refine norm_ (a' := ?_) ?_ ?_
      rotate_left
      · show Act.put _ (some 103) _ = _
        simp only [Act.put, List.setIfInBounds_toArray, List.set_cons_zero, List.set_cons_succ, i64_w, i32_w]
        rfl
      refine pure_ (i := 20) (N := some 104) (v := ?_) (a' := ?_) #[true, true, true, true, true, true, true, true, true, true, true, true, true, true, true, true, true, true, true, true, true, false] rfl rfl (by kernel_rfl) (fun _ _ _ h => h) (Or.inl ⟨by rfl, ?_⟩) ?_ ?_
      rotate_left
      · intro w'
        go_simp
        with_reducible rfl
      rotate_left
      · simp only [Act.put, List.setIfInBounds_toArray, List.set_cons_zero, List.set_cons_succ, i64_w, i32_w]
        rfl
      refine pure_ (i := 21) (N := some 8) (v := ?_) (a' := ?_) #[true, true, true, true, true, true, true, true, true, true, true, true, true, true, true, true, true, true, true, true, true, true] rfl rfl (by kernel_rfl) (fun _ _ _ h => h) (Or.inl ⟨by rfl, ?_⟩) ?_ ?_
      rotate_left
      · intro w'
        go_simp
        with_reducible rfl
      rotate_left
      · simp only [Act.put, List.setIfInBounds_toArray, List.set_cons_zero, List.set_cons_succ, i64_w, i32_w]
        rfl
      refine done_ (by kernel_rfl) ?_
      go_wp2
      go_ret
      exact ⟨rfl, HB.out⟩
end Go.Proofs.Ytkbemagcoojmmaa.Val
