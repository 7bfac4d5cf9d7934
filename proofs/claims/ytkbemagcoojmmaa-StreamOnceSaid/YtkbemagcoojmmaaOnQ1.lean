/- StreamOnce, by hand: it answers true. Conditions: rows, values of a row are not too many. Printed by gon.py. -/
import Derived.Test.YtkbemagcoojmmaaPoQ1
import Derived.Test.YtkbemagcoojmmaaTcQ1
namespace Go.Proofs.Ytkbemagcoojmmaa.Val
open Go.RowKit Go.Proofs.Ytkbemagcoojmmaa.G Go.Proofs.Ytkbemagcoojmmaa.Lx Go.Proofs.YtkbemagcoojmmaaW.PrintWords Go.Proofs.YtkbemagcoojmmaaW.PrintLast Go.Proofs.YtkbemagcoojmmaaW.PrintMore
set_option linter.unusedVariables false
set_option linter.unusedSimpArgs false
attribute [local go_sem high] eqA26
theorem msg_atN {W : World} {base q c : Nat} {ok : Nat → Prop} {Av : Option Addr} {ms : List S52} (h : Kd.N k52 52 W base ok (.slice Av q c) ms) (j : Nat) (hj : j < ms.length) : ∃ ab ao cs, Av = some ⟨ab, ao, none⟩ ∧ Kd.FK k52 W (fun k => ok k ∧ some k ≠ (Value.slice Av q c).ownBlock) (ms.getD j z52) cs ∧ W.rangeAt ab (ao + j * 47) cs := by
  have h0 := Kd.N_reads' h
  obtain ⟨ad, _, eA, _⟩ := Kd.C_get h0.2.2 z52 (j : Int) (by omega) (by omega)
  subst eA
  obtain ⟨g, rfl⟩ : ∃ g, ad = ⟨g, 0, none⟩ := by
    obtain ⟨_, rows, _, hR, _⟩ := h
    exact Kd.R_head hR
  obtain ⟨cs, l0, f0, c0⟩ := Kd.N_get h z52 (j : Int) (by omega) (by have := h0.1; omega)
  rw [Int.toNat_natCast] at f0 c0
  refine ⟨g, 0, cs, rfl, f0, fun i v hi => ?_⟩
  have h_ := c0 i v hi
  rw [Addr.add_mid, show Kd.sz k52 = 47 from rfl, ← Nat.add_assoc] at h_
  exact h_
set_option maxHeartbeats 4000000 in
set_option maxRecDepth 100000 in
theorem once_many (s0 s1 s2 s3 s4 : Int) (A2 Ap Aa : Option Addr) (m2 c2 np cp na ca : Nat) (rows : List (List S112)) (picks : List Int) (acks : List Bool) (w : World) (hrl : rows.length = m2) (hr2 : Kd.C (Kd.slice 112 k112) w A2 m2 rows) (hc2 : m2 ≤ c2) (hft : FitR rows) (hpl : picks.length = np) (hp : Kd.C (Kd.int .i64) w Ap np picks) (hal : acks.length = na) (ha : Kd.C Kd.bool w Aa na acks) (hnp : np ≤ 4611686018427387904) (hna : na ≤ 4611686018427387904) (h : 4096 < m2) :
    Calls Try.prog 6 #[.agg #[.int .u64 s0, .int .u64 s1, .int .i64 s2, .int .i64 s3, .int .i64 s4], .slice A2 m2 c2, .slice Ap np cp, .slice Aa na ca] w fun e w' => e = .returned (.bool true) ∧ Below w.heap.size w w' := by
  have HB := Lib.hid (Below.refl w.heap.size w)
  have HC1 := Lib.hid (fun (wx : World) (hb : Below w.heap.size w wx) => stream_Cut.calls 1 s0 s1 s2 s3 s4 (fun k => k < w.heap.size) A2 c2 rows 0 0 0 0 0 [] 0 3 wx (Kd.V_mk (by rw [hrl]; exact hc2) (Kd.F_below (Kd.C_F (Kd.heap_slice 112 k112_heap) (by rw [hrl]; exact hr2)) hb)) (by unfold stream_Cut.f; rw [if_pos hft]; unfold cutV; rw [if_pos (by omega)]))
  rw [hrl] at HC1
  have hd : decide ((4096 : Int) < (m2 : Int)) = true := decide_eq_true (by omega)
  have hd' : decide (4096 < m2) = true := decide_eq_true h
  clear hr2 hc2 hft hrl h hp ha hpl hal
  go_enter Try.func6, Try.ntmps6
  go_wp2_with (first
    | ((with_reducible refine gate_dst (N := 4) rfl ?_); refine box_event ?hg (N := 4) ?hd (cs := #[.int .u64 s0, .int .u64 s1, .int .i64 s2, .int .i64 s3, .int .i64 s4]) (t := 26) ?hr ?_; (case hd => rfl); (case hg => rfl); (case hr => first | (go_simp; done) | (go_simp; rfl)); intro g4 hg wb4 hbx hb; have Eg4 := Lib.hid (show w.heap.size ≤ g4 by rw [hg]; exact HB.out.size); have n_HB := Lib.hid (below_step HB.out hb); clear HB; have HB := n_HB; clear n_HB; have B4 := Lib.hid hbx; clear hg hbx hb; have p4_0 := (blk_cell B4.out 0).trans rfl; have p4_1 := (blk_cell B4.out 1).trans rfl; have p4_2 := (blk_cell B4.out 2).trans rfl; have p4_3 := (blk_cell B4.out 3).trans rfl; have p4_4 := (blk_cell B4.out 4).trans rfl; have l4 := blk_lt B4.out)
    | (go_at_call 12; refine (potsherdlaw13_lives.calls true _ rfl).mono ?_; rintro e w1 ⟨rfl, hb⟩; (try clear p4_0); (try clear p4_1); (try clear p4_2); (try clear p4_3); (try clear p4_4); have n_B4 := Lib.hid (blk_below B4.out hb); have n_HB := Lib.hid (below_step HB.out hb); clear B4 HB; have B4 := n_B4; have HB := n_HB; clear n_B4 n_HB; have p4_0 := (blk_cell B4.out 0).trans rfl; have p4_1 := (blk_cell B4.out 1).trans rfl; have p4_2 := (blk_cell B4.out 2).trans rfl; have p4_3 := (blk_cell B4.out 3).trans rfl; have p4_4 := (blk_cell B4.out 4).trans rfl; clear hb)
    | (go_at_call 19; refine (HC1.out _ HB.out).mono ?_; rintro e w4 ⟨v6, rfl, hn_, hb⟩; obtain ⟨Ab, cb, eh⟩ := Kd.N_slice hn_; subst eh; (try clear p4_0); (try clear p4_1); (try clear p4_2); (try clear p4_3); (try clear p4_4); have n_B4 := Lib.hid (blk_below B4.out hb); have n_HB := Lib.hid (below_step HB.out hb); clear B4 HB; have B4 := n_B4; have HB := n_HB; clear n_B4 n_HB; have p4_0 := (blk_cell B4.out 0).trans rfl; have p4_1 := (blk_cell B4.out 1).trans rfl; have p4_2 := (blk_cell B4.out 2).trans rfl; have p4_3 := (blk_cell B4.out 3).trans rfl; have p4_4 := (blk_cell B4.out 4).trans rfl; clear hb hn_; skip)
    | ((with_reducible refine gate_dst (N := 9) rfl ?_); refine box_event ?hg (N := 9) ?hd (cs := #[.int .u64 0, .int .u64 0, .int .i64 0, .int .i64 0, .int .i64 0, .slice none 0 0, .int .u64 0]) (t := 65) ?hr ?_; (case hd => rfl); (case hg => rfl); (case hr => first | (go_simp; done) | (go_simp; rfl)); intro g9 hg wb9 hbx hb; have Eg9 := Lib.hid (show w.heap.size ≤ g9 by rw [hg]; exact HB.out.size); have Ne4_9 := Lib.hid (show ¬ g4 = g9 by rw [hg]; have := blk_lt B4.out; omega); (try clear p4_0); (try clear p4_1); (try clear p4_2); (try clear p4_3); (try clear p4_4); have n_B4 := Lib.hid (blk_below B4.out hb); have n_HB := Lib.hid (below_step HB.out hb); clear B4 HB; have B4 := n_B4; have HB := n_HB; clear n_B4 n_HB; have p4_0 := (blk_cell B4.out 0).trans rfl; have p4_1 := (blk_cell B4.out 1).trans rfl; have p4_2 := (blk_cell B4.out 2).trans rfl; have p4_3 := (blk_cell B4.out 3).trans rfl; have p4_4 := (blk_cell B4.out 4).trans rfl; have B9 := Lib.hid hbx; clear hg hbx hb; have l9 := blk_lt B9.out)
    | ((with_reducible refine gate_store (t := 65) (p := 9) rfl ?_); have zc0 := (blk_cell B9.out 0).trans rfl; have zf0 := blk_frozen B9.out 0; have zc1 := (blk_cell B9.out 1).trans rfl; have zf1 := blk_frozen B9.out 1; have zc2 := (blk_cell B9.out 2).trans rfl; have zf2 := blk_frozen B9.out 2; have zc3 := (blk_cell B9.out 3).trans rfl; have zf3 := blk_frozen B9.out 3; have zc4 := (blk_cell B9.out 4).trans rfl; have zf4 := blk_frozen B9.out 4; have zc5 := (blk_cell B9.out 5).trans rfl; have zf5 := blk_frozen B9.out 5; have zc6 := (blk_cell B9.out 6).trans rfl; have zf6 := blk_frozen B9.out 6; refine store_event (t := 65) (p := 9) (v := ?vows1) (w1 := setAll wb9 g9 0 [.int .u64 0, .int .u64 0, .int .i64 0, .int .i64 0, .int .i64 0, .slice Ab 0 cb, .int .u64 0]) ?hg ?ho ?hn ?hr ?_; (case ho => rfl); (case hg => rfl); (case hn => rfl); (case hr => first | (go_simp; done) | (go_simp; rfl)); intro ws1 hw; clear zc0 zf0 zc1 zf1 zc2 zf2 zc3 zf3 zc4 zf4 zc5 zf5 zc6 zf6; (try clear p4_0); (try clear p4_1); (try clear p4_2); (try clear p4_3); (try clear p4_4); (try clear p9_0); (try clear p9_1); (try clear p9_2); (try clear p9_3); (try clear p9_4); (try clear p9_5); (try clear p9_6); have n_B4 := Lib.hid (((by rw [hw]; exact blk_kept B4.out (setAll_kept [.int .u64 0, .int .u64 0, .int .i64 0, .int .i64 0, .int .i64 0, .slice Ab 0 cb, .int .u64 0] 0 wb9) (fun e_ => Ne4_9.out e_)) : ws1.heap[g4]? = some (.cells #[.int .u64 s0, .int .u64 s1, .int .i64 s2, .int .i64 s3, .int .i64 s4] 26 (0, 0)))); have n_B9 := Lib.hid (((by rw [hw]; exact setAll_box [.int .u64 0, .int .u64 0, .int .i64 0, .int .i64 0, .int .i64 0, .slice Ab 0 cb, .int .u64 0] B9.out rfl) : ws1.heap[g9]? = some (.cells #[.int .u64 0, .int .u64 0, .int .i64 0, .int .i64 0, .int .i64 0, .slice Ab 0 cb, .int .u64 0] 65 (0, 0)))); have n_HB := Lib.hid ((by rw [hw]; exact setAll_below Eg9.out [.int .u64 0, .int .u64 0, .int .i64 0, .int .i64 0, .int .i64 0, .slice Ab 0 cb, .int .u64 0] 0 wb9 HB.out : Below w.heap.size w ws1)); clear B4 B9 HB; have B4 := n_B4; have B9 := n_B9; have HB := n_HB; clear n_B4 n_B9 n_HB; clear hw; have p4_0 := (blk_cell B4.out 0).trans rfl; have p4_1 := (blk_cell B4.out 1).trans rfl; have p4_2 := (blk_cell B4.out 2).trans rfl; have p4_3 := (blk_cell B4.out 3).trans rfl; have p4_4 := (blk_cell B4.out 4).trans rfl; have p9_0 := (blk_cell B9.out 0).trans rfl; have p9_1 := (blk_cell B9.out 1).trans rfl; have p9_2 := (blk_cell B9.out 2).trans rfl; have p9_3 := (blk_cell B9.out 3).trans rfl; have p9_4 := (blk_cell B9.out 4).trans rfl; have p9_5 := (blk_cell B9.out 5).trans rfl; have p9_6 := (blk_cell B9.out 6).trans rfl; skip))
  go_ret
  exact ⟨rfl, HB.out⟩
set_option maxHeartbeats 16000000 in
set_option maxRecDepth 100000 in
theorem once_few (s0 s1 s2 s3 s4 : Int) (A2 Ap Aa : Option Addr) (m2 c2 np cp na ca : Nat) (rows : List (List S112)) (picks : List Int) (acks : List Bool) (w : World) (hrl : rows.length = m2) (hr2 : Kd.C (Kd.slice 112 k112) w A2 m2 rows) (hc2 : m2 ≤ c2) (hft : FitR rows) (hpl : picks.length = np) (hp : Kd.C (Kd.int .i64) w Ap np picks) (hal : acks.length = na) (ha : Kd.C Kd.bool w Aa na acks) (hnp : np ≤ 4611686018427387904) (hna : na ≤ 4611686018427387904) (h : ¬ 4096 < m2) :
    Calls Try.prog 6 #[.agg #[.int .u64 s0, .int .u64 s1, .int .i64 s2, .int .i64 s3, .int .i64 s4], .slice A2 m2 c2, .slice Ap np cp, .slice Aa na ca] w fun e w' => e = .returned (.bool true) ∧ Below w.heap.size w w' := by
  have HB := Lib.hid (Below.refl w.heap.size w)
  obtain ⟨bs, hbs⟩ : ∃ x, x = cutG rows := ⟨_, rfl⟩
  obtain ⟨n, hn⟩ : ∃ x, x = bs.length := ⟨_, rfl⟩
  have hcount := cutG_count rows
  have hfl := cutG_flat rows
  have h8 := cutG_le rows
  have hfo := cutG_fit rows hft (by omega)
  have hov := fun (x : Int) (hx : x ≤ ((cutG rows).length : Int)) => cutG_right rows (by omega) x hx
  rw [← hbs] at hcount hfl h8 hfo hov
  rw [← hn] at hcount hov
  have hn1 : 1 ≤ n := by omega
  have hn5 : n ≤ 512 := by omega
  have HC1 := Lib.hid (fun (wx : World) (hb : Below w.heap.size w wx) => stream_Cut.calls 1 s0 s1 s2 s3 s4 (fun k => k < w.heap.size) A2 c2 rows s0 s1 s2 s3 s4 bs 0 0 wx (Kd.V_mk (by rw [hrl]; exact hc2) (Kd.F_below (Kd.C_F (Kd.heap_slice 112 k112_heap) (by rw [hrl]; exact hr2)) hb)) (by unfold stream_Cut.f; rw [if_pos hft]; unfold cutV; rw [if_neg (by omega), hbs]))
  rw [hrl] at HC1
  have HSD := Lib.hid (fun (x : Nat) (hx : x ≤ n) (wx : World) (P : Nat → Prop) (Ah : Option Addr) (ch : Nat) (hV : Kd.V O2 28 wx wx.heap.size (fun k => P k) (.slice Ah n ch) bs) => stream_Send.calls 6000000000000 s0 s1 s2 s3 s4 P Ah ch bs (x : Int) (sendV s0 s1 s2 s3 s4 bs x) 0 wx (by rw [← hn]; exact hV) (send_f _ s0 s1 s2 s3 s4 bs hfo x (hov _ (by omega)) (by omega) (by omega)))
  rw [← hn] at HSD
  have HAC := Lib.hid (fun (y : Int) (x : Nat) (hx : x ≤ n) (wx : World) (P : Nat → Prop) (Ah : Option Addr) (ch : Nat) (hV : Kd.V O2 28 wx wx.heap.size (fun k => P k) (.slice Ah n ch) bs) => stream_Acked.calls 1 s0 s1 s2 s3 s4 P Ah ch bs y s0 s1 s2 s3 s4 (x : Int) s0 s1 s2 s3 s4 bs (x : Int) wx (by rw [← hn]; exact hV) (by unfold stream_Acked.f; rw [if_pos hfo, if_pos ⟨sameS_refl _ _ _ _ _, by omega⟩]))
  rw [← hn] at HAC
  have HTK := Lib.hid (fun (x : Nat) (held : List S83) (dn : Bool) (h : GoodIn bs x held dn) (i : Nat) (hi : i < bs.length) => take_any bs hfo h8 (by omega) (by omega) s0 s1 s2 s3 s4 x held dn h i hi)
  have HCI := Lib.hid (fun (x : Nat) (held : List S83) (dn : Bool) (h : GoodIn bs x held dn) (wx : World) (A : Option Addr) (c : Nat) (D : Option Addr) (d : Nat) (hr : Kd.C k83 wx A held.length held) => (by have h_ := checkin_calls s0 s1 s2 s3 s4 (x : Int) A D (came bs x).length c d dn held wx hr (by have := good_len h; omega) (by omega) (by have := came_le h8 x; have := h.1; omega); rw [good_inV bs h8 (by omega) (by omega) x held dn h] at h_; exact h_ : Calls Try.prog 14 #[.agg #[.int .u64 s0, .int .u64 s1, .int .i64 s2, .int .i64 s3, .int .i64 s4, .int .u64 (x : Int), .slice A held.length c, .slice D (came bs x).length d, .bool dn]] wx fun e w' => e = .returned (.int .i64 0) ∧ Below wx.heap.size wx w'))
  have HCL := Lib.hid (show ∀ x : Nat, (came bs x).length ≤ m2 ∧ came bs x = rows.take (came bs x).length ∧ (bs.length ≤ x → (came bs x).length = m2) from fun x => by
    have h1 := came_prefix bs x
    rw [hfl] at h1
    refine ⟨?_, h1, fun hx => ?_⟩
    · have h2 := congrArg List.length h1
      rw [List.length_take] at h2
      omega
    · rw [came_all hx, hfl, hrl])
  have HSM := Lib.hid (fun (x : Nat) (wx : World) (hb : Below w.heap.size w wx) (A8 : Option Addr) (c8 : Nat) (h3 : Kd.C (Kd.slice 112 k112) wx A8 (came bs x).length (came bs x)) (h3' : (came bs x).length ≤ c8) (A7 : Option Addr) (c7 : Nat) (h4 : Kd.C (Kd.slice 112 k112) wx A7 (came bs x).length (came bs x)) (h4' : (came bs x).length ≤ c7) => (potsherdref01_Same.calls 6000000000000 A8 c8 (came bs x) A7 c7 (came bs x) true wx h3 h3' h4 h4' (same_fit _ _ (by rw [(HCL.out x).2.1]; exact hft.take _) (by have := (HCL.out x).1; omega))).mono (fun e w' h => (⟨h.1, h.2.below⟩ : e = .returned (.bool true) ∧ Below wx.heap.size wx w')))
  have HR2 := Lib.hid hr2
  have HC2 := Lib.hid hc2
  have HRL := Lib.hid hrl
  have HP := Lib.hid hp
  have HA := Lib.hid ha
  have HPL := Lib.hid (And.intro hpl hal)
  have hw_ := u64_n n (by omega)
  have HNB := Lib.hid hn.symm
  have HN1 := Lib.hid hn1
  have HN5 := Lib.hid hn5
  have HM2 := Lib.hid (show m2 ≤ 4096 by omega)
  clear hr2 hc2 hft hrl hbs hcount hfl h8 hfo hov hn hn1 hn5 h hp ha hpl hal
  go_enter Try.func6, Try.ntmps6
  go_wp2_with (first
    | ((with_reducible refine gate_dst (N := 4) rfl ?_); refine box_event ?hg (N := 4) ?hd (cs := #[.int .u64 s0, .int .u64 s1, .int .i64 s2, .int .i64 s3, .int .i64 s4]) (t := 26) ?hr ?_; (case hd => rfl); (case hg => rfl); (case hr => first | (go_simp; done) | (go_simp; rfl)); intro g4 hg wb4 hbx hb; have Eg4 := Lib.hid (show w.heap.size ≤ g4 by rw [hg]; exact HB.out.size); have n_HB := Lib.hid (below_step HB.out hb); clear HB; have HB := n_HB; clear n_HB; have B4 := Lib.hid hbx; clear hg hbx hb; have p4_0 := (blk_cell B4.out 0).trans rfl; have p4_1 := (blk_cell B4.out 1).trans rfl; have p4_2 := (blk_cell B4.out 2).trans rfl; have p4_3 := (blk_cell B4.out 3).trans rfl; have p4_4 := (blk_cell B4.out 4).trans rfl; have l4 := blk_lt B4.out)
    | (go_at_call 12; refine (potsherdlaw13_lives.calls true _ rfl).mono ?_; rintro e w1 ⟨rfl, hb⟩; (try clear p4_0); (try clear p4_1); (try clear p4_2); (try clear p4_3); (try clear p4_4); have n_B4 := Lib.hid (blk_below B4.out hb); have n_HB := Lib.hid (below_step HB.out hb); clear B4 HB; have B4 := n_B4; have HB := n_HB; clear n_B4 n_HB; have p4_0 := (blk_cell B4.out 0).trans rfl; have p4_1 := (blk_cell B4.out 1).trans rfl; have p4_2 := (blk_cell B4.out 2).trans rfl; have p4_3 := (blk_cell B4.out 3).trans rfl; have p4_4 := (blk_cell B4.out 4).trans rfl; clear hb)
    | (go_at_call 19; refine (HC1.out _ HB.out).mono ?_; rintro e w4 ⟨v6, rfl, hn_, hb⟩; have HS := Lib.hid (Kd.N_lower (Kd.N_mono (ok' := fun _ => True) hn_ (fun _ _ => trivial)) HB.out.size); obtain ⟨Ab, cb, eh⟩ := Kd.N_slice HS.out; rw [HNB.out] at eh; subst eh; (try clear p4_0); (try clear p4_1); (try clear p4_2); (try clear p4_3); (try clear p4_4); have n_B4 := Lib.hid (blk_below B4.out hb); have n_HB := Lib.hid (below_step HB.out hb); clear B4 HB; have B4 := n_B4; have HB := n_HB; clear n_B4 n_HB; have p4_0 := (blk_cell B4.out 0).trans rfl; have p4_1 := (blk_cell B4.out 1).trans rfl; have p4_2 := (blk_cell B4.out 2).trans rfl; have p4_3 := (blk_cell B4.out 3).trans rfl; have p4_4 := (blk_cell B4.out 4).trans rfl; clear hb hn_; skip)
    | ((with_reducible refine gate_dst (N := 9) rfl ?_); refine box_event ?hg (N := 9) ?hd (cs := #[.int .u64 0, .int .u64 0, .int .i64 0, .int .i64 0, .int .i64 0, .slice none 0 0, .int .u64 0]) (t := 65) ?hr ?_; (case hd => rfl); (case hg => rfl); (case hr => first | (go_simp; done) | (go_simp; rfl)); intro g9 hg wb9 hbx hb; have Eg9 := Lib.hid (show w.heap.size ≤ g9 by rw [hg]; exact HB.out.size); have Ne4_9 := Lib.hid (show ¬ g4 = g9 by rw [hg]; have := blk_lt B4.out; omega); (try clear p4_0); (try clear p4_1); (try clear p4_2); (try clear p4_3); (try clear p4_4); have n_B4 := Lib.hid (blk_below B4.out hb); have n_HS := Lib.hid (Kd.N_mono (ok' := fun k => k ≠ g9) (Kd.N_below (Kd.N_elderB HS.out g9 (Nat.le_of_eq hg.symm)) hb) (fun k hk => hk.2)); have n_HB := Lib.hid (below_step HB.out hb); clear B4 HS HB; have B4 := n_B4; have HS := n_HS; have HB := n_HB; clear n_B4 n_HS n_HB; have p4_0 := (blk_cell B4.out 0).trans rfl; have p4_1 := (blk_cell B4.out 1).trans rfl; have p4_2 := (blk_cell B4.out 2).trans rfl; have p4_3 := (blk_cell B4.out 3).trans rfl; have p4_4 := (blk_cell B4.out 4).trans rfl; have B9 := Lib.hid hbx; clear hg hbx hb; have l9 := blk_lt B9.out)
    | ((with_reducible refine gate_store (t := 65) (p := 9) rfl ?_); have zc0 := (blk_cell B9.out 0).trans rfl; have zf0 := blk_frozen B9.out 0; have zc1 := (blk_cell B9.out 1).trans rfl; have zf1 := blk_frozen B9.out 1; have zc2 := (blk_cell B9.out 2).trans rfl; have zf2 := blk_frozen B9.out 2; have zc3 := (blk_cell B9.out 3).trans rfl; have zf3 := blk_frozen B9.out 3; have zc4 := (blk_cell B9.out 4).trans rfl; have zf4 := blk_frozen B9.out 4; have zc5 := (blk_cell B9.out 5).trans rfl; have zf5 := blk_frozen B9.out 5; have zc6 := (blk_cell B9.out 6).trans rfl; have zf6 := blk_frozen B9.out 6; refine store_event (t := 65) (p := 9) (v := ?vows1) (w1 := setAll wb9 g9 0 [.int .u64 s0, .int .u64 s1, .int .i64 s2, .int .i64 s3, .int .i64 s4, .slice Ab n cb, .int .u64 0]) ?hg ?ho ?hn ?hr ?_; (case ho => rfl); (case hg => rfl); (case hn => rfl); (case hr => first | (go_simp; done) | (go_simp; rfl)); intro ws1 hw; clear zc0 zf0 zc1 zf1 zc2 zf2 zc3 zf3 zc4 zf4 zc5 zf5 zc6 zf6; (try clear p4_0); (try clear p4_1); (try clear p4_2); (try clear p4_3); (try clear p4_4); (try clear p9_0); (try clear p9_1); (try clear p9_2); (try clear p9_3); (try clear p9_4); (try clear p9_5); (try clear p9_6); have n_B4 := Lib.hid (((by rw [hw]; exact blk_kept B4.out (setAll_kept [.int .u64 s0, .int .u64 s1, .int .i64 s2, .int .i64 s3, .int .i64 s4, .slice Ab n cb, .int .u64 0] 0 wb9) (fun e_ => Ne4_9.out e_)) : ws1.heap[g4]? = some (.cells #[.int .u64 s0, .int .u64 s1, .int .i64 s2, .int .i64 s3, .int .i64 s4] 26 (0, 0)))); have n_B9 := Lib.hid (((by rw [hw]; exact setAll_box [.int .u64 s0, .int .u64 s1, .int .i64 s2, .int .i64 s3, .int .i64 s4, .slice Ab n cb, .int .u64 0] B9.out rfl) : ws1.heap[g9]? = some (.cells #[.int .u64 s0, .int .u64 s1, .int .i64 s2, .int .i64 s3, .int .i64 s4, .slice Ab n cb, .int .u64 0] 65 (0, 0)))); have n_HS := Lib.hid ((by rw [hw]; exact Kd.N_kept HS.out (setAll_kept [.int .u64 s0, .int .u64 s1, .int .i64 s2, .int .i64 s3, .int .i64 s4, .slice Ab n cb, .int .u64 0] 0 wb9) (fun k hk => (by first | exact hk | exact hk.1 | exact hk.2 | exact hk.1.1 | exact hk.1.2 | exact hk.2.1 | exact hk.2.2)) : Kd.N O2 28 ws1 w.heap.size (fun k => k ≠ g9) (.slice Ab n cb) bs)); have n_HB := Lib.hid ((by rw [hw]; exact setAll_below Eg9.out [.int .u64 s0, .int .u64 s1, .int .i64 s2, .int .i64 s3, .int .i64 s4, .slice Ab n cb, .int .u64 0] 0 wb9 HB.out : Below w.heap.size w ws1)); clear B4 B9 HS HB; have B4 := n_B4; have B9 := n_B9; have HS := n_HS; have HB := n_HB; clear n_B4 n_B9 n_HS n_HB; clear hw; have p4_0 := (blk_cell B4.out 0).trans rfl; have p4_1 := (blk_cell B4.out 1).trans rfl; have p4_2 := (blk_cell B4.out 2).trans rfl; have p4_3 := (blk_cell B4.out 3).trans rfl; have p4_4 := (blk_cell B4.out 4).trans rfl; have p9_0 := (blk_cell B9.out 0).trans rfl; have p9_1 := (blk_cell B9.out 1).trans rfl; have p9_2 := (blk_cell B9.out 2).trans rfl; have p9_3 := (blk_cell B9.out 3).trans rfl; have p9_4 := (blk_cell B9.out 4).trans rfl; have p9_5 := (blk_cell B9.out 5).trans rfl; have p9_6 := (blk_cell B9.out 6).trans rfl; skip)
    | ((with_reducible refine gate_dst (N := 11) rfl ?_); refine box_event ?hg (N := 11) ?hd (cs := #[.int .u64 0, .int .u64 0, .int .i64 0, .int .i64 0, .int .i64 0, .int .u64 0, .slice none 0 0, .slice none 0 0, .bool false]) (t := 30) ?hr ?_; (case hd => rfl); (case hg => rfl); (case hr => first | (go_simp; done) | (go_simp; rfl)); intro g11 hg wb11 hbx hb; have Eg11 := Lib.hid (show w.heap.size ≤ g11 by rw [hg]; exact HB.out.size); have Ne4_11 := Lib.hid (show ¬ g4 = g11 by rw [hg]; have := blk_lt B4.out; omega); have Ne9_11 := Lib.hid (show ¬ g9 = g11 by rw [hg]; have := blk_lt B9.out; omega); (try clear p4_0); (try clear p4_1); (try clear p4_2); (try clear p4_3); (try clear p4_4); (try clear p9_0); (try clear p9_1); (try clear p9_2); (try clear p9_3); (try clear p9_4); (try clear p9_5); (try clear p9_6); have n_B4 := Lib.hid (blk_below B4.out hb); have n_B9 := Lib.hid (blk_below B9.out hb); have n_HS := Lib.hid (Kd.N_mono (ok' := (fun k => k ≠ g9 ∧ k ≠ g11)) (Kd.N_below (Kd.N_elderB HS.out g11 (Nat.le_of_eq hg.symm)) hb) (fun k hk => hk)); have n_HB := Lib.hid (below_step HB.out hb); clear B4 B9 HS HB; have B4 := n_B4; have B9 := n_B9; have HS := n_HS; have HB := n_HB; clear n_B4 n_B9 n_HS n_HB; have p4_0 := (blk_cell B4.out 0).trans rfl; have p4_1 := (blk_cell B4.out 1).trans rfl; have p4_2 := (blk_cell B4.out 2).trans rfl; have p4_3 := (blk_cell B4.out 3).trans rfl; have p4_4 := (blk_cell B4.out 4).trans rfl; have p9_0 := (blk_cell B9.out 0).trans rfl; have p9_1 := (blk_cell B9.out 1).trans rfl; have p9_2 := (blk_cell B9.out 2).trans rfl; have p9_3 := (blk_cell B9.out 3).trans rfl; have p9_4 := (blk_cell B9.out 4).trans rfl; have p9_5 := (blk_cell B9.out 5).trans rfl; have p9_6 := (blk_cell B9.out 6).trans rfl; have B11 := Lib.hid hbx; clear hg hbx hb; have l11 := blk_lt B11.out)
    | ((with_reducible refine gate_store (t := 30) (p := 11) rfl ?_); have zc0 := (blk_cell B11.out 0).trans rfl; have zf0 := blk_frozen B11.out 0; have zc1 := (blk_cell B11.out 1).trans rfl; have zf1 := blk_frozen B11.out 1; have zc2 := (blk_cell B11.out 2).trans rfl; have zf2 := blk_frozen B11.out 2; have zc3 := (blk_cell B11.out 3).trans rfl; have zf3 := blk_frozen B11.out 3; have zc4 := (blk_cell B11.out 4).trans rfl; have zf4 := blk_frozen B11.out 4; have zc5 := (blk_cell B11.out 5).trans rfl; have zf5 := blk_frozen B11.out 5; have zc6 := (blk_cell B11.out 6).trans rfl; have zf6 := blk_frozen B11.out 6; have zc7 := (blk_cell B11.out 7).trans rfl; have zf7 := blk_frozen B11.out 7; have zc8 := (blk_cell B11.out 8).trans rfl; have zf8 := blk_frozen B11.out 8; refine store_event (t := 30) (p := 11) (v := ?vows2) (w1 := setAll wb11 g11 0 [.int .u64 s0, .int .u64 s1, .int .i64 s2, .int .i64 s3, .int .i64 s4, .int .u64 0, .slice none 0 0, .slice none 0 0, .bool false]) ?hg ?ho ?hn ?hr ?_; (case ho => rfl); (case hg => rfl); (case hn => rfl); (case hr => first | (go_simp; done) | (go_simp; rfl)); intro ws2 hw; clear zc0 zf0 zc1 zf1 zc2 zf2 zc3 zf3 zc4 zf4 zc5 zf5 zc6 zf6 zc7 zf7 zc8 zf8; (try clear p4_0); (try clear p4_1); (try clear p4_2); (try clear p4_3); (try clear p4_4); (try clear p9_0); (try clear p9_1); (try clear p9_2); (try clear p9_3); (try clear p9_4); (try clear p9_5); (try clear p9_6); (try clear p11_0); (try clear p11_1); (try clear p11_2); (try clear p11_3); (try clear p11_4); (try clear p11_5); (try clear p11_6); (try clear p11_7); (try clear p11_8); have n_B4 := Lib.hid (((by rw [hw]; exact blk_kept B4.out (setAll_kept [.int .u64 s0, .int .u64 s1, .int .i64 s2, .int .i64 s3, .int .i64 s4, .int .u64 0, .slice none 0 0, .slice none 0 0, .bool false] 0 wb11) (fun e_ => Ne4_11.out e_)) : ws2.heap[g4]? = some (.cells #[.int .u64 s0, .int .u64 s1, .int .i64 s2, .int .i64 s3, .int .i64 s4] 26 (0, 0)))); have n_B9 := Lib.hid (((by rw [hw]; exact blk_kept B9.out (setAll_kept [.int .u64 s0, .int .u64 s1, .int .i64 s2, .int .i64 s3, .int .i64 s4, .int .u64 0, .slice none 0 0, .slice none 0 0, .bool false] 0 wb11) (fun e_ => Ne9_11.out e_)) : ws2.heap[g9]? = some (.cells #[.int .u64 s0, .int .u64 s1, .int .i64 s2, .int .i64 s3, .int .i64 s4, .slice Ab n cb, .int .u64 0] 65 (0, 0)))); have n_B11 := Lib.hid (((by rw [hw]; exact setAll_box [.int .u64 s0, .int .u64 s1, .int .i64 s2, .int .i64 s3, .int .i64 s4, .int .u64 0, .slice none 0 0, .slice none 0 0, .bool false] B11.out rfl) : ws2.heap[g11]? = some (.cells #[.int .u64 s0, .int .u64 s1, .int .i64 s2, .int .i64 s3, .int .i64 s4, .int .u64 0, .slice none 0 0, .slice none 0 0, .bool false] 30 (0, 0)))); have n_HS := Lib.hid ((by rw [hw]; exact Kd.N_kept HS.out (setAll_kept [.int .u64 s0, .int .u64 s1, .int .i64 s2, .int .i64 s3, .int .i64 s4, .int .u64 0, .slice none 0 0, .slice none 0 0, .bool false] 0 wb11) (fun k hk => (by first | exact hk | exact hk.1 | exact hk.2 | exact hk.1.1 | exact hk.1.2 | exact hk.2.1 | exact hk.2.2)) : Kd.N O2 28 ws2 w.heap.size (fun k => k ≠ g9 ∧ k ≠ g11) (.slice Ab n cb) bs)); have n_HB := Lib.hid ((by rw [hw]; exact setAll_below Eg11.out [.int .u64 s0, .int .u64 s1, .int .i64 s2, .int .i64 s3, .int .i64 s4, .int .u64 0, .slice none 0 0, .slice none 0 0, .bool false] 0 wb11 HB.out : Below w.heap.size w ws2)); clear B4 B9 B11 HS HB; have B4 := n_B4; have B9 := n_B9; have B11 := n_B11; have HS := n_HS; have HB := n_HB; clear n_B4 n_B9 n_B11 n_HS n_HB; clear hw; have p4_0 := (blk_cell B4.out 0).trans rfl; have p4_1 := (blk_cell B4.out 1).trans rfl; have p4_2 := (blk_cell B4.out 2).trans rfl; have p4_3 := (blk_cell B4.out 3).trans rfl; have p4_4 := (blk_cell B4.out 4).trans rfl; have p9_0 := (blk_cell B9.out 0).trans rfl; have p9_1 := (blk_cell B9.out 1).trans rfl; have p9_2 := (blk_cell B9.out 2).trans rfl; have p9_3 := (blk_cell B9.out 3).trans rfl; have p9_4 := (blk_cell B9.out 4).trans rfl; have p9_5 := (blk_cell B9.out 5).trans rfl; have p9_6 := (blk_cell B9.out 6).trans rfl; have p11_0 := (blk_cell B11.out 0).trans rfl; have p11_1 := (blk_cell B11.out 1).trans rfl; have p11_2 := (blk_cell B11.out 2).trans rfl; have p11_3 := (blk_cell B11.out 3).trans rfl; have p11_4 := (blk_cell B11.out 4).trans rfl; have p11_5 := (blk_cell B11.out 5).trans rfl; have p11_6 := (blk_cell B11.out 6).trans rfl; have p11_7 := (blk_cell B11.out 7).trans rfl; have p11_8 := (blk_cell B11.out 8).trans rfl; skip))
  go_loopw [40, 12] (fun vi v12 wr => ∃ (k : Nat) (a x : Nat) (ix : List Nat) (held : List S83) (dn : Bool) (Ab : Option Addr) (cb : Nat) (A7 : Option Addr) (c7 : Nat) (A8 : Option Addr) (c8 : Nat) (As : Option Addr) (cs : Nat), vi = .int .i64 k ∧ v12 = (.slice As ix.length cs : Value) ∧ k ≤ np ∧ Hid (a ≤ n ∧ (ix = [] → a = 0) ∧ ix.length ≤ 2003 ∧ (∀ i ∈ ix, i < bs.length) ∧ GoodIn bs x held dn ∧ k ≤ 401) ∧ Hid (wr.heap[g4]? = some (.cells #[.int .u64 s0, .int .u64 s1, .int .i64 s2, .int .i64 s3, .int .i64 s4] 26 (0, 0))) ∧ Hid (wr.heap[g9]? = some (.cells #[.int .u64 s0, .int .u64 s1, .int .i64 s2, .int .i64 s3, .int .i64 s4, .slice Ab n cb, .int .u64 (a : Int)] 65 (0, 0))) ∧ Hid (Kd.N O2 28 wr w.heap.size (fun k => (k ≠ g9 ∧ k ≠ g11) ∧ some k ≠ (.slice As ix.length cs : Value).ownBlock) (.slice Ab n cb) bs) ∧ Hid (wr.heap[g11]? = some (.cells #[.int .u64 s0, .int .u64 s1, .int .i64 s2, .int .i64 s3, .int .i64 s4, .int .u64 (x : Int), .slice A7 held.length c7, .slice A8 (came bs x).length c8, .bool dn] 30 (0, 0))) ∧ Hid (Kd.V k83 83 wr w.heap.size (fun k => (k ≠ g9 ∧ k ≠ g11) ∧ some k ≠ (.slice As ix.length cs : Value).ownBlock) (.slice A7 held.length c7) held) ∧ Hid (Kd.N E1 101 wr w.heap.size (fun k => (k ≠ g9 ∧ k ≠ g11) ∧ some k ≠ (.slice As ix.length cs : Value).ownBlock) (.slice A8 (came bs x).length c8) (came bs x)) ∧ Hid (Kd.N k52 52 wr w.heap.size (fun k => k ≠ g9 ∧ k ≠ g11) (.slice As ix.length cs : Value) (ix.map (msgAt s0 s1 s2 s3 s4 bs))) ∧ Hid (Below w.heap.size w wr)) (fun vi _ _ => np - (intOf vi).toNat)
  case atStart => exact ⟨0, 0, 0, [], [], false, Ab, cb, none, 0, none, 0, none, 0, rfl, rfl, Nat.zero_le _, Lib.hid ⟨by omega, fun _ => rfl, by simp, fun i hi => (by cases hi), ⟨by omega, (decide_eq_false (by rw [HNB.out]; have := HN1.out; omega)).symm, [], rfl, trivial⟩, by omega⟩, B4, B9, Lib.hid (Kd.N_mono HS.out (fun k hk => ⟨hk, by simp [Value.ownBlock]⟩)), B11, Lib.hid (Kd.V_nil _ _ _ _ _), Lib.hid (Kd.N_nil _ _ _ _ _), Lib.hid (Kd.N_nil _ _ _ _ _), HB⟩
  case round =>
    (try clear p4_0); (try clear p4_1); (try clear p4_2); (try clear p4_3); (try clear p4_4); (try clear p9_0); (try clear p9_1); (try clear p9_2); (try clear p9_3); (try clear p9_4); (try clear p9_5); (try clear p9_6); (try clear p11_0); (try clear p11_1); (try clear p11_2); (try clear p11_3); (try clear p11_4); (try clear p11_5); (try clear p11_6); (try clear p11_7); (try clear p11_8); skip
    clear B4 B9 B11 HS HB
    obtain ⟨k, a, x, ix, held, dn, Ab, cb, A7, c7, A8, c8, As, cs, rfl, rfl, hk, HX, B4, B9, HS, B11, HH, HR, HT, HB⟩ := hrel
    by_cases hlt : k < np
    · have hjj : (k : Int) < (np : Int) := by omega
      have hj0 : (0 : Int) ≤ (k : Int) := by omega
      obtain ⟨ad, cp_, eA, _, hK_, hc_⟩ := Kd.C_get (Kd.C_below HP.out HB.out) (0 : Int) (k : Int) hj0 hjj
      obtain ⟨p, hp_⟩ : ∃ z, z = picks.getD (Int.toNat (k : Int)) 0 := ⟨_, rfl⟩
      rw [← hp_] at hK_
      have ec : cp_ = [.int .i64 p] := hK_
      subst ec eA
      have x0 := hc_ 0 _ rfl
      clear hc_ hK_ hp_
      simp only [Int.toNat_natCast, Nat.add_zero, show Kd.sz (Kd.int .i64) = 1 from rfl, Nat.mul_one] at x0
      by_cases h400 : 400 < k
      · have hd4 : decide ((400 : Int) < (k : Int)) = true := decide_eq_true (by omega)
        have hd4' : decide (400 < k) = true := decide_eq_true h400
        go_wp2
        have hcl := HCL.out x
        have hgg := HX.out.2.2.2.2.1
        have hm2 := HM2.out
        have hc2_ := HC2.out
        have g1 : decide ((m2 : Int) < ((came bs x).length : Int)) = false := decide_eq_false (by omega)
        have g1' : decide (m2 < (came bs x).length) = false := decide_eq_false (by omega)
        have g2' : (came bs x).length ≤ c2 := by omega
        have g3 : ((came bs x).length : Int) ≤ (c2 : Int) := by omega
        have g4' : (0 : Int) ≤ ((came bs x).length : Int) := by omega
        have HCX := Lib.hid hcl
        have HGG := Lib.hid hgg
        clear hcl hgg hm2 hc2_
        refine start_ (n := 17) (S := fun w' => w'.cell? ⟨g11, 7, none⟩ = some (.slice A8 (came bs x).length c8)) (ds := []) #[false, false, false, false, false, false, false, false, false, false, false, false, false, false, false, false, false] (by kernel_rfl) rfl rfl ((blk_cell (blk_drew B11.out) 7).trans rfl) (fun hHeld => ?_)
        generalize hw8 : World.drew _ = we at hHeld ⊢
        have n_B11 := Lib.hid (show we.heap[g11]? = some (.cells #[.int .u64 s0, .int .u64 s1, .int .i64 s2, .int .i64 s3, .int .i64 s4, .int .u64 (x : Int), .slice A7 held.length c7, .slice A8 (came bs x).length c8, .bool dn] 30 (0, 0)) from (by rw [← hw8]; exact blk_drew B11.out))
        have n_HR := Lib.hid (show Kd.N E1 101 we w.heap.size (fun k => (k ≠ g9 ∧ k ≠ g11) ∧ some k ≠ (.slice As ix.length cs : Value).ownBlock) (.slice A8 (came bs x).length c8) (came bs x) from (by rw [← hw8]; exact Kd.N_drew HR.out))
        have n_HB := Lib.hid (show Below w.heap.size w we from (by rw [← hw8]; exact below_drew1 HB.out))
        clear B11 HR HB hw8
        have B11 := n_B11
        have HR := n_HR
        have HB := n_HB
        clear n_B11 n_HR n_HB
        refine pure_ (i := 0) (N := some 119) (v := ?_) (a' := ?_) #[true, false, false, false, false, false, false, false, false, false, false, false, false, false, false, false, false] rfl rfl (by kernel_rfl) (fun _ _ _ h => h) (Or.inl ⟨by rfl, ?_⟩) ?_ ?_
        rotate_left
        · intro w'
          go_simp
          with_reducible rfl
        rotate_left
        · simp only [Act.put, List.setIfInBounds_toArray, List.set_cons_zero, List.set_cons_succ, i64_w, i32_w]
          rfl
        refine take_ (i := 1) (N := some 120) (v := ?_) (a' := ?_) #[true, true, false, false, false, false, false, false, false, false, false, false, false, false, false, false, false] rfl rfl (by kernel_rfl) (fun _ _ _ h => h) (Or.inl ⟨by rfl, ?_⟩) hHeld ?_ ?_
        rotate_left
        · rintro w' s0_
          go_simp
          with_reducible rfl
        rotate_left
        · simp only [Act.put, List.setIfInBounds_toArray, List.set_cons_zero, List.set_cons_succ, i64_w, i32_w]
          rfl
        refine pure_ (i := 2) (N := some 121) (v := ?_) (a' := ?_) #[true, true, true, false, false, false, false, false, false, false, false, false, false, false, false, false, false] rfl rfl (by kernel_rfl) (fun _ _ _ h => h) (Or.inl ⟨by rfl, ?_⟩) ?_ ?_
        rotate_left
        · intro w'
          go_simp
          with_reducible rfl
        rotate_left
        · simp only [Act.put, List.setIfInBounds_toArray, List.set_cons_zero, List.set_cons_succ, i64_w, i32_w]
          rfl
        refine pure_ (i := 3) (N := some 122) (v := ?_) (a' := ?_) #[true, true, true, true, false, false, false, false, false, false, false, false, false, false, false, false, false] rfl rfl (by kernel_rfl) (fun _ _ _ h => h) (Or.inl ⟨by rfl, ?_⟩) ?_ ?_
        rotate_left
        · intro w'
          go_simp
          with_reducible rfl
        rotate_left
        · simp only [Act.put, List.setIfInBounds_toArray, List.set_cons_zero, List.set_cons_succ, i64_w, i32_w]
          rfl
        refine pure_ (i := 4) (N := some 123) (v := ?_) (a' := ?_) #[true, true, true, true, true, false, false, false, false, false, false, false, false, false, false, false, false] rfl rfl (by kernel_rfl) (fun _ _ _ h => h) (Or.inl ⟨by rfl, ?_⟩) ?_ ?_
        rotate_left
        · intro w'
          go_simp
          with_reducible rfl
        rotate_left
        · simp only [Act.put, List.setIfInBounds_toArray, List.set_cons_zero, List.set_cons_succ, i64_w, i32_w]
          rfl
        refine pure_ (i := 5) (N := some 124) (v := ?_) (a' := ?_) #[true, true, true, true, true, true, false, false, false, false, false, false, false, false, false, false, false] rfl rfl (by kernel_rfl) (fun _ _ _ h => h) (Or.inl ⟨by rfl, ?_⟩) ?_ ?_
        rotate_left
        · intro w'
          go_simp
          with_reducible rfl
        rotate_left
        · simp only [Act.put, List.setIfInBounds_toArray, List.set_cons_zero, List.set_cons_succ, i64_w, i32_w]
          rfl
        refine pure_ (i := 6) (N := some 125) (v := ?_) (a' := ?_) #[true, true, true, true, true, true, true, false, false, false, false, false, false, false, false, false, false] rfl rfl (by kernel_rfl) (fun _ _ _ h => h) (Or.inl ⟨by rfl, ?_⟩) ?_ ?_
        rotate_left
        · intro w'
          go_simp
          with_reducible rfl
        rotate_left
        · simp only [Act.put, List.setIfInBounds_toArray, List.set_cons_zero, List.set_cons_succ, i64_w, i32_w]
          rfl
        refine pure_ (i := 7) (N := some 126) (v := ?_) (a' := ?_) #[true, true, true, true, true, true, true, true, false, false, false, false, false, false, false, false, false] rfl rfl (by kernel_rfl) (fun _ _ _ h => h) (Or.inl ⟨by rfl, ?_⟩) ?_ ?_
        rotate_left
        · intro w'
          go_simp
          with_reducible rfl
        rotate_left
        · simp only [Act.put, List.setIfInBounds_toArray, List.set_cons_zero, List.set_cons_succ, i64_w, i32_w]
          rfl
        refine take_ (i := 8) (N := some 127) (v := ?_) (a' := ?_) #[true, true, true, true, true, true, true, true, true, false, false, false, false, false, false, false, false] rfl rfl (by kernel_rfl) (fun _ _ _ h => h) (Or.inl ⟨by rfl, ?_⟩) hHeld ?_ ?_
        rotate_left
        · rintro w' s0_
          go_simp
          with_reducible rfl
        rotate_left
        · simp only [Act.put, List.setIfInBounds_toArray, List.set_cons_zero, List.set_cons_succ, i64_w, i32_w]
          rfl
        refine pure_ (i := 9) (N := some 128) (v := ?_) (a' := ?_) #[true, true, true, true, true, true, true, true, true, true, false, false, false, false, false, false, false] rfl rfl (by kernel_rfl) (fun _ _ _ h => h) (Or.inl ⟨by rfl, ?_⟩) ?_ ?_
        rotate_left
        · intro w'
          go_simp
          with_reducible rfl
        rotate_left
        · simp only [Act.put, List.setIfInBounds_toArray, List.set_cons_zero, List.set_cons_succ, i64_w, i32_w]
          rfl
        refine pure_ (i := 10) (N := some 129) (v := ?_) (a' := ?_) #[true, true, true, true, true, true, true, true, true, true, true, false, false, false, false, false, false] rfl rfl (by kernel_rfl) (fun _ _ _ h => h) (Or.inl ⟨by rfl, ?_⟩) ?_ ?_
        rotate_left
        · intro w'
          go_simp
          with_reducible rfl
        rotate_left
        · simp only [Act.put, List.setIfInBounds_toArray, List.set_cons_zero, List.set_cons_succ, i64_w, i32_w]
          rfl
        refine take_ (i := 11) (N := some 130) (v := ?_) (a' := ?_) #[true, true, true, true, true, true, true, true, true, true, true, true, false, false, false, false, false] rfl rfl (by kernel_rfl) (fun _ _ _ h => h) (Or.inl ⟨by rfl, ?_⟩) hHeld ?_ ?_
        rotate_left
        · rintro w' s0_
          go_simp
          with_reducible rfl
        rotate_left
        · simp only [Act.put, List.setIfInBounds_toArray, List.set_cons_zero, List.set_cons_succ, i64_w, i32_w]
          rfl
        refine pure_ (i := 12) (N := some 131) (v := ?_) (a' := ?_) #[true, true, true, true, true, true, true, true, true, true, true, true, true, false, false, false, false] rfl rfl (by kernel_rfl) (fun _ _ _ h => h) (Or.inl ⟨by rfl, ?_⟩) ?_ ?_
        rotate_left
        · intro w'
          go_simp
          with_reducible rfl
        rotate_left
        · simp only [Act.put, List.setIfInBounds_toArray, List.set_cons_zero, List.set_cons_succ, i64_w, i32_w]
          rfl
        refine pure_ (i := 13) (N := some 132) (v := ?_) (a' := ?_) #[true, true, true, true, true, true, true, true, true, true, true, true, true, true, false, false, false] rfl rfl (by kernel_rfl) (fun _ _ _ h => h) (Or.inl ⟨by rfl, ?_⟩) ?_ ?_
        rotate_left
        · intro w'
          go_simp
          with_reducible rfl
        rotate_left
        · simp only [Act.put, List.setIfInBounds_toArray, List.set_cons_zero, List.set_cons_succ, i64_w, i32_w]
          rfl
        refine one_ (i := 14) (N := some 133) #[true, true, true, true, true, true, true, true, true, true, true, true, true, true, true, false, false] rfl rfl (by kernel_rfl) (by decide) (fun K hK => ?_)
        clear hHeld
        refine goes_ Try.func20 (by kernel_rfl) rfl #[.slice A8 (came bs x).length c8, .slice A2 (came bs x).length c2] (by rfl) rfl rfl (by (try simp only [List.map_toArray, List.map_cons, List.map_nil]); first | done | rfl) ?_
        have hn_ := Kd.N_reads' HR.out
        have h4_ := Kd.C_take (m := (came bs x).length) (by rw [HRL.out]; exact Kd.C_below HR2.out HB.out) (by rw [HRL.out]; exact HCX.out.1)
        rw [← HCX.out.2.1] at h4_
        refine (HSM.out x _ HB.out A8 c8 hn_.2.2 hn_.2.1 A2 c2 h4_ g2').mono ?_
        rintro e wo ⟨rfl, hb⟩
        refine ⟨_, rfl, ?_⟩
        clear hn_ h4_
        have n_B11 := Lib.hid (show wo.heap[g11]? = some (.cells #[.int .u64 s0, .int .u64 s1, .int .i64 s2, .int .i64 s3, .int .i64 s4, .int .u64 (x : Int), .slice A7 held.length c7, .slice A8 (came bs x).length c8, .bool dn] 30 (0, 0)) from blk_below B11.out hb)
        have n_HB := Lib.hid (show Below w.heap.size w wo from below_step HB.out hb)
        clear B11 HB HR hb
        have B11 := n_B11
        have HB := n_HB
        clear n_B11 n_HB
        refine hK.out _ _ ((blk_cell B11.out 7).trans rfl) (fun hHeld => ?_)
        clear hK K
        refine norm_ (a' := ?_) ?_ ?_
        rotate_left
        · show Act.put _ (some 133) _ = _
          simp only [Act.put, List.setIfInBounds_toArray, List.set_cons_zero, List.set_cons_succ, i64_w, i32_w]
          rfl
        refine pure_ (i := 15) (N := some 134) (v := ?_) (a' := ?_) #[true, true, true, true, true, true, true, true, true, true, true, true, true, true, true, true, false] rfl rfl (by kernel_rfl) (fun _ _ _ h => h) (Or.inl ⟨by rfl, ?_⟩) ?_ ?_
        rotate_left
        · intro w'
          go_simp
          with_reducible rfl
        rotate_left
        · simp only [Act.put, List.setIfInBounds_toArray, List.set_cons_zero, List.set_cons_succ, i64_w, i32_w]
          rfl
        refine pure_ (i := 16) (N := some 135) (v := ?_) (a' := ?_) #[true, true, true, true, true, true, true, true, true, true, true, true, true, true, true, true, true] rfl rfl (by kernel_rfl) (fun _ _ _ h => h) (Or.inl ⟨by rfl, ?_⟩) ?_ ?_
        rotate_left
        · intro w'
          go_simp
          with_reducible rfl
        rotate_left
        · simp only [Act.put, List.setIfInBounds_toArray, List.set_cons_zero, List.set_cons_succ, i64_w, i32_w]
          rfl
        refine done_ (by kernel_rfl) ?_
        clear hHeld
        have p11_8 := (show World.cell? _ ⟨g11, 8, none⟩ = some (.bool dn) from blk_cell B11.out 8)
        have p11_7 := (show World.cell? _ ⟨g11, 7, none⟩ = some (.slice A8 (came bs x).length c8) from blk_cell B11.out 7)
        cases dn with
        | false =>
          go_wp2
          go_ret
          exact ⟨rfl, HB.out⟩
        | true =>
          have hl_ : (came bs x).length = m2 := HCX.out.2.2 (by have h_ := HGG.out.2.1; simp at h_; omega)
          have e1 : ((came bs x).length == m2) = true := by simp [hl_]
          have e2 : (((came bs x).length : Int) == (m2 : Int)) = true := by simp [hl_]
          clear hl_
          go_wp2
          go_ret
          exact ⟨rfl, HB.out⟩
      · have hd4 : decide ((400 : Int) < (k : Int)) = false := decide_eq_false (by omega)
        have hd4' : decide (400 < k) = false := decide_eq_false h400
        have hxx := HX.out
        have HAN := Lib.hid hxx.1
        clear hxx
        obtain ⟨ms, hms⟩ : ∃ z, z = sendV s0 s1 s2 s3 s4 bs a := ⟨_, rfl⟩
        obtain ⟨m, hm⟩ : ∃ z, z = ms.length := ⟨_, rfl⟩
        have hml : m = min 4 (n - a) := by rw [hm, hms, sendV_length, HNB.out]
        have hms2 : ms = ((List.range m).map (fun j => a + j)).map (msgAt s0 s1 s2 s3 s4 bs) := by rw [hml, hms, sendV, HNB.out, List.map_map]; rfl
        have HMS2 := Lib.hid hms2
        clear hms2
        have HML := Lib.hid hm
        have HMS := Lib.hid hms
        have HMN := Lib.hid hml
        have e1 : decide ((4 : Int) < (m : Int)) = false := decide_eq_false (by omega)
        have e1' : decide (4 < m) = false := decide_eq_false (by omega)
        clear hm hms hml
        have p9_0 := (show World.cell? _ ⟨g9, 0, none⟩ = some (.int .u64 s0) from blk_cell B9.out 0)
        have p9_1 := (show World.cell? _ ⟨g9, 1, none⟩ = some (.int .u64 s1) from blk_cell B9.out 1)
        have p9_2 := (show World.cell? _ ⟨g9, 2, none⟩ = some (.int .i64 s2) from blk_cell B9.out 2)
        have p9_3 := (show World.cell? _ ⟨g9, 3, none⟩ = some (.int .i64 s3) from blk_cell B9.out 3)
        have p9_4 := (show World.cell? _ ⟨g9, 4, none⟩ = some (.int .i64 s4) from blk_cell B9.out 4)
        have p9_5 := (show World.cell? _ ⟨g9, 5, none⟩ = some (.slice Ab n cb) from blk_cell B9.out 5)
        have p9_6 := (show World.cell? _ ⟨g9, 6, none⟩ = some (.int .u64 (a : Int)) from blk_cell B9.out 6)
        go_upto_if 61 with (first
          | (go_at_call 24; refine (HSD.out a HAN.out _ _ Ab cb (Kd.N_V HS.out)).mono ?_; rintro e w5 ⟨v0, rfl, hm_, hb⟩; rw [← HMS.out] at hm_; have lt_ := Kd.N_lt HT.out; have HM := Lib.hid (show Kd.N k52 52 w5 w.heap.size (fun k => (k ≠ g9 ∧ k ≠ g11) ∧ some k ≠ (.slice As ix.length cs : Value).ownBlock) v0 ms from Kd.N_lower (Kd.N_mono hm_ (fun k hk => by have l9_ := blk_lt B9.out; have l11_ := blk_lt B11.out; rcases hk with h_ | h_ <;> first | exact h_ | exact ⟨⟨by omega, by omega⟩, fun e_ => by have := lt_ k e_.symm; omega⟩)) HB.out.size); obtain ⟨Am, cm, em⟩ := Kd.N_slice HM.out; rw [← HML.out] at em; subst em; (try clear p9_0); (try clear p9_1); (try clear p9_2); (try clear p9_3); (try clear p9_4); (try clear p9_5); (try clear p9_6); have n_B4 := Lib.hid (show w5.heap[g4]? = some (.cells #[.int .u64 s0, .int .u64 s1, .int .i64 s2, .int .i64 s3, .int .i64 s4] 26 (0, 0)) from blk_below B4.out hb); have n_B9 := Lib.hid (show w5.heap[g9]? = some (.cells #[.int .u64 s0, .int .u64 s1, .int .i64 s2, .int .i64 s3, .int .i64 s4, .slice Ab n cb, .int .u64 (a : Int)] 65 (0, 0)) from blk_below B9.out hb); have n_HS := Lib.hid (show Kd.N O2 28 w5 w.heap.size (fun k => (k ≠ g9 ∧ k ≠ g11) ∧ some k ≠ (.slice As ix.length cs : Value).ownBlock) (.slice Ab n cb) bs from Kd.N_below HS.out hb); have n_B11 := Lib.hid (show w5.heap[g11]? = some (.cells #[.int .u64 s0, .int .u64 s1, .int .i64 s2, .int .i64 s3, .int .i64 s4, .int .u64 (x : Int), .slice A7 held.length c7, .slice A8 (came bs x).length c8, .bool dn] 30 (0, 0)) from blk_below B11.out hb); have n_HH := Lib.hid (show Kd.V k83 83 w5 w.heap.size (fun k => (k ≠ g9 ∧ k ≠ g11) ∧ some k ≠ (.slice As ix.length cs : Value).ownBlock) (.slice A7 held.length c7) held from Kd.V_below HH.out hb); have n_HR := Lib.hid (show Kd.N E1 101 w5 w.heap.size (fun k => (k ≠ g9 ∧ k ≠ g11) ∧ some k ≠ (.slice As ix.length cs : Value).ownBlock) (.slice A8 (came bs x).length c8) (came bs x) from Kd.N_below HR.out hb); have n_HT := Lib.hid (show Kd.N k52 52 w5 w.heap.size (fun k => k ≠ g9 ∧ k ≠ g11) (.slice As ix.length cs : Value) (ix.map (msgAt s0 s1 s2 s3 s4 bs)) from Kd.N_below HT.out hb); have n_HB := Lib.hid (show Below w.heap.size w w5 from below_step HB.out hb); clear B4 B9 HS B11 HH HR HT HB; have B4 := n_B4; have B9 := n_B9; have HS := n_HS; have B11 := n_B11; have HH := n_HH; have HR := n_HR; have HT := n_HT; have HB := n_HB; clear n_B4 n_B9 n_HS n_B11 n_HH n_HR n_HT n_HB; clear hb hm_ lt_; skip))
        go_cut [12] (fun v12 wc => ∃ (ix' : List Nat) (As' : Option Addr) (cs' : Nat), v12 = (.slice As' ix'.length cs' : Value) ∧ Hid (ix' ≠ [] ∧ ix'.length ≤ 2003 ∧ (∀ i ∈ ix', i < bs.length)) ∧ Hid (wc.heap[g4]? = some (.cells #[.int .u64 s0, .int .u64 s1, .int .i64 s2, .int .i64 s3, .int .i64 s4] 26 (0, 0))) ∧ Hid (wc.heap[g9]? = some (.cells #[.int .u64 s0, .int .u64 s1, .int .i64 s2, .int .i64 s3, .int .i64 s4, .slice Ab n cb, .int .u64 (a : Int)] 65 (0, 0))) ∧ Hid (Kd.N O2 28 wc w.heap.size (fun k => (k ≠ g9 ∧ k ≠ g11) ∧ some k ≠ (.slice As' ix'.length cs' : Value).ownBlock) (.slice Ab n cb) bs) ∧ Hid (wc.heap[g11]? = some (.cells #[.int .u64 s0, .int .u64 s1, .int .i64 s2, .int .i64 s3, .int .i64 s4, .int .u64 (x : Int), .slice A7 held.length c7, .slice A8 (came bs x).length c8, .bool dn] 30 (0, 0))) ∧ Hid (Kd.V k83 83 wc w.heap.size (fun k => (k ≠ g9 ∧ k ≠ g11) ∧ some k ≠ (.slice As' ix'.length cs' : Value).ownBlock) (.slice A7 held.length c7) held) ∧ Hid (Kd.N E1 101 wc w.heap.size (fun k => (k ≠ g9 ∧ k ≠ g11) ∧ some k ≠ (.slice As' ix'.length cs' : Value).ownBlock) (.slice A8 (came bs x).length c8) (came bs x)) ∧ Hid (Kd.N k52 52 wc w.heap.size (fun k => k ≠ g9 ∧ k ≠ g11) (.slice As' ix'.length cs' : Value) (ix'.map (msgAt s0 s1 s2 s3 s4 bs))) ∧ Hid (Below w.heap.size w wc))
        case first =>
          by_cases h2 : ix.length < 2000
          · have hl2 : decide ((ix.length : Int) < 2000) = true := decide_eq_true (by omega)
            have hl2' : decide (ix.length < 2000) = true := decide_eq_true h2
            go_wp2_with (first
              | ((with_reducible refine gate_builtin (b := .append) (xs := #[.tmp 62, .tmp 63]) rfl ?_); at_builtin; refine Kd.N_append_rows k52 (w0 := w) w.heap.size rfl (.tmp 62) (.tmp 63) 72 52 (.agg #[.int .u8 0, .int .u64 0, .int .u64 0, .int .u64 0, .int .i64 0, .int .i64 0, .int .i64 0, .string (⟨#[]⟩ : ByteArray), .string (⟨#[]⟩ : ByteArray), .int .i64 0, .int .i64 0, .int .i64 0, .slice none 0 0, .slice none 0 0, .slice none 0 0, .bool false, .slice none 0 0, .slice none 0 0, .slice none 0 0, .int .i64 0, .int .i64 0, .int .u8 0, .string (⟨#[]⟩ : ByteArray), .int .u64 0, .int .u64 0, .int .i64 0, .slice none 0 0, .int .u8 0, .string (⟨#[]⟩ : ByteArray), .int .u64 0, .int .u64 0, .int .i64 0, .slice none 0 0, .bool false, .int .i64 0, .slice none 0 0, .slice none 0 0, .int .u64 0, .bool false, .slice none 0 0, .string (⟨#[]⟩ : ByteArray), .int .u64 0, .int .u64 0, .int .i64 0, .slice none 0 0, .slice none 0 0, .slice none 0 0]) 640 rfl Try.underlying72 info52 rfl (by decide) (by omega) (.slice As ix.length cs : Value) (ix.map (msgAt s0 s1 s2 s3 s4 bs)) ms Am m cm (fun k => k ≠ g9 ∧ k ≠ g11) (fun k => (k ≠ g9 ∧ k ≠ g11) ∧ some k ≠ (.slice As ix.length cs : Value).ownBlock) rfl rfl HT.out ?aR (fun _ hk => hk) ?aF HB.out ?aS ?aL ?_; (case aR => have h_ := HM.out; rw [HML.out] at h_ ⊢; exact Kd.N_F h_); (case aF => exact fun k hk => by have l9_ := blk_lt B9.out; have l11_ := blk_lt B11.out; exact ⟨by omega, by omega⟩); (case aS => exact HB.out.size); (case aL => have hx_ := HX.out; have hm_ := HMN.out; rw [List.length_map]; omega); intro v13 w13 ho hb hg hat; have n_HS := Lib.hid (Kd.N_afterv (ok := (fun k => k ≠ g9 ∧ k ≠ g11)) HS.out hg hat); have n_HH := Lib.hid (Kd.V_afterv (ok := (fun k => k ≠ g9 ∧ k ≠ g11)) HH.out hg hat); have n_HR := Lib.hid (Kd.N_afterv (ok := (fun k => k ≠ g9 ∧ k ≠ g11)) HR.out hg hat); have n_B4 := Lib.hid (blk_grown B4.out hg (Kd.N_ne HT.out B4.out (by decide))); have n_B9 := Lib.hid (blk_grown B9.out hg (Kd.N_ne HT.out B9.out (by decide))); have n_B11 := Lib.hid (blk_grown B11.out hg (Kd.N_ne HT.out B11.out (by decide))); have n_HB := Lib.hid hb; have n_HT := Lib.hid ho; clear HS HH HR B4 B9 B11 HB HT HM hb ho hg hat; have HS := n_HS; have HH := n_HH; have HR := n_HR; have B4 := n_B4; have B9 := n_B9; have B11 := n_B11; have HB := n_HB; have HT := n_HT; clear n_HS n_HH n_HR n_B4 n_B9 n_B11 n_HB n_HT))
            go_meet
            case rel =>
              obtain ⟨ix', hix⟩ : ∃ z, z = ix ++ (List.range m).map (fun j => a + j) := ⟨_, rfl⟩
              have hmap : ix.map (msgAt s0 s1 s2 s3 s4 bs) ++ ms = ix'.map (msgAt s0 s1 s2 s3 s4 bs) := by rw [hix, List.map_append, ← HMS2.out]
              have HT2 := HT.out
              rw [hmap] at HT2
              obtain ⟨Av, cv, ev⟩ := Kd.N_slice HT2
              rw [List.length_map] at ev
              subst ev
              have hx_ := HX.out
              have hm_ := HMN.out
              have hn_ := HN1.out
              have hnb := HNB.out
              refine ⟨ix', Av, cv, rfl, Lib.hid ⟨fun h => ?_, ?_, fun i hi => ?_⟩, B4, B9, HS, B11, HH, HR, Lib.hid HT2, HB⟩
              · rw [hix] at h
                have h1 := List.append_eq_nil_iff.1 h
                have h3 := hx_.2.1 h1.1
                have h4 : m = 0 := by simpa using h1.2
                omega
              · rw [hix]
                simp only [List.length_append, List.length_map, List.length_range]
                omega
              · rw [hix, List.mem_append] at hi
                rcases hi with hi | hi
                · exact hx_.2.2.2.1 i hi
                · obtain ⟨j, hj, rfl⟩ := List.mem_map.1 hi
                  have := List.mem_range.1 hj
                  omega
          · have hl2 : decide ((ix.length : Int) < 2000) = false := decide_eq_false (by omega)
            have hl2' : decide (ix.length < 2000) = false := decide_eq_false h2
            go_wp2
            go_meet
            case rel =>
              have hx_ := HX.out
              exact ⟨ix, As, cs, rfl, Lib.hid ⟨fun h => by rw [h] at h2; simp at h2, hx_.2.2.1, hx_.2.2.2.1⟩, B4, B9, HS, B11, HH, HR, HT, HB⟩
        case rest =>
          clear B4 B9 HS B11 HH HR HT HB HM HML HMS HMS2 HMN e1 e1'
          obtain ⟨ix', As', cs', rfl, HY, B4, B9, HS, B11, HH, HR, HT, HB⟩ := hcut
          have hy_ := HY.out
          have hne : ix'.length ≠ 0 := fun h => hy_.1 (List.eq_nil_of_length_eq_zero h)
          obtain ⟨M, hM⟩ : ∃ z, z = ix'.length := ⟨_, rfl⟩
          rw [← hM] at hne hy_
          have HM := Lib.hid hM
          have ez : ((M : Int) == 0) = false := beq_eq_false_iff_ne.2 (by omega)
          have ez' : (M == 0) = false := beq_eq_false_iff_ne.2 hne
          have hwM := u64_n M (by omega)
          have n_HS := Lib.hid (show Kd.N O2 28 wc w.heap.size (fun k => (k ≠ g9 ∧ k ≠ g11) ∧ some k ≠ (.slice As' M cs' : Value).ownBlock) (.slice Ab n cb) bs from (by rw [hM]; exact HS.out))
          have n_HH := Lib.hid (show Kd.V k83 83 wc w.heap.size (fun k => (k ≠ g9 ∧ k ≠ g11) ∧ some k ≠ (.slice As' M cs' : Value).ownBlock) (.slice A7 held.length c7) held from (by rw [hM]; exact HH.out))
          have n_HR := Lib.hid (show Kd.N E1 101 wc w.heap.size (fun k => (k ≠ g9 ∧ k ≠ g11) ∧ some k ≠ (.slice As' M cs' : Value).ownBlock) (.slice A8 (came bs x).length c8) (came bs x) from (by rw [hM]; exact HR.out))
          have n_HT := Lib.hid (show Kd.N k52 52 wc w.heap.size (fun k => k ≠ g9 ∧ k ≠ g11) (.slice As' M cs' : Value) (ix'.map (msgAt s0 s1 s2 s3 s4 bs)) from (by rw [hM]; exact HT.out))
          clear HS
          have HS := n_HS
          clear n_HS
          clear HH
          have HH := n_HH
          clear n_HH
          clear HR
          have HR := n_HR
          clear n_HR
          clear HT
          have HT := n_HT
          clear n_HT
          rw [← hM]
          clear hM
          go_wp2
          obtain ⟨jn, hj0_, hjM⟩ : ∃ jn : Nat, (IntKind.u64.wrap p).tmod (M : Int) = (jn : Int) ∧ jn < M := by
            have h1 : 0 ≤ IntKind.u64.wrap p := by rw [IntKind.wrap_u64]; omega
            have h2 := Int.tmod_nonneg (M : Int) h1
            have h3 := Int.tmod_lt_of_pos (IntKind.u64.wrap p) (show (0 : Int) < (M : Int) by omega)
            exact ⟨((IntKind.u64.wrap p).tmod (M : Int)).toNat, by omega, by omega⟩
          have hjj2 : (jn : Int) < (M : Int) := Int.ofNat_lt.2 hjM
          have hjj0 : (0 : Int) ≤ (jn : Int) := Int.natCast_nonneg jn
          have hj2 : wrap64 (jn : Int) = (jn : Int) := by unfold wrap64; omega
          obtain ⟨i0, hi0⟩ : ∃ z, z = ix'.getD jn 0 := ⟨_, rfl⟩
          have hjl : jn < ix'.length := by rw [← HM.out]; exact hjM
          have hib : i0 < bs.length := by rw [hi0, List.getD_eq_getElem?_getD, List.getElem?_eq_getElem hjl]; exact hy_.2.2 _ (List.getElem_mem hjl)
          have em : (ix'.map (msgAt s0 s1 s2 s3 s4 bs)).getD jn z52 = msgS s0 s1 s2 s3 s4 (i0 : Int) (decide (i0 + 1 = bs.length)) (bs.getD i0 []) := by
            rw [List.getD_eq_getElem?_getD, List.getElem?_map, List.getElem?_eq_getElem hjl, Option.map_some, Option.getD_some, hi0, List.getD_eq_getElem?_getD, List.getElem?_eq_getElem hjl, Option.getD_some]
            rfl
          obtain ⟨hfit, x', held', dn', er, htk, her_, hxx, hgd⟩ := HTK.out x held dn HX.out.2.2.2.2.1 i0 hib
          obtain ⟨lst, hlst⟩ : ∃ z, z = decide (i0 + 1 = bs.length) := ⟨_, rfl⟩
          obtain ⟨rw_, hrw⟩ : ∃ z, z = bs.getD i0 [] := ⟨_, rfl⟩
          rw [← hlst, ← hrw] at em htk
          rw [← hrw] at hfit
          obtain ⟨ab, ao, ds, eA, hK_, hR_⟩ := msg_atN HT.out jn (by rw [List.length_map]; exact hjl)
          rw [em] at hK_
          subst eA
          obtain ⟨X12, X13, X14, X16, X17, X18, X26, X32, X35, X36, X39, X44, X45, X46, x12, x13, x14, x16, x17, x18, x26, x32, x35, x36, x39, x44, x45, x46, ec, lc39, fc39⟩ := msg_lit hK_
          have lc : ds.length = 47 := by rw [ec]; rfl
          have LC := Lib.hid lc
          have EC := Lib.hid ec
          have FC := Lib.hid fc39
          have RC := Lib.hid hR_
          have LL := Lib.hid lc39
          have HFT := Lib.hid hfit
          have HTV := Lib.hid htk
          have HER := Lib.hid her_
          have HGD := Lib.hid (And.intro hxx hgd)
          clear hK_ hR_ ec lc39 fc39 lc em hfit htk her_ hxx hgd hlst hrw hi0 hjl hib hjM
          refine start_ (n := 18) (S := fun w' => w'.rangeAt g11 0 [.int .u64 s0, .int .u64 s1, .int .i64 s2, .int .i64 s3, .int .i64 s4, .int .u64 (x : Int), .slice A7 held.length c7, .slice A8 (came bs x).length c8, .bool dn] ∧ w'.rangeAt ab (ao + jn * 47) ds) (ds := [16]) #[false, false, false, false, false, false, false, false, false, false, false, false, false, false, false, false, false, false] (by kernel_rfl) rfl rfl ⟨range_of (blk_drew B11.out) 0 _ (by rfl), (World.rangeAt_drew _ _ _ _).2 RC.out⟩ (fun hHeld => ?_)
          generalize hw8 : World.drew _ = wd at hHeld ⊢
          have n_B4 := Lib.hid (show wd.heap[g4]? = some (.cells #[.int .u64 s0, .int .u64 s1, .int .i64 s2, .int .i64 s3, .int .i64 s4] 26 (0, 0)) from (by rw [← hw8]; exact blk_drew B4.out))
          have n_B9 := Lib.hid (show wd.heap[g9]? = some (.cells #[.int .u64 s0, .int .u64 s1, .int .i64 s2, .int .i64 s3, .int .i64 s4, .slice Ab n cb, .int .u64 (a : Int)] 65 (0, 0)) from (by rw [← hw8]; exact blk_drew B9.out))
          have n_HS := Lib.hid (show Kd.N O2 28 wd w.heap.size (fun k => (k ≠ g9 ∧ k ≠ g11) ∧ some k ≠ (.slice (some ⟨ab, ao, none⟩) M cs' : Value).ownBlock) (.slice Ab n cb) bs from (by rw [← hw8]; exact Kd.N_drew HS.out))
          have n_B11 := Lib.hid (show wd.heap[g11]? = some (.cells #[.int .u64 s0, .int .u64 s1, .int .i64 s2, .int .i64 s3, .int .i64 s4, .int .u64 (x : Int), .slice A7 held.length c7, .slice A8 (came bs x).length c8, .bool dn] 30 (0, 0)) from (by rw [← hw8]; exact blk_drew B11.out))
          have n_HH := Lib.hid (show Kd.V k83 83 wd w.heap.size (fun k => (k ≠ g9 ∧ k ≠ g11) ∧ some k ≠ (.slice (some ⟨ab, ao, none⟩) M cs' : Value).ownBlock) (.slice A7 held.length c7) held from (by rw [← hw8]; exact Kd.V_drew HH.out))
          have n_HR := Lib.hid (show Kd.N E1 101 wd w.heap.size (fun k => (k ≠ g9 ∧ k ≠ g11) ∧ some k ≠ (.slice (some ⟨ab, ao, none⟩) M cs' : Value).ownBlock) (.slice A8 (came bs x).length c8) (came bs x) from (by rw [← hw8]; exact Kd.N_drew HR.out))
          have n_HT := Lib.hid (show Kd.N k52 52 wd w.heap.size (fun k => k ≠ g9 ∧ k ≠ g11) (.slice (some ⟨ab, ao, none⟩) M cs' : Value) (ix'.map (msgAt s0 s1 s2 s3 s4 bs)) from (by rw [← hw8]; exact Kd.N_drew HT.out))
          have n_HB := Lib.hid (show Below w.heap.size w wd from (by rw [← hw8]; exact below_drew1 HB.out))
          have n_FC := Lib.hid (show Kd.F (Kd.slice 112 k112) wd (fun k => (k ≠ g9 ∧ k ≠ g11) ∧ some k ≠ (.slice (some ⟨ab, ao, none⟩) M cs' : Value).ownBlock) X39 rw_.length rw_ from (by rw [← hw8]; exact Kd.F_drew FC.out))
          clear B4 B9 HS B11 HH HR HT HB FC RC hw8
          have B4 := n_B4
          have B9 := n_B9
          have HS := n_HS
          have B11 := n_B11
          have HH := n_HH
          have HR := n_HR
          have HT := n_HT
          have HB := n_HB
          have FC := n_FC
          clear n_B4 n_B9 n_HS n_B11 n_HH n_HR n_HT n_HB n_FC
          refine take_ (i := 0) (N := some 71) (v := .agg (List.toArray [.int .u64 s0, .int .u64 s1, .int .i64 s2, .int .i64 s3, .int .i64 s4, .int .u64 (x : Int), .slice A7 held.length c7, .slice A8 (came bs x).length c8, .bool dn])) (a' := ?aa71) #[true, false, false, false, false, false, false, false, false, false, false, false, false, false, false, false, false, false] rfl rfl (by kernel_rfl) (fun _ _ _ h => h) ?yy71 hHeld ?pp71 ?nn71
          case yy71 => exact yieldsIf_load_mid (by rfl) 30 (.tmp 11) (by rfl) g11 0 (by rfl) _ _ (fun w' s_ => s_.1) Try.underlying30 rfl (by kernel_rfl)
          case pp71 =>
            simp only [Act.put, List.setIfInBounds_toArray, List.set_cons_zero, List.set_cons_succ, i64_w, i32_w]
            rfl
          refine pure_ (i := 1) (N := some 72) (v := ?_) (a' := ?_) #[true, true, false, false, false, false, false, false, false, false, false, false, false, false, false, false, false, false] rfl rfl (by kernel_rfl) (fun _ _ _ h => h) (Or.inl ⟨by rfl, ?_⟩) ?_ ?_
          rotate_left
          · intro w'
            go_simp
            with_reducible rfl
          rotate_left
          · simp only [Act.put, List.setIfInBounds_toArray, List.set_cons_zero, List.set_cons_succ, i64_w, i32_w]
            rfl
          refine pure_ (i := 2) (N := some 73) (v := ?_) (a' := ?_) #[true, true, true, false, false, false, false, false, false, false, false, false, false, false, false, false, false, false] rfl rfl (by kernel_rfl) (fun _ _ _ h => h) (Or.inl ⟨by rfl, ?_⟩) ?_ ?_
          rotate_left
          · intro w'
            go_simp
            with_reducible rfl
          rotate_left
          · simp only [Act.put, List.setIfInBounds_toArray, List.set_cons_zero, List.set_cons_succ, i64_w, i32_w]
            rfl
          refine pure_ (i := 3) (N := some 74) (v := ?_) (a' := ?_) #[true, true, true, true, false, false, false, false, false, false, false, false, false, false, false, false, false, false] rfl rfl (by kernel_rfl) (fun _ _ _ h => h) (Or.inl ⟨by rfl, ?_⟩) ?_ ?_
          rotate_left
          · intro w'
            go_simp
            with_reducible rfl
          rotate_left
          · simp only [Act.put, List.setIfInBounds_toArray, List.set_cons_zero, List.set_cons_succ, i64_w, i32_w]
            rfl
          refine pure_ (i := 4) (N := some 75) (v := ?_) (a' := ?_) #[true, true, true, true, true, false, false, false, false, false, false, false, false, false, false, false, false, false] rfl rfl (by kernel_rfl) (fun _ _ _ h => h) (Or.inl ⟨by rfl, ?_⟩) ?_ ?_
          rotate_left
          · intro w'
            go_simp
            with_reducible rfl
          rotate_left
          · simp only [Act.put, List.setIfInBounds_toArray, List.set_cons_zero, List.set_cons_succ, i64_w, i32_w]
            rfl
          refine pure_ (i := 5) (N := some 76) (v := ?_) (a' := ?_) #[true, true, true, true, true, true, false, false, false, false, false, false, false, false, false, false, false, false] rfl rfl (by kernel_rfl) (fun _ _ _ h => h) (Or.inl ⟨by rfl, ?_⟩) ?_ ?_
          rotate_left
          · intro w'
            go_simp
            with_reducible rfl
          rotate_left
          · simp only [Act.put, List.setIfInBounds_toArray, List.set_cons_zero, List.set_cons_succ, i64_w, i32_w]
            rfl
          refine pure_ (i := 6) (N := some 77) (v := ?_) (a' := ?_) #[true, true, true, true, true, true, true, false, false, false, false, false, false, false, false, false, false, false] rfl rfl (by kernel_rfl) (fun _ _ _ h => h) (Or.inl ⟨by rfl, ?_⟩) ?_ ?_
          rotate_left
          · intro w'
            go_simp
            with_reducible rfl
          rotate_left
          · simp only [Act.put, List.setIfInBounds_toArray, List.set_cons_zero, List.set_cons_succ, i64_w, i32_w]
            rfl
          refine pure_ (i := 7) (N := some 78) (v := ?_) (a' := ?_) #[true, true, true, true, true, true, true, true, false, false, false, false, false, false, false, false, false, false] rfl rfl (by kernel_rfl) (fun _ _ _ h => h) (Or.inl ⟨by rfl, ?_⟩) ?_ ?_
          rotate_left
          · intro w'
            go_simp
            with_reducible rfl
          rotate_left
          · simp only [Act.put, List.setIfInBounds_toArray, List.set_cons_zero, List.set_cons_succ, i64_w, i32_w]
            rfl
          refine pure_ (i := 8) (N := some 79) (v := ?_) (a' := ?_) #[true, true, true, true, true, true, true, true, true, false, false, false, false, false, false, false, false, false] rfl rfl (by kernel_rfl) (fun _ _ _ h => h) (Or.inl ⟨by rfl, ?_⟩) ?_ ?_
          rotate_left
          · intro w'
            go_simp
            with_reducible rfl
          rotate_left
          · simp only [Act.put, List.setIfInBounds_toArray, List.set_cons_zero, List.set_cons_succ, i64_w, i32_w]
            rfl
          refine pure_ (i := 9) (N := some 80) (v := ?_) (a' := ?_) #[true, true, true, true, true, true, true, true, true, true, false, false, false, false, false, false, false, false] rfl rfl (by kernel_rfl) (fun _ _ _ h => h) (Or.inl ⟨by rfl, ?_⟩) ?_ ?_
          rotate_left
          · intro w'
            go_simp
            with_reducible rfl
          rotate_left
          · simp only [Act.put, List.setIfInBounds_toArray, List.set_cons_zero, List.set_cons_succ, i64_w, i32_w]
            rfl
          refine take_ (i := 10) (N := some 81) (v := .agg ds.toArray) (a' := ?aa81) #[true, true, true, true, true, true, true, true, true, true, true, false, false, false, false, false, false, false] rfl rfl (by kernel_rfl) (fun _ _ _ h => h) ?yy81 hHeld ?pp81 ?nn81
          case yy81 => exact yieldsIf_load_mid (by rfl) 52 (.tmp 80) (by rfl) ab (ao + jn * 47) (by rfl) _ _ (fun w' s_ => s_.2) Try.underlying52 rfl (by rw [LC.out]; kernel_rfl)
          case pp81 =>
            simp only [Act.put, List.setIfInBounds_toArray, List.set_cons_zero, List.set_cons_succ, i64_w, i32_w]
            rfl
          have ec := EC.out
          clear EC LC
          subst ec
          refine join_ (σ := Option Addr × Nat × Option Addr × Nat × Nat) 2 #[true, true, true, true, true, true, true, true, true, true, true, true, true, true, true, true, false, false] (fun s_ => [(82, .tuple #[.agg #[.int .u64 s0, .int .u64 s1, .int .i64 s2, .int .i64 s3, .int .i64 s4, .int .u64 (x' : Int), .slice s_.1 held'.length s_.2.1, .slice s_.2.2.1 (came bs x').length s_.2.2.2.1, .bool dn'], .int .i64 er]), (70, .tuple #[.agg #[.int .u64 s0, .int .u64 s1, .int .i64 s2, .int .i64 s3, .int .i64 s4, .int .u64 (x' : Int), .slice s_.1 held'.length s_.2.1, .slice s_.2.2.1 (came bs x').length s_.2.2.2.1, .bool dn'], .int .i64 er]), (83, .agg #[.int .u64 s0, .int .u64 s1, .int .i64 s2, .int .i64 s3, .int .i64 s4, .int .u64 (x' : Int), .slice s_.1 held'.length s_.2.1, .slice s_.2.2.1 (came bs x').length s_.2.2.2.1, .bool dn']), (84, .int .i64 er), (17, .pointer (some ⟨s_.2.2.2.2, 0, none⟩))]) (fun s_ w' => w'.heap[g4]? = some (.cells #[.int .u64 s0, .int .u64 s1, .int .i64 s2, .int .i64 s3, .int .i64 s4] 26 (0, 0)) ∧ w'.heap[g9]? = some (.cells #[.int .u64 s0, .int .u64 s1, .int .i64 s2, .int .i64 s3, .int .i64 s4, .slice Ab n cb, .int .u64 (a : Int)] 65 (0, 0)) ∧ Kd.N O2 28 w' w.heap.size (fun k => ((k ≠ g9 ∧ k ≠ g11) ∧ some k ≠ (.slice (some ⟨ab, ao, none⟩) M cs' : Value).ownBlock) ∧ k ≠ s_.2.2.2.2) (.slice Ab n cb) bs ∧ w'.heap[g11]? = some (.cells #[.int .u64 s0, .int .u64 s1, .int .i64 s2, .int .i64 s3, .int .i64 s4, .int .u64 (x : Int), .slice A7 held.length c7, .slice A8 (came bs x).length c8, .bool dn] 30 (0, 0)) ∧ Kd.N k52 52 w' w.heap.size (fun k => (k ≠ g9 ∧ k ≠ g11) ∧ k ≠ s_.2.2.2.2) (.slice (some ⟨ab, ao, none⟩) M cs' : Value) (ix'.map (msgAt s0 s1 s2 s3 s4 bs)) ∧ Below w.heap.size w w' ∧ Kd.V k83 83 w' w.heap.size (fun k => ((k ≠ g9 ∧ k ≠ g11) ∧ some k ≠ (.slice (some ⟨ab, ao, none⟩) M cs' : Value).ownBlock) ∧ k ≠ s_.2.2.2.2) (.slice s_.1 held'.length s_.2.1) held' ∧ Kd.N E1 101 w' w.heap.size (fun k => ((k ≠ g9 ∧ k ≠ g11) ∧ some k ≠ (.slice (some ⟨ab, ao, none⟩) M cs' : Value).ownBlock) ∧ k ≠ s_.2.2.2.2) (.slice s_.2.2.1 (came bs x').length s_.2.2.2.1) (came bs x') ∧ w'.heap[s_.2.2.2.2]? = some (.cells #[.int .u64 0, .int .u64 0, .int .i64 0, .int .i64 0, .int .i64 0, .int .u64 0, .slice none 0 0, .slice none 0 0, .bool false] 30 (0, 0)) ∧ w.heap.size ≤ s_.2.2.2.2 ∧ g4 ≠ s_.2.2.2.2 ∧ g9 ≠ s_.2.2.2.2 ∧ g11 ≠ s_.2.2.2.2) ?_ ?_
          rotate_left
          · intro hCont
            refine two_ (i := 11) (j := 15) (Ni := some 82) (Nj := some 17) #[true, true, true, true, true, true, true, true, true, true, true, true, false, false, false, false, false, false] #[true, true, true, true, true, true, true, true, true, true, true, false, false, false, false, true, false, false] rfl rfl rfl rfl (by kernel_rfl) (by decide) (by decide) (fun K hK => ?_) (fun K hK => ?_)
            · have hR := hHeld.2
              refine goes_ Try.func10 (by kernel_rfl) rfl #[.agg #[.int .u64 s0, .int .u64 s1, .int .i64 s2, .int .i64 s3, .int .i64 s4, .int .u64 (x : Int), .slice A7 held.length c7, .slice A8 (came bs x).length c8, .bool dn], .agg #[.int .u8 4, .int .u64 0, .int .u64 s0, .int .u64 s1, .int .i64 s2, .int .i64 s3, .int .i64 s4, .string (⟨#[]⟩ : ByteArray), .string (⟨#[]⟩ : ByteArray), .int .i64 0, .int .i64 0, .int .i64 0, .slice X12 0 x12, .slice X13 0 x13, .slice X14 0 x14, .bool false, .slice X16 0 x16, .slice X17 0 x17, .slice X18 0 x18, .int .i64 0, .int .i64 0, .int .u8 0, .string (⟨#[]⟩ : ByteArray), .int .u64 0, .int .u64 0, .int .i64 0, .slice X26 0 x26, .int .u8 0, .string (⟨#[]⟩ : ByteArray), .int .u64 0, .int .u64 0, .int .i64 0, .slice X32 0 x32, .bool false, .int .i64 0, .slice X35 0 x35, .slice X36 0 x36, .int .u64 (i0 : Int), .bool lst, .slice X39 rw_.length x39, .string (⟨#[]⟩ : ByteArray), .int .u64 0, .int .u64 0, .int .i64 0, .slice X44 0 x44, .slice X45 0 x45, .slice X46 0 x46]] (by rfl) rfl rfl (by (try simp only [List.map_toArray, List.map_cons, List.map_nil]); first | done | rfl) ?_
              refine (take_calls1 s0 s1 s2 s3 s4 (x : Int) 4 s0 s1 s2 s3 s4 (i0 : Int) dn lst _ _ _ _ _ _ _ _ _ _ _ _ _ _ _ _ _ _ _ _ _ _ _ _ _ _ _ _ _ _ _ _ _ _ _ _ _ _ _ _ _ A7 A8 X39 c7 c8 x39 held (came bs x) rw_ wd s0 s1 s2 s3 s4 (x' : Int) er held' (came bs x') dn' (Kd.V_map (base := w.heap.size) HH.out (fun _ hf => hf)) (Kd.N_V HR.out) (Kd.V_mk LL.out FC.out) HFT.out HTV.out HER.out).mono ?_
              rintro e wo ⟨v6, v7, rfl, hh, hr_, hb⟩
              refine ⟨_, rfl, ?_⟩
              have l9_ := blk_lt B9.out
              have l11_ := blk_lt B11.out
              have lt_ := Kd.N_lt HT.out
              have HH2 := Lib.hid (Kd.V_map (base' := w.heap.size) (Kd.V_mono (ok' := (fun k => (k ≠ g9 ∧ k ≠ g11) ∧ some k ≠ (.slice (some ⟨ab, ao, none⟩) M cs' : Value).ownBlock)) hh (fun k hk => by rcases hk.1 with (h_ | h_ | h_) | h_ <;> first | exact h_ | exact ⟨⟨by omega, by omega⟩, fun e_ => by have := lt_ k e_.symm; omega⟩)) (fun _ hf => hf))
              have HR2' := Lib.hid (Kd.N_lower (Kd.N_mono (ok' := (fun k => (k ≠ g9 ∧ k ≠ g11) ∧ some k ≠ (.slice (some ⟨ab, ao, none⟩) M cs' : Value).ownBlock)) hr_ (fun k hk => by rcases hk with (h_ | h_ | h_) | h_ <;> first | exact h_ | exact ⟨⟨by omega, by omega⟩, fun e_ => by have := lt_ k e_.symm; omega⟩)) HB.out.size)
              obtain ⟨Ap', cp', ev6⟩ := Kd.V_slice hh
              obtain ⟨Aq', cq', ev7⟩ := Kd.N_slice hr_
              clear hh hr_ l9_ l11_ lt_ HH HR FC
              subst ev6 ev7
              simp only [List.cons_append, List.nil_append]
              have n_B4 := Lib.hid (show wo.heap[g4]? = some (.cells #[.int .u64 s0, .int .u64 s1, .int .i64 s2, .int .i64 s3, .int .i64 s4] 26 (0, 0)) from blk_below B4.out hb)
              have n_B9 := Lib.hid (show wo.heap[g9]? = some (.cells #[.int .u64 s0, .int .u64 s1, .int .i64 s2, .int .i64 s3, .int .i64 s4, .slice Ab n cb, .int .u64 (a : Int)] 65 (0, 0)) from blk_below B9.out hb)
              have n_HS := Lib.hid (show Kd.N O2 28 wo w.heap.size (fun k => (k ≠ g9 ∧ k ≠ g11) ∧ some k ≠ (.slice (some ⟨ab, ao, none⟩) M cs' : Value).ownBlock) (.slice Ab n cb) bs from Kd.N_below HS.out hb)
              have n_B11 := Lib.hid (show wo.heap[g11]? = some (.cells #[.int .u64 s0, .int .u64 s1, .int .i64 s2, .int .i64 s3, .int .i64 s4, .int .u64 (x : Int), .slice A7 held.length c7, .slice A8 (came bs x).length c8, .bool dn] 30 (0, 0)) from blk_below B11.out hb)
              have n_HT := Lib.hid (show Kd.N k52 52 wo w.heap.size (fun k => k ≠ g9 ∧ k ≠ g11) (.slice (some ⟨ab, ao, none⟩) M cs' : Value) (ix'.map (msgAt s0 s1 s2 s3 s4 bs)) from Kd.N_below HT.out hb)
              have n_HB := Lib.hid (show Below w.heap.size w wo from below_step HB.out hb)
              clear B4 B9 HS B11 HT HB
              have B4 := n_B4
              have B9 := n_B9
              have HS := n_HS
              have B11 := n_B11
              have HT := n_HT
              have HB := n_HB
              clear n_B4 n_B9 n_HS n_B11 n_HT n_HB
              have HH := HH2
              have HR := HR2'
              clear HH2 HR2'
              have R0 := Lib.hid (range_below hR hb)
              clear hb hR
              refine hK.out _ _ ⟨range_of B11.out 0 _ (by rfl), R0.out⟩ (fun hHeld => ?_)
              clear hK K
              refine norm_ (a' := ?_) ?_ ?_
              rotate_left
              · show Act.put _ (some 82) _ = _
                simp only [Act.put, List.setIfInBounds_toArray, List.set_cons_zero, List.set_cons_succ, i64_w, i32_w]
                rfl
              refine pure_ (i := 12) (N := some 70) (v := ?_) (a' := ?_) #[true, true, true, true, true, true, true, true, true, true, true, true, true, false, false, false, false, false] rfl rfl (by kernel_rfl) (fun _ _ _ h => h) (Or.inl ⟨by rfl, ?_⟩) ?_ ?_
              rotate_left
              · intro w'
                go_simp
                with_reducible rfl
              rotate_left
              · simp only [Act.put, List.setIfInBounds_toArray, List.set_cons_zero, List.set_cons_succ, i64_w, i32_w]
                rfl
              refine pure_ (i := 13) (N := some 83) (v := ?_) (a' := ?_) #[true, true, true, true, true, true, true, true, true, true, true, true, true, true, false, false, false, false] rfl rfl (by kernel_rfl) (fun _ _ _ h => h) (Or.inl ⟨by rfl, ?_⟩) ?_ ?_
              rotate_left
              · intro w'
                go_simp
                with_reducible rfl
              rotate_left
              · simp only [Act.put, List.setIfInBounds_toArray, List.set_cons_zero, List.set_cons_succ, i64_w, i32_w]
                rfl
              refine pure_ (i := 14) (N := some 84) (v := ?_) (a' := ?_) #[true, true, true, true, true, true, true, true, true, true, true, true, true, true, true, false, false, false] rfl rfl (by kernel_rfl) (fun _ _ _ h => h) (Or.inl ⟨by rfl, ?_⟩) ?_ ?_
              rotate_left
              · intro w'
                go_simp
                with_reducible rfl
              rotate_left
              · simp only [Act.put, List.setIfInBounds_toArray, List.set_cons_zero, List.set_cons_succ, i64_w, i32_w]
                rfl
              refine one_ (i := 15) (N := some 17) #[true, true, true, true, true, true, true, true, true, true, true, true, true, true, true, true, false, false] rfl rfl (by kernel_rfl) (by decide) (fun K hK => ?_)
              refine box_step ?hg (N := 17) ?hd (cs := #[.int .u64 0, .int .u64 0, .int .i64 0, .int .i64 0, .int .i64 0, .int .u64 0, .slice none 0 0, .slice none 0 0, .bool false]) (t := 30) ?hr ?_; (case hd => rfl); (case hg => rfl); (case hr => first | (go_simp; done) | (go_simp; rfl))
              intro g17 hg w17 hbx hb
              have l4_ := blk_lt B4.out
              have l9_ := blk_lt B9.out
              have l11_ := blk_lt B11.out
              have N17 := Lib.hid (show w.heap.size ≤ g17 ∧ g4 ≠ g17 ∧ g9 ≠ g17 ∧ g11 ≠ g17 by refine ⟨by rw [hg]; exact HB.out.size, by omega, by omega, by omega⟩)
              clear l4_ l9_ l11_
              have R1 := Lib.hid (range_below R0.out hb)
              clear R0
              have n_B4 := Lib.hid (show w17.heap[g4]? = some (.cells #[.int .u64 s0, .int .u64 s1, .int .i64 s2, .int .i64 s3, .int .i64 s4] 26 (0, 0)) from blk_below B4.out hb)
              have n_B9 := Lib.hid (show w17.heap[g9]? = some (.cells #[.int .u64 s0, .int .u64 s1, .int .i64 s2, .int .i64 s3, .int .i64 s4, .slice Ab n cb, .int .u64 (a : Int)] 65 (0, 0)) from blk_below B9.out hb)
              have n_HS := Lib.hid (show Kd.N O2 28 w17 w.heap.size (fun k => ((k ≠ g9 ∧ k ≠ g11) ∧ some k ≠ (.slice (some ⟨ab, ao, none⟩) M cs' : Value).ownBlock) ∧ k ≠ g17) (.slice Ab n cb) bs from Kd.N_below (Kd.N_elderB HS.out g17 (Nat.le_of_eq hg.symm)) hb)
              have n_B11 := Lib.hid (show w17.heap[g11]? = some (.cells #[.int .u64 s0, .int .u64 s1, .int .i64 s2, .int .i64 s3, .int .i64 s4, .int .u64 (x : Int), .slice A7 held.length c7, .slice A8 (came bs x).length c8, .bool dn] 30 (0, 0)) from blk_below B11.out hb)
              have n_HT := Lib.hid (show Kd.N k52 52 w17 w.heap.size (fun k => (k ≠ g9 ∧ k ≠ g11) ∧ k ≠ g17) (.slice (some ⟨ab, ao, none⟩) M cs' : Value) (ix'.map (msgAt s0 s1 s2 s3 s4 bs)) from Kd.N_below (Kd.N_elderB HT.out g17 (Nat.le_of_eq hg.symm)) hb)
              have n_HB := Lib.hid (show Below w.heap.size w w17 from below_step HB.out hb)
              have n_HH := Lib.hid (show Kd.V k83 83 w17 w.heap.size (fun k => ((k ≠ g9 ∧ k ≠ g11) ∧ some k ≠ (.slice (some ⟨ab, ao, none⟩) M cs' : Value).ownBlock) ∧ k ≠ g17) (.slice Ap' held'.length cp') held' from Kd.V_below (Kd.V_elderB HH.out g17 (Nat.le_of_eq hg.symm)) hb)
              have n_HR := Lib.hid (show Kd.N E1 101 w17 w.heap.size (fun k => ((k ≠ g9 ∧ k ≠ g11) ∧ some k ≠ (.slice (some ⟨ab, ao, none⟩) M cs' : Value).ownBlock) ∧ k ≠ g17) (.slice Aq' (came bs x').length cq') (came bs x') from Kd.N_below (Kd.N_elderB HR.out g17 (Nat.le_of_eq hg.symm)) hb)
              clear B4 B9 HS B11 HT HB HH HR
              have B4 := n_B4
              have B9 := n_B9
              have HS := n_HS
              have B11 := n_B11
              have HT := n_HT
              have HB := n_HB
              have HH := n_HH
              have HR := n_HR
              clear n_B4 n_B9 n_HS n_B11 n_HT n_HB n_HH n_HR
              have B17 := Lib.hid hbx
              clear hb hbx hg hHeld
              refine hK.out _ _ ⟨range_of B11.out 0 _ (by rfl), R1.out⟩ (fun hHeld => ?_)
              clear hK K
              refine norm_ (a' := ?_) ?_ ?_
              rotate_left
              · show Act.put _ (some 17) _ = _
                simp only [Act.put, List.setIfInBounds_toArray, List.set_cons_zero, List.set_cons_succ, i64_w, i32_w]
                rfl
              exact norm_ (by simp only [putAll, Act.put, List.setIfInBounds_toArray, List.set_cons_zero, List.set_cons_succ]) (hCont (Ap', cp', Aq', cq', g17) _ ⟨B4.out, B9.out, HS.out, B11.out, HT.out, HB.out, HH.out, HR.out, B17.out, N17.out⟩)
            · refine box_step ?hg (N := 17) ?hd (cs := #[.int .u64 0, .int .u64 0, .int .i64 0, .int .i64 0, .int .i64 0, .int .u64 0, .slice none 0 0, .slice none 0 0, .bool false]) (t := 30) ?hr ?_; (case hd => rfl); (case hg => rfl); (case hr => first | (go_simp; done) | (go_simp; rfl))
              intro g17 hg w17 hbx hb
              have l4_ := blk_lt B4.out
              have l9_ := blk_lt B9.out
              have l11_ := blk_lt B11.out
              have N17 := Lib.hid (show w.heap.size ≤ g17 ∧ g4 ≠ g17 ∧ g9 ≠ g17 ∧ g11 ≠ g17 by refine ⟨by rw [hg]; exact HB.out.size, by omega, by omega, by omega⟩)
              clear l4_ l9_ l11_
              have R1 := Lib.hid (range_below hHeld.2 hb)
              have n_B4 := Lib.hid (show w17.heap[g4]? = some (.cells #[.int .u64 s0, .int .u64 s1, .int .i64 s2, .int .i64 s3, .int .i64 s4] 26 (0, 0)) from blk_below B4.out hb)
              have n_B9 := Lib.hid (show w17.heap[g9]? = some (.cells #[.int .u64 s0, .int .u64 s1, .int .i64 s2, .int .i64 s3, .int .i64 s4, .slice Ab n cb, .int .u64 (a : Int)] 65 (0, 0)) from blk_below B9.out hb)
              have n_HS := Lib.hid (show Kd.N O2 28 w17 w.heap.size (fun k => ((k ≠ g9 ∧ k ≠ g11) ∧ some k ≠ (.slice (some ⟨ab, ao, none⟩) M cs' : Value).ownBlock) ∧ k ≠ g17) (.slice Ab n cb) bs from Kd.N_below (Kd.N_elderB HS.out g17 (Nat.le_of_eq hg.symm)) hb)
              have n_B11 := Lib.hid (show w17.heap[g11]? = some (.cells #[.int .u64 s0, .int .u64 s1, .int .i64 s2, .int .i64 s3, .int .i64 s4, .int .u64 (x : Int), .slice A7 held.length c7, .slice A8 (came bs x).length c8, .bool dn] 30 (0, 0)) from blk_below B11.out hb)
              have n_HT := Lib.hid (show Kd.N k52 52 w17 w.heap.size (fun k => (k ≠ g9 ∧ k ≠ g11) ∧ k ≠ g17) (.slice (some ⟨ab, ao, none⟩) M cs' : Value) (ix'.map (msgAt s0 s1 s2 s3 s4 bs)) from Kd.N_below (Kd.N_elderB HT.out g17 (Nat.le_of_eq hg.symm)) hb)
              have n_HB := Lib.hid (show Below w.heap.size w w17 from below_step HB.out hb)
              have n_HH := Lib.hid (show Kd.V k83 83 w17 w.heap.size (fun k => ((k ≠ g9 ∧ k ≠ g11) ∧ some k ≠ (.slice (some ⟨ab, ao, none⟩) M cs' : Value).ownBlock) ∧ k ≠ g17) (.slice A7 held.length c7) held from Kd.V_below (Kd.V_elderB HH.out g17 (Nat.le_of_eq hg.symm)) hb)
              have n_HR := Lib.hid (show Kd.N E1 101 w17 w.heap.size (fun k => ((k ≠ g9 ∧ k ≠ g11) ∧ some k ≠ (.slice (some ⟨ab, ao, none⟩) M cs' : Value).ownBlock) ∧ k ≠ g17) (.slice A8 (came bs x).length c8) (came bs x) from Kd.N_below (Kd.N_elderB HR.out g17 (Nat.le_of_eq hg.symm)) hb)
              have n_FC := Lib.hid (show Kd.F (Kd.slice 112 k112) w17 (fun k => ((k ≠ g9 ∧ k ≠ g11) ∧ some k ≠ (.slice (some ⟨ab, ao, none⟩) M cs' : Value).ownBlock) ∧ k ≠ g17) X39 rw_.length rw_ from Kd.F_below (Kd.F_elderB FC.out g17 (Nat.le_of_eq hg.symm)) hb)
              clear B4 B9 HS B11 HT HB HH HR FC
              have B4 := n_B4
              have B9 := n_B9
              have HS := n_HS
              have B11 := n_B11
              have HT := n_HT
              have HB := n_HB
              have HH := n_HH
              have HR := n_HR
              have FC := n_FC
              clear n_B4 n_B9 n_HS n_B11 n_HT n_HB n_HH n_HR n_FC
              have B17 := Lib.hid hbx
              clear hb hbx hg hHeld
              refine hK.out _ _ ⟨range_of B11.out 0 _ (by rfl), R1.out⟩ (fun hHeld => ?_)
              clear hK K
              refine norm_ (a' := ?_) ?_ ?_
              rotate_left
              · show Act.put _ (some 17) _ = _
                simp only [Act.put, List.setIfInBounds_toArray, List.set_cons_zero, List.set_cons_succ, i64_w, i32_w]
                rfl
              refine one_ (i := 11) (N := some 82) #[true, true, true, true, true, true, true, true, true, true, true, true, false, false, false, true, false, false] rfl rfl (by kernel_rfl) (by decide) (fun K hK => ?_)
              refine goes_ Try.func10 (by kernel_rfl) rfl #[.agg #[.int .u64 s0, .int .u64 s1, .int .i64 s2, .int .i64 s3, .int .i64 s4, .int .u64 (x : Int), .slice A7 held.length c7, .slice A8 (came bs x).length c8, .bool dn], .agg #[.int .u8 4, .int .u64 0, .int .u64 s0, .int .u64 s1, .int .i64 s2, .int .i64 s3, .int .i64 s4, .string (⟨#[]⟩ : ByteArray), .string (⟨#[]⟩ : ByteArray), .int .i64 0, .int .i64 0, .int .i64 0, .slice X12 0 x12, .slice X13 0 x13, .slice X14 0 x14, .bool false, .slice X16 0 x16, .slice X17 0 x17, .slice X18 0 x18, .int .i64 0, .int .i64 0, .int .u8 0, .string (⟨#[]⟩ : ByteArray), .int .u64 0, .int .u64 0, .int .i64 0, .slice X26 0 x26, .int .u8 0, .string (⟨#[]⟩ : ByteArray), .int .u64 0, .int .u64 0, .int .i64 0, .slice X32 0 x32, .bool false, .int .i64 0, .slice X35 0 x35, .slice X36 0 x36, .int .u64 (i0 : Int), .bool lst, .slice X39 rw_.length x39, .string (⟨#[]⟩ : ByteArray), .int .u64 0, .int .u64 0, .int .i64 0, .slice X44 0 x44, .slice X45 0 x45, .slice X46 0 x46]] (by rfl) rfl rfl (by (try simp only [List.map_toArray, List.map_cons, List.map_nil]); first | done | rfl) ?_
              refine (take_calls1 s0 s1 s2 s3 s4 (x : Int) 4 s0 s1 s2 s3 s4 (i0 : Int) dn lst _ _ _ _ _ _ _ _ _ _ _ _ _ _ _ _ _ _ _ _ _ _ _ _ _ _ _ _ _ _ _ _ _ _ _ _ _ _ _ _ _ A7 A8 X39 c7 c8 x39 held (came bs x) rw_ w17 s0 s1 s2 s3 s4 (x' : Int) er held' (came bs x') dn' (Kd.V_map (base := w.heap.size) HH.out (fun _ hf => hf)) (Kd.N_V HR.out) (Kd.V_mk LL.out FC.out) HFT.out HTV.out HER.out).mono ?_
              rintro e wo ⟨v6, v7, rfl, hh, hr_, hb⟩
              refine ⟨_, rfl, ?_⟩
              have l9_ := blk_lt B9.out
              have l11_ := blk_lt B11.out
              have lt_ := Kd.N_lt HT.out
              have l17_ := blk_lt B17.out
              have HH2 := Lib.hid (Kd.V_map (base' := w.heap.size) (Kd.V_mono (ok' := (fun k => ((k ≠ g9 ∧ k ≠ g11) ∧ some k ≠ (.slice (some ⟨ab, ao, none⟩) M cs' : Value).ownBlock) ∧ k ≠ g17)) hh (fun k hk => by rcases hk.1 with (h_ | h_ | h_) | h_ <;> first | exact h_ | exact ⟨⟨⟨by omega, by omega⟩, fun e_ => by have := lt_ k e_.symm; omega⟩, by omega⟩)) (fun _ hf => hf))
              have HR2' := Lib.hid (Kd.N_lower (Kd.N_mono (ok' := (fun k => ((k ≠ g9 ∧ k ≠ g11) ∧ some k ≠ (.slice (some ⟨ab, ao, none⟩) M cs' : Value).ownBlock) ∧ k ≠ g17)) hr_ (fun k hk => by rcases hk with (h_ | h_ | h_) | h_ <;> first | exact h_ | exact ⟨⟨⟨by omega, by omega⟩, fun e_ => by have := lt_ k e_.symm; omega⟩, by omega⟩)) HB.out.size)
              obtain ⟨Ap', cp', ev6⟩ := Kd.V_slice hh
              obtain ⟨Aq', cq', ev7⟩ := Kd.N_slice hr_
              clear hh hr_ l9_ l11_ lt_ l17_ HH HR FC
              subst ev6 ev7
              simp only [List.cons_append, List.nil_append]
              have n_B4 := Lib.hid (show wo.heap[g4]? = some (.cells #[.int .u64 s0, .int .u64 s1, .int .i64 s2, .int .i64 s3, .int .i64 s4] 26 (0, 0)) from blk_below B4.out hb)
              have n_B9 := Lib.hid (show wo.heap[g9]? = some (.cells #[.int .u64 s0, .int .u64 s1, .int .i64 s2, .int .i64 s3, .int .i64 s4, .slice Ab n cb, .int .u64 (a : Int)] 65 (0, 0)) from blk_below B9.out hb)
              have n_HS := Lib.hid (show Kd.N O2 28 wo w.heap.size (fun k => ((k ≠ g9 ∧ k ≠ g11) ∧ some k ≠ (.slice (some ⟨ab, ao, none⟩) M cs' : Value).ownBlock) ∧ k ≠ g17) (.slice Ab n cb) bs from Kd.N_below HS.out hb)
              have n_B11 := Lib.hid (show wo.heap[g11]? = some (.cells #[.int .u64 s0, .int .u64 s1, .int .i64 s2, .int .i64 s3, .int .i64 s4, .int .u64 (x : Int), .slice A7 held.length c7, .slice A8 (came bs x).length c8, .bool dn] 30 (0, 0)) from blk_below B11.out hb)
              have n_HT := Lib.hid (show Kd.N k52 52 wo w.heap.size (fun k => (k ≠ g9 ∧ k ≠ g11) ∧ k ≠ g17) (.slice (some ⟨ab, ao, none⟩) M cs' : Value) (ix'.map (msgAt s0 s1 s2 s3 s4 bs)) from Kd.N_below HT.out hb)
              have n_HB := Lib.hid (show Below w.heap.size w wo from below_step HB.out hb)
              have n_B17 := Lib.hid (show wo.heap[g17]? = some (.cells #[.int .u64 0, .int .u64 0, .int .i64 0, .int .i64 0, .int .i64 0, .int .u64 0, .slice none 0 0, .slice none 0 0, .bool false] 30 (0, 0)) from blk_below B17.out hb)
              clear B4 B9 HS B11 HT HB B17
              have B4 := n_B4
              have B9 := n_B9
              have HS := n_HS
              have B11 := n_B11
              have HT := n_HT
              have HB := n_HB
              have B17 := n_B17
              clear n_B4 n_B9 n_HS n_B11 n_HT n_HB n_B17
              have HH := HH2
              have HR := HR2'
              clear HH2 HR2'
              have R2 := Lib.hid (range_below R1.out hb)
              clear hb R1 hHeld
              refine hK.out _ _ ⟨range_of B11.out 0 _ (by rfl), R2.out⟩ (fun hHeld => ?_)
              clear hK K
              refine norm_ (a' := ?_) ?_ ?_
              rotate_left
              · show Act.put _ (some 82) _ = _
                simp only [Act.put, List.setIfInBounds_toArray, List.set_cons_zero, List.set_cons_succ, i64_w, i32_w]
                rfl
              refine pure_ (i := 12) (N := some 70) (v := ?_) (a' := ?_) #[true, true, true, true, true, true, true, true, true, true, true, true, true, false, false, true, false, false] rfl rfl (by kernel_rfl) (fun _ _ _ h => h) (Or.inl ⟨by rfl, ?_⟩) ?_ ?_
              rotate_left
              · intro w'
                go_simp
                with_reducible rfl
              rotate_left
              · simp only [Act.put, List.setIfInBounds_toArray, List.set_cons_zero, List.set_cons_succ, i64_w, i32_w]
                rfl
              refine pure_ (i := 13) (N := some 83) (v := ?_) (a' := ?_) #[true, true, true, true, true, true, true, true, true, true, true, true, true, true, false, true, false, false] rfl rfl (by kernel_rfl) (fun _ _ _ h => h) (Or.inl ⟨by rfl, ?_⟩) ?_ ?_
              rotate_left
              · intro w'
                go_simp
                with_reducible rfl
              rotate_left
              · simp only [Act.put, List.setIfInBounds_toArray, List.set_cons_zero, List.set_cons_succ, i64_w, i32_w]
                rfl
              refine pure_ (i := 14) (N := some 84) (v := ?_) (a' := ?_) #[true, true, true, true, true, true, true, true, true, true, true, true, true, true, true, true, false, false] rfl rfl (by kernel_rfl) (fun _ _ _ h => h) (Or.inl ⟨by rfl, ?_⟩) ?_ ?_
              rotate_left
              · intro w'
                go_simp
                with_reducible rfl
              rotate_left
              · simp only [Act.put, List.setIfInBounds_toArray, List.set_cons_zero, List.set_cons_succ, i64_w, i32_w]
                rfl
              exact norm_ (by simp only [putAll, Act.put, List.setIfInBounds_toArray, List.set_cons_zero, List.set_cons_succ]) (hCont (Ap', cp', Aq', cq', g17) _ ⟨B4.out, B9.out, HS.out, B11.out, HT.out, HB.out, HH.out, HR.out, B17.out, N17.out⟩)
          rintro ⟨Ap', cp', Aq', cq', g17⟩ wf ⟨hb4, hb9, hs_, hb11, ht_, hbb, hh_, hr_, hb17, hn17⟩
          clear B4 B9 HS B11 HT HB HH HR FC hHeld
          have B4 := Lib.hid (show wf.heap[g4]? = some (.cells #[.int .u64 s0, .int .u64 s1, .int .i64 s2, .int .i64 s3, .int .i64 s4] 26 (0, 0)) from hb4)
          have B9 := Lib.hid (show wf.heap[g9]? = some (.cells #[.int .u64 s0, .int .u64 s1, .int .i64 s2, .int .i64 s3, .int .i64 s4, .slice Ab n cb, .int .u64 (a : Int)] 65 (0, 0)) from hb9)
          have HS := Lib.hid (show Kd.N O2 28 wf w.heap.size (fun k => ((k ≠ g9 ∧ k ≠ g11) ∧ some k ≠ (.slice (some ⟨ab, ao, none⟩) M cs' : Value).ownBlock) ∧ k ≠ g17) (.slice Ab n cb) bs from hs_)
          have B11 := Lib.hid (show wf.heap[g11]? = some (.cells #[.int .u64 s0, .int .u64 s1, .int .i64 s2, .int .i64 s3, .int .i64 s4, .int .u64 (x : Int), .slice A7 held.length c7, .slice A8 (came bs x).length c8, .bool dn] 30 (0, 0)) from hb11)
          have HT := Lib.hid (show Kd.N k52 52 wf w.heap.size (fun k => (k ≠ g9 ∧ k ≠ g11) ∧ k ≠ g17) (.slice (some ⟨ab, ao, none⟩) M cs' : Value) (ix'.map (msgAt s0 s1 s2 s3 s4 bs)) from ht_)
          have HB := Lib.hid (show Below w.heap.size w wf from hbb)
          have HH := Lib.hid (show Kd.V k83 83 wf w.heap.size (fun k => ((k ≠ g9 ∧ k ≠ g11) ∧ some k ≠ (.slice (some ⟨ab, ao, none⟩) M cs' : Value).ownBlock) ∧ k ≠ g17) (.slice Ap' held'.length cp') held' from hh_)
          have HR := Lib.hid (show Kd.N E1 101 wf w.heap.size (fun k => ((k ≠ g9 ∧ k ≠ g11) ∧ some k ≠ (.slice (some ⟨ab, ao, none⟩) M cs' : Value).ownBlock) ∧ k ≠ g17) (.slice Aq' (came bs x').length cq') (came bs x') from hr_)
          have B17 := Lib.hid (show wf.heap[g17]? = some (.cells #[.int .u64 0, .int .u64 0, .int .i64 0, .int .i64 0, .int .i64 0, .int .u64 0, .slice none 0 0, .slice none 0 0, .bool false] 30 (0, 0)) from hb17)
          have N17 := Lib.hid (show w.heap.size ≤ g17 ∧ g4 ≠ g17 ∧ g9 ≠ g17 ∧ g11 ≠ g17 from hn17)
          clear hb4 hb9 hs_ hb11 ht_ hbb hh_ hr_ hb17 hn17
          refine norm_ (a' := ?_) ?_ ?_
          rotate_left
          · simp only [putAll, Act.put, List.setIfInBounds_toArray, List.set_cons_zero, List.set_cons_succ]
            rfl
          have zc0 := (blk_cell B17.out 0).trans rfl
          have zf0 := blk_frozen B17.out 0
          have zc1 := (blk_cell B17.out 1).trans rfl
          have zf1 := blk_frozen B17.out 1
          have zc2 := (blk_cell B17.out 2).trans rfl
          have zf2 := blk_frozen B17.out 2
          have zc3 := (blk_cell B17.out 3).trans rfl
          have zf3 := blk_frozen B17.out 3
          have zc4 := (blk_cell B17.out 4).trans rfl
          have zf4 := blk_frozen B17.out 4
          have zc5 := (blk_cell B17.out 5).trans rfl
          have zf5 := blk_frozen B17.out 5
          have zc6 := (blk_cell B17.out 6).trans rfl
          have zf6 := blk_frozen B17.out 6
          have zc7 := (blk_cell B17.out 7).trans rfl
          have zf7 := blk_frozen B17.out 7
          have zc8 := (blk_cell B17.out 8).trans rfl
          have zf8 := blk_frozen B17.out 8
          refine last_ (i := 16) (N := none) #[true, true, true, true, true, true, true, true, true, true, true, true, true, true, true, true, true, false] rfl rfl (by kernel_rfl) (by decide) (fun K hK => ?_)
          refine skip_ (w1 := setAll wf g17 0 [.int .u64 s0, .int .u64 s1, .int .i64 s2, .int .i64 s3, .int .i64 s4, .int .u64 (x' : Int), .slice Ap' held'.length cp', .slice Aq' (came bs x').length cq', .bool dn']) (by rfl) rfl ?_ ?_
          · first | (go_simp; done) | (go_simp; rfl)
          refine hK.out _ _ ?_
          clear hK K
          clear zc0 zf0 zc1 zf1 zc2 zf2 zc3 zf3 zc4 zf4 zc5 zf5 zc6 zf6 zc7 zf7 zc8 zf8
          obtain ⟨wg, hwg⟩ : ∃ z, z = setAll wf g17 0 [.int .u64 s0, .int .u64 s1, .int .i64 s2, .int .i64 s3, .int .i64 s4, .int .u64 (x' : Int), .slice Ap' held'.length cp', .slice Aq' (came bs x').length cq', .bool dn'] := ⟨_, rfl⟩
          rw [← hwg]
          have n_B4 := Lib.hid (show wg.heap[g4]? = some (.cells #[.int .u64 s0, .int .u64 s1, .int .i64 s2, .int .i64 s3, .int .i64 s4] 26 (0, 0)) from (by rw [hwg]; exact blk_kept B4.out (setAll_kept [.int .u64 s0, .int .u64 s1, .int .i64 s2, .int .i64 s3, .int .i64 s4, .int .u64 (x' : Int), .slice Ap' held'.length cp', .slice Aq' (came bs x').length cq', .bool dn'] 0 wf) N17.out.2.1))
          have n_B9 := Lib.hid (show wg.heap[g9]? = some (.cells #[.int .u64 s0, .int .u64 s1, .int .i64 s2, .int .i64 s3, .int .i64 s4, .slice Ab n cb, .int .u64 (a : Int)] 65 (0, 0)) from (by rw [hwg]; exact blk_kept B9.out (setAll_kept [.int .u64 s0, .int .u64 s1, .int .i64 s2, .int .i64 s3, .int .i64 s4, .int .u64 (x' : Int), .slice Ap' held'.length cp', .slice Aq' (came bs x').length cq', .bool dn'] 0 wf) N17.out.2.2.1))
          have n_B11 := Lib.hid (show wg.heap[g11]? = some (.cells #[.int .u64 s0, .int .u64 s1, .int .i64 s2, .int .i64 s3, .int .i64 s4, .int .u64 (x : Int), .slice A7 held.length c7, .slice A8 (came bs x).length c8, .bool dn] 30 (0, 0)) from (by rw [hwg]; exact blk_kept B11.out (setAll_kept [.int .u64 s0, .int .u64 s1, .int .i64 s2, .int .i64 s3, .int .i64 s4, .int .u64 (x' : Int), .slice Ap' held'.length cp', .slice Aq' (came bs x').length cq', .bool dn'] 0 wf) N17.out.2.2.2))
          have n_HS := Lib.hid (show Kd.N O2 28 wg w.heap.size (fun k => ((k ≠ g9 ∧ k ≠ g11) ∧ some k ≠ (.slice (some ⟨ab, ao, none⟩) M cs' : Value).ownBlock) ∧ k ≠ g17) (.slice Ab n cb) bs from (by rw [hwg]; exact Kd.N_kept HS.out (setAll_kept [.int .u64 s0, .int .u64 s1, .int .i64 s2, .int .i64 s3, .int .i64 s4, .int .u64 (x' : Int), .slice Ap' held'.length cp', .slice Aq' (came bs x').length cq', .bool dn'] 0 wf) (fun k hk => hk.2)))
          have n_HT := Lib.hid (show Kd.N k52 52 wg w.heap.size (fun k => (k ≠ g9 ∧ k ≠ g11) ∧ k ≠ g17) (.slice (some ⟨ab, ao, none⟩) M cs' : Value) (ix'.map (msgAt s0 s1 s2 s3 s4 bs)) from (by rw [hwg]; exact Kd.N_kept HT.out (setAll_kept [.int .u64 s0, .int .u64 s1, .int .i64 s2, .int .i64 s3, .int .i64 s4, .int .u64 (x' : Int), .slice Ap' held'.length cp', .slice Aq' (came bs x').length cq', .bool dn'] 0 wf) (fun k hk => hk.2)))
          have n_HB := Lib.hid (show Below w.heap.size w wg from (by rw [hwg]; exact setAll_below N17.out.1 [.int .u64 s0, .int .u64 s1, .int .i64 s2, .int .i64 s3, .int .i64 s4, .int .u64 (x' : Int), .slice Ap' held'.length cp', .slice Aq' (came bs x').length cq', .bool dn'] 0 wf HB.out))
          have n_HH := Lib.hid (show Kd.V k83 83 wg w.heap.size (fun k => ((k ≠ g9 ∧ k ≠ g11) ∧ some k ≠ (.slice (some ⟨ab, ao, none⟩) M cs' : Value).ownBlock) ∧ k ≠ g17) (.slice Ap' held'.length cp') held' from (by rw [hwg]; exact Kd.V_kept HH.out (setAll_kept [.int .u64 s0, .int .u64 s1, .int .i64 s2, .int .i64 s3, .int .i64 s4, .int .u64 (x' : Int), .slice Ap' held'.length cp', .slice Aq' (came bs x').length cq', .bool dn'] 0 wf) (fun k hk => hk.2)))
          have n_HR := Lib.hid (show Kd.N E1 101 wg w.heap.size (fun k => ((k ≠ g9 ∧ k ≠ g11) ∧ some k ≠ (.slice (some ⟨ab, ao, none⟩) M cs' : Value).ownBlock) ∧ k ≠ g17) (.slice Aq' (came bs x').length cq') (came bs x') from (by rw [hwg]; exact Kd.N_kept HR.out (setAll_kept [.int .u64 s0, .int .u64 s1, .int .i64 s2, .int .i64 s3, .int .i64 s4, .int .u64 (x' : Int), .slice Ap' held'.length cp', .slice Aq' (came bs x').length cq', .bool dn'] 0 wf) (fun k hk => hk.2)))
          have n_B17 := Lib.hid (show wg.heap[g17]? = some (.cells #[.int .u64 s0, .int .u64 s1, .int .i64 s2, .int .i64 s3, .int .i64 s4, .int .u64 (x' : Int), .slice Ap' held'.length cp', .slice Aq' (came bs x').length cq', .bool dn'] 30 (0, 0)) from (by rw [hwg]; exact setAll_box [.int .u64 s0, .int .u64 s1, .int .i64 s2, .int .i64 s3, .int .i64 s4, .int .u64 (x' : Int), .slice Ap' held'.length cp', .slice Aq' (came bs x').length cq', .bool dn'] B17.out rfl))
          clear B4 B9 B11 HS HT HB HH HR B17 hwg
          have B4 := n_B4
          have B9 := n_B9
          have B11 := n_B11
          have HS := n_HS
          have HT := n_HT
          have HB := n_HB
          have HH := n_HH
          have HR := n_HR
          have B17 := n_B17
          clear n_B4 n_B9 n_B11 n_HS n_HT n_HB n_HH n_HR n_B17
          refine pure_ (i := 17) (N := some 18) (v := ?_) (a' := ?_) #[true, true, true, true, true, true, true, true, true, true, true, true, true, true, true, true, true, true] rfl rfl (by kernel_rfl) (fun _ _ _ h => h) (Or.inl ⟨by rfl, ?_⟩) ?_ ?_
          rotate_left
          · intro w'
            go_simp
            with_reducible rfl
          rotate_left
          · simp only [Act.put, List.setIfInBounds_toArray, List.set_cons_zero, List.set_cons_succ, i64_w, i32_w]
            rfl
          refine done_ (by kernel_rfl) ?_
          have hgd_ := HGD.out
          have hlen_ := good_len hgd_.2
          have f1 : decide ((x' : Int) < (x : Int)) = false := decide_eq_false (by omega)
          have f1n : x ≤ x' := hgd_.1
          have f2 : decide ((4 : Int) ≤ (held'.length : Int)) = false := decide_eq_false (by omega)
          have f2' : decide (4 ≤ held'.length) = false := decide_eq_false (by omega)
          clear hgd_ hlen_
          have L17 := Lib.hid (show g17 < wg.heap.size from blk_lt B17.out)
          have NE49 := Lib.hid (show g4 ≠ g9 from fun e_ => Ne4_9.out e_)
          have E9_ := Lib.hid (show w.heap.size ≤ g9 from Eg9.out)
          have NE4 := Lib.hid (show g4 ≠ g11 from fun e_ => Ne4_11.out e_)
          have NE9 := Lib.hid (show g9 ≠ g11 from fun e_ => Ne9_11.out e_)
          have E11 := Lib.hid (show w.heap.size ≤ g11 from Eg11.out)
          have p17_5 := (show World.cell? _ ⟨g17, 5, none⟩ = some (.int .u64 (x' : Int)) from blk_cell B17.out 5)
          have p17_6 := (show World.cell? _ ⟨g17, 6, none⟩ = some (.slice Ap' held'.length cp') from blk_cell B17.out 6)
          have p11_5 := (show World.cell? _ ⟨g11, 5, none⟩ = some (.int .u64 (x : Int)) from blk_cell B11.out 5)
          go_upto_region 23 with (first
            | ((with_reducible refine gate_dst (N := 85) rfl ?_); refine wpList_load_mid rfl 30 (.tmp 17) rfl g17 0 rfl [.int .u64 s0, .int .u64 s1, .int .i64 s2, .int .i64 s3, .int .i64 s4, .int .u64 (x' : Int), .slice Ap' held'.length cp', .slice Aq' (came bs x').length cq', .bool dn'] _ (range_of B17.out 0 _ (by rfl)) Try.underlying30 rfl (by kernel_rfl) ?_)
            | (go_at_call 14; refine (HCI.out x' held' dn' HGD.out.2 _ Ap' cp' Aq' cq' (Kd.V_reads' HH.out).2.2).mono ?_; rintro e w20 ⟨rfl, hb⟩; have n_B4 := Lib.hid (show w20.heap[g4]? = some (.cells #[.int .u64 s0, .int .u64 s1, .int .i64 s2, .int .i64 s3, .int .i64 s4] 26 (0, 0)) from blk_below B4.out hb); have n_B9 := Lib.hid (show w20.heap[g9]? = some (.cells #[.int .u64 s0, .int .u64 s1, .int .i64 s2, .int .i64 s3, .int .i64 s4, .slice Ab n cb, .int .u64 (a : Int)] 65 (0, 0)) from blk_below B9.out hb); have n_HS := Lib.hid (show Kd.N O2 28 w20 w.heap.size (fun k => ((k ≠ g9 ∧ k ≠ g11) ∧ some k ≠ (.slice (some ⟨ab, ao, none⟩) M cs' : Value).ownBlock) ∧ k ≠ g17) (.slice Ab n cb) bs from Kd.N_below HS.out hb); have n_B11 := Lib.hid (show w20.heap[g11]? = some (.cells #[.int .u64 s0, .int .u64 s1, .int .i64 s2, .int .i64 s3, .int .i64 s4, .int .u64 (x : Int), .slice A7 held.length c7, .slice A8 (came bs x).length c8, .bool dn] 30 (0, 0)) from blk_below B11.out hb); have n_HT := Lib.hid (show Kd.N k52 52 w20 w.heap.size (fun k => (k ≠ g9 ∧ k ≠ g11) ∧ k ≠ g17) (.slice (some ⟨ab, ao, none⟩) M cs' : Value) (ix'.map (msgAt s0 s1 s2 s3 s4 bs)) from Kd.N_below HT.out hb); have n_HB := Lib.hid (show Below w.heap.size w w20 from below_step HB.out hb); have n_HH := Lib.hid (show Kd.V k83 83 w20 w.heap.size (fun k => ((k ≠ g9 ∧ k ≠ g11) ∧ some k ≠ (.slice (some ⟨ab, ao, none⟩) M cs' : Value).ownBlock) ∧ k ≠ g17) (.slice Ap' held'.length cp') held' from Kd.V_below HH.out hb); have n_HR := Lib.hid (show Kd.N E1 101 w20 w.heap.size (fun k => ((k ≠ g9 ∧ k ≠ g11) ∧ some k ≠ (.slice (some ⟨ab, ao, none⟩) M cs' : Value).ownBlock) ∧ k ≠ g17) (.slice Aq' (came bs x').length cq') (came bs x') from Kd.N_below HR.out hb); have n_B17 := Lib.hid (show w20.heap[g17]? = some (.cells #[.int .u64 s0, .int .u64 s1, .int .i64 s2, .int .i64 s3, .int .i64 s4, .int .u64 (x' : Int), .slice Ap' held'.length cp', .slice Aq' (came bs x').length cq', .bool dn'] 30 (0, 0)) from blk_below B17.out hb); clear B4 B9 HS B11 HT HB HH HR B17; have B4 := n_B4; have B9 := n_B9; have HS := n_HS; have B11 := n_B11; have HT := n_HT; have HB := n_HB; have HH := n_HH; have HR := n_HR; have B17 := n_B17; clear n_B4 n_B9 n_HS n_B11 n_HT n_HB n_HH n_HR n_B17; clear hb; have p17_5 := (show World.cell? _ ⟨g17, 5, none⟩ = some (.int .u64 (x' : Int)) from blk_cell B17.out 5); have p17_6 := (show World.cell? _ ⟨g17, 6, none⟩ = some (.slice Ap' held'.length cp') from blk_cell B17.out 6); have p11_5 := (show World.cell? _ ⟨g11, 5, none⟩ = some (.int .u64 (x : Int)) from blk_cell B11.out 5))
            | ((with_reducible refine gate_dst (N := 101) rfl ?_); refine wpList_load_mid rfl 30 (.tmp 17) rfl g17 0 rfl [.int .u64 s0, .int .u64 s1, .int .i64 s2, .int .i64 s3, .int .i64 s4, .int .u64 (x' : Int), .slice Ap' held'.length cp', .slice Aq' (came bs x').length cq', .bool dn'] _ (range_of B17.out 0 _ (by rfl)) Try.underlying30 rfl (by kernel_rfl) ?_)
            | ((with_reducible refine gate_store (t := 30) (p := 11) rfl ?_); have zc0 := (blk_cell B11.out 0).trans rfl; have zf0 := blk_frozen B11.out 0; have zc1 := (blk_cell B11.out 1).trans rfl; have zf1 := blk_frozen B11.out 1; have zc2 := (blk_cell B11.out 2).trans rfl; have zf2 := blk_frozen B11.out 2; have zc3 := (blk_cell B11.out 3).trans rfl; have zf3 := blk_frozen B11.out 3; have zc4 := (blk_cell B11.out 4).trans rfl; have zf4 := blk_frozen B11.out 4; have zc5 := (blk_cell B11.out 5).trans rfl; have zf5 := blk_frozen B11.out 5; have zc6 := (blk_cell B11.out 6).trans rfl; have zf6 := blk_frozen B11.out 6; have zc7 := (blk_cell B11.out 7).trans rfl; have zf7 := blk_frozen B11.out 7; have zc8 := (blk_cell B11.out 8).trans rfl; have zf8 := blk_frozen B11.out 8; refine store_event (t := 30) (p := 11) (v := ?vo11) (w1 := setAll w20 g11 0 [.int .u64 s0, .int .u64 s1, .int .i64 s2, .int .i64 s3, .int .i64 s4, .int .u64 (x' : Int), .slice Ap' held'.length cp', .slice Aq' (came bs x').length cq', .bool dn']) ?hg ?ho ?hn ?hr ?_; (case ho => rfl); (case hg => rfl); (case hn => rfl); (case hr => first | (go_simp; done) | (go_simp; rfl)); intro wh hw; clear zc0 zf0 zc1 zf1 zc2 zf2 zc3 zf3 zc4 zf4 zc5 zf5 zc6 zf6 zc7 zf7 zc8 zf8; (try clear p17_5 p17_6 p11_5); have n_B4 := Lib.hid (show wh.heap[g4]? = some (.cells #[.int .u64 s0, .int .u64 s1, .int .i64 s2, .int .i64 s3, .int .i64 s4] 26 (0, 0)) from (by rw [hw]; exact blk_kept B4.out (setAll_kept [.int .u64 s0, .int .u64 s1, .int .i64 s2, .int .i64 s3, .int .i64 s4, .int .u64 (x' : Int), .slice Ap' held'.length cp', .slice Aq' (came bs x').length cq', .bool dn'] 0 w20) NE4.out)); have n_B9 := Lib.hid (show wh.heap[g9]? = some (.cells #[.int .u64 s0, .int .u64 s1, .int .i64 s2, .int .i64 s3, .int .i64 s4, .slice Ab n cb, .int .u64 (a : Int)] 65 (0, 0)) from (by rw [hw]; exact blk_kept B9.out (setAll_kept [.int .u64 s0, .int .u64 s1, .int .i64 s2, .int .i64 s3, .int .i64 s4, .int .u64 (x' : Int), .slice Ap' held'.length cp', .slice Aq' (came bs x').length cq', .bool dn'] 0 w20) NE9.out)); have n_HS := Lib.hid (show Kd.N O2 28 wh w.heap.size (fun k => ((k ≠ g9 ∧ k ≠ g11) ∧ some k ≠ (.slice (some ⟨ab, ao, none⟩) M cs' : Value).ownBlock) ∧ k ≠ g17) (.slice Ab n cb) bs from (by rw [hw]; exact Kd.N_kept HS.out (setAll_kept [.int .u64 s0, .int .u64 s1, .int .i64 s2, .int .i64 s3, .int .i64 s4, .int .u64 (x' : Int), .slice Ap' held'.length cp', .slice Aq' (came bs x').length cq', .bool dn'] 0 w20) (fun k hk => hk.1.1.2))); have n_B11 := Lib.hid (show wh.heap[g11]? = some (.cells #[.int .u64 s0, .int .u64 s1, .int .i64 s2, .int .i64 s3, .int .i64 s4, .int .u64 (x' : Int), .slice Ap' held'.length cp', .slice Aq' (came bs x').length cq', .bool dn'] 30 (0, 0)) from (by rw [hw]; exact setAll_box [.int .u64 s0, .int .u64 s1, .int .i64 s2, .int .i64 s3, .int .i64 s4, .int .u64 (x' : Int), .slice Ap' held'.length cp', .slice Aq' (came bs x').length cq', .bool dn'] B11.out rfl)); have n_HT := Lib.hid (show Kd.N k52 52 wh w.heap.size (fun k => (k ≠ g9 ∧ k ≠ g11) ∧ k ≠ g17) (.slice (some ⟨ab, ao, none⟩) M cs' : Value) (ix'.map (msgAt s0 s1 s2 s3 s4 bs)) from (by rw [hw]; exact Kd.N_kept HT.out (setAll_kept [.int .u64 s0, .int .u64 s1, .int .i64 s2, .int .i64 s3, .int .i64 s4, .int .u64 (x' : Int), .slice Ap' held'.length cp', .slice Aq' (came bs x').length cq', .bool dn'] 0 w20) (fun k hk => hk.1.2))); have n_HB := Lib.hid (show Below w.heap.size w wh from (by rw [hw]; exact setAll_below E11.out [.int .u64 s0, .int .u64 s1, .int .i64 s2, .int .i64 s3, .int .i64 s4, .int .u64 (x' : Int), .slice Ap' held'.length cp', .slice Aq' (came bs x').length cq', .bool dn'] 0 w20 HB.out)); have n_HH := Lib.hid (show Kd.V k83 83 wh w.heap.size (fun k => ((k ≠ g9 ∧ k ≠ g11) ∧ some k ≠ (.slice (some ⟨ab, ao, none⟩) M cs' : Value).ownBlock) ∧ k ≠ g17) (.slice Ap' held'.length cp') held' from (by rw [hw]; exact Kd.V_kept HH.out (setAll_kept [.int .u64 s0, .int .u64 s1, .int .i64 s2, .int .i64 s3, .int .i64 s4, .int .u64 (x' : Int), .slice Ap' held'.length cp', .slice Aq' (came bs x').length cq', .bool dn'] 0 w20) (fun k hk => hk.1.1.2))); have n_HR := Lib.hid (show Kd.N E1 101 wh w.heap.size (fun k => ((k ≠ g9 ∧ k ≠ g11) ∧ some k ≠ (.slice (some ⟨ab, ao, none⟩) M cs' : Value).ownBlock) ∧ k ≠ g17) (.slice Aq' (came bs x').length cq') (came bs x') from (by rw [hw]; exact Kd.N_kept HR.out (setAll_kept [.int .u64 s0, .int .u64 s1, .int .i64 s2, .int .i64 s3, .int .i64 s4, .int .u64 (x' : Int), .slice Ap' held'.length cp', .slice Aq' (came bs x').length cq', .bool dn'] 0 w20) (fun k hk => hk.1.1.2))); clear B4 B9 HS B11 HT HB HH HR; have B4 := n_B4; have B9 := n_B9; have HS := n_HS; have B11 := n_B11; have HT := n_HT; have HB := n_HB; have HH := n_HH; have HR := n_HR; clear n_B4 n_B9 n_HS n_B11 n_HT n_HB n_HH n_HR; clear hw; skip))
          by_cases hka : k < na
          · have hja : (k : Int) < (na : Int) := by omega
            obtain ⟨ada, cb_, eA2, _, hK2_, hc2_⟩ := Kd.C_get (Kd.C_below HA.out HB.out) false (k : Int) hj0 hja
            obtain ⟨ak, hak_⟩ : ∃ z, z = acks.getD (Int.toNat (k : Int)) false := ⟨_, rfl⟩
            rw [← hak_] at hK2_
            have ec2 : cb_ = [.bool ak] := hK2_
            subst ec2 eA2
            have x1 := hc2_ 0 _ rfl
            clear hc2_ hK2_ hak_
            simp only [Int.toNat_natCast, Nat.add_zero, show Kd.sz Kd.bool = 1 from rfl, Nat.mul_one] at x1
            cases ak with
            | true =>
              go_wp2
              refine start_ (n := 7) (S := fun w' => w'.rangeAt g9 0 [.int .u64 s0, .int .u64 s1, .int .i64 s2, .int .i64 s3, .int .i64 s4, .slice Ab n cb, .int .u64 (a : Int)] ∧ w'.rangeAt g4 0 [.int .u64 s0, .int .u64 s1, .int .i64 s2, .int .i64 s3, .int .i64 s4] ∧ w'.rangeAt g11 0 [.int .u64 s0, .int .u64 s1, .int .i64 s2, .int .i64 s3, .int .i64 s4, .int .u64 (x' : Int), .slice Ap' held'.length cp', .slice Aq' (came bs x').length cq', .bool dn']) (ds := [6]) #[false, false, false, false, false, false, false] (by kernel_rfl) rfl rfl ⟨range_of (blk_drew B9.out) 0 _ (by rfl), range_of (blk_drew B4.out) 0 _ (by rfl), range_of (blk_drew B11.out) 0 _ (by rfl)⟩ (fun hHeld => ?_)
              generalize hw8 : World.drew _ = wi at hHeld ⊢
              have n_B4 := Lib.hid (show wi.heap[g4]? = some (.cells #[.int .u64 s0, .int .u64 s1, .int .i64 s2, .int .i64 s3, .int .i64 s4] 26 (0, 0)) from (by rw [← hw8]; exact blk_drew B4.out))
              have n_B9 := Lib.hid (show wi.heap[g9]? = some (.cells #[.int .u64 s0, .int .u64 s1, .int .i64 s2, .int .i64 s3, .int .i64 s4, .slice Ab n cb, .int .u64 (a : Int)] 65 (0, 0)) from (by rw [← hw8]; exact blk_drew B9.out))
              have n_HS := Lib.hid (show Kd.N O2 28 wi w.heap.size (fun k => ((k ≠ g9 ∧ k ≠ g11) ∧ some k ≠ (.slice (some ⟨ab, ao, none⟩) M cs' : Value).ownBlock) ∧ k ≠ g17) (.slice Ab n cb) bs from (by rw [← hw8]; exact Kd.N_drew HS.out))
              have n_B11 := Lib.hid (show wi.heap[g11]? = some (.cells #[.int .u64 s0, .int .u64 s1, .int .i64 s2, .int .i64 s3, .int .i64 s4, .int .u64 (x' : Int), .slice Ap' held'.length cp', .slice Aq' (came bs x').length cq', .bool dn'] 30 (0, 0)) from (by rw [← hw8]; exact blk_drew B11.out))
              have n_HT := Lib.hid (show Kd.N k52 52 wi w.heap.size (fun k => (k ≠ g9 ∧ k ≠ g11) ∧ k ≠ g17) (.slice (some ⟨ab, ao, none⟩) M cs' : Value) (ix'.map (msgAt s0 s1 s2 s3 s4 bs)) from (by rw [← hw8]; exact Kd.N_drew HT.out))
              have n_HB := Lib.hid (show Below w.heap.size w wi from (by rw [← hw8]; exact below_drew1 HB.out))
              have n_HH := Lib.hid (show Kd.V k83 83 wi w.heap.size (fun k => ((k ≠ g9 ∧ k ≠ g11) ∧ some k ≠ (.slice (some ⟨ab, ao, none⟩) M cs' : Value).ownBlock) ∧ k ≠ g17) (.slice Ap' held'.length cp') held' from (by rw [← hw8]; exact Kd.V_drew HH.out))
              have n_HR := Lib.hid (show Kd.N E1 101 wi w.heap.size (fun k => ((k ≠ g9 ∧ k ≠ g11) ∧ some k ≠ (.slice (some ⟨ab, ao, none⟩) M cs' : Value).ownBlock) ∧ k ≠ g17) (.slice Aq' (came bs x').length cq') (came bs x') from (by rw [← hw8]; exact Kd.N_drew HR.out))
              clear B4 B9 HS B11 HT HB HH HR
              have B4 := n_B4
              have B9 := n_B9
              have HS := n_HS
              have B11 := n_B11
              have HT := n_HT
              have HB := n_HB
              have HH := n_HH
              have HR := n_HR
              clear n_B4 n_B9 n_HS n_B11 n_HT n_HB n_HH n_HR
              clear hw8
              refine take_ (i := 0) (N := some 112) (v := .agg (List.toArray [.int .u64 s0, .int .u64 s1, .int .i64 s2, .int .i64 s3, .int .i64 s4, .slice Ab n cb, .int .u64 (a : Int)])) (a' := ?aa112) #[true, false, false, false, false, false, false] rfl rfl (by kernel_rfl) (fun _ _ _ h => h) ?yy112 hHeld ?pp112 ?nn112
              case yy112 => exact yieldsIf_load_mid (by rfl) 65 (.tmp 9) (by rfl) g9 0 (by rfl) _ _ (fun w' s_ => s_.1) Try.underlying65 rfl (by kernel_rfl)
              case pp112 =>
                simp only [Act.put, List.setIfInBounds_toArray, List.set_cons_zero, List.set_cons_succ, i64_w, i32_w]
                rfl
              refine take_ (i := 1) (N := some 113) (v := .agg (List.toArray [.int .u64 s0, .int .u64 s1, .int .i64 s2, .int .i64 s3, .int .i64 s4])) (a' := ?aa113) #[true, true, false, false, false, false, false] rfl rfl (by kernel_rfl) (fun _ _ _ h => h) ?yy113 hHeld ?pp113 ?nn113
              case yy113 => exact yieldsIf_load_mid (by rfl) 26 (.tmp 4) (by rfl) g4 0 (by rfl) _ _ (fun w' s_ => s_.2.1) Try.underlying26 rfl (by kernel_rfl)
              case pp113 =>
                simp only [Act.put, List.setIfInBounds_toArray, List.set_cons_zero, List.set_cons_succ, i64_w, i32_w]
                rfl
              refine take_ (i := 2) (N := some 114) (v := .agg (List.toArray [.int .u64 s0, .int .u64 s1, .int .i64 s2, .int .i64 s3, .int .i64 s4, .int .u64 (x' : Int), .slice Ap' held'.length cp', .slice Aq' (came bs x').length cq', .bool dn'])) (a' := ?aa114) #[true, true, true, false, false, false, false] rfl rfl (by kernel_rfl) (fun _ _ _ h => h) ?yy114 hHeld ?pp114 ?nn114
              case yy114 => exact yieldsIf_load_mid (by rfl) 30 (.tmp 11) (by rfl) g11 0 (by rfl) _ _ (fun w' s_ => s_.2.2) Try.underlying30 rfl (by kernel_rfl)
              case pp114 =>
                simp only [Act.put, List.setIfInBounds_toArray, List.set_cons_zero, List.set_cons_succ, i64_w, i32_w]
                rfl
              refine one_ (i := 3) (N := some 115) #[true, true, true, true, false, false, false] rfl rfl (by kernel_rfl) (by decide) (fun K hK => ?_)
              clear hHeld
              refine goes_ Try.func17 (by kernel_rfl) rfl #[.agg #[.int .u64 s0, .int .u64 s1, .int .i64 s2, .int .i64 s3, .int .i64 s4, .int .u64 (x' : Int), .slice Ap' held'.length cp', .slice Aq' (came bs x').length cq', .bool dn']] (by rfl) rfl rfl (by (try simp only [List.map_toArray, List.map_cons, List.map_nil]); first | done | rfl) ?_
              refine (ack_calls s0 s1 s2 s3 s4 (x' : Int) _ _ dn' _).mono ?_
              rintro e wo ⟨rfl, hb⟩
              refine ⟨_, rfl, ?_⟩
              have n_B4 := Lib.hid (show wo.heap[g4]? = some (.cells #[.int .u64 s0, .int .u64 s1, .int .i64 s2, .int .i64 s3, .int .i64 s4] 26 (0, 0)) from (blk_below B4.out hb))
              have n_B9 := Lib.hid (show wo.heap[g9]? = some (.cells #[.int .u64 s0, .int .u64 s1, .int .i64 s2, .int .i64 s3, .int .i64 s4, .slice Ab n cb, .int .u64 (a : Int)] 65 (0, 0)) from (blk_below B9.out hb))
              have n_HS := Lib.hid (show Kd.N O2 28 wo w.heap.size (fun k => ((k ≠ g9 ∧ k ≠ g11) ∧ some k ≠ (.slice (some ⟨ab, ao, none⟩) M cs' : Value).ownBlock) ∧ k ≠ g17) (.slice Ab n cb) bs from (Kd.N_below HS.out hb))
              have n_B11 := Lib.hid (show wo.heap[g11]? = some (.cells #[.int .u64 s0, .int .u64 s1, .int .i64 s2, .int .i64 s3, .int .i64 s4, .int .u64 (x' : Int), .slice Ap' held'.length cp', .slice Aq' (came bs x').length cq', .bool dn'] 30 (0, 0)) from (blk_below B11.out hb))
              have n_HT := Lib.hid (show Kd.N k52 52 wo w.heap.size (fun k => (k ≠ g9 ∧ k ≠ g11) ∧ k ≠ g17) (.slice (some ⟨ab, ao, none⟩) M cs' : Value) (ix'.map (msgAt s0 s1 s2 s3 s4 bs)) from (Kd.N_below HT.out hb))
              have n_HB := Lib.hid (show Below w.heap.size w wo from (below_step HB.out hb))
              have n_HH := Lib.hid (show Kd.V k83 83 wo w.heap.size (fun k => ((k ≠ g9 ∧ k ≠ g11) ∧ some k ≠ (.slice (some ⟨ab, ao, none⟩) M cs' : Value).ownBlock) ∧ k ≠ g17) (.slice Ap' held'.length cp') held' from (Kd.V_below HH.out hb))
              have n_HR := Lib.hid (show Kd.N E1 101 wo w.heap.size (fun k => ((k ≠ g9 ∧ k ≠ g11) ∧ some k ≠ (.slice (some ⟨ab, ao, none⟩) M cs' : Value).ownBlock) ∧ k ≠ g17) (.slice Aq' (came bs x').length cq') (came bs x') from (Kd.N_below HR.out hb))
              clear B4 B9 HS B11 HT HB HH HR
              have B4 := n_B4
              have B9 := n_B9
              have HS := n_HS
              have B11 := n_B11
              have HT := n_HT
              have HB := n_HB
              have HH := n_HH
              have HR := n_HR
              clear n_B4 n_B9 n_HS n_B11 n_HT n_HB n_HH n_HR
              clear hb
              refine hK.out _ _ ⟨range_of B9.out 0 _ (by rfl), range_of B4.out 0 _ (by rfl), range_of B11.out 0 _ (by rfl)⟩ (fun hHeld => ?_)
              clear hK K
              refine norm_ (a' := ?_) ?_ ?_
              rotate_left
              · show Act.put _ (some 115) _ = _
                simp only [Act.put, List.setIfInBounds_toArray, List.set_cons_zero, List.set_cons_succ, i64_w, i32_w]
                rfl
              refine pure_ (i := 4) (N := some 116) (v := .int .u64 (x' : Int)) (a' := ?aa116) #[true, true, true, true, true, false, false] rfl rfl (by kernel_rfl) (fun _ _ _ h => h) (Or.inl ⟨by rfl, ?rr116⟩) ?pp116 ?nn116
              case rr116 =>
                intro w'
                rfl
              case pp116 =>
                simp only [Act.put, List.setIfInBounds_toArray, List.set_cons_zero, List.set_cons_succ, i64_w, i32_w]
                rfl
              refine one_ (i := 5) (N := some 117) #[true, true, true, true, true, true, false] rfl rfl (by kernel_rfl) (by decide) (fun K hK => ?_)
              clear hHeld
              refine goes_ Try.func27 (by kernel_rfl) rfl #[.agg #[.int .u64 s0, .int .u64 s1, .int .i64 s2, .int .i64 s3, .int .i64 s4, .slice Ab n cb, .int .u64 (a : Int)], .agg #[.int .u64 s0, .int .u64 s1, .int .i64 s2, .int .i64 s3, .int .i64 s4], .int .u64 (x' : Int)] (by rfl) rfl rfl (by (try simp only [List.map_toArray, List.map_cons, List.map_nil]); first | done | rfl) ?_
              have hxn : x' ≤ n := by have := HGD.out.2.1; rw [HNB.out] at this; exact this
              refine (HAC.out (a : Int) x' hxn _ _ Ab cb (Kd.N_V HS.out)).mono ?_
              rintro e wo ⟨v5, rfl, hn_, hb⟩
              refine ⟨_, rfl, ?_⟩
              have l9_ := blk_lt B9.out
              have l11_ := blk_lt B11.out
              have lt_ := Kd.N_lt HT.out
              have HS2 := Lib.hid (Kd.N_lower (Kd.N_mono (ok' := (fun k => (k ≠ g9 ∧ k ≠ g11) ∧ some k ≠ (.slice (some ⟨ab, ao, none⟩) M cs' : Value).ownBlock)) hn_ (fun k hk => by have hsz := HB.out.size; rcases hk with h_ | h_ <;> first | exact h_.1 | exact ⟨⟨by omega, by omega⟩, fun e_ => by have := lt_ k e_.symm; omega⟩)) HB.out.size)
              obtain ⟨Ac, cc, ec⟩ := Kd.N_slice HS2.out
              rw [HNB.out] at ec
              subst ec
              clear hn_ l9_ l11_ lt_ HS
              have HS := HS2
              clear HS2
              have n_B4 := Lib.hid (show wo.heap[g4]? = some (.cells #[.int .u64 s0, .int .u64 s1, .int .i64 s2, .int .i64 s3, .int .i64 s4] 26 (0, 0)) from (blk_below B4.out hb))
              have n_B9 := Lib.hid (show wo.heap[g9]? = some (.cells #[.int .u64 s0, .int .u64 s1, .int .i64 s2, .int .i64 s3, .int .i64 s4, .slice Ab n cb, .int .u64 (a : Int)] 65 (0, 0)) from (blk_below B9.out hb))
              have n_B11 := Lib.hid (show wo.heap[g11]? = some (.cells #[.int .u64 s0, .int .u64 s1, .int .i64 s2, .int .i64 s3, .int .i64 s4, .int .u64 (x' : Int), .slice Ap' held'.length cp', .slice Aq' (came bs x').length cq', .bool dn'] 30 (0, 0)) from (blk_below B11.out hb))
              have n_HT := Lib.hid (show Kd.N k52 52 wo w.heap.size (fun k => (k ≠ g9 ∧ k ≠ g11) ∧ k ≠ g17) (.slice (some ⟨ab, ao, none⟩) M cs' : Value) (ix'.map (msgAt s0 s1 s2 s3 s4 bs)) from (Kd.N_below HT.out hb))
              have n_HB := Lib.hid (show Below w.heap.size w wo from (below_step HB.out hb))
              have n_HH := Lib.hid (show Kd.V k83 83 wo w.heap.size (fun k => ((k ≠ g9 ∧ k ≠ g11) ∧ some k ≠ (.slice (some ⟨ab, ao, none⟩) M cs' : Value).ownBlock) ∧ k ≠ g17) (.slice Ap' held'.length cp') held' from (Kd.V_below HH.out hb))
              have n_HR := Lib.hid (show Kd.N E1 101 wo w.heap.size (fun k => ((k ≠ g9 ∧ k ≠ g11) ∧ some k ≠ (.slice (some ⟨ab, ao, none⟩) M cs' : Value).ownBlock) ∧ k ≠ g17) (.slice Aq' (came bs x').length cq') (came bs x') from (Kd.N_below HR.out hb))
              clear B4 B9 B11 HT HB HH HR
              have B4 := n_B4
              have B9 := n_B9
              have B11 := n_B11
              have HT := n_HT
              have HB := n_HB
              have HH := n_HH
              have HR := n_HR
              clear n_B4 n_B9 n_B11 n_HT n_HB n_HH n_HR
              clear hb
              refine hK.out _ _ ⟨range_of B9.out 0 _ (by rfl), range_of B4.out 0 _ (by rfl), range_of B11.out 0 _ (by rfl)⟩ (fun hHeld => ?_)
              clear hK K
              refine norm_ (a' := ?_) ?_ ?_
              rotate_left
              · show Act.put _ (some 117) _ = _
                simp only [Act.put, List.setIfInBounds_toArray, List.set_cons_zero, List.set_cons_succ, i64_w, i32_w]
                rfl
              have zc0 := (blk_cell B9.out 0).trans rfl
              have zf0 := blk_frozen B9.out 0
              have zc1 := (blk_cell B9.out 1).trans rfl
              have zf1 := blk_frozen B9.out 1
              have zc2 := (blk_cell B9.out 2).trans rfl
              have zf2 := blk_frozen B9.out 2
              have zc3 := (blk_cell B9.out 3).trans rfl
              have zf3 := blk_frozen B9.out 3
              have zc4 := (blk_cell B9.out 4).trans rfl
              have zf4 := blk_frozen B9.out 4
              have zc5 := (blk_cell B9.out 5).trans rfl
              have zf5 := blk_frozen B9.out 5
              have zc6 := (blk_cell B9.out 6).trans rfl
              have zf6 := blk_frozen B9.out 6
              refine last_ (i := 6) (N := none) #[true, true, true, true, true, true, true] rfl rfl (by kernel_rfl) (by decide) (fun K hK => ?_)
              refine skip_ (w1 := setAll wo g9 0 [.int .u64 s0, .int .u64 s1, .int .i64 s2, .int .i64 s3, .int .i64 s4, .slice Ac n cc, .int .u64 (x' : Int)]) (by rfl) rfl ?_ ?_
              · first | (go_simp; done) | (go_simp; rfl)
              refine hK.out _ _ ?_
              clear hK K
              clear zc0 zf0 zc1 zf1 zc2 zf2 zc3 zf3 zc4 zf4 zc5 zf5 zc6 zf6
              obtain ⟨wj, hwj⟩ : ∃ z, z = setAll wo g9 0 [.int .u64 s0, .int .u64 s1, .int .i64 s2, .int .i64 s3, .int .i64 s4, .slice Ac n cc, .int .u64 (x' : Int)] := ⟨_, rfl⟩
              rw [← hwj]
              have n_B4 := Lib.hid (show wj.heap[g4]? = some (.cells #[.int .u64 s0, .int .u64 s1, .int .i64 s2, .int .i64 s3, .int .i64 s4] 26 (0, 0)) from (by rw [hwj]; exact blk_kept B4.out (setAll_kept [.int .u64 s0, .int .u64 s1, .int .i64 s2, .int .i64 s3, .int .i64 s4, .slice Ac n cc, .int .u64 (x' : Int)] 0 wo) NE49.out))
              have n_B9 := Lib.hid (show wj.heap[g9]? = some (.cells #[.int .u64 s0, .int .u64 s1, .int .i64 s2, .int .i64 s3, .int .i64 s4, .slice Ac n cc, .int .u64 (x' : Int)] 65 (0, 0)) from (by rw [hwj]; exact setAll_box [.int .u64 s0, .int .u64 s1, .int .i64 s2, .int .i64 s3, .int .i64 s4, .slice Ac n cc, .int .u64 (x' : Int)] B9.out rfl))
              have n_B11 := Lib.hid (show wj.heap[g11]? = some (.cells #[.int .u64 s0, .int .u64 s1, .int .i64 s2, .int .i64 s3, .int .i64 s4, .int .u64 (x' : Int), .slice Ap' held'.length cp', .slice Aq' (came bs x').length cq', .bool dn'] 30 (0, 0)) from (by rw [hwj]; exact blk_kept B11.out (setAll_kept [.int .u64 s0, .int .u64 s1, .int .i64 s2, .int .i64 s3, .int .i64 s4, .slice Ac n cc, .int .u64 (x' : Int)] 0 wo) (fun e_ => NE9.out e_.symm)))
              have n_HT := Lib.hid (show Kd.N k52 52 wj w.heap.size (fun k => (k ≠ g9 ∧ k ≠ g11) ∧ k ≠ g17) (.slice (some ⟨ab, ao, none⟩) M cs' : Value) (ix'.map (msgAt s0 s1 s2 s3 s4 bs)) from (by rw [hwj]; exact Kd.N_kept HT.out (setAll_kept [.int .u64 s0, .int .u64 s1, .int .i64 s2, .int .i64 s3, .int .i64 s4, .slice Ac n cc, .int .u64 (x' : Int)] 0 wo) (fun k hk => hk.1.1)))
              have n_HB := Lib.hid (show Below w.heap.size w wj from (by rw [hwj]; exact setAll_below E9_.out [.int .u64 s0, .int .u64 s1, .int .i64 s2, .int .i64 s3, .int .i64 s4, .slice Ac n cc, .int .u64 (x' : Int)] 0 wo HB.out))
              have n_HH := Lib.hid (show Kd.V k83 83 wj w.heap.size (fun k => ((k ≠ g9 ∧ k ≠ g11) ∧ some k ≠ (.slice (some ⟨ab, ao, none⟩) M cs' : Value).ownBlock) ∧ k ≠ g17) (.slice Ap' held'.length cp') held' from (by rw [hwj]; exact Kd.V_kept HH.out (setAll_kept [.int .u64 s0, .int .u64 s1, .int .i64 s2, .int .i64 s3, .int .i64 s4, .slice Ac n cc, .int .u64 (x' : Int)] 0 wo) (fun k hk => hk.1.1.1)))
              have n_HR := Lib.hid (show Kd.N E1 101 wj w.heap.size (fun k => ((k ≠ g9 ∧ k ≠ g11) ∧ some k ≠ (.slice (some ⟨ab, ao, none⟩) M cs' : Value).ownBlock) ∧ k ≠ g17) (.slice Aq' (came bs x').length cq') (came bs x') from (by rw [hwj]; exact Kd.N_kept HR.out (setAll_kept [.int .u64 s0, .int .u64 s1, .int .i64 s2, .int .i64 s3, .int .i64 s4, .slice Ac n cc, .int .u64 (x' : Int)] 0 wo) (fun k hk => hk.1.1.1)))
              have n_HS := Lib.hid (show Kd.N O2 28 wj w.heap.size (fun k => (k ≠ g9 ∧ k ≠ g11) ∧ some k ≠ (.slice (some ⟨ab, ao, none⟩) M cs' : Value).ownBlock) (.slice Ac n cc) bs from (by rw [hwj]; exact Kd.N_kept HS.out (setAll_kept [.int .u64 s0, .int .u64 s1, .int .i64 s2, .int .i64 s3, .int .i64 s4, .slice Ac n cc, .int .u64 (x' : Int)] 0 wo) (fun k hk => hk.1.1)))
              clear B4 B9 B11 HT HB HH HR HS
              have B4 := n_B4
              have B9 := n_B9
              have B11 := n_B11
              have HT := n_HT
              have HB := n_HB
              have HH := n_HH
              have HR := n_HR
              have HS := n_HS
              clear n_B4 n_B9 n_B11 n_HT n_HB n_HH n_HR n_HS
              clear hwj
              refine done_ (by kernel_rfl) ?_
              go_wp2
              have hM_ := HM.out
              subst hM_
              have hx_ := HX.out
              have hyy := HY.out
              have hgg := HGD.out.2
              have hnb := HNB.out
              have htt := hgg.1
              have han := HAN.out
              exact ⟨⟨k + 1, x', x', ix', held', dn', Ac, cc, Ap', cp', Aq', cq', some ⟨ab, ao, none⟩, cs', by simp, rfl, by omega, Lib.hid ⟨by omega, fun h => absurd h hyy.1, hyy.2.1, hyy.2.2, hgg, by omega⟩, B4, B9, Lib.hid (Kd.N_mono HS.out (fun k hk => hk)), B11, Lib.hid (Kd.V_mono HH.out (fun k hk => hk.1)), Lib.hid (Kd.N_mono HR.out (fun k hk => hk.1)), Lib.hid (Kd.N_mono HT.out (fun k hk => hk.1)), HB⟩, by simp [intOf]; omega⟩
            | false =>
              go_wp2
              have hM_ := HM.out
              subst hM_
              have hx_ := HX.out
              have hyy := HY.out
              have hgg := HGD.out.2
              have hnb := HNB.out
              have htt := hgg.1
              have han := HAN.out
              exact ⟨⟨k + 1, a, x', ix', held', dn', Ab, cb, Ap', cp', Aq', cq', some ⟨ab, ao, none⟩, cs', by simp, rfl, by omega, Lib.hid ⟨by omega, fun h => absurd h hyy.1, hyy.2.1, hyy.2.2, hgg, by omega⟩, B4, B9, Lib.hid (Kd.N_mono HS.out (fun k hk => hk.1)), B11, Lib.hid (Kd.V_mono HH.out (fun k hk => hk.1)), Lib.hid (Kd.N_mono HR.out (fun k hk => hk.1)), Lib.hid (Kd.N_mono HT.out (fun k hk => hk.1)), HB⟩, by simp [intOf]; omega⟩
          · have hja : ¬ (k : Int) < (na : Int) := by omega
            go_wp2
            have hM_ := HM.out
            subst hM_
            have hx_ := HX.out
            have hyy := HY.out
            have hgg := HGD.out.2
            have hnb := HNB.out
            have htt := hgg.1
            have han := HAN.out
            exact ⟨⟨k + 1, a, x', ix', held', dn', Ab, cb, Ap', cp', Aq', cq', some ⟨ab, ao, none⟩, cs', by simp, rfl, by omega, Lib.hid ⟨by omega, fun h => absurd h hyy.1, hyy.2.1, hyy.2.2, hgg, by omega⟩, B4, B9, Lib.hid (Kd.N_mono HS.out (fun k hk => hk.1)), B11, Lib.hid (Kd.V_mono HH.out (fun k hk => hk.1)), Lib.hid (Kd.N_mono HR.out (fun k hk => hk.1)), Lib.hid (Kd.N_mono HT.out (fun k hk => hk.1)), HB⟩, by simp [intOf]; omega⟩
    · have hjj : ¬ (k : Int) < (np : Int) := by omega
      clear hlt
      go_wp2
      have hcl := HCL.out x
      have hgg := HX.out.2.2.2.2.1
      have hm2 := HM2.out
      have hc2_ := HC2.out
      have g1 : decide ((m2 : Int) < ((came bs x).length : Int)) = false := decide_eq_false (by omega)
      have g1' : decide (m2 < (came bs x).length) = false := decide_eq_false (by omega)
      have g2' : (came bs x).length ≤ c2 := by omega
      have g3 : ((came bs x).length : Int) ≤ (c2 : Int) := by omega
      have g4' : (0 : Int) ≤ ((came bs x).length : Int) := by omega
      have HCX := Lib.hid hcl
      have HGG := Lib.hid hgg
      clear hcl hgg hm2 hc2_
      refine start_ (n := 17) (S := fun w' => w'.cell? ⟨g11, 7, none⟩ = some (.slice A8 (came bs x).length c8)) (ds := []) #[false, false, false, false, false, false, false, false, false, false, false, false, false, false, false, false, false] (by kernel_rfl) rfl rfl ((blk_cell (blk_drew B11.out) 7).trans rfl) (fun hHeld => ?_)
      generalize hw8 : World.drew _ = we at hHeld ⊢
      have n_B11 := Lib.hid (show we.heap[g11]? = some (.cells #[.int .u64 s0, .int .u64 s1, .int .i64 s2, .int .i64 s3, .int .i64 s4, .int .u64 (x : Int), .slice A7 held.length c7, .slice A8 (came bs x).length c8, .bool dn] 30 (0, 0)) from (by rw [← hw8]; exact blk_drew B11.out))
      have n_HR := Lib.hid (show Kd.N E1 101 we w.heap.size (fun k => (k ≠ g9 ∧ k ≠ g11) ∧ some k ≠ (.slice As ix.length cs : Value).ownBlock) (.slice A8 (came bs x).length c8) (came bs x) from (by rw [← hw8]; exact Kd.N_drew HR.out))
      have n_HB := Lib.hid (show Below w.heap.size w we from (by rw [← hw8]; exact below_drew1 HB.out))
      clear B11 HR HB hw8
      have B11 := n_B11
      have HR := n_HR
      have HB := n_HB
      clear n_B11 n_HR n_HB
      refine pure_ (i := 0) (N := some 119) (v := ?_) (a' := ?_) #[true, false, false, false, false, false, false, false, false, false, false, false, false, false, false, false, false] rfl rfl (by kernel_rfl) (fun _ _ _ h => h) (Or.inl ⟨by rfl, ?_⟩) ?_ ?_
      rotate_left
      · intro w'
        go_simp
        with_reducible rfl
      rotate_left
      · simp only [Act.put, List.setIfInBounds_toArray, List.set_cons_zero, List.set_cons_succ, i64_w, i32_w]
        rfl
      refine take_ (i := 1) (N := some 120) (v := ?_) (a' := ?_) #[true, true, false, false, false, false, false, false, false, false, false, false, false, false, false, false, false] rfl rfl (by kernel_rfl) (fun _ _ _ h => h) (Or.inl ⟨by rfl, ?_⟩) hHeld ?_ ?_
      rotate_left
      · rintro w' s0_
        go_simp
        with_reducible rfl
      rotate_left
      · simp only [Act.put, List.setIfInBounds_toArray, List.set_cons_zero, List.set_cons_succ, i64_w, i32_w]
        rfl
      refine pure_ (i := 2) (N := some 121) (v := ?_) (a' := ?_) #[true, true, true, false, false, false, false, false, false, false, false, false, false, false, false, false, false] rfl rfl (by kernel_rfl) (fun _ _ _ h => h) (Or.inl ⟨by rfl, ?_⟩) ?_ ?_
      rotate_left
      · intro w'
        go_simp
        with_reducible rfl
      rotate_left
      · simp only [Act.put, List.setIfInBounds_toArray, List.set_cons_zero, List.set_cons_succ, i64_w, i32_w]
        rfl
      refine pure_ (i := 3) (N := some 122) (v := ?_) (a' := ?_) #[true, true, true, true, false, false, false, false, false, false, false, false, false, false, false, false, false] rfl rfl (by kernel_rfl) (fun _ _ _ h => h) (Or.inl ⟨by rfl, ?_⟩) ?_ ?_
      rotate_left
      · intro w'
        go_simp
        with_reducible rfl
      rotate_left
      · simp only [Act.put, List.setIfInBounds_toArray, List.set_cons_zero, List.set_cons_succ, i64_w, i32_w]
        rfl
      refine pure_ (i := 4) (N := some 123) (v := ?_) (a' := ?_) #[true, true, true, true, true, false, false, false, false, false, false, false, false, false, false, false, false] rfl rfl (by kernel_rfl) (fun _ _ _ h => h) (Or.inl ⟨by rfl, ?_⟩) ?_ ?_
      rotate_left
      · intro w'
        go_simp
        with_reducible rfl
      rotate_left
      · simp only [Act.put, List.setIfInBounds_toArray, List.set_cons_zero, List.set_cons_succ, i64_w, i32_w]
        rfl
      refine pure_ (i := 5) (N := some 124) (v := ?_) (a' := ?_) #[true, true, true, true, true, true, false, false, false, false, false, false, false, false, false, false, false] rfl rfl (by kernel_rfl) (fun _ _ _ h => h) (Or.inl ⟨by rfl, ?_⟩) ?_ ?_
      rotate_left
      · intro w'
        go_simp
        with_reducible rfl
      rotate_left
      · simp only [Act.put, List.setIfInBounds_toArray, List.set_cons_zero, List.set_cons_succ, i64_w, i32_w]
        rfl
      refine pure_ (i := 6) (N := some 125) (v := ?_) (a' := ?_) #[true, true, true, true, true, true, true, false, false, false, false, false, false, false, false, false, false] rfl rfl (by kernel_rfl) (fun _ _ _ h => h) (Or.inl ⟨by rfl, ?_⟩) ?_ ?_
      rotate_left
      · intro w'
        go_simp
        with_reducible rfl
      rotate_left
      · simp only [Act.put, List.setIfInBounds_toArray, List.set_cons_zero, List.set_cons_succ, i64_w, i32_w]
        rfl
      refine pure_ (i := 7) (N := some 126) (v := ?_) (a' := ?_) #[true, true, true, true, true, true, true, true, false, false, false, false, false, false, false, false, false] rfl rfl (by kernel_rfl) (fun _ _ _ h => h) (Or.inl ⟨by rfl, ?_⟩) ?_ ?_
      rotate_left
      · intro w'
        go_simp
        with_reducible rfl
      rotate_left
      · simp only [Act.put, List.setIfInBounds_toArray, List.set_cons_zero, List.set_cons_succ, i64_w, i32_w]
        rfl
      refine take_ (i := 8) (N := some 127) (v := ?_) (a' := ?_) #[true, true, true, true, true, true, true, true, true, false, false, false, false, false, false, false, false] rfl rfl (by kernel_rfl) (fun _ _ _ h => h) (Or.inl ⟨by rfl, ?_⟩) hHeld ?_ ?_
      rotate_left
      · rintro w' s0_
        go_simp
        with_reducible rfl
      rotate_left
      · simp only [Act.put, List.setIfInBounds_toArray, List.set_cons_zero, List.set_cons_succ, i64_w, i32_w]
        rfl
      refine pure_ (i := 9) (N := some 128) (v := ?_) (a' := ?_) #[true, true, true, true, true, true, true, true, true, true, false, false, false, false, false, false, false] rfl rfl (by kernel_rfl) (fun _ _ _ h => h) (Or.inl ⟨by rfl, ?_⟩) ?_ ?_
      rotate_left
      · intro w'
        go_simp
        with_reducible rfl
      rotate_left
      · simp only [Act.put, List.setIfInBounds_toArray, List.set_cons_zero, List.set_cons_succ, i64_w, i32_w]
        rfl
      refine pure_ (i := 10) (N := some 129) (v := ?_) (a' := ?_) #[true, true, true, true, true, true, true, true, true, true, true, false, false, false, false, false, false] rfl rfl (by kernel_rfl) (fun _ _ _ h => h) (Or.inl ⟨by rfl, ?_⟩) ?_ ?_
      rotate_left
      · intro w'
        go_simp
        with_reducible rfl
      rotate_left
      · simp only [Act.put, List.setIfInBounds_toArray, List.set_cons_zero, List.set_cons_succ, i64_w, i32_w]
        rfl
      refine take_ (i := 11) (N := some 130) (v := ?_) (a' := ?_) #[true, true, true, true, true, true, true, true, true, true, true, true, false, false, false, false, false] rfl rfl (by kernel_rfl) (fun _ _ _ h => h) (Or.inl ⟨by rfl, ?_⟩) hHeld ?_ ?_
      rotate_left
      · rintro w' s0_
        go_simp
        with_reducible rfl
      rotate_left
      · simp only [Act.put, List.setIfInBounds_toArray, List.set_cons_zero, List.set_cons_succ, i64_w, i32_w]
        rfl
      refine pure_ (i := 12) (N := some 131) (v := ?_) (a' := ?_) #[true, true, true, true, true, true, true, true, true, true, true, true, true, false, false, false, false] rfl rfl (by kernel_rfl) (fun _ _ _ h => h) (Or.inl ⟨by rfl, ?_⟩) ?_ ?_
      rotate_left
      · intro w'
        go_simp
        with_reducible rfl
      rotate_left
      · simp only [Act.put, List.setIfInBounds_toArray, List.set_cons_zero, List.set_cons_succ, i64_w, i32_w]
        rfl
      refine pure_ (i := 13) (N := some 132) (v := ?_) (a' := ?_) #[true, true, true, true, true, true, true, true, true, true, true, true, true, true, false, false, false] rfl rfl (by kernel_rfl) (fun _ _ _ h => h) (Or.inl ⟨by rfl, ?_⟩) ?_ ?_
      rotate_left
      · intro w'
        go_simp
        with_reducible rfl
      rotate_left
      · simp only [Act.put, List.setIfInBounds_toArray, List.set_cons_zero, List.set_cons_succ, i64_w, i32_w]
        rfl
      refine one_ (i := 14) (N := some 133) #[true, true, true, true, true, true, true, true, true, true, true, true, true, true, true, false, false] rfl rfl (by kernel_rfl) (by decide) (fun K hK => ?_)
      clear hHeld
      refine goes_ Try.func20 (by kernel_rfl) rfl #[.slice A8 (came bs x).length c8, .slice A2 (came bs x).length c2] (by rfl) rfl rfl (by (try simp only [List.map_toArray, List.map_cons, List.map_nil]); first | done | rfl) ?_
      have hn_ := Kd.N_reads' HR.out
      have h4_ := Kd.C_take (m := (came bs x).length) (by rw [HRL.out]; exact Kd.C_below HR2.out HB.out) (by rw [HRL.out]; exact HCX.out.1)
      rw [← HCX.out.2.1] at h4_
      refine (HSM.out x _ HB.out A8 c8 hn_.2.2 hn_.2.1 A2 c2 h4_ g2').mono ?_
      rintro e wo ⟨rfl, hb⟩
      refine ⟨_, rfl, ?_⟩
      clear hn_ h4_
      have n_B11 := Lib.hid (show wo.heap[g11]? = some (.cells #[.int .u64 s0, .int .u64 s1, .int .i64 s2, .int .i64 s3, .int .i64 s4, .int .u64 (x : Int), .slice A7 held.length c7, .slice A8 (came bs x).length c8, .bool dn] 30 (0, 0)) from blk_below B11.out hb)
      have n_HB := Lib.hid (show Below w.heap.size w wo from below_step HB.out hb)
      clear B11 HB HR hb
      have B11 := n_B11
      have HB := n_HB
      clear n_B11 n_HB
      refine hK.out _ _ ((blk_cell B11.out 7).trans rfl) (fun hHeld => ?_)
      clear hK K
      refine norm_ (a' := ?_) ?_ ?_
      rotate_left
      · show Act.put _ (some 133) _ = _
        simp only [Act.put, List.setIfInBounds_toArray, List.set_cons_zero, List.set_cons_succ, i64_w, i32_w]
        rfl
      refine pure_ (i := 15) (N := some 134) (v := ?_) (a' := ?_) #[true, true, true, true, true, true, true, true, true, true, true, true, true, true, true, true, false] rfl rfl (by kernel_rfl) (fun _ _ _ h => h) (Or.inl ⟨by rfl, ?_⟩) ?_ ?_
      rotate_left
      · intro w'
        go_simp
        with_reducible rfl
      rotate_left
      · simp only [Act.put, List.setIfInBounds_toArray, List.set_cons_zero, List.set_cons_succ, i64_w, i32_w]
        rfl
      refine pure_ (i := 16) (N := some 135) (v := ?_) (a' := ?_) #[true, true, true, true, true, true, true, true, true, true, true, true, true, true, true, true, true] rfl rfl (by kernel_rfl) (fun _ _ _ h => h) (Or.inl ⟨by rfl, ?_⟩) ?_ ?_
      rotate_left
      · intro w'
        go_simp
        with_reducible rfl
      rotate_left
      · simp only [Act.put, List.setIfInBounds_toArray, List.set_cons_zero, List.set_cons_succ, i64_w, i32_w]
        rfl
      refine done_ (by kernel_rfl) ?_
      clear hHeld
      have p11_8 := (show World.cell? _ ⟨g11, 8, none⟩ = some (.bool dn) from blk_cell B11.out 8)
      have p11_7 := (show World.cell? _ ⟨g11, 7, none⟩ = some (.slice A8 (came bs x).length c8) from blk_cell B11.out 7)
      cases dn with
      | false =>
        go_wp2
        go_ret
        exact ⟨rfl, HB.out⟩
      | true =>
        have hl_ : (came bs x).length = m2 := HCX.out.2.2 (by have h_ := HGG.out.2.1; simp at h_; omega)
        have e1 : ((came bs x).length == m2) = true := by simp [hl_]
        have e2 : (((came bs x).length : Int) == (m2 : Int)) = true := by simp [hl_]
        clear hl_
        go_wp2
        go_ret
        exact ⟨rfl, HB.out⟩
theorem once_true (s0 s1 s2 s3 s4 : Int) (A2 Ap Aa : Option Addr) (m2 c2 np cp na ca : Nat) (rows : List (List S112)) (picks : List Int) (acks : List Bool) (w : World) (hrl : rows.length = m2) (hr2 : Kd.C (Kd.slice 112 k112) w A2 m2 rows) (hc2 : m2 ≤ c2) (hft : FitR rows) (hpl : picks.length = np) (hp : Kd.C (Kd.int .i64) w Ap np picks) (hal : acks.length = na) (ha : Kd.C Kd.bool w Aa na acks) (hnp : np ≤ 4611686018427387904) (hna : na ≤ 4611686018427387904) :
    Calls Try.prog 6 #[.agg #[.int .u64 s0, .int .u64 s1, .int .i64 s2, .int .i64 s3, .int .i64 s4], .slice A2 m2 c2, .slice Ap np cp, .slice Aa na ca] w fun e w' => e = .returned (.bool true) ∧ Below w.heap.size w w' := by
  by_cases h : 4096 < m2
  · exact once_many s0 s1 s2 s3 s4 A2 Ap Aa m2 c2 np cp na ca rows picks acks w hrl hr2 hc2 hft hpl hp hal ha hnp hna h
  · exact once_few s0 s1 s2 s3 s4 A2 Ap Aa m2 c2 np cp na ca rows picks acks w hrl hr2 hc2 hft hpl hp hal ha hnp hna h
end Go.Proofs.Ytkbemagcoojmmaa.Val
