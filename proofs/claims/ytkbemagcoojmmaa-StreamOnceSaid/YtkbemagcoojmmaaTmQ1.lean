/- Package stream: Take, a batch that is taken, ahead of all that are held. Conditions: as in Tk; the rows' number. Printed by gtm.py. -/
import Derived.Test.YtkbemagcoojmmaaNnQ1
namespace Go.Proofs.Ytkbemagcoojmmaa.Val
open Go.RowKit Go.Proofs.Ytkbemagcoojmmaa.G Go.Proofs.Ytkbemagcoojmmaa.Lx Go.Proofs.YtkbemagcoojmmaaW.PrintWords Go.Proofs.YtkbemagcoojmmaaW.PrintLast Go.Proofs.YtkbemagcoojmmaaW.PrintMore
set_option linter.unusedVariables false
set_option linter.unusedSimpArgs false
attribute [local go_sem high] eqA26
def insS (held : List S83) (i : Nat) (x : S83) : List S83 := held.take i ++ [x] ++ held.drop i
def drain : Int → List S83 → List (List S112) → Bool → Int × List S83 × List (List S112) × Bool
  | next, [], rows, dn => (next, [], rows, dn)
  | next, b :: t, rows, dn => if b.f0 = next then drain (IntKind.u64.wrap (next + 1)) t (rows ++ b.f2) b.f1 else (next, b :: t, rows, dn)
theorem head83 {W : World} {base q c : Nat} {ok : Nat → Prop} {Av : Option Addr} {b : S83} {t : List S83} (h : Kd.V k83 83 W base ok (.slice Av q c) (b :: t)) : ∃ ad A2 c2, Av = some ad ∧ W.cell? ad = some (.int .u64 b.f0) ∧ W.cell? ⟨ad.block, ad.off + 1, none⟩ = some (.bool b.f1) ∧ W.cell? ⟨ad.block, ad.off + 2, none⟩ = some (.slice A2 b.f2.length c2) ∧ b.f2.length ≤ c2 ∧ Kd.F E1 W ok A2 b.f2.length b.f2 := by
  have h0 := Kd.V_reads' h
  have hq : 0 < q := by rw [h0.1]; simp
  obtain ⟨ad, _, eA, _⟩ := Kd.C_get h0.2.2 z83 0 (by omega) (by simp)
  subst eA
  obtain ⟨cs, _, hFK, hc0⟩ := Kd.V_get h z83 0 (by omega) (by omega)
  obtain ⟨A2, c2, rfl, l2, hF⟩ := k83_openF hFK
  have hc : ∀ j u, [Value.int IntKind.u64 b.f0, Value.bool b.f1, Value.slice A2 b.f2.length c2][j]? = some u → W.cell? (ad.add (0 * 3 + j)) = some u := hc0
  refine ⟨ad, A2, c2, rfl, ?_, ?_, ?_, l2, hF⟩
  · have := hc 0 _ rfl; simpa [Addr.add_zero'] using this
  · have := hc 1 _ rfl; rw [add_field _ _ 1 (by omega)] at this; simpa [Addr.add_zero'] using this
  · have := hc 2 _ rfl; rw [add_field _ _ 2 (by omega)] at this; simpa [Addr.add_zero'] using this
def tot (h : List S83) : Nat := (h.map (fun b => b.f2.length)).sum
set_option maxHeartbeats 80000000 in
set_option maxRecDepth 100000 in
theorem take_main_z (a0 a1 a2 a3 a4 next kd b0 b1 b2 b3 b4 sq : Int) (done lst : Bool) (x1 x7 x8 x9 x10 x11 x12 x13 x14 x15 x16 x17 x18 x19 x20 x21 x22 x23 x24 x25 x26 x27 x28 x29 x30 x31 x32 x33 x34 x35 x36 x40 x41 x42 x43 x44 x45 x46 : Value) (kk : Nat) (P6 P7 P9 : Nat → Prop) (A D E : Option Addr) (c d mc : Nat) (held : List S83) (rows mrows : List (List S112)) (w : World) (hH : Kd.V k83 83 w w.heap.size P6 (.slice A held.length c) held) (hR : Kd.V E1 101 w w.heap.size P7 (.slice D rows.length d) rows) (hM : Kd.V E1 101 w w.heap.size P9 (.slice E mrows.length mc) mrows) (hn0 : 0 ≤ next) (hl1 : held.length ≤ 4611686018427387904) (hl2 : rows.length ≤ 4611686018427387904) (hl3 : mrows.length ≤ 4611686018427387904) (hoi : stream_ownIn.f kk a0 a1 a2 a3 a4 next held rows done = some (a0, a1, a2, a3, a4, next, held, rows, done)) (hv : inV next held rows.length done = 0) (hk4 : kd = 4) (hst : ((!(b0 == a0) || (!(b1 == a1))) || (!(b2 == a2) || (!(b3 == a3) || (!(b4 == a4))))) = false) (hml : mrows.length ≤ 8) (hnf : foundAt held sq = false) (hnd : done = false) (hge : next ≤ sq) (hr1 : ¬ 4 ≤ IntKind.u64.wrap (sq - next)) (hr2 : ¬ 512 ≤ sq) (hsl : ¬ ((0 < lb held sq ∧ (held.getD (lb held sq - 1) z83).f1 = true) ∨ (lst = true ∧ lb held sq < held.length))) (hown : stream_own.f kk mrows = some mrows) (hhl : (held.length + 1) * 40 ≤ 140737488355328) (htot : rows.length + tot (insS held (lb held sq) ⟨sq, lst, mrows⟩) ≤ 5864062014804) (hz : lb held sq = 0) :
    Calls Try.prog 10 #[.agg #[.int .u64 a0, .int .u64 a1, .int .i64 a2, .int .i64 a3, .int .i64 a4, .int .u64 next, .slice A held.length c, .slice D rows.length d, .bool done], .agg #[.int .u8 kd, x1, .int .u64 b0, .int .u64 b1, .int .i64 b2, .int .i64 b3, .int .i64 b4, x7, x8, x9, x10, x11, x12, x13, x14, x15, x16, x17, x18, x19, x20, x21, x22, x23, x24, x25, x26, x27, x28, x29, x30, x31, x32, x33, x34, x35, x36, .int .u64 sq, .bool lst, .slice E mrows.length mc, x40, x41, x42, x43, x44, x45, x46]] w (fun e w' => TakePost w (fun k => P6 k ∨ P7 k ∨ P9 k) [.int .u64 a0, .int .u64 a1, .int .i64 a2, .int .i64 a3, .int .i64 a4] (drain next (insS held (lb held sq) ⟨sq, lst, mrows⟩) rows false).1 (drain next (insS held (lb held sq) ⟨sq, lst, mrows⟩) rows false).2.1 (drain next (insS held (lb held sq) ⟨sq, lst, mrows⟩) rows false).2.2.1 (drain next (insS held (lb held sq) ⟨sq, lst, mrows⟩) rows false).2.2.2 0 e w') := by
  have HB := Lib.hid (Below.refl w.heap.size w)
  have HH := Lib.hid (Kd.V_bound hH)
  have HR := Lib.hid (Kd.V_bound hR)
  have HM := Lib.hid (Kd.V_bound hM)
  have HCI := Lib.hid (fun (wx : World) (hx : Below w.heap.size w wx) => checkin_calls a0 a1 a2 a3 a4 next A D rows.length c d done held wx (Kd.C_below (Kd.F_now (Kd.V_at hH).2.2) hx) hl1 hn0 hl2)
  have HOI := Lib.hid (fun (wx : World) (hx : Below w.heap.size w wx) => stream_ownIn.calls kk a0 a1 a2 a3 a4 next (fun k => P6 k ∧ k < w.heap.size) A c held (fun k => P7 k ∧ k < w.heap.size) D d rows done a0 a1 a2 a3 a4 next held rows done wx (Kd.V_map (base := w.heap.size) (Kd.V_below (Kd.V_bound hH) hx) (fun _ hf => hf)) (Kd.V_map (base := w.heap.size) (Kd.V_below (Kd.V_bound hR) hx) (fun _ hf => hf)) hoi)
  have hbd : bads next next held = false := by
    unfold inV inBad at hv
    split at hv
    · cases hv
    · rename_i hb_
      have := Bool.eq_false_iff.2 hb_
      rw [Bool.or_eq_false_iff] at this
      exact this.2
  have HSR := Lib.hid (fun (wx : World) (Ax : Option Addr) (cx : Nat) (hx : Kd.C k83 wx Ax held.length held) => search_calls Ax cx held sq wx hx hl1 (bads_rise next held next hbd).2)
  obtain ⟨at_, hat_⟩ : ∃ at_, at_ = lb held sq := ⟨_, rfl⟩
  obtain ⟨is_, his_⟩ : ∃ is_, is_ = foundAt held sq := ⟨_, rfl⟩
  rw [← hat_, ← his_] at HSR
  have hisf : is_ = false := his_.trans hnf
  subst hisf
  clear hnf his_
  obtain ⟨nH, hnH⟩ : ∃ nH, nH = insS held (lb held sq) ⟨sq, lst, mrows⟩ := ⟨_, rfl⟩
  rw [← hnH] at htot ⊢
  rw [← hat_] at hsl hnH
  have HNW := Lib.hid hnH
  obtain ⟨res, hres⟩ : ∃ res, res = drain next nH rows false := ⟨_, rfl⟩
  rw [← hres]
  have HRES := Lib.hid hres
  have HTOT := Lib.hid htot
  have HWN := Lib.hid hown
  clear hnH hres htot hown
  have Hat := Lib.hid hat_
  have HZ := Lib.hid (hat_.trans hz)
  clear hz
  clear hat_ hoi hbd
  have HV := Lib.hid hv
  clear hH hR hM hv
  obtain ⟨n, hn⟩ : ∃ n, n = held.length := ⟨_, rfl⟩
  obtain ⟨m, hm⟩ : ∃ m, m = rows.length := ⟨_, rfl⟩
  obtain ⟨o, ho⟩ : ∃ o, o = mrows.length := ⟨_, rfl⟩
  rw [← hn] at HH HCI HOI HSR hl1 hsl hhl ⊢
  rw [← hm] at HR HCI HOI HV hl2 ⊢
  rw [← ho] at HM hl3 hml ⊢
  have Hn := Lib.hid hn
  have Hm := Lib.hid hm
  have Ho := Lib.hid ho
  clear hn hm ho
  have y1 : (kd != 4) = false := by simpa using hk4
  have y1' : (kd == 4) = true := by simpa using hk4
  have y3 : decide ((8 : Int) < (o : Int)) = false := decide_eq_false (by omega)
  have y3' : decide (8 < o) = false := decide_eq_false (by omega)
  clear hk4
  subst hnd
  have y5 : decide (sq < next) = false := decide_eq_false (by omega)
  have y6 := decide_eq_false hr1
  have y7 := decide_eq_false hr2
  have hle : at_ ≤ n := by rw [Hn.out, Hat.out]; exact (List.takeWhile_sublist _).length_le
  clear hr1 hr2 hge Hat
  have h0 := HZ.out
  clear HZ
  · subst h0
    rcases lst with _ | _
    · clear hsl
      go_enter Try.func10, Try.ntmps10
      go_wp2_with (first
        | ((with_reducible refine gate_dst (N := 2) rfl ?_); refine box_event ?hg (N := 2) ?hd (cs := #[.int .u64 a0, .int .u64 a1, .int .i64 a2, .int .i64 a3, .int .i64 a4, .int .u64 next, .slice A n c, .slice D m d, .bool false]) (t := 30) ?hr ?_; (case hd => rfl); (case hg => rfl); (case hr => first | (go_simp; done) | (go_simp; rfl)); intro g2 hg wb2 hbx hb; have Eg2 := Lib.hid (show w.heap.size ≤ g2 by rw [hg]; exact HB.out.size); have n_HB := Lib.hid (below_step HB.out hb); clear HB; have HB := n_HB; clear n_HB; have B2 := Lib.hid hbx; clear hg hbx hb; have p2_0 := (blk_cell B2.out 0).trans rfl; have p2_1 := (blk_cell B2.out 1).trans rfl; have p2_2 := (blk_cell B2.out 2).trans rfl; have p2_3 := (blk_cell B2.out 3).trans rfl; have p2_4 := (blk_cell B2.out 4).trans rfl; have p2_5 := (blk_cell B2.out 5).trans rfl; have p2_6 := (blk_cell B2.out 6).trans rfl; have p2_7 := (blk_cell B2.out 7).trans rfl; have p2_8 := (blk_cell B2.out 8).trans rfl; have l2 := blk_lt B2.out)
        | ((with_reducible refine gate_dst (N := 3) rfl ?_); refine box_event ?hg (N := 3) ?hd (cs := #[.int .u8 kd, x1, .int .u64 b0, .int .u64 b1, .int .i64 b2, .int .i64 b3, .int .i64 b4, x7, x8, x9, x10, x11, x12, x13, x14, x15, x16, x17, x18, x19, x20, x21, x22, x23, x24, x25, x26, x27, x28, x29, x30, x31, x32, x33, x34, x35, x36, .int .u64 sq, .bool false, .slice E o mc, x40, x41, x42, x43, x44, x45, x46]) (t := 52) ?hr ?_; (case hd => rfl); (case hg => rfl); (case hr => first | (go_simp; done) | (go_simp; rfl)); intro g3 hg wb3 hbx hb; have Eg3 := Lib.hid (show w.heap.size ≤ g3 by rw [hg]; exact HB.out.size); have Ne2_3 := Lib.hid (show ¬ g2 = g3 by rw [hg]; have := blk_lt B2.out; omega); (try clear p2_0 p2_1 p2_2 p2_3 p2_4 p2_5 p2_6 p2_7 p2_8); have n_B2 := Lib.hid (blk_below B2.out hb); have n_HB := Lib.hid (below_step HB.out hb); clear B2 HB; have B2 := n_B2; have HB := n_HB; clear n_B2 n_HB; have p2_0 := (blk_cell B2.out 0).trans rfl; have p2_1 := (blk_cell B2.out 1).trans rfl; have p2_2 := (blk_cell B2.out 2).trans rfl; have p2_3 := (blk_cell B2.out 3).trans rfl; have p2_4 := (blk_cell B2.out 4).trans rfl; have p2_5 := (blk_cell B2.out 5).trans rfl; have p2_6 := (blk_cell B2.out 6).trans rfl; have p2_7 := (blk_cell B2.out 7).trans rfl; have p2_8 := (blk_cell B2.out 8).trans rfl; have B3 := Lib.hid hbx; clear hg hbx hb; have l3 := blk_lt B3.out)
        | ((with_reducible refine gate_dst (N := 4) rfl ?_); refine box_event ?hg (N := 4) ?hd (cs := #[.int .u64 0, .int .u64 0, .int .i64 0, .int .i64 0, .int .i64 0, .int .u64 0, .slice none 0 0, .slice none 0 0, .bool false]) (t := 30) ?hr ?_; (case hd => rfl); (case hg => rfl); (case hr => first | (go_simp; done) | (go_simp; rfl)); intro g4 hg wb4 hbx hb; have Eg4 := Lib.hid (show w.heap.size ≤ g4 by rw [hg]; exact HB.out.size); have Ne2_4 := Lib.hid (show ¬ g2 = g4 by rw [hg]; have := blk_lt B2.out; omega); have Ne3_4 := Lib.hid (show ¬ g3 = g4 by rw [hg]; have := blk_lt B3.out; omega); (try clear p2_0 p2_1 p2_2 p2_3 p2_4 p2_5 p2_6 p2_7 p2_8); have n_B2 := Lib.hid (blk_below B2.out hb); have n_B3 := Lib.hid (blk_below B3.out hb); have n_HB := Lib.hid (below_step HB.out hb); clear B2 B3 HB; have B2 := n_B2; have B3 := n_B3; have HB := n_HB; clear n_B2 n_B3 n_HB; have p2_0 := (blk_cell B2.out 0).trans rfl; have p2_1 := (blk_cell B2.out 1).trans rfl; have p2_2 := (blk_cell B2.out 2).trans rfl; have p2_3 := (blk_cell B2.out 3).trans rfl; have p2_4 := (blk_cell B2.out 4).trans rfl; have p2_5 := (blk_cell B2.out 5).trans rfl; have p2_6 := (blk_cell B2.out 6).trans rfl; have p2_7 := (blk_cell B2.out 7).trans rfl; have p2_8 := (blk_cell B2.out 8).trans rfl; have B4 := Lib.hid hbx; clear hg hbx hb; have l4 := blk_lt B4.out)
        | (go_at_call 14; refine (HCI.out _ HB.out).mono ?_; rw [HV.out]; rintro e w4c ⟨rfl, hb⟩; (try clear p2_0 p2_1 p2_2 p2_3 p2_4 p2_5 p2_6 p2_7 p2_8); have n_B2 := Lib.hid (blk_below B2.out hb); have n_B3 := Lib.hid (blk_below B3.out hb); have n_B4 := Lib.hid (blk_below B4.out hb); have n_HB := Lib.hid (below_step HB.out hb); clear B2 B3 B4 HB; have B2 := n_B2; have B3 := n_B3; have B4 := n_B4; have HB := n_HB; clear n_B2 n_B3 n_B4 n_HB; have p2_0 := (blk_cell B2.out 0).trans rfl; have p2_1 := (blk_cell B2.out 1).trans rfl; have p2_2 := (blk_cell B2.out 2).trans rfl; have p2_3 := (blk_cell B2.out 3).trans rfl; have p2_4 := (blk_cell B2.out 4).trans rfl; have p2_5 := (blk_cell B2.out 5).trans rfl; have p2_6 := (blk_cell B2.out 6).trans rfl; have p2_7 := (blk_cell B2.out 7).trans rfl; have p2_8 := (blk_cell B2.out 8).trans rfl; clear hb)
        | (go_at_call 31; refine (HOI.out w4c HB.out).mono ?_; rintro e w5 ⟨vh, vr, rfl, hnh, hnr, hb⟩; have l2_ := blk_lt B2.out; have l3_ := blk_lt B3.out; have l4_ := blk_lt B4.out; have HNH := Lib.hid (Kd.N_lower (Kd.N_mono (ok' := (fun k => ((((P6 k ∨ P7 k ∨ P9 k) ∧ k < w.heap.size) ∨ w.heap.size ≤ k) ∧ k ∉ [g2, g3, g4]) ∧ some k ≠ (vr : Value).ownBlock)) hnh (fun k hk => ⟨⟨hk.1.imp (fun h => ⟨h.elim (fun x => .inl x.1) (fun x => .inr (.inl x.1)), h.elim (fun x => x.2) (fun x => x.2)⟩) (fun h => Nat.le_trans HB.out.size h), fun hm => by have := Eg2.out; have := Eg3.out; have := Eg4.out; simp at hm; rcases hk.1 with (h | h) | h <;> omega⟩, hk.2⟩)) HB.out.size); have HNR := Lib.hid (Kd.N_lower (Kd.N_mono (ok' := (fun k => ((((P6 k ∨ P7 k ∨ P9 k) ∧ k < w.heap.size) ∨ w.heap.size ≤ k) ∧ k ∉ [g2, g3, g4]) ∧ some k ≠ (vh : Value).ownBlock)) hnr (fun k hk => ⟨⟨hk.1.imp (fun h => ⟨h.elim (fun x => .inl x.1) (fun x => .inr (.inl x.1)), h.elim (fun x => x.2) (fun x => x.2)⟩) (fun h => Nat.le_trans HB.out.size h), fun hm => by have := Eg2.out; have := Eg3.out; have := Eg4.out; simp at hm; rcases hk.1 with (h | h) | h <;> omega⟩, hk.2⟩)) HB.out.size); (try clear p2_0 p2_1 p2_2 p2_3 p2_4 p2_5 p2_6 p2_7 p2_8 p3_0 p3_2 p3_3 p3_4 p3_5 p3_6 p3_37 p3_38 p3_39); have n_B2 := Lib.hid (blk_below B2.out hb); have n_B3 := Lib.hid (blk_below B3.out hb); have n_B4 := Lib.hid (blk_below B4.out hb); have n_HB := Lib.hid (below_step HB.out hb); clear B2 B3 B4 HB; have B2 := n_B2; have B3 := n_B3; have B4 := n_B4; have HB := n_HB; clear n_B2 n_B3 n_B4 n_HB; have p2_0 := (blk_cell B2.out 0).trans rfl; have p2_1 := (blk_cell B2.out 1).trans rfl; have p2_2 := (blk_cell B2.out 2).trans rfl; have p2_3 := (blk_cell B2.out 3).trans rfl; have p2_4 := (blk_cell B2.out 4).trans rfl; have p2_5 := (blk_cell B2.out 5).trans rfl; have p2_6 := (blk_cell B2.out 6).trans rfl; have p2_7 := (blk_cell B2.out 7).trans rfl; have p2_8 := (blk_cell B2.out 8).trans rfl; have p3_0 := (blk_cell B3.out 0).trans rfl; have p3_2 := (blk_cell B3.out 2).trans rfl; have p3_3 := (blk_cell B3.out 3).trans rfl; have p3_4 := (blk_cell B3.out 4).trans rfl; have p3_5 := (blk_cell B3.out 5).trans rfl; have p3_6 := (blk_cell B3.out 6).trans rfl; have p3_37 := (blk_cell B3.out 37).trans rfl; have p3_38 := (blk_cell B3.out 38).trans rfl; have p3_39 := (blk_cell B3.out 39).trans rfl; clear hb hnh hnr l2_ l3_ l4_; obtain ⟨Ah, ch, eh⟩ := Kd.N_slice HNH.out; rw [← Hn.out] at eh; subst eh; obtain ⟨Ar, cr, er⟩ := Kd.N_slice HNR.out; rw [← Hm.out] at er; subst er; skip)
        | ((with_reducible refine gate_store (t := 30) (p := 2) rfl ?_); have zc0 := (blk_cell B2.out 0).trans rfl; have zf0 := blk_frozen B2.out 0; have zc1 := (blk_cell B2.out 1).trans rfl; have zf1 := blk_frozen B2.out 1; have zc2 := (blk_cell B2.out 2).trans rfl; have zf2 := blk_frozen B2.out 2; have zc3 := (blk_cell B2.out 3).trans rfl; have zf3 := blk_frozen B2.out 3; have zc4 := (blk_cell B2.out 4).trans rfl; have zf4 := blk_frozen B2.out 4; have zc5 := (blk_cell B2.out 5).trans rfl; have zf5 := blk_frozen B2.out 5; have zc6 := (blk_cell B2.out 6).trans rfl; have zf6 := blk_frozen B2.out 6; have zc7 := (blk_cell B2.out 7).trans rfl; have zf7 := blk_frozen B2.out 7; have zc8 := (blk_cell B2.out 8).trans rfl; have zf8 := blk_frozen B2.out 8; refine store_event (t := 30) (p := 2) (v := ?vows1) (w1 := setAll w5 g2 0 [.int .u64 a0, .int .u64 a1, .int .i64 a2, .int .i64 a3, .int .i64 a4, .int .u64 next, .slice Ah n ch, .slice Ar m cr, .bool false]) ?hg ?ho ?hn ?hr ?_; (case ho => rfl); (case hg => rfl); (case hn => rfl); (case hr => first | (go_simp; done) | (go_simp; rfl)); intro ws1 hw; clear zc0 zf0 zc1 zf1 zc2 zf2 zc3 zf3 zc4 zf4 zc5 zf5 zc6 zf6 zc7 zf7 zc8 zf8; (try clear p2_0 p2_1 p2_2 p2_3 p2_4 p2_5 p2_6 p2_7 p2_8 p3_0 p3_2 p3_3 p3_4 p3_5 p3_6 p3_37 p3_38 p3_39); have n_B2 := Lib.hid (((by rw [hw]; exact setAll_box [.int .u64 a0, .int .u64 a1, .int .i64 a2, .int .i64 a3, .int .i64 a4, .int .u64 next, .slice Ah n ch, .slice Ar m cr, .bool false] B2.out rfl) : ws1.heap[g2]? = some (.cells #[.int .u64 a0, .int .u64 a1, .int .i64 a2, .int .i64 a3, .int .i64 a4, .int .u64 next, .slice Ah n ch, .slice Ar m cr, .bool false] 30 (0, 0)))); have n_B3 := Lib.hid (((by rw [hw]; exact blk_kept B3.out (setAll_kept [.int .u64 a0, .int .u64 a1, .int .i64 a2, .int .i64 a3, .int .i64 a4, .int .u64 next, .slice Ah n ch, .slice Ar m cr, .bool false] 0 w5) (fun e_ => Ne2_3.out e_.symm)) : ws1.heap[g3]? = some (.cells #[.int .u8 kd, x1, .int .u64 b0, .int .u64 b1, .int .i64 b2, .int .i64 b3, .int .i64 b4, x7, x8, x9, x10, x11, x12, x13, x14, x15, x16, x17, x18, x19, x20, x21, x22, x23, x24, x25, x26, x27, x28, x29, x30, x31, x32, x33, x34, x35, x36, .int .u64 sq, .bool false, .slice E o mc, x40, x41, x42, x43, x44, x45, x46] 52 (0, 0)))); have n_B4 := Lib.hid (((by rw [hw]; exact blk_kept B4.out (setAll_kept [.int .u64 a0, .int .u64 a1, .int .i64 a2, .int .i64 a3, .int .i64 a4, .int .u64 next, .slice Ah n ch, .slice Ar m cr, .bool false] 0 w5) (fun e_ => Ne2_4.out e_.symm)) : ws1.heap[g4]? = some (.cells #[.int .u64 0, .int .u64 0, .int .i64 0, .int .i64 0, .int .i64 0, .int .u64 0, .slice none 0 0, .slice none 0 0, .bool false] 30 (0, 0)))); have n_HNH := Lib.hid ((by rw [hw]; exact Kd.N_kept HNH.out (setAll_kept [.int .u64 a0, .int .u64 a1, .int .i64 a2, .int .i64 a3, .int .i64 a4, .int .u64 next, .slice Ah n ch, .slice Ar m cr, .bool false] 0 w5) (fun k hk => fun e_ => hk.1.2 (by rw [e_]; simp)) : Kd.N k83 83 ws1 w.heap.size (fun k => ((((P6 k ∨ P7 k ∨ P9 k) ∧ k < w.heap.size) ∨ w.heap.size ≤ k) ∧ k ∉ [g2, g3, g4]) ∧ some k ≠ (.slice Ar m cr : Value).ownBlock) (.slice Ah n ch) held)); have n_HNR := Lib.hid ((by rw [hw]; exact Kd.N_kept HNR.out (setAll_kept [.int .u64 a0, .int .u64 a1, .int .i64 a2, .int .i64 a3, .int .i64 a4, .int .u64 next, .slice Ah n ch, .slice Ar m cr, .bool false] 0 w5) (fun k hk => fun e_ => hk.1.2 (by rw [e_]; simp)) : Kd.N E1 101 ws1 w.heap.size (fun k => ((((P6 k ∨ P7 k ∨ P9 k) ∧ k < w.heap.size) ∨ w.heap.size ≤ k) ∧ k ∉ [g2, g3, g4]) ∧ some k ≠ (.slice Ah n ch : Value).ownBlock) (.slice Ar m cr) rows)); have n_HB := Lib.hid ((by rw [hw]; exact setAll_below Eg2.out [.int .u64 a0, .int .u64 a1, .int .i64 a2, .int .i64 a3, .int .i64 a4, .int .u64 next, .slice Ah n ch, .slice Ar m cr, .bool false] 0 w5 HB.out : Below w.heap.size w ws1)); clear B2 B3 B4 HNH HNR HB; have B2 := n_B2; have B3 := n_B3; have B4 := n_B4; have HNH := n_HNH; have HNR := n_HNR; have HB := n_HB; clear n_B2 n_B3 n_B4 n_HNH n_HNR n_HB; clear hw; have p2_0 := (blk_cell B2.out 0).trans rfl; have p2_1 := (blk_cell B2.out 1).trans rfl; have p2_2 := (blk_cell B2.out 2).trans rfl; have p2_3 := (blk_cell B2.out 3).trans rfl; have p2_4 := (blk_cell B2.out 4).trans rfl; have p2_5 := (blk_cell B2.out 5).trans rfl; have p2_6 := (blk_cell B2.out 6).trans rfl; have p2_7 := (blk_cell B2.out 7).trans rfl; have p2_8 := (blk_cell B2.out 8).trans rfl; have p3_0 := (blk_cell B3.out 0).trans rfl; have p3_2 := (blk_cell B3.out 2).trans rfl; have p3_3 := (blk_cell B3.out 3).trans rfl; have p3_4 := (blk_cell B3.out 4).trans rfl; have p3_5 := (blk_cell B3.out 5).trans rfl; have p3_6 := (blk_cell B3.out 6).trans rfl; have p3_37 := (blk_cell B3.out 37).trans rfl; have p3_38 := (blk_cell B3.out 38).trans rfl; have p3_39 := (blk_cell B3.out 39).trans rfl; skip)
        | (go_at_call 32; refine (HSR.out ws1 Ah ch (by rw [Hn.out]; rw [Hn.out] at HNH; exact (Kd.N_reads' HNH.out).2.2)).mono ?_; rintro e w6 ⟨rfl, hb⟩; (try clear p2_0 p2_1 p2_2 p2_3 p2_4 p2_5 p2_6 p2_7 p2_8 p3_0 p3_2 p3_3 p3_4 p3_5 p3_6 p3_37 p3_38 p3_39); have n_B2 := Lib.hid (blk_below B2.out hb); have n_B3 := Lib.hid (blk_below B3.out hb); have n_B4 := Lib.hid (blk_below B4.out hb); have n_HNH := Lib.hid (Kd.N_below HNH.out hb); have n_HNR := Lib.hid (Kd.N_below HNR.out hb); have n_HB := Lib.hid (below_step HB.out hb); clear B2 B3 B4 HNH HNR HB; have B2 := n_B2; have B3 := n_B3; have B4 := n_B4; have HNH := n_HNH; have HNR := n_HNR; have HB := n_HB; clear n_B2 n_B3 n_B4 n_HNH n_HNR n_HB; have p2_0 := (blk_cell B2.out 0).trans rfl; have p2_1 := (blk_cell B2.out 1).trans rfl; have p2_2 := (blk_cell B2.out 2).trans rfl; have p2_3 := (blk_cell B2.out 3).trans rfl; have p2_4 := (blk_cell B2.out 4).trans rfl; have p2_5 := (blk_cell B2.out 5).trans rfl; have p2_6 := (blk_cell B2.out 6).trans rfl; have p2_7 := (blk_cell B2.out 7).trans rfl; have p2_8 := (blk_cell B2.out 8).trans rfl; have p3_0 := (blk_cell B3.out 0).trans rfl; have p3_2 := (blk_cell B3.out 2).trans rfl; have p3_3 := (blk_cell B3.out 3).trans rfl; have p3_4 := (blk_cell B3.out 4).trans rfl; have p3_5 := (blk_cell B3.out 5).trans rfl; have p3_6 := (blk_cell B3.out 6).trans rfl; have p3_37 := (blk_cell B3.out 37).trans rfl; have p3_38 := (blk_cell B3.out 38).trans rfl; have p3_39 := (blk_cell B3.out 39).trans rfl; clear hb))
      refine start_ (n := 15) (S := fun w' => w'.cell? ⟨g2, 6, none⟩ = some (.slice Ah n ch) ∧ w'.cell? ⟨g3, 37, none⟩ = some (.int .u64 sq) ∧ w'.cell? ⟨g3, 38, none⟩ = some (.bool false) ∧ w'.cell? ⟨g3, 39, none⟩ = some (.slice E o mc)) (ds := [14]) #[false, false, false, false, false, false, false, false, false, false, false, false, false, false, false] (by kernel_rfl) rfl rfl ⟨(blk_cell B2.out 6).trans rfl, (blk_cell B3.out 37).trans rfl, (blk_cell B3.out 38).trans rfl, (blk_cell B3.out 39).trans rfl⟩ (fun hHeld => ?_)
      generalize hw8 : World.drew _ = wd at hHeld ⊢
      have n_B2 := Lib.hid (show wd.heap[g2]? = some (.cells #[.int .u64 a0, .int .u64 a1, .int .i64 a2, .int .i64 a3, .int .i64 a4, .int .u64 next, .slice Ah n ch, .slice Ar m cr, .bool false] 30 (0, 0)) from (by rw [← hw8]; exact blk_drew B2.out))
      have n_B3 := Lib.hid (show wd.heap[g3]? = some (.cells #[.int .u8 kd, x1, .int .u64 b0, .int .u64 b1, .int .i64 b2, .int .i64 b3, .int .i64 b4, x7, x8, x9, x10, x11, x12, x13, x14, x15, x16, x17, x18, x19, x20, x21, x22, x23, x24, x25, x26, x27, x28, x29, x30, x31, x32, x33, x34, x35, x36, .int .u64 sq, .bool false, .slice E o mc, x40, x41, x42, x43, x44, x45, x46] 52 (0, 0)) from (by rw [← hw8]; exact blk_drew B3.out))
      have n_B4 := Lib.hid (show wd.heap[g4]? = some (.cells #[.int .u64 0, .int .u64 0, .int .i64 0, .int .i64 0, .int .i64 0, .int .u64 0, .slice none 0 0, .slice none 0 0, .bool false] 30 (0, 0)) from (by rw [← hw8]; exact blk_drew B4.out))
      have n_HNH := Lib.hid (show Kd.N k83 83 wd w.heap.size (fun k => ((((P6 k ∨ P7 k ∨ P9 k) ∧ k < w.heap.size) ∨ w.heap.size ≤ k) ∧ k ∉ [g2, g3, g4]) ∧ some k ≠ (.slice Ar m cr : Value).ownBlock) (.slice Ah n ch) held from (by rw [← hw8]; exact Kd.N_drew HNH.out))
      have n_HNR := Lib.hid (show Kd.N E1 101 wd w.heap.size (fun k => ((((P6 k ∨ P7 k ∨ P9 k) ∧ k < w.heap.size) ∨ w.heap.size ≤ k) ∧ k ∉ [g2, g3, g4]) ∧ some k ≠ (.slice Ah n ch : Value).ownBlock) (.slice Ar m cr) rows from (by rw [← hw8]; exact Kd.N_drew HNR.out))
      have n_HB := Lib.hid (show Below w.heap.size w wd from (by rw [← hw8]; exact below_drew1 HB.out))
      clear B2 B3 B4 HNH HNR HB
      have B2 := n_B2
      have B3 := n_B3
      have B4 := n_B4
      have HNH := n_HNH
      have HNR := n_HNR
      have HB := n_HB
      clear n_B2 n_B3 n_B4 n_HNH n_HNR n_HB
      clear hw8
      (try clear p2_0 p2_1 p2_2 p2_3 p2_4 p2_5 p2_6 p2_7 p2_8 p3_0 p3_2 p3_3 p3_4 p3_5 p3_6 p3_37 p3_38 p3_39)
      refine pure_ (i := 0) (N := some 95) (v := ?_) (a' := ?_) #[true, false, false, false, false, false, false, false, false, false, false, false, false, false, false] rfl rfl (by kernel_rfl) (fun _ _ _ h => h) (Or.inl ⟨by rfl, ?_⟩) ?_ ?_
      rotate_left
      · intro w'
        go_simp
        with_reducible rfl
      rotate_left
      · simp only [Act.put, List.setIfInBounds_toArray, List.set_cons_zero, List.set_cons_succ, i64_w, i32_w]
        rfl
      refine pure_ (i := 2) (N := some 97) (v := ?_) (a' := ?_) #[true, false, true, false, false, false, false, false, false, false, false, false, false, false, false] rfl rfl (by kernel_rfl) (fun _ _ _ h => h) (Or.inl ⟨by rfl, ?_⟩) ?_ ?_
      rotate_left
      · intro w'
        go_simp
        with_reducible rfl
      rotate_left
      · simp only [Act.put, List.setIfInBounds_toArray, List.set_cons_zero, List.set_cons_succ, i64_w, i32_w]
        rfl
      refine pure_ (i := 3) (N := some 98) (v := ?_) (a' := ?_) #[true, false, true, true, false, false, false, false, false, false, false, false, false, false, false] rfl rfl (by kernel_rfl) (fun _ _ _ h => h) (Or.inl ⟨by rfl, ?_⟩) ?_ ?_
      rotate_left
      · intro w'
        go_simp
        with_reducible rfl
      rotate_left
      · simp only [Act.put, List.setIfInBounds_toArray, List.set_cons_zero, List.set_cons_succ, i64_w, i32_w]
        rfl
      refine pure_ (i := 5) (N := some 100) (v := ?_) (a' := ?_) #[true, false, true, true, false, true, false, false, false, false, false, false, false, false, false] rfl rfl (by kernel_rfl) (fun _ _ _ h => h) (Or.inl ⟨by rfl, ?_⟩) ?_ ?_
      rotate_left
      · intro w'
        go_simp
        with_reducible rfl
      rotate_left
      · simp only [Act.put, List.setIfInBounds_toArray, List.set_cons_zero, List.set_cons_succ, i64_w, i32_w]
        rfl
      refine pure_ (i := 7) (N := some 102) (v := ?_) (a' := ?_) #[true, false, true, true, false, true, false, true, false, false, false, false, false, false, false] rfl rfl (by kernel_rfl) (fun _ _ _ h => h) (Or.inl ⟨by rfl, ?_⟩) ?_ ?_
      rotate_left
      · intro w'
        go_simp
        with_reducible rfl
      rotate_left
      · simp only [Act.put, List.setIfInBounds_toArray, List.set_cons_zero, List.set_cons_succ, i64_w, i32_w]
        rfl
      refine take_ (i := 1) (N := some 96) (v := ?_) (a' := ?_) #[true, true, true, true, false, true, false, true, false, false, false, false, false, false, false] rfl rfl (by kernel_rfl) (fun _ _ _ h => h) (Or.inl ⟨by rfl, ?_⟩) hHeld ?_ ?_
      rotate_left
      · rintro w' ⟨s0_, s1_, s2_, s3_⟩
        go_simp
        with_reducible rfl
      rotate_left
      · simp only [Act.put, List.setIfInBounds_toArray, List.set_cons_zero, List.set_cons_succ, i64_w, i32_w]
        rfl
      refine take_ (i := 4) (N := some 99) (v := ?_) (a' := ?_) #[true, true, true, true, true, true, false, true, false, false, false, false, false, false, false] rfl rfl (by kernel_rfl) (fun _ _ _ h => h) (Or.inl ⟨by rfl, ?_⟩) hHeld ?_ ?_
      rotate_left
      · rintro w' ⟨s0_, s1_, s2_, s3_⟩
        go_simp
        with_reducible rfl
      rotate_left
      · simp only [Act.put, List.setIfInBounds_toArray, List.set_cons_zero, List.set_cons_succ, i64_w, i32_w]
        rfl
      refine take_ (i := 6) (N := some 101) (v := ?_) (a' := ?_) #[true, true, true, true, true, true, true, true, false, false, false, false, false, false, false] rfl rfl (by kernel_rfl) (fun _ _ _ h => h) (Or.inl ⟨by rfl, ?_⟩) hHeld ?_ ?_
      rotate_left
      · rintro w' ⟨s0_, s1_, s2_, s3_⟩
        go_simp
        with_reducible rfl
      rotate_left
      · simp only [Act.put, List.setIfInBounds_toArray, List.set_cons_zero, List.set_cons_succ, i64_w, i32_w]
        rfl
      refine take_ (i := 8) (N := some 103) (v := ?_) (a' := ?_) #[true, true, true, true, true, true, true, true, true, false, false, false, false, false, false] rfl rfl (by kernel_rfl) (fun _ _ _ h => h) (Or.inl ⟨by rfl, ?_⟩) hHeld ?_ ?_
      rotate_left
      · rintro w' ⟨s0_, s1_, s2_, s3_⟩
        go_simp
        with_reducible rfl
      rotate_left
      · simp only [Act.put, List.setIfInBounds_toArray, List.set_cons_zero, List.set_cons_succ, i64_w, i32_w]
        rfl
      refine one_ (i := 9) (N := some 104) #[true, true, true, true, true, true, true, true, true, true, false, false, false, false, false] rfl rfl (by kernel_rfl) (by decide) (fun K hK => ?_)
      refine goes_ Try.func36 (by kernel_rfl) rfl #[.slice E o mc] (by rfl) rfl rfl (by (try simp only [List.map_toArray, List.map_cons, List.map_nil]); first | done | rfl) ?_
      have hvm := Kd.V_map (base := w.heap.size) (base' := wd.heap.size) (Kd.V_below HM.out HB.out) (fun _ hf => hf)
      rw [Ho.out] at hvm ⊢
      refine (stream_own.calls kk (fun k => P9 k ∧ k < w.heap.size) E mc mrows mrows wd hvm HWN.out).mono ?_
      rw [← Ho.out]
      rintro e wo ⟨vm, rfl, hnm, hb⟩
      refine ⟨_, rfl, ?_⟩
      clear hvm
      have l2_ := blk_lt B2.out
      have l3_ := blk_lt B3.out
      have l4_ := blk_lt B4.out
      have lH := Kd.N_lt HNH.out
      have lR := Kd.N_lt HNR.out
      have bR := Kd.N_base HNR.out
      have bH := Kd.N_base HNH.out
      have HVM := Lib.hid (show Kd.V E1 101 wo w.heap.size (fun k => ((fun k => (((P6 k ∨ P7 k ∨ P9 k) ∧ k < w.heap.size) ∨ w.heap.size ≤ k) ∧ k ∉ [g2, g3, g4]) k ∧ some k ≠ (.slice Ar m cr : Value).ownBlock) ∧ some k ≠ (.slice Ah n ch : Value).ownBlock) vm mrows from Kd.N_V (Kd.N_mono hnm (fun k hk => ⟨⟨⟨hk.imp (fun h => ⟨.inr (.inr h.1), h.2⟩) (fun h => Nat.le_trans HB.out.size h), fun hm_ => by have := Eg2.out; have := Eg3.out; have := Eg4.out; simp at hm_; rcases hk with h | h <;> omega⟩, fun e_ => by have h1_ := lR k e_.symm; have h2_ := bR k e_.symm; rcases hk with h | h <;> omega⟩, fun e_ => by have h1_ := lH k e_.symm; have h2_ := bH k e_.symm; rcases hk with h | h <;> omega⟩)))
      clear hnm lH lR bR bH l2_ l3_ l4_ hHeld
      have n_B2 := Lib.hid (show wo.heap[g2]? = some (.cells #[.int .u64 a0, .int .u64 a1, .int .i64 a2, .int .i64 a3, .int .i64 a4, .int .u64 next, .slice Ah n ch, .slice Ar m cr, .bool false] 30 (0, 0)) from blk_below B2.out hb)
      have n_B3 := Lib.hid (show wo.heap[g3]? = some (.cells #[.int .u8 kd, x1, .int .u64 b0, .int .u64 b1, .int .i64 b2, .int .i64 b3, .int .i64 b4, x7, x8, x9, x10, x11, x12, x13, x14, x15, x16, x17, x18, x19, x20, x21, x22, x23, x24, x25, x26, x27, x28, x29, x30, x31, x32, x33, x34, x35, x36, .int .u64 sq, .bool false, .slice E o mc, x40, x41, x42, x43, x44, x45, x46] 52 (0, 0)) from blk_below B3.out hb)
      have n_B4 := Lib.hid (show wo.heap[g4]? = some (.cells #[.int .u64 0, .int .u64 0, .int .i64 0, .int .i64 0, .int .i64 0, .int .u64 0, .slice none 0 0, .slice none 0 0, .bool false] 30 (0, 0)) from blk_below B4.out hb)
      have n_HNH := Lib.hid (show Kd.N k83 83 wo w.heap.size (fun k => ((((P6 k ∨ P7 k ∨ P9 k) ∧ k < w.heap.size) ∨ w.heap.size ≤ k) ∧ k ∉ [g2, g3, g4]) ∧ some k ≠ (.slice Ar m cr : Value).ownBlock) (.slice Ah n ch) held from Kd.N_below HNH.out hb)
      have n_HNR := Lib.hid (show Kd.N E1 101 wo w.heap.size (fun k => ((((P6 k ∨ P7 k ∨ P9 k) ∧ k < w.heap.size) ∨ w.heap.size ≤ k) ∧ k ∉ [g2, g3, g4]) ∧ some k ≠ (.slice Ah n ch : Value).ownBlock) (.slice Ar m cr) rows from Kd.N_below HNR.out hb)
      have n_HB := Lib.hid (show Below w.heap.size w wo from below_step HB.out hb)
      clear B2 B3 B4 HNH HNR HB
      have B2 := n_B2
      have B3 := n_B3
      have B4 := n_B4
      have HNH := n_HNH
      have HNR := n_HNR
      have HB := n_HB
      clear n_B2 n_B3 n_B4 n_HNH n_HNR n_HB
      clear hb
      obtain ⟨Am, cm, em⟩ := Kd.V_slice HVM.out
      rw [← Ho.out] at em
      subst em
      refine hK.out _ _ ⟨(blk_cell B2.out 6).trans rfl, (blk_cell B3.out 37).trans rfl, (blk_cell B3.out 38).trans rfl, (blk_cell B3.out 39).trans rfl⟩ (fun hHeld => ?_)
      clear hK K
      refine norm_ (a' := ?_) ?_ ?_
      rotate_left
      · show Act.put _ (some 104) _ = _
        simp only [Act.put, List.setIfInBounds_toArray, List.set_cons_zero, List.set_cons_succ, i64_w, i32_w]
        rfl
      refine pure_ (i := 10) (N := some 105) (v := ?_) (a' := ?_) #[true, true, true, true, true, true, true, true, true, true, true, false, false, false, false] rfl rfl (by kernel_rfl) (fun _ _ _ h => h) (Or.inl ⟨by rfl, ?_⟩) ?_ ?_
      rotate_left
      · intro w'
        go_simp
        with_reducible rfl
      rotate_left
      · simp only [Act.put, List.setIfInBounds_toArray, List.set_cons_zero, List.set_cons_succ, i64_w, i32_w]
        rfl
      refine one_ (i := 11) (N := some 106) #[true, true, true, true, true, true, true, true, true, true, true, true, false, false, false] rfl rfl (by kernel_rfl) (by decide) (fun K hK => ?_)
      refine event_step (v := .slice (some ⟨wo.heap.size, 0, none⟩) 1 1) (w1 := wo.alloc (.cells #[.int .u64 sq, .bool false, .slice Am o cm] 83)) (by rfl) ?hr ?_
      case hr => first | (go_simp; done) | (go_simp; rfl)
      have hb : Below wo.heap.size wo (wo.alloc (.cells #[.int .u64 sq, .bool false, .slice Am o cm] 83)) := below_alloc (Below.refl _ _) _
      have HBX := Lib.hid (show (wo.alloc (.cells #[.int .u64 sq, .bool false, .slice Am o cm] 83)).heap[wo.heap.size]? = some (.cells #[.int .u64 sq, .bool false, .slice Am o cm] 83 (0, 0)) from blk_new wo _)
      obtain ⟨bx, hbx⟩ : ∃ bx, bx = wo.heap.size := ⟨_, rfl⟩
      have HLB := Lib.hid (show ∀ k, (.slice Ah n ch : Value).ownBlock = some k → k ≠ bx from fun k hk => by have := Kd.N_lt HNH.out k hk; omega)
      rw [← hbx] at HBX ⊢
      generalize wo.alloc (.cells #[.int .u64 sq, .bool false, .slice Am o cm] 83) = wb at hb HBX ⊢
      clear hHeld hbx
      have n_HVM := Lib.hid (Kd.V_below HVM.out hb)
      clear HVM
      have HVM := n_HVM
      clear n_HVM
      have n_B2 := Lib.hid (show wb.heap[g2]? = some (.cells #[.int .u64 a0, .int .u64 a1, .int .i64 a2, .int .i64 a3, .int .i64 a4, .int .u64 next, .slice Ah n ch, .slice Ar m cr, .bool false] 30 (0, 0)) from blk_below B2.out hb)
      have n_B3 := Lib.hid (show wb.heap[g3]? = some (.cells #[.int .u8 kd, x1, .int .u64 b0, .int .u64 b1, .int .i64 b2, .int .i64 b3, .int .i64 b4, x7, x8, x9, x10, x11, x12, x13, x14, x15, x16, x17, x18, x19, x20, x21, x22, x23, x24, x25, x26, x27, x28, x29, x30, x31, x32, x33, x34, x35, x36, .int .u64 sq, .bool false, .slice E o mc, x40, x41, x42, x43, x44, x45, x46] 52 (0, 0)) from blk_below B3.out hb)
      have n_B4 := Lib.hid (show wb.heap[g4]? = some (.cells #[.int .u64 0, .int .u64 0, .int .i64 0, .int .i64 0, .int .i64 0, .int .u64 0, .slice none 0 0, .slice none 0 0, .bool false] 30 (0, 0)) from blk_below B4.out hb)
      have n_HNH := Lib.hid (show Kd.N k83 83 wb w.heap.size (fun k => ((((P6 k ∨ P7 k ∨ P9 k) ∧ k < w.heap.size) ∨ w.heap.size ≤ k) ∧ k ∉ [g2, g3, g4]) ∧ some k ≠ (.slice Ar m cr : Value).ownBlock) (.slice Ah n ch) held from Kd.N_below HNH.out hb)
      have n_HNR := Lib.hid (show Kd.N E1 101 wb w.heap.size (fun k => ((((P6 k ∨ P7 k ∨ P9 k) ∧ k < w.heap.size) ∨ w.heap.size ≤ k) ∧ k ∉ [g2, g3, g4]) ∧ some k ≠ (.slice Ah n ch : Value).ownBlock) (.slice Ar m cr) rows from Kd.N_below HNR.out hb)
      have n_HB := Lib.hid (show Below w.heap.size w wb from below_step HB.out hb)
      clear B2 B3 B4 HNH HNR HB
      have B2 := n_B2
      have B3 := n_B3
      have B4 := n_B4
      have HNH := n_HNH
      have HNR := n_HNR
      have HB := n_HB
      clear n_B2 n_B3 n_B4 n_HNH n_HNR n_HB
      clear hb
      refine hK.out _ _ ⟨(blk_cell B2.out 6).trans rfl, (blk_cell B3.out 37).trans rfl, (blk_cell B3.out 38).trans rfl, (blk_cell B3.out 39).trans rfl⟩ (fun hHeld => ?_)
      clear hK K
      refine norm_ (a' := ?_) ?_ ?_
      rotate_left
      · show Act.put _ (some 106) _ = _
        simp only [Act.put, List.setIfInBounds_toArray, List.set_cons_zero, List.set_cons_succ, i64_w, i32_w]
        rfl
      refine one_ (i := 12) (N := some 107) #[true, true, true, true, true, true, true, true, true, true, true, true, true, false, false] rfl rfl (by kernel_rfl) (by decide) (fun K hK => ?_)
      refine goes_ Try.func35 (by kernel_rfl) rfl #[.slice Ah n ch, .int .i64 (0), .slice (some ⟨bx, 0, none⟩) 1 1] (by rfl) rfl rfl (by (try simp only [List.map_toArray, List.map_cons, List.map_nil]); first | done | rfl) ?_
      obtain ⟨cells, hcO, hcU, hcN⟩ := N_inserted (d := k83) (by decide) HNH.out (0) (by rw [← Hn.out]; omega) (⟨sq, false, mrows⟩ : S83) [.int .u64 sq, .bool false, .slice Am o cm] (okp := fun k => ((fun k => (((P6 k ∨ P7 k ∨ P9 k) ∧ k < w.heap.size) ∨ w.heap.size ≤ k) ∧ k ∉ [g2, g3, g4]) k ∧ some k ≠ (.slice Ar m cr : Value).ownBlock) ∧ some k ≠ (.slice Ah n ch : Value).ownBlock) (by have h_ := Kd.V_at HVM.out; rw [show (o : Nat) = mrows.length from Ho.out]; exact k83_mkF _ _ (⟨sq, false, mrows⟩ : S83) (by have h2_ := h_.2.1; rw [Ho.out] at h2_; exact h2_) h_.2.2) (fun k hk => hk) (fun k hk => ⟨⟨.inr (Nat.le_trans HB.out.size hk), fun hm_ => by have := blk_lt B2.out; have := blk_lt B3.out; have := blk_lt B4.out; simp at hm_; omega⟩, fun e_ => by have := Kd.N_lt HNR.out k e_.symm; omega⟩)
      rw [← Hn.out] at hcO hcN
      refine (insert_calls wb w.heap.size n (0) bx (.slice Ah n ch) cells [.int .u64 sq, .bool false, .slice Am o cm] hcO (by omega) HBX.out rfl (fun e_ => HLB.out bx e_ rfl) HB.out.size hhl hcU (by simp [Value.oneCell'])).mono ?_
      rintro e w7 ⟨v1, rfl, hi1, hg, hat⟩
      refine ⟨_, rfl, ?_⟩
      have nH := Lib.hid (hcN w7 v1 hi1 hg hat)
      have hne2 := N_neB HNH.out B2.out (by decide)
      have hne3 := N_neB HNH.out B3.out (by decide)
      have hne4 := N_neB HNH.out B4.out (by decide)
      have hbb := Kd.N_base HNH.out
      have nR := Lib.hid (Kd.N_after HNR.out hg hat)
      have n_B2 := Lib.hid (blk_grown B2.out hg hne2)
      have n_B3 := Lib.hid (blk_grown B3.out hg hne3)
      have n_B4 := Lib.hid (blk_grown B4.out hg hne4)
      have n_HB := Lib.hid (HB.out.grown hg HB.out.size hbb)
      clear HNH HNR B2 B3 B4 HB HVM HBX HLB hHeld hcO hcU hcN hi1 hg hat hne2 hne3 hne4 hbb
      have B2 := n_B2
      have B3 := n_B3
      have B4 := n_B4
      have HB := n_HB
      clear n_B2 n_B3 n_B4 n_HB
      obtain ⟨A1, c1, ev1⟩ := Kd.N_slice nH.out
      rw [show (held.take (0) ++ [(⟨sq, false, mrows⟩ : S83)] ++ held.drop (0)).length = n + 1 by have := Hn.out; simp only [List.length_append, List.length_take, List.length_drop, List.length_singleton]; omega] at ev1
      subst ev1
      refine hK.out _ _ ⟨(blk_cell B2.out 6).trans rfl, (blk_cell B3.out 37).trans rfl, (blk_cell B3.out 38).trans rfl, (blk_cell B3.out 39).trans rfl⟩ (fun hHeld => ?_)
      clear hK K
      refine norm_ (a' := ?_) ?_ ?_
      rotate_left
      · show Act.put _ (some 107) _ = _
        simp only [Act.put, List.setIfInBounds_toArray, List.set_cons_zero, List.set_cons_succ, i64_w, i32_w]
        rfl
      refine pure_ (i := 13) (N := some 108) (v := ?_) (a' := ?_) #[true, true, true, true, true, true, true, true, true, true, true, true, true, true, false] rfl rfl (by kernel_rfl) (fun _ _ _ h => h) (Or.inl ⟨by rfl, ?_⟩) ?_ ?_
      rotate_left
      · intro w'
        go_simp
        with_reducible rfl
      rotate_left
      · simp only [Act.put, List.setIfInBounds_toArray, List.set_cons_zero, List.set_cons_succ, i64_w, i32_w]
        rfl
      have f0 := blk_frozen B2.out 6
      refine last_ (i := 14) (N := none) #[true, true, true, true, true, true, true, true, true, true, true, true, true, true, true] rfl rfl (by kernel_rfl) (by decide) (fun K hK => ?_)
      refine skip_ (w1 := w7.setCell ⟨g2, 6, none⟩ (.slice A1 (n + 1) c1)) (by rfl) rfl ?_ ?_
      · first | (go_simp; done) | (go_simp; rfl)
      refine hK.out _ _ ?_
      clear hK K f0 hHeld
      have n_B2 := Lib.hid (blk_put B2.out 6 (.slice A1 (n + 1) c1) (cs' := #[.int .u64 a0, .int .u64 a1, .int .i64 a2, .int .i64 a3, .int .i64 a4, .int .u64 next, .slice A1 (n + 1) c1, .slice Ar m cr, .bool false]) rfl)
      have n_B4 := Lib.hid (blk_far (p := ⟨g2, 6, none⟩) B4.out (fun e_ => Ne2_4.out e_.symm) (.slice A1 (n + 1) c1))
      have n_B3 := Lib.hid (blk_far (p := ⟨g2, 6, none⟩) B3.out (fun e_ => Ne2_3.out e_.symm) (.slice A1 (n + 1) c1))
      have HVH := Lib.hid (show Kd.V k83 83 (w7.setCell ⟨g2, 6, none⟩ (.slice A1 (n + 1) c1)) w.heap.size (fun k => ((((P6 k ∨ P7 k ∨ P9 k) ∧ k < w.heap.size) ∨ w.heap.size ≤ k) ∧ k ∉ [g2, g3, g4]) ∧ some k ≠ (.slice Ar m cr : Value).ownBlock) (.slice A1 (n + 1) c1) (held.take (0) ++ [(⟨sq, false, mrows⟩ : S83)] ++ held.drop (0)) from Kd.V_far (p := ⟨g2, 6, none⟩) (Kd.N_V nH.out) (fun k hk e_ => hk.1.2 (by rw [e_]; simp)) _)
      have HNR := Lib.hid (show Kd.N E1 101 (w7.setCell ⟨g2, 6, none⟩ (.slice A1 (n + 1) c1)) w.heap.size (fun k => (((P6 k ∨ P7 k ∨ P9 k) ∧ k < w.heap.size) ∨ w.heap.size ≤ k) ∧ k ∉ [g2, g3, g4]) (.slice Ar m cr) rows from Kd.N_far (p := ⟨g2, 6, none⟩) (Kd.N_mono nR.out (fun k hk => hk.1)) (fun k hk e_ => hk.2 (by rw [e_]; simp)) _)
      have n_HB := Lib.hid (below_set (j := 6) (v := .slice A1 (n + 1) c1) HB.out Eg2.out)
      clear B2 B3 B4 HB nH nR
      have B2 := n_B2
      have B3 := n_B3
      have B4 := n_B4
      have HB := n_HB
      clear n_B2 n_B3 n_B4 n_HB
      generalize w7.setCell ⟨g2, 6, none⟩ (.slice A1 (n + 1) c1) = w8 at B2 B3 B4 HB HVH HNR ⊢
      refine done_ (by kernel_rfl) ?_
      have HE0 := Lib.hid (show res = drain next (held.take (0) ++ [(⟨sq, false, mrows⟩ : S83)] ++ held.drop (0)) rows false from by rw [HRES.out, HNW.out]; rfl)
      have HT0 := Lib.hid (show m + tot (held.take (0) ++ [(⟨sq, false, mrows⟩ : S83)] ++ held.drop (0)) ≤ 5864062014804 from by have h_ := HTOT.out; rw [HNW.out] at h_; rw [Hm.out]; exact h_)
      have HL0 := Lib.hid (show (held.take (0) ++ [(⟨sq, false, mrows⟩ : S83)] ++ held.drop (0)).length = n + 1 from by have := Hn.out; simp only [List.length_append, List.length_take, List.length_drop, List.length_singleton]; omega)
      clear HRES HTOT HNW
      try go_wp2
      go_loopw [9] (fun v9 wr => ∃ (nx : Int) (HL : List S83) (RL : List (List S112)) (dn : Bool) (q mm : Nat) (Av Ar2 : Option Addr) (cv cr2 : Nat), Hid (HL.length = q) ∧ Hid (RL.length = mm) ∧ Hid (mm + tot HL ≤ 5864062014804) ∧ Hid (res = drain nx HL RL dn) ∧ Hid (Kd.V k83 83 wr w.heap.size (fun k => ((((P6 k ∨ P7 k ∨ P9 k) ∧ k < w.heap.size) ∨ w.heap.size ≤ k) ∧ k ∉ [g2, g3, g4]) ∧ some k ≠ (.slice Ar2 mm cr2 : Value).ownBlock) (.slice Av q cv) HL) ∧ Hid (Kd.N E1 101 wr w.heap.size (fun k => (((P6 k ∨ P7 k ∨ P9 k) ∧ k < w.heap.size) ∨ w.heap.size ≤ k) ∧ k ∉ [g2, g3, g4]) (.slice Ar2 mm cr2) RL) ∧ Hid (wr.heap[g2]? = some (.cells #[.int .u64 a0, .int .u64 a1, .int .i64 a2, .int .i64 a3, .int .i64 a4, .int .u64 nx, .slice Av q cv, .slice Ar2 mm cr2, .bool dn] 30 (0, 0))) ∧ Hid (wr.heap[g3]? = some (.cells #[.int .u8 kd, x1, .int .u64 b0, .int .u64 b1, .int .i64 b2, .int .i64 b3, .int .i64 b4, x7, x8, x9, x10, x11, x12, x13, x14, x15, x16, x17, x18, x19, x20, x21, x22, x23, x24, x25, x26, x27, x28, x29, x30, x31, x32, x33, x34, x35, x36, .int .u64 sq, .bool false, .slice E o mc, x40, x41, x42, x43, x44, x45, x46] 52 (0, 0))) ∧ Hid (wr.heap[g4]? = some (.cells #[.int .u64 0, .int .u64 0, .int .i64 0, .int .i64 0, .int .i64 0, .int .u64 0, .slice none 0 0, .slice none 0 0, .bool false] 30 (0, 0))) ∧ Hid (Below w.heap.size w wr)) (fun _ wr => lenOf ((wr.cell? ⟨g2, 6, none⟩).getD (.bool false)))
      case atStart => exact ⟨next, _, rows, false, n + 1, m, A1, Ar, c1, cr, HL0, Lib.hid Hm.out.symm, HT0, HE0, HVH, HNR, B2, B3, B4, HB⟩
      case round =>
        clear HL0 HT0 HE0 HVH HNR B2 B3 B4 HB
        obtain ⟨nx, HL, RL, dn, q, mm, Av, Ar2, cv, cr2, Hq, Hmm, HTT, HE, HVH, HNR, B2, B3, B4, HB⟩ := hrel
        have p2_1 := (blk_cell B2.out 5).trans rfl
        have p2_2 := (blk_cell B2.out 6).trans rfl
        have HMZ := Lib.hid (show lenOf ((wr.cell? ⟨g2, 6, none⟩).getD (.bool false)) = q from by rw [show wr.cell? ⟨g2, 6, none⟩ = some (.slice Av q cv) from p2_2]; rfl)
        cases HL with
        | nil =>
          obtain rfl : q = 0 := Hq.out.symm
          have HR2 := Lib.hid (show res = (nx, [], RL, dn) from HE.out)
          clear HE HTT
          go_wp2
          go_region
          generalize hwd_ : World.drew _ = wd2
          have n_B2 := Lib.hid (show wd2.heap[g2]? = some (.cells #[.int .u64 a0, .int .u64 a1, .int .i64 a2, .int .i64 a3, .int .i64 a4, .int .u64 nx, .slice Av 0 cv, .slice Ar2 mm cr2, .bool dn] 30 (0, 0)) from by rw [← hwd_]; exact blk_drew B2.out)
          have n_B3 := Lib.hid (show wd2.heap[g3]? = some (.cells #[.int .u8 kd, x1, .int .u64 b0, .int .u64 b1, .int .i64 b2, .int .i64 b3, .int .i64 b4, x7, x8, x9, x10, x11, x12, x13, x14, x15, x16, x17, x18, x19, x20, x21, x22, x23, x24, x25, x26, x27, x28, x29, x30, x31, x32, x33, x34, x35, x36, .int .u64 sq, .bool false, .slice E o mc, x40, x41, x42, x43, x44, x45, x46] 52 (0, 0)) from by rw [← hwd_]; exact blk_drew B3.out)
          have n_B4 := Lib.hid (show wd2.heap[g4]? = some (.cells #[.int .u64 0, .int .u64 0, .int .i64 0, .int .i64 0, .int .i64 0, .int .u64 0, .slice none 0 0, .slice none 0 0, .bool false] 30 (0, 0)) from by rw [← hwd_]; exact blk_drew B4.out)
          have n_HVH := Lib.hid (show Kd.V k83 83 wd2 w.heap.size (fun k => ((((P6 k ∨ P7 k ∨ P9 k) ∧ k < w.heap.size) ∨ w.heap.size ≤ k) ∧ k ∉ [g2, g3, g4]) ∧ some k ≠ (.slice Ar2 mm cr2 : Value).ownBlock) (.slice Av 0 cv) ([]) from by rw [← hwd_]; exact Kd.V_drew HVH.out)
          have n_HNR := Lib.hid (show Kd.N E1 101 wd2 w.heap.size (fun k => (((P6 k ∨ P7 k ∨ P9 k) ∧ k < w.heap.size) ∨ w.heap.size ≤ k) ∧ k ∉ [g2, g3, g4]) (.slice Ar2 mm cr2) RL from by rw [← hwd_]; exact Kd.N_drew HNR.out)
          have n_HB := Lib.hid (show Below w.heap.size w wd2 from by rw [← hwd_]; exact below_drew1 HB.out)
          clear B2 B3 B4 HVH HNR HB
          have B2 := n_B2
          have B3 := n_B3
          have B4 := n_B4
          have HVH := n_HVH
          have HNR := n_HNR
          have HB := n_HB
          clear n_B2 n_B3 n_B4 n_HVH n_HNR n_HB hwd_ p2_1 p2_2
          have p2_0 := (blk_cell B2.out 0).trans rfl
          have p2_1 := (blk_cell B2.out 1).trans rfl
          have p2_2 := (blk_cell B2.out 2).trans rfl
          have p2_3 := (blk_cell B2.out 3).trans rfl
          have p2_4 := (blk_cell B2.out 4).trans rfl
          have p2_5 := (blk_cell B2.out 5).trans rfl
          have p2_6 := (blk_cell B2.out 6).trans rfl
          have p2_7 := (blk_cell B2.out 7).trans rfl
          have p2_8 := (blk_cell B2.out 8).trans rfl
          go_wp2_with ((with_reducible refine gate_store (t := 30) (p := 4) rfl ?_); have zc0 := (blk_cell B4.out 0).trans rfl; have zf0 := blk_frozen B4.out 0; have zc1 := (blk_cell B4.out 1).trans rfl; have zf1 := blk_frozen B4.out 1; have zc2 := (blk_cell B4.out 2).trans rfl; have zf2 := blk_frozen B4.out 2; have zc3 := (blk_cell B4.out 3).trans rfl; have zf3 := blk_frozen B4.out 3; have zc4 := (blk_cell B4.out 4).trans rfl; have zf4 := blk_frozen B4.out 4; have zc5 := (blk_cell B4.out 5).trans rfl; have zf5 := blk_frozen B4.out 5; have zc6 := (blk_cell B4.out 6).trans rfl; have zf6 := blk_frozen B4.out 6; have zc7 := (blk_cell B4.out 7).trans rfl; have zf7 := blk_frozen B4.out 7; have zc8 := (blk_cell B4.out 8).trans rfl; have zf8 := blk_frozen B4.out 8; refine store_event (t := 30) (p := 4) (v := ?vows21) (w1 := setAll wd2 g4 0 [.int .u64 a0, .int .u64 a1, .int .i64 a2, .int .i64 a3, .int .i64 a4, .int .u64 nx, .slice Av 0 cv, .slice Ar2 mm cr2, .bool dn]) ?hg ?ho ?hn ?hr ?_; (case ho => rfl); (case hg => rfl); (case hn => rfl); (case hr => first | (go_simp; done) | (go_simp; rfl)); intro ws21 hw; clear zc0 zf0 zc1 zf1 zc2 zf2 zc3 zf3 zc4 zf4 zc5 zf5 zc6 zf6 zc7 zf7 zc8 zf8; (try clear p2_0 p2_1 p2_2 p2_3 p2_4 p2_5 p2_6 p2_7 p2_8); have n_B2 := Lib.hid (((by rw [hw]; exact blk_kept B2.out (setAll_kept [.int .u64 a0, .int .u64 a1, .int .i64 a2, .int .i64 a3, .int .i64 a4, .int .u64 nx, .slice Av 0 cv, .slice Ar2 mm cr2, .bool dn] 0 wd2) (fun e_ => Ne2_4.out e_)) : ws21.heap[g2]? = some (.cells #[.int .u64 a0, .int .u64 a1, .int .i64 a2, .int .i64 a3, .int .i64 a4, .int .u64 nx, .slice Av 0 cv, .slice Ar2 mm cr2, .bool dn] 30 (0, 0)))); have n_B3 := Lib.hid (((by rw [hw]; exact blk_kept B3.out (setAll_kept [.int .u64 a0, .int .u64 a1, .int .i64 a2, .int .i64 a3, .int .i64 a4, .int .u64 nx, .slice Av 0 cv, .slice Ar2 mm cr2, .bool dn] 0 wd2) (fun e_ => Ne3_4.out e_)) : ws21.heap[g3]? = some (.cells #[.int .u8 kd, x1, .int .u64 b0, .int .u64 b1, .int .i64 b2, .int .i64 b3, .int .i64 b4, x7, x8, x9, x10, x11, x12, x13, x14, x15, x16, x17, x18, x19, x20, x21, x22, x23, x24, x25, x26, x27, x28, x29, x30, x31, x32, x33, x34, x35, x36, .int .u64 sq, .bool false, .slice E o mc, x40, x41, x42, x43, x44, x45, x46] 52 (0, 0)))); have n_B4 := Lib.hid (((by rw [hw]; exact setAll_box [.int .u64 a0, .int .u64 a1, .int .i64 a2, .int .i64 a3, .int .i64 a4, .int .u64 nx, .slice Av 0 cv, .slice Ar2 mm cr2, .bool dn] B4.out rfl) : ws21.heap[g4]? = some (.cells #[.int .u64 a0, .int .u64 a1, .int .i64 a2, .int .i64 a3, .int .i64 a4, .int .u64 nx, .slice Av 0 cv, .slice Ar2 mm cr2, .bool dn] 30 (0, 0)))); have n_HVH := Lib.hid ((by rw [hw]; exact Kd.V_kept HVH.out (setAll_kept [.int .u64 a0, .int .u64 a1, .int .i64 a2, .int .i64 a3, .int .i64 a4, .int .u64 nx, .slice Av 0 cv, .slice Ar2 mm cr2, .bool dn] 0 wd2) (fun k hk => fun e_ => hk.1.2 (by rw [e_]; simp)) : Kd.V k83 83 ws21 w.heap.size (fun k => ((((P6 k ∨ P7 k ∨ P9 k) ∧ k < w.heap.size) ∨ w.heap.size ≤ k) ∧ k ∉ [g2, g3, g4]) ∧ some k ≠ (.slice Ar2 mm cr2 : Value).ownBlock) (.slice Av 0 cv) ([]))); have n_HNR := Lib.hid ((by rw [hw]; exact Kd.N_kept HNR.out (setAll_kept [.int .u64 a0, .int .u64 a1, .int .i64 a2, .int .i64 a3, .int .i64 a4, .int .u64 nx, .slice Av 0 cv, .slice Ar2 mm cr2, .bool dn] 0 wd2) (fun k hk => fun e_ => hk.2 (by rw [e_]; simp)) : Kd.N E1 101 ws21 w.heap.size (fun k => (((P6 k ∨ P7 k ∨ P9 k) ∧ k < w.heap.size) ∨ w.heap.size ≤ k) ∧ k ∉ [g2, g3, g4]) (.slice Ar2 mm cr2) RL)); have n_HB := Lib.hid ((by rw [hw]; exact setAll_below Eg4.out [.int .u64 a0, .int .u64 a1, .int .i64 a2, .int .i64 a3, .int .i64 a4, .int .u64 nx, .slice Av 0 cv, .slice Ar2 mm cr2, .bool dn] 0 wd2 HB.out : Below w.heap.size w ws21)); clear B2 B3 B4 HVH HNR HB; have B2 := n_B2; have B3 := n_B3; have B4 := n_B4; have HVH := n_HVH; have HNR := n_HNR; have HB := n_HB; clear n_B2 n_B3 n_B4 n_HVH n_HNR n_HB; clear hw; have p2_0 := (blk_cell B2.out 0).trans rfl; have p2_1 := (blk_cell B2.out 1).trans rfl; have p2_2 := (blk_cell B2.out 2).trans rfl; have p2_3 := (blk_cell B2.out 3).trans rfl; have p2_4 := (blk_cell B2.out 4).trans rfl; have p2_5 := (blk_cell B2.out 5).trans rfl; have p2_6 := (blk_cell B2.out 6).trans rfl; have p2_7 := (blk_cell B2.out 7).trans rfl; have p2_8 := (blk_cell B2.out 8).trans rfl; skip)
          refine bodyPost_ret (results_list (rs := [.cell 4 30, .tmp 5]) rfl (by simp) (.cell g4 30 #[.int .u64 a0, .int .u64 a1, .int .i64 a2, .int .i64 a3, .int .i64 a4, .int .u64 nx, .slice Av 0 cv, .slice Ar2 mm cr2, .bool dn] (0, 0) _ rfl B4.out Try.underlying30 rfl (by kernel_rfl) (.tmp .nil))) rfl ?_
          rw [HR2.out]
          exact ⟨_, _, rfl, Kd.V_mono HVH.out (fun k hk => ⟨hk.1.1.imp (fun h => h.1) id, hk.2⟩), Kd.N_mono HNR.out (fun k hk => hk.1.imp (fun h => h.1) id), HB.out⟩
        | cons b t =>
          have hq0 : (0 : Int) < (q : Int) := by have := Hq.out; simp at this; omega
          have hq0' : 0 < q := by omega
          by_cases hb0 : b.f0 = nx
          · have y8 : (b.f0 == nx) = true := by simpa using hb0
            have HE1 := Lib.hid (show res = drain (IntKind.u64.wrap (nx + 1)) t (RL ++ b.f2) b.f1 by rw [HE.out, drain, if_pos hb0])
            clear HE hb0
            obtain ⟨ad, A2_, c2_, ead, x0, _, _, _, _⟩ := head83 HVH.out
            subst ead
            go_wp2
            go_region
            generalize hwd_ : World.drew _ = wd2
            have n_B2 := Lib.hid (show wd2.heap[g2]? = some (.cells #[.int .u64 a0, .int .u64 a1, .int .i64 a2, .int .i64 a3, .int .i64 a4, .int .u64 nx, .slice (some ad) q cv, .slice Ar2 mm cr2, .bool dn] 30 (0, 0)) from by rw [← hwd_]; exact blk_drew B2.out)
            have n_B3 := Lib.hid (show wd2.heap[g3]? = some (.cells #[.int .u8 kd, x1, .int .u64 b0, .int .u64 b1, .int .i64 b2, .int .i64 b3, .int .i64 b4, x7, x8, x9, x10, x11, x12, x13, x14, x15, x16, x17, x18, x19, x20, x21, x22, x23, x24, x25, x26, x27, x28, x29, x30, x31, x32, x33, x34, x35, x36, .int .u64 sq, .bool false, .slice E o mc, x40, x41, x42, x43, x44, x45, x46] 52 (0, 0)) from by rw [← hwd_]; exact blk_drew B3.out)
            have n_B4 := Lib.hid (show wd2.heap[g4]? = some (.cells #[.int .u64 0, .int .u64 0, .int .i64 0, .int .i64 0, .int .i64 0, .int .u64 0, .slice none 0 0, .slice none 0 0, .bool false] 30 (0, 0)) from by rw [← hwd_]; exact blk_drew B4.out)
            have n_HVH := Lib.hid (show Kd.V k83 83 wd2 w.heap.size (fun k => ((((P6 k ∨ P7 k ∨ P9 k) ∧ k < w.heap.size) ∨ w.heap.size ≤ k) ∧ k ∉ [g2, g3, g4]) ∧ some k ≠ (.slice Ar2 mm cr2 : Value).ownBlock) (.slice (some ad) q cv) (b :: t) from by rw [← hwd_]; exact Kd.V_drew HVH.out)
            have n_HNR := Lib.hid (show Kd.N E1 101 wd2 w.heap.size (fun k => (((P6 k ∨ P7 k ∨ P9 k) ∧ k < w.heap.size) ∨ w.heap.size ≤ k) ∧ k ∉ [g2, g3, g4]) (.slice Ar2 mm cr2) RL from by rw [← hwd_]; exact Kd.N_drew HNR.out)
            have n_HB := Lib.hid (show Below w.heap.size w wd2 from by rw [← hwd_]; exact below_drew1 HB.out)
            clear B2 B3 B4 HVH HNR HB
            have B2 := n_B2
            have B3 := n_B3
            have B4 := n_B4
            have HVH := n_HVH
            have HNR := n_HNR
            have HB := n_HB
            clear n_B2 n_B3 n_B4 n_HVH n_HNR n_HB hwd_ p2_1 p2_2
            obtain ⟨ad_, A2, c2, ead_, x0, x1, x2, hl2_, hF2_⟩ := head83 HVH.out
            cases ead_
            have HF2 := Lib.hid hF2_
            have HC2 := Lib.hid hl2_
            obtain ⟨lq, hlq⟩ : ∃ lq, lq = b.f2.length := ⟨_, rfl⟩
            rw [← hlq] at x2
            have Hlq := Lib.hid hlq
            clear hl2_ hF2_ hlq
            have p2_2 := (blk_cell B2.out 6).trans rfl
            go_wp2_with (first
              | ((with_reducible refine gate_dst (N := 9) rfl ?_); refine box_event ?hg (N := 9) ?hd (cs := #[.int .u64 0, .bool false, .slice none 0 0]) (t := 83) ?hr ?_; (case hd => rfl); (case hg => rfl); (case hr => first | (go_simp; done) | (go_simp; rfl)); intro g9 hg wb9 hbx hb; have Eg9 := Lib.hid (show w.heap.size ≤ g9 by rw [hg]; exact HB.out.size); have Ne2_9 := Lib.hid (show ¬ g2 = g9 by rw [hg]; have := blk_lt B2.out; omega); have Ne3_9 := Lib.hid (show ¬ g3 = g9 by rw [hg]; have := blk_lt B3.out; omega); have Ne4_9 := Lib.hid (show ¬ g4 = g9 by rw [hg]; have := blk_lt B4.out; omega); (try clear p2_6 p2_2 x0 x1 x2); have n_B2 := Lib.hid (blk_below B2.out hb); have n_B3 := Lib.hid (blk_below B3.out hb); have n_B4 := Lib.hid (blk_below B4.out hb); have n_HVH := Lib.hid (Kd.V_below (Kd.V_elderB HVH.out g9 (Nat.le_of_eq hg.symm)) hb); have n_HNR := Lib.hid (Kd.N_below (Kd.N_elderB HNR.out g9 (Nat.le_of_eq hg.symm)) hb); have n_HF2 := Lib.hid (Kd.F_below (Kd.F_elderB HF2.out g9 (Nat.le_of_eq hg.symm)) hb); have n_HB := Lib.hid (below_step HB.out hb); clear B2 B3 B4 HVH HNR HF2 HB; have B2 := n_B2; have B3 := n_B3; have B4 := n_B4; have HVH := n_HVH; have HNR := n_HNR; have HF2 := n_HF2; have HB := n_HB; clear n_B2 n_B3 n_B4 n_HVH n_HNR n_HF2 n_HB; have B9 := Lib.hid hbx; clear hg hbx hb)
              | ((with_reducible refine gate_store (t := 83) (p := 9) rfl ?_); have zc0 := (blk_cell B9.out 0).trans rfl; have zf0 := blk_frozen B9.out 0; have zc1 := (blk_cell B9.out 1).trans rfl; have zf1 := blk_frozen B9.out 1; have zc2 := (blk_cell B9.out 2).trans rfl; have zf2 := blk_frozen B9.out 2; refine store_event (t := 83) (p := 9) (v := ?vows32) (w1 := setAll wb9 g9 0 [.int .u64 b.f0, .bool b.f1, .slice A2 lq c2]) ?hg ?ho ?hn ?hr ?_; (case ho => rfl); (case hg => rfl); (case hn => rfl); (case hr => first | (go_simp; done) | (go_simp; rfl)); intro ws32 hw; clear zc0 zf0 zc1 zf1 zc2 zf2; (try clear p9_0 p9_1 p9_2); have n_B2 := Lib.hid (((by rw [hw]; exact blk_kept B2.out (setAll_kept [.int .u64 b.f0, .bool b.f1, .slice A2 lq c2] 0 wb9) (fun e_ => Ne2_9.out e_)) : ws32.heap[g2]? = some (.cells #[.int .u64 a0, .int .u64 a1, .int .i64 a2, .int .i64 a3, .int .i64 a4, .int .u64 nx, .slice (some ad) q cv, .slice Ar2 mm cr2, .bool dn] 30 (0, 0)))); have n_B3 := Lib.hid (((by rw [hw]; exact blk_kept B3.out (setAll_kept [.int .u64 b.f0, .bool b.f1, .slice A2 lq c2] 0 wb9) (fun e_ => Ne3_9.out e_)) : ws32.heap[g3]? = some (.cells #[.int .u8 kd, x1, .int .u64 b0, .int .u64 b1, .int .i64 b2, .int .i64 b3, .int .i64 b4, x7, x8, x9, x10, x11, x12, x13, x14, x15, x16, x17, x18, x19, x20, x21, x22, x23, x24, x25, x26, x27, x28, x29, x30, x31, x32, x33, x34, x35, x36, .int .u64 sq, .bool false, .slice E o mc, x40, x41, x42, x43, x44, x45, x46] 52 (0, 0)))); have n_B4 := Lib.hid (((by rw [hw]; exact blk_kept B4.out (setAll_kept [.int .u64 b.f0, .bool b.f1, .slice A2 lq c2] 0 wb9) (fun e_ => Ne4_9.out e_)) : ws32.heap[g4]? = some (.cells #[.int .u64 0, .int .u64 0, .int .i64 0, .int .i64 0, .int .i64 0, .int .u64 0, .slice none 0 0, .slice none 0 0, .bool false] 30 (0, 0)))); have n_B9 := Lib.hid (((by rw [hw]; exact setAll_box [.int .u64 b.f0, .bool b.f1, .slice A2 lq c2] B9.out rfl) : ws32.heap[g9]? = some (.cells #[.int .u64 b.f0, .bool b.f1, .slice A2 lq c2] 83 (0, 0)))); have n_HVH := Lib.hid ((by rw [hw]; exact Kd.V_kept HVH.out (setAll_kept [.int .u64 b.f0, .bool b.f1, .slice A2 lq c2] 0 wb9) (fun k hk => hk.2) : Kd.V k83 83 ws32 w.heap.size (fun k => ((fun k => ((((P6 k ∨ P7 k ∨ P9 k) ∧ k < w.heap.size) ∨ w.heap.size ≤ k) ∧ k ∉ [g2, g3, g4]) ∧ some k ≠ (.slice Ar2 mm cr2 : Value).ownBlock)) k ∧ k ≠ g9) (.slice (some ad) q cv) (b :: t))); have n_HNR := Lib.hid ((by rw [hw]; exact Kd.N_kept HNR.out (setAll_kept [.int .u64 b.f0, .bool b.f1, .slice A2 lq c2] 0 wb9) (fun k hk => hk.2) : Kd.N E1 101 ws32 w.heap.size (fun k => ((fun k => (((P6 k ∨ P7 k ∨ P9 k) ∧ k < w.heap.size) ∨ w.heap.size ≤ k) ∧ k ∉ [g2, g3, g4])) k ∧ k ≠ g9) (.slice Ar2 mm cr2) RL)); have n_HF2 := Lib.hid ((by rw [hw]; exact Kd.F_kept HF2.out (setAll_kept [.int .u64 b.f0, .bool b.f1, .slice A2 lq c2] 0 wb9) (fun k hk => hk.2) : Kd.F E1 ws32 (fun k => ((fun k => ((((P6 k ∨ P7 k ∨ P9 k) ∧ k < w.heap.size) ∨ w.heap.size ≤ k) ∧ k ∉ [g2, g3, g4]) ∧ some k ≠ (.slice Ar2 mm cr2 : Value).ownBlock)) k ∧ k ≠ g9) A2 b.f2.length b.f2)); have n_HB := Lib.hid ((by rw [hw]; exact setAll_below Eg9.out [.int .u64 b.f0, .bool b.f1, .slice A2 lq c2] 0 wb9 HB.out : Below w.heap.size w ws32)); clear B2 B3 B4 B9 HVH HNR HF2 HB; have B2 := n_B2; have B3 := n_B3; have B4 := n_B4; have B9 := n_B9; have HVH := n_HVH; have HNR := n_HNR; have HF2 := n_HF2; have HB := n_HB; clear n_B2 n_B3 n_B4 n_B9 n_HVH n_HNR n_HF2 n_HB; clear hw; have p9_0 := (blk_cell B9.out 0).trans rfl; have p9_1 := (blk_cell B9.out 1).trans rfl; have p9_2 := (blk_cell B9.out 2).trans rfl; have nV := Lib.hid (Kd.V_mono HVH.out (fun _ hk => hk.1)); have nN := Lib.hid (Kd.N_mono HNR.out (fun _ hk => hk.1)); have nF := Lib.hid (Kd.F_mono HF2.out (fun _ hk => hk.1)); clear HVH HNR HF2; have HVH := nV; have HNR := nN; have HF2 := nF; clear nV nN nF; have p2_7 := (blk_cell B2.out 7).trans rfl; skip)
              | ((with_reducible refine gate_builtin (b := .append) (xs := #[.tmp 128, .tmp 130]) rfl ?_); at_builtin; refine Kd.N_append_rows E1 (w0 := w) w.heap.size rfl (.tmp 128) (.tmp 130) 28 101 (.slice none 0 0) 24 rfl Try.underlying28 info101 rfl (by decide) (by omega) (.slice Ar2 mm cr2) RL b.f2 A2 lq c2 (fun k => (((P6 k ∨ P7 k ∨ P9 k) ∧ k < w.heap.size) ∨ w.heap.size ≤ k) ∧ k ∉ [g2, g3, g4]) (fun k => ((((P6 k ∨ P7 k ∨ P9 k) ∧ k < w.heap.size) ∨ w.heap.size ≤ k) ∧ k ∉ [g2, g3, g4]) ∧ some k ≠ (.slice Ar2 mm cr2 : Value).ownBlock) rfl rfl HNR.out (by rw [Hlq.out]; exact HF2.out) (fun k hk => hk) ?hfr HB.out HB.out.size ?hl ?_; (case hfr => exact fun k hk => ⟨.inr (Nat.le_trans HB.out.size hk), fun hm_ => by have := blk_lt B2.out; have := blk_lt B3.out; have := blk_lt B4.out; simp at hm_; omega⟩); (case hl => have h1_ := HTT.out; have h2_ := Hmm.out; have h3_ := Hlq.out; have h4_ : tot (b :: t) = b.f2.length + tot t := (by simp [tot]); omega); intro v1 w12 ho hb hg hat; obtain ⟨Ar3, cr3, ev3⟩ := Kd.N_slice ho; rw [show (RL ++ b.f2).length = mm + lq by rw [List.length_append, Hmm.out, Hlq.out]] at ev3; subst ev3; have nV := Lib.hid (Kd.V_after HVH.out hg hat); have nN := Lib.hid ho; have n2 := Lib.hid (blk_grown B2.out hg (N_neB HNR.out B2.out (by decide))); have n3 := Lib.hid (blk_grown B3.out hg (N_neB HNR.out B3.out (by decide))); have n4 := Lib.hid (blk_grown B4.out hg (N_neB HNR.out B4.out (by decide))); have n9 := Lib.hid (blk_grown B9.out hg (N_neB HNR.out B9.out (by decide))); have nB := Lib.hid hb; clear HVH HNR HF2 B2 B3 B4 B9 HB ho hb hg hat; (try clear p2_7 p9_0 p9_1 p9_2); have HVH := nV; have HNR := nN; have B2 := n2; have B3 := n3; have B4 := n4; have B9 := n9; have HB := nB; clear nV nN n2 n3 n4 n9 nB; have zc := (blk_cell B2.out 7).trans rfl; have zf := blk_frozen B2.out 7)
              | ((with_reducible refine gate_store (t := 28) (p := 132) rfl ?_); refine store_event (t := 28) (p := 132) (v := ?vo132) (w1 := w12.setCell ⟨g2, 7, none⟩ (.slice Ar3 (mm + lq) cr3)) ?hg ?ho ?hn ?hr ?_; (case ho => rfl); (case hg => rfl); (case hn => rfl); (case hr => first | (go_simp; done) | (go_simp; rfl)); intro w13 hw; clear zc zf; have n_B2 := Lib.hid (show w13.heap[g2]? = some (.cells #[.int .u64 a0, .int .u64 a1, .int .i64 a2, .int .i64 a3, .int .i64 a4, .int .u64 nx, .slice (some ad) q cv, .slice Ar3 (mm + lq) cr3, .bool dn] 30 (0, 0)) by rw [hw]; exact blk_put B2.out 7 (.slice Ar3 (mm + lq) cr3) rfl); have n_B3 := Lib.hid (show w13.heap[g3]? = some (.cells #[.int .u8 kd, x1, .int .u64 b0, .int .u64 b1, .int .i64 b2, .int .i64 b3, .int .i64 b4, x7, x8, x9, x10, x11, x12, x13, x14, x15, x16, x17, x18, x19, x20, x21, x22, x23, x24, x25, x26, x27, x28, x29, x30, x31, x32, x33, x34, x35, x36, .int .u64 sq, .bool false, .slice E o mc, x40, x41, x42, x43, x44, x45, x46] 52 (0, 0)) by rw [hw]; exact blk_far (p := ⟨g2, 7, none⟩) B3.out (fun e_ => Ne2_3.out e_.symm) (.slice Ar3 (mm + lq) cr3)); have n_B4 := Lib.hid (show w13.heap[g4]? = some (.cells #[.int .u64 0, .int .u64 0, .int .i64 0, .int .i64 0, .int .i64 0, .int .u64 0, .slice none 0 0, .slice none 0 0, .bool false] 30 (0, 0)) by rw [hw]; exact blk_far (p := ⟨g2, 7, none⟩) B4.out (fun e_ => Ne2_4.out e_.symm) (.slice Ar3 (mm + lq) cr3)); have n_B9 := Lib.hid (show w13.heap[g9]? = some (.cells #[.int .u64 b.f0, .bool b.f1, .slice A2 lq c2] 83 (0, 0)) by rw [hw]; exact blk_far (p := ⟨g2, 7, none⟩) B9.out (fun e_ => Ne2_9.out e_.symm) (.slice Ar3 (mm + lq) cr3)); have n_HVH := Lib.hid (show Kd.V k83 83 w13 w.heap.size (fun k => ((((P6 k ∨ P7 k ∨ P9 k) ∧ k < w.heap.size) ∨ w.heap.size ≤ k) ∧ k ∉ [g2, g3, g4]) ∧ some k ≠ (.slice Ar3 (mm + lq) cr3 : Value).ownBlock) (.slice (some ad) q cv) (b :: t) by rw [hw]; exact Kd.V_far (p := ⟨g2, 7, none⟩) HVH.out (fun k hk e_ => hk.1.2 (by rw [e_]; simp)) (.slice Ar3 (mm + lq) cr3)); have n_HNR := Lib.hid (show Kd.N E1 101 w13 w.heap.size (fun k => (((P6 k ∨ P7 k ∨ P9 k) ∧ k < w.heap.size) ∨ w.heap.size ≤ k) ∧ k ∉ [g2, g3, g4]) (.slice Ar3 (mm + lq) cr3) (RL ++ b.f2) by rw [hw]; exact Kd.N_far (p := ⟨g2, 7, none⟩) HNR.out (fun k hk e_ => hk.2 (by rw [e_]; simp)) (.slice Ar3 (mm + lq) cr3)); have n_HB := Lib.hid (show Below w.heap.size w w13 by rw [hw]; exact below_set (j := 7) (v := .slice Ar3 (mm + lq) cr3) HB.out Eg2.out); clear B2 B3 B4 B9 HVH HNR HB; have B2 := n_B2; have B3 := n_B3; have B4 := n_B4; have B9 := n_B9; have HVH := n_HVH; have HNR := n_HNR; have HB := n_HB; clear n_B2 n_B3 n_B4 n_B9 n_HVH n_HNR n_HB; clear hw))
            obtain ⟨i0_, hi0_, _, hsz_, _⟩ := info_parts info83
            have hcf := cut_from (P := Try.prog) 27 83 .i64 Try.underlying27 hi0_ 3 hsz_ (some ad) q cv 1 (by omega) (by omega)
            simp only [show (1 : Int).toNat = 1 from rfl] at hcf
            obtain ⟨A3, hA3⟩ : ∃ A3 : Option Addr, A3 = (if cv = 1 then some ad else (some ad : Option Addr).map (·.add (1 * 3))) := ⟨_, rfl⟩
            rw [← hA3] at hcf
            have HA3 := Lib.hid hA3
            clear hA3
            have z5 := (blk_cell B2.out 5).trans rfl
            have z6 := (blk_cell B2.out 6).trans rfl
            have z9 := (blk_cell B9.out 1).trans rfl
            have z8 := (blk_cell B2.out 8).trans rfl
            have fz5 := blk_frozen B2.out 5
            have fz6 := blk_frozen B2.out 6
            have fz8 := blk_frozen B2.out 8
            go_region
            clear z5 z6 z9 z8 fz5 fz6 fz8
            obtain ⟨we1, hw⟩ : ∃ x, x = w13.setCell ⟨g2, 5, none⟩ (.int .u64 (IntKind.u64.wrap (nx + 1))) := ⟨_, rfl⟩
            rw [← hw]
            have n_B2 := Lib.hid (show we1.heap[g2]? = some (.cells #[.int .u64 a0, .int .u64 a1, .int .i64 a2, .int .i64 a3, .int .i64 a4, .int .u64 (IntKind.u64.wrap (nx + 1)), .slice (some ad) q cv, .slice Ar3 (mm + lq) cr3, .bool dn] 30 (0, 0)) by rw [hw]; exact blk_put B2.out 5 (.int .u64 (IntKind.u64.wrap (nx + 1))) rfl)
            have n_B3 := Lib.hid (show we1.heap[g3]? = some (.cells #[.int .u8 kd, x1, .int .u64 b0, .int .u64 b1, .int .i64 b2, .int .i64 b3, .int .i64 b4, x7, x8, x9, x10, x11, x12, x13, x14, x15, x16, x17, x18, x19, x20, x21, x22, x23, x24, x25, x26, x27, x28, x29, x30, x31, x32, x33, x34, x35, x36, .int .u64 sq, .bool false, .slice E o mc, x40, x41, x42, x43, x44, x45, x46] 52 (0, 0)) by rw [hw]; exact blk_far (p := ⟨g2, 5, none⟩) B3.out (fun e_ => Ne2_3.out e_.symm) (.int .u64 (IntKind.u64.wrap (nx + 1))))
            have n_B4 := Lib.hid (show we1.heap[g4]? = some (.cells #[.int .u64 0, .int .u64 0, .int .i64 0, .int .i64 0, .int .i64 0, .int .u64 0, .slice none 0 0, .slice none 0 0, .bool false] 30 (0, 0)) by rw [hw]; exact blk_far (p := ⟨g2, 5, none⟩) B4.out (fun e_ => Ne2_4.out e_.symm) (.int .u64 (IntKind.u64.wrap (nx + 1))))
            have n_B9 := Lib.hid (show we1.heap[g9]? = some (.cells #[.int .u64 b.f0, .bool b.f1, .slice A2 lq c2] 83 (0, 0)) by rw [hw]; exact blk_far (p := ⟨g2, 5, none⟩) B9.out (fun e_ => Ne2_9.out e_.symm) (.int .u64 (IntKind.u64.wrap (nx + 1))))
            have n_HVH := Lib.hid (show Kd.V k83 83 we1 w.heap.size (fun k => ((((P6 k ∨ P7 k ∨ P9 k) ∧ k < w.heap.size) ∨ w.heap.size ≤ k) ∧ k ∉ [g2, g3, g4]) ∧ some k ≠ (.slice Ar3 (mm + lq) cr3 : Value).ownBlock) (.slice (some ad) q cv) (b :: t) by rw [hw]; exact Kd.V_far (p := ⟨g2, 5, none⟩) HVH.out (fun k hk e_ => hk.1.2 (by rw [e_]; simp)) (.int .u64 (IntKind.u64.wrap (nx + 1))))
            have n_HNR := Lib.hid (show Kd.N E1 101 we1 w.heap.size (fun k => (((P6 k ∨ P7 k ∨ P9 k) ∧ k < w.heap.size) ∨ w.heap.size ≤ k) ∧ k ∉ [g2, g3, g4]) (.slice Ar3 (mm + lq) cr3) (RL ++ b.f2) by rw [hw]; exact Kd.N_far (p := ⟨g2, 5, none⟩) HNR.out (fun k hk e_ => hk.2 (by rw [e_]; simp)) (.int .u64 (IntKind.u64.wrap (nx + 1))))
            have n_HB := Lib.hid (show Below w.heap.size w we1 by rw [hw]; exact below_set (j := 5) (v := .int .u64 (IntKind.u64.wrap (nx + 1))) HB.out Eg2.out)
            clear B2 B3 B4 B9 HVH HNR HB
            have B2 := n_B2
            have B3 := n_B3
            have B4 := n_B4
            have B9 := n_B9
            have HVH := n_HVH
            have HNR := n_HNR
            have HB := n_HB
            clear n_B2 n_B3 n_B4 n_B9 n_HVH n_HNR n_HB
            clear hw
            obtain ⟨we2, hw⟩ : ∃ x, x = we1.setCell ⟨g2, 6, none⟩ (.slice A3 (q - 1) (cv - 1)) := ⟨_, rfl⟩
            rw [← hw]
            have n_B2 := Lib.hid (show we2.heap[g2]? = some (.cells #[.int .u64 a0, .int .u64 a1, .int .i64 a2, .int .i64 a3, .int .i64 a4, .int .u64 (IntKind.u64.wrap (nx + 1)), .slice A3 (q - 1) (cv - 1), .slice Ar3 (mm + lq) cr3, .bool dn] 30 (0, 0)) by rw [hw]; exact blk_put B2.out 6 (.slice A3 (q - 1) (cv - 1)) rfl)
            have n_B3 := Lib.hid (show we2.heap[g3]? = some (.cells #[.int .u8 kd, x1, .int .u64 b0, .int .u64 b1, .int .i64 b2, .int .i64 b3, .int .i64 b4, x7, x8, x9, x10, x11, x12, x13, x14, x15, x16, x17, x18, x19, x20, x21, x22, x23, x24, x25, x26, x27, x28, x29, x30, x31, x32, x33, x34, x35, x36, .int .u64 sq, .bool false, .slice E o mc, x40, x41, x42, x43, x44, x45, x46] 52 (0, 0)) by rw [hw]; exact blk_far (p := ⟨g2, 6, none⟩) B3.out (fun e_ => Ne2_3.out e_.symm) (.slice A3 (q - 1) (cv - 1)))
            have n_B4 := Lib.hid (show we2.heap[g4]? = some (.cells #[.int .u64 0, .int .u64 0, .int .i64 0, .int .i64 0, .int .i64 0, .int .u64 0, .slice none 0 0, .slice none 0 0, .bool false] 30 (0, 0)) by rw [hw]; exact blk_far (p := ⟨g2, 6, none⟩) B4.out (fun e_ => Ne2_4.out e_.symm) (.slice A3 (q - 1) (cv - 1)))
            have n_B9 := Lib.hid (show we2.heap[g9]? = some (.cells #[.int .u64 b.f0, .bool b.f1, .slice A2 lq c2] 83 (0, 0)) by rw [hw]; exact blk_far (p := ⟨g2, 6, none⟩) B9.out (fun e_ => Ne2_9.out e_.symm) (.slice A3 (q - 1) (cv - 1)))
            have n_HVH := Lib.hid (show Kd.V k83 83 we2 w.heap.size (fun k => ((((P6 k ∨ P7 k ∨ P9 k) ∧ k < w.heap.size) ∨ w.heap.size ≤ k) ∧ k ∉ [g2, g3, g4]) ∧ some k ≠ (.slice Ar3 (mm + lq) cr3 : Value).ownBlock) (.slice (some ad) q cv) (b :: t) by rw [hw]; exact Kd.V_far (p := ⟨g2, 6, none⟩) HVH.out (fun k hk e_ => hk.1.2 (by rw [e_]; simp)) (.slice A3 (q - 1) (cv - 1)))
            have n_HNR := Lib.hid (show Kd.N E1 101 we2 w.heap.size (fun k => (((P6 k ∨ P7 k ∨ P9 k) ∧ k < w.heap.size) ∨ w.heap.size ≤ k) ∧ k ∉ [g2, g3, g4]) (.slice Ar3 (mm + lq) cr3) (RL ++ b.f2) by rw [hw]; exact Kd.N_far (p := ⟨g2, 6, none⟩) HNR.out (fun k hk e_ => hk.2 (by rw [e_]; simp)) (.slice A3 (q - 1) (cv - 1)))
            have n_HB := Lib.hid (show Below w.heap.size w we2 by rw [hw]; exact below_set (j := 6) (v := .slice A3 (q - 1) (cv - 1)) HB.out Eg2.out)
            clear B2 B3 B4 B9 HVH HNR HB
            have B2 := n_B2
            have B3 := n_B3
            have B4 := n_B4
            have B9 := n_B9
            have HVH := n_HVH
            have HNR := n_HNR
            have HB := n_HB
            clear n_B2 n_B3 n_B4 n_B9 n_HVH n_HNR n_HB
            clear hw
            obtain ⟨wd3, hw⟩ : ∃ x, x = we2.setCell ⟨g2, 8, none⟩ (.bool b.f1) := ⟨_, rfl⟩
            rw [← hw]
            have n_B2 := Lib.hid (show wd3.heap[g2]? = some (.cells #[.int .u64 a0, .int .u64 a1, .int .i64 a2, .int .i64 a3, .int .i64 a4, .int .u64 (IntKind.u64.wrap (nx + 1)), .slice A3 (q - 1) (cv - 1), .slice Ar3 (mm + lq) cr3, .bool b.f1] 30 (0, 0)) by rw [hw]; exact blk_put B2.out 8 (.bool b.f1) rfl)
            have n_B3 := Lib.hid (show wd3.heap[g3]? = some (.cells #[.int .u8 kd, x1, .int .u64 b0, .int .u64 b1, .int .i64 b2, .int .i64 b3, .int .i64 b4, x7, x8, x9, x10, x11, x12, x13, x14, x15, x16, x17, x18, x19, x20, x21, x22, x23, x24, x25, x26, x27, x28, x29, x30, x31, x32, x33, x34, x35, x36, .int .u64 sq, .bool false, .slice E o mc, x40, x41, x42, x43, x44, x45, x46] 52 (0, 0)) by rw [hw]; exact blk_far (p := ⟨g2, 8, none⟩) B3.out (fun e_ => Ne2_3.out e_.symm) (.bool b.f1))
            have n_B4 := Lib.hid (show wd3.heap[g4]? = some (.cells #[.int .u64 0, .int .u64 0, .int .i64 0, .int .i64 0, .int .i64 0, .int .u64 0, .slice none 0 0, .slice none 0 0, .bool false] 30 (0, 0)) by rw [hw]; exact blk_far (p := ⟨g2, 8, none⟩) B4.out (fun e_ => Ne2_4.out e_.symm) (.bool b.f1))
            have n_B9 := Lib.hid (show wd3.heap[g9]? = some (.cells #[.int .u64 b.f0, .bool b.f1, .slice A2 lq c2] 83 (0, 0)) by rw [hw]; exact blk_far (p := ⟨g2, 8, none⟩) B9.out (fun e_ => Ne2_9.out e_.symm) (.bool b.f1))
            have n_HVH := Lib.hid (show Kd.V k83 83 wd3 w.heap.size (fun k => ((((P6 k ∨ P7 k ∨ P9 k) ∧ k < w.heap.size) ∨ w.heap.size ≤ k) ∧ k ∉ [g2, g3, g4]) ∧ some k ≠ (.slice Ar3 (mm + lq) cr3 : Value).ownBlock) (.slice (some ad) q cv) (b :: t) by rw [hw]; exact Kd.V_far (p := ⟨g2, 8, none⟩) HVH.out (fun k hk e_ => hk.1.2 (by rw [e_]; simp)) (.bool b.f1))
            have n_HNR := Lib.hid (show Kd.N E1 101 wd3 w.heap.size (fun k => (((P6 k ∨ P7 k ∨ P9 k) ∧ k < w.heap.size) ∨ w.heap.size ≤ k) ∧ k ∉ [g2, g3, g4]) (.slice Ar3 (mm + lq) cr3) (RL ++ b.f2) by rw [hw]; exact Kd.N_far (p := ⟨g2, 8, none⟩) HNR.out (fun k hk e_ => hk.2 (by rw [e_]; simp)) (.bool b.f1))
            have n_HB := Lib.hid (show Below w.heap.size w wd3 by rw [hw]; exact below_set (j := 8) (v := .bool b.f1) HB.out Eg2.out)
            clear B2 B3 B4 B9 HVH HNR HB
            have B2 := n_B2
            have B3 := n_B3
            have B4 := n_B4
            have B9 := n_B9
            have HVH := n_HVH
            have HNR := n_HNR
            have HB := n_HB
            clear n_B2 n_B3 n_B4 n_B9 n_HVH n_HNR n_HB
            clear hw
            generalize hwd_ : World.drew _ = we3
            have n_B2 := Lib.hid (show we3.heap[g2]? = some (.cells #[.int .u64 a0, .int .u64 a1, .int .i64 a2, .int .i64 a3, .int .i64 a4, .int .u64 (IntKind.u64.wrap (nx + 1)), .slice A3 (q - 1) (cv - 1), .slice Ar3 (mm + lq) cr3, .bool b.f1] 30 (0, 0)) by rw [← hwd_]; exact blk_drew B2.out)
            have n_B3 := Lib.hid (show we3.heap[g3]? = some (.cells #[.int .u8 kd, x1, .int .u64 b0, .int .u64 b1, .int .i64 b2, .int .i64 b3, .int .i64 b4, x7, x8, x9, x10, x11, x12, x13, x14, x15, x16, x17, x18, x19, x20, x21, x22, x23, x24, x25, x26, x27, x28, x29, x30, x31, x32, x33, x34, x35, x36, .int .u64 sq, .bool false, .slice E o mc, x40, x41, x42, x43, x44, x45, x46] 52 (0, 0)) by rw [← hwd_]; exact blk_drew B3.out)
            have n_B4 := Lib.hid (show we3.heap[g4]? = some (.cells #[.int .u64 0, .int .u64 0, .int .i64 0, .int .i64 0, .int .i64 0, .int .u64 0, .slice none 0 0, .slice none 0 0, .bool false] 30 (0, 0)) by rw [← hwd_]; exact blk_drew B4.out)
            have n_B9 := Lib.hid (show we3.heap[g9]? = some (.cells #[.int .u64 b.f0, .bool b.f1, .slice A2 lq c2] 83 (0, 0)) by rw [← hwd_]; exact blk_drew B9.out)
            have n_HVH := Lib.hid (show Kd.V k83 83 we3 w.heap.size (fun k => ((((P6 k ∨ P7 k ∨ P9 k) ∧ k < w.heap.size) ∨ w.heap.size ≤ k) ∧ k ∉ [g2, g3, g4]) ∧ some k ≠ (.slice Ar3 (mm + lq) cr3 : Value).ownBlock) (.slice (some ad) q cv) (b :: t) by rw [← hwd_]; exact Kd.V_drew HVH.out)
            have n_HNR := Lib.hid (show Kd.N E1 101 we3 w.heap.size (fun k => (((P6 k ∨ P7 k ∨ P9 k) ∧ k < w.heap.size) ∨ w.heap.size ≤ k) ∧ k ∉ [g2, g3, g4]) (.slice Ar3 (mm + lq) cr3) (RL ++ b.f2) by rw [← hwd_]; exact Kd.N_drew HNR.out)
            have n_HB := Lib.hid (show Below w.heap.size w we3 by rw [← hwd_]; exact below_drew1 HB.out)
            clear B2 B3 B4 B9 HVH HNR HB
            have B2 := n_B2
            have B3 := n_B3
            have B4 := n_B4
            have B9 := n_B9
            have HVH := n_HVH
            have HNR := n_HNR
            have HB := n_HB
            clear hwd_ n_B2 n_B3 n_B4 n_B9 n_HVH n_HNR n_HB
            go_wp2
            have hV4 := Kd.V_at HVH.out
            have hQ2 := Lib.hid (show t.length = q - 1 by have := Hq.out; simp at this; omega)
            have HV5 := Lib.hid (show Kd.V k83 83 we3 w.heap.size (fun k => ((((P6 k ∨ P7 k ∨ P9 k) ∧ k < w.heap.size) ∨ w.heap.size ≤ k) ∧ k ∉ [g2, g3, g4]) ∧ some k ≠ (.slice Ar3 (mm + lq) cr3 : Value).ownBlock) (.slice A3 (q - 1) (cv - 1)) t by
              rw [← hQ2.out]
              refine Kd.V_mk (by have := hV4.2.1; have := hQ2.out; omega) ?_
              have h_ := Kd.F_cut (m := 1) (c := cv) hV4.2.2 (by simp) (by have := hV4.1; have := hV4.2.1; omega)
              rw [HA3.out]
              exact h_)
            go_roundw
            case rel => exact ⟨_, t, RL ++ b.f2, b.f1, q - 1, mm + lq, A3, Ar3, cv - 1, cr3, hQ2, Lib.hid (by rw [List.length_append, Hmm.out, Hlq.out]), Lib.hid (by have h1_ := HTT.out; have h3_ := Hlq.out; have h4_ : tot (b :: t) = b.f2.length + tot t := (by simp [tot]); omega), HE1, HV5, HNR, B2, B3, B4, HB⟩
            case measure =>
              have m1 := (blk_cell B2.out 6).trans rfl
              rw [HMZ.out, show we3.cell? ⟨g2, 6, none⟩ = some (.slice A3 (q - 1) (cv - 1)) from m1]
              show q - 1 < q
              omega
          · have y8 : (b.f0 == nx) = false := by simpa using hb0
            have hres_ := Lib.hid (show res = (nx, b :: t, RL, dn) by rw [HE.out, drain, if_neg hb0])
            obtain ⟨ad, A2_, c2_, ead, x0, _, _, _, _⟩ := head83 HVH.out
            subst ead
            clear hb0
            have HR2 := Lib.hid (show res = (nx, b :: t, RL, dn) from hres_.out)
            clear HE HTT
            go_wp2
            go_region
            generalize hwd_ : World.drew _ = wd2
            have n_B2 := Lib.hid (show wd2.heap[g2]? = some (.cells #[.int .u64 a0, .int .u64 a1, .int .i64 a2, .int .i64 a3, .int .i64 a4, .int .u64 nx, .slice (some ad) q cv, .slice Ar2 mm cr2, .bool dn] 30 (0, 0)) from by rw [← hwd_]; exact blk_drew B2.out)
            have n_B3 := Lib.hid (show wd2.heap[g3]? = some (.cells #[.int .u8 kd, x1, .int .u64 b0, .int .u64 b1, .int .i64 b2, .int .i64 b3, .int .i64 b4, x7, x8, x9, x10, x11, x12, x13, x14, x15, x16, x17, x18, x19, x20, x21, x22, x23, x24, x25, x26, x27, x28, x29, x30, x31, x32, x33, x34, x35, x36, .int .u64 sq, .bool false, .slice E o mc, x40, x41, x42, x43, x44, x45, x46] 52 (0, 0)) from by rw [← hwd_]; exact blk_drew B3.out)
            have n_B4 := Lib.hid (show wd2.heap[g4]? = some (.cells #[.int .u64 0, .int .u64 0, .int .i64 0, .int .i64 0, .int .i64 0, .int .u64 0, .slice none 0 0, .slice none 0 0, .bool false] 30 (0, 0)) from by rw [← hwd_]; exact blk_drew B4.out)
            have n_HVH := Lib.hid (show Kd.V k83 83 wd2 w.heap.size (fun k => ((((P6 k ∨ P7 k ∨ P9 k) ∧ k < w.heap.size) ∨ w.heap.size ≤ k) ∧ k ∉ [g2, g3, g4]) ∧ some k ≠ (.slice Ar2 mm cr2 : Value).ownBlock) (.slice (some ad) q cv) (b :: t) from by rw [← hwd_]; exact Kd.V_drew HVH.out)
            have n_HNR := Lib.hid (show Kd.N E1 101 wd2 w.heap.size (fun k => (((P6 k ∨ P7 k ∨ P9 k) ∧ k < w.heap.size) ∨ w.heap.size ≤ k) ∧ k ∉ [g2, g3, g4]) (.slice Ar2 mm cr2) RL from by rw [← hwd_]; exact Kd.N_drew HNR.out)
            have n_HB := Lib.hid (show Below w.heap.size w wd2 from by rw [← hwd_]; exact below_drew1 HB.out)
            clear B2 B3 B4 HVH HNR HB
            have B2 := n_B2
            have B3 := n_B3
            have B4 := n_B4
            have HVH := n_HVH
            have HNR := n_HNR
            have HB := n_HB
            clear n_B2 n_B3 n_B4 n_HVH n_HNR n_HB hwd_ p2_1 p2_2
            have p2_0 := (blk_cell B2.out 0).trans rfl
            have p2_1 := (blk_cell B2.out 1).trans rfl
            have p2_2 := (blk_cell B2.out 2).trans rfl
            have p2_3 := (blk_cell B2.out 3).trans rfl
            have p2_4 := (blk_cell B2.out 4).trans rfl
            have p2_5 := (blk_cell B2.out 5).trans rfl
            have p2_6 := (blk_cell B2.out 6).trans rfl
            have p2_7 := (blk_cell B2.out 7).trans rfl
            have p2_8 := (blk_cell B2.out 8).trans rfl
            go_wp2_with ((with_reducible refine gate_store (t := 30) (p := 4) rfl ?_); have zc0 := (blk_cell B4.out 0).trans rfl; have zf0 := blk_frozen B4.out 0; have zc1 := (blk_cell B4.out 1).trans rfl; have zf1 := blk_frozen B4.out 1; have zc2 := (blk_cell B4.out 2).trans rfl; have zf2 := blk_frozen B4.out 2; have zc3 := (blk_cell B4.out 3).trans rfl; have zf3 := blk_frozen B4.out 3; have zc4 := (blk_cell B4.out 4).trans rfl; have zf4 := blk_frozen B4.out 4; have zc5 := (blk_cell B4.out 5).trans rfl; have zf5 := blk_frozen B4.out 5; have zc6 := (blk_cell B4.out 6).trans rfl; have zf6 := blk_frozen B4.out 6; have zc7 := (blk_cell B4.out 7).trans rfl; have zf7 := blk_frozen B4.out 7; have zc8 := (blk_cell B4.out 8).trans rfl; have zf8 := blk_frozen B4.out 8; refine store_event (t := 30) (p := 4) (v := ?vows21) (w1 := setAll wd2 g4 0 [.int .u64 a0, .int .u64 a1, .int .i64 a2, .int .i64 a3, .int .i64 a4, .int .u64 nx, .slice (some ad) q cv, .slice Ar2 mm cr2, .bool dn]) ?hg ?ho ?hn ?hr ?_; (case ho => rfl); (case hg => rfl); (case hn => rfl); (case hr => first | (go_simp; done) | (go_simp; rfl)); intro ws21 hw; clear zc0 zf0 zc1 zf1 zc2 zf2 zc3 zf3 zc4 zf4 zc5 zf5 zc6 zf6 zc7 zf7 zc8 zf8; (try clear p2_0 p2_1 p2_2 p2_3 p2_4 p2_5 p2_6 p2_7 p2_8); have n_B2 := Lib.hid (((by rw [hw]; exact blk_kept B2.out (setAll_kept [.int .u64 a0, .int .u64 a1, .int .i64 a2, .int .i64 a3, .int .i64 a4, .int .u64 nx, .slice (some ad) q cv, .slice Ar2 mm cr2, .bool dn] 0 wd2) (fun e_ => Ne2_4.out e_)) : ws21.heap[g2]? = some (.cells #[.int .u64 a0, .int .u64 a1, .int .i64 a2, .int .i64 a3, .int .i64 a4, .int .u64 nx, .slice (some ad) q cv, .slice Ar2 mm cr2, .bool dn] 30 (0, 0)))); have n_B3 := Lib.hid (((by rw [hw]; exact blk_kept B3.out (setAll_kept [.int .u64 a0, .int .u64 a1, .int .i64 a2, .int .i64 a3, .int .i64 a4, .int .u64 nx, .slice (some ad) q cv, .slice Ar2 mm cr2, .bool dn] 0 wd2) (fun e_ => Ne3_4.out e_)) : ws21.heap[g3]? = some (.cells #[.int .u8 kd, x1, .int .u64 b0, .int .u64 b1, .int .i64 b2, .int .i64 b3, .int .i64 b4, x7, x8, x9, x10, x11, x12, x13, x14, x15, x16, x17, x18, x19, x20, x21, x22, x23, x24, x25, x26, x27, x28, x29, x30, x31, x32, x33, x34, x35, x36, .int .u64 sq, .bool false, .slice E o mc, x40, x41, x42, x43, x44, x45, x46] 52 (0, 0)))); have n_B4 := Lib.hid (((by rw [hw]; exact setAll_box [.int .u64 a0, .int .u64 a1, .int .i64 a2, .int .i64 a3, .int .i64 a4, .int .u64 nx, .slice (some ad) q cv, .slice Ar2 mm cr2, .bool dn] B4.out rfl) : ws21.heap[g4]? = some (.cells #[.int .u64 a0, .int .u64 a1, .int .i64 a2, .int .i64 a3, .int .i64 a4, .int .u64 nx, .slice (some ad) q cv, .slice Ar2 mm cr2, .bool dn] 30 (0, 0)))); have n_HVH := Lib.hid ((by rw [hw]; exact Kd.V_kept HVH.out (setAll_kept [.int .u64 a0, .int .u64 a1, .int .i64 a2, .int .i64 a3, .int .i64 a4, .int .u64 nx, .slice (some ad) q cv, .slice Ar2 mm cr2, .bool dn] 0 wd2) (fun k hk => fun e_ => hk.1.2 (by rw [e_]; simp)) : Kd.V k83 83 ws21 w.heap.size (fun k => ((((P6 k ∨ P7 k ∨ P9 k) ∧ k < w.heap.size) ∨ w.heap.size ≤ k) ∧ k ∉ [g2, g3, g4]) ∧ some k ≠ (.slice Ar2 mm cr2 : Value).ownBlock) (.slice (some ad) q cv) (b :: t))); have n_HNR := Lib.hid ((by rw [hw]; exact Kd.N_kept HNR.out (setAll_kept [.int .u64 a0, .int .u64 a1, .int .i64 a2, .int .i64 a3, .int .i64 a4, .int .u64 nx, .slice (some ad) q cv, .slice Ar2 mm cr2, .bool dn] 0 wd2) (fun k hk => fun e_ => hk.2 (by rw [e_]; simp)) : Kd.N E1 101 ws21 w.heap.size (fun k => (((P6 k ∨ P7 k ∨ P9 k) ∧ k < w.heap.size) ∨ w.heap.size ≤ k) ∧ k ∉ [g2, g3, g4]) (.slice Ar2 mm cr2) RL)); have n_HB := Lib.hid ((by rw [hw]; exact setAll_below Eg4.out [.int .u64 a0, .int .u64 a1, .int .i64 a2, .int .i64 a3, .int .i64 a4, .int .u64 nx, .slice (some ad) q cv, .slice Ar2 mm cr2, .bool dn] 0 wd2 HB.out : Below w.heap.size w ws21)); clear B2 B3 B4 HVH HNR HB; have B2 := n_B2; have B3 := n_B3; have B4 := n_B4; have HVH := n_HVH; have HNR := n_HNR; have HB := n_HB; clear n_B2 n_B3 n_B4 n_HVH n_HNR n_HB; clear hw; have p2_0 := (blk_cell B2.out 0).trans rfl; have p2_1 := (blk_cell B2.out 1).trans rfl; have p2_2 := (blk_cell B2.out 2).trans rfl; have p2_3 := (blk_cell B2.out 3).trans rfl; have p2_4 := (blk_cell B2.out 4).trans rfl; have p2_5 := (blk_cell B2.out 5).trans rfl; have p2_6 := (blk_cell B2.out 6).trans rfl; have p2_7 := (blk_cell B2.out 7).trans rfl; have p2_8 := (blk_cell B2.out 8).trans rfl; skip)
            refine bodyPost_ret (results_list (rs := [.cell 4 30, .tmp 5]) rfl (by simp) (.cell g4 30 #[.int .u64 a0, .int .u64 a1, .int .i64 a2, .int .i64 a3, .int .i64 a4, .int .u64 nx, .slice (some ad) q cv, .slice Ar2 mm cr2, .bool dn] (0, 0) _ rfl B4.out Try.underlying30 rfl (by kernel_rfl) (.tmp .nil))) rfl ?_
            rw [HR2.out]
            exact ⟨_, _, rfl, Kd.V_mono HVH.out (fun k hk => ⟨hk.1.1.imp (fun h => h.1) id, hk.2⟩), Kd.N_mono HNR.out (fun k hk => hk.1.imp (fun h => h.1) id), HB.out⟩
    · have k1 : n = 0 := by
        by_cases hz : n = 0
        · exact hz
        · exact absurd (.inr ⟨rfl, by omega⟩) hsl
      have y8 : decide ((0 : Int) < (n : Int)) = false := decide_eq_false (by omega)
      have y8' : decide (0 < n) = false := decide_eq_false (by omega)
      clear hsl k1
      go_enter Try.func10, Try.ntmps10
      go_wp2_with (first
        | ((with_reducible refine gate_dst (N := 2) rfl ?_); refine box_event ?hg (N := 2) ?hd (cs := #[.int .u64 a0, .int .u64 a1, .int .i64 a2, .int .i64 a3, .int .i64 a4, .int .u64 next, .slice A n c, .slice D m d, .bool false]) (t := 30) ?hr ?_; (case hd => rfl); (case hg => rfl); (case hr => first | (go_simp; done) | (go_simp; rfl)); intro g2 hg wb2 hbx hb; have Eg2 := Lib.hid (show w.heap.size ≤ g2 by rw [hg]; exact HB.out.size); have n_HB := Lib.hid (below_step HB.out hb); clear HB; have HB := n_HB; clear n_HB; have B2 := Lib.hid hbx; clear hg hbx hb; have p2_0 := (blk_cell B2.out 0).trans rfl; have p2_1 := (blk_cell B2.out 1).trans rfl; have p2_2 := (blk_cell B2.out 2).trans rfl; have p2_3 := (blk_cell B2.out 3).trans rfl; have p2_4 := (blk_cell B2.out 4).trans rfl; have p2_5 := (blk_cell B2.out 5).trans rfl; have p2_6 := (blk_cell B2.out 6).trans rfl; have p2_7 := (blk_cell B2.out 7).trans rfl; have p2_8 := (blk_cell B2.out 8).trans rfl; have l2 := blk_lt B2.out)
        | ((with_reducible refine gate_dst (N := 3) rfl ?_); refine box_event ?hg (N := 3) ?hd (cs := #[.int .u8 kd, x1, .int .u64 b0, .int .u64 b1, .int .i64 b2, .int .i64 b3, .int .i64 b4, x7, x8, x9, x10, x11, x12, x13, x14, x15, x16, x17, x18, x19, x20, x21, x22, x23, x24, x25, x26, x27, x28, x29, x30, x31, x32, x33, x34, x35, x36, .int .u64 sq, .bool true, .slice E o mc, x40, x41, x42, x43, x44, x45, x46]) (t := 52) ?hr ?_; (case hd => rfl); (case hg => rfl); (case hr => first | (go_simp; done) | (go_simp; rfl)); intro g3 hg wb3 hbx hb; have Eg3 := Lib.hid (show w.heap.size ≤ g3 by rw [hg]; exact HB.out.size); have Ne2_3 := Lib.hid (show ¬ g2 = g3 by rw [hg]; have := blk_lt B2.out; omega); (try clear p2_0 p2_1 p2_2 p2_3 p2_4 p2_5 p2_6 p2_7 p2_8); have n_B2 := Lib.hid (blk_below B2.out hb); have n_HB := Lib.hid (below_step HB.out hb); clear B2 HB; have B2 := n_B2; have HB := n_HB; clear n_B2 n_HB; have p2_0 := (blk_cell B2.out 0).trans rfl; have p2_1 := (blk_cell B2.out 1).trans rfl; have p2_2 := (blk_cell B2.out 2).trans rfl; have p2_3 := (blk_cell B2.out 3).trans rfl; have p2_4 := (blk_cell B2.out 4).trans rfl; have p2_5 := (blk_cell B2.out 5).trans rfl; have p2_6 := (blk_cell B2.out 6).trans rfl; have p2_7 := (blk_cell B2.out 7).trans rfl; have p2_8 := (blk_cell B2.out 8).trans rfl; have B3 := Lib.hid hbx; clear hg hbx hb; have l3 := blk_lt B3.out)
        | ((with_reducible refine gate_dst (N := 4) rfl ?_); refine box_event ?hg (N := 4) ?hd (cs := #[.int .u64 0, .int .u64 0, .int .i64 0, .int .i64 0, .int .i64 0, .int .u64 0, .slice none 0 0, .slice none 0 0, .bool false]) (t := 30) ?hr ?_; (case hd => rfl); (case hg => rfl); (case hr => first | (go_simp; done) | (go_simp; rfl)); intro g4 hg wb4 hbx hb; have Eg4 := Lib.hid (show w.heap.size ≤ g4 by rw [hg]; exact HB.out.size); have Ne2_4 := Lib.hid (show ¬ g2 = g4 by rw [hg]; have := blk_lt B2.out; omega); have Ne3_4 := Lib.hid (show ¬ g3 = g4 by rw [hg]; have := blk_lt B3.out; omega); (try clear p2_0 p2_1 p2_2 p2_3 p2_4 p2_5 p2_6 p2_7 p2_8); have n_B2 := Lib.hid (blk_below B2.out hb); have n_B3 := Lib.hid (blk_below B3.out hb); have n_HB := Lib.hid (below_step HB.out hb); clear B2 B3 HB; have B2 := n_B2; have B3 := n_B3; have HB := n_HB; clear n_B2 n_B3 n_HB; have p2_0 := (blk_cell B2.out 0).trans rfl; have p2_1 := (blk_cell B2.out 1).trans rfl; have p2_2 := (blk_cell B2.out 2).trans rfl; have p2_3 := (blk_cell B2.out 3).trans rfl; have p2_4 := (blk_cell B2.out 4).trans rfl; have p2_5 := (blk_cell B2.out 5).trans rfl; have p2_6 := (blk_cell B2.out 6).trans rfl; have p2_7 := (blk_cell B2.out 7).trans rfl; have p2_8 := (blk_cell B2.out 8).trans rfl; have B4 := Lib.hid hbx; clear hg hbx hb; have l4 := blk_lt B4.out)
        | (go_at_call 14; refine (HCI.out _ HB.out).mono ?_; rw [HV.out]; rintro e w4c ⟨rfl, hb⟩; (try clear p2_0 p2_1 p2_2 p2_3 p2_4 p2_5 p2_6 p2_7 p2_8); have n_B2 := Lib.hid (blk_below B2.out hb); have n_B3 := Lib.hid (blk_below B3.out hb); have n_B4 := Lib.hid (blk_below B4.out hb); have n_HB := Lib.hid (below_step HB.out hb); clear B2 B3 B4 HB; have B2 := n_B2; have B3 := n_B3; have B4 := n_B4; have HB := n_HB; clear n_B2 n_B3 n_B4 n_HB; have p2_0 := (blk_cell B2.out 0).trans rfl; have p2_1 := (blk_cell B2.out 1).trans rfl; have p2_2 := (blk_cell B2.out 2).trans rfl; have p2_3 := (blk_cell B2.out 3).trans rfl; have p2_4 := (blk_cell B2.out 4).trans rfl; have p2_5 := (blk_cell B2.out 5).trans rfl; have p2_6 := (blk_cell B2.out 6).trans rfl; have p2_7 := (blk_cell B2.out 7).trans rfl; have p2_8 := (blk_cell B2.out 8).trans rfl; clear hb)
        | (go_at_call 31; refine (HOI.out w4c HB.out).mono ?_; rintro e w5 ⟨vh, vr, rfl, hnh, hnr, hb⟩; have l2_ := blk_lt B2.out; have l3_ := blk_lt B3.out; have l4_ := blk_lt B4.out; have HNH := Lib.hid (Kd.N_lower (Kd.N_mono (ok' := (fun k => ((((P6 k ∨ P7 k ∨ P9 k) ∧ k < w.heap.size) ∨ w.heap.size ≤ k) ∧ k ∉ [g2, g3, g4]) ∧ some k ≠ (vr : Value).ownBlock)) hnh (fun k hk => ⟨⟨hk.1.imp (fun h => ⟨h.elim (fun x => .inl x.1) (fun x => .inr (.inl x.1)), h.elim (fun x => x.2) (fun x => x.2)⟩) (fun h => Nat.le_trans HB.out.size h), fun hm => by have := Eg2.out; have := Eg3.out; have := Eg4.out; simp at hm; rcases hk.1 with (h | h) | h <;> omega⟩, hk.2⟩)) HB.out.size); have HNR := Lib.hid (Kd.N_lower (Kd.N_mono (ok' := (fun k => ((((P6 k ∨ P7 k ∨ P9 k) ∧ k < w.heap.size) ∨ w.heap.size ≤ k) ∧ k ∉ [g2, g3, g4]) ∧ some k ≠ (vh : Value).ownBlock)) hnr (fun k hk => ⟨⟨hk.1.imp (fun h => ⟨h.elim (fun x => .inl x.1) (fun x => .inr (.inl x.1)), h.elim (fun x => x.2) (fun x => x.2)⟩) (fun h => Nat.le_trans HB.out.size h), fun hm => by have := Eg2.out; have := Eg3.out; have := Eg4.out; simp at hm; rcases hk.1 with (h | h) | h <;> omega⟩, hk.2⟩)) HB.out.size); (try clear p2_0 p2_1 p2_2 p2_3 p2_4 p2_5 p2_6 p2_7 p2_8 p3_0 p3_2 p3_3 p3_4 p3_5 p3_6 p3_37 p3_38 p3_39); have n_B2 := Lib.hid (blk_below B2.out hb); have n_B3 := Lib.hid (blk_below B3.out hb); have n_B4 := Lib.hid (blk_below B4.out hb); have n_HB := Lib.hid (below_step HB.out hb); clear B2 B3 B4 HB; have B2 := n_B2; have B3 := n_B3; have B4 := n_B4; have HB := n_HB; clear n_B2 n_B3 n_B4 n_HB; have p2_0 := (blk_cell B2.out 0).trans rfl; have p2_1 := (blk_cell B2.out 1).trans rfl; have p2_2 := (blk_cell B2.out 2).trans rfl; have p2_3 := (blk_cell B2.out 3).trans rfl; have p2_4 := (blk_cell B2.out 4).trans rfl; have p2_5 := (blk_cell B2.out 5).trans rfl; have p2_6 := (blk_cell B2.out 6).trans rfl; have p2_7 := (blk_cell B2.out 7).trans rfl; have p2_8 := (blk_cell B2.out 8).trans rfl; have p3_0 := (blk_cell B3.out 0).trans rfl; have p3_2 := (blk_cell B3.out 2).trans rfl; have p3_3 := (blk_cell B3.out 3).trans rfl; have p3_4 := (blk_cell B3.out 4).trans rfl; have p3_5 := (blk_cell B3.out 5).trans rfl; have p3_6 := (blk_cell B3.out 6).trans rfl; have p3_37 := (blk_cell B3.out 37).trans rfl; have p3_38 := (blk_cell B3.out 38).trans rfl; have p3_39 := (blk_cell B3.out 39).trans rfl; clear hb hnh hnr l2_ l3_ l4_; obtain ⟨Ah, ch, eh⟩ := Kd.N_slice HNH.out; rw [← Hn.out] at eh; subst eh; obtain ⟨Ar, cr, er⟩ := Kd.N_slice HNR.out; rw [← Hm.out] at er; subst er; skip)
        | ((with_reducible refine gate_store (t := 30) (p := 2) rfl ?_); have zc0 := (blk_cell B2.out 0).trans rfl; have zf0 := blk_frozen B2.out 0; have zc1 := (blk_cell B2.out 1).trans rfl; have zf1 := blk_frozen B2.out 1; have zc2 := (blk_cell B2.out 2).trans rfl; have zf2 := blk_frozen B2.out 2; have zc3 := (blk_cell B2.out 3).trans rfl; have zf3 := blk_frozen B2.out 3; have zc4 := (blk_cell B2.out 4).trans rfl; have zf4 := blk_frozen B2.out 4; have zc5 := (blk_cell B2.out 5).trans rfl; have zf5 := blk_frozen B2.out 5; have zc6 := (blk_cell B2.out 6).trans rfl; have zf6 := blk_frozen B2.out 6; have zc7 := (blk_cell B2.out 7).trans rfl; have zf7 := blk_frozen B2.out 7; have zc8 := (blk_cell B2.out 8).trans rfl; have zf8 := blk_frozen B2.out 8; refine store_event (t := 30) (p := 2) (v := ?vows1) (w1 := setAll w5 g2 0 [.int .u64 a0, .int .u64 a1, .int .i64 a2, .int .i64 a3, .int .i64 a4, .int .u64 next, .slice Ah n ch, .slice Ar m cr, .bool false]) ?hg ?ho ?hn ?hr ?_; (case ho => rfl); (case hg => rfl); (case hn => rfl); (case hr => first | (go_simp; done) | (go_simp; rfl)); intro ws1 hw; clear zc0 zf0 zc1 zf1 zc2 zf2 zc3 zf3 zc4 zf4 zc5 zf5 zc6 zf6 zc7 zf7 zc8 zf8; (try clear p2_0 p2_1 p2_2 p2_3 p2_4 p2_5 p2_6 p2_7 p2_8 p3_0 p3_2 p3_3 p3_4 p3_5 p3_6 p3_37 p3_38 p3_39); have n_B2 := Lib.hid (((by rw [hw]; exact setAll_box [.int .u64 a0, .int .u64 a1, .int .i64 a2, .int .i64 a3, .int .i64 a4, .int .u64 next, .slice Ah n ch, .slice Ar m cr, .bool false] B2.out rfl) : ws1.heap[g2]? = some (.cells #[.int .u64 a0, .int .u64 a1, .int .i64 a2, .int .i64 a3, .int .i64 a4, .int .u64 next, .slice Ah n ch, .slice Ar m cr, .bool false] 30 (0, 0)))); have n_B3 := Lib.hid (((by rw [hw]; exact blk_kept B3.out (setAll_kept [.int .u64 a0, .int .u64 a1, .int .i64 a2, .int .i64 a3, .int .i64 a4, .int .u64 next, .slice Ah n ch, .slice Ar m cr, .bool false] 0 w5) (fun e_ => Ne2_3.out e_.symm)) : ws1.heap[g3]? = some (.cells #[.int .u8 kd, x1, .int .u64 b0, .int .u64 b1, .int .i64 b2, .int .i64 b3, .int .i64 b4, x7, x8, x9, x10, x11, x12, x13, x14, x15, x16, x17, x18, x19, x20, x21, x22, x23, x24, x25, x26, x27, x28, x29, x30, x31, x32, x33, x34, x35, x36, .int .u64 sq, .bool true, .slice E o mc, x40, x41, x42, x43, x44, x45, x46] 52 (0, 0)))); have n_B4 := Lib.hid (((by rw [hw]; exact blk_kept B4.out (setAll_kept [.int .u64 a0, .int .u64 a1, .int .i64 a2, .int .i64 a3, .int .i64 a4, .int .u64 next, .slice Ah n ch, .slice Ar m cr, .bool false] 0 w5) (fun e_ => Ne2_4.out e_.symm)) : ws1.heap[g4]? = some (.cells #[.int .u64 0, .int .u64 0, .int .i64 0, .int .i64 0, .int .i64 0, .int .u64 0, .slice none 0 0, .slice none 0 0, .bool false] 30 (0, 0)))); have n_HNH := Lib.hid ((by rw [hw]; exact Kd.N_kept HNH.out (setAll_kept [.int .u64 a0, .int .u64 a1, .int .i64 a2, .int .i64 a3, .int .i64 a4, .int .u64 next, .slice Ah n ch, .slice Ar m cr, .bool false] 0 w5) (fun k hk => fun e_ => hk.1.2 (by rw [e_]; simp)) : Kd.N k83 83 ws1 w.heap.size (fun k => ((((P6 k ∨ P7 k ∨ P9 k) ∧ k < w.heap.size) ∨ w.heap.size ≤ k) ∧ k ∉ [g2, g3, g4]) ∧ some k ≠ (.slice Ar m cr : Value).ownBlock) (.slice Ah n ch) held)); have n_HNR := Lib.hid ((by rw [hw]; exact Kd.N_kept HNR.out (setAll_kept [.int .u64 a0, .int .u64 a1, .int .i64 a2, .int .i64 a3, .int .i64 a4, .int .u64 next, .slice Ah n ch, .slice Ar m cr, .bool false] 0 w5) (fun k hk => fun e_ => hk.1.2 (by rw [e_]; simp)) : Kd.N E1 101 ws1 w.heap.size (fun k => ((((P6 k ∨ P7 k ∨ P9 k) ∧ k < w.heap.size) ∨ w.heap.size ≤ k) ∧ k ∉ [g2, g3, g4]) ∧ some k ≠ (.slice Ah n ch : Value).ownBlock) (.slice Ar m cr) rows)); have n_HB := Lib.hid ((by rw [hw]; exact setAll_below Eg2.out [.int .u64 a0, .int .u64 a1, .int .i64 a2, .int .i64 a3, .int .i64 a4, .int .u64 next, .slice Ah n ch, .slice Ar m cr, .bool false] 0 w5 HB.out : Below w.heap.size w ws1)); clear B2 B3 B4 HNH HNR HB; have B2 := n_B2; have B3 := n_B3; have B4 := n_B4; have HNH := n_HNH; have HNR := n_HNR; have HB := n_HB; clear n_B2 n_B3 n_B4 n_HNH n_HNR n_HB; clear hw; have p2_0 := (blk_cell B2.out 0).trans rfl; have p2_1 := (blk_cell B2.out 1).trans rfl; have p2_2 := (blk_cell B2.out 2).trans rfl; have p2_3 := (blk_cell B2.out 3).trans rfl; have p2_4 := (blk_cell B2.out 4).trans rfl; have p2_5 := (blk_cell B2.out 5).trans rfl; have p2_6 := (blk_cell B2.out 6).trans rfl; have p2_7 := (blk_cell B2.out 7).trans rfl; have p2_8 := (blk_cell B2.out 8).trans rfl; have p3_0 := (blk_cell B3.out 0).trans rfl; have p3_2 := (blk_cell B3.out 2).trans rfl; have p3_3 := (blk_cell B3.out 3).trans rfl; have p3_4 := (blk_cell B3.out 4).trans rfl; have p3_5 := (blk_cell B3.out 5).trans rfl; have p3_6 := (blk_cell B3.out 6).trans rfl; have p3_37 := (blk_cell B3.out 37).trans rfl; have p3_38 := (blk_cell B3.out 38).trans rfl; have p3_39 := (blk_cell B3.out 39).trans rfl; skip)
        | (go_at_call 32; refine (HSR.out ws1 Ah ch (by rw [Hn.out]; rw [Hn.out] at HNH; exact (Kd.N_reads' HNH.out).2.2)).mono ?_; rintro e w6 ⟨rfl, hb⟩; (try clear p2_0 p2_1 p2_2 p2_3 p2_4 p2_5 p2_6 p2_7 p2_8 p3_0 p3_2 p3_3 p3_4 p3_5 p3_6 p3_37 p3_38 p3_39); have n_B2 := Lib.hid (blk_below B2.out hb); have n_B3 := Lib.hid (blk_below B3.out hb); have n_B4 := Lib.hid (blk_below B4.out hb); have n_HNH := Lib.hid (Kd.N_below HNH.out hb); have n_HNR := Lib.hid (Kd.N_below HNR.out hb); have n_HB := Lib.hid (below_step HB.out hb); clear B2 B3 B4 HNH HNR HB; have B2 := n_B2; have B3 := n_B3; have B4 := n_B4; have HNH := n_HNH; have HNR := n_HNR; have HB := n_HB; clear n_B2 n_B3 n_B4 n_HNH n_HNR n_HB; have p2_0 := (blk_cell B2.out 0).trans rfl; have p2_1 := (blk_cell B2.out 1).trans rfl; have p2_2 := (blk_cell B2.out 2).trans rfl; have p2_3 := (blk_cell B2.out 3).trans rfl; have p2_4 := (blk_cell B2.out 4).trans rfl; have p2_5 := (blk_cell B2.out 5).trans rfl; have p2_6 := (blk_cell B2.out 6).trans rfl; have p2_7 := (blk_cell B2.out 7).trans rfl; have p2_8 := (blk_cell B2.out 8).trans rfl; have p3_0 := (blk_cell B3.out 0).trans rfl; have p3_2 := (blk_cell B3.out 2).trans rfl; have p3_3 := (blk_cell B3.out 3).trans rfl; have p3_4 := (blk_cell B3.out 4).trans rfl; have p3_5 := (blk_cell B3.out 5).trans rfl; have p3_6 := (blk_cell B3.out 6).trans rfl; have p3_37 := (blk_cell B3.out 37).trans rfl; have p3_38 := (blk_cell B3.out 38).trans rfl; have p3_39 := (blk_cell B3.out 39).trans rfl; clear hb))
      refine start_ (n := 15) (S := fun w' => w'.cell? ⟨g2, 6, none⟩ = some (.slice Ah n ch) ∧ w'.cell? ⟨g3, 37, none⟩ = some (.int .u64 sq) ∧ w'.cell? ⟨g3, 38, none⟩ = some (.bool true) ∧ w'.cell? ⟨g3, 39, none⟩ = some (.slice E o mc)) (ds := [14]) #[false, false, false, false, false, false, false, false, false, false, false, false, false, false, false] (by kernel_rfl) rfl rfl ⟨(blk_cell B2.out 6).trans rfl, (blk_cell B3.out 37).trans rfl, (blk_cell B3.out 38).trans rfl, (blk_cell B3.out 39).trans rfl⟩ (fun hHeld => ?_)
      generalize hw8 : World.drew _ = wd at hHeld ⊢
      have n_B2 := Lib.hid (show wd.heap[g2]? = some (.cells #[.int .u64 a0, .int .u64 a1, .int .i64 a2, .int .i64 a3, .int .i64 a4, .int .u64 next, .slice Ah n ch, .slice Ar m cr, .bool false] 30 (0, 0)) from (by rw [← hw8]; exact blk_drew B2.out))
      have n_B3 := Lib.hid (show wd.heap[g3]? = some (.cells #[.int .u8 kd, x1, .int .u64 b0, .int .u64 b1, .int .i64 b2, .int .i64 b3, .int .i64 b4, x7, x8, x9, x10, x11, x12, x13, x14, x15, x16, x17, x18, x19, x20, x21, x22, x23, x24, x25, x26, x27, x28, x29, x30, x31, x32, x33, x34, x35, x36, .int .u64 sq, .bool true, .slice E o mc, x40, x41, x42, x43, x44, x45, x46] 52 (0, 0)) from (by rw [← hw8]; exact blk_drew B3.out))
      have n_B4 := Lib.hid (show wd.heap[g4]? = some (.cells #[.int .u64 0, .int .u64 0, .int .i64 0, .int .i64 0, .int .i64 0, .int .u64 0, .slice none 0 0, .slice none 0 0, .bool false] 30 (0, 0)) from (by rw [← hw8]; exact blk_drew B4.out))
      have n_HNH := Lib.hid (show Kd.N k83 83 wd w.heap.size (fun k => ((((P6 k ∨ P7 k ∨ P9 k) ∧ k < w.heap.size) ∨ w.heap.size ≤ k) ∧ k ∉ [g2, g3, g4]) ∧ some k ≠ (.slice Ar m cr : Value).ownBlock) (.slice Ah n ch) held from (by rw [← hw8]; exact Kd.N_drew HNH.out))
      have n_HNR := Lib.hid (show Kd.N E1 101 wd w.heap.size (fun k => ((((P6 k ∨ P7 k ∨ P9 k) ∧ k < w.heap.size) ∨ w.heap.size ≤ k) ∧ k ∉ [g2, g3, g4]) ∧ some k ≠ (.slice Ah n ch : Value).ownBlock) (.slice Ar m cr) rows from (by rw [← hw8]; exact Kd.N_drew HNR.out))
      have n_HB := Lib.hid (show Below w.heap.size w wd from (by rw [← hw8]; exact below_drew1 HB.out))
      clear B2 B3 B4 HNH HNR HB
      have B2 := n_B2
      have B3 := n_B3
      have B4 := n_B4
      have HNH := n_HNH
      have HNR := n_HNR
      have HB := n_HB
      clear n_B2 n_B3 n_B4 n_HNH n_HNR n_HB
      clear hw8
      (try clear p2_0 p2_1 p2_2 p2_3 p2_4 p2_5 p2_6 p2_7 p2_8 p3_0 p3_2 p3_3 p3_4 p3_5 p3_6 p3_37 p3_38 p3_39)
      refine pure_ (i := 0) (N := some 95) (v := ?_) (a' := ?_) #[true, false, false, false, false, false, false, false, false, false, false, false, false, false, false] rfl rfl (by kernel_rfl) (fun _ _ _ h => h) (Or.inl ⟨by rfl, ?_⟩) ?_ ?_
      rotate_left
      · intro w'
        go_simp
        with_reducible rfl
      rotate_left
      · simp only [Act.put, List.setIfInBounds_toArray, List.set_cons_zero, List.set_cons_succ, i64_w, i32_w]
        rfl
      refine pure_ (i := 2) (N := some 97) (v := ?_) (a' := ?_) #[true, false, true, false, false, false, false, false, false, false, false, false, false, false, false] rfl rfl (by kernel_rfl) (fun _ _ _ h => h) (Or.inl ⟨by rfl, ?_⟩) ?_ ?_
      rotate_left
      · intro w'
        go_simp
        with_reducible rfl
      rotate_left
      · simp only [Act.put, List.setIfInBounds_toArray, List.set_cons_zero, List.set_cons_succ, i64_w, i32_w]
        rfl
      refine pure_ (i := 3) (N := some 98) (v := ?_) (a' := ?_) #[true, false, true, true, false, false, false, false, false, false, false, false, false, false, false] rfl rfl (by kernel_rfl) (fun _ _ _ h => h) (Or.inl ⟨by rfl, ?_⟩) ?_ ?_
      rotate_left
      · intro w'
        go_simp
        with_reducible rfl
      rotate_left
      · simp only [Act.put, List.setIfInBounds_toArray, List.set_cons_zero, List.set_cons_succ, i64_w, i32_w]
        rfl
      refine pure_ (i := 5) (N := some 100) (v := ?_) (a' := ?_) #[true, false, true, true, false, true, false, false, false, false, false, false, false, false, false] rfl rfl (by kernel_rfl) (fun _ _ _ h => h) (Or.inl ⟨by rfl, ?_⟩) ?_ ?_
      rotate_left
      · intro w'
        go_simp
        with_reducible rfl
      rotate_left
      · simp only [Act.put, List.setIfInBounds_toArray, List.set_cons_zero, List.set_cons_succ, i64_w, i32_w]
        rfl
      refine pure_ (i := 7) (N := some 102) (v := ?_) (a' := ?_) #[true, false, true, true, false, true, false, true, false, false, false, false, false, false, false] rfl rfl (by kernel_rfl) (fun _ _ _ h => h) (Or.inl ⟨by rfl, ?_⟩) ?_ ?_
      rotate_left
      · intro w'
        go_simp
        with_reducible rfl
      rotate_left
      · simp only [Act.put, List.setIfInBounds_toArray, List.set_cons_zero, List.set_cons_succ, i64_w, i32_w]
        rfl
      refine take_ (i := 1) (N := some 96) (v := ?_) (a' := ?_) #[true, true, true, true, false, true, false, true, false, false, false, false, false, false, false] rfl rfl (by kernel_rfl) (fun _ _ _ h => h) (Or.inl ⟨by rfl, ?_⟩) hHeld ?_ ?_
      rotate_left
      · rintro w' ⟨s0_, s1_, s2_, s3_⟩
        go_simp
        with_reducible rfl
      rotate_left
      · simp only [Act.put, List.setIfInBounds_toArray, List.set_cons_zero, List.set_cons_succ, i64_w, i32_w]
        rfl
      refine take_ (i := 4) (N := some 99) (v := ?_) (a' := ?_) #[true, true, true, true, true, true, false, true, false, false, false, false, false, false, false] rfl rfl (by kernel_rfl) (fun _ _ _ h => h) (Or.inl ⟨by rfl, ?_⟩) hHeld ?_ ?_
      rotate_left
      · rintro w' ⟨s0_, s1_, s2_, s3_⟩
        go_simp
        with_reducible rfl
      rotate_left
      · simp only [Act.put, List.setIfInBounds_toArray, List.set_cons_zero, List.set_cons_succ, i64_w, i32_w]
        rfl
      refine take_ (i := 6) (N := some 101) (v := ?_) (a' := ?_) #[true, true, true, true, true, true, true, true, false, false, false, false, false, false, false] rfl rfl (by kernel_rfl) (fun _ _ _ h => h) (Or.inl ⟨by rfl, ?_⟩) hHeld ?_ ?_
      rotate_left
      · rintro w' ⟨s0_, s1_, s2_, s3_⟩
        go_simp
        with_reducible rfl
      rotate_left
      · simp only [Act.put, List.setIfInBounds_toArray, List.set_cons_zero, List.set_cons_succ, i64_w, i32_w]
        rfl
      refine take_ (i := 8) (N := some 103) (v := ?_) (a' := ?_) #[true, true, true, true, true, true, true, true, true, false, false, false, false, false, false] rfl rfl (by kernel_rfl) (fun _ _ _ h => h) (Or.inl ⟨by rfl, ?_⟩) hHeld ?_ ?_
      rotate_left
      · rintro w' ⟨s0_, s1_, s2_, s3_⟩
        go_simp
        with_reducible rfl
      rotate_left
      · simp only [Act.put, List.setIfInBounds_toArray, List.set_cons_zero, List.set_cons_succ, i64_w, i32_w]
        rfl
      refine one_ (i := 9) (N := some 104) #[true, true, true, true, true, true, true, true, true, true, false, false, false, false, false] rfl rfl (by kernel_rfl) (by decide) (fun K hK => ?_)
      refine goes_ Try.func36 (by kernel_rfl) rfl #[.slice E o mc] (by rfl) rfl rfl (by (try simp only [List.map_toArray, List.map_cons, List.map_nil]); first | done | rfl) ?_
      have hvm := Kd.V_map (base := w.heap.size) (base' := wd.heap.size) (Kd.V_below HM.out HB.out) (fun _ hf => hf)
      rw [Ho.out] at hvm ⊢
      refine (stream_own.calls kk (fun k => P9 k ∧ k < w.heap.size) E mc mrows mrows wd hvm HWN.out).mono ?_
      rw [← Ho.out]
      rintro e wo ⟨vm, rfl, hnm, hb⟩
      refine ⟨_, rfl, ?_⟩
      clear hvm
      have l2_ := blk_lt B2.out
      have l3_ := blk_lt B3.out
      have l4_ := blk_lt B4.out
      have lH := Kd.N_lt HNH.out
      have lR := Kd.N_lt HNR.out
      have bR := Kd.N_base HNR.out
      have bH := Kd.N_base HNH.out
      have HVM := Lib.hid (show Kd.V E1 101 wo w.heap.size (fun k => ((fun k => (((P6 k ∨ P7 k ∨ P9 k) ∧ k < w.heap.size) ∨ w.heap.size ≤ k) ∧ k ∉ [g2, g3, g4]) k ∧ some k ≠ (.slice Ar m cr : Value).ownBlock) ∧ some k ≠ (.slice Ah n ch : Value).ownBlock) vm mrows from Kd.N_V (Kd.N_mono hnm (fun k hk => ⟨⟨⟨hk.imp (fun h => ⟨.inr (.inr h.1), h.2⟩) (fun h => Nat.le_trans HB.out.size h), fun hm_ => by have := Eg2.out; have := Eg3.out; have := Eg4.out; simp at hm_; rcases hk with h | h <;> omega⟩, fun e_ => by have h1_ := lR k e_.symm; have h2_ := bR k e_.symm; rcases hk with h | h <;> omega⟩, fun e_ => by have h1_ := lH k e_.symm; have h2_ := bH k e_.symm; rcases hk with h | h <;> omega⟩)))
      clear hnm lH lR bR bH l2_ l3_ l4_ hHeld
      have n_B2 := Lib.hid (show wo.heap[g2]? = some (.cells #[.int .u64 a0, .int .u64 a1, .int .i64 a2, .int .i64 a3, .int .i64 a4, .int .u64 next, .slice Ah n ch, .slice Ar m cr, .bool false] 30 (0, 0)) from blk_below B2.out hb)
      have n_B3 := Lib.hid (show wo.heap[g3]? = some (.cells #[.int .u8 kd, x1, .int .u64 b0, .int .u64 b1, .int .i64 b2, .int .i64 b3, .int .i64 b4, x7, x8, x9, x10, x11, x12, x13, x14, x15, x16, x17, x18, x19, x20, x21, x22, x23, x24, x25, x26, x27, x28, x29, x30, x31, x32, x33, x34, x35, x36, .int .u64 sq, .bool true, .slice E o mc, x40, x41, x42, x43, x44, x45, x46] 52 (0, 0)) from blk_below B3.out hb)
      have n_B4 := Lib.hid (show wo.heap[g4]? = some (.cells #[.int .u64 0, .int .u64 0, .int .i64 0, .int .i64 0, .int .i64 0, .int .u64 0, .slice none 0 0, .slice none 0 0, .bool false] 30 (0, 0)) from blk_below B4.out hb)
      have n_HNH := Lib.hid (show Kd.N k83 83 wo w.heap.size (fun k => ((((P6 k ∨ P7 k ∨ P9 k) ∧ k < w.heap.size) ∨ w.heap.size ≤ k) ∧ k ∉ [g2, g3, g4]) ∧ some k ≠ (.slice Ar m cr : Value).ownBlock) (.slice Ah n ch) held from Kd.N_below HNH.out hb)
      have n_HNR := Lib.hid (show Kd.N E1 101 wo w.heap.size (fun k => ((((P6 k ∨ P7 k ∨ P9 k) ∧ k < w.heap.size) ∨ w.heap.size ≤ k) ∧ k ∉ [g2, g3, g4]) ∧ some k ≠ (.slice Ah n ch : Value).ownBlock) (.slice Ar m cr) rows from Kd.N_below HNR.out hb)
      have n_HB := Lib.hid (show Below w.heap.size w wo from below_step HB.out hb)
      clear B2 B3 B4 HNH HNR HB
      have B2 := n_B2
      have B3 := n_B3
      have B4 := n_B4
      have HNH := n_HNH
      have HNR := n_HNR
      have HB := n_HB
      clear n_B2 n_B3 n_B4 n_HNH n_HNR n_HB
      clear hb
      obtain ⟨Am, cm, em⟩ := Kd.V_slice HVM.out
      rw [← Ho.out] at em
      subst em
      refine hK.out _ _ ⟨(blk_cell B2.out 6).trans rfl, (blk_cell B3.out 37).trans rfl, (blk_cell B3.out 38).trans rfl, (blk_cell B3.out 39).trans rfl⟩ (fun hHeld => ?_)
      clear hK K
      refine norm_ (a' := ?_) ?_ ?_
      rotate_left
      · show Act.put _ (some 104) _ = _
        simp only [Act.put, List.setIfInBounds_toArray, List.set_cons_zero, List.set_cons_succ, i64_w, i32_w]
        rfl
      refine pure_ (i := 10) (N := some 105) (v := ?_) (a' := ?_) #[true, true, true, true, true, true, true, true, true, true, true, false, false, false, false] rfl rfl (by kernel_rfl) (fun _ _ _ h => h) (Or.inl ⟨by rfl, ?_⟩) ?_ ?_
      rotate_left
      · intro w'
        go_simp
        with_reducible rfl
      rotate_left
      · simp only [Act.put, List.setIfInBounds_toArray, List.set_cons_zero, List.set_cons_succ, i64_w, i32_w]
        rfl
      refine one_ (i := 11) (N := some 106) #[true, true, true, true, true, true, true, true, true, true, true, true, false, false, false] rfl rfl (by kernel_rfl) (by decide) (fun K hK => ?_)
      refine event_step (v := .slice (some ⟨wo.heap.size, 0, none⟩) 1 1) (w1 := wo.alloc (.cells #[.int .u64 sq, .bool true, .slice Am o cm] 83)) (by rfl) ?hr ?_
      case hr => first | (go_simp; done) | (go_simp; rfl)
      have hb : Below wo.heap.size wo (wo.alloc (.cells #[.int .u64 sq, .bool true, .slice Am o cm] 83)) := below_alloc (Below.refl _ _) _
      have HBX := Lib.hid (show (wo.alloc (.cells #[.int .u64 sq, .bool true, .slice Am o cm] 83)).heap[wo.heap.size]? = some (.cells #[.int .u64 sq, .bool true, .slice Am o cm] 83 (0, 0)) from blk_new wo _)
      obtain ⟨bx, hbx⟩ : ∃ bx, bx = wo.heap.size := ⟨_, rfl⟩
      have HLB := Lib.hid (show ∀ k, (.slice Ah n ch : Value).ownBlock = some k → k ≠ bx from fun k hk => by have := Kd.N_lt HNH.out k hk; omega)
      rw [← hbx] at HBX ⊢
      generalize wo.alloc (.cells #[.int .u64 sq, .bool true, .slice Am o cm] 83) = wb at hb HBX ⊢
      clear hHeld hbx
      have n_HVM := Lib.hid (Kd.V_below HVM.out hb)
      clear HVM
      have HVM := n_HVM
      clear n_HVM
      have n_B2 := Lib.hid (show wb.heap[g2]? = some (.cells #[.int .u64 a0, .int .u64 a1, .int .i64 a2, .int .i64 a3, .int .i64 a4, .int .u64 next, .slice Ah n ch, .slice Ar m cr, .bool false] 30 (0, 0)) from blk_below B2.out hb)
      have n_B3 := Lib.hid (show wb.heap[g3]? = some (.cells #[.int .u8 kd, x1, .int .u64 b0, .int .u64 b1, .int .i64 b2, .int .i64 b3, .int .i64 b4, x7, x8, x9, x10, x11, x12, x13, x14, x15, x16, x17, x18, x19, x20, x21, x22, x23, x24, x25, x26, x27, x28, x29, x30, x31, x32, x33, x34, x35, x36, .int .u64 sq, .bool true, .slice E o mc, x40, x41, x42, x43, x44, x45, x46] 52 (0, 0)) from blk_below B3.out hb)
      have n_B4 := Lib.hid (show wb.heap[g4]? = some (.cells #[.int .u64 0, .int .u64 0, .int .i64 0, .int .i64 0, .int .i64 0, .int .u64 0, .slice none 0 0, .slice none 0 0, .bool false] 30 (0, 0)) from blk_below B4.out hb)
      have n_HNH := Lib.hid (show Kd.N k83 83 wb w.heap.size (fun k => ((((P6 k ∨ P7 k ∨ P9 k) ∧ k < w.heap.size) ∨ w.heap.size ≤ k) ∧ k ∉ [g2, g3, g4]) ∧ some k ≠ (.slice Ar m cr : Value).ownBlock) (.slice Ah n ch) held from Kd.N_below HNH.out hb)
      have n_HNR := Lib.hid (show Kd.N E1 101 wb w.heap.size (fun k => ((((P6 k ∨ P7 k ∨ P9 k) ∧ k < w.heap.size) ∨ w.heap.size ≤ k) ∧ k ∉ [g2, g3, g4]) ∧ some k ≠ (.slice Ah n ch : Value).ownBlock) (.slice Ar m cr) rows from Kd.N_below HNR.out hb)
      have n_HB := Lib.hid (show Below w.heap.size w wb from below_step HB.out hb)
      clear B2 B3 B4 HNH HNR HB
      have B2 := n_B2
      have B3 := n_B3
      have B4 := n_B4
      have HNH := n_HNH
      have HNR := n_HNR
      have HB := n_HB
      clear n_B2 n_B3 n_B4 n_HNH n_HNR n_HB
      clear hb
      refine hK.out _ _ ⟨(blk_cell B2.out 6).trans rfl, (blk_cell B3.out 37).trans rfl, (blk_cell B3.out 38).trans rfl, (blk_cell B3.out 39).trans rfl⟩ (fun hHeld => ?_)
      clear hK K
      refine norm_ (a' := ?_) ?_ ?_
      rotate_left
      · show Act.put _ (some 106) _ = _
        simp only [Act.put, List.setIfInBounds_toArray, List.set_cons_zero, List.set_cons_succ, i64_w, i32_w]
        rfl
      refine one_ (i := 12) (N := some 107) #[true, true, true, true, true, true, true, true, true, true, true, true, true, false, false] rfl rfl (by kernel_rfl) (by decide) (fun K hK => ?_)
      refine goes_ Try.func35 (by kernel_rfl) rfl #[.slice Ah n ch, .int .i64 (0), .slice (some ⟨bx, 0, none⟩) 1 1] (by rfl) rfl rfl (by (try simp only [List.map_toArray, List.map_cons, List.map_nil]); first | done | rfl) ?_
      obtain ⟨cells, hcO, hcU, hcN⟩ := N_inserted (d := k83) (by decide) HNH.out (0) (by rw [← Hn.out]; omega) (⟨sq, true, mrows⟩ : S83) [.int .u64 sq, .bool true, .slice Am o cm] (okp := fun k => ((fun k => (((P6 k ∨ P7 k ∨ P9 k) ∧ k < w.heap.size) ∨ w.heap.size ≤ k) ∧ k ∉ [g2, g3, g4]) k ∧ some k ≠ (.slice Ar m cr : Value).ownBlock) ∧ some k ≠ (.slice Ah n ch : Value).ownBlock) (by have h_ := Kd.V_at HVM.out; rw [show (o : Nat) = mrows.length from Ho.out]; exact k83_mkF _ _ (⟨sq, true, mrows⟩ : S83) (by have h2_ := h_.2.1; rw [Ho.out] at h2_; exact h2_) h_.2.2) (fun k hk => hk) (fun k hk => ⟨⟨.inr (Nat.le_trans HB.out.size hk), fun hm_ => by have := blk_lt B2.out; have := blk_lt B3.out; have := blk_lt B4.out; simp at hm_; omega⟩, fun e_ => by have := Kd.N_lt HNR.out k e_.symm; omega⟩)
      rw [← Hn.out] at hcO hcN
      refine (insert_calls wb w.heap.size n (0) bx (.slice Ah n ch) cells [.int .u64 sq, .bool true, .slice Am o cm] hcO (by omega) HBX.out rfl (fun e_ => HLB.out bx e_ rfl) HB.out.size hhl hcU (by simp [Value.oneCell'])).mono ?_
      rintro e w7 ⟨v1, rfl, hi1, hg, hat⟩
      refine ⟨_, rfl, ?_⟩
      have nH := Lib.hid (hcN w7 v1 hi1 hg hat)
      have hne2 := N_neB HNH.out B2.out (by decide)
      have hne3 := N_neB HNH.out B3.out (by decide)
      have hne4 := N_neB HNH.out B4.out (by decide)
      have hbb := Kd.N_base HNH.out
      have nR := Lib.hid (Kd.N_after HNR.out hg hat)
      have n_B2 := Lib.hid (blk_grown B2.out hg hne2)
      have n_B3 := Lib.hid (blk_grown B3.out hg hne3)
      have n_B4 := Lib.hid (blk_grown B4.out hg hne4)
      have n_HB := Lib.hid (HB.out.grown hg HB.out.size hbb)
      clear HNH HNR B2 B3 B4 HB HVM HBX HLB hHeld hcO hcU hcN hi1 hg hat hne2 hne3 hne4 hbb
      have B2 := n_B2
      have B3 := n_B3
      have B4 := n_B4
      have HB := n_HB
      clear n_B2 n_B3 n_B4 n_HB
      obtain ⟨A1, c1, ev1⟩ := Kd.N_slice nH.out
      rw [show (held.take (0) ++ [(⟨sq, true, mrows⟩ : S83)] ++ held.drop (0)).length = n + 1 by have := Hn.out; simp only [List.length_append, List.length_take, List.length_drop, List.length_singleton]; omega] at ev1
      subst ev1
      refine hK.out _ _ ⟨(blk_cell B2.out 6).trans rfl, (blk_cell B3.out 37).trans rfl, (blk_cell B3.out 38).trans rfl, (blk_cell B3.out 39).trans rfl⟩ (fun hHeld => ?_)
      clear hK K
      refine norm_ (a' := ?_) ?_ ?_
      rotate_left
      · show Act.put _ (some 107) _ = _
        simp only [Act.put, List.setIfInBounds_toArray, List.set_cons_zero, List.set_cons_succ, i64_w, i32_w]
        rfl
      refine pure_ (i := 13) (N := some 108) (v := ?_) (a' := ?_) #[true, true, true, true, true, true, true, true, true, true, true, true, true, true, false] rfl rfl (by kernel_rfl) (fun _ _ _ h => h) (Or.inl ⟨by rfl, ?_⟩) ?_ ?_
      rotate_left
      · intro w'
        go_simp
        with_reducible rfl
      rotate_left
      · simp only [Act.put, List.setIfInBounds_toArray, List.set_cons_zero, List.set_cons_succ, i64_w, i32_w]
        rfl
      have f0 := blk_frozen B2.out 6
      refine last_ (i := 14) (N := none) #[true, true, true, true, true, true, true, true, true, true, true, true, true, true, true] rfl rfl (by kernel_rfl) (by decide) (fun K hK => ?_)
      refine skip_ (w1 := w7.setCell ⟨g2, 6, none⟩ (.slice A1 (n + 1) c1)) (by rfl) rfl ?_ ?_
      · first | (go_simp; done) | (go_simp; rfl)
      refine hK.out _ _ ?_
      clear hK K f0 hHeld
      have n_B2 := Lib.hid (blk_put B2.out 6 (.slice A1 (n + 1) c1) (cs' := #[.int .u64 a0, .int .u64 a1, .int .i64 a2, .int .i64 a3, .int .i64 a4, .int .u64 next, .slice A1 (n + 1) c1, .slice Ar m cr, .bool false]) rfl)
      have n_B4 := Lib.hid (blk_far (p := ⟨g2, 6, none⟩) B4.out (fun e_ => Ne2_4.out e_.symm) (.slice A1 (n + 1) c1))
      have n_B3 := Lib.hid (blk_far (p := ⟨g2, 6, none⟩) B3.out (fun e_ => Ne2_3.out e_.symm) (.slice A1 (n + 1) c1))
      have HVH := Lib.hid (show Kd.V k83 83 (w7.setCell ⟨g2, 6, none⟩ (.slice A1 (n + 1) c1)) w.heap.size (fun k => ((((P6 k ∨ P7 k ∨ P9 k) ∧ k < w.heap.size) ∨ w.heap.size ≤ k) ∧ k ∉ [g2, g3, g4]) ∧ some k ≠ (.slice Ar m cr : Value).ownBlock) (.slice A1 (n + 1) c1) (held.take (0) ++ [(⟨sq, true, mrows⟩ : S83)] ++ held.drop (0)) from Kd.V_far (p := ⟨g2, 6, none⟩) (Kd.N_V nH.out) (fun k hk e_ => hk.1.2 (by rw [e_]; simp)) _)
      have HNR := Lib.hid (show Kd.N E1 101 (w7.setCell ⟨g2, 6, none⟩ (.slice A1 (n + 1) c1)) w.heap.size (fun k => (((P6 k ∨ P7 k ∨ P9 k) ∧ k < w.heap.size) ∨ w.heap.size ≤ k) ∧ k ∉ [g2, g3, g4]) (.slice Ar m cr) rows from Kd.N_far (p := ⟨g2, 6, none⟩) (Kd.N_mono nR.out (fun k hk => hk.1)) (fun k hk e_ => hk.2 (by rw [e_]; simp)) _)
      have n_HB := Lib.hid (below_set (j := 6) (v := .slice A1 (n + 1) c1) HB.out Eg2.out)
      clear B2 B3 B4 HB nH nR
      have B2 := n_B2
      have B3 := n_B3
      have B4 := n_B4
      have HB := n_HB
      clear n_B2 n_B3 n_B4 n_HB
      generalize w7.setCell ⟨g2, 6, none⟩ (.slice A1 (n + 1) c1) = w8 at B2 B3 B4 HB HVH HNR ⊢
      refine done_ (by kernel_rfl) ?_
      have HE0 := Lib.hid (show res = drain next (held.take (0) ++ [(⟨sq, true, mrows⟩ : S83)] ++ held.drop (0)) rows false from by rw [HRES.out, HNW.out]; rfl)
      have HT0 := Lib.hid (show m + tot (held.take (0) ++ [(⟨sq, true, mrows⟩ : S83)] ++ held.drop (0)) ≤ 5864062014804 from by have h_ := HTOT.out; rw [HNW.out] at h_; rw [Hm.out]; exact h_)
      have HL0 := Lib.hid (show (held.take (0) ++ [(⟨sq, true, mrows⟩ : S83)] ++ held.drop (0)).length = n + 1 from by have := Hn.out; simp only [List.length_append, List.length_take, List.length_drop, List.length_singleton]; omega)
      clear HRES HTOT HNW
      try go_wp2
      go_loopw [9] (fun v9 wr => ∃ (nx : Int) (HL : List S83) (RL : List (List S112)) (dn : Bool) (q mm : Nat) (Av Ar2 : Option Addr) (cv cr2 : Nat), Hid (HL.length = q) ∧ Hid (RL.length = mm) ∧ Hid (mm + tot HL ≤ 5864062014804) ∧ Hid (res = drain nx HL RL dn) ∧ Hid (Kd.V k83 83 wr w.heap.size (fun k => ((((P6 k ∨ P7 k ∨ P9 k) ∧ k < w.heap.size) ∨ w.heap.size ≤ k) ∧ k ∉ [g2, g3, g4]) ∧ some k ≠ (.slice Ar2 mm cr2 : Value).ownBlock) (.slice Av q cv) HL) ∧ Hid (Kd.N E1 101 wr w.heap.size (fun k => (((P6 k ∨ P7 k ∨ P9 k) ∧ k < w.heap.size) ∨ w.heap.size ≤ k) ∧ k ∉ [g2, g3, g4]) (.slice Ar2 mm cr2) RL) ∧ Hid (wr.heap[g2]? = some (.cells #[.int .u64 a0, .int .u64 a1, .int .i64 a2, .int .i64 a3, .int .i64 a4, .int .u64 nx, .slice Av q cv, .slice Ar2 mm cr2, .bool dn] 30 (0, 0))) ∧ Hid (wr.heap[g3]? = some (.cells #[.int .u8 kd, x1, .int .u64 b0, .int .u64 b1, .int .i64 b2, .int .i64 b3, .int .i64 b4, x7, x8, x9, x10, x11, x12, x13, x14, x15, x16, x17, x18, x19, x20, x21, x22, x23, x24, x25, x26, x27, x28, x29, x30, x31, x32, x33, x34, x35, x36, .int .u64 sq, .bool true, .slice E o mc, x40, x41, x42, x43, x44, x45, x46] 52 (0, 0))) ∧ Hid (wr.heap[g4]? = some (.cells #[.int .u64 0, .int .u64 0, .int .i64 0, .int .i64 0, .int .i64 0, .int .u64 0, .slice none 0 0, .slice none 0 0, .bool false] 30 (0, 0))) ∧ Hid (Below w.heap.size w wr)) (fun _ wr => lenOf ((wr.cell? ⟨g2, 6, none⟩).getD (.bool false)))
      case atStart => exact ⟨next, _, rows, false, n + 1, m, A1, Ar, c1, cr, HL0, Lib.hid Hm.out.symm, HT0, HE0, HVH, HNR, B2, B3, B4, HB⟩
      case round =>
        clear HL0 HT0 HE0 HVH HNR B2 B3 B4 HB
        obtain ⟨nx, HL, RL, dn, q, mm, Av, Ar2, cv, cr2, Hq, Hmm, HTT, HE, HVH, HNR, B2, B3, B4, HB⟩ := hrel
        have p2_1 := (blk_cell B2.out 5).trans rfl
        have p2_2 := (blk_cell B2.out 6).trans rfl
        have HMZ := Lib.hid (show lenOf ((wr.cell? ⟨g2, 6, none⟩).getD (.bool false)) = q from by rw [show wr.cell? ⟨g2, 6, none⟩ = some (.slice Av q cv) from p2_2]; rfl)
        cases HL with
        | nil =>
          obtain rfl : q = 0 := Hq.out.symm
          have HR2 := Lib.hid (show res = (nx, [], RL, dn) from HE.out)
          clear HE HTT
          go_wp2
          go_region
          generalize hwd_ : World.drew _ = wd2
          have n_B2 := Lib.hid (show wd2.heap[g2]? = some (.cells #[.int .u64 a0, .int .u64 a1, .int .i64 a2, .int .i64 a3, .int .i64 a4, .int .u64 nx, .slice Av 0 cv, .slice Ar2 mm cr2, .bool dn] 30 (0, 0)) from by rw [← hwd_]; exact blk_drew B2.out)
          have n_B3 := Lib.hid (show wd2.heap[g3]? = some (.cells #[.int .u8 kd, x1, .int .u64 b0, .int .u64 b1, .int .i64 b2, .int .i64 b3, .int .i64 b4, x7, x8, x9, x10, x11, x12, x13, x14, x15, x16, x17, x18, x19, x20, x21, x22, x23, x24, x25, x26, x27, x28, x29, x30, x31, x32, x33, x34, x35, x36, .int .u64 sq, .bool true, .slice E o mc, x40, x41, x42, x43, x44, x45, x46] 52 (0, 0)) from by rw [← hwd_]; exact blk_drew B3.out)
          have n_B4 := Lib.hid (show wd2.heap[g4]? = some (.cells #[.int .u64 0, .int .u64 0, .int .i64 0, .int .i64 0, .int .i64 0, .int .u64 0, .slice none 0 0, .slice none 0 0, .bool false] 30 (0, 0)) from by rw [← hwd_]; exact blk_drew B4.out)
          have n_HVH := Lib.hid (show Kd.V k83 83 wd2 w.heap.size (fun k => ((((P6 k ∨ P7 k ∨ P9 k) ∧ k < w.heap.size) ∨ w.heap.size ≤ k) ∧ k ∉ [g2, g3, g4]) ∧ some k ≠ (.slice Ar2 mm cr2 : Value).ownBlock) (.slice Av 0 cv) ([]) from by rw [← hwd_]; exact Kd.V_drew HVH.out)
          have n_HNR := Lib.hid (show Kd.N E1 101 wd2 w.heap.size (fun k => (((P6 k ∨ P7 k ∨ P9 k) ∧ k < w.heap.size) ∨ w.heap.size ≤ k) ∧ k ∉ [g2, g3, g4]) (.slice Ar2 mm cr2) RL from by rw [← hwd_]; exact Kd.N_drew HNR.out)
          have n_HB := Lib.hid (show Below w.heap.size w wd2 from by rw [← hwd_]; exact below_drew1 HB.out)
          clear B2 B3 B4 HVH HNR HB
          have B2 := n_B2
          have B3 := n_B3
          have B4 := n_B4
          have HVH := n_HVH
          have HNR := n_HNR
          have HB := n_HB
          clear n_B2 n_B3 n_B4 n_HVH n_HNR n_HB hwd_ p2_1 p2_2
          have p2_0 := (blk_cell B2.out 0).trans rfl
          have p2_1 := (blk_cell B2.out 1).trans rfl
          have p2_2 := (blk_cell B2.out 2).trans rfl
          have p2_3 := (blk_cell B2.out 3).trans rfl
          have p2_4 := (blk_cell B2.out 4).trans rfl
          have p2_5 := (blk_cell B2.out 5).trans rfl
          have p2_6 := (blk_cell B2.out 6).trans rfl
          have p2_7 := (blk_cell B2.out 7).trans rfl
          have p2_8 := (blk_cell B2.out 8).trans rfl
          go_wp2_with ((with_reducible refine gate_store (t := 30) (p := 4) rfl ?_); have zc0 := (blk_cell B4.out 0).trans rfl; have zf0 := blk_frozen B4.out 0; have zc1 := (blk_cell B4.out 1).trans rfl; have zf1 := blk_frozen B4.out 1; have zc2 := (blk_cell B4.out 2).trans rfl; have zf2 := blk_frozen B4.out 2; have zc3 := (blk_cell B4.out 3).trans rfl; have zf3 := blk_frozen B4.out 3; have zc4 := (blk_cell B4.out 4).trans rfl; have zf4 := blk_frozen B4.out 4; have zc5 := (blk_cell B4.out 5).trans rfl; have zf5 := blk_frozen B4.out 5; have zc6 := (blk_cell B4.out 6).trans rfl; have zf6 := blk_frozen B4.out 6; have zc7 := (blk_cell B4.out 7).trans rfl; have zf7 := blk_frozen B4.out 7; have zc8 := (blk_cell B4.out 8).trans rfl; have zf8 := blk_frozen B4.out 8; refine store_event (t := 30) (p := 4) (v := ?vows21) (w1 := setAll wd2 g4 0 [.int .u64 a0, .int .u64 a1, .int .i64 a2, .int .i64 a3, .int .i64 a4, .int .u64 nx, .slice Av 0 cv, .slice Ar2 mm cr2, .bool dn]) ?hg ?ho ?hn ?hr ?_; (case ho => rfl); (case hg => rfl); (case hn => rfl); (case hr => first | (go_simp; done) | (go_simp; rfl)); intro ws21 hw; clear zc0 zf0 zc1 zf1 zc2 zf2 zc3 zf3 zc4 zf4 zc5 zf5 zc6 zf6 zc7 zf7 zc8 zf8; (try clear p2_0 p2_1 p2_2 p2_3 p2_4 p2_5 p2_6 p2_7 p2_8); have n_B2 := Lib.hid (((by rw [hw]; exact blk_kept B2.out (setAll_kept [.int .u64 a0, .int .u64 a1, .int .i64 a2, .int .i64 a3, .int .i64 a4, .int .u64 nx, .slice Av 0 cv, .slice Ar2 mm cr2, .bool dn] 0 wd2) (fun e_ => Ne2_4.out e_)) : ws21.heap[g2]? = some (.cells #[.int .u64 a0, .int .u64 a1, .int .i64 a2, .int .i64 a3, .int .i64 a4, .int .u64 nx, .slice Av 0 cv, .slice Ar2 mm cr2, .bool dn] 30 (0, 0)))); have n_B3 := Lib.hid (((by rw [hw]; exact blk_kept B3.out (setAll_kept [.int .u64 a0, .int .u64 a1, .int .i64 a2, .int .i64 a3, .int .i64 a4, .int .u64 nx, .slice Av 0 cv, .slice Ar2 mm cr2, .bool dn] 0 wd2) (fun e_ => Ne3_4.out e_)) : ws21.heap[g3]? = some (.cells #[.int .u8 kd, x1, .int .u64 b0, .int .u64 b1, .int .i64 b2, .int .i64 b3, .int .i64 b4, x7, x8, x9, x10, x11, x12, x13, x14, x15, x16, x17, x18, x19, x20, x21, x22, x23, x24, x25, x26, x27, x28, x29, x30, x31, x32, x33, x34, x35, x36, .int .u64 sq, .bool true, .slice E o mc, x40, x41, x42, x43, x44, x45, x46] 52 (0, 0)))); have n_B4 := Lib.hid (((by rw [hw]; exact setAll_box [.int .u64 a0, .int .u64 a1, .int .i64 a2, .int .i64 a3, .int .i64 a4, .int .u64 nx, .slice Av 0 cv, .slice Ar2 mm cr2, .bool dn] B4.out rfl) : ws21.heap[g4]? = some (.cells #[.int .u64 a0, .int .u64 a1, .int .i64 a2, .int .i64 a3, .int .i64 a4, .int .u64 nx, .slice Av 0 cv, .slice Ar2 mm cr2, .bool dn] 30 (0, 0)))); have n_HVH := Lib.hid ((by rw [hw]; exact Kd.V_kept HVH.out (setAll_kept [.int .u64 a0, .int .u64 a1, .int .i64 a2, .int .i64 a3, .int .i64 a4, .int .u64 nx, .slice Av 0 cv, .slice Ar2 mm cr2, .bool dn] 0 wd2) (fun k hk => fun e_ => hk.1.2 (by rw [e_]; simp)) : Kd.V k83 83 ws21 w.heap.size (fun k => ((((P6 k ∨ P7 k ∨ P9 k) ∧ k < w.heap.size) ∨ w.heap.size ≤ k) ∧ k ∉ [g2, g3, g4]) ∧ some k ≠ (.slice Ar2 mm cr2 : Value).ownBlock) (.slice Av 0 cv) ([]))); have n_HNR := Lib.hid ((by rw [hw]; exact Kd.N_kept HNR.out (setAll_kept [.int .u64 a0, .int .u64 a1, .int .i64 a2, .int .i64 a3, .int .i64 a4, .int .u64 nx, .slice Av 0 cv, .slice Ar2 mm cr2, .bool dn] 0 wd2) (fun k hk => fun e_ => hk.2 (by rw [e_]; simp)) : Kd.N E1 101 ws21 w.heap.size (fun k => (((P6 k ∨ P7 k ∨ P9 k) ∧ k < w.heap.size) ∨ w.heap.size ≤ k) ∧ k ∉ [g2, g3, g4]) (.slice Ar2 mm cr2) RL)); have n_HB := Lib.hid ((by rw [hw]; exact setAll_below Eg4.out [.int .u64 a0, .int .u64 a1, .int .i64 a2, .int .i64 a3, .int .i64 a4, .int .u64 nx, .slice Av 0 cv, .slice Ar2 mm cr2, .bool dn] 0 wd2 HB.out : Below w.heap.size w ws21)); clear B2 B3 B4 HVH HNR HB; have B2 := n_B2; have B3 := n_B3; have B4 := n_B4; have HVH := n_HVH; have HNR := n_HNR; have HB := n_HB; clear n_B2 n_B3 n_B4 n_HVH n_HNR n_HB; clear hw; have p2_0 := (blk_cell B2.out 0).trans rfl; have p2_1 := (blk_cell B2.out 1).trans rfl; have p2_2 := (blk_cell B2.out 2).trans rfl; have p2_3 := (blk_cell B2.out 3).trans rfl; have p2_4 := (blk_cell B2.out 4).trans rfl; have p2_5 := (blk_cell B2.out 5).trans rfl; have p2_6 := (blk_cell B2.out 6).trans rfl; have p2_7 := (blk_cell B2.out 7).trans rfl; have p2_8 := (blk_cell B2.out 8).trans rfl; skip)
          refine bodyPost_ret (results_list (rs := [.cell 4 30, .tmp 5]) rfl (by simp) (.cell g4 30 #[.int .u64 a0, .int .u64 a1, .int .i64 a2, .int .i64 a3, .int .i64 a4, .int .u64 nx, .slice Av 0 cv, .slice Ar2 mm cr2, .bool dn] (0, 0) _ rfl B4.out Try.underlying30 rfl (by kernel_rfl) (.tmp .nil))) rfl ?_
          rw [HR2.out]
          exact ⟨_, _, rfl, Kd.V_mono HVH.out (fun k hk => ⟨hk.1.1.imp (fun h => h.1) id, hk.2⟩), Kd.N_mono HNR.out (fun k hk => hk.1.imp (fun h => h.1) id), HB.out⟩
        | cons b t =>
          have hq0 : (0 : Int) < (q : Int) := by have := Hq.out; simp at this; omega
          have hq0' : 0 < q := by omega
          by_cases hb0 : b.f0 = nx
          · have y8 : (b.f0 == nx) = true := by simpa using hb0
            have HE1 := Lib.hid (show res = drain (IntKind.u64.wrap (nx + 1)) t (RL ++ b.f2) b.f1 by rw [HE.out, drain, if_pos hb0])
            clear HE hb0
            obtain ⟨ad, A2_, c2_, ead, x0, _, _, _, _⟩ := head83 HVH.out
            subst ead
            go_wp2
            go_region
            generalize hwd_ : World.drew _ = wd2
            have n_B2 := Lib.hid (show wd2.heap[g2]? = some (.cells #[.int .u64 a0, .int .u64 a1, .int .i64 a2, .int .i64 a3, .int .i64 a4, .int .u64 nx, .slice (some ad) q cv, .slice Ar2 mm cr2, .bool dn] 30 (0, 0)) from by rw [← hwd_]; exact blk_drew B2.out)
            have n_B3 := Lib.hid (show wd2.heap[g3]? = some (.cells #[.int .u8 kd, x1, .int .u64 b0, .int .u64 b1, .int .i64 b2, .int .i64 b3, .int .i64 b4, x7, x8, x9, x10, x11, x12, x13, x14, x15, x16, x17, x18, x19, x20, x21, x22, x23, x24, x25, x26, x27, x28, x29, x30, x31, x32, x33, x34, x35, x36, .int .u64 sq, .bool true, .slice E o mc, x40, x41, x42, x43, x44, x45, x46] 52 (0, 0)) from by rw [← hwd_]; exact blk_drew B3.out)
            have n_B4 := Lib.hid (show wd2.heap[g4]? = some (.cells #[.int .u64 0, .int .u64 0, .int .i64 0, .int .i64 0, .int .i64 0, .int .u64 0, .slice none 0 0, .slice none 0 0, .bool false] 30 (0, 0)) from by rw [← hwd_]; exact blk_drew B4.out)
            have n_HVH := Lib.hid (show Kd.V k83 83 wd2 w.heap.size (fun k => ((((P6 k ∨ P7 k ∨ P9 k) ∧ k < w.heap.size) ∨ w.heap.size ≤ k) ∧ k ∉ [g2, g3, g4]) ∧ some k ≠ (.slice Ar2 mm cr2 : Value).ownBlock) (.slice (some ad) q cv) (b :: t) from by rw [← hwd_]; exact Kd.V_drew HVH.out)
            have n_HNR := Lib.hid (show Kd.N E1 101 wd2 w.heap.size (fun k => (((P6 k ∨ P7 k ∨ P9 k) ∧ k < w.heap.size) ∨ w.heap.size ≤ k) ∧ k ∉ [g2, g3, g4]) (.slice Ar2 mm cr2) RL from by rw [← hwd_]; exact Kd.N_drew HNR.out)
            have n_HB := Lib.hid (show Below w.heap.size w wd2 from by rw [← hwd_]; exact below_drew1 HB.out)
            clear B2 B3 B4 HVH HNR HB
            have B2 := n_B2
            have B3 := n_B3
            have B4 := n_B4
            have HVH := n_HVH
            have HNR := n_HNR
            have HB := n_HB
            clear n_B2 n_B3 n_B4 n_HVH n_HNR n_HB hwd_ p2_1 p2_2
            obtain ⟨ad_, A2, c2, ead_, x0, x1, x2, hl2_, hF2_⟩ := head83 HVH.out
            cases ead_
            have HF2 := Lib.hid hF2_
            have HC2 := Lib.hid hl2_
            obtain ⟨lq, hlq⟩ : ∃ lq, lq = b.f2.length := ⟨_, rfl⟩
            rw [← hlq] at x2
            have Hlq := Lib.hid hlq
            clear hl2_ hF2_ hlq
            have p2_2 := (blk_cell B2.out 6).trans rfl
            go_wp2_with (first
              | ((with_reducible refine gate_dst (N := 9) rfl ?_); refine box_event ?hg (N := 9) ?hd (cs := #[.int .u64 0, .bool false, .slice none 0 0]) (t := 83) ?hr ?_; (case hd => rfl); (case hg => rfl); (case hr => first | (go_simp; done) | (go_simp; rfl)); intro g9 hg wb9 hbx hb; have Eg9 := Lib.hid (show w.heap.size ≤ g9 by rw [hg]; exact HB.out.size); have Ne2_9 := Lib.hid (show ¬ g2 = g9 by rw [hg]; have := blk_lt B2.out; omega); have Ne3_9 := Lib.hid (show ¬ g3 = g9 by rw [hg]; have := blk_lt B3.out; omega); have Ne4_9 := Lib.hid (show ¬ g4 = g9 by rw [hg]; have := blk_lt B4.out; omega); (try clear p2_6 p2_2 x0 x1 x2); have n_B2 := Lib.hid (blk_below B2.out hb); have n_B3 := Lib.hid (blk_below B3.out hb); have n_B4 := Lib.hid (blk_below B4.out hb); have n_HVH := Lib.hid (Kd.V_below (Kd.V_elderB HVH.out g9 (Nat.le_of_eq hg.symm)) hb); have n_HNR := Lib.hid (Kd.N_below (Kd.N_elderB HNR.out g9 (Nat.le_of_eq hg.symm)) hb); have n_HF2 := Lib.hid (Kd.F_below (Kd.F_elderB HF2.out g9 (Nat.le_of_eq hg.symm)) hb); have n_HB := Lib.hid (below_step HB.out hb); clear B2 B3 B4 HVH HNR HF2 HB; have B2 := n_B2; have B3 := n_B3; have B4 := n_B4; have HVH := n_HVH; have HNR := n_HNR; have HF2 := n_HF2; have HB := n_HB; clear n_B2 n_B3 n_B4 n_HVH n_HNR n_HF2 n_HB; have B9 := Lib.hid hbx; clear hg hbx hb)
              | ((with_reducible refine gate_store (t := 83) (p := 9) rfl ?_); have zc0 := (blk_cell B9.out 0).trans rfl; have zf0 := blk_frozen B9.out 0; have zc1 := (blk_cell B9.out 1).trans rfl; have zf1 := blk_frozen B9.out 1; have zc2 := (blk_cell B9.out 2).trans rfl; have zf2 := blk_frozen B9.out 2; refine store_event (t := 83) (p := 9) (v := ?vows32) (w1 := setAll wb9 g9 0 [.int .u64 b.f0, .bool b.f1, .slice A2 lq c2]) ?hg ?ho ?hn ?hr ?_; (case ho => rfl); (case hg => rfl); (case hn => rfl); (case hr => first | (go_simp; done) | (go_simp; rfl)); intro ws32 hw; clear zc0 zf0 zc1 zf1 zc2 zf2; (try clear p9_0 p9_1 p9_2); have n_B2 := Lib.hid (((by rw [hw]; exact blk_kept B2.out (setAll_kept [.int .u64 b.f0, .bool b.f1, .slice A2 lq c2] 0 wb9) (fun e_ => Ne2_9.out e_)) : ws32.heap[g2]? = some (.cells #[.int .u64 a0, .int .u64 a1, .int .i64 a2, .int .i64 a3, .int .i64 a4, .int .u64 nx, .slice (some ad) q cv, .slice Ar2 mm cr2, .bool dn] 30 (0, 0)))); have n_B3 := Lib.hid (((by rw [hw]; exact blk_kept B3.out (setAll_kept [.int .u64 b.f0, .bool b.f1, .slice A2 lq c2] 0 wb9) (fun e_ => Ne3_9.out e_)) : ws32.heap[g3]? = some (.cells #[.int .u8 kd, x1, .int .u64 b0, .int .u64 b1, .int .i64 b2, .int .i64 b3, .int .i64 b4, x7, x8, x9, x10, x11, x12, x13, x14, x15, x16, x17, x18, x19, x20, x21, x22, x23, x24, x25, x26, x27, x28, x29, x30, x31, x32, x33, x34, x35, x36, .int .u64 sq, .bool true, .slice E o mc, x40, x41, x42, x43, x44, x45, x46] 52 (0, 0)))); have n_B4 := Lib.hid (((by rw [hw]; exact blk_kept B4.out (setAll_kept [.int .u64 b.f0, .bool b.f1, .slice A2 lq c2] 0 wb9) (fun e_ => Ne4_9.out e_)) : ws32.heap[g4]? = some (.cells #[.int .u64 0, .int .u64 0, .int .i64 0, .int .i64 0, .int .i64 0, .int .u64 0, .slice none 0 0, .slice none 0 0, .bool false] 30 (0, 0)))); have n_B9 := Lib.hid (((by rw [hw]; exact setAll_box [.int .u64 b.f0, .bool b.f1, .slice A2 lq c2] B9.out rfl) : ws32.heap[g9]? = some (.cells #[.int .u64 b.f0, .bool b.f1, .slice A2 lq c2] 83 (0, 0)))); have n_HVH := Lib.hid ((by rw [hw]; exact Kd.V_kept HVH.out (setAll_kept [.int .u64 b.f0, .bool b.f1, .slice A2 lq c2] 0 wb9) (fun k hk => hk.2) : Kd.V k83 83 ws32 w.heap.size (fun k => ((fun k => ((((P6 k ∨ P7 k ∨ P9 k) ∧ k < w.heap.size) ∨ w.heap.size ≤ k) ∧ k ∉ [g2, g3, g4]) ∧ some k ≠ (.slice Ar2 mm cr2 : Value).ownBlock)) k ∧ k ≠ g9) (.slice (some ad) q cv) (b :: t))); have n_HNR := Lib.hid ((by rw [hw]; exact Kd.N_kept HNR.out (setAll_kept [.int .u64 b.f0, .bool b.f1, .slice A2 lq c2] 0 wb9) (fun k hk => hk.2) : Kd.N E1 101 ws32 w.heap.size (fun k => ((fun k => (((P6 k ∨ P7 k ∨ P9 k) ∧ k < w.heap.size) ∨ w.heap.size ≤ k) ∧ k ∉ [g2, g3, g4])) k ∧ k ≠ g9) (.slice Ar2 mm cr2) RL)); have n_HF2 := Lib.hid ((by rw [hw]; exact Kd.F_kept HF2.out (setAll_kept [.int .u64 b.f0, .bool b.f1, .slice A2 lq c2] 0 wb9) (fun k hk => hk.2) : Kd.F E1 ws32 (fun k => ((fun k => ((((P6 k ∨ P7 k ∨ P9 k) ∧ k < w.heap.size) ∨ w.heap.size ≤ k) ∧ k ∉ [g2, g3, g4]) ∧ some k ≠ (.slice Ar2 mm cr2 : Value).ownBlock)) k ∧ k ≠ g9) A2 b.f2.length b.f2)); have n_HB := Lib.hid ((by rw [hw]; exact setAll_below Eg9.out [.int .u64 b.f0, .bool b.f1, .slice A2 lq c2] 0 wb9 HB.out : Below w.heap.size w ws32)); clear B2 B3 B4 B9 HVH HNR HF2 HB; have B2 := n_B2; have B3 := n_B3; have B4 := n_B4; have B9 := n_B9; have HVH := n_HVH; have HNR := n_HNR; have HF2 := n_HF2; have HB := n_HB; clear n_B2 n_B3 n_B4 n_B9 n_HVH n_HNR n_HF2 n_HB; clear hw; have p9_0 := (blk_cell B9.out 0).trans rfl; have p9_1 := (blk_cell B9.out 1).trans rfl; have p9_2 := (blk_cell B9.out 2).trans rfl; have nV := Lib.hid (Kd.V_mono HVH.out (fun _ hk => hk.1)); have nN := Lib.hid (Kd.N_mono HNR.out (fun _ hk => hk.1)); have nF := Lib.hid (Kd.F_mono HF2.out (fun _ hk => hk.1)); clear HVH HNR HF2; have HVH := nV; have HNR := nN; have HF2 := nF; clear nV nN nF; have p2_7 := (blk_cell B2.out 7).trans rfl; skip)
              | ((with_reducible refine gate_builtin (b := .append) (xs := #[.tmp 128, .tmp 130]) rfl ?_); at_builtin; refine Kd.N_append_rows E1 (w0 := w) w.heap.size rfl (.tmp 128) (.tmp 130) 28 101 (.slice none 0 0) 24 rfl Try.underlying28 info101 rfl (by decide) (by omega) (.slice Ar2 mm cr2) RL b.f2 A2 lq c2 (fun k => (((P6 k ∨ P7 k ∨ P9 k) ∧ k < w.heap.size) ∨ w.heap.size ≤ k) ∧ k ∉ [g2, g3, g4]) (fun k => ((((P6 k ∨ P7 k ∨ P9 k) ∧ k < w.heap.size) ∨ w.heap.size ≤ k) ∧ k ∉ [g2, g3, g4]) ∧ some k ≠ (.slice Ar2 mm cr2 : Value).ownBlock) rfl rfl HNR.out (by rw [Hlq.out]; exact HF2.out) (fun k hk => hk) ?hfr HB.out HB.out.size ?hl ?_; (case hfr => exact fun k hk => ⟨.inr (Nat.le_trans HB.out.size hk), fun hm_ => by have := blk_lt B2.out; have := blk_lt B3.out; have := blk_lt B4.out; simp at hm_; omega⟩); (case hl => have h1_ := HTT.out; have h2_ := Hmm.out; have h3_ := Hlq.out; have h4_ : tot (b :: t) = b.f2.length + tot t := (by simp [tot]); omega); intro v1 w12 ho hb hg hat; obtain ⟨Ar3, cr3, ev3⟩ := Kd.N_slice ho; rw [show (RL ++ b.f2).length = mm + lq by rw [List.length_append, Hmm.out, Hlq.out]] at ev3; subst ev3; have nV := Lib.hid (Kd.V_after HVH.out hg hat); have nN := Lib.hid ho; have n2 := Lib.hid (blk_grown B2.out hg (N_neB HNR.out B2.out (by decide))); have n3 := Lib.hid (blk_grown B3.out hg (N_neB HNR.out B3.out (by decide))); have n4 := Lib.hid (blk_grown B4.out hg (N_neB HNR.out B4.out (by decide))); have n9 := Lib.hid (blk_grown B9.out hg (N_neB HNR.out B9.out (by decide))); have nB := Lib.hid hb; clear HVH HNR HF2 B2 B3 B4 B9 HB ho hb hg hat; (try clear p2_7 p9_0 p9_1 p9_2); have HVH := nV; have HNR := nN; have B2 := n2; have B3 := n3; have B4 := n4; have B9 := n9; have HB := nB; clear nV nN n2 n3 n4 n9 nB; have zc := (blk_cell B2.out 7).trans rfl; have zf := blk_frozen B2.out 7)
              | ((with_reducible refine gate_store (t := 28) (p := 132) rfl ?_); refine store_event (t := 28) (p := 132) (v := ?vo132) (w1 := w12.setCell ⟨g2, 7, none⟩ (.slice Ar3 (mm + lq) cr3)) ?hg ?ho ?hn ?hr ?_; (case ho => rfl); (case hg => rfl); (case hn => rfl); (case hr => first | (go_simp; done) | (go_simp; rfl)); intro w13 hw; clear zc zf; have n_B2 := Lib.hid (show w13.heap[g2]? = some (.cells #[.int .u64 a0, .int .u64 a1, .int .i64 a2, .int .i64 a3, .int .i64 a4, .int .u64 nx, .slice (some ad) q cv, .slice Ar3 (mm + lq) cr3, .bool dn] 30 (0, 0)) by rw [hw]; exact blk_put B2.out 7 (.slice Ar3 (mm + lq) cr3) rfl); have n_B3 := Lib.hid (show w13.heap[g3]? = some (.cells #[.int .u8 kd, x1, .int .u64 b0, .int .u64 b1, .int .i64 b2, .int .i64 b3, .int .i64 b4, x7, x8, x9, x10, x11, x12, x13, x14, x15, x16, x17, x18, x19, x20, x21, x22, x23, x24, x25, x26, x27, x28, x29, x30, x31, x32, x33, x34, x35, x36, .int .u64 sq, .bool true, .slice E o mc, x40, x41, x42, x43, x44, x45, x46] 52 (0, 0)) by rw [hw]; exact blk_far (p := ⟨g2, 7, none⟩) B3.out (fun e_ => Ne2_3.out e_.symm) (.slice Ar3 (mm + lq) cr3)); have n_B4 := Lib.hid (show w13.heap[g4]? = some (.cells #[.int .u64 0, .int .u64 0, .int .i64 0, .int .i64 0, .int .i64 0, .int .u64 0, .slice none 0 0, .slice none 0 0, .bool false] 30 (0, 0)) by rw [hw]; exact blk_far (p := ⟨g2, 7, none⟩) B4.out (fun e_ => Ne2_4.out e_.symm) (.slice Ar3 (mm + lq) cr3)); have n_B9 := Lib.hid (show w13.heap[g9]? = some (.cells #[.int .u64 b.f0, .bool b.f1, .slice A2 lq c2] 83 (0, 0)) by rw [hw]; exact blk_far (p := ⟨g2, 7, none⟩) B9.out (fun e_ => Ne2_9.out e_.symm) (.slice Ar3 (mm + lq) cr3)); have n_HVH := Lib.hid (show Kd.V k83 83 w13 w.heap.size (fun k => ((((P6 k ∨ P7 k ∨ P9 k) ∧ k < w.heap.size) ∨ w.heap.size ≤ k) ∧ k ∉ [g2, g3, g4]) ∧ some k ≠ (.slice Ar3 (mm + lq) cr3 : Value).ownBlock) (.slice (some ad) q cv) (b :: t) by rw [hw]; exact Kd.V_far (p := ⟨g2, 7, none⟩) HVH.out (fun k hk e_ => hk.1.2 (by rw [e_]; simp)) (.slice Ar3 (mm + lq) cr3)); have n_HNR := Lib.hid (show Kd.N E1 101 w13 w.heap.size (fun k => (((P6 k ∨ P7 k ∨ P9 k) ∧ k < w.heap.size) ∨ w.heap.size ≤ k) ∧ k ∉ [g2, g3, g4]) (.slice Ar3 (mm + lq) cr3) (RL ++ b.f2) by rw [hw]; exact Kd.N_far (p := ⟨g2, 7, none⟩) HNR.out (fun k hk e_ => hk.2 (by rw [e_]; simp)) (.slice Ar3 (mm + lq) cr3)); have n_HB := Lib.hid (show Below w.heap.size w w13 by rw [hw]; exact below_set (j := 7) (v := .slice Ar3 (mm + lq) cr3) HB.out Eg2.out); clear B2 B3 B4 B9 HVH HNR HB; have B2 := n_B2; have B3 := n_B3; have B4 := n_B4; have B9 := n_B9; have HVH := n_HVH; have HNR := n_HNR; have HB := n_HB; clear n_B2 n_B3 n_B4 n_B9 n_HVH n_HNR n_HB; clear hw))
            obtain ⟨i0_, hi0_, _, hsz_, _⟩ := info_parts info83
            have hcf := cut_from (P := Try.prog) 27 83 .i64 Try.underlying27 hi0_ 3 hsz_ (some ad) q cv 1 (by omega) (by omega)
            simp only [show (1 : Int).toNat = 1 from rfl] at hcf
            obtain ⟨A3, hA3⟩ : ∃ A3 : Option Addr, A3 = (if cv = 1 then some ad else (some ad : Option Addr).map (·.add (1 * 3))) := ⟨_, rfl⟩
            rw [← hA3] at hcf
            have HA3 := Lib.hid hA3
            clear hA3
            have z5 := (blk_cell B2.out 5).trans rfl
            have z6 := (blk_cell B2.out 6).trans rfl
            have z9 := (blk_cell B9.out 1).trans rfl
            have z8 := (blk_cell B2.out 8).trans rfl
            have fz5 := blk_frozen B2.out 5
            have fz6 := blk_frozen B2.out 6
            have fz8 := blk_frozen B2.out 8
            go_region
            clear z5 z6 z9 z8 fz5 fz6 fz8
            obtain ⟨we1, hw⟩ : ∃ x, x = w13.setCell ⟨g2, 5, none⟩ (.int .u64 (IntKind.u64.wrap (nx + 1))) := ⟨_, rfl⟩
            rw [← hw]
            have n_B2 := Lib.hid (show we1.heap[g2]? = some (.cells #[.int .u64 a0, .int .u64 a1, .int .i64 a2, .int .i64 a3, .int .i64 a4, .int .u64 (IntKind.u64.wrap (nx + 1)), .slice (some ad) q cv, .slice Ar3 (mm + lq) cr3, .bool dn] 30 (0, 0)) by rw [hw]; exact blk_put B2.out 5 (.int .u64 (IntKind.u64.wrap (nx + 1))) rfl)
            have n_B3 := Lib.hid (show we1.heap[g3]? = some (.cells #[.int .u8 kd, x1, .int .u64 b0, .int .u64 b1, .int .i64 b2, .int .i64 b3, .int .i64 b4, x7, x8, x9, x10, x11, x12, x13, x14, x15, x16, x17, x18, x19, x20, x21, x22, x23, x24, x25, x26, x27, x28, x29, x30, x31, x32, x33, x34, x35, x36, .int .u64 sq, .bool true, .slice E o mc, x40, x41, x42, x43, x44, x45, x46] 52 (0, 0)) by rw [hw]; exact blk_far (p := ⟨g2, 5, none⟩) B3.out (fun e_ => Ne2_3.out e_.symm) (.int .u64 (IntKind.u64.wrap (nx + 1))))
            have n_B4 := Lib.hid (show we1.heap[g4]? = some (.cells #[.int .u64 0, .int .u64 0, .int .i64 0, .int .i64 0, .int .i64 0, .int .u64 0, .slice none 0 0, .slice none 0 0, .bool false] 30 (0, 0)) by rw [hw]; exact blk_far (p := ⟨g2, 5, none⟩) B4.out (fun e_ => Ne2_4.out e_.symm) (.int .u64 (IntKind.u64.wrap (nx + 1))))
            have n_B9 := Lib.hid (show we1.heap[g9]? = some (.cells #[.int .u64 b.f0, .bool b.f1, .slice A2 lq c2] 83 (0, 0)) by rw [hw]; exact blk_far (p := ⟨g2, 5, none⟩) B9.out (fun e_ => Ne2_9.out e_.symm) (.int .u64 (IntKind.u64.wrap (nx + 1))))
            have n_HVH := Lib.hid (show Kd.V k83 83 we1 w.heap.size (fun k => ((((P6 k ∨ P7 k ∨ P9 k) ∧ k < w.heap.size) ∨ w.heap.size ≤ k) ∧ k ∉ [g2, g3, g4]) ∧ some k ≠ (.slice Ar3 (mm + lq) cr3 : Value).ownBlock) (.slice (some ad) q cv) (b :: t) by rw [hw]; exact Kd.V_far (p := ⟨g2, 5, none⟩) HVH.out (fun k hk e_ => hk.1.2 (by rw [e_]; simp)) (.int .u64 (IntKind.u64.wrap (nx + 1))))
            have n_HNR := Lib.hid (show Kd.N E1 101 we1 w.heap.size (fun k => (((P6 k ∨ P7 k ∨ P9 k) ∧ k < w.heap.size) ∨ w.heap.size ≤ k) ∧ k ∉ [g2, g3, g4]) (.slice Ar3 (mm + lq) cr3) (RL ++ b.f2) by rw [hw]; exact Kd.N_far (p := ⟨g2, 5, none⟩) HNR.out (fun k hk e_ => hk.2 (by rw [e_]; simp)) (.int .u64 (IntKind.u64.wrap (nx + 1))))
            have n_HB := Lib.hid (show Below w.heap.size w we1 by rw [hw]; exact below_set (j := 5) (v := .int .u64 (IntKind.u64.wrap (nx + 1))) HB.out Eg2.out)
            clear B2 B3 B4 B9 HVH HNR HB
            have B2 := n_B2
            have B3 := n_B3
            have B4 := n_B4
            have B9 := n_B9
            have HVH := n_HVH
            have HNR := n_HNR
            have HB := n_HB
            clear n_B2 n_B3 n_B4 n_B9 n_HVH n_HNR n_HB
            clear hw
            obtain ⟨we2, hw⟩ : ∃ x, x = we1.setCell ⟨g2, 6, none⟩ (.slice A3 (q - 1) (cv - 1)) := ⟨_, rfl⟩
            rw [← hw]
            have n_B2 := Lib.hid (show we2.heap[g2]? = some (.cells #[.int .u64 a0, .int .u64 a1, .int .i64 a2, .int .i64 a3, .int .i64 a4, .int .u64 (IntKind.u64.wrap (nx + 1)), .slice A3 (q - 1) (cv - 1), .slice Ar3 (mm + lq) cr3, .bool dn] 30 (0, 0)) by rw [hw]; exact blk_put B2.out 6 (.slice A3 (q - 1) (cv - 1)) rfl)
            have n_B3 := Lib.hid (show we2.heap[g3]? = some (.cells #[.int .u8 kd, x1, .int .u64 b0, .int .u64 b1, .int .i64 b2, .int .i64 b3, .int .i64 b4, x7, x8, x9, x10, x11, x12, x13, x14, x15, x16, x17, x18, x19, x20, x21, x22, x23, x24, x25, x26, x27, x28, x29, x30, x31, x32, x33, x34, x35, x36, .int .u64 sq, .bool true, .slice E o mc, x40, x41, x42, x43, x44, x45, x46] 52 (0, 0)) by rw [hw]; exact blk_far (p := ⟨g2, 6, none⟩) B3.out (fun e_ => Ne2_3.out e_.symm) (.slice A3 (q - 1) (cv - 1)))
            have n_B4 := Lib.hid (show we2.heap[g4]? = some (.cells #[.int .u64 0, .int .u64 0, .int .i64 0, .int .i64 0, .int .i64 0, .int .u64 0, .slice none 0 0, .slice none 0 0, .bool false] 30 (0, 0)) by rw [hw]; exact blk_far (p := ⟨g2, 6, none⟩) B4.out (fun e_ => Ne2_4.out e_.symm) (.slice A3 (q - 1) (cv - 1)))
            have n_B9 := Lib.hid (show we2.heap[g9]? = some (.cells #[.int .u64 b.f0, .bool b.f1, .slice A2 lq c2] 83 (0, 0)) by rw [hw]; exact blk_far (p := ⟨g2, 6, none⟩) B9.out (fun e_ => Ne2_9.out e_.symm) (.slice A3 (q - 1) (cv - 1)))
            have n_HVH := Lib.hid (show Kd.V k83 83 we2 w.heap.size (fun k => ((((P6 k ∨ P7 k ∨ P9 k) ∧ k < w.heap.size) ∨ w.heap.size ≤ k) ∧ k ∉ [g2, g3, g4]) ∧ some k ≠ (.slice Ar3 (mm + lq) cr3 : Value).ownBlock) (.slice (some ad) q cv) (b :: t) by rw [hw]; exact Kd.V_far (p := ⟨g2, 6, none⟩) HVH.out (fun k hk e_ => hk.1.2 (by rw [e_]; simp)) (.slice A3 (q - 1) (cv - 1)))
            have n_HNR := Lib.hid (show Kd.N E1 101 we2 w.heap.size (fun k => (((P6 k ∨ P7 k ∨ P9 k) ∧ k < w.heap.size) ∨ w.heap.size ≤ k) ∧ k ∉ [g2, g3, g4]) (.slice Ar3 (mm + lq) cr3) (RL ++ b.f2) by rw [hw]; exact Kd.N_far (p := ⟨g2, 6, none⟩) HNR.out (fun k hk e_ => hk.2 (by rw [e_]; simp)) (.slice A3 (q - 1) (cv - 1)))
            have n_HB := Lib.hid (show Below w.heap.size w we2 by rw [hw]; exact below_set (j := 6) (v := .slice A3 (q - 1) (cv - 1)) HB.out Eg2.out)
            clear B2 B3 B4 B9 HVH HNR HB
            have B2 := n_B2
            have B3 := n_B3
            have B4 := n_B4
            have B9 := n_B9
            have HVH := n_HVH
            have HNR := n_HNR
            have HB := n_HB
            clear n_B2 n_B3 n_B4 n_B9 n_HVH n_HNR n_HB
            clear hw
            obtain ⟨wd3, hw⟩ : ∃ x, x = we2.setCell ⟨g2, 8, none⟩ (.bool b.f1) := ⟨_, rfl⟩
            rw [← hw]
            have n_B2 := Lib.hid (show wd3.heap[g2]? = some (.cells #[.int .u64 a0, .int .u64 a1, .int .i64 a2, .int .i64 a3, .int .i64 a4, .int .u64 (IntKind.u64.wrap (nx + 1)), .slice A3 (q - 1) (cv - 1), .slice Ar3 (mm + lq) cr3, .bool b.f1] 30 (0, 0)) by rw [hw]; exact blk_put B2.out 8 (.bool b.f1) rfl)
            have n_B3 := Lib.hid (show wd3.heap[g3]? = some (.cells #[.int .u8 kd, x1, .int .u64 b0, .int .u64 b1, .int .i64 b2, .int .i64 b3, .int .i64 b4, x7, x8, x9, x10, x11, x12, x13, x14, x15, x16, x17, x18, x19, x20, x21, x22, x23, x24, x25, x26, x27, x28, x29, x30, x31, x32, x33, x34, x35, x36, .int .u64 sq, .bool true, .slice E o mc, x40, x41, x42, x43, x44, x45, x46] 52 (0, 0)) by rw [hw]; exact blk_far (p := ⟨g2, 8, none⟩) B3.out (fun e_ => Ne2_3.out e_.symm) (.bool b.f1))
            have n_B4 := Lib.hid (show wd3.heap[g4]? = some (.cells #[.int .u64 0, .int .u64 0, .int .i64 0, .int .i64 0, .int .i64 0, .int .u64 0, .slice none 0 0, .slice none 0 0, .bool false] 30 (0, 0)) by rw [hw]; exact blk_far (p := ⟨g2, 8, none⟩) B4.out (fun e_ => Ne2_4.out e_.symm) (.bool b.f1))
            have n_B9 := Lib.hid (show wd3.heap[g9]? = some (.cells #[.int .u64 b.f0, .bool b.f1, .slice A2 lq c2] 83 (0, 0)) by rw [hw]; exact blk_far (p := ⟨g2, 8, none⟩) B9.out (fun e_ => Ne2_9.out e_.symm) (.bool b.f1))
            have n_HVH := Lib.hid (show Kd.V k83 83 wd3 w.heap.size (fun k => ((((P6 k ∨ P7 k ∨ P9 k) ∧ k < w.heap.size) ∨ w.heap.size ≤ k) ∧ k ∉ [g2, g3, g4]) ∧ some k ≠ (.slice Ar3 (mm + lq) cr3 : Value).ownBlock) (.slice (some ad) q cv) (b :: t) by rw [hw]; exact Kd.V_far (p := ⟨g2, 8, none⟩) HVH.out (fun k hk e_ => hk.1.2 (by rw [e_]; simp)) (.bool b.f1))
            have n_HNR := Lib.hid (show Kd.N E1 101 wd3 w.heap.size (fun k => (((P6 k ∨ P7 k ∨ P9 k) ∧ k < w.heap.size) ∨ w.heap.size ≤ k) ∧ k ∉ [g2, g3, g4]) (.slice Ar3 (mm + lq) cr3) (RL ++ b.f2) by rw [hw]; exact Kd.N_far (p := ⟨g2, 8, none⟩) HNR.out (fun k hk e_ => hk.2 (by rw [e_]; simp)) (.bool b.f1))
            have n_HB := Lib.hid (show Below w.heap.size w wd3 by rw [hw]; exact below_set (j := 8) (v := .bool b.f1) HB.out Eg2.out)
            clear B2 B3 B4 B9 HVH HNR HB
            have B2 := n_B2
            have B3 := n_B3
            have B4 := n_B4
            have B9 := n_B9
            have HVH := n_HVH
            have HNR := n_HNR
            have HB := n_HB
            clear n_B2 n_B3 n_B4 n_B9 n_HVH n_HNR n_HB
            clear hw
            generalize hwd_ : World.drew _ = we3
            have n_B2 := Lib.hid (show we3.heap[g2]? = some (.cells #[.int .u64 a0, .int .u64 a1, .int .i64 a2, .int .i64 a3, .int .i64 a4, .int .u64 (IntKind.u64.wrap (nx + 1)), .slice A3 (q - 1) (cv - 1), .slice Ar3 (mm + lq) cr3, .bool b.f1] 30 (0, 0)) by rw [← hwd_]; exact blk_drew B2.out)
            have n_B3 := Lib.hid (show we3.heap[g3]? = some (.cells #[.int .u8 kd, x1, .int .u64 b0, .int .u64 b1, .int .i64 b2, .int .i64 b3, .int .i64 b4, x7, x8, x9, x10, x11, x12, x13, x14, x15, x16, x17, x18, x19, x20, x21, x22, x23, x24, x25, x26, x27, x28, x29, x30, x31, x32, x33, x34, x35, x36, .int .u64 sq, .bool true, .slice E o mc, x40, x41, x42, x43, x44, x45, x46] 52 (0, 0)) by rw [← hwd_]; exact blk_drew B3.out)
            have n_B4 := Lib.hid (show we3.heap[g4]? = some (.cells #[.int .u64 0, .int .u64 0, .int .i64 0, .int .i64 0, .int .i64 0, .int .u64 0, .slice none 0 0, .slice none 0 0, .bool false] 30 (0, 0)) by rw [← hwd_]; exact blk_drew B4.out)
            have n_B9 := Lib.hid (show we3.heap[g9]? = some (.cells #[.int .u64 b.f0, .bool b.f1, .slice A2 lq c2] 83 (0, 0)) by rw [← hwd_]; exact blk_drew B9.out)
            have n_HVH := Lib.hid (show Kd.V k83 83 we3 w.heap.size (fun k => ((((P6 k ∨ P7 k ∨ P9 k) ∧ k < w.heap.size) ∨ w.heap.size ≤ k) ∧ k ∉ [g2, g3, g4]) ∧ some k ≠ (.slice Ar3 (mm + lq) cr3 : Value).ownBlock) (.slice (some ad) q cv) (b :: t) by rw [← hwd_]; exact Kd.V_drew HVH.out)
            have n_HNR := Lib.hid (show Kd.N E1 101 we3 w.heap.size (fun k => (((P6 k ∨ P7 k ∨ P9 k) ∧ k < w.heap.size) ∨ w.heap.size ≤ k) ∧ k ∉ [g2, g3, g4]) (.slice Ar3 (mm + lq) cr3) (RL ++ b.f2) by rw [← hwd_]; exact Kd.N_drew HNR.out)
            have n_HB := Lib.hid (show Below w.heap.size w we3 by rw [← hwd_]; exact below_drew1 HB.out)
            clear B2 B3 B4 B9 HVH HNR HB
            have B2 := n_B2
            have B3 := n_B3
            have B4 := n_B4
            have B9 := n_B9
            have HVH := n_HVH
            have HNR := n_HNR
            have HB := n_HB
            clear hwd_ n_B2 n_B3 n_B4 n_B9 n_HVH n_HNR n_HB
            go_wp2
            have hV4 := Kd.V_at HVH.out
            have hQ2 := Lib.hid (show t.length = q - 1 by have := Hq.out; simp at this; omega)
            have HV5 := Lib.hid (show Kd.V k83 83 we3 w.heap.size (fun k => ((((P6 k ∨ P7 k ∨ P9 k) ∧ k < w.heap.size) ∨ w.heap.size ≤ k) ∧ k ∉ [g2, g3, g4]) ∧ some k ≠ (.slice Ar3 (mm + lq) cr3 : Value).ownBlock) (.slice A3 (q - 1) (cv - 1)) t by
              rw [← hQ2.out]
              refine Kd.V_mk (by have := hV4.2.1; have := hQ2.out; omega) ?_
              have h_ := Kd.F_cut (m := 1) (c := cv) hV4.2.2 (by simp) (by have := hV4.1; have := hV4.2.1; omega)
              rw [HA3.out]
              exact h_)
            go_roundw
            case rel => exact ⟨_, t, RL ++ b.f2, b.f1, q - 1, mm + lq, A3, Ar3, cv - 1, cr3, hQ2, Lib.hid (by rw [List.length_append, Hmm.out, Hlq.out]), Lib.hid (by have h1_ := HTT.out; have h3_ := Hlq.out; have h4_ : tot (b :: t) = b.f2.length + tot t := (by simp [tot]); omega), HE1, HV5, HNR, B2, B3, B4, HB⟩
            case measure =>
              have m1 := (blk_cell B2.out 6).trans rfl
              rw [HMZ.out, show we3.cell? ⟨g2, 6, none⟩ = some (.slice A3 (q - 1) (cv - 1)) from m1]
              show q - 1 < q
              omega
          · have y8 : (b.f0 == nx) = false := by simpa using hb0
            have hres_ := Lib.hid (show res = (nx, b :: t, RL, dn) by rw [HE.out, drain, if_neg hb0])
            obtain ⟨ad, A2_, c2_, ead, x0, _, _, _, _⟩ := head83 HVH.out
            subst ead
            clear hb0
            have HR2 := Lib.hid (show res = (nx, b :: t, RL, dn) from hres_.out)
            clear HE HTT
            go_wp2
            go_region
            generalize hwd_ : World.drew _ = wd2
            have n_B2 := Lib.hid (show wd2.heap[g2]? = some (.cells #[.int .u64 a0, .int .u64 a1, .int .i64 a2, .int .i64 a3, .int .i64 a4, .int .u64 nx, .slice (some ad) q cv, .slice Ar2 mm cr2, .bool dn] 30 (0, 0)) from by rw [← hwd_]; exact blk_drew B2.out)
            have n_B3 := Lib.hid (show wd2.heap[g3]? = some (.cells #[.int .u8 kd, x1, .int .u64 b0, .int .u64 b1, .int .i64 b2, .int .i64 b3, .int .i64 b4, x7, x8, x9, x10, x11, x12, x13, x14, x15, x16, x17, x18, x19, x20, x21, x22, x23, x24, x25, x26, x27, x28, x29, x30, x31, x32, x33, x34, x35, x36, .int .u64 sq, .bool true, .slice E o mc, x40, x41, x42, x43, x44, x45, x46] 52 (0, 0)) from by rw [← hwd_]; exact blk_drew B3.out)
            have n_B4 := Lib.hid (show wd2.heap[g4]? = some (.cells #[.int .u64 0, .int .u64 0, .int .i64 0, .int .i64 0, .int .i64 0, .int .u64 0, .slice none 0 0, .slice none 0 0, .bool false] 30 (0, 0)) from by rw [← hwd_]; exact blk_drew B4.out)
            have n_HVH := Lib.hid (show Kd.V k83 83 wd2 w.heap.size (fun k => ((((P6 k ∨ P7 k ∨ P9 k) ∧ k < w.heap.size) ∨ w.heap.size ≤ k) ∧ k ∉ [g2, g3, g4]) ∧ some k ≠ (.slice Ar2 mm cr2 : Value).ownBlock) (.slice (some ad) q cv) (b :: t) from by rw [← hwd_]; exact Kd.V_drew HVH.out)
            have n_HNR := Lib.hid (show Kd.N E1 101 wd2 w.heap.size (fun k => (((P6 k ∨ P7 k ∨ P9 k) ∧ k < w.heap.size) ∨ w.heap.size ≤ k) ∧ k ∉ [g2, g3, g4]) (.slice Ar2 mm cr2) RL from by rw [← hwd_]; exact Kd.N_drew HNR.out)
            have n_HB := Lib.hid (show Below w.heap.size w wd2 from by rw [← hwd_]; exact below_drew1 HB.out)
            clear B2 B3 B4 HVH HNR HB
            have B2 := n_B2
            have B3 := n_B3
            have B4 := n_B4
            have HVH := n_HVH
            have HNR := n_HNR
            have HB := n_HB
            clear n_B2 n_B3 n_B4 n_HVH n_HNR n_HB hwd_ p2_1 p2_2
            have p2_0 := (blk_cell B2.out 0).trans rfl
            have p2_1 := (blk_cell B2.out 1).trans rfl
            have p2_2 := (blk_cell B2.out 2).trans rfl
            have p2_3 := (blk_cell B2.out 3).trans rfl
            have p2_4 := (blk_cell B2.out 4).trans rfl
            have p2_5 := (blk_cell B2.out 5).trans rfl
            have p2_6 := (blk_cell B2.out 6).trans rfl
            have p2_7 := (blk_cell B2.out 7).trans rfl
            have p2_8 := (blk_cell B2.out 8).trans rfl
            go_wp2_with ((with_reducible refine gate_store (t := 30) (p := 4) rfl ?_); have zc0 := (blk_cell B4.out 0).trans rfl; have zf0 := blk_frozen B4.out 0; have zc1 := (blk_cell B4.out 1).trans rfl; have zf1 := blk_frozen B4.out 1; have zc2 := (blk_cell B4.out 2).trans rfl; have zf2 := blk_frozen B4.out 2; have zc3 := (blk_cell B4.out 3).trans rfl; have zf3 := blk_frozen B4.out 3; have zc4 := (blk_cell B4.out 4).trans rfl; have zf4 := blk_frozen B4.out 4; have zc5 := (blk_cell B4.out 5).trans rfl; have zf5 := blk_frozen B4.out 5; have zc6 := (blk_cell B4.out 6).trans rfl; have zf6 := blk_frozen B4.out 6; have zc7 := (blk_cell B4.out 7).trans rfl; have zf7 := blk_frozen B4.out 7; have zc8 := (blk_cell B4.out 8).trans rfl; have zf8 := blk_frozen B4.out 8; refine store_event (t := 30) (p := 4) (v := ?vows21) (w1 := setAll wd2 g4 0 [.int .u64 a0, .int .u64 a1, .int .i64 a2, .int .i64 a3, .int .i64 a4, .int .u64 nx, .slice (some ad) q cv, .slice Ar2 mm cr2, .bool dn]) ?hg ?ho ?hn ?hr ?_; (case ho => rfl); (case hg => rfl); (case hn => rfl); (case hr => first | (go_simp; done) | (go_simp; rfl)); intro ws21 hw; clear zc0 zf0 zc1 zf1 zc2 zf2 zc3 zf3 zc4 zf4 zc5 zf5 zc6 zf6 zc7 zf7 zc8 zf8; (try clear p2_0 p2_1 p2_2 p2_3 p2_4 p2_5 p2_6 p2_7 p2_8); have n_B2 := Lib.hid (((by rw [hw]; exact blk_kept B2.out (setAll_kept [.int .u64 a0, .int .u64 a1, .int .i64 a2, .int .i64 a3, .int .i64 a4, .int .u64 nx, .slice (some ad) q cv, .slice Ar2 mm cr2, .bool dn] 0 wd2) (fun e_ => Ne2_4.out e_)) : ws21.heap[g2]? = some (.cells #[.int .u64 a0, .int .u64 a1, .int .i64 a2, .int .i64 a3, .int .i64 a4, .int .u64 nx, .slice (some ad) q cv, .slice Ar2 mm cr2, .bool dn] 30 (0, 0)))); have n_B3 := Lib.hid (((by rw [hw]; exact blk_kept B3.out (setAll_kept [.int .u64 a0, .int .u64 a1, .int .i64 a2, .int .i64 a3, .int .i64 a4, .int .u64 nx, .slice (some ad) q cv, .slice Ar2 mm cr2, .bool dn] 0 wd2) (fun e_ => Ne3_4.out e_)) : ws21.heap[g3]? = some (.cells #[.int .u8 kd, x1, .int .u64 b0, .int .u64 b1, .int .i64 b2, .int .i64 b3, .int .i64 b4, x7, x8, x9, x10, x11, x12, x13, x14, x15, x16, x17, x18, x19, x20, x21, x22, x23, x24, x25, x26, x27, x28, x29, x30, x31, x32, x33, x34, x35, x36, .int .u64 sq, .bool true, .slice E o mc, x40, x41, x42, x43, x44, x45, x46] 52 (0, 0)))); have n_B4 := Lib.hid (((by rw [hw]; exact setAll_box [.int .u64 a0, .int .u64 a1, .int .i64 a2, .int .i64 a3, .int .i64 a4, .int .u64 nx, .slice (some ad) q cv, .slice Ar2 mm cr2, .bool dn] B4.out rfl) : ws21.heap[g4]? = some (.cells #[.int .u64 a0, .int .u64 a1, .int .i64 a2, .int .i64 a3, .int .i64 a4, .int .u64 nx, .slice (some ad) q cv, .slice Ar2 mm cr2, .bool dn] 30 (0, 0)))); have n_HVH := Lib.hid ((by rw [hw]; exact Kd.V_kept HVH.out (setAll_kept [.int .u64 a0, .int .u64 a1, .int .i64 a2, .int .i64 a3, .int .i64 a4, .int .u64 nx, .slice (some ad) q cv, .slice Ar2 mm cr2, .bool dn] 0 wd2) (fun k hk => fun e_ => hk.1.2 (by rw [e_]; simp)) : Kd.V k83 83 ws21 w.heap.size (fun k => ((((P6 k ∨ P7 k ∨ P9 k) ∧ k < w.heap.size) ∨ w.heap.size ≤ k) ∧ k ∉ [g2, g3, g4]) ∧ some k ≠ (.slice Ar2 mm cr2 : Value).ownBlock) (.slice (some ad) q cv) (b :: t))); have n_HNR := Lib.hid ((by rw [hw]; exact Kd.N_kept HNR.out (setAll_kept [.int .u64 a0, .int .u64 a1, .int .i64 a2, .int .i64 a3, .int .i64 a4, .int .u64 nx, .slice (some ad) q cv, .slice Ar2 mm cr2, .bool dn] 0 wd2) (fun k hk => fun e_ => hk.2 (by rw [e_]; simp)) : Kd.N E1 101 ws21 w.heap.size (fun k => (((P6 k ∨ P7 k ∨ P9 k) ∧ k < w.heap.size) ∨ w.heap.size ≤ k) ∧ k ∉ [g2, g3, g4]) (.slice Ar2 mm cr2) RL)); have n_HB := Lib.hid ((by rw [hw]; exact setAll_below Eg4.out [.int .u64 a0, .int .u64 a1, .int .i64 a2, .int .i64 a3, .int .i64 a4, .int .u64 nx, .slice (some ad) q cv, .slice Ar2 mm cr2, .bool dn] 0 wd2 HB.out : Below w.heap.size w ws21)); clear B2 B3 B4 HVH HNR HB; have B2 := n_B2; have B3 := n_B3; have B4 := n_B4; have HVH := n_HVH; have HNR := n_HNR; have HB := n_HB; clear n_B2 n_B3 n_B4 n_HVH n_HNR n_HB; clear hw; have p2_0 := (blk_cell B2.out 0).trans rfl; have p2_1 := (blk_cell B2.out 1).trans rfl; have p2_2 := (blk_cell B2.out 2).trans rfl; have p2_3 := (blk_cell B2.out 3).trans rfl; have p2_4 := (blk_cell B2.out 4).trans rfl; have p2_5 := (blk_cell B2.out 5).trans rfl; have p2_6 := (blk_cell B2.out 6).trans rfl; have p2_7 := (blk_cell B2.out 7).trans rfl; have p2_8 := (blk_cell B2.out 8).trans rfl; skip)
            refine bodyPost_ret (results_list (rs := [.cell 4 30, .tmp 5]) rfl (by simp) (.cell g4 30 #[.int .u64 a0, .int .u64 a1, .int .i64 a2, .int .i64 a3, .int .i64 a4, .int .u64 nx, .slice (some ad) q cv, .slice Ar2 mm cr2, .bool dn] (0, 0) _ rfl B4.out Try.underlying30 rfl (by kernel_rfl) (.tmp .nil))) rfl ?_
            rw [HR2.out]
            exact ⟨_, _, rfl, Kd.V_mono HVH.out (fun k hk => ⟨hk.1.1.imp (fun h => h.1) id, hk.2⟩), Kd.N_mono HNR.out (fun k hk => hk.1.imp (fun h => h.1) id), HB.out⟩
end Go.Proofs.Ytkbemagcoojmmaa.Val
