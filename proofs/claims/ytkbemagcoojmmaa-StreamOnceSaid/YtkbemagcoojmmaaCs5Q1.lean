/- Package stream: Cut. Condition: the rows are read, and can be copied. Printed by gcs5.py. -/
import Derived.Test.YtkbemagcoojmmaaCkQ1
namespace Go.Proofs.Ytkbemagcoojmmaa.Val
open Go.RowKit Go.Shelf Go.Proofs.Ytkbemagcoojmmaa.G Go.Proofs.Ytkbemagcoojmmaa.Lx Go.Proofs.YtkbemagcoojmmaaW.PrintWords Go.Proofs.YtkbemagcoojmmaaW.PrintLast Go.Proofs.YtkbemagcoojmmaaW.PrintMore
set_option linter.unusedVariables false
set_option linter.unusedSimpArgs false
attribute [local go_sem] Oper.semAt_some
theorem N_ofRow {α : Type} {d : Kd α} {e base : Nat} {W : World} {ok : Nat → Prop} {v : Value} {cells : List Value} {xs : List α} (hd : d.sz = 1) (ho : W.ownsRow base e 1 v cells.length cells) (hl : cells.length = xs.length) (hok : ∀ k, v.ownBlock = some k → ok k) (h1 : ∀ c ∈ cells, c.oneCell' = true) (hf : ∀ (j : Nat) (x : α) (c : Value), xs[j]? = some x → cells[j]? = some c → Kd.FK d W (fun k => ok k ∧ some k ≠ v.ownBlock) x [c]) : Kd.N d e W base ok v xs := by
  refine ⟨hok, cells.map (fun c => [c]), by rw [List.length_map, hl], ⟨fun k hk => hk.symm, cells, ?_, ?_, ?_⟩, ?_⟩
  · rw [List.length_map]
    show W.ownsRow base e d.sz v cells.length cells
    rw [hd]
    exact ho
  · show cells.length = (cells.map (fun c => [c])).length * d.sz
    rw [List.length_map, hd, Nat.mul_one]
  · intro j p hj
    rw [List.getElem?_map] at hj
    obtain ⟨c, hc, rfl⟩ := Option.map_eq_some_iff.1 hj
    have hlt := (List.getElem?_eq_some_iff.1 hc).1
    have e1 : (cells.drop j).take 1 = [c] := by
      rw [List.drop_eq_getElem_cons hlt]
      simp [(List.getElem?_eq_some_iff.1 hc).2]
    have e0 : (cells.drop (j * d.sz)).take d.sz = [c] := by rw [hd, Nat.mul_one]; exact e1
    show (cells.drop (j * d.sz)).take d.sz = [c] ∧ ((cells.drop (j * d.sz)).take d.sz).length = d.sz ∧ ∀ u ∈ (cells.drop (j * d.sz)).take d.sz, u.oneCell' = true
    rw [e0]
    exact ⟨rfl, hd.symm, fun u hu => by rw [List.mem_singleton.1 hu]; exact h1 c (List.mem_of_getElem? hc)⟩
  · intro j x c hx hc
    rw [List.getElem?_map] at hc
    obtain ⟨c', hc', rfl⟩ := Option.map_eq_some_iff.1 hc
    exact hf j x c' hx hc'
def piece {α : Type} (l : List α) (k : Nat) : List α := (l.drop (8 * k)).take 8
theorem piece_len {α : Type} (l : List α) (k : Nat) : (piece l k).length = pieceN l.length k := by rw [piece, List.length_take, List.length_drop, pieceN]
theorem pieceV_reads {W : World} {base c : Nat} {ok : Nat → Prop} {A : Option Addr} {l : List (List S112)} (h : Kd.V E1 101 W base ok (.slice A l.length c) l) (k : Nat) : Kd.FK E2 W ok (piece l k) [pieceV A l.length k] := by
  rw [pieceV, ← piece_len]
  refine Kd.FK_slice_mk (Nat.le_refl _) ?_
  by_cases hk : 8 * k < l.length
  · have hF := (Kd.V_at h).2.2
    have hle := (Kd.V_at h).2.1
    have e1 : piece l k = (l.drop (8 * k)).take 8 := rfl
    have h2 := Kd.F_mid (lo := 8 * k) (hi := min l.length (8 * k + 8)) hF (by omega) (by omega) hle
    have e2 : (l.take (min l.length (8 * k + 8))).drop (8 * k) = piece l k := by
      rw [piece, List.drop_take]
      by_cases hh : l.length ≤ 8 * k + 8
      · rw [Nat.min_eq_left hh, List.take_of_length_le (by rw [List.length_drop]; exact Nat.le_refl _), List.take_of_length_le (by rw [List.length_drop]; omega)]
      · rw [Nat.min_eq_right (by omega)]
        congr 1
        omega
    rw [e2] at h2
    rw [if_neg (by omega)] at h2
    simpa [show E1.sz = 1 from rfl] using h2
  · have e1 : piece l k = [] := by rw [piece, List.drop_of_length_le (by omega)]; rfl
    rw [e1]
    intro W' _
    exact ⟨rfl, by simp, fun h => absurd h (by simp)⟩
theorem cutG_pieces {α : Type} (l : List α) (h : 0 < l.length) : cutG l = (List.range ((l.length + 7) / 8)).map (piece l) := by
  have key : ∀ (n : Nat) (l : List α), l.length = n → 0 < l.length → cutG l = (List.range ((l.length + 7) / 8)).map (piece l) := by
    intro n
    induction n using Nat.strongRecOn with
    | _ n ih =>
      intro l hl hp
      by_cases h8 : 8 < l.length
      · rw [cutG_more l h8, ih (l.drop 8).length (by rw [List.length_drop]; omega) (l.drop 8) rfl (by rw [List.length_drop]; omega)]
        rw [show (l.length + 7) / 8 = ((l.drop 8).length + 7) / 8 + 1 by rw [List.length_drop]; omega, List.range_succ_eq_map, List.map_cons, List.map_map]
        congr 1
        apply List.map_congr_left
        intro k _
        simp only [Function.comp, piece, List.drop_drop]
        congr 2
        omega
      · rw [cutG_less l (by omega), show (l.length + 7) / 8 = 1 by omega]
        simp only [List.range_one, List.map_cons, List.map_nil, piece, Nat.mul_zero, List.drop_zero]
        rw [List.take_of_length_le (by omega)]
  exact key _ l rfl h
theorem chunk_calls (A : Option Addr) (m c : Nat) (w : World) : Calls Try.prog 44 #[.slice A m c, .int .i64 8] w fun e w' => ∃ bs bn, e = .returned (.func (.func 60) #[] #[.pointer (some ⟨bs, 0, none⟩), .pointer (some ⟨bn, 0, none⟩)]) ∧ w.heap.size ≤ bs ∧ w.heap.size ≤ bn ∧ w'.heap[bs]? = some (.cells #[.slice A m c] 28 (0, 0)) ∧ w'.heap[bn]? = some (.cells #[.int .i64 8] 3 (0, 0)) ∧ Below w.heap.size w w' := by
  have HB := Lib.hid (Below.refl w.heap.size w)
  go_enter Try.func44, Try.ntmps44
  go_wp2_with (first
    | ((with_reducible refine gate_dst (N := 2) rfl ?_); refine box_event ?hg (N := 2) ?hd (cs := #[.slice A m c]) (t := 28) ?hr ?_; (case hd => rfl); (case hg => rfl); (case hr => first | (go_simp; done) | (go_simp; rfl)); intro g2 hg wb2 hbx hb; have Eg2 := Lib.hid (show w.heap.size ≤ g2 by rw [hg]; exact HB.out.size); have n_HB := Lib.hid (below_step HB.out hb); clear HB; have HB := n_HB; clear n_HB; have B2 := Lib.hid hbx; clear hg hbx hb; have p2_0 := (blk_cell B2.out 0).trans rfl; have l2 := blk_lt B2.out)
    | ((with_reducible refine gate_dst (N := 3) rfl ?_); refine box_event ?hg (N := 3) ?hd (cs := #[.int .i64 8]) (t := 3) ?hr ?_; (case hd => rfl); (case hg => rfl); (case hr => first | (go_simp; done) | (go_simp; rfl)); intro g3 hg wb3 hbx hb; have Eg3 := Lib.hid (show w.heap.size ≤ g3 by rw [hg]; exact HB.out.size); have Ne2_3 := Lib.hid (show ¬ g2 = g3 by rw [hg]; have := blk_lt B2.out; omega); (try clear p2_0); have n_B2 := Lib.hid (blk_below B2.out hb); have n_HB := Lib.hid (below_step HB.out hb); clear B2 HB; have B2 := n_B2; have HB := n_HB; clear n_B2 n_HB; have p2_0 := (blk_cell B2.out 0).trans rfl; have B3 := Lib.hid hbx; clear hg hbx hb; have p3_0 := (blk_cell B3.out 0).trans rfl; have l3 := blk_lt B3.out))
  go_ret
  exact ⟨_, _, rfl, Eg2.out, Eg3.out, B2.out, B3.out, HB.out⟩
set_option maxHeartbeats 8000000 in
set_option maxRecDepth 100000 in
theorem cut_main (a0 a1 a2 a3 a4 : Int) (kk : Nat) (P : Nat → Prop) (A : Option Addr) (c : Nat) (l : List (List S112)) (w : World) (hr : Kd.V E1 101 w w.heap.size P (.slice A l.length c) l) (hl : l.length ≤ 4096) (hcp : stream_own.f kk l = some l) :
    Calls Try.prog 19 #[.agg #[.int .u64 a0, .int .u64 a1, .int .i64 a2, .int .i64 a3, .int .i64 a4], .slice A l.length c] w (CutPost w [.int .u64 a0, .int .u64 a1, .int .i64 a2, .int .i64 a3, .int .i64 a4] (cutG l) 0 0 (fun k => P k ∨ w.heap.size ≤ k)) := by
  have HB := Lib.hid (Below.refl w.heap.size w)
  have HV0 := Lib.hid (Kd.V_bound hr)
  have HCP := Lib.hid hcp
  have hL : decide ((4096 : Int) < (l.length : Int)) = false := decide_eq_false (by omega)
  have hL' : decide (4096 < l.length) = false := decide_eq_false (by omega)
  clear hr hcp
  refine callsIn_wide.1 (callsIn_of_wp_marks (F := Fence.wide) (n := 6) Try.func19 rfl trivial ?_ rfl)
  simp only [Try.ntmps19, List.size_toArray, List.length_cons, List.length_nil, Nat.reduceAdd, Nat.reduceSub, Array.replicate_succ, Array.replicate_zero, List.push_toArray, List.append_toArray, List.nil_append, List.cons_append]
  refine wpIn_wide.2 ?_
  go_wp2_with (first
    | ((with_reducible refine gate_dst (N := 2) rfl ?_); refine box_event ?hg (N := 2) ?hd (cs := #[.int .u64 a0, .int .u64 a1, .int .i64 a2, .int .i64 a3, .int .i64 a4]) (t := 26) ?hr ?_; (case hd => rfl); (case hg => rfl); (case hr => first | (go_simp; done) | (go_simp; rfl)); intro g2 hg wb2 hbx hb; have Eg2 := Lib.hid (show w.heap.size ≤ g2 by rw [hg]; exact HB.out.size); have n_HB := Lib.hid (below_step HB.out hb); clear HB; have HB := n_HB; clear n_HB; have B2 := Lib.hid hbx; clear hg hbx hb; have p2_0 := (blk_cell B2.out 0).trans rfl; have p2_1 := (blk_cell B2.out 1).trans rfl; have p2_2 := (blk_cell B2.out 2).trans rfl; have p2_3 := (blk_cell B2.out 3).trans rfl; have p2_4 := (blk_cell B2.out 4).trans rfl; have l2 := blk_lt B2.out)
    | ((with_reducible refine gate_dst (N := 4) rfl ?_); refine box_event ?hg (N := 4) ?hd (cs := #[.int .u64 0, .int .u64 0, .int .i64 0, .int .i64 0, .int .i64 0, .slice none 0 0, .int .u64 0]) (t := 65) ?hr ?_; (case hd => rfl); (case hg => rfl); (case hr => first | (go_simp; done) | (go_simp; rfl)); intro g4 hg wb4 hbx hb; have Eg4 := Lib.hid (show w.heap.size ≤ g4 by rw [hg]; exact HB.out.size); have Ne2_4 := Lib.hid (show ¬ g2 = g4 by rw [hg]; have := blk_lt B2.out; omega); (try clear p2_0 p2_1 p2_2 p2_3 p2_4); have n_B2 := Lib.hid (blk_below B2.out hb); have n_HB := Lib.hid (below_step HB.out hb); clear B2 HB; have B2 := n_B2; have HB := n_HB; clear n_B2 n_HB; have p2_0 := (blk_cell B2.out 0).trans rfl; have p2_1 := (blk_cell B2.out 1).trans rfl; have p2_2 := (blk_cell B2.out 2).trans rfl; have p2_3 := (blk_cell B2.out 3).trans rfl; have p2_4 := (blk_cell B2.out 4).trans rfl; have B4 := Lib.hid hbx; clear hg hbx hb; have l4 := blk_lt B4.out)
    | ((with_reducible refine gate_dst (N := 6) rfl ?_); refine box_event ?hg (N := 6) ?hd (cs := #[.int .u64 0, .int .u64 0, .int .i64 0, .int .i64 0, .int .i64 0, .slice none 0 0, .int .u64 0]) (t := 65) ?hr ?_; (case hd => rfl); (case hg => rfl); (case hr => first | (go_simp; done) | (go_simp; rfl)); intro g6 hg wb6 hbx hb; have Eg6 := Lib.hid (show w.heap.size ≤ g6 by rw [hg]; exact HB.out.size); have Ne2_6 := Lib.hid (show ¬ g2 = g6 by rw [hg]; have := blk_lt B2.out; omega); have Ne4_6 := Lib.hid (show ¬ g4 = g6 by rw [hg]; have := blk_lt B4.out; omega); (try clear p2_0 p2_1 p2_2 p2_3 p2_4); have n_B2 := Lib.hid (blk_below B2.out hb); have n_B4 := Lib.hid (blk_below B4.out hb); have n_HB := Lib.hid (below_step HB.out hb); clear B2 B4 HB; have B2 := n_B2; have B4 := n_B4; have HB := n_HB; clear n_B2 n_B4 n_HB; have p2_0 := (blk_cell B2.out 0).trans rfl; have p2_1 := (blk_cell B2.out 1).trans rfl; have p2_2 := (blk_cell B2.out 2).trans rfl; have p2_3 := (blk_cell B2.out 3).trans rfl; have p2_4 := (blk_cell B2.out 4).trans rfl; have B6 := Lib.hid hbx; clear hg hbx hb; have l6 := blk_lt B6.out)
    | ((with_reducible refine gate_store (t := 65) (p := 6) rfl ?_); have zc0 := (blk_cell B6.out 0).trans rfl; have zf0 := blk_frozen B6.out 0; have zc1 := (blk_cell B6.out 1).trans rfl; have zf1 := blk_frozen B6.out 1; have zc2 := (blk_cell B6.out 2).trans rfl; have zf2 := blk_frozen B6.out 2; have zc3 := (blk_cell B6.out 3).trans rfl; have zf3 := blk_frozen B6.out 3; have zc4 := (blk_cell B6.out 4).trans rfl; have zf4 := blk_frozen B6.out 4; have zc5 := (blk_cell B6.out 5).trans rfl; have zf5 := blk_frozen B6.out 5; have zc6 := (blk_cell B6.out 6).trans rfl; have zf6 := blk_frozen B6.out 6; refine store_event (t := 65) (p := 6) (v := ?vows1) (w1 := setAll wb6 g6 0 [.int .u64 a0, .int .u64 a1, .int .i64 a2, .int .i64 a3, .int .i64 a4, .slice none 0 0, .int .u64 0]) ?hg ?ho ?hn ?hr ?_; (case ho => rfl); (case hg => rfl); (case hn => rfl); (case hr => first | (go_simp; done) | (go_simp; rfl)); intro ws1 hw; clear zc0 zf0 zc1 zf1 zc2 zf2 zc3 zf3 zc4 zf4 zc5 zf5 zc6 zf6; (try clear p2_0 p2_1 p2_2 p2_3 p2_4); have n_B2 := Lib.hid (((by rw [hw]; exact blk_kept B2.out (setAll_kept [.int .u64 a0, .int .u64 a1, .int .i64 a2, .int .i64 a3, .int .i64 a4, .slice none 0 0, .int .u64 0] 0 wb6) (fun e_ => Ne2_6.out e_)) : ws1.heap[g2]? = some (.cells #[.int .u64 a0, .int .u64 a1, .int .i64 a2, .int .i64 a3, .int .i64 a4] 26 (0, 0)))); have n_B4 := Lib.hid (((by rw [hw]; exact blk_kept B4.out (setAll_kept [.int .u64 a0, .int .u64 a1, .int .i64 a2, .int .i64 a3, .int .i64 a4, .slice none 0 0, .int .u64 0] 0 wb6) (fun e_ => Ne4_6.out e_)) : ws1.heap[g4]? = some (.cells #[.int .u64 0, .int .u64 0, .int .i64 0, .int .i64 0, .int .i64 0, .slice none 0 0, .int .u64 0] 65 (0, 0)))); have n_B6 := Lib.hid (((by rw [hw]; exact setAll_box [.int .u64 a0, .int .u64 a1, .int .i64 a2, .int .i64 a3, .int .i64 a4, .slice none 0 0, .int .u64 0] B6.out rfl) : ws1.heap[g6]? = some (.cells #[.int .u64 a0, .int .u64 a1, .int .i64 a2, .int .i64 a3, .int .i64 a4, .slice none 0 0, .int .u64 0] 65 (0, 0)))); have n_HB := Lib.hid ((by rw [hw]; exact setAll_below Eg6.out [.int .u64 a0, .int .u64 a1, .int .i64 a2, .int .i64 a3, .int .i64 a4, .slice none 0 0, .int .u64 0] 0 wb6 HB.out : Below w.heap.size w ws1)); clear B2 B4 B6 HB; have B2 := n_B2; have B4 := n_B4; have B6 := n_B6; have HB := n_HB; clear n_B2 n_B4 n_B6 n_HB; clear hw; have p2_0 := (blk_cell B2.out 0).trans rfl; have p2_1 := (blk_cell B2.out 1).trans rfl; have p2_2 := (blk_cell B2.out 2).trans rfl; have p2_3 := (blk_cell B2.out 3).trans rfl; have p2_4 := (blk_cell B2.out 4).trans rfl; skip)
    | (go_at_call 36; refine (stream_own.calls kk (fun k => P k ∧ k < w.heap.size) A c l l ws1 (Kd.V_map (base := w.heap.size) (Kd.V_below HV0.out HB.out) (fun _ hf => hf)) HCP.out).mono ?_; rintro e w6 ⟨vk, rfl, ho, hb⟩; have l4_ := blk_lt B4.out; have l6_ := blk_lt B6.out; have HV := Lib.hid (Kd.N_V (base' := w.heap.size) (Kd.N_mono (ok' := fun k => ((P k ∧ k < w.heap.size) ∨ w.heap.size ≤ k) ∧ k ∉ [g4, g6]) ho (fun k hk => ⟨hk.imp id (fun h => Nat.le_trans HB.out.size h), fun hm => by have := Eg4.out; have := Eg6.out; simp at hm; rcases hk with h | h <;> omega⟩))); have n_B2 := Lib.hid (blk_below B2.out hb); have n_B4 := Lib.hid (blk_below B4.out hb); have n_B6 := Lib.hid (blk_below B6.out hb); have n_HB := Lib.hid (below_step HB.out hb); clear B2 B4 B6 HB; have B2 := n_B2; have B4 := n_B4; have B6 := n_B6; have HB := n_HB; clear n_B2 n_B4 n_B6 n_HB; clear hb ho l4_ l6_; obtain ⟨A0, c0, e0⟩ := Kd.V_slice HV.out; subst e0; have Es0 := Lib.hid (show w.heap.size ≤ w6.heap.size from HB.out.size))
    | (go_at_call 44; refine (chunk_calls A0 l.length c0 w6).mono ?_; rintro e w7 ⟨bs, bn, rfl, hbs, hbn, hxs, hxn, hb⟩; have HV2 := Lib.hid (Kd.V_below (Kd.V_bound HV.out) hb); have n_B2 := Lib.hid (blk_below B2.out hb); have n_B4 := Lib.hid (blk_below B4.out hb); have n_B6 := Lib.hid (blk_below B6.out hb); have n_HV := Lib.hid (Kd.V_below HV.out hb); have n_HB := Lib.hid (below_step HB.out hb); clear B2 B4 B6 HV HB; have B2 := n_B2; have B4 := n_B4; have B6 := n_B6; have HV := n_HV; have HB := n_HB; clear n_B2 n_B4 n_B6 n_HV n_HB; have HXS := Lib.hid hxs; have HXN := Lib.hid hxn; have HBS := Lib.hid hbs; have HBN := Lib.hid hbn; have HSZ := Lib.hid hb.size; clear hb hbs hbn hxs hxn))
  clear HV B2 Eg2 Ne2_4 Ne2_6 hL hL' HCP HV0
  obtain ⟨s1, hs1⟩ : ∃ s1, s1 = w7.heap.size := ⟨_, rfl⟩
  have HV := Lib.hid (show Kd.V E1 101 w7 w.heap.size (fun k => ((P k ∧ k < w.heap.size) ∨ w.heap.size ≤ k) ∧ k ∉ [g4, g6] ∧ k < s1) (.slice A0 l.length c0) l from Kd.V_mono HV2.out (fun k hk => ⟨hk.1.1, hk.1.2, by rw [hs1]; exact Nat.lt_of_lt_of_le hk.2 HSZ.out⟩))
  have E4 : g4 < s1 := by rw [hs1]; exact blk_lt B4.out
  have E6 : g6 < s1 := by rw [hs1]; exact blk_lt B6.out
  have ES : bs < s1 := by rw [hs1]; exact blk_lt HXS.out
  have EN : bn < s1 := by rw [hs1]; exact blk_lt HXN.out
  have E7 : s1 ≤ w7.heap.size := by rw [hs1]; exact Nat.le_refl _
  have E0 : w.heap.size ≤ s1 := by rw [hs1]; exact HB.out.size
  have hmc : l.length ≤ c0 := (Kd.V_at HV.out).2.1
  have NS : bs ≠ g6 := fun e => by have h := B6.out; rw [← e, HXS.out] at h; cases h
  have NN : bn ≠ g6 := fun e => by have h := B6.out; rw [← e, HXN.out] at h; cases h
  have HS1 := Lib.hid hs1
  clear HV2 l2 l4 l6 HBS HBN HSZ hs1
  obtain ⟨m, hm⟩ : ∃ m, m = l.length := ⟨_, rfl⟩
  rw [← hm] at hmc HV HXS hl ⊢
  have HM := Lib.hid hm
  clear hm
  have HH1 := Lib.hid hmc
  obtain ⟨i0, hi, hz0, hz1, hz2⟩ := info_parts info28
  refine (wpIn_wide (n := 6)).1 ?_
  refine wpIn_rangeFunc_ownG (F := Fence.wide) rfl (by decide) (gf := 60) (lb := #[.pointer (some ⟨bs, 0, none⟩), .pointer (some ⟨bn, 0, none⟩)]) rfl trivial (enters_of Try.func60 (by kernel_rfl) rfl)
    (chunk_stops 5 (by decide) bs bn A0 m c0 hmc (by omega) w7 HXS.out HXN.out) (fun h k => ⟨k.1.trans h.1, k.2.trans h.2⟩) (fun W l_ o o' hl_ h1_ _ _ => ⟨World.putObj_heap_other (by omega), World.putObj_heap_other (by omega)⟩) (Below.refl _ _) (fun _ => rfl)
    (fun pre W => (∃ v, W.heap[g6]? = some (.cells #[.int .u64 a0, .int .u64 a1, .int .i64 a2, .int .i64 a3, .int .i64 a4, v, .int .u64 0] 65 (0, 0)) ∧ W.ownsRow s1 28 1 v pre.length (pre.map (pieceV A0 m))) ∧ W.heap[g4]? = some (.cells #[.int .u64 0, .int .u64 0, .int .i64 0, .int .i64 0, .int .i64 0, .slice none 0 0, .int .u64 0] 65 (0, 0)) ∧ Kd.V E1 101 W w.heap.size (fun k => ((P k ∧ k < w.heap.size) ∨ w.heap.size ≤ k) ∧ k ∉ [g4, g6] ∧ k < s1) (.slice A0 m c0) l ∧ s1 ≤ W.heap.size ∧ Below w.heap.size w W)
    (fun _ _ _ => False)
    ?hI (fun _ _ _ _ _ hs _ _ => hs)
    ⟨⟨_, B6.out, World.ownsRow_nil _ _ _ _⟩, B4.out, HV.out, E7, HB.out⟩
    (fun x => { tmps := #[.agg #[.int .u64 a0, .int .u64 a1, .int .i64 a2, .int .i64 a3, .int .i64 a4], .slice A m c, .pointer (some ⟨g2, 0, none⟩), undef, .pointer (some ⟨g4, 0, none⟩), .int .i64 0, .pointer (some ⟨g6, 0, none⟩), .slice (A0.map (·.add (8 * x))) (pieceN m x) (pieceN m x), .slice A m c, .int .i64 (m : Int), .bool false, undef, .agg #[.int .u64 a0, .int .u64 a1, .int .i64 a2, .int .i64 a3, .int .i64 a4], .agg #[.int .u64 a0, .int .u64 a1, .int .i64 a2, .int .i64 a3, .int .i64 a4, .slice none 0 0, .int .u64 0], .slice A m c, .slice A0 m c0, .func (.func 60) #[] #[.pointer (some ⟨bs, 0, none⟩), .pointer (some ⟨bn, 0, none⟩)], .slice (A0.map (·.add (8 * x))) (pieceN m x) (pieceN m x), undef, undef, undef, undef, undef, undef, undef, undef, undef, undef, undef, undef], defers := [] }) ?assign ?body ?done ?stop
  case hI =>
    rintro s W W' row ⟨⟨v, h1, h2⟩, h3, h4, h5, h6⟩ hg hr
    have ne : ∀ (g : Nat) (cs : Array Value) (tt : Nat), W.heap[g]? = some (.cells cs tt (0, 0)) → some g ≠ row := fun g cs tt hb e => by
      obtain ⟨_, o, ho, hc⟩ := hr g e.symm
      rw [hb] at ho
      cases ho
      cases hc
    refine ⟨⟨v, blk_grown h1 hg (ne _ _ _ h1), h2.kept hg ?_⟩, blk_grown h3 hg (ne _ _ _ h3), Kd.V_grown h4 hg (fun k hk e => ?_), Nat.le_trans h5 hg.size, h6.grown hg h6.size (fun k e => ?_)⟩
    · rcases hv : v.ownBlock with _ | b
      · exact .inl rfl
      · obtain ⟨cells, hc⟩ := own_typed h2 b hv
        exact .inr (ne b _ _ hc)
    · have := (hr k e.symm).1
      have := hk.2.2
      omega
    · have := (hr k e).1
      omega
  case assign =>
    intro l_ x W K hK
    gi_wp2
    exact hK
  case body =>
    rintro l_ pre x W ⟨⟨v, h1, h2⟩, h3, h4, h5, h6⟩ hlt
    have c5 := (blk_cell h1 5).trans rfl
    have hpl : pre.length < 520 := by omega
    gi_wp2_with (gi_at_builtin; go_must (refine wpListIn_append_own _ rfl _ _ 63 rfl s1 28 i0 (.slice none 0 0) 1 24 Try.underlying63 hi hz0 hz1 hz2 rfl (by decide) _ _ _ rfl (h2.alloc _) ⟨W.heap.size, 0, none⟩ 1 1 [pieceV A0 m x] rfl rfl (cell_one_new _ _ _) (by simp [pieceV, Value.oneCell']) (by have : maxLen = 9223372036854775807 := rfl; omega) (by omega) (by simp; omega) ?_; intro v' w1 hown' hgrow _; obtain ⟨g', cap', rfl⟩ := ownsRow_succ hown'; clear c5; have k1 := blk_grown (blk_alloc h1 _) hgrow (fun e_ => by have := own_base h2 _ e_.symm; omega); have c5 := (blk_cell k1 5).trans rfl; have f5 := blk_frozen k1 5))
    have ne4 : some g4 ≠ v.ownBlock := fun e_ => by have := own_base h2 _ e_.symm; omega
    have neS : some bs ≠ v.ownBlock := fun e_ => by have := own_base h2 _ e_.symm; omega
    have neN : some bn ≠ v.ownBlock := fun e_ => by have := own_base h2 _ e_.symm; omega
    have ne6 : some g6 ≠ v.ownBlock := fun e_ => by have := own_base h2 _ e_.symm; omega
    have keep : ∀ b, b < s1 → b ≠ g6 → some b ≠ v.ownBlock → (w1.setCell ⟨g6, 5, none⟩ (.slice (some ⟨g', 0, none⟩) (pre.length + 1) cap')).heap[b]? = W.heap[b]? := fun b hb h6_ hv_ =>
      (Below.heap_setCell w1 ⟨g6, 5, none⟩ _ b h6_).trans ((hgrow.block b (by rw [World.size_alloc]; omega) hv_).trans ((below_alloc (Below.refl _ _) _).block b (by omega)))
    refine ⟨(((KeepsOthers.alloc W _).trans (KeepsOthers.of_grownBy hgrow fun j o ej hj => ?_)).trans (KeepsOthers.setCell _ _ _)).from _, ⟨keep bs ES NS neS, keep bn EN NN neN⟩, ⟨_, blk_put k1 5 _ rfl, ?_⟩, (keep g4 E4 Ne4_6.out ne4).trans h3, ?_, ?_, ?_⟩
    · obtain ⟨cells, hc⟩ := own_typed (h2.alloc _) j ej
      rw [hc] at hj
      cases hj
      rfl
    · rw [List.length_append, List.map_append]
      exact own_setCell hown' (own_ne hown' k1 (by decide)) _
    · exact Kd.V_mono (Kd.V_far (p := ⟨g6, 5, none⟩) (Kd.V_grown (Kd.V_alloc h4 _) hgrow (fun k hk e_ => by have := own_base h2 _ e_.symm; have := hk.2.2; omega)) (fun k hk e_ => hk.2.1 (by rw [e_]; simp)) _) (fun k hk => ⟨hk.1, by simpa using hk.2.1, hk.2.2⟩)
    · have := hgrow.size
      rw [World.size_alloc] at this
      simp [World.setCell]
      omega
    · exact below_set ((h6.alloc h6.size _).grown hgrow (by rw [World.size_alloc]; have := h6.size; omega) (fun k e_ => by have := own_base h2 _ e_; omega)) Eg6.out
  case done =>
    rintro D ys W hD rfl ⟨⟨v, h1, h2⟩, h3, h4, h5, h6⟩ hK
    have hDs : s1 ≤ D := by rw [HS1.out]; exact hD
    have HD := Lib.hid hK
    have B4 := Lib.hid h3
    have B6 := Lib.hid h1
    have HB := Lib.hid h6
    have ND : g4 ≠ D := by omega
    have HN := Lib.hid (show Kd.N E2 28 W w.heap.size (fun k => (P k ∨ w.heap.size ≤ k) ∧ k ≠ D ∧ k ≠ g4 ∧ k ≠ g6) v ((List.range ((m + 7) / 8)).map (piece l)) from by
      have hown : W.ownsRow w.heap.size 28 1 v ((List.range ((m + 7) / 8)).map (pieceV A0 m)).length ((List.range ((m + 7) / 8)).map (pieceV A0 m)) := by rw [List.length_map]; exact own_weaken h2 E0
      refine N_ofRow rfl hown (by simp) (fun k hk => ?_) (fun c_ hc_ => ?_) (fun j x c_ hx hc_ => ?_)
      · have h7 := own_base h2 k hk
        obtain ⟨cells, h8⟩ := own_typed h2 k hk
        exact ⟨.inr (by omega), fun e_ => (by rw [e_, hK] at h8; cases h8), by omega, by omega⟩
      · obtain ⟨k, _, rfl⟩ := List.mem_map.1 hc_
        rfl
      · rw [List.getElem?_map] at hx hc_
        obtain ⟨k, hk, rfl⟩ := Option.map_eq_some_iff.1 hx
        rw [hk] at hc_
        obtain rfl := Option.some.inj hc_
        have h7 := pieceV_reads (l := l) (c := c0) (A := A0) (ok := (fun k => ((P k ∧ k < w.heap.size) ∨ w.heap.size ≤ k) ∧ k ∉ [g4, g6] ∧ k < s1)) (W := W) (base := w.heap.size) (by rw [← HM.out]; exact h4) k
        rw [← HM.out] at h7
        refine Kd.FK_mono h7 (fun b hb => ⟨⟨hb.1.imp (fun h => h.1) id, by have := hb.2.2; omega, fun e_ => hb.2.1 (by simp [e_]), fun e_ => hb.2.1 (by simp [e_])⟩, fun e_ => ?_⟩)
        have := own_base h2 b e_.symm
        have := hb.2.2
        omega)
    have HO := Lib.hid h2
    have H5 := Lib.hid h5
    clear h1 h2 h3 h4 h5 h6 hK HV
    by_cases hm0 : m = 0
    · have HX := Lib.hid (show cutG l = [[]] by have : l = [] := List.length_eq_zero_iff.1 (by have := HM.out; omega); rw [this]; rfl)
      subst hm0
      clear HN HO
      have zc := (blk_cell B6.out 5).trans rfl
      have zf := blk_frozen B6.out 5
      simp only [Exit.inBlock, Exit.then]
      go_wp2_with (first
        | ((with_reducible refine gate_dst (N := 27) rfl ?_); refine Kd.N_lit E2 (w0 := w) w.heap.size 28 ?hg (N' := 27) ?hd (xs := [([] : List (List S112))]) (inner := [.slice none 0 0]) (ok := (fun k => (P k ∨ w.heap.size ≤ k) ∧ k ≠ D ∧ k ≠ g4 ∧ k ≠ g6)) (okp := fun _ => False) ?hr ?hp (fun _ h => h.elim) ?hfr HB.out HB.out.size (by simp) ?_; (case hd => rfl); (case hg => rfl); (case hr => first | (go_simp; done) | (go_simp; rfl)); (case hp => exact (Reps.none _ _).snoc (fun W' _ => ⟨none, 0, rfl, Nat.le_refl _, Kd.C_nil E1 W'⟩) rfl); (case hfr => exact ⟨.inr HB.out.size, by have := blk_lt HD.out; omega, by have := blk_lt B4.out; omega, by have := blk_lt B6.out; omega⟩); intro v1 w9 ho hb hg hat; obtain ⟨Av, cv, ev⟩ := Kd.N_slice ho; subst ev; have n4 := Lib.hid (blk_grown B4.out hg (by simp)); have n6 := Lib.hid (blk_grown B6.out hg (by simp)); have nD := Lib.hid (blk_grown HD.out hg (by simp)); have nB := Lib.hid hb; have HN := Lib.hid ho; clear B4 B6 HD HB zc zf hb hg ho hat; have B4 := n4; have B6 := n6; have HD := nD; have HB := nB; clear n4 n6 nD nB; have zc := (blk_cell B6.out 5).trans rfl; have zf := blk_frozen B6.out 5)
        | ((with_reducible refine gate_store (t := 63) (p := 28) rfl ?_); refine store_event (t := 63) (p := 28) (v := ?vo28) (w1 := w9.setCell ⟨g6, 5, none⟩ (.slice Av 1 cv)) ?hg ?ho ?hn ?hr ?_; (case ho => rfl); (case hg => rfl); (case hn => rfl); (case hr => first | (go_simp; done) | (go_simp; rfl)); intro w10 hw; clear zc zf; have n6 := Lib.hid (show w10.heap[g6]? = some (.cells #[.int .u64 a0, .int .u64 a1, .int .i64 a2, .int .i64 a3, .int .i64 a4, (.slice Av 1 cv), .int .u64 0] 65 (0, 0)) by rw [hw]; exact blk_put B6.out 5 (.slice Av 1 cv) rfl); have n4 := Lib.hid (show w10.heap[g4]? = some (.cells #[.int .u64 0, .int .u64 0, .int .i64 0, .int .i64 0, .int .i64 0, .slice none 0 0, .int .u64 0] 65 (0, 0)) by rw [hw]; exact blk_far (p := ⟨g6, 5, none⟩) B4.out Ne4_6.out (.slice Av 1 cv)); have nN := Lib.hid (show Kd.N E2 28 w10 w.heap.size (fun k => (P k ∨ w.heap.size ≤ k) ∧ k ≠ D ∧ k ≠ g4 ∧ k ≠ g6) (.slice Av 1 cv) [([] : List (List S112))] by rw [hw]; exact Kd.N_far (p := ⟨g6, 5, none⟩) HN.out (fun k hk => hk.2.2.2) (.slice Av 1 cv)); have nB := Lib.hid (show Below w.heap.size w w10 by rw [hw]; exact below_set (j := 5) (v := .slice Av 1 cv) HB.out Eg6.out); have nD := Lib.hid (show w10.heap[D]? = some (.deferred (some [])) by rw [hw]; exact (Below.heap_setCell w9 ⟨g6, 5, none⟩ _ D (by show D ≠ g6; omega)).trans HD.out); clear HN B4 B6 HB HD hw; have HN := nN; have B4 := n4; have B6 := n6; have HB := nB; have HD := nD; clear nN n4 n6 nB nD; have p6_0 := (blk_cell B6.out 0).trans rfl; have p6_1 := (blk_cell B6.out 1).trans rfl; have p6_2 := (blk_cell B6.out 2).trans rfl; have p6_3 := (blk_cell B6.out 3).trans rfl; have p6_4 := (blk_cell B6.out 4).trans rfl; have p6_5 := (blk_cell B6.out 5).trans rfl; have p6_6 := (blk_cell B6.out 6).trans rfl)
        | ((with_reducible refine gate_store (t := 65) (p := 4) rfl ?_); have zc0 := (blk_cell B4.out 0).trans rfl; have zf0 := blk_frozen B4.out 0; have zc1 := (blk_cell B4.out 1).trans rfl; have zf1 := blk_frozen B4.out 1; have zc2 := (blk_cell B4.out 2).trans rfl; have zf2 := blk_frozen B4.out 2; have zc3 := (blk_cell B4.out 3).trans rfl; have zf3 := blk_frozen B4.out 3; have zc4 := (blk_cell B4.out 4).trans rfl; have zf4 := blk_frozen B4.out 4; have zc5 := (blk_cell B4.out 5).trans rfl; have zf5 := blk_frozen B4.out 5; have zc6 := (blk_cell B4.out 6).trans rfl; have zf6 := blk_frozen B4.out 6; refine store_event (t := 65) (p := 4) (v := ?vows12) (w1 := setAll w10 g4 0 [.int .u64 a0, .int .u64 a1, .int .i64 a2, .int .i64 a3, .int .i64 a4, (.slice Av 1 cv), .int .u64 0]) ?hg ?ho ?hn ?hr ?_; (case ho => rfl); (case hg => rfl); (case hn => rfl); (case hr => first | (go_simp; done) | (go_simp; rfl)); intro ws12 hw; clear zc0 zf0 zc1 zf1 zc2 zf2 zc3 zf3 zc4 zf4 zc5 zf5 zc6 zf6; (try clear p6_0 p6_1 p6_2 p6_3 p6_4 p6_5 p6_6); have n_B4 := Lib.hid (((by rw [hw]; exact setAll_box [.int .u64 a0, .int .u64 a1, .int .i64 a2, .int .i64 a3, .int .i64 a4, (.slice Av 1 cv), .int .u64 0] B4.out rfl) : ws12.heap[g4]? = some (.cells #[.int .u64 a0, .int .u64 a1, .int .i64 a2, .int .i64 a3, .int .i64 a4, (.slice Av 1 cv), .int .u64 0] 65 (0, 0)))); have n_B6 := Lib.hid (((by rw [hw]; exact blk_kept B6.out (setAll_kept [.int .u64 a0, .int .u64 a1, .int .i64 a2, .int .i64 a3, .int .i64 a4, (.slice Av 1 cv), .int .u64 0] 0 w10) (fun e_ => Ne4_6.out e_.symm)) : ws12.heap[g6]? = some (.cells #[.int .u64 a0, .int .u64 a1, .int .i64 a2, .int .i64 a3, .int .i64 a4, (.slice Av 1 cv), .int .u64 0] 65 (0, 0)))); have n_HN := Lib.hid ((by rw [hw]; exact Kd.N_kept HN.out (setAll_kept [.int .u64 a0, .int .u64 a1, .int .i64 a2, .int .i64 a3, .int .i64 a4, (.slice Av 1 cv), .int .u64 0] 0 w10) (fun k hk => hk.2.2.1) : Kd.N E2 28 ws12 w.heap.size (fun k => (P k ∨ w.heap.size ≤ k) ∧ k ≠ D ∧ k ≠ g4 ∧ k ≠ g6) (.slice Av 1 cv) [([] : List (List S112))])); have n_HB := Lib.hid ((by rw [hw]; exact setAll_below Eg4.out [.int .u64 a0, .int .u64 a1, .int .i64 a2, .int .i64 a3, .int .i64 a4, (.slice Av 1 cv), .int .u64 0] 0 w10 HB.out : Below w.heap.size w ws12)); have n_HD := Lib.hid ((by rw [hw]; exact ((setAll_kept [.int .u64 a0, .int .u64 a1, .int .i64 a2, .int .i64 a3, .int .i64 a4, (.slice Av 1 cv), .int .u64 0] 0 w10).2 D (blk_lt HD.out) (fun e_ => ND e_.symm)).trans HD.out : ws12.heap[D]? = some (.deferred (some [])))); clear B4 B6 HN HB HD; have B4 := n_B4; have B6 := n_B6; have HN := n_HN; have HB := n_HB; have HD := n_HD; clear n_B4 n_B6 n_HN n_HB n_HD; clear hw; have p6_0 := (blk_cell B6.out 0).trans rfl; have p6_1 := (blk_cell B6.out 1).trans rfl; have p6_2 := (blk_cell B6.out 2).trans rfl; have p6_3 := (blk_cell B6.out 3).trans rfl; have p6_4 := (blk_cell B6.out 4).trans rfl; have p6_5 := (blk_cell B6.out 5).trans rfl; have p6_6 := (blk_cell B6.out 6).trans rfl; skip))
      refine ⟨by simp, .inl ⟨_, _, rfl, run_takeDeferred HD.out, ?_⟩⟩
      refine ⟨_, results_list (rs := [.cell 4 65, .tmp 5]) rfl (by simp) (.cell g4 65 #[.int .u64 a0, .int .u64 a1, .int .i64 a2, .int .i64 a3, .int .i64 a4, (.slice Av 1 cv), .int .u64 0] (0, 0) _ rfl ((World.putObj_heap_other ND).trans B4.out) Try.underlying65 rfl (by kernel_rfl) (.tmp .nil)), ?_⟩
      rw [HX.out]
      exact ⟨_, rfl, Kd.N_mono (Kd.N_step HN.out (fun k hk _ => World.putObj_heap_other hk.2.1)) (fun k hk => hk.1), HB.out.trans (belowK_b (w := w) (Nat.le_refl _) _ D _ _ (by omega) HD.out rfl rfl)⟩
    · have e0 : ((m : Int) == 0) = false := by simpa using hm0
      obtain ⟨Av, cv, ev⟩ := Kd.N_slice HN.out
      rw [List.length_map, List.length_range] at ev
      subst ev
      have HX := Lib.hid (show cutG l = (List.range ((m + 7) / 8)).map (piece l) by rw [HM.out]; exact cutG_pieces l (by have := HM.out; omega))
      obtain ⟨M, hM⟩ : ∃ M, M = (m + 7) / 8 := ⟨_, rfl⟩
      rw [← hM] at HN HO B6 HX
      clear hM
      have p6_0 := (blk_cell B6.out 0).trans rfl
      have p6_1 := (blk_cell B6.out 1).trans rfl
      have p6_2 := (blk_cell B6.out 2).trans rfl
      have p6_3 := (blk_cell B6.out 3).trans rfl
      have p6_4 := (blk_cell B6.out 4).trans rfl
      have p6_5 := (blk_cell B6.out 5).trans rfl
      have p6_6 := (blk_cell B6.out 6).trans rfl
      simp only [Exit.inBlock, Exit.then]
      go_wp2_with ((with_reducible refine gate_store (t := 65) (p := 4) rfl ?_); have zc0 := (blk_cell B4.out 0).trans rfl; have zf0 := blk_frozen B4.out 0; have zc1 := (blk_cell B4.out 1).trans rfl; have zf1 := blk_frozen B4.out 1; have zc2 := (blk_cell B4.out 2).trans rfl; have zf2 := blk_frozen B4.out 2; have zc3 := (blk_cell B4.out 3).trans rfl; have zf3 := blk_frozen B4.out 3; have zc4 := (blk_cell B4.out 4).trans rfl; have zf4 := blk_frozen B4.out 4; have zc5 := (blk_cell B4.out 5).trans rfl; have zf5 := blk_frozen B4.out 5; have zc6 := (blk_cell B4.out 6).trans rfl; have zf6 := blk_frozen B4.out 6; refine store_event (t := 65) (p := 4) (v := ?vows8) (w1 := setAll W g4 0 [.int .u64 a0, .int .u64 a1, .int .i64 a2, .int .i64 a3, .int .i64 a4, (.slice Av M cv), .int .u64 0]) ?hg ?ho ?hn ?hr ?_; (case ho => rfl); (case hg => rfl); (case hn => rfl); (case hr => first | (go_simp; done) | (go_simp; rfl)); intro ws8 hw; clear zc0 zf0 zc1 zf1 zc2 zf2 zc3 zf3 zc4 zf4 zc5 zf5 zc6 zf6; (try clear p6_0 p6_1 p6_2 p6_3 p6_4 p6_5 p6_6); have n_B4 := Lib.hid (((by rw [hw]; exact setAll_box [.int .u64 a0, .int .u64 a1, .int .i64 a2, .int .i64 a3, .int .i64 a4, (.slice Av M cv), .int .u64 0] B4.out rfl) : ws8.heap[g4]? = some (.cells #[.int .u64 a0, .int .u64 a1, .int .i64 a2, .int .i64 a3, .int .i64 a4, (.slice Av M cv), .int .u64 0] 65 (0, 0)))); have n_B6 := Lib.hid (((by rw [hw]; exact blk_kept B6.out (setAll_kept [.int .u64 a0, .int .u64 a1, .int .i64 a2, .int .i64 a3, .int .i64 a4, (.slice Av M cv), .int .u64 0] 0 W) (fun e_ => Ne4_6.out e_.symm)) : ws8.heap[g6]? = some (.cells #[.int .u64 a0, .int .u64 a1, .int .i64 a2, .int .i64 a3, .int .i64 a4, (.slice Av M cv), .int .u64 0] 65 (0, 0)))); have n_HN := Lib.hid ((by rw [hw]; exact Kd.N_kept HN.out (setAll_kept [.int .u64 a0, .int .u64 a1, .int .i64 a2, .int .i64 a3, .int .i64 a4, (.slice Av M cv), .int .u64 0] 0 W) (fun k hk => hk.2.2.1) : Kd.N E2 28 ws8 w.heap.size (fun k => (P k ∨ w.heap.size ≤ k) ∧ k ≠ D ∧ k ≠ g4 ∧ k ≠ g6) (.slice Av M cv) ((List.range M).map (piece l)))); have n_HB := Lib.hid ((by rw [hw]; exact setAll_below Eg4.out [.int .u64 a0, .int .u64 a1, .int .i64 a2, .int .i64 a3, .int .i64 a4, (.slice Av M cv), .int .u64 0] 0 W HB.out : Below w.heap.size w ws8)); have n_HD := Lib.hid ((by rw [hw]; exact ((setAll_kept [.int .u64 a0, .int .u64 a1, .int .i64 a2, .int .i64 a3, .int .i64 a4, (.slice Av M cv), .int .u64 0] 0 W).2 D (blk_lt HD.out) (fun e_ => ND e_.symm)).trans HD.out : ws8.heap[D]? = some (.deferred (some [])))); clear B4 B6 HN HB HD; have B4 := n_B4; have B6 := n_B6; have HN := n_HN; have HB := n_HB; have HD := n_HD; clear n_B4 n_B6 n_HN n_HB n_HD; clear hw; have p6_0 := (blk_cell B6.out 0).trans rfl; have p6_1 := (blk_cell B6.out 1).trans rfl; have p6_2 := (blk_cell B6.out 2).trans rfl; have p6_3 := (blk_cell B6.out 3).trans rfl; have p6_4 := (blk_cell B6.out 4).trans rfl; have p6_5 := (blk_cell B6.out 5).trans rfl; have p6_6 := (blk_cell B6.out 6).trans rfl; skip)
      refine ⟨by simp, .inl ⟨_, _, rfl, run_takeDeferred HD.out, ?_⟩⟩
      refine ⟨_, results_list (rs := [.cell 4 65, .tmp 5]) rfl (by simp) (.cell g4 65 #[.int .u64 a0, .int .u64 a1, .int .i64 a2, .int .i64 a3, .int .i64 a4, (.slice Av M cv), .int .u64 0] (0, 0) _ rfl ((World.putObj_heap_other ND).trans B4.out) Try.underlying65 rfl (by kernel_rfl) (.tmp .nil)), ?_⟩
      rw [HX.out]
      exact ⟨_, rfl, Kd.N_mono (Kd.N_step HN.out (fun k hk _ => World.putObj_heap_other hk.2.1)) (fun k hk => hk.1), HB.out.trans (belowK_b (w := w) (Nat.le_refl _) _ D _ _ (by omega) HD.out rfl rfl)⟩
  case stop =>
    rintro D cc pre W _ _ h _
    exact h.elim
set_option maxHeartbeats 8000000 in
set_option maxRecDepth 100000 in
theorem cut_many (a0 a1 a2 a3 a4 : Int) (P : Nat → Prop) (A : Option Addr) (c : Nat) (n : Nat) (w : World) (hl : 4096 < n) :
    Calls Try.prog 19 #[.agg #[.int .u64 a0, .int .u64 a1, .int .i64 a2, .int .i64 a3, .int .i64 a4], .slice A n c] w (CutPost w [.int .u64 0, .int .u64 0, .int .i64 0, .int .i64 0, .int .i64 0] [] 0 3 (fun k => P k ∨ w.heap.size ≤ k)) := by
  have HB := Lib.hid (Below.refl w.heap.size w)
  have hL : decide ((4096 : Int) < (n : Int)) = true := decide_eq_true (by omega)
  have hL' : decide (4096 < n) = true := decide_eq_true hl
  go_enter Try.func19, Try.ntmps19
  go_wp2_with (first
    | ((with_reducible refine gate_dst (N := 2) rfl ?_); refine box_event ?hg (N := 2) ?hd (cs := #[.int .u64 a0, .int .u64 a1, .int .i64 a2, .int .i64 a3, .int .i64 a4]) (t := 26) ?hr ?_; (case hd => rfl); (case hg => rfl); (case hr => first | (go_simp; done) | (go_simp; rfl)); intro g2 hg wb2 hbx hb; have Eg2 := Lib.hid (show w.heap.size ≤ g2 by rw [hg]; exact HB.out.size); have n_HB := Lib.hid (below_step HB.out hb); clear HB; have HB := n_HB; clear n_HB; have B2 := Lib.hid hbx; clear hg hbx hb; have l2 := blk_lt B2.out)
    | ((with_reducible refine gate_dst (N := 4) rfl ?_); refine box_event ?hg (N := 4) ?hd (cs := #[.int .u64 0, .int .u64 0, .int .i64 0, .int .i64 0, .int .i64 0, .slice none 0 0, .int .u64 0]) (t := 65) ?hr ?_; (case hd => rfl); (case hg => rfl); (case hr => first | (go_simp; done) | (go_simp; rfl)); intro g4 hg wb4 hbx hb; have Eg4 := Lib.hid (show w.heap.size ≤ g4 by rw [hg]; exact HB.out.size); have Ne2_4 := Lib.hid (show ¬ g2 = g4 by rw [hg]; have := blk_lt B2.out; omega); have n_B2 := Lib.hid (blk_below B2.out hb); have n_HB := Lib.hid (below_step HB.out hb); clear B2 HB; have B2 := n_B2; have HB := n_HB; clear n_B2 n_HB; have B4 := Lib.hid hbx; clear hg hbx hb; have l4 := blk_lt B4.out)
    | ((with_reducible refine gate_store (t := 65) (p := 4) rfl ?_); have zc0 := (blk_cell B4.out 0).trans rfl; have zf0 := blk_frozen B4.out 0; have zc1 := (blk_cell B4.out 1).trans rfl; have zf1 := blk_frozen B4.out 1; have zc2 := (blk_cell B4.out 2).trans rfl; have zf2 := blk_frozen B4.out 2; have zc3 := (blk_cell B4.out 3).trans rfl; have zf3 := blk_frozen B4.out 3; have zc4 := (blk_cell B4.out 4).trans rfl; have zf4 := blk_frozen B4.out 4; have zc5 := (blk_cell B4.out 5).trans rfl; have zf5 := blk_frozen B4.out 5; have zc6 := (blk_cell B4.out 6).trans rfl; have zf6 := blk_frozen B4.out 6; refine store_event (t := 65) (p := 4) (v := ?vows1) (w1 := setAll wb4 g4 0 [.int .u64 0, .int .u64 0, .int .i64 0, .int .i64 0, .int .i64 0, .slice none 0 0, .int .u64 0]) ?hg ?ho ?hn ?hr ?_; (case ho => rfl); (case hg => rfl); (case hn => rfl); (case hr => first | (go_simp; done) | (go_simp; rfl)); intro ws1 hw; clear zc0 zf0 zc1 zf1 zc2 zf2 zc3 zf3 zc4 zf4 zc5 zf5 zc6 zf6; have n_B2 := Lib.hid (((by rw [hw]; exact blk_kept B2.out (setAll_kept [.int .u64 0, .int .u64 0, .int .i64 0, .int .i64 0, .int .i64 0, .slice none 0 0, .int .u64 0] 0 wb4) (fun e_ => Ne2_4.out e_)) : ws1.heap[g2]? = some (.cells #[.int .u64 a0, .int .u64 a1, .int .i64 a2, .int .i64 a3, .int .i64 a4] 26 (0, 0)))); have n_B4 := Lib.hid (((by rw [hw]; exact setAll_box [.int .u64 0, .int .u64 0, .int .i64 0, .int .i64 0, .int .i64 0, .slice none 0 0, .int .u64 0] B4.out rfl) : ws1.heap[g4]? = some (.cells #[.int .u64 0, .int .u64 0, .int .i64 0, .int .i64 0, .int .i64 0, .slice none 0 0, .int .u64 0] 65 (0, 0)))); have n_HB := Lib.hid ((by rw [hw]; exact setAll_below Eg4.out [.int .u64 0, .int .u64 0, .int .i64 0, .int .i64 0, .int .i64 0, .slice none 0 0, .int .u64 0] 0 wb4 HB.out : Below w.heap.size w ws1)); clear B2 B4 HB; have B2 := n_B2; have B4 := n_B4; have HB := n_HB; clear n_B2 n_B4 n_HB; clear hw; skip))
  refine bodyPost_ret (results_list (rs := [.cell 4 65, .tmp 5]) rfl (by simp) (.cell g4 65 #[.int .u64 0, .int .u64 0, .int .i64 0, .int .i64 0, .int .i64 0, .slice none 0 0, .int .u64 0] (0, 0) _ rfl B4.out Try.underlying65 rfl (by kernel_rfl) (.tmp .nil))) rfl ?_
  exact ⟨_, rfl, Kd.N_nil _ _ _ _ _, HB.out⟩
end Go.Proofs.Ytkbemagcoojmmaa.Val
