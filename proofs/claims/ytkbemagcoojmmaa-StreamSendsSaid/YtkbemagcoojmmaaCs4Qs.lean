/- The reference's Cut (package potsherdref13). Condition: the rows are read, and can be copied. Printed by gcs4.py. -/
import Derived.Test.YtkbemagcoojmmaaCv0Qs
namespace Go.Proofs.Ytkbemagcoojmmaa.Val
open Go.RowKit Go.Proofs.Ytkbemagcoojmmaa.G Go.Proofs.Ytkbemagcoojmmaa.Lx Go.Proofs.YtkbemagcoojmmaaW.PrintWords Go.Proofs.YtkbemagcoojmmaaW.PrintLast Go.Proofs.YtkbemagcoojmmaaW.PrintMore
set_option linter.unusedVariables false
set_option linter.unusedSimpArgs false
abbrev E1 := Kd.slice 112 k112
abbrev E2 := Kd.slice 101 E1
theorem N_neB {α : Type} {d : Kd α} {e b g t : Nat} {W : World} {ok : Nat → Prop} {v : Value} {xs : List α} {cs : Array Value} (h : Kd.N d e W b ok v xs) (hb : W.heap[g]? = some (.cells cs t (0, 0))) (ht : e ≠ t) : some g ≠ v.ownBlock := fun he => by
  obtain ⟨cells, hc⟩ := Kd.N_typed h g he.symm
  rw [hb] at hc
  injection hc with hc
  injection hc with _ hc
  exact ht hc.symm
def lenOf : Value → Nat
  | .slice _ n _ => n
  | _ => 0
def CutPost (w : World) (st : List Value) (X : List (List (List S112))) (n r : Int) (P : Nat → Prop) (e : Ending) (w' : World) : Prop := ∃ v5, e = .returned (.tuple #[.agg (st ++ [v5, .int .u64 n]).toArray, .int .i64 r]) ∧ Kd.N E2 28 w' w.heap.size P v5 X ∧ Below w.heap.size w w'
set_option maxHeartbeats 8000000 in
set_option maxRecDepth 100000 in
theorem rcut_main (a0 a1 a2 a3 a4 : Int) (kk : Nat) (A : Option Addr) (c : Nat) (l : List (List S112)) (w : World) (hr : Kd.C E1 w A l.length l) (hc : l.length ≤ c) (hl : l.length ≤ 4096) (hcp : potsherdref01_CopyRows.f kk l = some l) :
    Calls Try.prog 23 #[.agg #[.int .u64 a0, .int .u64 a1, .int .i64 a2, .int .i64 a3, .int .i64 a4], .slice A l.length c] w (CutPost w [.int .u64 a0, .int .u64 a1, .int .i64 a2, .int .i64 a3, .int .i64 a4] (cutG l) 0 0 (fun k => w.heap.size ≤ k)) := by
  have HB := Lib.hid (Below.refl w.heap.size w)
  have HR := Lib.hid hr
  have HCP := Lib.hid hcp
  have hL : decide ((4096 : Int) < (l.length : Int)) = false := decide_eq_false (by omega)
  have hL' : decide (4096 < l.length) = false := decide_eq_false (by omega)
  clear hr hcp
  obtain ⟨res, hres⟩ : ∃ res, res = cutG l := ⟨_, rfl⟩
  rw [← hres]
  have HRES := Lib.hid hres
  clear hres
  go_enter Try.func23, Try.ntmps23
  go_wp2_with (first
    | ((with_reducible refine gate_dst (N := 2) rfl ?_); refine box_event ?hg (N := 2) ?hd (cs := #[.int .u64 a0, .int .u64 a1, .int .i64 a2, .int .i64 a3, .int .i64 a4]) (t := 26) ?hr ?_; (case hd => rfl); (case hg => rfl); (case hr => first | (go_simp; done) | (go_simp; rfl)); intro g2 hg wb2 hbx hb; have Eg2 := Lib.hid (show w.heap.size ≤ g2 by rw [hg]; exact HB.out.size); have n_HB := Lib.hid (below_step HB.out hb); clear HB; have HB := n_HB; clear n_HB; have B2 := Lib.hid hbx; clear hg hbx hb; have p2_0 := (blk_cell B2.out 0).trans rfl; have p2_1 := (blk_cell B2.out 1).trans rfl; have p2_2 := (blk_cell B2.out 2).trans rfl; have p2_3 := (blk_cell B2.out 3).trans rfl; have p2_4 := (blk_cell B2.out 4).trans rfl; have l2 := blk_lt B2.out)
    | ((with_reducible refine gate_dst (N := 4) rfl ?_); refine box_event ?hg (N := 4) ?hd (cs := #[.int .u64 0, .int .u64 0, .int .i64 0, .int .i64 0, .int .i64 0, .slice none 0 0, .int .u64 0]) (t := 65) ?hr ?_; (case hd => rfl); (case hg => rfl); (case hr => first | (go_simp; done) | (go_simp; rfl)); intro g4 hg wb4 hbx hb; have Eg4 := Lib.hid (show w.heap.size ≤ g4 by rw [hg]; exact HB.out.size); have Ne2_4 := Lib.hid (show ¬ g2 = g4 by rw [hg]; have := blk_lt B2.out; omega); (try clear p2_0 p2_1 p2_2 p2_3 p2_4); have n_B2 := Lib.hid (blk_below B2.out hb); have n_HB := Lib.hid (below_step HB.out hb); clear B2 HB; have B2 := n_B2; have HB := n_HB; clear n_B2 n_HB; have p2_0 := (blk_cell B2.out 0).trans rfl; have p2_1 := (blk_cell B2.out 1).trans rfl; have p2_2 := (blk_cell B2.out 2).trans rfl; have p2_3 := (blk_cell B2.out 3).trans rfl; have p2_4 := (blk_cell B2.out 4).trans rfl; have B4 := Lib.hid hbx; clear hg hbx hb; have l4 := blk_lt B4.out)
    | ((with_reducible refine gate_dst (N := 6) rfl ?_); refine box_event ?hg (N := 6) ?hd (cs := #[.int .u64 0, .int .u64 0, .int .i64 0, .int .i64 0, .int .i64 0, .slice none 0 0, .int .u64 0]) (t := 65) ?hr ?_; (case hd => rfl); (case hg => rfl); (case hr => first | (go_simp; done) | (go_simp; rfl)); intro g6 hg wb6 hbx hb; have Eg6 := Lib.hid (show w.heap.size ≤ g6 by rw [hg]; exact HB.out.size); have Ne2_6 := Lib.hid (show ¬ g2 = g6 by rw [hg]; have := blk_lt B2.out; omega); have Ne4_6 := Lib.hid (show ¬ g4 = g6 by rw [hg]; have := blk_lt B4.out; omega); (try clear p2_0 p2_1 p2_2 p2_3 p2_4); have n_B2 := Lib.hid (blk_below B2.out hb); have n_B4 := Lib.hid (blk_below B4.out hb); have n_HB := Lib.hid (below_step HB.out hb); clear B2 B4 HB; have B2 := n_B2; have B4 := n_B4; have HB := n_HB; clear n_B2 n_B4 n_HB; have p2_0 := (blk_cell B2.out 0).trans rfl; have p2_1 := (blk_cell B2.out 1).trans rfl; have p2_2 := (blk_cell B2.out 2).trans rfl; have p2_3 := (blk_cell B2.out 3).trans rfl; have p2_4 := (blk_cell B2.out 4).trans rfl; have B6 := Lib.hid hbx; clear hg hbx hb; have l6 := blk_lt B6.out)
    | ((with_reducible refine gate_store (t := 65) (p := 6) rfl ?_); have zc0 := (blk_cell B6.out 0).trans rfl; have zf0 := blk_frozen B6.out 0; have zc1 := (blk_cell B6.out 1).trans rfl; have zf1 := blk_frozen B6.out 1; have zc2 := (blk_cell B6.out 2).trans rfl; have zf2 := blk_frozen B6.out 2; have zc3 := (blk_cell B6.out 3).trans rfl; have zf3 := blk_frozen B6.out 3; have zc4 := (blk_cell B6.out 4).trans rfl; have zf4 := blk_frozen B6.out 4; have zc5 := (blk_cell B6.out 5).trans rfl; have zf5 := blk_frozen B6.out 5; have zc6 := (blk_cell B6.out 6).trans rfl; have zf6 := blk_frozen B6.out 6; refine store_event (t := 65) (p := 6) (v := ?vows1) (w1 := setAll wb6 g6 0 [.int .u64 a0, .int .u64 a1, .int .i64 a2, .int .i64 a3, .int .i64 a4, .slice none 0 0, .int .u64 0]) ?hg ?ho ?hn ?hr ?_; (case ho => rfl); (case hg => rfl); (case hn => rfl); (case hr => first | (go_simp; done) | (go_simp; rfl)); intro ws1 hw; clear zc0 zf0 zc1 zf1 zc2 zf2 zc3 zf3 zc4 zf4 zc5 zf5 zc6 zf6; (try clear p2_0 p2_1 p2_2 p2_3 p2_4); have n_B2 := Lib.hid (((by rw [hw]; exact blk_kept B2.out (setAll_kept [.int .u64 a0, .int .u64 a1, .int .i64 a2, .int .i64 a3, .int .i64 a4, .slice none 0 0, .int .u64 0] 0 wb6) (fun e_ => Ne2_6.out e_)) : ws1.heap[g2]? = some (.cells #[.int .u64 a0, .int .u64 a1, .int .i64 a2, .int .i64 a3, .int .i64 a4] 26 (0, 0)))); have n_B4 := Lib.hid (((by rw [hw]; exact blk_kept B4.out (setAll_kept [.int .u64 a0, .int .u64 a1, .int .i64 a2, .int .i64 a3, .int .i64 a4, .slice none 0 0, .int .u64 0] 0 wb6) (fun e_ => Ne4_6.out e_)) : ws1.heap[g4]? = some (.cells #[.int .u64 0, .int .u64 0, .int .i64 0, .int .i64 0, .int .i64 0, .slice none 0 0, .int .u64 0] 65 (0, 0)))); have n_B6 := Lib.hid (((by rw [hw]; exact setAll_box [.int .u64 a0, .int .u64 a1, .int .i64 a2, .int .i64 a3, .int .i64 a4, .slice none 0 0, .int .u64 0] B6.out rfl) : ws1.heap[g6]? = some (.cells #[.int .u64 a0, .int .u64 a1, .int .i64 a2, .int .i64 a3, .int .i64 a4, .slice none 0 0, .int .u64 0] 65 (0, 0)))); have n_HB := Lib.hid ((by rw [hw]; exact setAll_below Eg6.out [.int .u64 a0, .int .u64 a1, .int .i64 a2, .int .i64 a3, .int .i64 a4, .slice none 0 0, .int .u64 0] 0 wb6 HB.out : Below w.heap.size w ws1)); clear B2 B4 B6 HB; have B2 := n_B2; have B4 := n_B4; have B6 := n_B6; have HB := n_HB; clear n_B2 n_B4 n_B6 n_HB; clear hw; have p2_0 := (blk_cell B2.out 0).trans rfl; have p2_1 := (blk_cell B2.out 1).trans rfl; have p2_2 := (blk_cell B2.out 2).trans rfl; have p2_3 := (blk_cell B2.out 3).trans rfl; have p2_4 := (blk_cell B2.out 4).trans rfl; skip)
    | (go_at_call 30; refine (potsherdref01_CopyRows.calls kk A c l l _ (Kd.C_below HR.out HB.out) hc HCP.out).mono ?_; rintro e w6 ⟨vk, rfl, ho, hb⟩; (try clear p2_0 p2_1 p2_2 p2_3 p2_4); have l4_ := blk_lt B4.out; have l6_ := blk_lt B6.out; have HV := Lib.hid (Kd.R_V (base' := w.heap.size) (Kd.R_mono (ok' := Off w.heap.size [g4, g6]) (Kd.R_bound (Kd.S_R ho)) (fun k hk => ⟨Nat.le_trans HB.out.size hk.2.1, fun hm => by have := hk.2.1; simp at hm; omega⟩))); have n_B2 := Lib.hid (blk_below B2.out hb); have n_B4 := Lib.hid (blk_below B4.out hb); have n_B6 := Lib.hid (blk_below B6.out hb); have n_HB := Lib.hid (below_step HB.out hb); clear B2 B4 B6 HB; have B2 := n_B2; have B4 := n_B4; have B6 := n_B6; have HB := n_HB; clear n_B2 n_B4 n_B6 n_HB; clear hb ho l4_ l6_; obtain ⟨A0, c0, e0⟩ := Kd.V_slice HV.out; subst e0))
  clear B2
  obtain ⟨s0, hs0⟩ : ∃ s0, s0 = w6.heap.size := ⟨_, rfl⟩
  have HV2 := Lib.hid (show Kd.V E1 101 w6 w.heap.size (fun k => Off w.heap.size [g4, g6] k ∧ k < s0) (.slice A0 l.length c0) l from Kd.V_mono (Kd.V_bound HV.out) (fun k hk => ⟨hk.1, by rw [hs0]; exact hk.2⟩))
  clear HV
  have HV := HV2
  clear HV2
  have E4 := Lib.hid (show g4 < s0 by rw [hs0]; exact blk_lt B4.out)
  have E6 := Lib.hid (show g6 < s0 by rw [hs0]; exact blk_lt B6.out)
  have Esw := Lib.hid (show w.heap.size ≤ s0 by rw [hs0]; exact HB.out.size)
  have Esn := Lib.hid (show s0 ≤ w6.heap.size by rw [hs0]; exact Nat.le_refl _)
  clear hs0 l2 l4 l6 Eg2 Ne2_4 Ne2_6
  go_loopw [7] (fun v7 wr => ∃ (k : Nat) (A' : Option Addr) (m c' : Nat) (Av : Option Addr) (cv : Nat) (X : List (List (List S112))) (L : List (List S112)), v7 = .slice A' m c' ∧ L.length = m ∧ m + 8 * k ≤ 4096 ∧ X.length = k ∧ Hid (res = X ++ cutG L) ∧ Hid (Kd.V E1 101 wr w.heap.size (fun k => Off w.heap.size [g4, g6] k ∧ k < s0) (.slice A' m c') L) ∧ Hid (Kd.N E2 28 wr w.heap.size (Off w.heap.size [g4, g6]) (.slice Av k cv) X) ∧ Hid (∀ b, (Value.slice Av k cv).ownBlock = some b → s0 ≤ b) ∧ Hid (s0 ≤ wr.heap.size) ∧ Hid (wr.heap[g4]? = some (.cells #[.int .u64 0, .int .u64 0, .int .i64 0, .int .i64 0, .int .i64 0, .slice none 0 0, .int .u64 0] 65 (0, 0))) ∧ Hid (wr.heap[g6]? = some (.cells #[.int .u64 a0, .int .u64 a1, .int .i64 a2, .int .i64 a3, .int .i64 a4, (.slice Av k cv), .int .u64 0] 65 (0, 0))) ∧ Hid (Below w.heap.size w wr)) (fun v7 _ => lenOf v7)
  case atStart => exact ⟨0, A0, l.length, c0, none, 0, [], l, rfl, rfl, by omega, rfl, HRES, HV, Lib.hid (Kd.N_nil _ _ _ _ _), Lib.hid (fun b hb => by cases hb), Esn, B4, B6, HB⟩
  case round =>
    clear HRES HV Esn B4 B6 HB hL hL'
    obtain ⟨k, A', m, c', Av, cv, X, L, rfl, hLm, hmk, hXk, HE, HV, HN, HVB, Esn, B4, B6, HB⟩ := hrel
    have E46 := Ne4_6.out
    by_cases h8 : 8 < m
    · have e8 : decide ((8 : Int) < (m : Int)) = true := decide_eq_true (by omega)
      have e8' : decide (8 < m) = true := decide_eq_true h8
      obtain ⟨i0_, hi0_, _, hsz_, _⟩ := info_parts info101
      have hroom : m ≤ c' := (Kd.V_at HV.out).2.1
      have hct := cut_to (P := Try.prog) 28 101 .i64 Try.underlying28 hi0_ A' m c' 8 (by omega) (by omega) hroom
      have hcf := cut_from (P := Try.prog) 28 101 .i64 Try.underlying28 hi0_ 1 hsz_ A' m c' 8 (by omega) (by omega)
      simp only [show (8 : Int).toNat = 8 from rfl] at hct hcf
      have hF := (Kd.V_at HV.out).2.2
      obtain ⟨Y, hY⟩ : ∃ Y, Y = L.take 8 := ⟨_, rfl⟩
      have hY8 : Y.length = 8 := by rw [hY, List.length_take]; omega
      have HF := Lib.hid (show Kd.F E1 wr (fun k => Off w.heap.size [g4, g6] k ∧ k < s0) A' Y.length Y by rw [hY]; exact Kd.F_take hF (by omega))
      obtain ⟨M, hM⟩ : ∃ M, M = L.drop 8 := ⟨_, rfl⟩
      have hM8 : M.length = m - 8 := by rw [hM, List.length_drop, hLm]
      obtain ⟨A2, hA2⟩ : ∃ A2, A2 = (if c' = 8 then A' else A'.map (·.add (8 * 1))) := ⟨_, rfl⟩
      have HM := Lib.hid (show Kd.V E1 101 wr w.heap.size (fun k => Off w.heap.size [g4, g6] k ∧ k < s0) (.slice A2 (m - 8) (c' - 8)) M by
        rw [← hM8]
        refine Kd.V_mk (by rw [hM8]; omega) ?_
        rw [hA2, hM]
        exact Kd.F_cut hF (by omega) (by rw [hLm]; exact hroom))
      rw [← hA2] at hcf
      have HE2 := Lib.hid (show res = (X ++ [Y]) ++ cutG M by rw [HE.out, cutG_more L (by omega), hY, hM, List.append_assoc]; rfl)
      have HY8 := Lib.hid hY8
      have HM8 := Lib.hid hM8
      have hlim : (X.length + 1) * 24 ≤ 140737488355328 := by omega
      have q5 := (blk_cell B6.out 5).trans rfl
      clear hF hY hM hA2 hY8 hM8 HV HE hi0_ hsz_ hLm
      go_wp2
      refine start_ (n := 8) (S := fun w' => w'.cell? ⟨g6, 5, none⟩ = some (.slice Av k cv)) (ds := [7]) #[false, false, false, false, false, false, false, false] (by kernel_rfl) rfl rfl q5 (fun hHeld => ?_)
      generalize hw8 : World.drew _ = w8 at hHeld ⊢
      have n_HF := Lib.hid (by rw [← hw8]; exact Kd.F_drew HF.out : Kd.F E1 w8 (fun k => Off w.heap.size [g4, g6] k ∧ k < s0) A' Y.length Y)
      have n_HM := Lib.hid (by rw [← hw8]; exact Kd.V_drew HM.out : Kd.V E1 101 w8 w.heap.size (fun k => Off w.heap.size [g4, g6] k ∧ k < s0) (.slice A2 (m - 8) (c' - 8)) M)
      have n_HN := Lib.hid (by rw [← hw8]; exact Kd.N_drew HN.out : Kd.N E2 28 w8 w.heap.size (Off w.heap.size [g4, g6]) (.slice Av k cv) X)
      have n_Esn := Lib.hid (by rw [← hw8]; exact Esn.out : s0 ≤ w8.heap.size)
      have n_B4 := Lib.hid (by rw [← hw8]; exact blk_drew B4.out : w8.heap[g4]? = some (.cells #[.int .u64 0, .int .u64 0, .int .i64 0, .int .i64 0, .int .i64 0, .slice none 0 0, .int .u64 0] 65 (0, 0)))
      have n_B6 := Lib.hid (by rw [← hw8]; exact blk_drew B6.out : w8.heap[g6]? = some (.cells #[.int .u64 a0, .int .u64 a1, .int .i64 a2, .int .i64 a3, .int .i64 a4, (.slice Av k cv), .int .u64 0] 65 (0, 0)))
      have n_HB := Lib.hid (by rw [← hw8]; exact below_drew1 HB.out : Below w.heap.size w w8)
      clear HF HM HN Esn B4 B6 HB hw8 q5
      have HF := n_HF
      have HM := n_HM
      have HN := n_HN
      have Esn := n_Esn
      have B4 := n_B4
      have B6 := n_B6
      have HB := n_HB
      clear n_HF n_HM n_HN n_Esn n_B4 n_B6 n_HB
      refine pure_ (i := 0) (N := some 19) (v := ?_) (a' := ?_) #[true, false, false, false, false, false, false, false] rfl rfl (by kernel_rfl) (fun _ _ _ h => h) (Or.inl ⟨by rfl, ?_⟩) ?_ ?_
      rotate_left
      · intro w'
        go_simp
        with_reducible rfl
      rotate_left
      · simp only [Act.put, List.setIfInBounds_toArray, List.set_cons_zero, List.set_cons_succ, i64_w, i32_w]
        rfl
      refine pure_ (i := 2) (N := some 21) (v := ?_) (a' := ?_) #[true, false, true, false, false, false, false, false] rfl rfl (by kernel_rfl) (fun _ _ _ h => h) (Or.inl ⟨by rfl, ?_⟩) ?_ ?_
      rotate_left
      · intro w'
        go_simp
        with_reducible rfl
      rotate_left
      · simp only [Act.put, List.setIfInBounds_toArray, List.set_cons_zero, List.set_cons_succ, i64_w, i32_w]
        rfl
      refine pure_ (i := 3) (N := some 22) (v := ?_) (a' := ?_) #[true, false, true, true, false, false, false, false] rfl rfl (by kernel_rfl) (fun _ _ _ h => h) (Or.inl ⟨by rfl, ?_⟩) ?_ ?_
      rotate_left
      · intro w'
        go_simp
        with_reducible rfl
      rotate_left
      · simp only [Act.put, List.setIfInBounds_toArray, List.set_cons_zero, List.set_cons_succ, i64_w, i32_w]
        rfl
      refine take_ (i := 1) (N := some 20) (v := ?_) (a' := ?_) #[true, true, true, true, false, false, false, false] rfl rfl (by kernel_rfl) (fun _ _ _ h => h) (Or.inl ⟨by rfl, ?_⟩) hHeld ?_ ?_
      rotate_left
      · rintro w' s0_
        go_simp
        with_reducible rfl
      rotate_left
      · simp only [Act.put, List.setIfInBounds_toArray, List.set_cons_zero, List.set_cons_succ, i64_w, i32_w]
        rfl
      refine one_ (i := 4) (N := some 23) #[true, true, true, true, true, false, false, false] rfl rfl (by kernel_rfl) (by decide) (fun K hK => ?_)
      refine event_step (v := .slice (some ⟨w8.heap.size, 0, none⟩) 1 1) (w1 := w8.alloc (.cells #[.slice A' 8 c'] 28)) (by rfl) ?hr ?_
      case hr => first | (go_simp; done) | (go_simp; rfl)
      have y0 : (w8.alloc (.cells #[.slice A' 8 c'] 28)).cell? ⟨g6, 5, none⟩ = some (.slice Av k cv) := ((below_alloc (Below.refl _ _) _).cell (World.block_lt_of_cell? _ _ hHeld)).trans hHeld
      clear hHeld
      refine hK.out _ _ y0 (fun hHeld => ?_)
      clear hK K y0
      refine norm_ (a' := ?_) ?_ ?_
      rotate_left
      · show Act.put _ (some 23) _ = _
        simp only [Act.put, List.setIfInBounds_toArray, List.set_cons_zero, List.set_cons_succ, i64_w, i32_w]
        rfl
      refine one_ (i := 5) (N := some 24) #[true, true, true, true, true, true, false, false] rfl rfl (by kernel_rfl) (by decide) (fun K hK => ?_)
      refine Kd.N_append_step E2 (w0 := w) w.heap.size (by rfl) (.tmp 20) (.tmp 23) 63 28 (.slice none 0 0) 24 rfl Try.underlying63 info28 rfl (by decide) (by omega) (.slice Av k cv) X Y [.slice A' 8 c'] (Off w.heap.size [g4, g6]) (fun k => Off w.heap.size [g4, g6] k ∧ k < s0) rfl rfl ?hp ?hokp ?hfr HN.out HB.out HB.out.size hlim ?_
      case hp => rw [show (8 : Nat) = Y.length from HY8.out.symm]; exact Kd.FK_slice_mk (by rw [HY8.out]; omega) HF.out
      case hokp => exact fun k hk => ⟨hk.1, fun e_ => by have := HVB.out k e_.symm; have := hk.2; omega⟩
      case hfr => exact off_fresh HB.out.size (by intro g hg; have := Esn.out; have := E4.out; have := E6.out; simp at hg; omega)
      intro v1 w12 ho hb hg hat
      have hN1 : X.length + 1 = k + 1 := by rw [hXk]
      obtain ⟨Av1, cv1, ev1⟩ := Kd.N_slice ho
      rw [show (X ++ [Y]).length = k + 1 by rw [List.length_append, hXk]; rfl] at ev1
      subst ev1
      have nVB := Lib.hid (show ∀ b, (Value.slice Av1 (k + 1) cv1).ownBlock = some b → s0 ≤ b from fun b hb_ => by
        rcases hat with hat | ⟨b2, h2, h3⟩
        · exact HVB.out b (hat ▸ hb_)
        · have e_ : b2 = b := Option.some.inj (h2.symm.trans hb_)
          have := Esn.out
          omega)
      have nM := Lib.hid (Kd.V_grown HM.out hg (fun k hk e_ => by have := HVB.out k e_.symm; have := hk.2; omega))
      have n4 := Lib.hid (blk_grown B4.out hg (N_neB HN.out B4.out (by decide)))
      have n6 := Lib.hid (blk_grown B6.out hg (N_neB HN.out B6.out (by decide)))
      have nE := Lib.hid (Nat.le_trans Esn.out hg.size)
      have nB := Lib.hid hb
      have nN := Lib.hid ho
      have y0 : w12.cell? ⟨g6, 5, none⟩ = some (.slice Av k cv) := (blk_cell n6.out 5).trans rfl
      clear HM HN HVB Esn B4 B6 HB hHeld hb hg ho hat HF hN1
      have HM := nM
      have HN := nN
      have HVB := nVB
      have Esn := nE
      have B4 := n4
      have B6 := n6
      have HB := nB
      clear nM nN nVB nE n4 n6 nB
      refine hK.out _ _ y0 (fun hHeld => ?_)
      clear hK K y0
      refine norm_ (a' := ?_) ?_ ?_
      rotate_left
      · show Act.put _ (some 24) _ = _
        simp only [Act.put, List.setIfInBounds_toArray, List.set_cons_zero, List.set_cons_succ, i64_w, i32_w]
        rfl
      refine pure_ (i := 6) (N := some 25) (v := ?_) (a' := ?_) #[true, true, true, true, true, true, true, false] rfl rfl (by kernel_rfl) (fun _ _ _ h => h) (Or.inl ⟨by rfl, ?_⟩) ?_ ?_
      rotate_left
      · intro w'
        go_simp
        with_reducible rfl
      rotate_left
      · simp only [Act.put, List.setIfInBounds_toArray, List.set_cons_zero, List.set_cons_succ, i64_w, i32_w]
        rfl
      have f0 := blk_frozen B6.out 5
      refine last_ (i := 7) (N := none) #[true, true, true, true, true, true, true, true] rfl rfl (by kernel_rfl) (by decide) (fun K hK => ?_)
      refine skip_ (w1 := w12.setCell ⟨g6, 5, none⟩ (.slice Av1 (k + 1) cv1)) (by rfl) rfl ?_ ?_
      · first | (go_simp; done) | (go_simp; rfl)
      refine hK.out _ _ ?_
      clear hK K f0
      have n6 := Lib.hid (blk_put B6.out 5 (.slice Av1 (k + 1) cv1) (cs' := #[.int .u64 a0, .int .u64 a1, .int .i64 a2, .int .i64 a3, .int .i64 a4, (.slice Av1 (k + 1) cv1), .int .u64 0]) rfl)
      have n4 := Lib.hid (blk_far (p := ⟨g6, 5, none⟩) B4.out Ne4_6.out (.slice Av1 (k + 1) cv1))
      have nN := Lib.hid (Kd.N_far (p := ⟨g6, 5, none⟩) HN.out (fun k hk => hk.ne (by simp)) (.slice Av1 (k + 1) cv1))
      have nM := Lib.hid (Kd.V_far (p := ⟨g6, 5, none⟩) HM.out (fun k hk => hk.1.ne (by simp)) (.slice Av1 (k + 1) cv1))
      have nE := Lib.hid (show s0 ≤ (w12.setCell ⟨g6, 5, none⟩ (.slice Av1 (k + 1) cv1)).heap.size by simpa [World.setCell] using Esn.out)
      have nB := Lib.hid (below_set (j := 5) (v := .slice Av1 (k + 1) cv1) HB.out Eg6.out)
      clear HM HN Esn B4 B6 HB hHeld
      have HM := nM
      have HN := nN
      have Esn := nE
      have B4 := n4
      have B6 := n6
      have HB := nB
      clear nM nN nE n4 n6 nB
      refine done_ (by kernel_rfl) ?_
      have q5 := (blk_cell B6.out 5).trans rfl
      go_wp2
      go_roundw
      case rel => exact ⟨k + 1, A2, m - 8, c' - 8, Av1, cv1, X ++ [Y], M, rfl, HM8.out, by omega, by rw [List.length_append, hXk]; rfl, HE2, HM, HN, HVB, Esn, B4, B6, HB⟩
      case measure => simp [lenOf]; omega
    · have e8 : decide ((8 : Int) < (m : Int)) = false := decide_eq_false (by omega)
      have e8' : decide (8 < m) = false := decide_eq_false h8
      have hF := (Kd.V_at HV.out).2.2
      have hroom : m ≤ c' := (Kd.V_at HV.out).2.1
      have HF := Lib.hid (show Kd.F E1 wr (fun k => Off w.heap.size [g4, g6] k ∧ k < s0) A' L.length L from hF)
      have HE2 := Lib.hid (show res = X ++ [L] by rw [HE.out, cutG_less L (by omega)])
      have HL := Lib.hid hLm
      have hlim : (X.length + 1) * 24 ≤ 140737488355328 := by omega
      have p6_5 := (blk_cell B6.out 5).trans rfl
      clear hF HV HE hLm
      go_wp2_with (first
        | ((with_reducible refine gate_builtin (b := .append) (xs := #[.tmp 29, .tmp 31]) rfl ?_); at_builtin; refine Kd.N_append E2 (w0 := w) w.heap.size rfl (.tmp 29) (.tmp 31) 63 28 (.slice none 0 0) 24 rfl Try.underlying63 info28 rfl (by decide) (by omega) (.slice Av k cv) X L [.slice A' m c'] (Off w.heap.size [g4, g6]) (fun k => Off w.heap.size [g4, g6] k ∧ k < s0) rfl rfl ?hp ?hokp ?hfr HN.out HB.out HB.out.size hlim ?_; (case hp => rw [← HL.out]; exact Kd.FK_slice_mk (by rw [HL.out]; omega) HF.out); (case hokp => exact fun k hk => ⟨hk.1, fun e_ => by have := HVB.out k e_.symm; have := hk.2; omega⟩); (case hfr => exact off_fresh HB.out.size (by intro g hg; have := Esn.out; have := E4.out; have := E6.out; simp at hg; omega)); intro v1 w12 ho hb hg hat; obtain ⟨Av1, cv1, ev1⟩ := Kd.N_slice ho; rw [show (X ++ [L]).length = k + 1 by rw [List.length_append, hXk]; rfl] at ev1; subst ev1; have n4 := Lib.hid (blk_grown B4.out hg (N_neB HN.out B4.out (by decide))); have n6 := Lib.hid (blk_grown B6.out hg (N_neB HN.out B6.out (by decide))); have nB := Lib.hid hb; have nN := Lib.hid ho; clear HN HVB Esn B4 B6 HB hb hg ho hat HF p6_5; have HN := nN; have B4 := n4; have B6 := n6; have HB := nB; clear nN n4 n6 nB; have zc := (blk_cell B6.out 5).trans rfl; have zf := blk_frozen B6.out 5)
        | ((with_reducible refine gate_store (t := 63) (p := 33) rfl ?_); refine store_event (t := 63) (p := 33) (v := ?vo33) (w1 := w12.setCell ⟨g6, 5, none⟩ (.slice Av1 (k + 1) cv1)) ?hg ?ho ?hn ?hr ?_; (case ho => rfl); (case hg => rfl); (case hn => rfl); (case hr => first | (go_simp; done) | (go_simp; rfl)); intro w13 hw; clear zc zf; have n6 := Lib.hid (show w13.heap[g6]? = some (.cells #[.int .u64 a0, .int .u64 a1, .int .i64 a2, .int .i64 a3, .int .i64 a4, (.slice Av1 (k + 1) cv1), .int .u64 0] 65 (0, 0)) by rw [hw]; exact blk_put B6.out 5 (.slice Av1 (k + 1) cv1) rfl); have n4 := Lib.hid (show w13.heap[g4]? = some (.cells #[.int .u64 0, .int .u64 0, .int .i64 0, .int .i64 0, .int .i64 0, .slice none 0 0, .int .u64 0] 65 (0, 0)) by rw [hw]; exact blk_far (p := ⟨g6, 5, none⟩) B4.out Ne4_6.out (.slice Av1 (k + 1) cv1)); have nN := Lib.hid (show Kd.N E2 28 w13 w.heap.size (Off w.heap.size [g4, g6]) (.slice Av1 (k + 1) cv1) (X ++ [L]) by rw [hw]; exact Kd.N_far (p := ⟨g6, 5, none⟩) HN.out (fun k hk => hk.ne (by simp)) (.slice Av1 (k + 1) cv1)); have nB := Lib.hid (show Below w.heap.size w w13 by rw [hw]; exact below_set (j := 5) (v := .slice Av1 (k + 1) cv1) HB.out Eg6.out); clear HN B4 B6 HB hw; have HN := nN; have B4 := n4; have B6 := n6; have HB := nB; clear nN n4 n6 nB; have p6_0 := (blk_cell B6.out 0).trans rfl; have p6_1 := (blk_cell B6.out 1).trans rfl; have p6_2 := (blk_cell B6.out 2).trans rfl; have p6_3 := (blk_cell B6.out 3).trans rfl; have p6_4 := (blk_cell B6.out 4).trans rfl; have p6_5 := (blk_cell B6.out 5).trans rfl; have p6_6 := (blk_cell B6.out 6).trans rfl)
        | ((with_reducible refine gate_store (t := 65) (p := 4) rfl ?_); have zc0 := (blk_cell B4.out 0).trans rfl; have zf0 := blk_frozen B4.out 0; have zc1 := (blk_cell B4.out 1).trans rfl; have zf1 := blk_frozen B4.out 1; have zc2 := (blk_cell B4.out 2).trans rfl; have zf2 := blk_frozen B4.out 2; have zc3 := (blk_cell B4.out 3).trans rfl; have zf3 := blk_frozen B4.out 3; have zc4 := (blk_cell B4.out 4).trans rfl; have zf4 := blk_frozen B4.out 4; have zc5 := (blk_cell B4.out 5).trans rfl; have zf5 := blk_frozen B4.out 5; have zc6 := (blk_cell B4.out 6).trans rfl; have zf6 := blk_frozen B4.out 6; refine store_event (t := 65) (p := 4) (v := ?vows6) (w1 := setAll w13 g4 0 [.int .u64 a0, .int .u64 a1, .int .i64 a2, .int .i64 a3, .int .i64 a4, (.slice Av1 (k + 1) cv1), .int .u64 0]) ?hg ?ho ?hn ?hr ?_; (case ho => rfl); (case hg => rfl); (case hn => rfl); (case hr => first | (go_simp; done) | (go_simp; rfl)); intro ws6 hw; clear zc0 zf0 zc1 zf1 zc2 zf2 zc3 zf3 zc4 zf4 zc5 zf5 zc6 zf6; (try clear p4_0 p4_1 p4_2 p4_3 p4_4 p4_5 p4_6 p6_0 p6_1 p6_2 p6_3 p6_4 p6_5 p6_6); have n_B4 := Lib.hid (((by rw [hw]; exact setAll_box [.int .u64 a0, .int .u64 a1, .int .i64 a2, .int .i64 a3, .int .i64 a4, (.slice Av1 (k + 1) cv1), .int .u64 0] B4.out rfl) : ws6.heap[g4]? = some (.cells #[.int .u64 a0, .int .u64 a1, .int .i64 a2, .int .i64 a3, .int .i64 a4, (.slice Av1 (k + 1) cv1), .int .u64 0] 65 (0, 0)))); have n_B6 := Lib.hid (((by rw [hw]; exact blk_kept B6.out (setAll_kept [.int .u64 a0, .int .u64 a1, .int .i64 a2, .int .i64 a3, .int .i64 a4, (.slice Av1 (k + 1) cv1), .int .u64 0] 0 w13) (fun e_ => Ne4_6.out e_.symm)) : ws6.heap[g6]? = some (.cells #[.int .u64 a0, .int .u64 a1, .int .i64 a2, .int .i64 a3, .int .i64 a4, (.slice Av1 (k + 1) cv1), .int .u64 0] 65 (0, 0)))); have n_HN := Lib.hid ((by rw [hw]; exact Kd.N_kept HN.out (setAll_kept [.int .u64 a0, .int .u64 a1, .int .i64 a2, .int .i64 a3, .int .i64 a4, (.slice Av1 (k + 1) cv1), .int .u64 0] 0 w13) (fun k hk => hk.ne (by simp)) : Kd.N E2 28 ws6 w.heap.size (Off w.heap.size [g4, g6]) (.slice Av1 (k + 1) cv1) (X ++ [L]))); have n_HB := Lib.hid ((by rw [hw]; exact setAll_below Eg4.out [.int .u64 a0, .int .u64 a1, .int .i64 a2, .int .i64 a3, .int .i64 a4, (.slice Av1 (k + 1) cv1), .int .u64 0] 0 w13 HB.out : Below w.heap.size w ws6)); clear B4 B6 HN HB; have B4 := n_B4; have B6 := n_B6; have HN := n_HN; have HB := n_HB; clear n_B4 n_B6 n_HN n_HB; clear hw; have p4_0 := (blk_cell B4.out 0).trans rfl; have p4_1 := (blk_cell B4.out 1).trans rfl; have p4_2 := (blk_cell B4.out 2).trans rfl; have p4_3 := (blk_cell B4.out 3).trans rfl; have p4_4 := (blk_cell B4.out 4).trans rfl; have p4_5 := (blk_cell B4.out 5).trans rfl; have p4_6 := (blk_cell B4.out 6).trans rfl; have p6_0 := (blk_cell B6.out 0).trans rfl; have p6_1 := (blk_cell B6.out 1).trans rfl; have p6_2 := (blk_cell B6.out 2).trans rfl; have p6_3 := (blk_cell B6.out 3).trans rfl; have p6_4 := (blk_cell B6.out 4).trans rfl; have p6_5 := (blk_cell B6.out 5).trans rfl; have p6_6 := (blk_cell B6.out 6).trans rfl; skip))
      refine bodyPost_ret (results_list (rs := [.cell 4 65, .tmp 5]) rfl (by simp) (.cell g4 65 #[.int .u64 a0, .int .u64 a1, .int .i64 a2, .int .i64 a3, .int .i64 a4, (.slice Av1 (k + 1) cv1), .int .u64 0] (0, 0) _ rfl B4.out Try.underlying65 rfl (by kernel_rfl) (.tmp .nil))) rfl ?_
      rw [HE2.out]
      exact ⟨_, rfl, Kd.N_mono HN.out (fun k hk => hk.1), HB.out⟩
set_option maxHeartbeats 8000000 in
set_option maxRecDepth 100000 in
theorem rcut_many (a0 a1 a2 a3 a4 : Int) (A : Option Addr) (c : Nat) (n : Nat) (w : World) (hl : 4096 < n) :
    Calls Try.prog 23 #[.agg #[.int .u64 a0, .int .u64 a1, .int .i64 a2, .int .i64 a3, .int .i64 a4], .slice A n c] w (CutPost w [.int .u64 0, .int .u64 0, .int .i64 0, .int .i64 0, .int .i64 0] [] 0 3 (fun k => w.heap.size ≤ k)) := by
  have HB := Lib.hid (Below.refl w.heap.size w)
  have hL : decide ((4096 : Int) < (n : Int)) = true := decide_eq_true (by omega)
  have hL' : decide (4096 < n) = true := decide_eq_true hl
  go_enter Try.func23, Try.ntmps23
  go_wp2_with (first
    | ((with_reducible refine gate_dst (N := 2) rfl ?_); refine box_event ?hg (N := 2) ?hd (cs := #[.int .u64 a0, .int .u64 a1, .int .i64 a2, .int .i64 a3, .int .i64 a4]) (t := 26) ?hr ?_; (case hd => rfl); (case hg => rfl); (case hr => first | (go_simp; done) | (go_simp; rfl)); intro g2 hg wb2 hbx hb; have Eg2 := Lib.hid (show w.heap.size ≤ g2 by rw [hg]; exact HB.out.size); have n_HB := Lib.hid (below_step HB.out hb); clear HB; have HB := n_HB; clear n_HB; have B2 := Lib.hid hbx; clear hg hbx hb; have p2_0 := (blk_cell B2.out 0).trans rfl; have p2_1 := (blk_cell B2.out 1).trans rfl; have p2_2 := (blk_cell B2.out 2).trans rfl; have p2_3 := (blk_cell B2.out 3).trans rfl; have p2_4 := (blk_cell B2.out 4).trans rfl; have l2 := blk_lt B2.out)
    | ((with_reducible refine gate_dst (N := 4) rfl ?_); refine box_event ?hg (N := 4) ?hd (cs := #[.int .u64 0, .int .u64 0, .int .i64 0, .int .i64 0, .int .i64 0, .slice none 0 0, .int .u64 0]) (t := 65) ?hr ?_; (case hd => rfl); (case hg => rfl); (case hr => first | (go_simp; done) | (go_simp; rfl)); intro g4 hg wb4 hbx hb; have Eg4 := Lib.hid (show w.heap.size ≤ g4 by rw [hg]; exact HB.out.size); have Ne2_4 := Lib.hid (show ¬ g2 = g4 by rw [hg]; have := blk_lt B2.out; omega); (try clear p2_0 p2_1 p2_2 p2_3 p2_4); have n_B2 := Lib.hid (blk_below B2.out hb); have n_HB := Lib.hid (below_step HB.out hb); clear B2 HB; have B2 := n_B2; have HB := n_HB; clear n_B2 n_HB; have p2_0 := (blk_cell B2.out 0).trans rfl; have p2_1 := (blk_cell B2.out 1).trans rfl; have p2_2 := (blk_cell B2.out 2).trans rfl; have p2_3 := (blk_cell B2.out 3).trans rfl; have p2_4 := (blk_cell B2.out 4).trans rfl; have B4 := Lib.hid hbx; clear hg hbx hb; have l4 := blk_lt B4.out)
    | ((with_reducible refine gate_dst (N := 6) rfl ?_); refine box_event ?hg (N := 6) ?hd (cs := #[.int .u64 0, .int .u64 0, .int .i64 0, .int .i64 0, .int .i64 0, .slice none 0 0, .int .u64 0]) (t := 65) ?hr ?_; (case hd => rfl); (case hg => rfl); (case hr => first | (go_simp; done) | (go_simp; rfl)); intro g6 hg wb6 hbx hb; have Eg6 := Lib.hid (show w.heap.size ≤ g6 by rw [hg]; exact HB.out.size); have Ne2_6 := Lib.hid (show ¬ g2 = g6 by rw [hg]; have := blk_lt B2.out; omega); have Ne4_6 := Lib.hid (show ¬ g4 = g6 by rw [hg]; have := blk_lt B4.out; omega); (try clear p2_0 p2_1 p2_2 p2_3 p2_4); have n_B2 := Lib.hid (blk_below B2.out hb); have n_B4 := Lib.hid (blk_below B4.out hb); have n_HB := Lib.hid (below_step HB.out hb); clear B2 B4 HB; have B2 := n_B2; have B4 := n_B4; have HB := n_HB; clear n_B2 n_B4 n_HB; have p2_0 := (blk_cell B2.out 0).trans rfl; have p2_1 := (blk_cell B2.out 1).trans rfl; have p2_2 := (blk_cell B2.out 2).trans rfl; have p2_3 := (blk_cell B2.out 3).trans rfl; have p2_4 := (blk_cell B2.out 4).trans rfl; have B6 := Lib.hid hbx; clear hg hbx hb; have l6 := blk_lt B6.out)
    | ((with_reducible refine gate_store (t := 65) (p := 6) rfl ?_); have zc0 := (blk_cell B6.out 0).trans rfl; have zf0 := blk_frozen B6.out 0; have zc1 := (blk_cell B6.out 1).trans rfl; have zf1 := blk_frozen B6.out 1; have zc2 := (blk_cell B6.out 2).trans rfl; have zf2 := blk_frozen B6.out 2; have zc3 := (blk_cell B6.out 3).trans rfl; have zf3 := blk_frozen B6.out 3; have zc4 := (blk_cell B6.out 4).trans rfl; have zf4 := blk_frozen B6.out 4; have zc5 := (blk_cell B6.out 5).trans rfl; have zf5 := blk_frozen B6.out 5; have zc6 := (blk_cell B6.out 6).trans rfl; have zf6 := blk_frozen B6.out 6; refine store_event (t := 65) (p := 6) (v := ?vows1) (w1 := setAll wb6 g6 0 [.int .u64 a0, .int .u64 a1, .int .i64 a2, .int .i64 a3, .int .i64 a4, .slice none 0 0, .int .u64 0]) ?hg ?ho ?hn ?hr ?_; (case ho => rfl); (case hg => rfl); (case hn => rfl); (case hr => first | (go_simp; done) | (go_simp; rfl)); intro ws1 hw; clear zc0 zf0 zc1 zf1 zc2 zf2 zc3 zf3 zc4 zf4 zc5 zf5 zc6 zf6; (try clear p2_0 p2_1 p2_2 p2_3 p2_4); have n_B2 := Lib.hid (((by rw [hw]; exact blk_kept B2.out (setAll_kept [.int .u64 a0, .int .u64 a1, .int .i64 a2, .int .i64 a3, .int .i64 a4, .slice none 0 0, .int .u64 0] 0 wb6) (fun e_ => Ne2_6.out e_)) : ws1.heap[g2]? = some (.cells #[.int .u64 a0, .int .u64 a1, .int .i64 a2, .int .i64 a3, .int .i64 a4] 26 (0, 0)))); have n_B4 := Lib.hid (((by rw [hw]; exact blk_kept B4.out (setAll_kept [.int .u64 a0, .int .u64 a1, .int .i64 a2, .int .i64 a3, .int .i64 a4, .slice none 0 0, .int .u64 0] 0 wb6) (fun e_ => Ne4_6.out e_)) : ws1.heap[g4]? = some (.cells #[.int .u64 0, .int .u64 0, .int .i64 0, .int .i64 0, .int .i64 0, .slice none 0 0, .int .u64 0] 65 (0, 0)))); have n_B6 := Lib.hid (((by rw [hw]; exact setAll_box [.int .u64 a0, .int .u64 a1, .int .i64 a2, .int .i64 a3, .int .i64 a4, .slice none 0 0, .int .u64 0] B6.out rfl) : ws1.heap[g6]? = some (.cells #[.int .u64 a0, .int .u64 a1, .int .i64 a2, .int .i64 a3, .int .i64 a4, .slice none 0 0, .int .u64 0] 65 (0, 0)))); have n_HB := Lib.hid ((by rw [hw]; exact setAll_below Eg6.out [.int .u64 a0, .int .u64 a1, .int .i64 a2, .int .i64 a3, .int .i64 a4, .slice none 0 0, .int .u64 0] 0 wb6 HB.out : Below w.heap.size w ws1)); clear B2 B4 B6 HB; have B2 := n_B2; have B4 := n_B4; have B6 := n_B6; have HB := n_HB; clear n_B2 n_B4 n_B6 n_HB; clear hw; have p2_0 := (blk_cell B2.out 0).trans rfl; have p2_1 := (blk_cell B2.out 1).trans rfl; have p2_2 := (blk_cell B2.out 2).trans rfl; have p2_3 := (blk_cell B2.out 3).trans rfl; have p2_4 := (blk_cell B2.out 4).trans rfl; skip)
    | ((with_reducible refine gate_store (t := 65) (p := 4) rfl ?_); have zc0 := (blk_cell B4.out 0).trans rfl; have zf0 := blk_frozen B4.out 0; have zc1 := (blk_cell B4.out 1).trans rfl; have zf1 := blk_frozen B4.out 1; have zc2 := (blk_cell B4.out 2).trans rfl; have zf2 := blk_frozen B4.out 2; have zc3 := (blk_cell B4.out 3).trans rfl; have zf3 := blk_frozen B4.out 3; have zc4 := (blk_cell B4.out 4).trans rfl; have zf4 := blk_frozen B4.out 4; have zc5 := (blk_cell B4.out 5).trans rfl; have zf5 := blk_frozen B4.out 5; have zc6 := (blk_cell B4.out 6).trans rfl; have zf6 := blk_frozen B4.out 6; refine store_event (t := 65) (p := 4) (v := ?vows2) (w1 := setAll ws1 g4 0 [.int .u64 0, .int .u64 0, .int .i64 0, .int .i64 0, .int .i64 0, .slice none 0 0, .int .u64 0]) ?hg ?ho ?hn ?hr ?_; (case ho => rfl); (case hg => rfl); (case hn => rfl); (case hr => first | (go_simp; done) | (go_simp; rfl)); intro ws2 hw; clear zc0 zf0 zc1 zf1 zc2 zf2 zc3 zf3 zc4 zf4 zc5 zf5 zc6 zf6; (try clear p2_0 p2_1 p2_2 p2_3 p2_4); have n_B2 := Lib.hid (((by rw [hw]; exact blk_kept B2.out (setAll_kept [.int .u64 0, .int .u64 0, .int .i64 0, .int .i64 0, .int .i64 0, .slice none 0 0, .int .u64 0] 0 ws1) (fun e_ => Ne2_4.out e_)) : ws2.heap[g2]? = some (.cells #[.int .u64 a0, .int .u64 a1, .int .i64 a2, .int .i64 a3, .int .i64 a4] 26 (0, 0)))); have n_B4 := Lib.hid (((by rw [hw]; exact setAll_box [.int .u64 0, .int .u64 0, .int .i64 0, .int .i64 0, .int .i64 0, .slice none 0 0, .int .u64 0] B4.out rfl) : ws2.heap[g4]? = some (.cells #[.int .u64 0, .int .u64 0, .int .i64 0, .int .i64 0, .int .i64 0, .slice none 0 0, .int .u64 0] 65 (0, 0)))); have n_B6 := Lib.hid (((by rw [hw]; exact blk_kept B6.out (setAll_kept [.int .u64 0, .int .u64 0, .int .i64 0, .int .i64 0, .int .i64 0, .slice none 0 0, .int .u64 0] 0 ws1) (fun e_ => Ne4_6.out e_.symm)) : ws2.heap[g6]? = some (.cells #[.int .u64 a0, .int .u64 a1, .int .i64 a2, .int .i64 a3, .int .i64 a4, .slice none 0 0, .int .u64 0] 65 (0, 0)))); have n_HB := Lib.hid ((by rw [hw]; exact setAll_below Eg4.out [.int .u64 0, .int .u64 0, .int .i64 0, .int .i64 0, .int .i64 0, .slice none 0 0, .int .u64 0] 0 ws1 HB.out : Below w.heap.size w ws2)); clear B2 B4 B6 HB; have B2 := n_B2; have B4 := n_B4; have B6 := n_B6; have HB := n_HB; clear n_B2 n_B4 n_B6 n_HB; clear hw; have p2_0 := (blk_cell B2.out 0).trans rfl; have p2_1 := (blk_cell B2.out 1).trans rfl; have p2_2 := (blk_cell B2.out 2).trans rfl; have p2_3 := (blk_cell B2.out 3).trans rfl; have p2_4 := (blk_cell B2.out 4).trans rfl; skip))
  refine bodyPost_ret (results_list (rs := [.cell 4 65, .tmp 5]) rfl (by simp) (.cell g4 65 #[.int .u64 0, .int .u64 0, .int .i64 0, .int .i64 0, .int .i64 0, .slice none 0 0, .int .u64 0] (0, 0) _ rfl B4.out Try.underlying65 rfl (by kernel_rfl) (.tmp .nil))) rfl ?_
  exact ⟨_, rfl, Kd.N_nil _ _ _ _ _, HB.out⟩
end Go.Proofs.Ytkbemagcoojmmaa.Val
