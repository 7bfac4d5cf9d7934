/- Package stream: CheckOut. Condition: the batches are read. Printed by gcs2.py. -/
import Derived.Test.YtkbemagcoojmmaaCs1Q1
namespace Go.Proofs.Ytkbemagcoojmmaa.Val
open Go.RowKit Go.Proofs.Ytkbemagcoojmmaa.G Go.Proofs.Ytkbemagcoojmmaa.Lx Go.Proofs.YtkbemagcoojmmaaW.PrintWords Go.Proofs.YtkbemagcoojmmaaW.PrintLast Go.Proofs.YtkbemagcoojmmaaW.PrintMore
set_option linter.unusedVariables false
set_option linter.unusedSimpArgs false
theorem wrapu_nat (n : Nat) (h : n ≤ 4611686018427387904) : IntKind.u64.wrap (n : Int) = n := by simp only [IntKind.wrap, IntKind.bits, IntKind.signed]; first | omega | (simp; omega)
set_option maxHeartbeats 1000000 in
theorem out_first (a0 a1 a2 a3 a4 ak : Int) (A : Option Addr) (n c : Nat) (w : World) (hn : n ≤ 4611686018427387904) (h : (n == 0 || decide (512 < n) || decide ((n : Int) < ak)) = true) :
    Calls Try.prog 21 #[.agg #[.int .u64 a0, .int .u64 a1, .int .i64 a2, .int .i64 a3, .int .i64 a4, .slice A n c, .int .u64 ak]] w fun e w' => e = .returned (.int .i64 6) ∧ Below w.heap.size w w' := by
  have HB := Lib.hid (Below.refl w.heap.size w)
  have hw := wrapu_nat n hn
  by_cases h0 : n = 0
  · subst h0
    clear h hw
    have hw : IntKind.u64.wrap (0 : Int) = 0 := by rfl
    go_enter Try.func21, Try.ntmps21
    go_wp2_with (((with_reducible refine gate_dst (N := 1) rfl ?_); refine box_event ?hg (N := 1) ?hd (cs := #[.int .u64 a0, .int .u64 a1, .int .i64 a2, .int .i64 a3, .int .i64 a4, .slice A 0 c, .int .u64 ak]) (t := 65) ?hr ?_; (case hd => rfl); (case hg => rfl); (case hr => first | (go_simp; done) | (go_simp; rfl)); intro g1 hg wb1 hbx hb; have nHB := Lib.hid (below_step HB.out hb); clear HB; have HB := nHB; clear nHB; have B1 := Lib.hid hbx; clear hg hbx hb; have l1 := blk_lt B1.out; have p1_5 := (blk_cell B1.out 5).trans rfl; have p1_6 := (blk_cell B1.out 6).trans rfl))
    go_ret
    exact ⟨rfl, HB.out⟩
  · have e0 : ((n : Int) == 0) = false := by simpa using h0
    have e0' : (n == 0) = false := by simpa using h0
    by_cases h1 : 512 < n
    · have e1 : decide ((512 : Int) < (n : Int)) = true := decide_eq_true (by omega)
      have e1' : decide (512 < n) = true := decide_eq_true h1
      clear h
      go_enter Try.func21, Try.ntmps21
      go_wp2_with (((with_reducible refine gate_dst (N := 1) rfl ?_); refine box_event ?hg (N := 1) ?hd (cs := #[.int .u64 a0, .int .u64 a1, .int .i64 a2, .int .i64 a3, .int .i64 a4, .slice A n c, .int .u64 ak]) (t := 65) ?hr ?_; (case hd => rfl); (case hg => rfl); (case hr => first | (go_simp; done) | (go_simp; rfl)); intro g1 hg wb1 hbx hb; have nHB := Lib.hid (below_step HB.out hb); clear HB; have HB := nHB; clear nHB; have B1 := Lib.hid hbx; clear hg hbx hb; have l1 := blk_lt B1.out; have p1_5 := (blk_cell B1.out 5).trans rfl; have p1_6 := (blk_cell B1.out 6).trans rfl))
      go_ret
      exact ⟨rfl, HB.out⟩
    · have e1 : decide ((512 : Int) < (n : Int)) = false := decide_eq_false (by omega)
      have e1' : decide (512 < n) = false := decide_eq_false h1
      have e2 : decide ((n : Int) < ak) = true := by rw [e0', e1', Bool.false_or, Bool.false_or] at h; exact h
      clear h
      go_enter Try.func21, Try.ntmps21
      go_wp2_with (((with_reducible refine gate_dst (N := 1) rfl ?_); refine box_event ?hg (N := 1) ?hd (cs := #[.int .u64 a0, .int .u64 a1, .int .i64 a2, .int .i64 a3, .int .i64 a4, .slice A n c, .int .u64 ak]) (t := 65) ?hr ?_; (case hd => rfl); (case hg => rfl); (case hr => first | (go_simp; done) | (go_simp; rfl)); intro g1 hg wb1 hbx hb; have nHB := Lib.hid (below_step HB.out hb); clear HB; have HB := nHB; clear nHB; have B1 := Lib.hid hbx; clear hg hbx hb; have l1 := blk_lt B1.out; have p1_5 := (blk_cell B1.out 5).trans rfl; have p1_6 := (blk_cell B1.out 6).trans rfl))
      go_ret
      exact ⟨rfl, HB.out⟩
set_option maxHeartbeats 1000000 in
set_option maxRecDepth 100000 in
theorem out_last (a0 a1 a2 a3 a4 ak : Int) (A : Option Addr) (m c : Nat) (l : List Rows) (w : World) (hr : Kd.C D2 w A l.length l) (hl : l.length = m + 1) (hc : m + 1 ≤ c) (hm : m + 1 ≤ 512) (ha : ak ≤ ((m + 1 : Nat) : Int)) :
    Calls Try.prog 21 #[.agg #[.int .u64 a0, .int .u64 a1, .int .i64 a2, .int .i64 a3, .int .i64 a4, .slice A (m + 1) c, .int .u64 ak]] w fun e w' => e = .returned (.int .i64 (if decide (8 < (l.getD m []).length) || ((l.getD m []).length == 0 && decide (1 < m + 1)) || (l.take m).any no8 then 6 else 0)) ∧ Below w.heap.size w w' := by
  have HB := Lib.hid (Below.refl w.heap.size w)
  have HCT := Lib.hid (fun (wx : World) (hx : Below w.heap.size w wx) => contains_calls A c (l.take m) wx (Kd.C_take (Kd.C_below (hl ▸ hr : Kd.C D2 w A (m + 1) l) hx |> fun h => (by rw [hl]; exact h)) (by omega)) (by rw [List.length_take]; omega))
  have hlt : (l.take m).length = m := by rw [List.length_take]; omega
  rw [hlt] at HCT
  obtain ⟨ad, A0, c0, eA, x0, _, _⟩ := at_L7 hr (m : Int) (by omega) (by omega)
  simp only [Int.toNat_natCast] at x0
  have hx : rd_L7 l (m : Int) = l.getD m [] := by simp [rd_L7]
  rw [hx] at x0
  subst eA
  obtain ⟨q, hq⟩ : ∃ q, q = (l.getD m []).length := ⟨_, rfl⟩
  obtain ⟨y, hy⟩ : ∃ y, y = (l.take m).any no8 := ⟨_, rfl⟩
  rw [← hq] at x0 ⊢
  rw [← hy] at HCT ⊢
  obtain ⟨n, hn⟩ : ∃ n, n = m + 1 := ⟨_, rfl⟩
  rw [← hn] at hm ha hc ⊢
  have X0 := Lib.hid x0
  have hw := wrapu_nat n (by omega)
  have e0 : ((n : Int) == 0) = false := by simpa using (show ¬ n = 0 by omega)
  have e1 : decide ((512 : Int) < (n : Int)) = false := decide_eq_false (by omega)
  have e1' : decide (512 < n) = false := decide_eq_false (by omega)
  have e2 : decide ((n : Int) < ak) = false := decide_eq_false (by omega)
  have em : (n : Int) - 1 = (m : Int) := by omega
  have hmn : (m : Int) < (n : Int) := by omega
  have hm0 : (0 : Int) ≤ (m : Int) := by omega
  clear hx hq hy hr hl hlt x0 hn
  by_cases h8 : 8 < q
  · have f1 : decide ((8 : Int) < (q : Int)) = true := decide_eq_true (by omega)
    have f1' : decide (8 < q) = true := decide_eq_true h8
    rw [f1', Bool.true_or, Bool.true_or, if_pos rfl]
    go_enter Try.func21, Try.ntmps21
    go_wp2_with (first | ((with_reducible refine gate_dst (N := 1) rfl ?_); refine box_event ?hg (N := 1) ?hd (cs := #[.int .u64 a0, .int .u64 a1, .int .i64 a2, .int .i64 a3, .int .i64 a4, .slice (some ad) n c, .int .u64 ak]) (t := 65) ?hr ?_; (case hd => rfl); (case hg => rfl); (case hr => first | (go_simp; done) | (go_simp; rfl)); intro g1 hg wb1 hbx hb; have nHB := Lib.hid (below_step HB.out hb); clear HB; have HB := nHB; clear nHB; have B1 := Lib.hid hbx; clear hg hbx hb; have l1 := blk_lt B1.out; have p1_5 := (blk_cell B1.out 5).trans rfl; have p1_6 := (blk_cell B1.out 6).trans rfl; have x0 := (HB.out.cell (World.block_lt_of_cell? _ _ X0.out)).trans X0.out) | (go_at_call 46; refine (HCT.out _ HB.out).mono ?_; rintro e w5 ⟨rfl, hb⟩; have nHB := Lib.hid (below_step HB.out hb); clear HB; have HB := nHB; clear nHB hb))
    go_ret
    exact ⟨rfl, HB.out⟩
  · have f1 : decide ((8 : Int) < (q : Int)) = false := decide_eq_false (by omega)
    have f1' : decide (8 < q) = false := decide_eq_false h8
    rw [f1', Bool.false_or]
    by_cases hq0 : q = 0
    · subst hq0
      by_cases h2 : 1 < n
      · have f3 : decide ((1 : Int) < (n : Int)) = true := decide_eq_true (by omega)
        have f3' : decide (1 < n) = true := decide_eq_true h2
        rw [f3', if_pos (by rfl)]
        go_enter Try.func21, Try.ntmps21
        go_wp2_with (first | ((with_reducible refine gate_dst (N := 1) rfl ?_); refine box_event ?hg (N := 1) ?hd (cs := #[.int .u64 a0, .int .u64 a1, .int .i64 a2, .int .i64 a3, .int .i64 a4, .slice (some ad) n c, .int .u64 ak]) (t := 65) ?hr ?_; (case hd => rfl); (case hg => rfl); (case hr => first | (go_simp; done) | (go_simp; rfl)); intro g1 hg wb1 hbx hb; have nHB := Lib.hid (below_step HB.out hb); clear HB; have HB := nHB; clear nHB; have B1 := Lib.hid hbx; clear hg hbx hb; have l1 := blk_lt B1.out; have p1_5 := (blk_cell B1.out 5).trans rfl; have p1_6 := (blk_cell B1.out 6).trans rfl; have x0 := (HB.out.cell (World.block_lt_of_cell? _ _ X0.out)).trans X0.out) | (go_at_call 46; refine (HCT.out _ HB.out).mono ?_; rintro e w5 ⟨rfl, hb⟩; have nHB := Lib.hid (below_step HB.out hb); clear HB; have HB := nHB; clear nHB hb))
        go_ret
        exact ⟨rfl, HB.out⟩
      · have f3 : decide ((1 : Int) < (n : Int)) = false := decide_eq_false (by omega)
        have f3' : decide (1 < n) = false := decide_eq_false h2
        rw [f3', Bool.and_false, Bool.false_or]
        rcases y with _ | _
        · rw [if_neg (by simp)]
          go_enter Try.func21, Try.ntmps21
          go_wp2_with (first | ((with_reducible refine gate_dst (N := 1) rfl ?_); refine box_event ?hg (N := 1) ?hd (cs := #[.int .u64 a0, .int .u64 a1, .int .i64 a2, .int .i64 a3, .int .i64 a4, .slice (some ad) n c, .int .u64 ak]) (t := 65) ?hr ?_; (case hd => rfl); (case hg => rfl); (case hr => first | (go_simp; done) | (go_simp; rfl)); intro g1 hg wb1 hbx hb; have nHB := Lib.hid (below_step HB.out hb); clear HB; have HB := nHB; clear nHB; have B1 := Lib.hid hbx; clear hg hbx hb; have l1 := blk_lt B1.out; have p1_5 := (blk_cell B1.out 5).trans rfl; have p1_6 := (blk_cell B1.out 6).trans rfl; have x0 := (HB.out.cell (World.block_lt_of_cell? _ _ X0.out)).trans X0.out) | (go_at_call 46; refine (HCT.out _ HB.out).mono ?_; rintro e w5 ⟨rfl, hb⟩; have nHB := Lib.hid (below_step HB.out hb); clear HB; have HB := nHB; clear nHB hb))
          go_ret
          exact ⟨rfl, HB.out⟩
        · rw [if_pos rfl]
          go_enter Try.func21, Try.ntmps21
          go_wp2_with (first | ((with_reducible refine gate_dst (N := 1) rfl ?_); refine box_event ?hg (N := 1) ?hd (cs := #[.int .u64 a0, .int .u64 a1, .int .i64 a2, .int .i64 a3, .int .i64 a4, .slice (some ad) n c, .int .u64 ak]) (t := 65) ?hr ?_; (case hd => rfl); (case hg => rfl); (case hr => first | (go_simp; done) | (go_simp; rfl)); intro g1 hg wb1 hbx hb; have nHB := Lib.hid (below_step HB.out hb); clear HB; have HB := nHB; clear nHB; have B1 := Lib.hid hbx; clear hg hbx hb; have l1 := blk_lt B1.out; have p1_5 := (blk_cell B1.out 5).trans rfl; have p1_6 := (blk_cell B1.out 6).trans rfl; have x0 := (HB.out.cell (World.block_lt_of_cell? _ _ X0.out)).trans X0.out) | (go_at_call 46; refine (HCT.out _ HB.out).mono ?_; rintro e w5 ⟨rfl, hb⟩; have nHB := Lib.hid (below_step HB.out hb); clear HB; have HB := nHB; clear nHB hb))
          go_ret
          exact ⟨rfl, HB.out⟩
    · have f2 : ((q : Int) == 0) = false := by simpa using hq0
      have f2' : (q == 0) = false := by simpa using hq0
      rw [f2', Bool.false_and, Bool.false_or]
      rcases y with _ | _
      · rw [if_neg (by simp)]
        go_enter Try.func21, Try.ntmps21
        go_wp2_with (first | ((with_reducible refine gate_dst (N := 1) rfl ?_); refine box_event ?hg (N := 1) ?hd (cs := #[.int .u64 a0, .int .u64 a1, .int .i64 a2, .int .i64 a3, .int .i64 a4, .slice (some ad) n c, .int .u64 ak]) (t := 65) ?hr ?_; (case hd => rfl); (case hg => rfl); (case hr => first | (go_simp; done) | (go_simp; rfl)); intro g1 hg wb1 hbx hb; have nHB := Lib.hid (below_step HB.out hb); clear HB; have HB := nHB; clear nHB; have B1 := Lib.hid hbx; clear hg hbx hb; have l1 := blk_lt B1.out; have p1_5 := (blk_cell B1.out 5).trans rfl; have p1_6 := (blk_cell B1.out 6).trans rfl; have x0 := (HB.out.cell (World.block_lt_of_cell? _ _ X0.out)).trans X0.out) | (go_at_call 46; refine (HCT.out _ HB.out).mono ?_; rintro e w5 ⟨rfl, hb⟩; have nHB := Lib.hid (below_step HB.out hb); clear HB; have HB := nHB; clear nHB hb))
        go_ret
        exact ⟨rfl, HB.out⟩
      · rw [if_pos rfl]
        go_enter Try.func21, Try.ntmps21
        go_wp2_with (first | ((with_reducible refine gate_dst (N := 1) rfl ?_); refine box_event ?hg (N := 1) ?hd (cs := #[.int .u64 a0, .int .u64 a1, .int .i64 a2, .int .i64 a3, .int .i64 a4, .slice (some ad) n c, .int .u64 ak]) (t := 65) ?hr ?_; (case hd => rfl); (case hg => rfl); (case hr => first | (go_simp; done) | (go_simp; rfl)); intro g1 hg wb1 hbx hb; have nHB := Lib.hid (below_step HB.out hb); clear HB; have HB := nHB; clear nHB; have B1 := Lib.hid hbx; clear hg hbx hb; have l1 := blk_lt B1.out; have p1_5 := (blk_cell B1.out 5).trans rfl; have p1_6 := (blk_cell B1.out 6).trans rfl; have x0 := (HB.out.cell (World.block_lt_of_cell? _ _ X0.out)).trans X0.out) | (go_at_call 46; refine (HCT.out _ HB.out).mono ?_; rintro e w5 ⟨rfl, hb⟩; have nHB := Lib.hid (below_step HB.out hb); clear HB; have HB := nHB; clear nHB hb))
        go_ret
        exact ⟨rfl, HB.out⟩
set_option maxHeartbeats 1000000 in
theorem checkout_calls (a0 a1 a2 a3 a4 ak : Int) (A : Option Addr) (c : Nat) (l : List Rows) (w : World) (hr : Kd.C D2 w A l.length l) (hc : l.length ≤ c) (hn : l.length ≤ 4611686018427387904) :
    Calls Try.prog 21 #[.agg #[.int .u64 a0, .int .u64 a1, .int .i64 a2, .int .i64 a3, .int .i64 a4, .slice A l.length c, .int .u64 ak]] w fun e w' => e = .returned (.int .i64 (outV l ak)) ∧ Below w.heap.size w w' := by
  by_cases h : (l.length == 0 || decide (512 < l.length) || decide ((l.length : Int) < ak)) = true
  · have e : outV l ak = 6 := by
      unfold outV outBad
      simp only [h, Bool.true_or]
      rfl
    rw [e]
    exact out_first a0 a1 a2 a3 a4 ak A l.length c w hn h
  · have h' := Bool.eq_false_iff.2 h
    rw [Bool.or_eq_false_iff, Bool.or_eq_false_iff] at h'
    obtain ⟨⟨h1, h2⟩, h3⟩ := h'
    have g1 : l.length ≠ 0 := by simpa using h1
    have g2 := of_decide_eq_false h2
    have g3 := of_decide_eq_false h3
    obtain ⟨m, hm⟩ : ∃ m, l.length = m + 1 := ⟨l.length - 1, by omega⟩
    have e : outV l ak = if decide (8 < (l.getD m []).length) || ((l.getD m []).length == 0 && decide (1 < m + 1)) || (l.take m).any no8 then 6 else 0 := by
      unfold outV outBad
      simp only [h1, h2, h3, Bool.false_or]
      rw [hm]
      rfl
    rw [e]
    have := out_last a0 a1 a2 a3 a4 ak A m c l w hr hm (by omega) (by omega) (by omega)
    rw [hm]
    exact this
end Go.Proofs.Ytkbemagcoojmmaa.Val
