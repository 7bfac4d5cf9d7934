/- Printed by the kit's printer (gp.sh with conf01b.py), then turned by asm01.py: potsherdref13_CheckOut. Condition: utf8's tables are laid, where a function reads them. -/
import Derived.Test.YtkbemagcoojmmaaLp1Qs
namespace Go.Proofs.Ytkbemagcoojmmaa.Lx
open Go.RowKit Go.Proofs.Ytkbemagcoojmmaa.G Go.Proofs.YtkbemagcoojmmaaW.PrintWords Go.Proofs.YtkbemagcoojmmaaW.PrintLast Go.Proofs.YtkbemagcoojmmaaW.PrintMore
attribute [local go_sem] max2_int min2_int max_two min_two max_three min_three max_four min_four str_leq str_gtr str_geq
set_option linter.unusedVariables false
set_option linter.unusedSimpArgs false
mutual
def potsherdref13_CheckOut.j0 : Nat → Int → Bool → Int → Int → Int → Int → Int → List (List (List (S112))) → Int → Option (Int)
  | 0, _, _, _, _, _, _, _, _, _ => none
  | k + 1, x3, x21, x519000, x519001, x519002, x519003, x519004, x519005, x519006 => if x21 = true then (some 6) else (potsherdref13_CheckOut.l0 k x3 x519005 (x519005.length : Int) 0)
def potsherdref13_CheckOut.l0 : Nat → Int → List (List (List (S112))) → Int → Int → Option (Int)
  | 0, _, _, _, _ => none
  | k + 1, x3, x23, x24, x25 => if x25 < x24 then (if 0 ≤ x25 then (if x25 < (x23.length : Int) then (if ((rd_L7 x23 x25).length : Int) > 8 then (some 6) else (if x25 < (wrap64 (x3 - 1)) then (if ((rd_L7 x23 x25).length : Int) < 8 then (some 6) else (if x3 > 1 then (if ((rd_L7 x23 x25).length : Int) = 0 then (some 6) else (potsherdref13_CheckOut.l0 k x3 x23 x24 (wrap64 (x25 + 1)))) else (potsherdref13_CheckOut.l0 k x3 x23 x24 (wrap64 (x25 + 1))))) else (if x3 > 1 then (if ((rd_L7 x23 x25).length : Int) = 0 then (some 6) else (potsherdref13_CheckOut.l0 k x3 x23 x24 (wrap64 (x25 + 1)))) else (potsherdref13_CheckOut.l0 k x3 x23 x24 (wrap64 (x25 + 1)))))) else (none)) else (none)) else (some 0)
end
def potsherdref13_CheckOut.f (k : Nat) (a0_0 : Int) (a0_1 : Int) (a0_2 : Int) (a0_3 : Int) (a0_4 : Int) (l0_5 : List (List (List (S112)))) (a0_6 : Int) : Option (Int) := if (l0_5.length : Int) < 1 then (potsherdref13_CheckOut.j0 k (l0_5.length : Int) true a0_0 a0_1 a0_2 a0_3 a0_4 l0_5 a0_6) else (if (l0_5.length : Int) > 512 then (potsherdref13_CheckOut.j0 k (l0_5.length : Int) true a0_0 a0_1 a0_2 a0_3 a0_4 l0_5 a0_6) else (potsherdref13_CheckOut.j0 k (l0_5.length : Int) (decide (a0_6 > (IntKind.u64.wrap ((l0_5.length : Int))))) a0_0 a0_1 a0_2 a0_3 a0_4 l0_5 a0_6))
set_option maxHeartbeats 8000000 in
set_option maxRecDepth 100000 in
theorem potsherdref13_CheckOut.calls (k : Nat) (a0_0 : Int) (a0_1 : Int) (a0_2 : Int) (a0_3 : Int) (a0_4 : Int) (A0_5 : Option Addr) (c0_5 : Nat) (l0_5 : List (List (List (S112)))) (a0_6 : Int) (r : Int) (w : World) (hr0_5 : Kd.C (Kd.slice 101 (Kd.slice 112 k112)) w A0_5 l0_5.length l0_5) (hc0_5 : l0_5.length ≤ c0_5) (h : potsherdref13_CheckOut.f k a0_0 a0_1 a0_2 a0_3 a0_4 l0_5 a0_6 = some r) :
    Calls Try.prog 29 #[.agg #[.int .u64 a0_0, .int .u64 a0_1, .int .i64 a0_2, .int .i64 a0_3, .int .i64 a0_4, .slice A0_5 l0_5.length c0_5, .int .u64 a0_6]] w fun e w' => e = .returned (.int .i64 r) ∧ Below w.heap.size w w' := by
  have hu65 := Try.underlying65
  have HR0_5 := Aside0.mk hr0_5
  have HC0_5 := Aside0.mk hc0_5
  clear hr0_5 hc0_5
  have HB := Aside0.mk (Below.refl w.heap.size w)
  have H : (if (l0_5.length : Int) < 1 then (potsherdref13_CheckOut.j0 k (l0_5.length : Int) true a0_0 a0_1 a0_2 a0_3 a0_4 l0_5 a0_6) else (if (l0_5.length : Int) > 512 then (potsherdref13_CheckOut.j0 k (l0_5.length : Int) true a0_0 a0_1 a0_2 a0_3 a0_4 l0_5 a0_6) else (potsherdref13_CheckOut.j0 k (l0_5.length : Int) (decide (a0_6 > (IntKind.u64.wrap ((l0_5.length : Int))))) a0_0 a0_1 a0_2 a0_3 a0_4 l0_5 a0_6))) = some r := h
  clear h
  have HC2 := Aside0.mk H
  clear H
  go_enter Try.func29, Try.ntmps29
  go_upto_region 2 with (first | ((with_reducible refine gate_dst (N := 1) rfl ?_); (try (refine gate_guard (by rfl) ?_; dsimp only)); refine box_event ?hg (N := 1) ?hd (cs := #[.int .u64 a0_0, .int .u64 a0_1, .int .i64 a0_2, .int .i64 a0_3, .int .i64 a0_4, .slice A0_5 l0_5.length c0_5, .int .u64 a0_6]) (t := 65) ?hr ?_; (case hd => rfl); (case hg => rfl); (case hr => first | (go_simp; done) | (go_simp; rfl)); intro gb518 hg w3 hbox hb; have n0_ := Aside0.mk (below_step (by repeat (first | (with_reducible first | exact HB.out | apply below_alloc | apply pw_below_drewN | apply below_drew1) | exact HB.out)) hb); have n1_ := Aside0.mk (hbox); have n2_ := Aside0.mk ((by rw [hg]; exact (below_size (by repeat (first | (with_reducible first | exact HB.out | apply below_alloc | apply pw_below_drewN | apply below_drew1) | exact HB.out))) : w.heap.size ≤ gb518)); have n3_ := Aside0.mk ((by rw [hg]; exact (below_size (by repeat (first | (with_reducible first | exact HB.out | apply below_alloc | apply pw_below_drewN | apply below_drew1) | exact HB.out))) : w.heap.size ≤ gb518)); clear HB; have HB := n0_; have BK518 := n1_; have GW518 := n2_; have GE518 := n3_; clear n0_ n1_ n2_ n3_; clear hb hbox hg; have hcz4_0 : w3.cell? ⟨gb518, 0, none⟩ = some (.int .u64 a0_0) := (blk_cell BK518.out 0).trans rfl; have hcz4_1 : w3.cell? ⟨gb518, 1, none⟩ = some (.int .u64 a0_1) := (blk_cell BK518.out 1).trans rfl; have hcz4_2 : w3.cell? ⟨gb518, 2, none⟩ = some (.int .i64 a0_2) := (blk_cell BK518.out 2).trans rfl; have hcz4_3 : w3.cell? ⟨gb518, 3, none⟩ = some (.int .i64 a0_3) := (blk_cell BK518.out 3).trans rfl; have hcz4_4 : w3.cell? ⟨gb518, 4, none⟩ = some (.int .i64 a0_4) := (blk_cell BK518.out 4).trans rfl; have hcz4_5 : w3.cell? ⟨gb518, 5, none⟩ = some (.slice A0_5 l0_5.length c0_5) := (blk_cell BK518.out 5).trans rfl; have hcz4_6 : w3.cell? ⟨gb518, 6, none⟩ = some (.int .u64 a0_6) := (blk_cell BK518.out 6).trans rfl; have hfz4_0 := blk_frozen BK518.out 0; have hfz4_1 := blk_frozen BK518.out 1; have hfz4_2 := blk_frozen BK518.out 2; have hfz4_3 := blk_frozen BK518.out 3; have hfz4_4 := blk_frozen BK518.out 4; have hfz4_5 := blk_frozen BK518.out 5; have hfz4_6 := blk_frozen BK518.out 6))
  (try simp only [Act.put, List.setIfInBounds_toArray, List.set_cons_zero, List.set_cons_succ])
  go_cut [21] (fun v21 wc => ∃ (kq : Nat) (x21_1 : Bool), v21 = .bool x21_1 ∧ Aside0 (potsherdref13_CheckOut.j0 kq (l0_5.length : Int) x21_1 a0_0 a0_1 a0_2 a0_3 a0_4 l0_5 a0_6 = some r) ∧ Aside0 (kq ≤ k) ∧ Aside0 (wc.heap[gb518]? = some (.cells #[.int .u64 a0_0, .int .u64 a0_1, .int .i64 a0_2, .int .i64 a0_3, .int .i64 a0_4, (.slice A0_5 l0_5.length c0_5), .int .u64 a0_6] 65 (0, 0))) ∧ Aside0 (Below w.heap.size w wc))
  case first =>
    have H := HC2.out
    clear HC2
    by_cases c5 : (l0_5.length : Int) < 1
    · rw [if_pos c5] at H
      have c5b0 : decide ((l0_5.length : Int) < 1) = true := decide_eq_true c5
      have c5b1 : decide (l0_5.length < 1) = true := decide_eq_true (by omega)
      clear c5
      (first | rw [c5b0] | (simp only [i64_w, i32_w]; rw [c5b0]) | skip)
      have H' := Aside0.mk H
      clear H
      go_wp2
      go_meet
      case rel => exact ⟨_, (true), (by first | rfl | (simp; done) | (simp [*]; done)), H', ⟨by first | omega | exact Nat.le_refl _⟩, ⟨by (with_reducible repeat (first | refine blk_drewN ?_ _ | refine blk_drew ?_ | refine blk_alloc ?_ _)); exact BK518.out⟩, ⟨by repeat (first | (with_reducible first | exact HB.out | apply below_alloc | apply pw_below_drewN | apply below_drew1 | refine below_set ?_ GE518.out) | exact HB.out)⟩⟩
    · rw [if_neg c5] at H
      have c5b0 : decide ((l0_5.length : Int) < 1) = false := decide_eq_false c5
      have c5b1 : decide (l0_5.length < 1) = false := decide_eq_false (by omega)
      clear c5
      (first | rw [c5b0] | (simp only [i64_w, i32_w]; rw [c5b0]) | skip)
      by_cases c6 : (l0_5.length : Int) > 512
      · rw [if_pos c6] at H
        have c6b0 : decide (512 < (l0_5.length : Int)) = true := decide_eq_true c6
        have c6b1 : decide (512 < l0_5.length) = true := decide_eq_true (by omega)
        clear c6
        have H' := Aside0.mk H
        clear H
        go_wp2
        go_meet
        case rel => exact ⟨_, (true), (by first | rfl | (simp; done) | (simp [*]; done)), H', ⟨by first | omega | exact Nat.le_refl _⟩, ⟨by (with_reducible repeat (first | refine blk_drewN ?_ _ | refine blk_drew ?_ | refine blk_alloc ?_ _)); exact BK518.out⟩, ⟨by repeat (first | (with_reducible first | exact HB.out | apply below_alloc | apply pw_below_drewN | apply below_drew1 | refine below_set ?_ GE518.out) | exact HB.out)⟩⟩
      · rw [if_neg c6] at H
        have c6b0 : decide (512 < (l0_5.length : Int)) = false := decide_eq_false c6
        have c6b1 : decide (512 < l0_5.length) = false := decide_eq_false (by omega)
        clear c6
        have H' := Aside0.mk H
        clear H
        have hcz7_0 : w3.cell? ⟨gb518, 0, none⟩ = some (.int .u64 a0_0) := (blk_cell BK518.out 0).trans rfl
        have hcz7_1 : w3.cell? ⟨gb518, 1, none⟩ = some (.int .u64 a0_1) := (blk_cell BK518.out 1).trans rfl
        have hcz7_2 : w3.cell? ⟨gb518, 2, none⟩ = some (.int .i64 a0_2) := (blk_cell BK518.out 2).trans rfl
        have hcz7_3 : w3.cell? ⟨gb518, 3, none⟩ = some (.int .i64 a0_3) := (blk_cell BK518.out 3).trans rfl
        have hcz7_4 : w3.cell? ⟨gb518, 4, none⟩ = some (.int .i64 a0_4) := (blk_cell BK518.out 4).trans rfl
        have hcz7_5 : w3.cell? ⟨gb518, 5, none⟩ = some (.slice A0_5 l0_5.length c0_5) := (blk_cell BK518.out 5).trans rfl
        have hcz7_6 : w3.cell? ⟨gb518, 6, none⟩ = some (.int .u64 a0_6) := (blk_cell BK518.out 6).trans rfl
        have hfz7_0 := blk_frozen BK518.out 0
        have hfz7_1 := blk_frozen BK518.out 1
        have hfz7_2 := blk_frozen BK518.out 2
        have hfz7_3 := blk_frozen BK518.out 3
        have hfz7_4 := blk_frozen BK518.out 4
        have hfz7_5 := blk_frozen BK518.out 5
        have hfz7_6 := blk_frozen BK518.out 6
        go_wp2
        go_meet
        case rel => exact ⟨_, (decide (a0_6 > (IntKind.u64.wrap ((l0_5.length : Int))))), (by first | rfl | (simp; done) | (simp [*]; done)), H', ⟨by first | omega | exact Nat.le_refl _⟩, ⟨by (with_reducible repeat (first | refine blk_drewN ?_ _ | refine blk_drew ?_ | refine blk_alloc ?_ _)); exact BK518.out⟩, ⟨by repeat (first | (with_reducible first | exact HB.out | apply below_alloc | apply pw_below_drewN | apply below_drew1 | refine below_set ?_ GE518.out) | exact HB.out)⟩⟩
  case rest =>
    clear HC2
    try clear c2
    try clear p2
    try clear c5
    try clear c5b0
    try clear c5b1
    try clear c6
    try clear c6b0
    try clear c6b1
    try clear hcz4_0
    try clear hcz4_1
    try clear hcz4_2
    try clear hcz4_3
    try clear hcz4_4
    try clear hcz4_5
    try clear hcz4_6
    try clear hcz7_0
    try clear hcz7_1
    try clear hcz7_2
    try clear hcz7_3
    try clear hcz7_4
    try clear hcz7_5
    try clear hcz7_6
    try clear hfz4_0
    try clear hfz4_1
    try clear hfz4_2
    try clear hfz4_3
    try clear hfz4_4
    try clear hfz4_5
    try clear hfz4_6
    try clear hfz7_0
    try clear hfz7_1
    try clear hfz7_2
    try clear hfz7_3
    try clear hfz7_4
    try clear hfz7_5
    try clear hfz7_6
    obtain ⟨kq, x21_1, rfl, HA, HJ1, BK518, HB⟩ := hcut
    cases kq with
    | zero => exact absurd HA.out (by simp [potsherdref13_CheckOut.j0])
    | succ kj1 =>
      have H := HA.out
      clear HA
      simp only [potsherdref13_CheckOut.j0] at H
      by_cases c8 : x21_1 = true
      · subst c8
        have H1 : (some 6) = some r := by rw [if_pos rfl] at H; exact H
        clear H
        have H := H1
        clear H1
        obtain rfl := Option.some.inj H
        go_wp2
        go_ret
        exact ⟨by first | rfl | (simp [errW_none, errW_some] <;> rfl) | (simp [*, errW_none, errW_some] <;> rfl), by repeat (first | (with_reducible first | exact HB.out | apply below_alloc | apply pw_below_drewN | apply below_drew1 | refine below_set ?_ GE518.out) | exact HB.out)⟩
      · replace c8 := Bool.eq_false_iff.mpr c8
        subst c8
        have H1 : (potsherdref13_CheckOut.l0 kj1 (l0_5.length : Int) l0_5 (l0_5.length : Int) 0) = some r := by rw [if_neg (show ¬ (false = true) by decide)] at H; exact H
        clear H
        have H := H1
        clear H1
        have H' := Aside0.mk H
        clear H
        have hcz9_0 : wc.cell? ⟨gb518, 0, none⟩ = some (.int .u64 a0_0) := (blk_cell BK518.out 0).trans rfl
        have hcz9_1 : wc.cell? ⟨gb518, 1, none⟩ = some (.int .u64 a0_1) := (blk_cell BK518.out 1).trans rfl
        have hcz9_2 : wc.cell? ⟨gb518, 2, none⟩ = some (.int .i64 a0_2) := (blk_cell BK518.out 2).trans rfl
        have hcz9_3 : wc.cell? ⟨gb518, 3, none⟩ = some (.int .i64 a0_3) := (blk_cell BK518.out 3).trans rfl
        have hcz9_4 : wc.cell? ⟨gb518, 4, none⟩ = some (.int .i64 a0_4) := (blk_cell BK518.out 4).trans rfl
        have hcz9_5 : wc.cell? ⟨gb518, 5, none⟩ = some (.slice A0_5 l0_5.length c0_5) := (blk_cell BK518.out 5).trans rfl
        have hcz9_6 : wc.cell? ⟨gb518, 6, none⟩ = some (.int .u64 a0_6) := (blk_cell BK518.out 6).trans rfl
        have hfz9_0 := blk_frozen BK518.out 0
        have hfz9_1 := blk_frozen BK518.out 1
        have hfz9_2 := blk_frozen BK518.out 2
        have hfz9_3 := blk_frozen BK518.out 3
        have hfz9_4 := blk_frozen BK518.out 4
        have hfz9_5 := blk_frozen BK518.out 5
        have hfz9_6 := blk_frozen BK518.out 6
        go_wp2
        go_loopg [25] kj1 (fun kq v25 w' => ∃ (x25_2 : Int), v25 = .int .i64 x25_2 ∧ Aside0 (potsherdref13_CheckOut.l0 kq (l0_5.length : Int) l0_5 (l0_5.length : Int) x25_2 = some r) ∧ Aside0 (kq ≤ kj1) ∧ Aside0 (w'.heap[gb518]? = some (.cells #[.int .u64 a0_0, .int .u64 a0_1, .int .i64 a0_2, .int .i64 a0_3, .int .i64 a0_4, (.slice A0_5 l0_5.length c0_5), .int .u64 a0_6] 65 (0, 0))) ∧ Aside0 (Below w.heap.size w w'))
        case atStart => exact ⟨(0), (by first | rfl | (simp; done) | (simp [*]; done)), H', ⟨Nat.le_refl _⟩, ⟨by (with_reducible repeat (first | refine blk_drewN ?_ _ | refine blk_drew ?_ | refine blk_alloc ?_ _)); exact BK518.out⟩, ⟨by repeat (first | (with_reducible first | exact HB.out | apply below_alloc | apply pw_below_drewN | apply below_drew1 | refine below_set ?_ GE518.out) | exact HB.out)⟩⟩
        case round =>
          clear H'
          try clear c2
          try clear p2
          try clear c5
          try clear c5b0
          try clear c5b1
          try clear c6
          try clear c6b0
          try clear c6b1
          try clear c8
          try clear hcz4_0
          try clear hcz4_1
          try clear hcz4_2
          try clear hcz4_3
          try clear hcz4_4
          try clear hcz4_5
          try clear hcz4_6
          try clear hcz7_0
          try clear hcz7_1
          try clear hcz7_2
          try clear hcz7_3
          try clear hcz7_4
          try clear hcz7_5
          try clear hcz7_6
          try clear hcz9_0
          try clear hcz9_1
          try clear hcz9_2
          try clear hcz9_3
          try clear hcz9_4
          try clear hcz9_5
          try clear hcz9_6
          try clear hfz4_0
          try clear hfz4_1
          try clear hfz4_2
          try clear hfz4_3
          try clear hfz4_4
          try clear hfz4_5
          try clear hfz4_6
          try clear hfz7_0
          try clear hfz7_1
          try clear hfz7_2
          try clear hfz7_3
          try clear hfz7_4
          try clear hfz7_5
          try clear hfz7_6
          try clear hfz9_0
          try clear hfz9_1
          try clear hfz9_2
          try clear hfz9_3
          try clear hfz9_4
          try clear hfz9_5
          try clear hfz9_6
          try clear p2
          obtain ⟨x25_2, rfl, HA, HK2, BK518, HB⟩ := hrel
          cases gk with
          | zero => exact absurd HA.out (by simp [potsherdref13_CheckOut.l0])
          | succ k2 =>
            have H := HA.out
            clear HA
            simp only [potsherdref13_CheckOut.l0] at H
            by_cases c10 : x25_2 < (l0_5.length : Int)
            · rw [if_pos c10] at H
              have c10b0 : decide (x25_2 < (l0_5.length : Int)) = true := decide_eq_true c10
              clear c10
              by_cases c11 : 0 ≤ x25_2
              · rw [if_pos c11] at H
                have c11b0 : decide (0 ≤ x25_2) = true := decide_eq_true c11
                clear c11
                by_cases c12 : x25_2 < (l0_5.length : Int)
                · rw [if_pos c12] at H
                  have c12b0 : decide (x25_2 < (l0_5.length : Int)) = true := decide_eq_true c12
                  clear c12
                  by_cases c13 : ((rd_L7 l0_5 x25_2).length : Int) > 8
                  · rw [if_pos c13] at H
                    have c13b0 : decide (8 < ((rd_L7 l0_5 x25_2).length : Int)) = true := decide_eq_true c13
                    have c13b1 : decide (8 < (rd_L7 l0_5 x25_2).length) = true := decide_eq_true (by omega)
                    clear c13
                    obtain rfl := Option.some.inj H
                    have p519 : 0 ≤ (x25_2 : Int) := of_decide_eq_true (by first | (with_reducible assumption) | assumption)
                    have q519 : x25_2 < (l0_5.length : Int) := of_decide_eq_true (by first | (with_reducible assumption) | assumption)
                    obtain ⟨ad519, A519_0, c519_0, e519, hx519_0, hl519_0, hi519_0⟩ := at_L7 HR0_5.out x25_2 p519 q519
                    cases e519
                    replace hx519_0 := (HB.out.cell (World.block_lt_of_cell? w _ hx519_0)).trans hx519_0
                    have HR519_0 := Aside0.mk hi519_0
                    have HC519_0 := Aside0.mk hl519_0
                    clear hi519_0 hl519_0
                    replace p519 := eq_true p519
                    replace q519 := eq_true q519
                    go_wp2
                    go_ret
                    exact ⟨by first | rfl | (simp [errW_none, errW_some] <;> rfl) | (simp [*, errW_none, errW_some] <;> rfl), by repeat (first | (with_reducible first | exact HB.out | apply below_alloc | apply pw_below_drewN | apply below_drew1 | refine below_set ?_ GE518.out) | exact HB.out)⟩
                  · rw [if_neg c13] at H
                    have c13b0 : decide (8 < ((rd_L7 l0_5 x25_2).length : Int)) = false := decide_eq_false c13
                    have c13b1 : decide (8 < (rd_L7 l0_5 x25_2).length) = false := decide_eq_false (by omega)
                    clear c13
                    by_cases c14 : x25_2 < (wrap64 ((l0_5.length : Int) - 1))
                    · rw [if_pos c14] at H
                      have c14b0 : decide (x25_2 < (wrap64 ((l0_5.length : Int) - 1))) = true := decide_eq_true c14
                      clear c14
                      by_cases c15 : ((rd_L7 l0_5 x25_2).length : Int) < 8
                      · rw [if_pos c15] at H
                        have c15b0 : decide (((rd_L7 l0_5 x25_2).length : Int) < 8) = true := decide_eq_true c15
                        have c15b1 : decide ((rd_L7 l0_5 x25_2).length < 8) = true := decide_eq_true (by omega)
                        clear c15
                        obtain rfl := Option.some.inj H
                        have p519 : 0 ≤ (x25_2 : Int) := of_decide_eq_true (by first | (with_reducible assumption) | assumption)
                        have q519 : x25_2 < (l0_5.length : Int) := of_decide_eq_true (by first | (with_reducible assumption) | assumption)
                        obtain ⟨ad519, A519_0, c519_0, e519, hx519_0, hl519_0, hi519_0⟩ := at_L7 HR0_5.out x25_2 p519 q519
                        cases e519
                        replace hx519_0 := (HB.out.cell (World.block_lt_of_cell? w _ hx519_0)).trans hx519_0
                        have HR519_0 := Aside0.mk hi519_0
                        have HC519_0 := Aside0.mk hl519_0
                        clear hi519_0 hl519_0
                        replace p519 := eq_true p519
                        replace q519 := eq_true q519
                        go_wp2
                        go_ret
                        exact ⟨by first | rfl | (simp [errW_none, errW_some] <;> rfl) | (simp [*, errW_none, errW_some] <;> rfl), by repeat (first | (with_reducible first | exact HB.out | apply below_alloc | apply pw_below_drewN | apply below_drew1 | refine below_set ?_ GE518.out) | exact HB.out)⟩
                      · rw [if_neg c15] at H
                        have c15b0 : decide (((rd_L7 l0_5 x25_2).length : Int) < 8) = false := decide_eq_false c15
                        have c15b1 : decide ((rd_L7 l0_5 x25_2).length < 8) = false := decide_eq_false (by omega)
                        clear c15
                        by_cases c16 : (l0_5.length : Int) > 1
                        · rw [if_pos c16] at H
                          have c16b0 : decide (1 < (l0_5.length : Int)) = true := decide_eq_true c16
                          have c16b1 : decide (1 < l0_5.length) = true := decide_eq_true (by omega)
                          clear c16
                          by_cases c17 : ((rd_L7 l0_5 x25_2).length : Int) = 0
                          · rw [if_pos c17] at H
                            have c17b0 : (((rd_L7 l0_5 x25_2).length : Int) == 0) = true := beq_iff_eq.mpr c17
                            have c17b1 : (((rd_L7 l0_5 x25_2).length : Int) != 0) = false := bne_eq_false_iff_eq.mpr c17
                            clear c17
                            obtain rfl := Option.some.inj H
                            have p519 : 0 ≤ (x25_2 : Int) := of_decide_eq_true (by first | (with_reducible assumption) | assumption)
                            have q519 : x25_2 < (l0_5.length : Int) := of_decide_eq_true (by first | (with_reducible assumption) | assumption)
                            obtain ⟨ad519, A519_0, c519_0, e519, hx519_0, hl519_0, hi519_0⟩ := at_L7 HR0_5.out x25_2 p519 q519
                            cases e519
                            replace hx519_0 := (HB.out.cell (World.block_lt_of_cell? w _ hx519_0)).trans hx519_0
                            have HR519_0 := Aside0.mk hi519_0
                            have HC519_0 := Aside0.mk hl519_0
                            clear hi519_0 hl519_0
                            replace p519 := eq_true p519
                            replace q519 := eq_true q519
                            go_wp2
                            go_ret
                            exact ⟨by first | rfl | (simp [errW_none, errW_some] <;> rfl) | (simp [*, errW_none, errW_some] <;> rfl), by repeat (first | (with_reducible first | exact HB.out | apply below_alloc | apply pw_below_drewN | apply below_drew1 | refine below_set ?_ GE518.out) | exact HB.out)⟩
                          · rw [if_neg c17] at H
                            have c17b0 : (((rd_L7 l0_5 x25_2).length : Int) == 0) = false := beq_eq_false_iff_ne.mpr c17
                            have c17b1 : (((rd_L7 l0_5 x25_2).length : Int) != 0) = true := bne_iff_ne.mpr c17
                            have c17b2 : ¬ ((rd_L7 l0_5 x25_2) = []) := fun h_ => c17 (by rw [h_]; rfl)
                            have H' := Aside0.mk H
                            clear H
                            have p519 : 0 ≤ (x25_2 : Int) := of_decide_eq_true (by first | (with_reducible assumption) | assumption)
                            have q519 : x25_2 < (l0_5.length : Int) := of_decide_eq_true (by first | (with_reducible assumption) | assumption)
                            obtain ⟨ad519, A519_0, c519_0, e519, hx519_0, hl519_0, hi519_0⟩ := at_L7 HR0_5.out x25_2 p519 q519
                            cases e519
                            replace hx519_0 := (HB.out.cell (World.block_lt_of_cell? w _ hx519_0)).trans hx519_0
                            have HR519_0 := Aside0.mk hi519_0
                            have HC519_0 := Aside0.mk hl519_0
                            clear hi519_0 hl519_0
                            replace p519 := eq_true p519
                            replace q519 := eq_true q519
                            go_wp2
                            go_roundg k2
                            case measure => have := HJ1.out; have := HK2.out; omega
                            case rel => exact ⟨(wrap64 (x25_2 + 1)), (by first | rfl | (simp; done) | (simp [*]; done)), H', ⟨by have := HJ1.out; have := HK2.out; omega⟩, ⟨by (with_reducible repeat (first | refine blk_drewN ?_ _ | refine blk_drew ?_ | refine blk_alloc ?_ _)); exact BK518.out⟩, ⟨by repeat (first | (with_reducible first | exact HB.out | apply below_alloc | apply pw_below_drewN | apply below_drew1 | refine below_set ?_ GE518.out) | exact HB.out)⟩⟩
                        · rw [if_neg c16] at H
                          have c16b0 : decide (1 < (l0_5.length : Int)) = false := decide_eq_false c16
                          have c16b1 : decide (1 < l0_5.length) = false := decide_eq_false (by omega)
                          clear c16
                          have H' := Aside0.mk H
                          clear H
                          have p519 : 0 ≤ (x25_2 : Int) := of_decide_eq_true (by first | (with_reducible assumption) | assumption)
                          have q519 : x25_2 < (l0_5.length : Int) := of_decide_eq_true (by first | (with_reducible assumption) | assumption)
                          obtain ⟨ad519, A519_0, c519_0, e519, hx519_0, hl519_0, hi519_0⟩ := at_L7 HR0_5.out x25_2 p519 q519
                          cases e519
                          replace hx519_0 := (HB.out.cell (World.block_lt_of_cell? w _ hx519_0)).trans hx519_0
                          have HR519_0 := Aside0.mk hi519_0
                          have HC519_0 := Aside0.mk hl519_0
                          clear hi519_0 hl519_0
                          replace p519 := eq_true p519
                          replace q519 := eq_true q519
                          go_wp2
                          go_roundg k2
                          case measure => have := HJ1.out; have := HK2.out; omega
                          case rel => exact ⟨(wrap64 (x25_2 + 1)), (by first | rfl | (simp; done) | (simp [*]; done)), H', ⟨by have := HJ1.out; have := HK2.out; omega⟩, ⟨by (with_reducible repeat (first | refine blk_drewN ?_ _ | refine blk_drew ?_ | refine blk_alloc ?_ _)); exact BK518.out⟩, ⟨by repeat (first | (with_reducible first | exact HB.out | apply below_alloc | apply pw_below_drewN | apply below_drew1 | refine below_set ?_ GE518.out) | exact HB.out)⟩⟩
                    · rw [if_neg c14] at H
                      have c14b0 : decide (x25_2 < (wrap64 ((l0_5.length : Int) - 1))) = false := decide_eq_false c14
                      clear c14
                      by_cases c18 : (l0_5.length : Int) > 1
                      · rw [if_pos c18] at H
                        have c18b0 : decide (1 < (l0_5.length : Int)) = true := decide_eq_true c18
                        have c18b1 : decide (1 < l0_5.length) = true := decide_eq_true (by omega)
                        clear c18
                        by_cases c19 : ((rd_L7 l0_5 x25_2).length : Int) = 0
                        · rw [if_pos c19] at H
                          have c19b0 : (((rd_L7 l0_5 x25_2).length : Int) == 0) = true := beq_iff_eq.mpr c19
                          have c19b1 : (((rd_L7 l0_5 x25_2).length : Int) != 0) = false := bne_eq_false_iff_eq.mpr c19
                          clear c19
                          obtain rfl := Option.some.inj H
                          have p519 : 0 ≤ (x25_2 : Int) := of_decide_eq_true (by first | (with_reducible assumption) | assumption)
                          have q519 : x25_2 < (l0_5.length : Int) := of_decide_eq_true (by first | (with_reducible assumption) | assumption)
                          obtain ⟨ad519, A519_0, c519_0, e519, hx519_0, hl519_0, hi519_0⟩ := at_L7 HR0_5.out x25_2 p519 q519
                          cases e519
                          replace hx519_0 := (HB.out.cell (World.block_lt_of_cell? w _ hx519_0)).trans hx519_0
                          have HR519_0 := Aside0.mk hi519_0
                          have HC519_0 := Aside0.mk hl519_0
                          clear hi519_0 hl519_0
                          replace p519 := eq_true p519
                          replace q519 := eq_true q519
                          go_wp2
                          go_ret
                          exact ⟨by first | rfl | (simp [errW_none, errW_some] <;> rfl) | (simp [*, errW_none, errW_some] <;> rfl), by repeat (first | (with_reducible first | exact HB.out | apply below_alloc | apply pw_below_drewN | apply below_drew1 | refine below_set ?_ GE518.out) | exact HB.out)⟩
                        · rw [if_neg c19] at H
                          have c19b0 : (((rd_L7 l0_5 x25_2).length : Int) == 0) = false := beq_eq_false_iff_ne.mpr c19
                          have c19b1 : (((rd_L7 l0_5 x25_2).length : Int) != 0) = true := bne_iff_ne.mpr c19
                          have c19b2 : ¬ ((rd_L7 l0_5 x25_2) = []) := fun h_ => c19 (by rw [h_]; rfl)
                          have H' := Aside0.mk H
                          clear H
                          have p519 : 0 ≤ (x25_2 : Int) := of_decide_eq_true (by first | (with_reducible assumption) | assumption)
                          have q519 : x25_2 < (l0_5.length : Int) := of_decide_eq_true (by first | (with_reducible assumption) | assumption)
                          obtain ⟨ad519, A519_0, c519_0, e519, hx519_0, hl519_0, hi519_0⟩ := at_L7 HR0_5.out x25_2 p519 q519
                          cases e519
                          replace hx519_0 := (HB.out.cell (World.block_lt_of_cell? w _ hx519_0)).trans hx519_0
                          have HR519_0 := Aside0.mk hi519_0
                          have HC519_0 := Aside0.mk hl519_0
                          clear hi519_0 hl519_0
                          replace p519 := eq_true p519
                          replace q519 := eq_true q519
                          go_wp2
                          go_roundg k2
                          case measure => have := HJ1.out; have := HK2.out; omega
                          case rel => exact ⟨(wrap64 (x25_2 + 1)), (by first | rfl | (simp; done) | (simp [*]; done)), H', ⟨by have := HJ1.out; have := HK2.out; omega⟩, ⟨by (with_reducible repeat (first | refine blk_drewN ?_ _ | refine blk_drew ?_ | refine blk_alloc ?_ _)); exact BK518.out⟩, ⟨by repeat (first | (with_reducible first | exact HB.out | apply below_alloc | apply pw_below_drewN | apply below_drew1 | refine below_set ?_ GE518.out) | exact HB.out)⟩⟩
                      · rw [if_neg c18] at H
                        have c18b0 : decide (1 < (l0_5.length : Int)) = false := decide_eq_false c18
                        have c18b1 : decide (1 < l0_5.length) = false := decide_eq_false (by omega)
                        clear c18
                        have H' := Aside0.mk H
                        clear H
                        have p519 : 0 ≤ (x25_2 : Int) := of_decide_eq_true (by first | (with_reducible assumption) | assumption)
                        have q519 : x25_2 < (l0_5.length : Int) := of_decide_eq_true (by first | (with_reducible assumption) | assumption)
                        obtain ⟨ad519, A519_0, c519_0, e519, hx519_0, hl519_0, hi519_0⟩ := at_L7 HR0_5.out x25_2 p519 q519
                        cases e519
                        replace hx519_0 := (HB.out.cell (World.block_lt_of_cell? w _ hx519_0)).trans hx519_0
                        have HR519_0 := Aside0.mk hi519_0
                        have HC519_0 := Aside0.mk hl519_0
                        clear hi519_0 hl519_0
                        replace p519 := eq_true p519
                        replace q519 := eq_true q519
                        go_wp2
                        go_roundg k2
                        case measure => have := HJ1.out; have := HK2.out; omega
                        case rel => exact ⟨(wrap64 (x25_2 + 1)), (by first | rfl | (simp; done) | (simp [*]; done)), H', ⟨by have := HJ1.out; have := HK2.out; omega⟩, ⟨by (with_reducible repeat (first | refine blk_drewN ?_ _ | refine blk_drew ?_ | refine blk_alloc ?_ _)); exact BK518.out⟩, ⟨by repeat (first | (with_reducible first | exact HB.out | apply below_alloc | apply pw_below_drewN | apply below_drew1 | refine below_set ?_ GE518.out) | exact HB.out)⟩⟩
                · rw [if_neg c12] at H
                  exact absurd H (by simp)
              · rw [if_neg c11] at H
                exact absurd H (by simp)
            · rw [if_neg c10] at H
              have c10b0 : decide (x25_2 < (l0_5.length : Int)) = false := decide_eq_false c10
              clear c10
              obtain rfl := Option.some.inj H
              go_wp2
              go_ret
              exact ⟨by first | rfl | (simp [errW_none, errW_some] <;> rfl) | (simp [*, errW_none, errW_some] <;> rfl), by repeat (first | (with_reducible first | exact HB.out | apply below_alloc | apply pw_below_drewN | apply below_drew1 | refine below_set ?_ GE518.out) | exact HB.out)⟩
end Go.Proofs.Ytkbemagcoojmmaa.Lx
