-- PRINTED by print.py (a twelfth state) out of the translation. Not trusted: Lean checks it.
import Derived.Test.YtebngchdmpabhaaGx0
import Derived.Test.YtebngchdmpabhaaGx2
import Derived.Test.YtebngchdmpabhaaGx3
import Derived.Test.YtebngchdmpabhaaGx4
namespace Go.Proofs.Ytebngchdmpabhaa.G
open Go.RowKit Go.Proofs.YtebngchdmpabhaaW.PrintWords Go.Proofs.YtebngchdmpabhaaW.PrintLast Go.Proofs.YtebngchdmpabhaaW.PrintMore
attribute [local go_sem] max2_int min2_int max_two min_two max_three min_three max_four min_four str_leq str_gtr str_geq   -- for this text's walks alone
set_option linter.unusedVariables false
set_option linter.unusedSimpArgs false

/-! ### potsherdref10_Do: function 11 -/
mutual
def potsherdref10_Do.j0 : Nat → Bool → List (S41) → Bool → Int → Int → ByteArray → ByteArray → ByteArray → Option ((List (S41)) × Bool × Int × Int)
  | 0, _, _, _, _, _, _, _, _ => none
  | k + 1, x22, x299000, x299001, x299002, x300000, x300001, x300002, x300003 => if x22 = true then (some (x299000, x299001, x299002, 5)) else (if x299001 = true then (some (x299000, x299001, x299002, 12)) else ((potsherdref10_refuses.f k x299000 x299001 x299002 x300000 x300001 x300002 x300003).bind fun t307 => (if t307 = 0 then (if x300000 = 1 then ((potsherdref10_with.f k x299000 x299001 x299002 x300001 x300003 0).bind fun bt308 => (potsherdref10_Do.j1 k bt308.1 bt308.2.1 bt308.2.2 x300000 x300001 x300002 x300003)) else (potsherdref10_Do.j1 k x299000 x299001 x299002 x300000 x300001 x300002 x300003)) else (some (x299000, x299001, x299002, t307)))))
def potsherdref10_Do.j1 : Nat → List (S41) → Bool → Int → Int → ByteArray → ByteArray → ByteArray → Option ((List (S41)) × Bool × Int × Int)
  | 0, _, _, _, _, _, _, _ => none
  | k + 1, x299000, x299001, x299002, x300000, x300001, x300002, x300003 => if x299002 = 0 then (some (x299000, true, x299002, 12)) else (if x299002 > 0 then (potsherdref10_Do.j2 k x299000 x299001 (wrap64 (x299002 - 1)) x300000 x300001 x300002 x300003) else (potsherdref10_Do.j2 k x299000 x299001 x299002 x300000 x300001 x300002 x300003))
def potsherdref10_Do.j2 : Nat → List (S41) → Bool → Int → Int → ByteArray → ByteArray → ByteArray → Option ((List (S41)) × Bool × Int × Int)
  | 0, _, _, _, _, _, _, _ => none
  | k + 1, x299000, x299001, x299002, x300000, x300001, x300002, x300003 => (potsherdref10_find.f k x299000 x299001 x299002 x300001).bind fun t313 => (if x300000 = 2 then (if 0 ≤ t313 then (if t313 < (x299000.length : Int) then (some ((x299000.set (t313 : Int).toNat (⟨(rd_T41 x299000 t313).f0, (rd_T41 x299000 t313).f1, (((rd_T41 x299000 t313).f1).size : Int)⟩ : S41)), x299001, x299002, 0)) else (none)) else (none)) else (if x300000 = 3 then (if 0 ≤ t313 then (if t313 < (x299000.length : Int) then ((potsherdref10_without.f k x299000 x299001 x299002 x300001).bind fun bt318 => ((potsherdref10_with.f k bt318.1 bt318.2.1 bt318.2.2 x300002 ((rd_T41 x299000 t313).f1) ((rd_T41 x299000 t313).f2)).bind fun bt323 => (some (bt323.1, bt323.2.1, bt323.2.2, 0)))) else (none)) else (none)) else (if x300000 = 4 then ((potsherdref10_without.f k x299000 x299001 x299002 x300001).bind fun bt328 => (some (bt328.1, bt328.2.1, bt328.2.2, 0))) else (some (x299000, x299001, x299002, 0)))))
end
def potsherdref10_Do.f (k : Nat) (l0_0 : List (S41)) (a0_1 : Bool) (a0_2 : Int) (a1_0 : Int) (a1_1 : ByteArray) (a1_2 : ByteArray) (a1_3 : ByteArray) : Option ((List (S41)) × Bool × Int × Int) := (potsherdref10_Check.f k l0_0 a0_1 a0_2).bind fun t301 => (if t301 = 0 then ((potsherdref10_Copy.f l0_0 a0_1 a0_2).bind fun bt302 => (if a1_0 < 1 then (potsherdref10_Do.j0 k true bt302.1 bt302.2.1 bt302.2.2 a1_0 a1_1 a1_2 a1_3) else (potsherdref10_Do.j0 k (decide (a1_0 ≥ 5)) bt302.1 bt302.2.1 bt302.2.2 a1_0 a1_1 a1_2 a1_3))) else (some (([] : List (S41)), false, 0, 6)))
theorem potsherdref10_Do.mono_l : ∀ k, (∀ y0 y1 y2 y3 y4 y5 y6 y7, LeO (potsherdref10_Do.j0 k y0 y1 y2 y3 y4 y5 y6 y7) (potsherdref10_Do.j0 (k + 1) y0 y1 y2 y3 y4 y5 y6 y7)) ∧ (∀ y0 y1 y2 y3 y4 y5 y6, LeO (potsherdref10_Do.j1 k y0 y1 y2 y3 y4 y5 y6) (potsherdref10_Do.j1 (k + 1) y0 y1 y2 y3 y4 y5 y6)) ∧ (∀ y0 y1 y2 y3 y4 y5 y6, LeO (potsherdref10_Do.j2 k y0 y1 y2 y3 y4 y5 y6) (potsherdref10_Do.j2 (k + 1) y0 y1 y2 y3 y4 y5 y6))
  | 0 => ⟨fun _ _ _ _ _ _ _ _ r h => by simp [potsherdref10_Do.j0] at h, fun _ _ _ _ _ _ _ r h => by simp [potsherdref10_Do.j1] at h, fun _ _ _ _ _ _ _ r h => by simp [potsherdref10_Do.j2] at h⟩
  | k + 1 => by
    obtain ⟨ih0, ih1, ih2⟩ := potsherdref10_Do.mono_l k
    refine ⟨?_, ?_, ?_⟩
    · intro y0 y1 y2 y3 y4 y5 y6 y7
      unfold potsherdref10_Do.j0
      repeat' first
      | (with_reducible exact ih0 _ _ _ _ _ _ _ _)
      | (with_reducible exact ih1 _ _ _ _ _ _ _)
      | (with_reducible exact ih2 _ _ _ _ _ _ _)
      | (with_reducible exact potsherdref10_Check.mono _ _ _ _)
      | (with_reducible exact potsherdref10_find.mono _ _ _ _ _)
      | (with_reducible exact potsherdref10_refuses.mono _ _ _ _ _ _ _ _)
      | (with_reducible exact potsherdref10_with.mono _ _ _ _ _ _ _)
      | (with_reducible exact potsherdref10_without.mono _ _ _ _ _)
      | (with_reducible exact LeO.refl _)
      | (with_reducible exact LeO.none _)
      | (with_reducible refine LeO.ite ?_ ?_)
      | (with_reducible refine LeO.bind ?_ (fun _ => ?_))
      | exact ih0 _ _ _ _ _ _ _ _
      | exact ih1 _ _ _ _ _ _ _
      | exact ih2 _ _ _ _ _ _ _
      | exact potsherdref10_Check.mono _ _ _ _
      | exact potsherdref10_find.mono _ _ _ _ _
      | exact potsherdref10_refuses.mono _ _ _ _ _ _ _ _
      | exact potsherdref10_with.mono _ _ _ _ _ _ _
      | exact potsherdref10_without.mono _ _ _ _ _
      | exact LeO.none _
      | refine LeO.ite ?_ ?_
      | refine LeO.bind ?_ (fun _ => ?_)
    · intro y0 y1 y2 y3 y4 y5 y6
      unfold potsherdref10_Do.j1
      repeat' first
      | (with_reducible exact ih0 _ _ _ _ _ _ _ _)
      | (with_reducible exact ih1 _ _ _ _ _ _ _)
      | (with_reducible exact ih2 _ _ _ _ _ _ _)
      | (with_reducible exact potsherdref10_Check.mono _ _ _ _)
      | (with_reducible exact potsherdref10_find.mono _ _ _ _ _)
      | (with_reducible exact potsherdref10_refuses.mono _ _ _ _ _ _ _ _)
      | (with_reducible exact potsherdref10_with.mono _ _ _ _ _ _ _)
      | (with_reducible exact potsherdref10_without.mono _ _ _ _ _)
      | (with_reducible exact LeO.refl _)
      | (with_reducible exact LeO.none _)
      | (with_reducible refine LeO.ite ?_ ?_)
      | (with_reducible refine LeO.bind ?_ (fun _ => ?_))
      | exact ih0 _ _ _ _ _ _ _ _
      | exact ih1 _ _ _ _ _ _ _
      | exact ih2 _ _ _ _ _ _ _
      | exact potsherdref10_Check.mono _ _ _ _
      | exact potsherdref10_find.mono _ _ _ _ _
      | exact potsherdref10_refuses.mono _ _ _ _ _ _ _ _
      | exact potsherdref10_with.mono _ _ _ _ _ _ _
      | exact potsherdref10_without.mono _ _ _ _ _
      | exact LeO.none _
      | refine LeO.ite ?_ ?_
      | refine LeO.bind ?_ (fun _ => ?_)
    · intro y0 y1 y2 y3 y4 y5 y6
      unfold potsherdref10_Do.j2
      repeat' first
      | (with_reducible exact ih0 _ _ _ _ _ _ _ _)
      | (with_reducible exact ih1 _ _ _ _ _ _ _)
      | (with_reducible exact ih2 _ _ _ _ _ _ _)
      | (with_reducible exact potsherdref10_Check.mono _ _ _ _)
      | (with_reducible exact potsherdref10_find.mono _ _ _ _ _)
      | (with_reducible exact potsherdref10_refuses.mono _ _ _ _ _ _ _ _)
      | (with_reducible exact potsherdref10_with.mono _ _ _ _ _ _ _)
      | (with_reducible exact potsherdref10_without.mono _ _ _ _ _)
      | (with_reducible exact LeO.refl _)
      | (with_reducible exact LeO.none _)
      | (with_reducible refine LeO.ite ?_ ?_)
      | (with_reducible refine LeO.bind ?_ (fun _ => ?_))
      | exact ih0 _ _ _ _ _ _ _ _
      | exact ih1 _ _ _ _ _ _ _
      | exact ih2 _ _ _ _ _ _ _
      | exact potsherdref10_Check.mono _ _ _ _
      | exact potsherdref10_find.mono _ _ _ _ _
      | exact potsherdref10_refuses.mono _ _ _ _ _ _ _ _
      | exact potsherdref10_with.mono _ _ _ _ _ _ _
      | exact potsherdref10_without.mono _ _ _ _ _
      | exact LeO.none _
      | refine LeO.ite ?_ ?_
      | refine LeO.bind ?_ (fun _ => ?_)
theorem potsherdref10_Do.mono : ∀ a0 a1 a2 a3 a4 a5 a6 k, LeO (potsherdref10_Do.f k a0 a1 a2 a3 a4 a5 a6) (potsherdref10_Do.f (k + 1) a0 a1 a2 a3 a4 a5 a6) := by
  intro a0 a1 a2 a3 a4 a5 a6 k
  obtain ⟨ih0, ih1, ih2⟩ := potsherdref10_Do.mono_l k
  unfold potsherdref10_Do.f
  repeat' first
      | (with_reducible exact ih0 _ _ _ _ _ _ _ _)
      | (with_reducible exact ih1 _ _ _ _ _ _ _)
      | (with_reducible exact ih2 _ _ _ _ _ _ _)
      | (with_reducible exact potsherdref10_Check.mono _ _ _ _)
      | (with_reducible exact potsherdref10_find.mono _ _ _ _ _)
      | (with_reducible exact potsherdref10_refuses.mono _ _ _ _ _ _ _ _)
      | (with_reducible exact potsherdref10_with.mono _ _ _ _ _ _ _)
      | (with_reducible exact potsherdref10_without.mono _ _ _ _ _)
      | (with_reducible exact LeO.refl _)
      | (with_reducible exact LeO.none _)
      | (with_reducible refine LeO.ite ?_ ?_)
      | (with_reducible refine LeO.bind ?_ (fun _ => ?_))
      | exact ih0 _ _ _ _ _ _ _ _
      | exact ih1 _ _ _ _ _ _ _
      | exact ih2 _ _ _ _ _ _ _
      | exact potsherdref10_Check.mono _ _ _ _
      | exact potsherdref10_find.mono _ _ _ _ _
      | exact potsherdref10_refuses.mono _ _ _ _ _ _ _ _
      | exact potsherdref10_with.mono _ _ _ _ _ _ _
      | exact potsherdref10_without.mono _ _ _ _ _
      | exact LeO.none _
      | refine LeO.ite ?_ ?_
      | refine LeO.bind ?_ (fun _ => ?_)
def potsherdref10_Do.T21 : Bool × List (List Nat × List Nat) := (true, [([], []), ([0], [0]), ([], []), ([], []), ([3], [3]), ([], []), ([4, 5], [4, 5]), ([6], [6]), ([7], [7]), ([8], [8]), ([1, 2, 0, 1, 2, 3, 4, 5, 6, 7, 8, 9], [1, 2]), ([10, 0, 1, 2, 3, 4, 5, 6, 7, 8, 9], [10]), ([11, 9, 0, 1, 2, 3, 4, 5, 6, 7, 8, 9], [9, 11])])
def potsherdref10_Do.B21 : List Nat := [0, 1, 0, 0, 8, 0, 56, 120, 248, 504, 1023, 2047, 4095]
theorem potsherdref10_Do.tab21 : rtab .any (opsOf Try.f11 21) = potsherdref10_Do.T21 := by kernel_rfl
theorem potsherdref10_Do.bits21 : waitsOk potsherdref10_Do.T21.2 potsherdref10_Do.B21 = true := by kernel_rfl
set_option maxHeartbeats 8000000 in
set_option maxRecDepth 100000 in
theorem potsherdref10_Do.calls (k : Nat) (A0_0 : Option Addr) (c0_0 : Nat) (l0_0 : List (S41)) (a0_1 : Bool) (a0_2 : Int) (a1_0 : Int) (a1_1 : ByteArray) (a1_2 : ByteArray) (a1_3 : ByteArray) (r1 : List (S41)) (r2 : Bool) (r3 : Int) (r4 : Int) (w : World) (hr0_0 : Kd.C k41 w A0_0 l0_0.length l0_0) (hc0_0 : l0_0.length ≤ c0_0) (h : potsherdref10_Do.f k l0_0 a0_1 a0_2 a1_0 a1_1 a1_2 a1_3 = some (r1, r2, r3, r4)) :
    Calls Try.prog 11 #[.agg #[.slice A0_0 l0_0.length c0_0, .bool a0_1, .int .i64 a0_2], .agg #[.int .u8 a1_0, .string a1_1, .string a1_2, .string a1_3]] w fun e w' => ∃ v0_ : Value, e = .returned (.tuple #[.agg #[v0_, .bool r2, .int .i64 r3], .int .i64 r4]) ∧ Kd.R k41 41 w' w.heap.size (fun _ => True) v0_ r1 ∧ Below w.heap.size w w' := by
  have hu24 := Try.underlying24
  have hu27 := Try.underlying27
  have hu41 := Try.underlying41
  have HR0_0 := Aside0.mk hr0_0
  have HC0_0 := Aside0.mk hc0_0
  clear hr0_0 hc0_0
  have HB := Aside0.mk (Below.refl w.heap.size w)
  have H : ((potsherdref10_Check.f k l0_0 a0_1 a0_2).bind fun t301 => (if t301 = 0 then ((potsherdref10_Copy.f l0_0 a0_1 a0_2).bind fun bt302 => (if a1_0 < 1 then (potsherdref10_Do.j0 k true bt302.1 bt302.2.1 bt302.2.2 a1_0 a1_1 a1_2 a1_3) else (potsherdref10_Do.j0 k (decide (a1_0 ≥ 5)) bt302.1 bt302.2.1 bt302.2.2 a1_0 a1_1 a1_2 a1_3))) else (some (([] : List (S41)), false, 0, 6)))) = some (r1, r2, r3, r4) := h
  clear h
  replace H := Option.bind_eq_some_iff.mp H
  obtain ⟨t301, A30, H⟩ := H
  replace H : (if t301 = 0 then ((potsherdref10_Copy.f l0_0 a0_1 a0_2).bind fun bt302 => (if a1_0 < 1 then (potsherdref10_Do.j0 k true bt302.1 bt302.2.1 bt302.2.2 a1_0 a1_1 a1_2 a1_3) else (potsherdref10_Do.j0 k (decide (a1_0 ≥ 5)) bt302.1 bt302.2.1 bt302.2.2 a1_0 a1_1 a1_2 a1_3))) else (some (([] : List (S41)), false, 0, 6))) = some (r1, r2, r3, r4) := H
  have A3 := Aside0.mk A30
  clear A30
  by_cases c4 : t301 = 0
  · rw [if_pos c4] at H
    have c4b0 : (t301 == 0) = true := beq_iff_eq.mpr c4
    have c4b1 : (t301 != 0) = false := bne_eq_false_iff_eq.mpr c4
    clear c4
    replace H := Option.bind_eq_some_iff.mp H
    obtain ⟨⟨t302, t305, t306⟩, A50, H⟩ := H
    replace H : (if a1_0 < 1 then (potsherdref10_Do.j0 k true t302 t305 t306 a1_0 a1_1 a1_2 a1_3) else (potsherdref10_Do.j0 k (decide (a1_0 ≥ 5)) t302 t305 t306 a1_0 a1_1 a1_2 a1_3)) = some (r1, r2, r3, r4) := H
    have A5 := Aside0.mk A50
    clear A50
    have HC6 := Aside0.mk H
    clear H
    go_enter Try.func11, Try.ntmps11
    go_upto_region 4 with (first | ((with_reducible refine gate_dst (N := 2) rfl ?_); refine box_event ?hg (N := 2) ?hd (cs := #[.slice A0_0 l0_0.length c0_0, .bool a0_1, .int .i64 a0_2]) (t := 24) ?hr ?_; (case hd => rfl); (case hg => rfl); (case hr => first | (go_simp; done) | (go_simp; rfl)); intro gb298 hg w7 hbox hb; have n0_ := Aside0.mk (below_step (by repeat (first | (with_reducible first | exact HB.out | apply below_alloc | apply pw_below_drewN | apply below_drew1) | exact HB.out)) hb); have n1_ := Aside0.mk (hbox); have n2_ := Aside0.mk ((by rw [hg]; exact (below_size (by repeat (first | (with_reducible first | exact HB.out | apply below_alloc | apply pw_below_drewN | apply below_drew1) | exact HB.out))) : w.heap.size ≤ gb298)); have n3_ := Aside0.mk ((by rw [hg]; exact (below_size (by repeat (first | (with_reducible first | exact HB.out | apply below_alloc | apply pw_below_drewN | apply below_drew1) | exact HB.out))) : w.heap.size ≤ gb298)); clear HB; have HB := n0_; have BK298 := n1_; have GW298 := n2_; have GE298 := n3_; clear n0_ n1_ n2_ n3_; clear hb hbox hg) | ((with_reducible refine gate_dst (N := 3) rfl ?_); refine box_event ?hg (N := 3) ?hd (cs := #[.int .u8 a1_0, .string a1_1, .string a1_2, .string a1_3]) (t := 27) ?hr ?_; (case hd => rfl); (case hg => rfl); (case hr => first | (go_simp; done) | (go_simp; rfl)); intro gb299 hg w8 hbox hb; have n0_ := Aside0.mk (blk_below (g := gb298) (o := .cells #[.slice A0_0 l0_0.length c0_0, .bool a0_1, .int .i64 a0_2] 24 (0, 0)) (by (with_reducible repeat (first | refine blk_drewN ?_ _ | refine blk_drew ?_ | refine blk_alloc ?_ _)); exact BK298.out) hb); have n1_ := Aside0.mk (below_step (by repeat (first | (with_reducible first | exact HB.out | apply below_alloc | apply pw_below_drewN | apply below_drew1 | refine below_set ?_ GE298.out) | exact HB.out)) hb); have n2_ := Aside0.mk (hbox); have n3_ := Aside0.mk ((by rw [hg]; exact (below_size (by repeat (first | (with_reducible first | exact HB.out | apply below_alloc | apply pw_below_drewN | apply below_drew1 | refine below_set ?_ GE298.out) | exact HB.out))) : w.heap.size ≤ gb299)); have n4_ := Aside0.mk ((by rw [hg]; exact (below_size (by repeat (first | (with_reducible first | exact HB.out | apply below_alloc | apply pw_below_drewN | apply below_drew1 | refine below_set ?_ GE298.out) | exact HB.out))) : w.heap.size ≤ gb299)); have n5_ := Aside0.mk ((by rw [hg]; exact Nat.ne_of_lt (blk_lt (g := gb298) (o := .cells #[.slice A0_0 l0_0.length c0_0, .bool a0_1, .int .i64 a0_2] 24 (0, 0)) (by (with_reducible repeat (first | refine blk_drewN ?_ _ | refine blk_drew ?_ | refine blk_alloc ?_ _)); exact BK298.out)) : gb298 ≠ gb299)); have n6_ := Aside0.mk ((by rw [hg]; exact Nat.ne_of_gt (blk_lt (g := gb298) (o := .cells #[.slice A0_0 l0_0.length c0_0, .bool a0_1, .int .i64 a0_2] 24 (0, 0)) (by (with_reducible repeat (first | refine blk_drewN ?_ _ | refine blk_drew ?_ | refine blk_alloc ?_ _)); exact BK298.out)) : gb299 ≠ gb298)); clear BK298; clear HB; have BK298 := n0_; have HB := n1_; have BK299 := n2_; have GW299 := n3_; have GE299 := n4_; have NB298_299 := n5_; have NB299_298 := n6_; clear n0_ n1_ n2_ n3_ n4_ n5_ n6_; clear hb hbox hg) | ((with_reducible refine gate_dst (N := 4) rfl ?_); refine box_event ?hg (N := 4) ?hd (cs := #[.slice none 0 0, .bool false, .int .i64 0]) (t := 24) ?hr ?_; (case hd => rfl); (case hg => rfl); (case hr => first | (go_simp; done) | (go_simp; rfl)); intro gb300 hg w9 hbox hb; have n0_ := Aside0.mk (blk_below (g := gb298) (o := .cells #[.slice A0_0 l0_0.length c0_0, .bool a0_1, .int .i64 a0_2] 24 (0, 0)) (by (with_reducible repeat (first | refine blk_drewN ?_ _ | refine blk_drew ?_ | refine blk_alloc ?_ _)); exact BK298.out) hb); have n1_ := Aside0.mk (blk_below (g := gb299) (o := .cells #[.int .u8 a1_0, .string a1_1, .string a1_2, .string a1_3] 27 (0, 0)) (by (with_reducible repeat (first | refine blk_drewN ?_ _ | refine blk_drew ?_ | refine blk_alloc ?_ _)); exact BK299.out) hb); have n2_ := Aside0.mk (below_step (by repeat (first | (with_reducible first | exact HB.out | apply below_alloc | apply pw_below_drewN | apply below_drew1 | refine below_set ?_ GE298.out | refine below_set ?_ GE299.out) | exact HB.out)) hb); have n3_ := Aside0.mk (hbox); have n4_ := Aside0.mk ((by rw [hg]; exact (below_size (by repeat (first | (with_reducible first | exact HB.out | apply below_alloc | apply pw_below_drewN | apply below_drew1 | refine below_set ?_ GE298.out | refine below_set ?_ GE299.out) | exact HB.out))) : w.heap.size ≤ gb300)); have n5_ := Aside0.mk ((by rw [hg]; exact (below_size (by repeat (first | (with_reducible first | exact HB.out | apply below_alloc | apply pw_below_drewN | apply below_drew1 | refine below_set ?_ GE298.out | refine below_set ?_ GE299.out) | exact HB.out))) : w.heap.size ≤ gb300)); have n6_ := Aside0.mk ((by rw [hg]; exact Nat.ne_of_lt (blk_lt (g := gb298) (o := .cells #[.slice A0_0 l0_0.length c0_0, .bool a0_1, .int .i64 a0_2] 24 (0, 0)) (by (with_reducible repeat (first | refine blk_drewN ?_ _ | refine blk_drew ?_ | refine blk_alloc ?_ _)); exact BK298.out)) : gb298 ≠ gb300)); have n7_ := Aside0.mk ((by rw [hg]; exact Nat.ne_of_gt (blk_lt (g := gb298) (o := .cells #[.slice A0_0 l0_0.length c0_0, .bool a0_1, .int .i64 a0_2] 24 (0, 0)) (by (with_reducible repeat (first | refine blk_drewN ?_ _ | refine blk_drew ?_ | refine blk_alloc ?_ _)); exact BK298.out)) : gb300 ≠ gb298)); have n8_ := Aside0.mk ((by rw [hg]; exact Nat.ne_of_lt (blk_lt (g := gb299) (o := .cells #[.int .u8 a1_0, .string a1_1, .string a1_2, .string a1_3] 27 (0, 0)) (by (with_reducible repeat (first | refine blk_drewN ?_ _ | refine blk_drew ?_ | refine blk_alloc ?_ _)); exact BK299.out)) : gb299 ≠ gb300)); have n9_ := Aside0.mk ((by rw [hg]; exact Nat.ne_of_gt (blk_lt (g := gb299) (o := .cells #[.int .u8 a1_0, .string a1_1, .string a1_2, .string a1_3] 27 (0, 0)) (by (with_reducible repeat (first | refine blk_drewN ?_ _ | refine blk_drew ?_ | refine blk_alloc ?_ _)); exact BK299.out)) : gb300 ≠ gb299)); clear BK298; clear BK299; clear HB; have BK298 := n0_; have BK299 := n1_; have HB := n2_; have BK300 := n3_; have GW300 := n4_; have GE300 := n5_; have NB298_300 := n6_; have NB300_298 := n7_; have NB299_300 := n8_; have NB300_299 := n9_; clear n0_ n1_ n2_ n3_ n4_ n5_ n6_ n7_ n8_ n9_; clear hb hbox hg; have hnb10 := NB298_299.out; have hnc10 := NB299_298.out; have hnb11 := NB298_300.out; have hnc11 := NB300_298.out; have hcz12_0 : w9.cell? ⟨gb298, 0, none⟩ = some (.slice A0_0 l0_0.length c0_0) := (blk_cell BK298.out 0).trans rfl; have hcz12_1 : w9.cell? ⟨gb298, 1, none⟩ = some (.bool a0_1) := (blk_cell BK298.out 1).trans rfl; have hcz12_2 : w9.cell? ⟨gb298, 2, none⟩ = some (.int .i64 a0_2) := (blk_cell BK298.out 2).trans rfl; have hfz12_0 := blk_frozen BK298.out 0; have hfz12_1 := blk_frozen BK298.out 1; have hfz12_2 := blk_frozen BK298.out 2) | ((with_reducible refine gate_callee (f := 19) rfl ?_); refine goesL_ (some 10) rfl rfl Try.func19 (by kernel_rfl) rfl #[.agg #[.slice A0_0 l0_0.length c0_0, .bool a0_1, .int .i64 a0_2]] rfl (by (try simp only [List.map_toArray, List.map_cons, List.map_nil]); first | done | rfl | (simp only [List.length_drop, List.length_take]; rfl)) ?_; (with_reducible refine (potsherdref10_Check.calls k _ _ l0_0 a0_1 a0_2 t301 _ ?side1 ?side2 A3.out).mono ?_); (case side1 => repeat (first | exact (Kd.C_below HR0_0.out HB.out) | (with_reducible refine Kd.C_alloc ?_ _) | (with_reducible refine Kd.C_drewN ?_ _) | (with_reducible refine Kd.C_drew ?_))); (case side2 => exact HC0_0.out); rintro e w13 ⟨rfl, hb⟩; refine ⟨_, rfl, ?_⟩; have n0_ := Aside0.mk (blk_below (g := gb298) (o := .cells #[.slice A0_0 l0_0.length c0_0, .bool a0_1, .int .i64 a0_2] 24 (0, 0)) (by (with_reducible repeat (first | refine blk_drewN ?_ _ | refine blk_drew ?_ | refine blk_alloc ?_ _)); exact BK298.out) hb); have n1_ := Aside0.mk (blk_below (g := gb299) (o := .cells #[.int .u8 a1_0, .string a1_1, .string a1_2, .string a1_3] 27 (0, 0)) (by (with_reducible repeat (first | refine blk_drewN ?_ _ | refine blk_drew ?_ | refine blk_alloc ?_ _)); exact BK299.out) hb); have n2_ := Aside0.mk (blk_below (g := gb300) (o := .cells #[.slice none 0 0, .bool false, .int .i64 0] 24 (0, 0)) (by (with_reducible repeat (first | refine blk_drewN ?_ _ | refine blk_drew ?_ | refine blk_alloc ?_ _)); exact BK300.out) hb); have n3_ := Aside0.mk (below_step (by repeat (first | (with_reducible first | exact HB.out | apply below_alloc | apply pw_below_drewN | apply below_drew1 | refine below_set ?_ GE298.out | refine below_set ?_ GE299.out | refine below_set ?_ GE300.out) | exact HB.out)) hb); clear BK298; clear BK299; clear BK300; clear HB; have BK298 := n0_; have BK299 := n1_; have BK300 := n2_; have HB := n3_; clear n0_ n1_ n2_ n3_; (try clear hb); (try clear hb2); (try clear hk); (try clear hi); have hcz14_0 : w13.cell? ⟨gb298, 0, none⟩ = some (.slice A0_0 l0_0.length c0_0) := (blk_cell BK298.out 0).trans rfl; have hcz14_1 : w13.cell? ⟨gb298, 1, none⟩ = some (.bool a0_1) := (blk_cell BK298.out 1).trans rfl; have hcz14_2 : w13.cell? ⟨gb298, 2, none⟩ = some (.int .i64 a0_2) := (blk_cell BK298.out 2).trans rfl; have hfz14_0 := blk_frozen BK298.out 0; have hfz14_1 := blk_frozen BK298.out 1; have hfz14_2 := blk_frozen BK298.out 2) | ((with_reducible refine gate_callee (f := 9) rfl ?_); refine goesL_ (some 14) rfl rfl Try.func9 (by kernel_rfl) rfl #[.agg #[.slice A0_0 l0_0.length c0_0, .bool a0_1, .int .i64 a0_2]] rfl (by (try simp only [List.map_toArray, List.map_cons, List.map_nil]); first | done | rfl | (simp only [List.length_drop, List.length_take]; rfl)) ?_; (with_reducible refine (potsherdref10_Copy.calls _ _ l0_0 a0_1 a0_2 t302 t305 t306 _ ?side1 ?side2 A5.out).mono ?_); (case side1 => repeat (first | exact (Kd.C_below HR0_0.out HB.out) | (with_reducible refine Kd.C_alloc ?_ _) | (with_reducible refine Kd.C_drewN ?_ _) | (with_reducible refine Kd.C_drew ?_))); (case side2 => exact HC0_0.out); rintro e w15 ⟨v303, rfl, ho0, hb⟩; refine ⟨_, rfl, ?_⟩; have n0_ := Aside0.mk (Kd.R_lower ho0 (below_size (by repeat (first | (with_reducible first | exact HB.out | apply below_alloc | apply pw_below_drewN | apply below_drew1 | refine below_set ?_ GE298.out | refine below_set ?_ GE299.out | refine below_set ?_ GE300.out) | exact HB.out)))); have n1_ := Aside0.mk (blk_below (g := gb298) (o := .cells #[.slice A0_0 l0_0.length c0_0, .bool a0_1, .int .i64 a0_2] 24 (0, 0)) (by (with_reducible repeat (first | refine blk_drewN ?_ _ | refine blk_drew ?_ | refine blk_alloc ?_ _)); exact BK298.out) hb); have n2_ := Aside0.mk (blk_below (g := gb299) (o := .cells #[.int .u8 a1_0, .string a1_1, .string a1_2, .string a1_3] 27 (0, 0)) (by (with_reducible repeat (first | refine blk_drewN ?_ _ | refine blk_drew ?_ | refine blk_alloc ?_ _)); exact BK299.out) hb); have n3_ := Aside0.mk (blk_below (g := gb300) (o := .cells #[.slice none 0 0, .bool false, .int .i64 0] 24 (0, 0)) (by (with_reducible repeat (first | refine blk_drewN ?_ _ | refine blk_drew ?_ | refine blk_alloc ?_ _)); exact BK300.out) hb); have n4_ := Aside0.mk (below_step (by repeat (first | (with_reducible first | exact HB.out | apply below_alloc | apply pw_below_drewN | apply below_drew1 | refine below_set ?_ GE298.out | refine below_set ?_ GE299.out | refine below_set ?_ GE300.out) | exact HB.out)) hb); clear BK298; clear BK299; clear BK300; clear HB; have HO304 := n0_; have BK298 := n1_; have BK299 := n2_; have BK300 := n3_; have HB := n4_; clear n0_ n1_ n2_ n3_ n4_; (try clear hb); (try clear hb2); (try clear hk); (try clear hi); (try clear ho0); obtain ⟨Ao16, co16, eo16⟩ := Kd.R_slice HO304.out; subst eo16; have hcz17_0 : w15.cell? ⟨gb298, 0, none⟩ = some (.slice A0_0 l0_0.length c0_0) := (blk_cell BK298.out 0).trans rfl; have hcz17_1 : w15.cell? ⟨gb298, 1, none⟩ = some (.bool a0_1) := (blk_cell BK298.out 1).trans rfl; have hcz17_2 : w15.cell? ⟨gb298, 2, none⟩ = some (.int .i64 a0_2) := (blk_cell BK298.out 2).trans rfl; have hfz17_0 := blk_frozen BK298.out 0; have hfz17_1 := blk_frozen BK298.out 1; have hfz17_2 := blk_frozen BK298.out 2))
    (try simp only [Act.put, List.setIfInBounds_toArray, List.set_cons_zero, List.set_cons_succ])
    go_cut [22] (fun v22 wc => ∃ (kq : Nat) (x22_5 : Bool), v22 = .bool x22_5 ∧ Aside0 (potsherdref10_Do.j0 kq x22_5 t302 t305 t306 a1_0 a1_1 a1_2 a1_3 = some (r1, r2, r3, r4)) ∧ Aside0 (kq ≤ k) ∧ Aside0 (Kd.R k41 41 wc w.heap.size (fun _ => True) (.slice Ao16 t302.length co16) t302) ∧ Aside0 (wc.heap[gb298]? = some (.cells #[(.slice Ao16 t302.length co16), .bool t305, .int .i64 t306] 24 (0, 0))) ∧ Aside0 (wc.heap[gb299]? = some (.cells #[.int .u8 a1_0, .string a1_1, .string a1_2, .string a1_3] 27 (0, 0))) ∧ Aside0 (wc.heap[gb300]? = some (.cells #[(.slice none 0 0), .bool false, .int .i64 0] 24 (0, 0))) ∧ Aside0 (Below w.heap.size w wc))
    case first =>
      have H := HC6.out
      clear HC6
      by_cases c18 : a1_0 < 1
      · rw [if_pos c18] at H
        have c18b0 : decide (a1_0 < 1) = true := decide_eq_true c18
        clear c18
        (first | rw [c18b0] | (simp only [i64_w, i32_w]; rw [c18b0]) | skip)
        have H' := Aside0.mk H
        clear H
        have hnb19 := NB299_298.out
        have hnc19 := NB298_299.out
        have hnb20 := NB299_300.out
        have hnc20 := NB300_299.out
        have hcz21_0 : w15.cell? ⟨gb299, 0, none⟩ = some (.int .u8 a1_0) := (blk_cell BK299.out 0).trans rfl
        have hcz21_1 : w15.cell? ⟨gb299, 1, none⟩ = some (.string a1_1) := (blk_cell BK299.out 1).trans rfl
        have hcz21_2 : w15.cell? ⟨gb299, 2, none⟩ = some (.string a1_2) := (blk_cell BK299.out 2).trans rfl
        have hcz21_3 : w15.cell? ⟨gb299, 3, none⟩ = some (.string a1_3) := (blk_cell BK299.out 3).trans rfl
        have hfz21_0 := blk_frozen BK299.out 0
        have hfz21_1 := blk_frozen BK299.out 1
        have hfz21_2 := blk_frozen BK299.out 2
        have hfz21_3 := blk_frozen BK299.out 3
        go_wp2
        go_meet
        case rel => exact ⟨_, (true), (by first | rfl | (simp; done) | (simp [*]; done)), H', ⟨by first | omega | exact Nat.le_refl _⟩, ⟨by (with_reducible repeat (first | apply Kd.R_alloc | apply Kd.R_drewN | apply Kd.R_drew)); exact Kd.R_mono (Kd.R_far (p := ⟨gb298, 2, none⟩) (Kd.R_far (p := ⟨gb298, 1, none⟩) (Kd.R_far (p := ⟨gb298, 0, none⟩) (Kd.R_types HO304.out BK298.out (by decide)) (fun _ hk => hk.2) (.slice Ao16 t302.length co16)) (fun _ hk => hk.2) (.bool t305)) (fun _ hk => hk.2) (.int .i64 t306)) (fun _ hk => trivial)⟩, ⟨by (with_reducible repeat (first | refine blk_drewN ?_ _ | refine blk_drew ?_ | refine blk_alloc ?_ _)); refine blk_put (cs := #[.slice Ao16 t302.length co16, .bool t305, .int .i64 a0_2]) ?_ 2 _ rfl; (with_reducible repeat (first | refine blk_drewN ?_ _ | refine blk_drew ?_ | refine blk_alloc ?_ _)); refine blk_put (cs := #[.slice Ao16 t302.length co16, .bool a0_1, .int .i64 a0_2]) ?_ 1 _ rfl; (with_reducible repeat (first | refine blk_drewN ?_ _ | refine blk_drew ?_ | refine blk_alloc ?_ _)); refine blk_put (cs := #[.slice A0_0 l0_0.length c0_0, .bool a0_1, .int .i64 a0_2]) ?_ 0 _ rfl; (with_reducible repeat (first | refine blk_drewN ?_ _ | refine blk_drew ?_ | refine blk_alloc ?_ _)); exact BK298.out⟩, ⟨by (with_reducible repeat (first | refine blk_drewN ?_ _ | refine blk_drew ?_ | refine blk_alloc ?_ _)); refine blk_far ?_ NB299_298.out _; (with_reducible repeat (first | refine blk_drewN ?_ _ | refine blk_drew ?_ | refine blk_alloc ?_ _)); refine blk_far ?_ NB299_298.out _; (with_reducible repeat (first | refine blk_drewN ?_ _ | refine blk_drew ?_ | refine blk_alloc ?_ _)); refine blk_far ?_ NB299_298.out _; (with_reducible repeat (first | refine blk_drewN ?_ _ | refine blk_drew ?_ | refine blk_alloc ?_ _)); exact BK299.out⟩, ⟨by (with_reducible repeat (first | refine blk_drewN ?_ _ | refine blk_drew ?_ | refine blk_alloc ?_ _)); refine blk_far ?_ NB300_298.out _; (with_reducible repeat (first | refine blk_drewN ?_ _ | refine blk_drew ?_ | refine blk_alloc ?_ _)); refine blk_far ?_ NB300_298.out _; (with_reducible repeat (first | refine blk_drewN ?_ _ | refine blk_drew ?_ | refine blk_alloc ?_ _)); refine blk_far ?_ NB300_298.out _; (with_reducible repeat (first | refine blk_drewN ?_ _ | refine blk_drew ?_ | refine blk_alloc ?_ _)); exact BK300.out⟩, ⟨by repeat (first | (with_reducible first | exact HB.out | apply below_alloc | apply pw_below_drewN | apply below_drew1 | refine below_set ?_ GE298.out | refine below_set ?_ GE299.out | refine below_set ?_ GE300.out) | exact HB.out)⟩⟩
      · rw [if_neg c18] at H
        have c18b0 : decide (a1_0 < 1) = false := decide_eq_false c18
        clear c18
        (first | rw [c18b0] | (simp only [i64_w, i32_w]; rw [c18b0]) | skip)
        have H' := Aside0.mk H
        clear H
        have hnb22 := NB299_298.out
        have hnc22 := NB298_299.out
        have hnb23 := NB299_300.out
        have hnc23 := NB300_299.out
        have hcz24_0 : w15.cell? ⟨gb299, 0, none⟩ = some (.int .u8 a1_0) := (blk_cell BK299.out 0).trans rfl
        have hcz24_1 : w15.cell? ⟨gb299, 1, none⟩ = some (.string a1_1) := (blk_cell BK299.out 1).trans rfl
        have hcz24_2 : w15.cell? ⟨gb299, 2, none⟩ = some (.string a1_2) := (blk_cell BK299.out 2).trans rfl
        have hcz24_3 : w15.cell? ⟨gb299, 3, none⟩ = some (.string a1_3) := (blk_cell BK299.out 3).trans rfl
        have hfz24_0 := blk_frozen BK299.out 0
        have hfz24_1 := blk_frozen BK299.out 1
        have hfz24_2 := blk_frozen BK299.out 2
        have hfz24_3 := blk_frozen BK299.out 3
        go_wp2
        go_meet
        case rel => exact ⟨_, (decide (a1_0 ≥ 5)), (by first | rfl | (simp; done) | (simp [*]; done)), H', ⟨by first | omega | exact Nat.le_refl _⟩, ⟨by (with_reducible repeat (first | apply Kd.R_alloc | apply Kd.R_drewN | apply Kd.R_drew)); exact Kd.R_mono (Kd.R_far (p := ⟨gb298, 2, none⟩) (Kd.R_far (p := ⟨gb298, 1, none⟩) (Kd.R_far (p := ⟨gb298, 0, none⟩) (Kd.R_types HO304.out BK298.out (by decide)) (fun _ hk => hk.2) (.slice Ao16 t302.length co16)) (fun _ hk => hk.2) (.bool t305)) (fun _ hk => hk.2) (.int .i64 t306)) (fun _ hk => trivial)⟩, ⟨by (with_reducible repeat (first | refine blk_drewN ?_ _ | refine blk_drew ?_ | refine blk_alloc ?_ _)); refine blk_put (cs := #[.slice Ao16 t302.length co16, .bool t305, .int .i64 a0_2]) ?_ 2 _ rfl; (with_reducible repeat (first | refine blk_drewN ?_ _ | refine blk_drew ?_ | refine blk_alloc ?_ _)); refine blk_put (cs := #[.slice Ao16 t302.length co16, .bool a0_1, .int .i64 a0_2]) ?_ 1 _ rfl; (with_reducible repeat (first | refine blk_drewN ?_ _ | refine blk_drew ?_ | refine blk_alloc ?_ _)); refine blk_put (cs := #[.slice A0_0 l0_0.length c0_0, .bool a0_1, .int .i64 a0_2]) ?_ 0 _ rfl; (with_reducible repeat (first | refine blk_drewN ?_ _ | refine blk_drew ?_ | refine blk_alloc ?_ _)); exact BK298.out⟩, ⟨by (with_reducible repeat (first | refine blk_drewN ?_ _ | refine blk_drew ?_ | refine blk_alloc ?_ _)); refine blk_far ?_ NB299_298.out _; (with_reducible repeat (first | refine blk_drewN ?_ _ | refine blk_drew ?_ | refine blk_alloc ?_ _)); refine blk_far ?_ NB299_298.out _; (with_reducible repeat (first | refine blk_drewN ?_ _ | refine blk_drew ?_ | refine blk_alloc ?_ _)); refine blk_far ?_ NB299_298.out _; (with_reducible repeat (first | refine blk_drewN ?_ _ | refine blk_drew ?_ | refine blk_alloc ?_ _)); exact BK299.out⟩, ⟨by (with_reducible repeat (first | refine blk_drewN ?_ _ | refine blk_drew ?_ | refine blk_alloc ?_ _)); refine blk_far ?_ NB300_298.out _; (with_reducible repeat (first | refine blk_drewN ?_ _ | refine blk_drew ?_ | refine blk_alloc ?_ _)); refine blk_far ?_ NB300_298.out _; (with_reducible repeat (first | refine blk_drewN ?_ _ | refine blk_drew ?_ | refine blk_alloc ?_ _)); refine blk_far ?_ NB300_298.out _; (with_reducible repeat (first | refine blk_drewN ?_ _ | refine blk_drew ?_ | refine blk_alloc ?_ _)); exact BK300.out⟩, ⟨by repeat (first | (with_reducible first | exact HB.out | apply below_alloc | apply pw_below_drewN | apply below_drew1 | refine below_set ?_ GE298.out | refine below_set ?_ GE299.out | refine below_set ?_ GE300.out) | exact HB.out)⟩⟩
    case rest =>
      clear HC6
      try clear c1
      try clear c2
      try clear p2
      try clear c4
      try clear c4b0
      try clear c4b1
      try clear c9
      try clear c10
      try clear c11
      try clear c18
      try clear c18b0
      try clear c19
      try clear c20
      try clear c22
      try clear c23
      try clear hcz12_0
      try clear hcz12_1
      try clear hcz12_2
      try clear hcz14_0
      try clear hcz14_1
      try clear hcz14_2
      try clear hcz17_0
      try clear hcz17_1
      try clear hcz17_2
      try clear hcz21_0
      try clear hcz21_1
      try clear hcz21_2
      try clear hcz21_3
      try clear hcz24_0
      try clear hcz24_1
      try clear hcz24_2
      try clear hcz24_3
      try clear hfz12_0
      try clear hfz12_1
      try clear hfz12_2
      try clear hfz14_0
      try clear hfz14_1
      try clear hfz14_2
      try clear hfz17_0
      try clear hfz17_1
      try clear hfz17_2
      try clear hfz21_0
      try clear hfz21_1
      try clear hfz21_2
      try clear hfz21_3
      try clear hfz24_0
      try clear hfz24_1
      try clear hfz24_2
      try clear hfz24_3
      obtain ⟨kq, x22_5, rfl, HA, HJ5, HO_299000, BK298, BK299, BK300, HB⟩ := hcut
      cases kq with
      | zero => exact absurd HA.out (by simp [potsherdref10_Do.j0])
      | succ kj5 =>
        have H := HA.out
        clear HA
        simp only [potsherdref10_Do.j0] at H
        by_cases c25 : x22_5 = true
        · subst c25
          have H1 : (some (t302, t305, t306, 5)) = some (r1, r2, r3, r4) := by rw [if_pos rfl] at H; exact H
          clear H
          have H := H1
          clear H1
          simp only [Option.some.injEq, Prod.mk.injEq] at H
          obtain ⟨rfl, rfl, rfl, rfl⟩ := H
          have hnb26 := NB298_299.out
          have hnc26 := NB299_298.out
          have hnb27 := NB298_300.out
          have hnc27 := NB300_298.out
          have hcz28_0 : wc.cell? ⟨gb298, 0, none⟩ = some (.slice Ao16 t302.length co16) := (blk_cell BK298.out 0).trans rfl
          have hcz28_1 : wc.cell? ⟨gb298, 1, none⟩ = some (.bool t305) := (blk_cell BK298.out 1).trans rfl
          have hcz28_2 : wc.cell? ⟨gb298, 2, none⟩ = some (.int .i64 t306) := (blk_cell BK298.out 2).trans rfl
          have hfz28_0 := blk_frozen BK298.out 0
          have hfz28_1 := blk_frozen BK298.out 1
          have hfz28_2 := blk_frozen BK298.out 2
          have hnb29 := NB300_299.out
          have hnc29 := NB299_300.out
          have hcz30_0 : wc.cell? ⟨gb300, 0, none⟩ = some (.slice none 0 0) := (blk_cell BK300.out 0).trans rfl
          have hcz30_1 : wc.cell? ⟨gb300, 1, none⟩ = some (.bool false) := (blk_cell BK300.out 1).trans rfl
          have hcz30_2 : wc.cell? ⟨gb300, 2, none⟩ = some (.int .i64 0) := (blk_cell BK300.out 2).trans rfl
          have hfz30_0 := blk_frozen BK300.out 0
          have hfz30_1 := blk_frozen BK300.out 1
          have hfz30_2 := blk_frozen BK300.out 2
          go_wp2
          refine bodyPost_ret (results_ct rfl _ _ gb300 24 #[.slice Ao16 t302.length co16, .bool t305, .int .i64 t306] (0, 0) _ rfl (by (with_reducible repeat (first | refine blk_drewN ?_ _ | refine blk_drew ?_ | refine blk_alloc ?_ _)); refine blk_put (cs := #[.slice Ao16 t302.length co16, .bool t305, .int .i64 0]) ?_ 2 _ rfl; (with_reducible repeat (first | refine blk_drewN ?_ _ | refine blk_drew ?_ | refine blk_alloc ?_ _)); refine blk_put (cs := #[.slice Ao16 t302.length co16, .bool false, .int .i64 0]) ?_ 1 _ rfl; (with_reducible repeat (first | refine blk_drewN ?_ _ | refine blk_drew ?_ | refine blk_alloc ?_ _)); refine blk_put (cs := #[.slice none 0 0, .bool false, .int .i64 0]) ?_ 0 _ rfl; (with_reducible repeat (first | refine blk_drewN ?_ _ | refine blk_drew ?_ | refine blk_alloc ?_ _)); exact BK300.out) Try.underlying24 rfl (by kernel_rfl)) rfl ?_
          exact ⟨_, by first | rfl | (simp [errW_none, errW_some] <;> rfl) | (simp [*, errW_none, errW_some] <;> rfl), by (with_reducible repeat (first | apply Kd.R_alloc | apply Kd.R_drewN | apply Kd.R_drew)); exact Kd.R_mono (Kd.R_far (p := ⟨gb300, 2, none⟩) (Kd.R_far (p := ⟨gb300, 1, none⟩) (Kd.R_far (p := ⟨gb300, 0, none⟩) (Kd.R_types HO_299000.out BK300.out (by decide)) (fun _ hk => hk.2) (.slice Ao16 t302.length co16)) (fun _ hk => hk.2) (.bool t305)) (fun _ hk => hk.2) (.int .i64 t306)) (fun _ hk => trivial), by repeat (first | (with_reducible first | exact HB.out | apply below_alloc | apply pw_below_drewN | apply below_drew1 | refine below_set ?_ GE298.out | refine below_set ?_ GE299.out | refine below_set ?_ GE300.out) | exact HB.out)⟩
        · replace c25 := Bool.eq_false_iff.mpr c25
          subst c25
          have H1 : (if t305 = true then (some (t302, t305, t306, 12)) else ((potsherdref10_refuses.f kj5 t302 t305 t306 a1_0 a1_1 a1_2 a1_3).bind fun t307 => (if t307 = 0 then (if a1_0 = 1 then ((potsherdref10_with.f kj5 t302 t305 t306 a1_1 a1_3 0).bind fun bt308 => (potsherdref10_Do.j1 kj5 bt308.1 bt308.2.1 bt308.2.2 a1_0 a1_1 a1_2 a1_3)) else (potsherdref10_Do.j1 kj5 t302 t305 t306 a1_0 a1_1 a1_2 a1_3)) else (some (t302, t305, t306, t307))))) = some (r1, r2, r3, r4) := by rw [if_neg (show ¬ (false = true) by decide)] at H; exact H
          clear H
          have H := H1
          clear H1
          by_cases c31 : t305 = true
          · subst c31
            have H1 : (some (t302, true, t306, 12)) = some (r1, r2, r3, r4) := by rw [if_pos rfl] at H; exact H
            clear H
            have H := H1
            clear H1
            simp only [Option.some.injEq, Prod.mk.injEq] at H
            obtain ⟨rfl, rfl, rfl, rfl⟩ := H
            have hnb32 := NB298_299.out
            have hnc32 := NB299_298.out
            have hnb33 := NB298_300.out
            have hnc33 := NB300_298.out
            have hcz34_0 : wc.cell? ⟨gb298, 0, none⟩ = some (.slice Ao16 t302.length co16) := (blk_cell BK298.out 0).trans rfl
            have hcz34_1 : wc.cell? ⟨gb298, 1, none⟩ = some (.bool true) := (blk_cell BK298.out 1).trans rfl
            have hcz34_2 : wc.cell? ⟨gb298, 2, none⟩ = some (.int .i64 t306) := (blk_cell BK298.out 2).trans rfl
            have hfz34_0 := blk_frozen BK298.out 0
            have hfz34_1 := blk_frozen BK298.out 1
            have hfz34_2 := blk_frozen BK298.out 2
            have hnb35 := NB300_299.out
            have hnc35 := NB299_300.out
            have hcz36_0 : wc.cell? ⟨gb300, 0, none⟩ = some (.slice none 0 0) := (blk_cell BK300.out 0).trans rfl
            have hcz36_1 : wc.cell? ⟨gb300, 1, none⟩ = some (.bool false) := (blk_cell BK300.out 1).trans rfl
            have hcz36_2 : wc.cell? ⟨gb300, 2, none⟩ = some (.int .i64 0) := (blk_cell BK300.out 2).trans rfl
            have hfz36_0 := blk_frozen BK300.out 0
            have hfz36_1 := blk_frozen BK300.out 1
            have hfz36_2 := blk_frozen BK300.out 2
            go_wp2
            refine bodyPost_ret (results_ct rfl _ _ gb300 24 #[.slice Ao16 t302.length co16, .bool true, .int .i64 t306] (0, 0) _ rfl (by (with_reducible repeat (first | refine blk_drewN ?_ _ | refine blk_drew ?_ | refine blk_alloc ?_ _)); refine blk_put (cs := #[.slice Ao16 t302.length co16, .bool true, .int .i64 0]) ?_ 2 _ rfl; (with_reducible repeat (first | refine blk_drewN ?_ _ | refine blk_drew ?_ | refine blk_alloc ?_ _)); refine blk_put (cs := #[.slice Ao16 t302.length co16, .bool false, .int .i64 0]) ?_ 1 _ rfl; (with_reducible repeat (first | refine blk_drewN ?_ _ | refine blk_drew ?_ | refine blk_alloc ?_ _)); refine blk_put (cs := #[.slice none 0 0, .bool false, .int .i64 0]) ?_ 0 _ rfl; (with_reducible repeat (first | refine blk_drewN ?_ _ | refine blk_drew ?_ | refine blk_alloc ?_ _)); exact BK300.out) Try.underlying24 rfl (by kernel_rfl)) rfl ?_
            exact ⟨_, by first | rfl | (simp [errW_none, errW_some] <;> rfl) | (simp [*, errW_none, errW_some] <;> rfl), by (with_reducible repeat (first | apply Kd.R_alloc | apply Kd.R_drewN | apply Kd.R_drew)); exact Kd.R_mono (Kd.R_far (p := ⟨gb300, 2, none⟩) (Kd.R_far (p := ⟨gb300, 1, none⟩) (Kd.R_far (p := ⟨gb300, 0, none⟩) (Kd.R_types HO_299000.out BK300.out (by decide)) (fun _ hk => hk.2) (.slice Ao16 t302.length co16)) (fun _ hk => hk.2) (.bool true)) (fun _ hk => hk.2) (.int .i64 t306)) (fun _ hk => trivial), by repeat (first | (with_reducible first | exact HB.out | apply below_alloc | apply pw_below_drewN | apply below_drew1 | refine below_set ?_ GE298.out | refine below_set ?_ GE299.out | refine below_set ?_ GE300.out) | exact HB.out)⟩
          · replace c31 := Bool.eq_false_iff.mpr c31
            subst c31
            have H1 : ((potsherdref10_refuses.f kj5 t302 false t306 a1_0 a1_1 a1_2 a1_3).bind fun t307 => (if t307 = 0 then (if a1_0 = 1 then ((potsherdref10_with.f kj5 t302 false t306 a1_1 a1_3 0).bind fun bt308 => (potsherdref10_Do.j1 kj5 bt308.1 bt308.2.1 bt308.2.2 a1_0 a1_1 a1_2 a1_3)) else (potsherdref10_Do.j1 kj5 t302 false t306 a1_0 a1_1 a1_2 a1_3)) else (some (t302, false, t306, t307)))) = some (r1, r2, r3, r4) := by rw [if_neg (show ¬ (false = true) by decide)] at H; exact H
            clear H
            have H := H1
            clear H1
            replace H := Option.bind_eq_some_iff.mp H
            obtain ⟨t307, A370, H⟩ := H
            replace H : (if t307 = 0 then (if a1_0 = 1 then ((potsherdref10_with.f kj5 t302 false t306 a1_1 a1_3 0).bind fun bt308 => (potsherdref10_Do.j1 kj5 bt308.1 bt308.2.1 bt308.2.2 a1_0 a1_1 a1_2 a1_3)) else (potsherdref10_Do.j1 kj5 t302 false t306 a1_0 a1_1 a1_2 a1_3)) else (some (t302, false, t306, t307))) = some (r1, r2, r3, r4) := H
            have A37 := Aside0.mk A370
            clear A370
            by_cases c38 : t307 = 0
            · rw [if_pos c38] at H
              have c38b0 : (t307 == 0) = true := beq_iff_eq.mpr c38
              have c38b1 : (t307 != 0) = false := bne_eq_false_iff_eq.mpr c38
              clear c38
              have HC39 := Aside0.mk H
              clear H
              have hnb40 := NB298_299.out
              have hnc40 := NB299_298.out
              have hnb41 := NB298_300.out
              have hnc41 := NB300_298.out
              have hcz42_0 : wc.cell? ⟨gb298, 0, none⟩ = some (.slice Ao16 t302.length co16) := (blk_cell BK298.out 0).trans rfl
              have hcz42_1 : wc.cell? ⟨gb298, 1, none⟩ = some (.bool false) := (blk_cell BK298.out 1).trans rfl
              have hcz42_2 : wc.cell? ⟨gb298, 2, none⟩ = some (.int .i64 t306) := (blk_cell BK298.out 2).trans rfl
              have hfz42_0 := blk_frozen BK298.out 0
              have hfz42_1 := blk_frozen BK298.out 1
              have hfz42_2 := blk_frozen BK298.out 2
              have hnb43 := NB299_300.out
              have hnc43 := NB300_299.out
              have hcz44_0 : wc.cell? ⟨gb299, 0, none⟩ = some (.int .u8 a1_0) := (blk_cell BK299.out 0).trans rfl
              have hcz44_1 : wc.cell? ⟨gb299, 1, none⟩ = some (.string a1_1) := (blk_cell BK299.out 1).trans rfl
              have hcz44_2 : wc.cell? ⟨gb299, 2, none⟩ = some (.string a1_2) := (blk_cell BK299.out 2).trans rfl
              have hcz44_3 : wc.cell? ⟨gb299, 3, none⟩ = some (.string a1_3) := (blk_cell BK299.out 3).trans rfl
              have hfz44_0 := blk_frozen BK299.out 0
              have hfz44_1 := blk_frozen BK299.out 1
              have hfz44_2 := blk_frozen BK299.out 2
              have hfz44_3 := blk_frozen BK299.out 3
              go_upto_if 36 with (first | ((with_reducible refine gate_callee (f := 27) rfl ?_); refine goesL_ (some 29) rfl rfl Try.func27 (by kernel_rfl) rfl #[.agg #[.slice Ao16 t302.length co16, .bool false, .int .i64 t306], .agg #[.int .u8 a1_0, .string a1_1, .string a1_2, .string a1_3]] rfl (by (try simp only [List.map_toArray, List.map_cons, List.map_nil]); first | done | rfl | (simp only [List.length_drop, List.length_take]; rfl)) ?_; (with_reducible refine (potsherdref10_refuses.calls kj5 _ _ t302 false t306 a1_0 a1_1 a1_2 a1_3 t307 _ ?side1 ?side2 A37.out).mono ?_); (case side1 => repeat (first | exact (Kd.R_reads' HO_299000.out).2.2 | (with_reducible refine Kd.C_alloc ?_ _) | (with_reducible refine Kd.C_drewN ?_ _) | (with_reducible refine Kd.C_drew ?_))); (case side2 => exact (Kd.R_reads' HO_299000.out).2.1); rintro e w45 ⟨rfl, hb⟩; refine ⟨_, rfl, ?_⟩; have n0_ := Aside0.mk (Kd.R_below (by (with_reducible repeat (first | apply Kd.R_alloc | apply Kd.R_drewN | apply Kd.R_drew)); exact HO_299000.out) hb); have n1_ := Aside0.mk (blk_below (g := gb298) (o := .cells #[.slice Ao16 t302.length co16, .bool false, .int .i64 t306] 24 (0, 0)) (by (with_reducible repeat (first | refine blk_drewN ?_ _ | refine blk_drew ?_ | refine blk_alloc ?_ _)); exact BK298.out) hb); have n2_ := Aside0.mk (blk_below (g := gb299) (o := .cells #[.int .u8 a1_0, .string a1_1, .string a1_2, .string a1_3] 27 (0, 0)) (by (with_reducible repeat (first | refine blk_drewN ?_ _ | refine blk_drew ?_ | refine blk_alloc ?_ _)); exact BK299.out) hb); have n3_ := Aside0.mk (blk_below (g := gb300) (o := .cells #[.slice none 0 0, .bool false, .int .i64 0] 24 (0, 0)) (by (with_reducible repeat (first | refine blk_drewN ?_ _ | refine blk_drew ?_ | refine blk_alloc ?_ _)); exact BK300.out) hb); have n4_ := Aside0.mk (below_step (by repeat (first | (with_reducible first | exact HB.out | apply below_alloc | apply pw_below_drewN | apply below_drew1 | refine below_set ?_ GE298.out | refine below_set ?_ GE299.out | refine below_set ?_ GE300.out) | exact HB.out)) hb); clear HO_299000; clear BK298; clear BK299; clear BK300; clear HB; have HO_299000 := n0_; have BK298 := n1_; have BK299 := n2_; have BK300 := n3_; have HB := n4_; clear n0_ n1_ n2_ n3_ n4_; (try clear hb); (try clear hb2); (try clear hk); (try clear hi); have hcz46_0 : w45.cell? ⟨gb299, 0, none⟩ = some (.int .u8 a1_0) := (blk_cell BK299.out 0).trans rfl; have hcz46_1 : w45.cell? ⟨gb299, 1, none⟩ = some (.string a1_1) := (blk_cell BK299.out 1).trans rfl; have hcz46_2 : w45.cell? ⟨gb299, 2, none⟩ = some (.string a1_2) := (blk_cell BK299.out 2).trans rfl; have hcz46_3 : w45.cell? ⟨gb299, 3, none⟩ = some (.string a1_3) := (blk_cell BK299.out 3).trans rfl; have hfz46_0 := blk_frozen BK299.out 0; have hfz46_1 := blk_frozen BK299.out 1; have hfz46_2 := blk_frozen BK299.out 2; have hfz46_3 := blk_frozen BK299.out 3))
              (try simp only [Act.put, List.setIfInBounds_toArray, List.set_cons_zero, List.set_cons_succ])
              go_cut [] (fun wc => ∃ (kq : Nat) (x299000_38 : List (S41)) (x299001_38 : Bool) (x299002_38 : Int) (u299000 : Value), Aside0 (potsherdref10_Do.j1 kq x299000_38 x299001_38 x299002_38 a1_0 a1_1 a1_2 a1_3 = some (r1, r2, r3, r4)) ∧ Aside0 (kq ≤ kj5) ∧ Aside0 (Kd.R k41 41 wc w.heap.size (fun _ => True) u299000 x299000_38) ∧ Aside0 (wc.heap[gb298]? = some (.cells #[u299000, .bool x299001_38, .int .i64 x299002_38] 24 (0, 0))) ∧ Aside0 (wc.heap[gb299]? = some (.cells #[.int .u8 a1_0, .string a1_1, .string a1_2, .string a1_3] 27 (0, 0))) ∧ Aside0 (wc.heap[gb300]? = some (.cells #[(.slice none 0 0), .bool false, .int .i64 0] 24 (0, 0))) ∧ Aside0 (Below w.heap.size w wc))
              case first =>
                have H := HC39.out
                clear HC39
                by_cases c47 : a1_0 = 1
                · rw [if_pos c47] at H
                  have c47b0 : (a1_0 == 1) = true := beq_iff_eq.mpr c47
                  have c47b1 : (a1_0 != 1) = false := bne_eq_false_iff_eq.mpr c47
                  clear c47
                  (first | rw [c47b0] | (simp only [i64_w, i32_w]; rw [c47b0]) | skip)
                  replace H := Option.bind_eq_some_iff.mp H
                  obtain ⟨⟨t308, t311, t312⟩, A480, H⟩ := H
                  replace H : (potsherdref10_Do.j1 kj5 t308 t311 t312 a1_0 a1_1 a1_2 a1_3) = some (r1, r2, r3, r4) := H
                  have A48 := Aside0.mk A480
                  clear A480
                  have H' := Aside0.mk H
                  clear H
                  have hnb49 := NB298_299.out
                  have hnc49 := NB299_298.out
                  have hnb50 := NB298_300.out
                  have hnc50 := NB300_298.out
                  have hcz51_0 : w45.cell? ⟨gb298, 0, none⟩ = some (.slice Ao16 t302.length co16) := (blk_cell BK298.out 0).trans rfl
                  have hcz51_1 : w45.cell? ⟨gb298, 1, none⟩ = some (.bool false) := (blk_cell BK298.out 1).trans rfl
                  have hcz51_2 : w45.cell? ⟨gb298, 2, none⟩ = some (.int .i64 t306) := (blk_cell BK298.out 2).trans rfl
                  have hfz51_0 := blk_frozen BK298.out 0
                  have hfz51_1 := blk_frozen BK298.out 1
                  have hfz51_2 := blk_frozen BK298.out 2
                  have hnb52 := NB299_300.out
                  have hnc52 := NB300_299.out
                  have hcz53_0 : w45.cell? ⟨gb299, 0, none⟩ = some (.int .u8 a1_0) := (blk_cell BK299.out 0).trans rfl
                  have hcz53_1 : w45.cell? ⟨gb299, 1, none⟩ = some (.string a1_1) := (blk_cell BK299.out 1).trans rfl
                  have hcz53_2 : w45.cell? ⟨gb299, 2, none⟩ = some (.string a1_2) := (blk_cell BK299.out 2).trans rfl
                  have hcz53_3 : w45.cell? ⟨gb299, 3, none⟩ = some (.string a1_3) := (blk_cell BK299.out 3).trans rfl
                  have hfz53_0 := blk_frozen BK299.out 0
                  have hfz53_1 := blk_frozen BK299.out 1
                  have hfz53_2 := blk_frozen BK299.out 2
                  have hfz53_3 := blk_frozen BK299.out 3
                  go_wp2_with (first | ((with_reducible refine gate_callee (f := 28) rfl ?_); refine goesL_ (some 43) rfl rfl Try.func28 (by kernel_rfl) rfl #[.agg #[.slice Ao16 t302.length co16, .bool false, .int .i64 t306], .agg #[.string a1_1, .string a1_3, .int .i64 0]] rfl (by (try simp only [List.map_toArray, List.map_cons, List.map_nil]); first | done | rfl | (simp only [List.length_drop, List.length_take]; rfl)) ?_; (with_reducible refine (potsherdref10_with.calls kj5 _ _ t302 false t306 a1_1 a1_3 0 t308 t311 t312 _ ?side1 ?side2 A48.out).mono ?_); (case side1 => repeat (first | exact (Kd.R_reads' HO_299000.out).2.2 | (with_reducible refine Kd.C_alloc ?_ _) | (with_reducible refine Kd.C_drewN ?_ _) | (with_reducible refine Kd.C_drew ?_))); (case side2 => exact (Kd.R_reads' HO_299000.out).2.1); rintro e w54 ⟨v309, rfl, ho0, hb⟩; refine ⟨_, rfl, ?_⟩; have n0_ := Aside0.mk (Kd.R_elder' (by (with_reducible repeat (first | apply Kd.R_alloc | apply Kd.R_drewN | apply Kd.R_drew)); exact HO_299000.out) (Kd.R_base ho0) hb); have n1_ := Aside0.mk (Kd.R_lower (Kd.R_new' ho0 (Kd.R_lt (by (with_reducible repeat (first | apply Kd.R_alloc | apply Kd.R_drewN | apply Kd.R_drew)); exact HO_299000.out))) (below_size (by repeat (first | (with_reducible first | exact HB.out | apply below_alloc | apply pw_below_drewN | apply below_drew1 | refine below_set ?_ GE298.out | refine below_set ?_ GE299.out | refine below_set ?_ GE300.out) | exact HB.out)))); have n2_ := Aside0.mk (blk_below (g := gb298) (o := .cells #[.slice Ao16 t302.length co16, .bool false, .int .i64 t306] 24 (0, 0)) (by (with_reducible repeat (first | refine blk_drewN ?_ _ | refine blk_drew ?_ | refine blk_alloc ?_ _)); exact BK298.out) hb); have n3_ := Aside0.mk (blk_below (g := gb299) (o := .cells #[.int .u8 a1_0, .string a1_1, .string a1_2, .string a1_3] 27 (0, 0)) (by (with_reducible repeat (first | refine blk_drewN ?_ _ | refine blk_drew ?_ | refine blk_alloc ?_ _)); exact BK299.out) hb); have n4_ := Aside0.mk (blk_below (g := gb300) (o := .cells #[.slice none 0 0, .bool false, .int .i64 0] 24 (0, 0)) (by (with_reducible repeat (first | refine blk_drewN ?_ _ | refine blk_drew ?_ | refine blk_alloc ?_ _)); exact BK300.out) hb); have n5_ := Aside0.mk (below_step (by repeat (first | (with_reducible first | exact HB.out | apply below_alloc | apply pw_below_drewN | apply below_drew1 | refine below_set ?_ GE298.out | refine below_set ?_ GE299.out | refine below_set ?_ GE300.out) | exact HB.out)) hb); clear HO_299000; clear BK298; clear BK299; clear BK300; clear HB; have HO_299000 := n0_; have HO310 := n1_; have BK298 := n2_; have BK299 := n3_; have BK300 := n4_; have HB := n5_; clear n0_ n1_ n2_ n3_ n4_ n5_; (try clear hb); (try clear hb2); (try clear hk); (try clear hi); (try clear ho0); obtain ⟨Ao55, co55, eo55⟩ := Kd.R_slice HO310.out; subst eo55; have hcz56_0 : w54.cell? ⟨gb298, 0, none⟩ = some (.slice Ao16 t302.length co16) := (blk_cell BK298.out 0).trans rfl; have hcz56_1 : w54.cell? ⟨gb298, 1, none⟩ = some (.bool false) := (blk_cell BK298.out 1).trans rfl; have hcz56_2 : w54.cell? ⟨gb298, 2, none⟩ = some (.int .i64 t306) := (blk_cell BK298.out 2).trans rfl; have hfz56_0 := blk_frozen BK298.out 0; have hfz56_1 := blk_frozen BK298.out 1; have hfz56_2 := blk_frozen BK298.out 2))
                  go_meet
                  case rel => exact ⟨_, (t308), (t311), (t312), (.slice Ao55 t308.length co55), H', ⟨by have := HJ5.out; first | omega | exact Nat.le_refl _⟩, ⟨by (with_reducible repeat (first | apply Kd.R_alloc | apply Kd.R_drewN | apply Kd.R_drew)); exact Kd.R_mono (Kd.R_far (p := ⟨gb298, 2, none⟩) (Kd.R_far (p := ⟨gb298, 1, none⟩) (Kd.R_far (p := ⟨gb298, 0, none⟩) (Kd.R_types HO310.out BK298.out (by decide)) (fun _ hk => hk.2) (.slice Ao55 t308.length co55)) (fun _ hk => hk.2) (.bool t311)) (fun _ hk => hk.2) (.int .i64 t312)) (fun _ hk => trivial)⟩, ⟨by (with_reducible repeat (first | refine blk_drewN ?_ _ | refine blk_drew ?_ | refine blk_alloc ?_ _)); refine blk_put (cs := #[.slice Ao55 t308.length co55, .bool t311, .int .i64 t306]) ?_ 2 _ rfl; (with_reducible repeat (first | refine blk_drewN ?_ _ | refine blk_drew ?_ | refine blk_alloc ?_ _)); refine blk_put (cs := #[.slice Ao55 t308.length co55, .bool false, .int .i64 t306]) ?_ 1 _ rfl; (with_reducible repeat (first | refine blk_drewN ?_ _ | refine blk_drew ?_ | refine blk_alloc ?_ _)); refine blk_put (cs := #[.slice Ao16 t302.length co16, .bool false, .int .i64 t306]) ?_ 0 _ rfl; (with_reducible repeat (first | refine blk_drewN ?_ _ | refine blk_drew ?_ | refine blk_alloc ?_ _)); exact BK298.out⟩, ⟨by (with_reducible repeat (first | refine blk_drewN ?_ _ | refine blk_drew ?_ | refine blk_alloc ?_ _)); refine blk_far ?_ NB299_298.out _; (with_reducible repeat (first | refine blk_drewN ?_ _ | refine blk_drew ?_ | refine blk_alloc ?_ _)); refine blk_far ?_ NB299_298.out _; (with_reducible repeat (first | refine blk_drewN ?_ _ | refine blk_drew ?_ | refine blk_alloc ?_ _)); refine blk_far ?_ NB299_298.out _; (with_reducible repeat (first | refine blk_drewN ?_ _ | refine blk_drew ?_ | refine blk_alloc ?_ _)); exact BK299.out⟩, ⟨by (with_reducible repeat (first | refine blk_drewN ?_ _ | refine blk_drew ?_ | refine blk_alloc ?_ _)); refine blk_far ?_ NB300_298.out _; (with_reducible repeat (first | refine blk_drewN ?_ _ | refine blk_drew ?_ | refine blk_alloc ?_ _)); refine blk_far ?_ NB300_298.out _; (with_reducible repeat (first | refine blk_drewN ?_ _ | refine blk_drew ?_ | refine blk_alloc ?_ _)); refine blk_far ?_ NB300_298.out _; (with_reducible repeat (first | refine blk_drewN ?_ _ | refine blk_drew ?_ | refine blk_alloc ?_ _)); exact BK300.out⟩, ⟨by repeat (first | (with_reducible first | exact HB.out | apply below_alloc | apply pw_below_drewN | apply below_drew1 | refine below_set ?_ GE298.out | refine below_set ?_ GE299.out | refine below_set ?_ GE300.out) | exact HB.out)⟩⟩
                · rw [if_neg c47] at H
                  have c47b0 : (a1_0 == 1) = false := beq_eq_false_iff_ne.mpr c47
                  have c47b1 : (a1_0 != 1) = true := bne_iff_ne.mpr c47
                  (first | rw [c47b0] | (simp only [i64_w, i32_w]; rw [c47b0]) | skip)
                  have H' := Aside0.mk H
                  clear H
                  go_wp2
                  go_meet
                  case rel => exact ⟨_, (t302), (false), (t306), (.slice Ao16 t302.length co16), H', ⟨by have := HJ5.out; first | omega | exact Nat.le_refl _⟩, ⟨by (with_reducible repeat (first | apply Kd.R_alloc | apply Kd.R_drewN | apply Kd.R_drew)); exact HO_299000.out⟩, ⟨by (with_reducible repeat (first | refine blk_drewN ?_ _ | refine blk_drew ?_ | refine blk_alloc ?_ _)); exact BK298.out⟩, ⟨by (with_reducible repeat (first | refine blk_drewN ?_ _ | refine blk_drew ?_ | refine blk_alloc ?_ _)); exact BK299.out⟩, ⟨by (with_reducible repeat (first | refine blk_drewN ?_ _ | refine blk_drew ?_ | refine blk_alloc ?_ _)); exact BK300.out⟩, ⟨by repeat (first | (with_reducible first | exact HB.out | apply below_alloc | apply pw_below_drewN | apply below_drew1 | refine below_set ?_ GE298.out | refine below_set ?_ GE299.out | refine below_set ?_ GE300.out) | exact HB.out)⟩⟩
              case rest =>
                clear HC39
                try clear c1
                try clear c2
                try clear p2
                try clear c3
                try clear c4
                try clear c4b0
                try clear c4b1
                try clear c5
                try clear c9
                try clear c10
                try clear c11
                try clear c18
                try clear c18b0
                try clear c19
                try clear c20
                try clear c22
                try clear c23
                try clear c25
                try clear c26
                try clear c27
                try clear c28
                try clear c29
                try clear c31
                try clear c32
                try clear c33
                try clear c35
                try clear c38
                try clear c38b0
                try clear c38b1
                try clear c40
                try clear c41
                try clear c43
                try clear c47
                try clear c47b0
                try clear c47b1
                try clear c49
                try clear c50
                try clear c52
                try clear hcz12_0
                try clear hcz12_1
                try clear hcz12_2
                try clear hcz14_0
                try clear hcz14_1
                try clear hcz14_2
                try clear hcz17_0
                try clear hcz17_1
                try clear hcz17_2
                try clear hcz21_0
                try clear hcz21_1
                try clear hcz21_2
                try clear hcz21_3
                try clear hcz24_0
                try clear hcz24_1
                try clear hcz24_2
                try clear hcz24_3
                try clear hcz28_0
                try clear hcz28_1
                try clear hcz28_2
                try clear hcz30_0
                try clear hcz30_1
                try clear hcz30_2
                try clear hcz34_0
                try clear hcz34_1
                try clear hcz34_2
                try clear hcz36_0
                try clear hcz36_1
                try clear hcz36_2
                try clear hcz42_0
                try clear hcz42_1
                try clear hcz42_2
                try clear hcz44_0
                try clear hcz44_1
                try clear hcz44_2
                try clear hcz44_3
                try clear hcz46_0
                try clear hcz46_1
                try clear hcz46_2
                try clear hcz46_3
                try clear hcz51_0
                try clear hcz51_1
                try clear hcz51_2
                try clear hcz53_0
                try clear hcz53_1
                try clear hcz53_2
                try clear hcz53_3
                try clear hcz56_0
                try clear hcz56_1
                try clear hcz56_2
                try clear hfz12_0
                try clear hfz12_1
                try clear hfz12_2
                try clear hfz14_0
                try clear hfz14_1
                try clear hfz14_2
                try clear hfz17_0
                try clear hfz17_1
                try clear hfz17_2
                try clear hfz21_0
                try clear hfz21_1
                try clear hfz21_2
                try clear hfz21_3
                try clear hfz24_0
                try clear hfz24_1
                try clear hfz24_2
                try clear hfz24_3
                try clear hfz28_0
                try clear hfz28_1
                try clear hfz28_2
                try clear hfz30_0
                try clear hfz30_1
                try clear hfz30_2
                try clear hfz34_0
                try clear hfz34_1
                try clear hfz34_2
                try clear hfz36_0
                try clear hfz36_1
                try clear hfz36_2
                try clear hfz42_0
                try clear hfz42_1
                try clear hfz42_2
                try clear hfz44_0
                try clear hfz44_1
                try clear hfz44_2
                try clear hfz44_3
                try clear hfz46_0
                try clear hfz46_1
                try clear hfz46_2
                try clear hfz46_3
                try clear hfz51_0
                try clear hfz51_1
                try clear hfz51_2
                try clear hfz53_0
                try clear hfz53_1
                try clear hfz53_2
                try clear hfz53_3
                try clear hfz56_0
                try clear hfz56_1
                try clear hfz56_2
                try clear p2
                obtain ⟨kq, x299000_38, x299001_38, x299002_38, u299000, HA, HJ38, HO_299000, BK298, BK299, BK300, HB⟩ := hcut
                cases kq with
                | zero => exact absurd HA.out (by simp [potsherdref10_Do.j1])
                | succ kj38 =>
                  have H := HA.out
                  clear HA
                  simp only [potsherdref10_Do.j1] at H
                  by_cases c57 : x299002_38 = 0
                  · rw [if_pos c57] at H
                    have c57b0 : (x299002_38 == 0) = true := beq_iff_eq.mpr c57
                    have c57b1 : (x299002_38 != 0) = false := bne_eq_false_iff_eq.mpr c57
                    clear c57
                    simp only [Option.some.injEq, Prod.mk.injEq] at H
                    obtain ⟨rfl, rfl, rfl, rfl⟩ := H
                    have hnb58 := NB298_299.out
                    have hnc58 := NB299_298.out
                    have hnb59 := NB298_300.out
                    have hnc59 := NB300_298.out
                    have hcz60_0 : wc.cell? ⟨gb298, 0, none⟩ = some (u299000) := (blk_cell BK298.out 0).trans rfl
                    have hcz60_1 : wc.cell? ⟨gb298, 1, none⟩ = some (.bool x299001_38) := (blk_cell BK298.out 1).trans rfl
                    have hcz60_2 : wc.cell? ⟨gb298, 2, none⟩ = some (.int .i64 x299002_38) := (blk_cell BK298.out 2).trans rfl
                    have hfz60_0 := blk_frozen BK298.out 0
                    have hfz60_1 := blk_frozen BK298.out 1
                    have hfz60_2 := blk_frozen BK298.out 2
                    obtain ⟨Ao61, co61, eo61⟩ := Kd.R_slice HO_299000.out
                    subst eo61
                    have hnb62 := NB300_299.out
                    have hnc62 := NB299_300.out
                    have hcz63_0 : wc.cell? ⟨gb300, 0, none⟩ = some (.slice none 0 0) := (blk_cell BK300.out 0).trans rfl
                    have hcz63_1 : wc.cell? ⟨gb300, 1, none⟩ = some (.bool false) := (blk_cell BK300.out 1).trans rfl
                    have hcz63_2 : wc.cell? ⟨gb300, 2, none⟩ = some (.int .i64 0) := (blk_cell BK300.out 2).trans rfl
                    have hfz63_0 := blk_frozen BK300.out 0
                    have hfz63_1 := blk_frozen BK300.out 1
                    have hfz63_2 := blk_frozen BK300.out 2
                    go_wp2
                    refine bodyPost_ret (results_ct rfl _ _ gb300 24 #[.slice Ao61 x299000_38.length co61, .bool true, .int .i64 x299002_38] (0, 0) _ rfl (by (with_reducible repeat (first | refine blk_drewN ?_ _ | refine blk_drew ?_ | refine blk_alloc ?_ _)); refine blk_put (cs := #[.slice Ao61 x299000_38.length co61, .bool true, .int .i64 0]) ?_ 2 _ rfl; (with_reducible repeat (first | refine blk_drewN ?_ _ | refine blk_drew ?_ | refine blk_alloc ?_ _)); refine blk_put (cs := #[.slice Ao61 x299000_38.length co61, .bool false, .int .i64 0]) ?_ 1 _ rfl; (with_reducible repeat (first | refine blk_drewN ?_ _ | refine blk_drew ?_ | refine blk_alloc ?_ _)); refine blk_put (cs := #[.slice none 0 0, .bool false, .int .i64 0]) ?_ 0 _ rfl; (with_reducible repeat (first | refine blk_drewN ?_ _ | refine blk_drew ?_ | refine blk_alloc ?_ _)); refine blk_far ?_ NB300_298.out _; (with_reducible repeat (first | refine blk_drewN ?_ _ | refine blk_drew ?_ | refine blk_alloc ?_ _)); exact BK300.out) Try.underlying24 rfl (by kernel_rfl)) rfl ?_
                    exact ⟨_, by first | rfl | (simp [errW_none, errW_some] <;> rfl) | (simp [*, errW_none, errW_some] <;> rfl), by (with_reducible repeat (first | apply Kd.R_alloc | apply Kd.R_drewN | apply Kd.R_drew)); exact Kd.R_mono (Kd.R_far (p := ⟨gb300, 2, none⟩) (Kd.R_far (p := ⟨gb300, 1, none⟩) (Kd.R_far (p := ⟨gb300, 0, none⟩) (Kd.R_far (p := ⟨gb298, 1, none⟩) (Kd.R_types (Kd.R_types HO_299000.out BK298.out (by decide)) BK300.out (by decide)) (fun _ hk => hk.1.2) (.bool true)) (fun _ hk => hk.2) (.slice Ao61 x299000_38.length co61)) (fun _ hk => hk.2) (.bool true)) (fun _ hk => hk.2) (.int .i64 x299002_38)) (fun _ hk => trivial), by repeat (first | (with_reducible first | exact HB.out | apply below_alloc | apply pw_below_drewN | apply below_drew1 | refine below_set ?_ GE298.out | refine below_set ?_ GE299.out | refine below_set ?_ GE300.out) | exact HB.out)⟩
                  · rw [if_neg c57] at H
                    have c57b0 : (x299002_38 == 0) = false := beq_eq_false_iff_ne.mpr c57
                    have c57b1 : (x299002_38 != 0) = true := bne_iff_ne.mpr c57
                    have HC64 := Aside0.mk H
                    clear H
                    have hnb65 := NB298_299.out
                    have hnc65 := NB299_298.out
                    have hnb66 := NB298_300.out
                    have hnc66 := NB300_298.out
                    have hcz67_0 : wc.cell? ⟨gb298, 0, none⟩ = some (u299000) := (blk_cell BK298.out 0).trans rfl
                    have hcz67_1 : wc.cell? ⟨gb298, 1, none⟩ = some (.bool x299001_38) := (blk_cell BK298.out 1).trans rfl
                    have hcz67_2 : wc.cell? ⟨gb298, 2, none⟩ = some (.int .i64 x299002_38) := (blk_cell BK298.out 2).trans rfl
                    have hfz67_0 := blk_frozen BK298.out 0
                    have hfz67_1 := blk_frozen BK298.out 1
                    have hfz67_2 := blk_frozen BK298.out 2
                    go_upto_if 51 with (fail)
                    go_cut [] (fun wc => ∃ (kq : Nat) (x299002_63 : Int), Aside0 (potsherdref10_Do.j2 kq x299000_38 x299001_38 x299002_63 a1_0 a1_1 a1_2 a1_3 = some (r1, r2, r3, r4)) ∧ Aside0 (kq ≤ kj38) ∧ Aside0 (Kd.R k41 41 wc w.heap.size (fun _ => True) u299000 x299000_38) ∧ Aside0 (wc.heap[gb298]? = some (.cells #[u299000, .bool x299001_38, .int .i64 x299002_63] 24 (0, 0))) ∧ Aside0 (wc.heap[gb299]? = some (.cells #[.int .u8 a1_0, .string a1_1, .string a1_2, .string a1_3] 27 (0, 0))) ∧ Aside0 (wc.heap[gb300]? = some (.cells #[(.slice none 0 0), .bool false, .int .i64 0] 24 (0, 0))) ∧ Aside0 (Below w.heap.size w wc))
                    case first =>
                      have H := HC64.out
                      clear HC64
                      by_cases c68 : x299002_38 > 0
                      · rw [if_pos c68] at H
                        have c68b0 : decide (0 < x299002_38) = true := decide_eq_true c68
                        clear c68
                        (first | rw [c68b0] | (simp only [i64_w, i32_w]; rw [c68b0]) | skip)
                        have H' := Aside0.mk H
                        clear H
                        have hnb69 := NB298_299.out
                        have hnc69 := NB299_298.out
                        have hnb70 := NB298_300.out
                        have hnc70 := NB300_298.out
                        have hcz71_0 : wc.cell? ⟨gb298, 0, none⟩ = some (u299000) := (blk_cell BK298.out 0).trans rfl
                        have hcz71_1 : wc.cell? ⟨gb298, 1, none⟩ = some (.bool x299001_38) := (blk_cell BK298.out 1).trans rfl
                        have hcz71_2 : wc.cell? ⟨gb298, 2, none⟩ = some (.int .i64 x299002_38) := (blk_cell BK298.out 2).trans rfl
                        have hfz71_0 := blk_frozen BK298.out 0
                        have hfz71_1 := blk_frozen BK298.out 1
                        have hfz71_2 := blk_frozen BK298.out 2
                        go_wp2
                        go_meet
                        case rel => exact ⟨_, (wrap64 (x299002_38 - 1)), H', ⟨by have := HJ5.out; have := HJ38.out; first | omega | exact Nat.le_refl _⟩, ⟨by (with_reducible repeat (first | apply Kd.R_alloc | apply Kd.R_drewN | apply Kd.R_drew)); exact Kd.R_mono (Kd.R_far (p := ⟨gb298, 2, none⟩) (Kd.R_types HO_299000.out BK298.out (by decide)) (fun _ hk => hk.2) (.int .i64 (wrap64 (x299002_38 - 1)))) (fun _ hk => trivial)⟩, ⟨by (with_reducible repeat (first | refine blk_drewN ?_ _ | refine blk_drew ?_ | refine blk_alloc ?_ _)); refine blk_put (cs := #[u299000, .bool x299001_38, .int .i64 x299002_38]) ?_ 2 _ rfl; (with_reducible repeat (first | refine blk_drewN ?_ _ | refine blk_drew ?_ | refine blk_alloc ?_ _)); exact BK298.out⟩, ⟨by (with_reducible repeat (first | refine blk_drewN ?_ _ | refine blk_drew ?_ | refine blk_alloc ?_ _)); refine blk_far ?_ NB299_298.out _; (with_reducible repeat (first | refine blk_drewN ?_ _ | refine blk_drew ?_ | refine blk_alloc ?_ _)); exact BK299.out⟩, ⟨by (with_reducible repeat (first | refine blk_drewN ?_ _ | refine blk_drew ?_ | refine blk_alloc ?_ _)); refine blk_far ?_ NB300_298.out _; (with_reducible repeat (first | refine blk_drewN ?_ _ | refine blk_drew ?_ | refine blk_alloc ?_ _)); exact BK300.out⟩, ⟨by repeat (first | (with_reducible first | exact HB.out | apply below_alloc | apply pw_below_drewN | apply below_drew1 | refine below_set ?_ GE298.out | refine below_set ?_ GE299.out | refine below_set ?_ GE300.out) | exact HB.out)⟩⟩
                      · rw [if_neg c68] at H
                        have c68b0 : decide (0 < x299002_38) = false := decide_eq_false c68
                        clear c68
                        (first | rw [c68b0] | (simp only [i64_w, i32_w]; rw [c68b0]) | skip)
                        have H' := Aside0.mk H
                        clear H
                        go_wp2
                        go_meet
                        case rel => exact ⟨_, (x299002_38), H', ⟨by have := HJ5.out; have := HJ38.out; first | omega | exact Nat.le_refl _⟩, ⟨by (with_reducible repeat (first | apply Kd.R_alloc | apply Kd.R_drewN | apply Kd.R_drew)); exact HO_299000.out⟩, ⟨by (with_reducible repeat (first | refine blk_drewN ?_ _ | refine blk_drew ?_ | refine blk_alloc ?_ _)); exact BK298.out⟩, ⟨by (with_reducible repeat (first | refine blk_drewN ?_ _ | refine blk_drew ?_ | refine blk_alloc ?_ _)); exact BK299.out⟩, ⟨by (with_reducible repeat (first | refine blk_drewN ?_ _ | refine blk_drew ?_ | refine blk_alloc ?_ _)); exact BK300.out⟩, ⟨by repeat (first | (with_reducible first | exact HB.out | apply below_alloc | apply pw_below_drewN | apply below_drew1 | refine below_set ?_ GE298.out | refine below_set ?_ GE299.out | refine below_set ?_ GE300.out) | exact HB.out)⟩⟩
                    case rest =>
                      clear HC64
                      try clear c1
                      try clear c2
                      try clear p2
                      try clear c3
                      try clear c4
                      try clear c4b0
                      try clear c4b1
                      try clear c5
                      try clear c6
                      try clear p6
                      try clear c7
                      try clear c9
                      try clear c10
                      try clear c11
                      try clear c18
                      try clear c18b0
                      try clear c19
                      try clear c20
                      try clear c22
                      try clear c23
                      try clear c25
                      try clear c26
                      try clear c27
                      try clear c28
                      try clear c29
                      try clear c31
                      try clear c32
                      try clear c33
                      try clear c35
                      try clear c38
                      try clear c38b0
                      try clear c38b1
                      try clear c40
                      try clear c41
                      try clear c43
                      try clear c47
                      try clear c47b0
                      try clear c47b1
                      try clear c49
                      try clear c50
                      try clear c52
                      try clear c57
                      try clear c57b0
                      try clear c57b1
                      try clear c58
                      try clear c59
                      try clear c62
                      try clear p64
                      try clear c65
                      try clear c66
                      try clear c68
                      try clear c68b0
                      try clear c69
                      try clear c70
                      try clear hcz12_0
                      try clear hcz12_1
                      try clear hcz12_2
                      try clear hcz14_0
                      try clear hcz14_1
                      try clear hcz14_2
                      try clear hcz17_0
                      try clear hcz17_1
                      try clear hcz17_2
                      try clear hcz21_0
                      try clear hcz21_1
                      try clear hcz21_2
                      try clear hcz21_3
                      try clear hcz24_0
                      try clear hcz24_1
                      try clear hcz24_2
                      try clear hcz24_3
                      try clear hcz28_0
                      try clear hcz28_1
                      try clear hcz28_2
                      try clear hcz30_0
                      try clear hcz30_1
                      try clear hcz30_2
                      try clear hcz34_0
                      try clear hcz34_1
                      try clear hcz34_2
                      try clear hcz36_0
                      try clear hcz36_1
                      try clear hcz36_2
                      try clear hcz42_0
                      try clear hcz42_1
                      try clear hcz42_2
                      try clear hcz44_0
                      try clear hcz44_1
                      try clear hcz44_2
                      try clear hcz44_3
                      try clear hcz46_0
                      try clear hcz46_1
                      try clear hcz46_2
                      try clear hcz46_3
                      try clear hcz51_0
                      try clear hcz51_1
                      try clear hcz51_2
                      try clear hcz53_0
                      try clear hcz53_1
                      try clear hcz53_2
                      try clear hcz53_3
                      try clear hcz56_0
                      try clear hcz56_1
                      try clear hcz56_2
                      try clear hcz60_0
                      try clear hcz60_1
                      try clear hcz60_2
                      try clear hcz63_0
                      try clear hcz63_1
                      try clear hcz63_2
                      try clear hcz67_0
                      try clear hcz67_1
                      try clear hcz67_2
                      try clear hcz71_0
                      try clear hcz71_1
                      try clear hcz71_2
                      try clear hfz12_0
                      try clear hfz12_1
                      try clear hfz12_2
                      try clear hfz14_0
                      try clear hfz14_1
                      try clear hfz14_2
                      try clear hfz17_0
                      try clear hfz17_1
                      try clear hfz17_2
                      try clear hfz21_0
                      try clear hfz21_1
                      try clear hfz21_2
                      try clear hfz21_3
                      try clear hfz24_0
                      try clear hfz24_1
                      try clear hfz24_2
                      try clear hfz24_3
                      try clear hfz28_0
                      try clear hfz28_1
                      try clear hfz28_2
                      try clear hfz30_0
                      try clear hfz30_1
                      try clear hfz30_2
                      try clear hfz34_0
                      try clear hfz34_1
                      try clear hfz34_2
                      try clear hfz36_0
                      try clear hfz36_1
                      try clear hfz36_2
                      try clear hfz42_0
                      try clear hfz42_1
                      try clear hfz42_2
                      try clear hfz44_0
                      try clear hfz44_1
                      try clear hfz44_2
                      try clear hfz44_3
                      try clear hfz46_0
                      try clear hfz46_1
                      try clear hfz46_2
                      try clear hfz46_3
                      try clear hfz51_0
                      try clear hfz51_1
                      try clear hfz51_2
                      try clear hfz53_0
                      try clear hfz53_1
                      try clear hfz53_2
                      try clear hfz53_3
                      try clear hfz56_0
                      try clear hfz56_1
                      try clear hfz56_2
                      try clear hfz60_0
                      try clear hfz60_1
                      try clear hfz60_2
                      try clear hfz63_0
                      try clear hfz63_1
                      try clear hfz63_2
                      try clear hfz67_0
                      try clear hfz67_1
                      try clear hfz67_2
                      try clear hfz71_0
                      try clear hfz71_1
                      try clear hfz71_2
                      try clear p2
                      obtain ⟨kq, x299002_63, HA, HJ63, HO_299000, BK298, BK299, BK300, HB⟩ := hcut
                      cases kq with
                      | zero => exact absurd HA.out (by simp [potsherdref10_Do.j2])
                      | succ kj63 =>
                        have H := HA.out
                        clear HA
                        simp only [potsherdref10_Do.j2] at H
                        replace H := Option.bind_eq_some_iff.mp H
                        obtain ⟨t313, A720, H⟩ := H
                        replace H : (if a1_0 = 2 then (if 0 ≤ t313 then (if t313 < (x299000_38.length : Int) then (some ((x299000_38.set (t313 : Int).toNat (⟨(rd_T41 x299000_38 t313).f0, (rd_T41 x299000_38 t313).f1, (((rd_T41 x299000_38 t313).f1).size : Int)⟩ : S41)), x299001_38, x299002_63, 0)) else (none)) else (none)) else (if a1_0 = 3 then (if 0 ≤ t313 then (if t313 < (x299000_38.length : Int) then ((potsherdref10_without.f kj63 x299000_38 x299001_38 x299002_63 a1_1).bind fun bt318 => ((potsherdref10_with.f kj63 bt318.1 bt318.2.1 bt318.2.2 a1_2 ((rd_T41 x299000_38 t313).f1) ((rd_T41 x299000_38 t313).f2)).bind fun bt323 => (some (bt323.1, bt323.2.1, bt323.2.2, 0)))) else (none)) else (none)) else (if a1_0 = 4 then ((potsherdref10_without.f kj63 x299000_38 x299001_38 x299002_63 a1_1).bind fun bt328 => (some (bt328.1, bt328.2.1, bt328.2.2, 0))) else (some (x299000_38, x299001_38, x299002_63, 0))))) = some (r1, r2, r3, r4) := H
                        have A72 := Aside0.mk A720
                        clear A720
                        by_cases c73 : a1_0 = 2
                        · rw [if_pos c73] at H
                          have c73b0 : (a1_0 == 2) = true := beq_iff_eq.mpr c73
                          have c73b1 : (a1_0 != 2) = false := bne_eq_false_iff_eq.mpr c73
                          clear c73
                          by_cases c74 : 0 ≤ t313
                          · rw [if_pos c74] at H
                            have c74b0 : decide (0 ≤ t313) = true := decide_eq_true c74
                            clear c74
                            by_cases c75 : t313 < (x299000_38.length : Int)
                            · rw [if_pos c75] at H
                              have c75b0 : decide (t313 < (x299000_38.length : Int)) = true := decide_eq_true c75
                              clear c75
                              obtain ⟨y315, hy315⟩ : ∃ y_ : List (S41), y_ = (x299000_38.set (t313 : Int).toNat (⟨(rd_T41 x299000_38 t313).f0, (rd_T41 x299000_38 t313).f1, (((rd_T41 x299000_38 t313).f1).size : Int)⟩ : S41)) := ⟨_, rfl⟩
                              replace H : (some (y315, x299001_38, x299002_63, 0)) = some (r1, r2, r3, r4) := by first | (rw [hy315]; with_reducible exact H) | (have H2_ := (Option.bind_some _ _).symm.trans H; rw [hy315]; with_reducible exact H2_) | (have H2_ := (Option.bind_some _ _).symm.trans H; with_reducible exact H2_) | with_reducible exact H | (rw [hy315]; exact H) | exact H
                              have Ny315 := Aside0.mk hy315
                              clear hy315
                              simp only [Option.some.injEq, Prod.mk.injEq] at H
                              obtain ⟨rfl, rfl, rfl, rfl⟩ := H
                              have hnb77 := NB298_299.out
                              have hnc77 := NB299_298.out
                              have hnb78 := NB298_300.out
                              have hnc78 := NB300_298.out
                              have hcz79_0 : wc.cell? ⟨gb298, 0, none⟩ = some (u299000) := (blk_cell BK298.out 0).trans rfl
                              have hcz79_1 : wc.cell? ⟨gb298, 1, none⟩ = some (.bool x299001_38) := (blk_cell BK298.out 1).trans rfl
                              have hcz79_2 : wc.cell? ⟨gb298, 2, none⟩ = some (.int .i64 x299002_63) := (blk_cell BK298.out 2).trans rfl
                              have hfz79_0 := blk_frozen BK298.out 0
                              have hfz79_1 := blk_frozen BK298.out 1
                              have hfz79_2 := blk_frozen BK298.out 2
                              have hnb80 := NB299_300.out
                              have hnc80 := NB300_299.out
                              have hcz81_0 : wc.cell? ⟨gb299, 0, none⟩ = some (.int .u8 a1_0) := (blk_cell BK299.out 0).trans rfl
                              have hcz81_1 : wc.cell? ⟨gb299, 1, none⟩ = some (.string a1_1) := (blk_cell BK299.out 1).trans rfl
                              have hcz81_2 : wc.cell? ⟨gb299, 2, none⟩ = some (.string a1_2) := (blk_cell BK299.out 2).trans rfl
                              have hcz81_3 : wc.cell? ⟨gb299, 3, none⟩ = some (.string a1_3) := (blk_cell BK299.out 3).trans rfl
                              have hfz81_0 := blk_frozen BK299.out 0
                              have hfz81_1 := blk_frozen BK299.out 1
                              have hfz81_2 := blk_frozen BK299.out 2
                              have hfz81_3 := blk_frozen BK299.out 3
                              obtain ⟨Ao82, co82, eo82⟩ := Kd.R_slice HO_299000.out
                              subst eo82
                              try go_wp2_with (first | ((with_reducible refine gate_callee (f := 29) rfl ?_); refine goesL_ (some 59) rfl rfl Try.func29 (by kernel_rfl) rfl #[.agg #[.slice Ao82 x299000_38.length co82, .bool x299001_38, .int .i64 x299002_63], .string a1_1] rfl (by (try simp only [List.map_toArray, List.map_cons, List.map_nil]); first | done | rfl | (simp only [List.length_drop, List.length_take]; rfl)) ?_; (with_reducible refine (potsherdref10_find.calls kj63 _ _ x299000_38 x299001_38 x299002_63 a1_1 t313 _ ?side1 ?side2 A72.out).mono ?_); (case side1 => repeat (first | exact (Kd.R_reads' HO_299000.out).2.2 | (with_reducible refine Kd.C_alloc ?_ _) | (with_reducible refine Kd.C_drewN ?_ _) | (with_reducible refine Kd.C_drew ?_))); (case side2 => exact (Kd.R_reads' HO_299000.out).2.1); rintro e w83 ⟨rfl, hb⟩; refine ⟨_, rfl, ?_⟩; have n0_ := Aside0.mk (Kd.R_below (by (with_reducible repeat (first | apply Kd.R_alloc | apply Kd.R_drewN | apply Kd.R_drew)); exact HO_299000.out) hb); have n1_ := Aside0.mk (blk_below (g := gb298) (o := .cells #[.slice Ao82 x299000_38.length co82, .bool x299001_38, .int .i64 x299002_63] 24 (0, 0)) (by (with_reducible repeat (first | refine blk_drewN ?_ _ | refine blk_drew ?_ | refine blk_alloc ?_ _)); exact BK298.out) hb); have n2_ := Aside0.mk (blk_below (g := gb299) (o := .cells #[.int .u8 a1_0, .string a1_1, .string a1_2, .string a1_3] 27 (0, 0)) (by (with_reducible repeat (first | refine blk_drewN ?_ _ | refine blk_drew ?_ | refine blk_alloc ?_ _)); exact BK299.out) hb); have n3_ := Aside0.mk (blk_below (g := gb300) (o := .cells #[.slice none 0 0, .bool false, .int .i64 0] 24 (0, 0)) (by (with_reducible repeat (first | refine blk_drewN ?_ _ | refine blk_drew ?_ | refine blk_alloc ?_ _)); exact BK300.out) hb); have n4_ := Aside0.mk (below_step (by repeat (first | (with_reducible first | exact HB.out | apply below_alloc | apply pw_below_drewN | apply below_drew1 | refine below_set ?_ GE298.out | refine below_set ?_ GE299.out | refine below_set ?_ GE300.out) | exact HB.out)) hb); clear HO_299000; clear BK298; clear BK299; clear BK300; clear HB; have HO_299000 := n0_; have BK298 := n1_; have BK299 := n2_; have BK300 := n3_; have HB := n4_; clear n0_ n1_ n2_ n3_ n4_; (try clear hb); (try clear hb2); (try clear hk); (try clear hi); have hcz84_0 : w83.cell? ⟨gb299, 0, none⟩ = some (.int .u8 a1_0) := (blk_cell BK299.out 0).trans rfl; have hcz84_1 : w83.cell? ⟨gb299, 1, none⟩ = some (.string a1_1) := (blk_cell BK299.out 1).trans rfl; have hcz84_2 : w83.cell? ⟨gb299, 2, none⟩ = some (.string a1_2) := (blk_cell BK299.out 2).trans rfl; have hcz84_3 : w83.cell? ⟨gb299, 3, none⟩ = some (.string a1_3) := (blk_cell BK299.out 3).trans rfl; have hfz84_0 := blk_frozen BK299.out 0; have hfz84_1 := blk_frozen BK299.out 1; have hfz84_2 := blk_frozen BK299.out 2; have hfz84_3 := blk_frozen BK299.out 3))
                              have n0_ := Aside0.mk (Kd.R_drew HO_299000.out)
                              have n1_ := Aside0.mk (blk_drew BK298.out)
                              have n2_ := Aside0.mk (blk_drew BK299.out)
                              have n3_ := Aside0.mk (blk_drew BK300.out)
                              have n4_ := Aside0.mk (below_drew1 HB.out)
                              clear HO_299000
                              clear BK298
                              clear BK299
                              clear BK300
                              clear HB
                              have HO_299000 := n0_
                              have BK298 := n1_
                              have BK299 := n2_
                              have BK300 := n3_
                              have HB := n4_
                              clear n0_ n1_ n2_ n3_ n4_
                              have p314 : 0 ≤ (t313 : Int) := of_decide_eq_true (by first | (with_reducible assumption) | assumption)
                              have q314 : t313 < (x299000_38.length : Int) := of_decide_eq_true (by first | (with_reducible assumption) | assumption)
                              obtain ⟨ad314, e314, hx314_0, hx314_1, hx314_2⟩ := at_T41 (Kd.R_reads' HO_299000.out).2.2 t313 p314 q314
                              cases e314
                              replace p314 := eq_true p314
                              replace q314 := eq_true q314
                              have p76 : 0 ≤ (t313 : Int) := of_decide_eq_true (by first | (with_reducible assumption) | assumption)
                              have q76 : (t313 : Int) < ((x299000_38.length : Int) : Int) := of_decide_eq_true (by first | (with_reducible assumption) | assumption)
                              obtain ⟨go76, co76, eo76, gb76, gl76, cl76, HG76⟩ := Kd.R_form HO_299000.out (by omega)
                              (first | cases eo76 | (injection eo76 with ea_ en_ ec_; (first | subst ea_ | (injection ea_ with ea_; subst ea_)); subst ec_; clear en_))
                              have GB76 := Aside0.mk gb76
                              have GG76 := Aside0.mk HG76
                              clear gb76 gl76 HG76
                              (first | simp only [add_plain] at hx314_0 | skip)
                              (first | simp only [add_plain] at hx314_1 | skip)
                              (first | simp only [add_plain] at hx314_2 | skip)
                              obtain ⟨ce76, hcl76, hM76, hcc76, hfr76⟩ := Kd.R_elem HO_299000.out z41 (t313 : Int) p76 q76
                              obtain rfl := k41_openM hM76
                              have hx76_0 : World.cell? _ ⟨go76, (t313 : Int).toNat * 3, none⟩ = some (.string ((rd_T41 x299000_38 t313).f0)) := hcc76 0 _ rfl
                              have hx76_1 : World.cell? _ ⟨go76, (t313 : Int).toNat * 3 + 1, none⟩ = some (.string ((rd_T41 x299000_38 t313).f1)) := hcc76 1 _ rfl
                              have hx76_2 : World.cell? _ ⟨go76, (t313 : Int).toNat * 3 + 2, none⟩ = some (.int .i64 ((rd_T41 x299000_38 t313).f2)) := hcc76 2 _ rfl
                              have hf76_0 : World.frozen? _ ⟨go76, (t313 : Int).toNat * 3, none⟩ = false := hfr76 0
                              have hf76_1 : World.frozen? _ ⟨go76, (t313 : Int).toNat * 3 + 1, none⟩ = false := hfr76 1
                              have hf76_2 : World.frozen? _ ⟨go76, (t313 : Int).toNat * 3 + 2, none⟩ = false := hfr76 2
                              clear hcl76 hcc76 hfr76 hM76
                              replace p76 := eq_true p76
                              replace q76 := eq_true q76
                              obtain ⟨ce86, hcl86, hM86, hcc86, hfr86⟩ := Kd.R_elem HO_299000.out z41 (t313 : Int) (of_decide_eq_true (by first | (with_reducible assumption) | assumption)) (by have h_ : (t313 : Int) < ((x299000_38.length : Int) : Int) := of_decide_eq_true (by first | (with_reducible assumption) | assumption); first | exact h_ | (have e_ := (Kd.R_reads' HO_299000.out).1; omega) | simpa using h_)
                              obtain rfl := k41_openM hM86
                              have HP86 := (Kd.R_seg HO_299000.out (t313 : Int) (of_decide_eq_true (by first | (with_reducible assumption) | assumption)) (by have h_ : (t313 : Int) < ((x299000_38.length : Int) : Int) := of_decide_eq_true (by first | (with_reducible assumption) | assumption); first | exact h_ | (have e_ := (Kd.R_reads' HO_299000.out).1; omega) | simpa using h_) (seg := [.int .i64 (((rd_T41 x299000_38 t313).f1).size : Int)]) (j := 2) hcl86 hcc86 (show 3 ≤ 3 from by decide) (x' := (⟨(rd_T41 x299000_38 t313).f0, (rd_T41 x299000_38 t313).f1, (((rd_T41 x299000_38 t313).f1).size : Int)⟩ : S41)) (k41_mkM _ _ _ (⟨(rd_T41 x299000_38 t313).f0, (rd_T41 x299000_38 t313).f1, (((rd_T41 x299000_38 t313).f1).size : Int)⟩ : S41) ) (fun _ hk => hk)).1
                              rw [← Ny315.out] at HP86
                              have HQ86 := Aside0.mk HP86
                              clear hcl86 hcc86 hfr86 hM86 HP86
                              refine start_ (n := 13) (S := fun w' => w'.cell? ⟨gb298, 0, none⟩ = some (.slice (some ⟨go76, 0, none⟩) x299000_38.length co82) ∧ w'.cell? ⟨gb298, 1, none⟩ = some (.bool x299001_38) ∧ w'.cell? ⟨gb298, 2, none⟩ = some (.int .i64 x299002_63) ∧ w'.cell? ⟨go76, ((t313).toNat * 3), none⟩ = some (.string ((rd_T41 x299000_38 t313).f0)) ∧ w'.cell? ⟨go76, ((t313).toNat * 3) + 1, none⟩ = some (.string ((rd_T41 x299000_38 t313).f1)) ∧ w'.cell? ⟨go76, ((t313).toNat * 3) + 2, none⟩ = some (.int .i64 ((rd_T41 x299000_38 t313).f2))) (ds := [12]) #[false, false, false, false, false, false, false, false, false, false, false, false, false] (by kernel_rfl) rfl rfl ⟨(blk_cell BK298.out 0).trans rfl, (blk_cell BK298.out 1).trans rfl, (blk_cell BK298.out 2).trans rfl, hx314_0, hx314_1, hx314_2⟩ (fun hHeld => ?_); refine with_tabW potsherdref10_Do.tab21 potsherdref10_Do.bits21 (fun HT_ HW_ => ?_)
                              generalize w83.drew = w85 at HO_299000 BK298 BK299 BK300 HB GG76 HQ86 hf76_0 hf76_1 hf76_2 hx314_0 hx314_1 hx314_2 hx76_0 hx76_1 hx76_2 hHeld ⊢
                              refine pure_ (i := 0) (N := some 64) (v := ?_) (a' := ?_) #[true, false, false, false, false, false, false, false, false, false, false, false, false] rfl rfl (any_of HT_.out (by kernel_rfl)) (fun _ _ _ h => h) (Or.inl ⟨by rfl, ?_⟩) ?_ ?_
                              rotate_left
                              · intro w'
                                go_simp
                                with_reducible rfl
                              rotate_left
                              · simp only [Act.put, List.setIfInBounds_toArray, List.set_cons_zero, List.set_cons_succ, i64_w, i32_w]
                                rfl
                              refine pure_ (i := 2) (N := some 66) (v := ?_) (a' := ?_) #[true, false, true, false, false, false, false, false, false, false, false, false, false] rfl rfl (any_of HT_.out (by kernel_rfl)) (fun _ _ _ h => h) (Or.inl ⟨by rfl, ?_⟩) ?_ ?_
                              rotate_left
                              · intro w'
                                go_simp
                                with_reducible rfl
                              rotate_left
                              · simp only [Act.put, List.setIfInBounds_toArray, List.set_cons_zero, List.set_cons_succ, i64_w, i32_w]
                                rfl
                              refine pure_ (i := 3) (N := some 67) (v := ?_) (a' := ?_) #[true, false, true, true, false, false, false, false, false, false, false, false, false] rfl rfl (any_of HT_.out (by kernel_rfl)) (fun _ _ _ h => h) (Or.inl ⟨by rfl, ?_⟩) ?_ ?_
                              rotate_left
                              · intro w'
                                go_simp
                                with_reducible rfl
                              rotate_left
                              · simp only [Act.put, List.setIfInBounds_toArray, List.set_cons_zero, List.set_cons_succ, i64_w, i32_w]
                                rfl
                              refine pure_ (i := 5) (N := some 69) (v := ?_) (a' := ?_) #[true, false, true, true, false, true, false, false, false, false, false, false, false] rfl rfl (any_of HT_.out (by kernel_rfl)) (fun _ _ _ h => h) (Or.inl ⟨by rfl, ?_⟩) ?_ ?_
                              rotate_left
                              · intro w'
                                go_simp
                                with_reducible rfl
                              rotate_left
                              · simp only [Act.put, List.setIfInBounds_toArray, List.set_cons_zero, List.set_cons_succ, i64_w, i32_w]
                                rfl
                              refine take_ (i := 1) (N := some 65) (v := ?_) (a' := ?_) #[true, true, true, true, false, true, false, false, false, false, false, false, false] rfl rfl (take_ofW HT_.out HW_.out (by kernel_rfl)) (fun _ _ _ h => h) (Or.inl ⟨by rfl, ?_⟩) hHeld ?_ ?_
                              rotate_left
                              · rintro w' ⟨s0, s1, s2, s3, s4, s5⟩
                                go_simp
                                with_reducible rfl
                              rotate_left
                              · simp only [Act.put, List.setIfInBounds_toArray, List.set_cons_zero, List.set_cons_succ, i64_w, i32_w]
                                rfl
                              refine take_ (i := 4) (N := some 68) (v := ?_) (a' := ?_) #[true, true, true, true, true, true, false, false, false, false, false, false, false] rfl rfl (take_ofW HT_.out HW_.out (by kernel_rfl)) (fun _ _ _ h => h) (Or.inl ⟨by rfl, ?_⟩) hHeld ?_ ?_
                              rotate_left
                              · rintro w' ⟨s0, s1, s2, s3, s4, s5⟩
                                go_simp
                                with_reducible rfl
                              rotate_left
                              · simp only [Act.put, List.setIfInBounds_toArray, List.set_cons_zero, List.set_cons_succ, i64_w, i32_w]
                                rfl
                              refine pure_ (i := 6) (N := some 70) (v := ?_) (a' := ?_) #[true, true, true, true, true, true, true, false, false, false, false, false, false] rfl rfl (any_of HT_.out (by kernel_rfl)) (fun _ _ _ h => h) (Or.inl ⟨by rfl, ?_⟩) ?_ ?_
                              rotate_left
                              · intro w'
                                go_simp
                                with_reducible rfl
                              rotate_left
                              · simp only [Act.put, List.setIfInBounds_toArray, List.set_cons_zero, List.set_cons_succ, i64_w, i32_w]
                                rfl
                              refine pure_ (i := 7) (N := some 71) (v := ?_) (a' := ?_) #[true, true, true, true, true, true, true, true, false, false, false, false, false] rfl rfl (any_of HT_.out (by kernel_rfl)) (fun _ _ _ h => h) (Or.inl ⟨by rfl, ?_⟩) ?_ ?_
                              rotate_left
                              · intro w'
                                go_simp
                                with_reducible rfl
                              rotate_left
                              · simp only [Act.put, List.setIfInBounds_toArray, List.set_cons_zero, List.set_cons_succ, i64_w, i32_w]
                                rfl
                              refine take_ (i := 8) (N := some 72) (v := ?_) (a' := ?_) #[true, true, true, true, true, true, true, true, true, false, false, false, false] rfl rfl (take_ofW HT_.out HW_.out (by kernel_rfl)) (fun _ _ _ h => h) (Or.inl ⟨by rfl, ?_⟩) hHeld ?_ ?_
                              rotate_left
                              · rintro w' ⟨s0, s1, s2, s3, s4, s5⟩
                                go_simp
                                with_reducible rfl
                              rotate_left
                              · simp only [Act.put, List.setIfInBounds_toArray, List.set_cons_zero, List.set_cons_succ, i64_w, i32_w]
                                rfl
                              refine pure_ (i := 9) (N := some 73) (v := ?_) (a' := ?_) #[true, true, true, true, true, true, true, true, true, true, false, false, false] rfl rfl (any_of HT_.out (by kernel_rfl)) (fun _ _ _ h => h) (Or.inl ⟨by rfl, ?_⟩) ?_ ?_
                              rotate_left
                              · intro w'
                                go_simp
                                with_reducible rfl
                              rotate_left
                              · simp only [Act.put, List.setIfInBounds_toArray, List.set_cons_zero, List.set_cons_succ, i64_w, i32_w]
                                rfl
                              refine pure_ (i := 10) (N := some 74) (v := ?_) (a' := ?_) #[true, true, true, true, true, true, true, true, true, true, true, false, false] rfl rfl (any_of HT_.out (by kernel_rfl)) (fun _ _ _ h => h) (Or.inl ⟨by rfl, ?_⟩) ?_ ?_
                              rotate_left
                              · intro w'
                                go_simp
                                with_reducible rfl
                              rotate_left
                              · simp only [Act.put, List.setIfInBounds_toArray, List.set_cons_zero, List.set_cons_succ, i64_w, i32_w]
                                rfl
                              refine pure_ (i := 11) (N := some 75) (v := ?_) (a' := ?_) #[true, true, true, true, true, true, true, true, true, true, true, true, false] rfl rfl (any_of HT_.out (by kernel_rfl)) (fun _ _ _ h => h) (Or.inl ⟨by rfl, ?_⟩) ?_ ?_
                              rotate_left
                              · intro w'
                                go_simp
                                with_reducible rfl
                              rotate_left
                              · simp only [Act.put, List.setIfInBounds_toArray, List.set_cons_zero, List.set_cons_succ, i64_w, i32_w]
                                rfl
                              refine last_ (i := 12) (N := none) #[true, true, true, true, true, true, true, true, true, true, true, true, true] rfl rfl (one_of HT_.out (by kernel_rfl)) (by decide) (fun K hK => ?_)
                              refine skip_ (w1 := ?_) (by rfl) rfl ?_ ?_
                              rotate_left
                              · go_simp
                                rfl
                              refine hK.out _ _ ?_
                              clear hK K
                              refine done_ (done_of HT_.out (by kernel_rfl)) ?_
                              have n0_ : Aside0 (Kd.R k41 41 (w85.setCell ⟨go76, (t313 : Int).toNat * 3 + 2, none⟩ (.int .i64 (((rd_T41 x299000_38 t313).f1).size : Int))) w.heap.size (fun _ => True) (.slice (some ⟨go76, 0, none⟩) x299000_38.length co82) y315) := ⟨by (with_reducible repeat (first | apply Kd.R_alloc | apply Kd.R_drewN | apply Kd.R_drew)); exact HQ86.out⟩
                              have n1_ : Aside0 ((w85.setCell ⟨go76, (t313 : Int).toNat * 3 + 2, none⟩ (.int .i64 (((rd_T41 x299000_38 t313).f1).size : Int))).heap[gb298]? = some (.cells #[.slice (some ⟨go76, 0, none⟩) x299000_38.length co82, .bool x299001_38, .int .i64 x299002_63] 24 (0, 0))) := ⟨by (with_reducible repeat (first | refine blk_drewN ?_ _ | refine blk_drew ?_ | refine blk_alloc ?_ _)); refine blk_far ?_ (by have h_ := Kd.R_ne HO_299000.out BK298.out (by decide); intro e_; exact h_ (by rw [e_]; rfl)) _; (with_reducible repeat (first | refine blk_drewN ?_ _ | refine blk_drew ?_ | refine blk_alloc ?_ _)); exact BK298.out⟩
                              have n2_ : Aside0 ((w85.setCell ⟨go76, (t313 : Int).toNat * 3 + 2, none⟩ (.int .i64 (((rd_T41 x299000_38 t313).f1).size : Int))).heap[gb299]? = some (.cells #[.int .u8 a1_0, .string a1_1, .string a1_2, .string a1_3] 27 (0, 0))) := ⟨by (with_reducible repeat (first | refine blk_drewN ?_ _ | refine blk_drew ?_ | refine blk_alloc ?_ _)); refine blk_far ?_ (by have h_ := Kd.R_ne HO_299000.out BK299.out (by decide); intro e_; exact h_ (by rw [e_]; rfl)) _; (with_reducible repeat (first | refine blk_drewN ?_ _ | refine blk_drew ?_ | refine blk_alloc ?_ _)); exact BK299.out⟩
                              have n3_ : Aside0 ((w85.setCell ⟨go76, (t313 : Int).toNat * 3 + 2, none⟩ (.int .i64 (((rd_T41 x299000_38 t313).f1).size : Int))).heap[gb300]? = some (.cells #[.slice none 0 0, .bool false, .int .i64 0] 24 (0, 0))) := ⟨by (with_reducible repeat (first | refine blk_drewN ?_ _ | refine blk_drew ?_ | refine blk_alloc ?_ _)); refine blk_far ?_ (by have h_ := Kd.R_ne HO_299000.out BK300.out (by decide); intro e_; exact h_ (by rw [e_]; rfl)) _; (with_reducible repeat (first | refine blk_drewN ?_ _ | refine blk_drew ?_ | refine blk_alloc ?_ _)); exact BK300.out⟩
                              have n4_ : Aside0 (Below w.heap.size w (w85.setCell ⟨go76, (t313 : Int).toNat * 3 + 2, none⟩ (.int .i64 (((rd_T41 x299000_38 t313).f1).size : Int)))) := ⟨by repeat (first | (with_reducible first | exact HB.out | apply below_alloc | apply pw_below_drewN | apply below_drew1 | refine below_set ?_ GB76.out | refine below_set ?_ GE298.out | refine below_set ?_ GE299.out | refine below_set ?_ GE300.out) | exact HB.out)⟩
                              (try clear HO_299000)
                              (try clear BK298)
                              (try clear BK299)
                              (try clear BK300)
                              (try clear HB)
                              generalize (w85.setCell ⟨go76, (t313 : Int).toNat * 3 + 2, none⟩ (.int .i64 (((rd_T41 x299000_38 t313).f1).size : Int))) = w87 at n0_ n1_ n2_ n3_ n4_ ⊢
                              have HO_299000 := n0_
                              have BK298 := n1_
                              have BK299 := n2_
                              have BK300 := n3_
                              have HB := n4_
                              clear n0_ n1_ n2_ n3_ n4_
                              have hcz88_0 : w87.cell? ⟨gb298, 0, none⟩ = some (.slice (some ⟨go76, 0, none⟩) x299000_38.length co82) := (blk_cell BK298.out 0).trans rfl
                              have hcz88_1 : w87.cell? ⟨gb298, 1, none⟩ = some (.bool x299001_38) := (blk_cell BK298.out 1).trans rfl
                              have hcz88_2 : w87.cell? ⟨gb298, 2, none⟩ = some (.int .i64 x299002_63) := (blk_cell BK298.out 2).trans rfl
                              have hfz88_0 := blk_frozen BK298.out 0
                              have hfz88_1 := blk_frozen BK298.out 1
                              have hfz88_2 := blk_frozen BK298.out 2
                              have hcz89_0 : w87.cell? ⟨gb300, 0, none⟩ = some (.slice none 0 0) := (blk_cell BK300.out 0).trans rfl
                              have hcz89_1 : w87.cell? ⟨gb300, 1, none⟩ = some (.bool false) := (blk_cell BK300.out 1).trans rfl
                              have hcz89_2 : w87.cell? ⟨gb300, 2, none⟩ = some (.int .i64 0) := (blk_cell BK300.out 2).trans rfl
                              have hfz89_0 := blk_frozen BK300.out 0
                              have hfz89_1 := blk_frozen BK300.out 1
                              have hfz89_2 := blk_frozen BK300.out 2
                              try go_wp2
                              refine bodyPost_ret (results_ct rfl _ _ gb300 24 #[.slice (some ⟨go76, 0, none⟩) x299000_38.length co82, .bool x299001_38, .int .i64 x299002_63] (0, 0) _ rfl (by (with_reducible repeat (first | refine blk_drewN ?_ _ | refine blk_drew ?_ | refine blk_alloc ?_ _)); refine blk_put (cs := #[.slice (some ⟨go76, 0, none⟩) x299000_38.length co82, .bool x299001_38, .int .i64 0]) ?_ 2 _ rfl; (with_reducible repeat (first | refine blk_drewN ?_ _ | refine blk_drew ?_ | refine blk_alloc ?_ _)); refine blk_put (cs := #[.slice (some ⟨go76, 0, none⟩) x299000_38.length co82, .bool false, .int .i64 0]) ?_ 1 _ rfl; (with_reducible repeat (first | refine blk_drewN ?_ _ | refine blk_drew ?_ | refine blk_alloc ?_ _)); refine blk_put (cs := #[.slice none 0 0, .bool false, .int .i64 0]) ?_ 0 _ rfl; (with_reducible repeat (first | refine blk_drewN ?_ _ | refine blk_drew ?_ | refine blk_alloc ?_ _)); exact BK300.out) Try.underlying24 rfl (by kernel_rfl)) rfl ?_
                              exact ⟨_, by first | rfl | (simp [errW_none, errW_some] <;> rfl) | (simp [*, errW_none, errW_some] <;> rfl), by (with_reducible repeat (first | apply Kd.R_alloc | apply Kd.R_drewN | apply Kd.R_drew)); exact Kd.R_mono (Kd.R_far (p := ⟨gb300, 2, none⟩) (Kd.R_far (p := ⟨gb300, 1, none⟩) (Kd.R_far (p := ⟨gb300, 0, none⟩) (Kd.R_types HO_299000.out BK300.out (by decide)) (fun _ hk => hk.2) (.slice (some ⟨go76, 0, none⟩) x299000_38.length co82)) (fun _ hk => hk.2) (.bool x299001_38)) (fun _ hk => hk.2) (.int .i64 x299002_63)) (fun _ hk => trivial), by repeat (first | (with_reducible first | exact HB.out | apply below_alloc | apply pw_below_drewN | apply below_drew1 | refine below_set ?_ GE298.out | refine below_set ?_ GE299.out | refine below_set ?_ GE300.out) | exact HB.out)⟩
                            · rw [if_neg c75] at H
                              exact absurd H (by simp)
                          · rw [if_neg c74] at H
                            exact absurd H (by simp)
                        · rw [if_neg c73] at H
                          have c73b0 : (a1_0 == 2) = false := beq_eq_false_iff_ne.mpr c73
                          have c73b1 : (a1_0 != 2) = true := bne_iff_ne.mpr c73
                          by_cases c90 : a1_0 = 3
                          · rw [if_pos c90] at H
                            have c90b0 : (a1_0 == 3) = true := beq_iff_eq.mpr c90
                            have c90b1 : (a1_0 != 3) = false := bne_eq_false_iff_eq.mpr c90
                            clear c90
                            by_cases c91 : 0 ≤ t313
                            · rw [if_pos c91] at H
                              have c91b0 : decide (0 ≤ t313) = true := decide_eq_true c91
                              clear c91
                              by_cases c92 : t313 < (x299000_38.length : Int)
                              · rw [if_pos c92] at H
                                have c92b0 : decide (t313 < (x299000_38.length : Int)) = true := decide_eq_true c92
                                clear c92
                                replace H := Option.bind_eq_some_iff.mp H
                                obtain ⟨⟨t318, t321, t322⟩, A930, H⟩ := H
                                replace H : ((potsherdref10_with.f kj63 t318 t321 t322 a1_2 ((rd_T41 x299000_38 t313).f1) ((rd_T41 x299000_38 t313).f2)).bind fun bt323 => (some (bt323.1, bt323.2.1, bt323.2.2, 0))) = some (r1, r2, r3, r4) := H
                                have A93 := Aside0.mk A930
                                clear A930
                                replace H := Option.bind_eq_some_iff.mp H
                                obtain ⟨⟨t323, t326, t327⟩, A940, H⟩ := H
                                replace H : (some (t323, t326, t327, 0)) = some (r1, r2, r3, r4) := H
                                have A94 := Aside0.mk A940
                                clear A940
                                simp only [Option.some.injEq, Prod.mk.injEq] at H
                                obtain ⟨rfl, rfl, rfl, rfl⟩ := H
                                have hnb95 := NB298_299.out
                                have hnc95 := NB299_298.out
                                have hnb96 := NB298_300.out
                                have hnc96 := NB300_298.out
                                have hcz97_0 : wc.cell? ⟨gb298, 0, none⟩ = some (u299000) := (blk_cell BK298.out 0).trans rfl
                                have hcz97_1 : wc.cell? ⟨gb298, 1, none⟩ = some (.bool x299001_38) := (blk_cell BK298.out 1).trans rfl
                                have hcz97_2 : wc.cell? ⟨gb298, 2, none⟩ = some (.int .i64 x299002_63) := (blk_cell BK298.out 2).trans rfl
                                have hfz97_0 := blk_frozen BK298.out 0
                                have hfz97_1 := blk_frozen BK298.out 1
                                have hfz97_2 := blk_frozen BK298.out 2
                                have hnb98 := NB299_300.out
                                have hnc98 := NB300_299.out
                                have hcz99_0 : wc.cell? ⟨gb299, 0, none⟩ = some (.int .u8 a1_0) := (blk_cell BK299.out 0).trans rfl
                                have hcz99_1 : wc.cell? ⟨gb299, 1, none⟩ = some (.string a1_1) := (blk_cell BK299.out 1).trans rfl
                                have hcz99_2 : wc.cell? ⟨gb299, 2, none⟩ = some (.string a1_2) := (blk_cell BK299.out 2).trans rfl
                                have hcz99_3 : wc.cell? ⟨gb299, 3, none⟩ = some (.string a1_3) := (blk_cell BK299.out 3).trans rfl
                                have hfz99_0 := blk_frozen BK299.out 0
                                have hfz99_1 := blk_frozen BK299.out 1
                                have hfz99_2 := blk_frozen BK299.out 2
                                have hfz99_3 := blk_frozen BK299.out 3
                                obtain ⟨Ao100, co100, eo100⟩ := Kd.R_slice HO_299000.out
                                subst eo100
                                try go_wp2_with (first | ((with_reducible refine gate_callee (f := 29) rfl ?_); refine goesL_ (some 59) rfl rfl Try.func29 (by kernel_rfl) rfl #[.agg #[.slice Ao100 x299000_38.length co100, .bool x299001_38, .int .i64 x299002_63], .string a1_1] rfl (by (try simp only [List.map_toArray, List.map_cons, List.map_nil]); first | done | rfl | (simp only [List.length_drop, List.length_take]; rfl)) ?_; (with_reducible refine (potsherdref10_find.calls kj63 _ _ x299000_38 x299001_38 x299002_63 a1_1 t313 _ ?side1 ?side2 A72.out).mono ?_); (case side1 => repeat (first | exact (Kd.R_reads' HO_299000.out).2.2 | (with_reducible refine Kd.C_alloc ?_ _) | (with_reducible refine Kd.C_drewN ?_ _) | (with_reducible refine Kd.C_drew ?_))); (case side2 => exact (Kd.R_reads' HO_299000.out).2.1); rintro e w101 ⟨rfl, hb⟩; refine ⟨_, rfl, ?_⟩; have n0_ := Aside0.mk (Kd.R_below (by (with_reducible repeat (first | apply Kd.R_alloc | apply Kd.R_drewN | apply Kd.R_drew)); exact HO_299000.out) hb); have n1_ := Aside0.mk (blk_below (g := gb298) (o := .cells #[.slice Ao100 x299000_38.length co100, .bool x299001_38, .int .i64 x299002_63] 24 (0, 0)) (by (with_reducible repeat (first | refine blk_drewN ?_ _ | refine blk_drew ?_ | refine blk_alloc ?_ _)); exact BK298.out) hb); have n2_ := Aside0.mk (blk_below (g := gb299) (o := .cells #[.int .u8 a1_0, .string a1_1, .string a1_2, .string a1_3] 27 (0, 0)) (by (with_reducible repeat (first | refine blk_drewN ?_ _ | refine blk_drew ?_ | refine blk_alloc ?_ _)); exact BK299.out) hb); have n3_ := Aside0.mk (blk_below (g := gb300) (o := .cells #[.slice none 0 0, .bool false, .int .i64 0] 24 (0, 0)) (by (with_reducible repeat (first | refine blk_drewN ?_ _ | refine blk_drew ?_ | refine blk_alloc ?_ _)); exact BK300.out) hb); have n4_ := Aside0.mk (below_step (by repeat (first | (with_reducible first | exact HB.out | apply below_alloc | apply pw_below_drewN | apply below_drew1 | refine below_set ?_ GE298.out | refine below_set ?_ GE299.out | refine below_set ?_ GE300.out) | exact HB.out)) hb); clear HO_299000; clear BK298; clear BK299; clear BK300; clear HB; have HO_299000 := n0_; have BK298 := n1_; have BK299 := n2_; have BK300 := n3_; have HB := n4_; clear n0_ n1_ n2_ n3_ n4_; (try clear hb); (try clear hb2); (try clear hk); (try clear hi); have hcz102_0 : w101.cell? ⟨gb299, 0, none⟩ = some (.int .u8 a1_0) := (blk_cell BK299.out 0).trans rfl; have hcz102_1 : w101.cell? ⟨gb299, 1, none⟩ = some (.string a1_1) := (blk_cell BK299.out 1).trans rfl; have hcz102_2 : w101.cell? ⟨gb299, 2, none⟩ = some (.string a1_2) := (blk_cell BK299.out 2).trans rfl; have hcz102_3 : w101.cell? ⟨gb299, 3, none⟩ = some (.string a1_3) := (blk_cell BK299.out 3).trans rfl; have hfz102_0 := blk_frozen BK299.out 0; have hfz102_1 := blk_frozen BK299.out 1; have hfz102_2 := blk_frozen BK299.out 2; have hfz102_3 := blk_frozen BK299.out 3; have hcz103_0 : w101.cell? ⟨gb298, 0, none⟩ = some (.slice Ao100 x299000_38.length co100) := (blk_cell BK298.out 0).trans rfl; have hcz103_1 : w101.cell? ⟨gb298, 1, none⟩ = some (.bool x299001_38) := (blk_cell BK298.out 1).trans rfl; have hcz103_2 : w101.cell? ⟨gb298, 2, none⟩ = some (.int .i64 x299002_63) := (blk_cell BK298.out 2).trans rfl; have hfz103_0 := blk_frozen BK298.out 0; have hfz103_1 := blk_frozen BK298.out 1; have hfz103_2 := blk_frozen BK298.out 2; have p316 : 0 ≤ (t313 : Int) := of_decide_eq_true (by first | (with_reducible assumption) | assumption); have q316 : t313 < (x299000_38.length : Int) := of_decide_eq_true (by first | (with_reducible assumption) | assumption); obtain ⟨ad316, e316, hx316_0, hx316_1, hx316_2⟩ := at_T41 (Kd.R_reads' HO_299000.out).2.2 t313 p316 q316; cases e316; replace p316 := eq_true p316; replace q316 := eq_true q316) | ((with_reducible refine gate_dst (N := 8) rfl ?_); refine box_event ?hg (N := 8) ?hd (cs := #[.string (⟨#[]⟩ : ByteArray), .string (⟨#[]⟩ : ByteArray), .int .i64 0]) (t := 41) ?hr ?_; (case hd => rfl); (case hg => rfl); (case hr => first | (go_simp; done) | (go_simp; rfl)); intro gb317 hg w104 hbox hb; have n0_ := Aside0.mk (Kd.R_below (Kd.R_elderB (by (with_reducible repeat (first | apply Kd.R_alloc | apply Kd.R_drewN | apply Kd.R_drew)); exact HO_299000.out) gb317 (Nat.le_of_eq hg.symm)) hb); have n1_ := Aside0.mk (blk_below (g := gb298) (o := .cells #[.slice (some ad316) x299000_38.length co100, .bool x299001_38, .int .i64 x299002_63] 24 (0, 0)) (by (with_reducible repeat (first | refine blk_drewN ?_ _ | refine blk_drew ?_ | refine blk_alloc ?_ _)); exact BK298.out) hb); have n2_ := Aside0.mk (blk_below (g := gb299) (o := .cells #[.int .u8 a1_0, .string a1_1, .string a1_2, .string a1_3] 27 (0, 0)) (by (with_reducible repeat (first | refine blk_drewN ?_ _ | refine blk_drew ?_ | refine blk_alloc ?_ _)); exact BK299.out) hb); have n3_ := Aside0.mk (blk_below (g := gb300) (o := .cells #[.slice none 0 0, .bool false, .int .i64 0] 24 (0, 0)) (by (with_reducible repeat (first | refine blk_drewN ?_ _ | refine blk_drew ?_ | refine blk_alloc ?_ _)); exact BK300.out) hb); have n4_ := Aside0.mk (below_step (by repeat (first | (with_reducible first | exact HB.out | apply below_alloc | apply pw_below_drewN | apply below_drew1 | refine below_set ?_ GE298.out | refine below_set ?_ GE299.out | refine below_set ?_ GE300.out) | exact HB.out)) hb); have n5_ := Aside0.mk (hbox); have n6_ := Aside0.mk ((by rw [hg]; exact (below_size (by repeat (first | (with_reducible first | exact HB.out | apply below_alloc | apply pw_below_drewN | apply below_drew1 | refine below_set ?_ GE298.out | refine below_set ?_ GE299.out | refine below_set ?_ GE300.out) | exact HB.out))) : w.heap.size ≤ gb317)); have n7_ := Aside0.mk ((by rw [hg]; exact (below_size (by repeat (first | (with_reducible first | exact HB.out | apply below_alloc | apply pw_below_drewN | apply below_drew1 | refine below_set ?_ GE298.out | refine below_set ?_ GE299.out | refine below_set ?_ GE300.out) | exact HB.out))) : w.heap.size ≤ gb317)); have n8_ := Aside0.mk ((by rw [hg]; exact Nat.ne_of_lt (blk_lt (g := gb298) (o := .cells #[.slice (some ad316) x299000_38.length co100, .bool x299001_38, .int .i64 x299002_63] 24 (0, 0)) (by (with_reducible repeat (first | refine blk_drewN ?_ _ | refine blk_drew ?_ | refine blk_alloc ?_ _)); exact BK298.out)) : gb298 ≠ gb317)); have n9_ := Aside0.mk ((by rw [hg]; exact Nat.ne_of_gt (blk_lt (g := gb298) (o := .cells #[.slice (some ad316) x299000_38.length co100, .bool x299001_38, .int .i64 x299002_63] 24 (0, 0)) (by (with_reducible repeat (first | refine blk_drewN ?_ _ | refine blk_drew ?_ | refine blk_alloc ?_ _)); exact BK298.out)) : gb317 ≠ gb298)); have n10_ := Aside0.mk ((by rw [hg]; exact Nat.ne_of_lt (blk_lt (g := gb299) (o := .cells #[.int .u8 a1_0, .string a1_1, .string a1_2, .string a1_3] 27 (0, 0)) (by (with_reducible repeat (first | refine blk_drewN ?_ _ | refine blk_drew ?_ | refine blk_alloc ?_ _)); exact BK299.out)) : gb299 ≠ gb317)); have n11_ := Aside0.mk ((by rw [hg]; exact Nat.ne_of_gt (blk_lt (g := gb299) (o := .cells #[.int .u8 a1_0, .string a1_1, .string a1_2, .string a1_3] 27 (0, 0)) (by (with_reducible repeat (first | refine blk_drewN ?_ _ | refine blk_drew ?_ | refine blk_alloc ?_ _)); exact BK299.out)) : gb317 ≠ gb299)); have n12_ := Aside0.mk ((by rw [hg]; exact Nat.ne_of_lt (blk_lt (g := gb300) (o := .cells #[.slice none 0 0, .bool false, .int .i64 0] 24 (0, 0)) (by (with_reducible repeat (first | refine blk_drewN ?_ _ | refine blk_drew ?_ | refine blk_alloc ?_ _)); exact BK300.out)) : gb300 ≠ gb317)); have n13_ := Aside0.mk ((by rw [hg]; exact Nat.ne_of_gt (blk_lt (g := gb300) (o := .cells #[.slice none 0 0, .bool false, .int .i64 0] 24 (0, 0)) (by (with_reducible repeat (first | refine blk_drewN ?_ _ | refine blk_drew ?_ | refine blk_alloc ?_ _)); exact BK300.out)) : gb317 ≠ gb300)); clear HO_299000; clear BK298; clear BK299; clear BK300; clear HB; have HO_299000 := n0_; have BK298 := n1_; have BK299 := n2_; have BK300 := n3_; have HB := n4_; have BK317 := n5_; have GW317 := n6_; have GE317 := n7_; have NB298_317 := n8_; have NB317_298 := n9_; have NB299_317 := n10_; have NB317_299 := n11_; have NB300_317 := n12_; have NB317_300 := n13_; clear n0_ n1_ n2_ n3_ n4_ n5_ n6_ n7_ n8_ n9_ n10_ n11_ n12_ n13_; clear hb hbox hg; have hnb105 := NB317_298.out; have hnc105 := NB298_317.out; have hnb106 := NB317_299.out; have hnc106 := NB299_317.out; have hnb107 := NB317_300.out; have hnc107 := NB300_317.out; have hcz108_0 : w104.cell? ⟨gb317, 0, none⟩ = some (.string (⟨#[]⟩ : ByteArray)) := (blk_cell BK317.out 0).trans rfl; have hcz108_1 : w104.cell? ⟨gb317, 1, none⟩ = some (.string (⟨#[]⟩ : ByteArray)) := (blk_cell BK317.out 1).trans rfl; have hcz108_2 : w104.cell? ⟨gb317, 2, none⟩ = some (.int .i64 0) := (blk_cell BK317.out 2).trans rfl; have hfz108_0 := blk_frozen BK317.out 0; have hfz108_1 := blk_frozen BK317.out 1; have hfz108_2 := blk_frozen BK317.out 2; have hcz109_0 : w104.cell? ⟨gb299, 0, none⟩ = some (.int .u8 a1_0) := (blk_cell BK299.out 0).trans rfl; have hcz109_1 : w104.cell? ⟨gb299, 1, none⟩ = some (.string a1_1) := (blk_cell BK299.out 1).trans rfl; have hcz109_2 : w104.cell? ⟨gb299, 2, none⟩ = some (.string a1_2) := (blk_cell BK299.out 2).trans rfl; have hcz109_3 : w104.cell? ⟨gb299, 3, none⟩ = some (.string a1_3) := (blk_cell BK299.out 3).trans rfl; have hfz109_0 := blk_frozen BK299.out 0; have hfz109_1 := blk_frozen BK299.out 1; have hfz109_2 := blk_frozen BK299.out 2; have hfz109_3 := blk_frozen BK299.out 3))
                                have n0_ : Aside0 (Kd.R k41 41 ((((w104.setCell ⟨gb317, 0, none⟩ (.string ((rd_T41 x299000_38 t313).f0))).setCell ⟨gb317, 1, none⟩ (.string ((rd_T41 x299000_38 t313).f1))).setCell ⟨gb317, 2, none⟩ (.int .i64 ((rd_T41 x299000_38 t313).f2))).setCell ⟨gb317, 0, none⟩ (.string a1_2)) w.heap.size (fun k_ => k_ ≠ gb317) (.slice (some ad316) x299000_38.length co100) x299000_38) := ⟨by (with_reducible repeat (first | apply Kd.R_alloc | apply Kd.R_drewN | apply Kd.R_drew)); exact Kd.R_mono (Kd.R_far (p := ⟨gb317, 0, none⟩) (Kd.R_far (p := ⟨gb317, 2, none⟩) (Kd.R_far (p := ⟨gb317, 1, none⟩) (Kd.R_far (p := ⟨gb317, 0, none⟩) (Kd.R_mono HO_299000.out (fun k_ hk => (⟨hk, hk.2⟩ : _ ∧ k_ ≠ gb317))) (fun _ hk => hk.2) (.string ((rd_T41 x299000_38 t313).f0))) (fun _ hk => hk.2) (.string ((rd_T41 x299000_38 t313).f1))) (fun _ hk => hk.2) (.int .i64 ((rd_T41 x299000_38 t313).f2))) (fun _ hk => hk.2) (.string a1_2)) (fun _ hk => hk.1.2)⟩
                                have n1_ : Aside0 (((((w104.setCell ⟨gb317, 0, none⟩ (.string ((rd_T41 x299000_38 t313).f0))).setCell ⟨gb317, 1, none⟩ (.string ((rd_T41 x299000_38 t313).f1))).setCell ⟨gb317, 2, none⟩ (.int .i64 ((rd_T41 x299000_38 t313).f2))).setCell ⟨gb317, 0, none⟩ (.string a1_2)).heap[gb298]? = some (.cells #[.slice (some ad316) x299000_38.length co100, .bool x299001_38, .int .i64 x299002_63] 24 (0, 0))) := ⟨by (with_reducible repeat (first | refine blk_drewN ?_ _ | refine blk_drew ?_ | refine blk_alloc ?_ _)); refine blk_far ?_ NB298_317.out _; (with_reducible repeat (first | refine blk_drewN ?_ _ | refine blk_drew ?_ | refine blk_alloc ?_ _)); refine blk_far ?_ NB298_317.out _; (with_reducible repeat (first | refine blk_drewN ?_ _ | refine blk_drew ?_ | refine blk_alloc ?_ _)); refine blk_far ?_ NB298_317.out _; (with_reducible repeat (first | refine blk_drewN ?_ _ | refine blk_drew ?_ | refine blk_alloc ?_ _)); refine blk_far ?_ NB298_317.out _; (with_reducible repeat (first | refine blk_drewN ?_ _ | refine blk_drew ?_ | refine blk_alloc ?_ _)); exact BK298.out⟩
                                have n2_ : Aside0 (((((w104.setCell ⟨gb317, 0, none⟩ (.string ((rd_T41 x299000_38 t313).f0))).setCell ⟨gb317, 1, none⟩ (.string ((rd_T41 x299000_38 t313).f1))).setCell ⟨gb317, 2, none⟩ (.int .i64 ((rd_T41 x299000_38 t313).f2))).setCell ⟨gb317, 0, none⟩ (.string a1_2)).heap[gb299]? = some (.cells #[.int .u8 a1_0, .string a1_1, .string a1_2, .string a1_3] 27 (0, 0))) := ⟨by (with_reducible repeat (first | refine blk_drewN ?_ _ | refine blk_drew ?_ | refine blk_alloc ?_ _)); refine blk_far ?_ NB299_317.out _; (with_reducible repeat (first | refine blk_drewN ?_ _ | refine blk_drew ?_ | refine blk_alloc ?_ _)); refine blk_far ?_ NB299_317.out _; (with_reducible repeat (first | refine blk_drewN ?_ _ | refine blk_drew ?_ | refine blk_alloc ?_ _)); refine blk_far ?_ NB299_317.out _; (with_reducible repeat (first | refine blk_drewN ?_ _ | refine blk_drew ?_ | refine blk_alloc ?_ _)); refine blk_far ?_ NB299_317.out _; (with_reducible repeat (first | refine blk_drewN ?_ _ | refine blk_drew ?_ | refine blk_alloc ?_ _)); exact BK299.out⟩
                                have n3_ : Aside0 (((((w104.setCell ⟨gb317, 0, none⟩ (.string ((rd_T41 x299000_38 t313).f0))).setCell ⟨gb317, 1, none⟩ (.string ((rd_T41 x299000_38 t313).f1))).setCell ⟨gb317, 2, none⟩ (.int .i64 ((rd_T41 x299000_38 t313).f2))).setCell ⟨gb317, 0, none⟩ (.string a1_2)).heap[gb300]? = some (.cells #[.slice none 0 0, .bool false, .int .i64 0] 24 (0, 0))) := ⟨by (with_reducible repeat (first | refine blk_drewN ?_ _ | refine blk_drew ?_ | refine blk_alloc ?_ _)); refine blk_far ?_ NB300_317.out _; (with_reducible repeat (first | refine blk_drewN ?_ _ | refine blk_drew ?_ | refine blk_alloc ?_ _)); refine blk_far ?_ NB300_317.out _; (with_reducible repeat (first | refine blk_drewN ?_ _ | refine blk_drew ?_ | refine blk_alloc ?_ _)); refine blk_far ?_ NB300_317.out _; (with_reducible repeat (first | refine blk_drewN ?_ _ | refine blk_drew ?_ | refine blk_alloc ?_ _)); refine blk_far ?_ NB300_317.out _; (with_reducible repeat (first | refine blk_drewN ?_ _ | refine blk_drew ?_ | refine blk_alloc ?_ _)); exact BK300.out⟩
                                have n4_ : Aside0 (((((w104.setCell ⟨gb317, 0, none⟩ (.string ((rd_T41 x299000_38 t313).f0))).setCell ⟨gb317, 1, none⟩ (.string ((rd_T41 x299000_38 t313).f1))).setCell ⟨gb317, 2, none⟩ (.int .i64 ((rd_T41 x299000_38 t313).f2))).setCell ⟨gb317, 0, none⟩ (.string a1_2)).heap[gb317]? = some (.cells #[.string a1_2, .string ((rd_T41 x299000_38 t313).f1), .int .i64 ((rd_T41 x299000_38 t313).f2)] 41 (0, 0))) := ⟨by (with_reducible repeat (first | refine blk_drewN ?_ _ | refine blk_drew ?_ | refine blk_alloc ?_ _)); refine blk_put (cs := #[.string ((rd_T41 x299000_38 t313).f0), .string ((rd_T41 x299000_38 t313).f1), .int .i64 ((rd_T41 x299000_38 t313).f2)]) ?_ 0 _ rfl; (with_reducible repeat (first | refine blk_drewN ?_ _ | refine blk_drew ?_ | refine blk_alloc ?_ _)); refine blk_put (cs := #[.string ((rd_T41 x299000_38 t313).f0), .string ((rd_T41 x299000_38 t313).f1), .int .i64 0]) ?_ 2 _ rfl; (with_reducible repeat (first | refine blk_drewN ?_ _ | refine blk_drew ?_ | refine blk_alloc ?_ _)); refine blk_put (cs := #[.string ((rd_T41 x299000_38 t313).f0), .string (⟨#[]⟩ : ByteArray), .int .i64 0]) ?_ 1 _ rfl; (with_reducible repeat (first | refine blk_drewN ?_ _ | refine blk_drew ?_ | refine blk_alloc ?_ _)); refine blk_put (cs := #[.string (⟨#[]⟩ : ByteArray), .string (⟨#[]⟩ : ByteArray), .int .i64 0]) ?_ 0 _ rfl; (with_reducible repeat (first | refine blk_drewN ?_ _ | refine blk_drew ?_ | refine blk_alloc ?_ _)); exact BK317.out⟩
                                have n5_ : Aside0 (Below w.heap.size w ((((w104.setCell ⟨gb317, 0, none⟩ (.string ((rd_T41 x299000_38 t313).f0))).setCell ⟨gb317, 1, none⟩ (.string ((rd_T41 x299000_38 t313).f1))).setCell ⟨gb317, 2, none⟩ (.int .i64 ((rd_T41 x299000_38 t313).f2))).setCell ⟨gb317, 0, none⟩ (.string a1_2))) := ⟨by repeat (first | (with_reducible first | exact HB.out | apply below_alloc | apply pw_below_drewN | apply below_drew1 | refine below_set ?_ GE298.out | refine below_set ?_ GE299.out | refine below_set ?_ GE300.out | refine below_set ?_ GE317.out) | exact HB.out)⟩
                                (try clear HO_299000)
                                (try clear BK298)
                                (try clear BK299)
                                (try clear BK300)
                                (try clear BK317)
                                (try clear HB)
                                generalize ((((w104.setCell ⟨gb317, 0, none⟩ (.string ((rd_T41 x299000_38 t313).f0))).setCell ⟨gb317, 1, none⟩ (.string ((rd_T41 x299000_38 t313).f1))).setCell ⟨gb317, 2, none⟩ (.int .i64 ((rd_T41 x299000_38 t313).f2))).setCell ⟨gb317, 0, none⟩ (.string a1_2)) = w110 at n0_ n1_ n2_ n3_ n4_ n5_ ⊢
                                have HO_299000 := n0_
                                have BK298 := n1_
                                have BK299 := n2_
                                have BK300 := n3_
                                have BK317 := n4_
                                have HB := n5_
                                clear n0_ n1_ n2_ n3_ n4_ n5_
                                have n0_ := Aside0.mk (Kd.R_drew HO_299000.out)
                                have n1_ := Aside0.mk (blk_drew BK298.out)
                                have n2_ := Aside0.mk (blk_drew BK299.out)
                                have n3_ := Aside0.mk (blk_drew BK300.out)
                                have n4_ := Aside0.mk (blk_drew BK317.out)
                                have n5_ := Aside0.mk (below_drew1 HB.out)
                                clear HO_299000
                                clear BK298
                                clear BK299
                                clear BK300
                                clear BK317
                                clear HB
                                have HO_299000 := n0_
                                have BK298 := n1_
                                have BK299 := n2_
                                have BK300 := n3_
                                have BK317 := n4_
                                have HB := n5_
                                clear n0_ n1_ n2_ n3_ n4_ n5_
                                refine start_ (n := 7) (S := fun w' => w'.cell? ⟨gb298, 0, none⟩ = some (.slice (some ad316) x299000_38.length co100) ∧ w'.cell? ⟨gb298, 1, none⟩ = some (.bool x299001_38) ∧ w'.cell? ⟨gb298, 2, none⟩ = some (.int .i64 x299002_63) ∧ w'.cell? ⟨gb299, 0, none⟩ = some (.int .u8 a1_0) ∧ w'.cell? ⟨gb299, 1, none⟩ = some (.string a1_1) ∧ w'.cell? ⟨gb299, 2, none⟩ = some (.string a1_2) ∧ w'.cell? ⟨gb299, 3, none⟩ = some (.string a1_3) ∧ w'.cell? ⟨gb317, 0, none⟩ = some (.string a1_2) ∧ w'.cell? ⟨gb317, 1, none⟩ = some (.string ((rd_T41 x299000_38 t313).f1)) ∧ w'.cell? ⟨gb317, 2, none⟩ = some (.int .i64 ((rd_T41 x299000_38 t313).f2))) (ds := [6]) #[false, false, false, false, false, false, false] (by kernel_rfl) rfl rfl ⟨(blk_cell BK298.out 0).trans rfl, (blk_cell BK298.out 1).trans rfl, (blk_cell BK298.out 2).trans rfl, (blk_cell BK299.out 0).trans rfl, (blk_cell BK299.out 1).trans rfl, (blk_cell BK299.out 2).trans rfl, (blk_cell BK299.out 3).trans rfl, (blk_cell BK317.out 0).trans rfl, (blk_cell BK317.out 1).trans rfl, (blk_cell BK317.out 2).trans rfl⟩ (fun hHeld => ?_)
                                generalize w110.drew = w111 at HO_299000 BK298 BK299 BK300 BK317 HB hHeld ⊢
                                refine pure_ (i := 1) (N := some 87) (v := ?_) (a' := ?_) #[false, true, false, false, false, false, false] rfl rfl (by kernel_rfl) (fun _ _ _ h => h) (Or.inl ⟨by rfl, ?_⟩) ?_ ?_
                                rotate_left
                                · intro w'
                                  go_simp
                                  with_reducible rfl
                                rotate_left
                                · simp only [Act.put, List.setIfInBounds_toArray, List.set_cons_zero, List.set_cons_succ, i64_w, i32_w]
                                  rfl
                                refine take_ (i := 0) (N := some 86) (v := ?_) (a' := ?_) #[true, true, false, false, false, false, false] rfl rfl (by kernel_rfl) (fun _ _ _ h => h) (Or.inl ⟨by rfl, ?_⟩) hHeld ?_ ?_
                                rotate_left
                                · rintro w' ⟨s0, s1, s2, s3, s4, s5, s6, s7, s8, s9⟩
                                  go_simp
                                  with_reducible rfl
                                rotate_left
                                · simp only [Act.put, List.setIfInBounds_toArray, List.set_cons_zero, List.set_cons_succ, i64_w, i32_w]
                                  rfl
                                refine take_ (i := 2) (N := some 88) (v := ?_) (a' := ?_) #[true, true, true, false, false, false, false] rfl rfl (by kernel_rfl) (fun _ _ _ h => h) (Or.inl ⟨by rfl, ?_⟩) hHeld ?_ ?_
                                rotate_left
                                · rintro w' ⟨s0, s1, s2, s3, s4, s5, s6, s7, s8, s9⟩
                                  go_simp
                                  with_reducible rfl
                                rotate_left
                                · simp only [Act.put, List.setIfInBounds_toArray, List.set_cons_zero, List.set_cons_succ, i64_w, i32_w]
                                  rfl
                                refine take_ (i := 4) (N := some 90) (v := ?_) (a' := ?_) #[true, true, true, false, true, false, false] rfl rfl (by kernel_rfl) (fun _ _ _ h => h) (Or.inl ⟨by rfl, ?_⟩) hHeld ?_ ?_
                                rotate_left
                                · rintro w' ⟨s0, s1, s2, s3, s4, s5, s6, s7, s8, s9⟩
                                  go_simp
                                  with_reducible rfl
                                rotate_left
                                · simp only [Act.put, List.setIfInBounds_toArray, List.set_cons_zero, List.set_cons_succ, i64_w, i32_w]
                                  rfl
                                refine one_ (i := 3) (N := some 89) #[true, true, true, true, true, false, false] rfl rfl (by kernel_rfl) (by decide) (fun K hK => ?_)
                                refine goes_ Try.func30 (by kernel_rfl) rfl #[.agg #[.slice (some ad316) x299000_38.length co100, .bool x299001_38, .int .i64 x299002_63], .string a1_1] (by rfl) rfl rfl (by (try simp only [List.map_toArray, List.map_cons, List.map_nil]); first | done | rfl | (simp only [List.length_drop, List.length_take]; rfl)) ?_
                                with_reducible refine (potsherdref10_without.calls kj63 _ _ x299000_38 x299001_38 x299002_63 a1_1 t318 t321 t322 _ ?side1 ?side2 A93.out).mono ?_
                                (case side1 => repeat (first | exact (Kd.R_reads' HO_299000.out).2.2 | (with_reducible refine Kd.C_alloc ?_ _) | (with_reducible refine Kd.C_drewN ?_ _) | (with_reducible refine Kd.C_drew ?_)))
                                (case side2 => exact (Kd.R_reads' HO_299000.out).2.1)
                                rintro e w112 ⟨v319, rfl, ho0, hb⟩
                                refine ⟨_, rfl, ?_⟩
                                have n0_ := Aside0.mk (Kd.R_elder' (by (with_reducible repeat (first | apply Kd.R_alloc | apply Kd.R_drewN | apply Kd.R_drew)); exact HO_299000.out) (Kd.R_base ho0) hb)
                                have n1_ := Aside0.mk (Kd.R_lower (Kd.R_newB (Kd.R_new' ho0 (Kd.R_lt (by (with_reducible repeat (first | apply Kd.R_alloc | apply Kd.R_drewN | apply Kd.R_drew)); exact HO_299000.out))) (g := gb317) (o := .cells #[.string a1_2, .string ((rd_T41 x299000_38 t313).f1), .int .i64 ((rd_T41 x299000_38 t313).f2)] 41 (0, 0)) (by (with_reducible repeat (first | refine blk_drewN ?_ _ | refine blk_drew ?_ | refine blk_alloc ?_ _)); exact BK317.out)) (below_size (by repeat (first | (with_reducible first | exact HB.out | apply below_alloc | apply pw_below_drewN | apply below_drew1 | refine below_set ?_ GE298.out | refine below_set ?_ GE299.out | refine below_set ?_ GE300.out | refine below_set ?_ GE317.out) | exact HB.out))))
                                have n2_ := Aside0.mk (blk_below (g := gb298) (o := .cells #[.slice (some ad316) x299000_38.length co100, .bool x299001_38, .int .i64 x299002_63] 24 (0, 0)) (by (with_reducible repeat (first | refine blk_drewN ?_ _ | refine blk_drew ?_ | refine blk_alloc ?_ _)); exact BK298.out) hb)
                                have n3_ := Aside0.mk (blk_below (g := gb299) (o := .cells #[.int .u8 a1_0, .string a1_1, .string a1_2, .string a1_3] 27 (0, 0)) (by (with_reducible repeat (first | refine blk_drewN ?_ _ | refine blk_drew ?_ | refine blk_alloc ?_ _)); exact BK299.out) hb)
                                have n4_ := Aside0.mk (blk_below (g := gb300) (o := .cells #[.slice none 0 0, .bool false, .int .i64 0] 24 (0, 0)) (by (with_reducible repeat (first | refine blk_drewN ?_ _ | refine blk_drew ?_ | refine blk_alloc ?_ _)); exact BK300.out) hb)
                                have n5_ := Aside0.mk (blk_below (g := gb317) (o := .cells #[.string a1_2, .string ((rd_T41 x299000_38 t313).f1), .int .i64 ((rd_T41 x299000_38 t313).f2)] 41 (0, 0)) (by (with_reducible repeat (first | refine blk_drewN ?_ _ | refine blk_drew ?_ | refine blk_alloc ?_ _)); exact BK317.out) hb)
                                have n6_ := Aside0.mk (below_step (by repeat (first | (with_reducible first | exact HB.out | apply below_alloc | apply pw_below_drewN | apply below_drew1 | refine below_set ?_ GE298.out | refine below_set ?_ GE299.out | refine below_set ?_ GE300.out | refine below_set ?_ GE317.out) | exact HB.out)) hb)
                                clear HO_299000
                                clear BK298
                                clear BK299
                                clear BK300
                                clear BK317
                                clear HB
                                have HO_299000 := n0_
                                have HO320 := n1_
                                have BK298 := n2_
                                have BK299 := n3_
                                have BK300 := n4_
                                have BK317 := n5_
                                have HB := n6_
                                clear n0_ n1_ n2_ n3_ n4_ n5_ n6_
                                (try clear hb)
                                (try clear hb2)
                                (try clear hk)
                                (try clear hi)
                                (try clear ho0)
                                obtain ⟨Ao113, co113, eo113⟩ := Kd.R_slice HO320.out
                                (first | subst eo113 | (injection eo113 with f1_ f2_ f3_; have f4_ := f1_.symm; have f5_ := f3_.symm; clear f1_ f2_ f3_; subst f4_; subst f5_))
                                refine hK.out _ _ ⟨(blk_cell BK298.out 0).trans rfl, (blk_cell BK298.out 1).trans rfl, (blk_cell BK298.out 2).trans rfl, (blk_cell BK299.out 0).trans rfl, (blk_cell BK299.out 1).trans rfl, (blk_cell BK299.out 2).trans rfl, (blk_cell BK299.out 3).trans rfl, (blk_cell BK317.out 0).trans rfl, (blk_cell BK317.out 1).trans rfl, (blk_cell BK317.out 2).trans rfl⟩ (fun hHeld => ?_)
                                clear hK K
                                refine norm_ (a' := ?_) ?_ ?_
                                rotate_left
                                · show Act.put _ (some 89) _ = _
                                  simp only [Act.put, List.setIfInBounds_toArray, List.set_cons_zero, List.set_cons_succ, i64_w, i32_w]
                                  rfl
                                refine one_ (i := 5) (N := some 91) #[true, true, true, true, true, true, false] rfl rfl (by kernel_rfl) (by decide) (fun K hK => ?_)
                                refine goes_ Try.func28 (by kernel_rfl) rfl #[.agg #[.slice Ao113 t318.length co113, .bool t321, .int .i64 t322], .agg #[.string a1_2, .string ((rd_T41 x299000_38 t313).f1), .int .i64 ((rd_T41 x299000_38 t313).f2)]] (by rfl) rfl rfl (by (try simp only [List.map_toArray, List.map_cons, List.map_nil]); first | done | rfl | (simp only [List.length_drop, List.length_take]; rfl)) ?_
                                with_reducible refine (potsherdref10_with.calls kj63 _ _ t318 t321 t322 a1_2 ((rd_T41 x299000_38 t313).f1) ((rd_T41 x299000_38 t313).f2) t323 t326 t327 _ ?side1 ?side2 A94.out).mono ?_
                                (case side1 => repeat (first | exact (Kd.R_reads' HO320.out).2.2 | (with_reducible refine Kd.C_alloc ?_ _) | (with_reducible refine Kd.C_drewN ?_ _) | (with_reducible refine Kd.C_drew ?_)))
                                (case side2 => exact (Kd.R_reads' HO320.out).2.1)
                                rintro e w114 ⟨v324, rfl, ho0, hb⟩
                                refine ⟨_, rfl, ?_⟩
                                have n0_ := Aside0.mk (Kd.R_elder' (by (with_reducible repeat (first | apply Kd.R_alloc | apply Kd.R_drewN | apply Kd.R_drew)); exact HO_299000.out) (Kd.R_base ho0) hb)
                                have n1_ := Aside0.mk (Kd.R_elder' (by (with_reducible repeat (first | apply Kd.R_alloc | apply Kd.R_drewN | apply Kd.R_drew)); exact HO320.out) (Kd.R_base ho0) hb)
                                have n2_ := Aside0.mk (Kd.R_lower (Kd.R_newB (Kd.R_new' (Kd.R_new' ho0 (Kd.R_lt (by (with_reducible repeat (first | apply Kd.R_alloc | apply Kd.R_drewN | apply Kd.R_drew)); exact HO_299000.out))) (Kd.R_lt (by (with_reducible repeat (first | apply Kd.R_alloc | apply Kd.R_drewN | apply Kd.R_drew)); exact HO320.out))) (g := gb317) (o := .cells #[.string a1_2, .string ((rd_T41 x299000_38 t313).f1), .int .i64 ((rd_T41 x299000_38 t313).f2)] 41 (0, 0)) (by (with_reducible repeat (first | refine blk_drewN ?_ _ | refine blk_drew ?_ | refine blk_alloc ?_ _)); exact BK317.out)) (below_size (by repeat (first | (with_reducible first | exact HB.out | apply below_alloc | apply pw_below_drewN | apply below_drew1 | refine below_set ?_ GE298.out | refine below_set ?_ GE299.out | refine below_set ?_ GE300.out | refine below_set ?_ GE317.out) | exact HB.out))))
                                have n3_ := Aside0.mk (blk_below (g := gb298) (o := .cells #[.slice (some ad316) x299000_38.length co100, .bool x299001_38, .int .i64 x299002_63] 24 (0, 0)) (by (with_reducible repeat (first | refine blk_drewN ?_ _ | refine blk_drew ?_ | refine blk_alloc ?_ _)); exact BK298.out) hb)
                                have n4_ := Aside0.mk (blk_below (g := gb299) (o := .cells #[.int .u8 a1_0, .string a1_1, .string a1_2, .string a1_3] 27 (0, 0)) (by (with_reducible repeat (first | refine blk_drewN ?_ _ | refine blk_drew ?_ | refine blk_alloc ?_ _)); exact BK299.out) hb)
                                have n5_ := Aside0.mk (blk_below (g := gb300) (o := .cells #[.slice none 0 0, .bool false, .int .i64 0] 24 (0, 0)) (by (with_reducible repeat (first | refine blk_drewN ?_ _ | refine blk_drew ?_ | refine blk_alloc ?_ _)); exact BK300.out) hb)
                                have n6_ := Aside0.mk (blk_below (g := gb317) (o := .cells #[.string a1_2, .string ((rd_T41 x299000_38 t313).f1), .int .i64 ((rd_T41 x299000_38 t313).f2)] 41 (0, 0)) (by (with_reducible repeat (first | refine blk_drewN ?_ _ | refine blk_drew ?_ | refine blk_alloc ?_ _)); exact BK317.out) hb)
                                have n7_ := Aside0.mk (below_step (by repeat (first | (with_reducible first | exact HB.out | apply below_alloc | apply pw_below_drewN | apply below_drew1 | refine below_set ?_ GE298.out | refine below_set ?_ GE299.out | refine below_set ?_ GE300.out | refine below_set ?_ GE317.out) | exact HB.out)) hb)
                                clear HO_299000
                                clear HO320
                                clear BK298
                                clear BK299
                                clear BK300
                                clear BK317
                                clear HB
                                have HO_299000 := n0_
                                have HO320 := n1_
                                have HO325 := n2_
                                have BK298 := n3_
                                have BK299 := n4_
                                have BK300 := n5_
                                have BK317 := n6_
                                have HB := n7_
                                clear n0_ n1_ n2_ n3_ n4_ n5_ n6_ n7_
                                (try clear hb)
                                (try clear hb2)
                                (try clear hk)
                                (try clear hi)
                                (try clear ho0)
                                obtain ⟨Ao115, co115, eo115⟩ := Kd.R_slice HO325.out
                                (first | subst eo115 | (injection eo115 with f1_ f2_ f3_; have f4_ := f1_.symm; have f5_ := f3_.symm; clear f1_ f2_ f3_; subst f4_; subst f5_))
                                refine hK.out _ _ ⟨(blk_cell BK298.out 0).trans rfl, (blk_cell BK298.out 1).trans rfl, (blk_cell BK298.out 2).trans rfl, (blk_cell BK299.out 0).trans rfl, (blk_cell BK299.out 1).trans rfl, (blk_cell BK299.out 2).trans rfl, (blk_cell BK299.out 3).trans rfl, (blk_cell BK317.out 0).trans rfl, (blk_cell BK317.out 1).trans rfl, (blk_cell BK317.out 2).trans rfl⟩ (fun hHeld => ?_)
                                clear hK K
                                refine norm_ (a' := ?_) ?_ ?_
                                rotate_left
                                · show Act.put _ (some 91) _ = _
                                  simp only [Act.put, List.setIfInBounds_toArray, List.set_cons_zero, List.set_cons_succ, i64_w, i32_w]
                                  rfl
                                refine last_ (i := 6) (N := none) #[true, true, true, true, true, true, true] rfl rfl (by kernel_rfl) (by decide) (fun K hK => ?_)
                                have hs116 : w114.cell? ⟨gb298, 0, none⟩ = some (.slice (some ad316) x299000_38.length co100) := (blk_cell BK298.out 0).trans rfl
                                have hfs116 := blk_frozen BK298.out 0
                                have hns116_1 := NB299_298.out
                                have hns116_2 := NB300_298.out
                                have hns116_3 := NB317_298.out
                                have hms116_1 := NB298_299.out
                                have hms116_2 := NB298_300.out
                                have hms116_3 := NB298_317.out
                                have hs117 : w114.cell? ⟨gb298, 1, none⟩ = some (.bool x299001_38) := (blk_cell BK298.out 1).trans rfl
                                have hfs117 := blk_frozen BK298.out 1
                                have hns117_1 := NB299_298.out
                                have hns117_2 := NB300_298.out
                                have hns117_3 := NB317_298.out
                                have hms117_1 := NB298_299.out
                                have hms117_2 := NB298_300.out
                                have hms117_3 := NB298_317.out
                                have hs118 : w114.cell? ⟨gb298, 2, none⟩ = some (.int .i64 x299002_63) := (blk_cell BK298.out 2).trans rfl
                                have hfs118 := blk_frozen BK298.out 2
                                have hns118_1 := NB299_298.out
                                have hns118_2 := NB300_298.out
                                have hns118_3 := NB317_298.out
                                have hms118_1 := NB298_299.out
                                have hms118_2 := NB298_300.out
                                have hms118_3 := NB298_317.out
                                refine skip_ (w1 := ?_) (by rfl) rfl ?_ ?_
                                rotate_left
                                · go_simp
                                  rfl
                                refine hK.out _ _ ?_
                                clear hK K
                                refine done_ (by kernel_rfl) ?_
                                have hcz119_0 : w114.cell? ⟨gb298, 0, none⟩ = some (.slice (some ad316) x299000_38.length co100) := (blk_cell BK298.out 0).trans rfl
                                have hcz119_1 : w114.cell? ⟨gb298, 1, none⟩ = some (.bool x299001_38) := (blk_cell BK298.out 1).trans rfl
                                have hcz119_2 : w114.cell? ⟨gb298, 2, none⟩ = some (.int .i64 x299002_63) := (blk_cell BK298.out 2).trans rfl
                                have hfz119_0 := blk_frozen BK298.out 0
                                have hfz119_1 := blk_frozen BK298.out 1
                                have hfz119_2 := blk_frozen BK298.out 2
                                have hcz120_0 : w114.cell? ⟨gb300, 0, none⟩ = some (.slice none 0 0) := (blk_cell BK300.out 0).trans rfl
                                have hcz120_1 : w114.cell? ⟨gb300, 1, none⟩ = some (.bool false) := (blk_cell BK300.out 1).trans rfl
                                have hcz120_2 : w114.cell? ⟨gb300, 2, none⟩ = some (.int .i64 0) := (blk_cell BK300.out 2).trans rfl
                                have hfz120_0 := blk_frozen BK300.out 0
                                have hfz120_1 := blk_frozen BK300.out 1
                                have hfz120_2 := blk_frozen BK300.out 2
                                try go_wp2
                                refine bodyPost_ret (results_ct rfl _ _ gb300 24 #[.slice Ao115 t323.length co115, .bool t326, .int .i64 t327] (0, 0) _ rfl (by (with_reducible repeat (first | refine blk_drewN ?_ _ | refine blk_drew ?_ | refine blk_alloc ?_ _)); refine blk_put (cs := #[.slice Ao115 t323.length co115, .bool t326, .int .i64 0]) ?_ 2 _ rfl; (with_reducible repeat (first | refine blk_drewN ?_ _ | refine blk_drew ?_ | refine blk_alloc ?_ _)); refine blk_put (cs := #[.slice Ao115 t323.length co115, .bool false, .int .i64 0]) ?_ 1 _ rfl; (with_reducible repeat (first | refine blk_drewN ?_ _ | refine blk_drew ?_ | refine blk_alloc ?_ _)); refine blk_put (cs := #[.slice none 0 0, .bool false, .int .i64 0]) ?_ 0 _ rfl; (with_reducible repeat (first | refine blk_drewN ?_ _ | refine blk_drew ?_ | refine blk_alloc ?_ _)); refine blk_far ?_ NB300_298.out _; (with_reducible repeat (first | refine blk_drewN ?_ _ | refine blk_drew ?_ | refine blk_alloc ?_ _)); refine blk_far ?_ NB300_298.out _; (with_reducible repeat (first | refine blk_drewN ?_ _ | refine blk_drew ?_ | refine blk_alloc ?_ _)); refine blk_far ?_ NB300_298.out _; (with_reducible repeat (first | refine blk_drewN ?_ _ | refine blk_drew ?_ | refine blk_alloc ?_ _)); exact BK300.out) Try.underlying24 rfl (by kernel_rfl)) rfl ?_
                                exact ⟨_, by first | rfl | (simp [errW_none, errW_some] <;> rfl) | (simp [*, errW_none, errW_some] <;> rfl), by (with_reducible repeat (first | apply Kd.R_alloc | apply Kd.R_drewN | apply Kd.R_drew)); exact Kd.R_mono (Kd.R_far (p := ⟨gb300, 2, none⟩) (Kd.R_far (p := ⟨gb300, 1, none⟩) (Kd.R_far (p := ⟨gb300, 0, none⟩) (Kd.R_far (p := ⟨gb298, 2, none⟩) (Kd.R_far (p := ⟨gb298, 1, none⟩) (Kd.R_far (p := ⟨gb298, 0, none⟩) (Kd.R_types (Kd.R_types HO325.out BK298.out (by decide)) BK300.out (by decide)) (fun _ hk => hk.1.2) (.slice Ao115 t323.length co115)) (fun _ hk => hk.1.2) (.bool t326)) (fun _ hk => hk.1.2) (.int .i64 t327)) (fun _ hk => hk.2) (.slice Ao115 t323.length co115)) (fun _ hk => hk.2) (.bool t326)) (fun _ hk => hk.2) (.int .i64 t327)) (fun _ hk => trivial), by repeat (first | (with_reducible first | exact HB.out | apply below_alloc | apply pw_below_drewN | apply below_drew1 | refine below_set ?_ GE298.out | refine below_set ?_ GE299.out | refine below_set ?_ GE300.out | refine below_set ?_ GE317.out) | exact HB.out)⟩
                              · rw [if_neg c92] at H
                                exact absurd H (by simp)
                            · rw [if_neg c91] at H
                              exact absurd H (by simp)
                          · rw [if_neg c90] at H
                            have c90b0 : (a1_0 == 3) = false := beq_eq_false_iff_ne.mpr c90
                            have c90b1 : (a1_0 != 3) = true := bne_iff_ne.mpr c90
                            by_cases c121 : a1_0 = 4
                            · rw [if_pos c121] at H
                              have c121b0 : (a1_0 == 4) = true := beq_iff_eq.mpr c121
                              have c121b1 : (a1_0 != 4) = false := bne_eq_false_iff_eq.mpr c121
                              clear c121
                              replace H := Option.bind_eq_some_iff.mp H
                              obtain ⟨⟨t328, t331, t332⟩, A1220, H⟩ := H
                              replace H : (some (t328, t331, t332, 0)) = some (r1, r2, r3, r4) := H
                              have A122 := Aside0.mk A1220
                              clear A1220
                              simp only [Option.some.injEq, Prod.mk.injEq] at H
                              obtain ⟨rfl, rfl, rfl, rfl⟩ := H
                              have hnb123 := NB298_299.out
                              have hnc123 := NB299_298.out
                              have hnb124 := NB298_300.out
                              have hnc124 := NB300_298.out
                              have hcz125_0 : wc.cell? ⟨gb298, 0, none⟩ = some (u299000) := (blk_cell BK298.out 0).trans rfl
                              have hcz125_1 : wc.cell? ⟨gb298, 1, none⟩ = some (.bool x299001_38) := (blk_cell BK298.out 1).trans rfl
                              have hcz125_2 : wc.cell? ⟨gb298, 2, none⟩ = some (.int .i64 x299002_63) := (blk_cell BK298.out 2).trans rfl
                              have hfz125_0 := blk_frozen BK298.out 0
                              have hfz125_1 := blk_frozen BK298.out 1
                              have hfz125_2 := blk_frozen BK298.out 2
                              have hnb126 := NB299_300.out
                              have hnc126 := NB300_299.out
                              have hcz127_0 : wc.cell? ⟨gb299, 0, none⟩ = some (.int .u8 a1_0) := (blk_cell BK299.out 0).trans rfl
                              have hcz127_1 : wc.cell? ⟨gb299, 1, none⟩ = some (.string a1_1) := (blk_cell BK299.out 1).trans rfl
                              have hcz127_2 : wc.cell? ⟨gb299, 2, none⟩ = some (.string a1_2) := (blk_cell BK299.out 2).trans rfl
                              have hcz127_3 : wc.cell? ⟨gb299, 3, none⟩ = some (.string a1_3) := (blk_cell BK299.out 3).trans rfl
                              have hfz127_0 := blk_frozen BK299.out 0
                              have hfz127_1 := blk_frozen BK299.out 1
                              have hfz127_2 := blk_frozen BK299.out 2
                              have hfz127_3 := blk_frozen BK299.out 3
                              obtain ⟨Ao128, co128, eo128⟩ := Kd.R_slice HO_299000.out
                              subst eo128
                              go_wp2_with (first | ((with_reducible refine gate_callee (f := 29) rfl ?_); refine goesL_ (some 59) rfl rfl Try.func29 (by kernel_rfl) rfl #[.agg #[.slice Ao128 x299000_38.length co128, .bool x299001_38, .int .i64 x299002_63], .string a1_1] rfl (by (try simp only [List.map_toArray, List.map_cons, List.map_nil]); first | done | rfl | (simp only [List.length_drop, List.length_take]; rfl)) ?_; (with_reducible refine (potsherdref10_find.calls kj63 _ _ x299000_38 x299001_38 x299002_63 a1_1 t313 _ ?side1 ?side2 A72.out).mono ?_); (case side1 => repeat (first | exact (Kd.R_reads' HO_299000.out).2.2 | (with_reducible refine Kd.C_alloc ?_ _) | (with_reducible refine Kd.C_drewN ?_ _) | (with_reducible refine Kd.C_drew ?_))); (case side2 => exact (Kd.R_reads' HO_299000.out).2.1); rintro e w129 ⟨rfl, hb⟩; refine ⟨_, rfl, ?_⟩; have n0_ := Aside0.mk (Kd.R_below (by (with_reducible repeat (first | apply Kd.R_alloc | apply Kd.R_drewN | apply Kd.R_drew)); exact HO_299000.out) hb); have n1_ := Aside0.mk (blk_below (g := gb298) (o := .cells #[.slice Ao128 x299000_38.length co128, .bool x299001_38, .int .i64 x299002_63] 24 (0, 0)) (by (with_reducible repeat (first | refine blk_drewN ?_ _ | refine blk_drew ?_ | refine blk_alloc ?_ _)); exact BK298.out) hb); have n2_ := Aside0.mk (blk_below (g := gb299) (o := .cells #[.int .u8 a1_0, .string a1_1, .string a1_2, .string a1_3] 27 (0, 0)) (by (with_reducible repeat (first | refine blk_drewN ?_ _ | refine blk_drew ?_ | refine blk_alloc ?_ _)); exact BK299.out) hb); have n3_ := Aside0.mk (blk_below (g := gb300) (o := .cells #[.slice none 0 0, .bool false, .int .i64 0] 24 (0, 0)) (by (with_reducible repeat (first | refine blk_drewN ?_ _ | refine blk_drew ?_ | refine blk_alloc ?_ _)); exact BK300.out) hb); have n4_ := Aside0.mk (below_step (by repeat (first | (with_reducible first | exact HB.out | apply below_alloc | apply pw_below_drewN | apply below_drew1 | refine below_set ?_ GE298.out | refine below_set ?_ GE299.out | refine below_set ?_ GE300.out) | exact HB.out)) hb); clear HO_299000; clear BK298; clear BK299; clear BK300; clear HB; have HO_299000 := n0_; have BK298 := n1_; have BK299 := n2_; have BK300 := n3_; have HB := n4_; clear n0_ n1_ n2_ n3_ n4_; (try clear hb); (try clear hb2); (try clear hk); (try clear hi); have hcz130_0 : w129.cell? ⟨gb299, 0, none⟩ = some (.int .u8 a1_0) := (blk_cell BK299.out 0).trans rfl; have hcz130_1 : w129.cell? ⟨gb299, 1, none⟩ = some (.string a1_1) := (blk_cell BK299.out 1).trans rfl; have hcz130_2 : w129.cell? ⟨gb299, 2, none⟩ = some (.string a1_2) := (blk_cell BK299.out 2).trans rfl; have hcz130_3 : w129.cell? ⟨gb299, 3, none⟩ = some (.string a1_3) := (blk_cell BK299.out 3).trans rfl; have hfz130_0 := blk_frozen BK299.out 0; have hfz130_1 := blk_frozen BK299.out 1; have hfz130_2 := blk_frozen BK299.out 2; have hfz130_3 := blk_frozen BK299.out 3; have hcz131_0 : w129.cell? ⟨gb298, 0, none⟩ = some (.slice Ao128 x299000_38.length co128) := (blk_cell BK298.out 0).trans rfl; have hcz131_1 : w129.cell? ⟨gb298, 1, none⟩ = some (.bool x299001_38) := (blk_cell BK298.out 1).trans rfl; have hcz131_2 : w129.cell? ⟨gb298, 2, none⟩ = some (.int .i64 x299002_63) := (blk_cell BK298.out 2).trans rfl; have hfz131_0 := blk_frozen BK298.out 0; have hfz131_1 := blk_frozen BK298.out 1; have hfz131_2 := blk_frozen BK298.out 2) | ((with_reducible refine gate_callee (f := 30) rfl ?_); refine goesL_ (some 97) rfl rfl Try.func30 (by kernel_rfl) rfl #[.agg #[.slice Ao128 x299000_38.length co128, .bool x299001_38, .int .i64 x299002_63], .string a1_1] rfl (by (try simp only [List.map_toArray, List.map_cons, List.map_nil]); first | done | rfl | (simp only [List.length_drop, List.length_take]; rfl)) ?_; (with_reducible refine (potsherdref10_without.calls kj63 _ _ x299000_38 x299001_38 x299002_63 a1_1 t328 t331 t332 _ ?side1 ?side2 A122.out).mono ?_); (case side1 => repeat (first | exact (Kd.R_reads' HO_299000.out).2.2 | (with_reducible refine Kd.C_alloc ?_ _) | (with_reducible refine Kd.C_drewN ?_ _) | (with_reducible refine Kd.C_drew ?_))); (case side2 => exact (Kd.R_reads' HO_299000.out).2.1); rintro e w132 ⟨v329, rfl, ho0, hb⟩; refine ⟨_, rfl, ?_⟩; have n0_ := Aside0.mk (Kd.R_elder' (by (with_reducible repeat (first | apply Kd.R_alloc | apply Kd.R_drewN | apply Kd.R_drew)); exact HO_299000.out) (Kd.R_base ho0) hb); have n1_ := Aside0.mk (Kd.R_lower (Kd.R_new' ho0 (Kd.R_lt (by (with_reducible repeat (first | apply Kd.R_alloc | apply Kd.R_drewN | apply Kd.R_drew)); exact HO_299000.out))) (below_size (by repeat (first | (with_reducible first | exact HB.out | apply below_alloc | apply pw_below_drewN | apply below_drew1 | refine below_set ?_ GE298.out | refine below_set ?_ GE299.out | refine below_set ?_ GE300.out) | exact HB.out)))); have n2_ := Aside0.mk (blk_below (g := gb298) (o := .cells #[.slice Ao128 x299000_38.length co128, .bool x299001_38, .int .i64 x299002_63] 24 (0, 0)) (by (with_reducible repeat (first | refine blk_drewN ?_ _ | refine blk_drew ?_ | refine blk_alloc ?_ _)); exact BK298.out) hb); have n3_ := Aside0.mk (blk_below (g := gb299) (o := .cells #[.int .u8 a1_0, .string a1_1, .string a1_2, .string a1_3] 27 (0, 0)) (by (with_reducible repeat (first | refine blk_drewN ?_ _ | refine blk_drew ?_ | refine blk_alloc ?_ _)); exact BK299.out) hb); have n4_ := Aside0.mk (blk_below (g := gb300) (o := .cells #[.slice none 0 0, .bool false, .int .i64 0] 24 (0, 0)) (by (with_reducible repeat (first | refine blk_drewN ?_ _ | refine blk_drew ?_ | refine blk_alloc ?_ _)); exact BK300.out) hb); have n5_ := Aside0.mk (below_step (by repeat (first | (with_reducible first | exact HB.out | apply below_alloc | apply pw_below_drewN | apply below_drew1 | refine below_set ?_ GE298.out | refine below_set ?_ GE299.out | refine below_set ?_ GE300.out) | exact HB.out)) hb); clear HO_299000; clear BK298; clear BK299; clear BK300; clear HB; have HO_299000 := n0_; have HO330 := n1_; have BK298 := n2_; have BK299 := n3_; have BK300 := n4_; have HB := n5_; clear n0_ n1_ n2_ n3_ n4_ n5_; (try clear hb); (try clear hb2); (try clear hk); (try clear hi); (try clear ho0); obtain ⟨Ao133, co133, eo133⟩ := Kd.R_slice HO330.out; subst eo133; have hcz134_0 : w132.cell? ⟨gb298, 0, none⟩ = some (.slice Ao128 x299000_38.length co128) := (blk_cell BK298.out 0).trans rfl; have hcz134_1 : w132.cell? ⟨gb298, 1, none⟩ = some (.bool x299001_38) := (blk_cell BK298.out 1).trans rfl; have hcz134_2 : w132.cell? ⟨gb298, 2, none⟩ = some (.int .i64 x299002_63) := (blk_cell BK298.out 2).trans rfl; have hfz134_0 := blk_frozen BK298.out 0; have hfz134_1 := blk_frozen BK298.out 1; have hfz134_2 := blk_frozen BK298.out 2; have hcz135_0 : w132.cell? ⟨gb300, 0, none⟩ = some (.slice none 0 0) := (blk_cell BK300.out 0).trans rfl; have hcz135_1 : w132.cell? ⟨gb300, 1, none⟩ = some (.bool false) := (blk_cell BK300.out 1).trans rfl; have hcz135_2 : w132.cell? ⟨gb300, 2, none⟩ = some (.int .i64 0) := (blk_cell BK300.out 2).trans rfl; have hfz135_0 := blk_frozen BK300.out 0; have hfz135_1 := blk_frozen BK300.out 1; have hfz135_2 := blk_frozen BK300.out 2))
                              refine bodyPost_ret (results_ct rfl _ _ gb300 24 #[.slice Ao133 t328.length co133, .bool t331, .int .i64 t332] (0, 0) _ rfl (by (with_reducible repeat (first | refine blk_drewN ?_ _ | refine blk_drew ?_ | refine blk_alloc ?_ _)); refine blk_put (cs := #[.slice Ao133 t328.length co133, .bool t331, .int .i64 0]) ?_ 2 _ rfl; (with_reducible repeat (first | refine blk_drewN ?_ _ | refine blk_drew ?_ | refine blk_alloc ?_ _)); refine blk_put (cs := #[.slice Ao133 t328.length co133, .bool false, .int .i64 0]) ?_ 1 _ rfl; (with_reducible repeat (first | refine blk_drewN ?_ _ | refine blk_drew ?_ | refine blk_alloc ?_ _)); refine blk_put (cs := #[.slice none 0 0, .bool false, .int .i64 0]) ?_ 0 _ rfl; (with_reducible repeat (first | refine blk_drewN ?_ _ | refine blk_drew ?_ | refine blk_alloc ?_ _)); refine blk_far ?_ NB300_298.out _; (with_reducible repeat (first | refine blk_drewN ?_ _ | refine blk_drew ?_ | refine blk_alloc ?_ _)); refine blk_far ?_ NB300_298.out _; (with_reducible repeat (first | refine blk_drewN ?_ _ | refine blk_drew ?_ | refine blk_alloc ?_ _)); refine blk_far ?_ NB300_298.out _; (with_reducible repeat (first | refine blk_drewN ?_ _ | refine blk_drew ?_ | refine blk_alloc ?_ _)); exact BK300.out) Try.underlying24 rfl (by kernel_rfl)) rfl ?_
                              exact ⟨_, by first | rfl | (simp [errW_none, errW_some] <;> rfl) | (simp [*, errW_none, errW_some] <;> rfl), by (with_reducible repeat (first | apply Kd.R_alloc | apply Kd.R_drewN | apply Kd.R_drew)); exact Kd.R_mono (Kd.R_far (p := ⟨gb300, 2, none⟩) (Kd.R_far (p := ⟨gb300, 1, none⟩) (Kd.R_far (p := ⟨gb300, 0, none⟩) (Kd.R_far (p := ⟨gb298, 2, none⟩) (Kd.R_far (p := ⟨gb298, 1, none⟩) (Kd.R_far (p := ⟨gb298, 0, none⟩) (Kd.R_types (Kd.R_types HO330.out BK298.out (by decide)) BK300.out (by decide)) (fun _ hk => hk.1.2) (.slice Ao133 t328.length co133)) (fun _ hk => hk.1.2) (.bool t331)) (fun _ hk => hk.1.2) (.int .i64 t332)) (fun _ hk => hk.2) (.slice Ao133 t328.length co133)) (fun _ hk => hk.2) (.bool t331)) (fun _ hk => hk.2) (.int .i64 t332)) (fun _ hk => trivial), by repeat (first | (with_reducible first | exact HB.out | apply below_alloc | apply pw_below_drewN | apply below_drew1 | refine below_set ?_ GE298.out | refine below_set ?_ GE299.out | refine below_set ?_ GE300.out) | exact HB.out)⟩
                            · rw [if_neg c121] at H
                              have c121b0 : (a1_0 == 4) = false := beq_eq_false_iff_ne.mpr c121
                              have c121b1 : (a1_0 != 4) = true := bne_iff_ne.mpr c121
                              simp only [Option.some.injEq, Prod.mk.injEq] at H
                              obtain ⟨rfl, rfl, rfl, rfl⟩ := H
                              have hnb136 := NB298_299.out
                              have hnc136 := NB299_298.out
                              have hnb137 := NB298_300.out
                              have hnc137 := NB300_298.out
                              have hcz138_0 : wc.cell? ⟨gb298, 0, none⟩ = some (u299000) := (blk_cell BK298.out 0).trans rfl
                              have hcz138_1 : wc.cell? ⟨gb298, 1, none⟩ = some (.bool x299001_38) := (blk_cell BK298.out 1).trans rfl
                              have hcz138_2 : wc.cell? ⟨gb298, 2, none⟩ = some (.int .i64 x299002_63) := (blk_cell BK298.out 2).trans rfl
                              have hfz138_0 := blk_frozen BK298.out 0
                              have hfz138_1 := blk_frozen BK298.out 1
                              have hfz138_2 := blk_frozen BK298.out 2
                              have hnb139 := NB299_300.out
                              have hnc139 := NB300_299.out
                              have hcz140_0 : wc.cell? ⟨gb299, 0, none⟩ = some (.int .u8 a1_0) := (blk_cell BK299.out 0).trans rfl
                              have hcz140_1 : wc.cell? ⟨gb299, 1, none⟩ = some (.string a1_1) := (blk_cell BK299.out 1).trans rfl
                              have hcz140_2 : wc.cell? ⟨gb299, 2, none⟩ = some (.string a1_2) := (blk_cell BK299.out 2).trans rfl
                              have hcz140_3 : wc.cell? ⟨gb299, 3, none⟩ = some (.string a1_3) := (blk_cell BK299.out 3).trans rfl
                              have hfz140_0 := blk_frozen BK299.out 0
                              have hfz140_1 := blk_frozen BK299.out 1
                              have hfz140_2 := blk_frozen BK299.out 2
                              have hfz140_3 := blk_frozen BK299.out 3
                              obtain ⟨Ao141, co141, eo141⟩ := Kd.R_slice HO_299000.out
                              subst eo141
                              go_wp2_with (first | ((with_reducible refine gate_callee (f := 29) rfl ?_); refine goesL_ (some 59) rfl rfl Try.func29 (by kernel_rfl) rfl #[.agg #[.slice Ao141 x299000_38.length co141, .bool x299001_38, .int .i64 x299002_63], .string a1_1] rfl (by (try simp only [List.map_toArray, List.map_cons, List.map_nil]); first | done | rfl | (simp only [List.length_drop, List.length_take]; rfl)) ?_; (with_reducible refine (potsherdref10_find.calls kj63 _ _ x299000_38 x299001_38 x299002_63 a1_1 t313 _ ?side1 ?side2 A72.out).mono ?_); (case side1 => repeat (first | exact (Kd.R_reads' HO_299000.out).2.2 | (with_reducible refine Kd.C_alloc ?_ _) | (with_reducible refine Kd.C_drewN ?_ _) | (with_reducible refine Kd.C_drew ?_))); (case side2 => exact (Kd.R_reads' HO_299000.out).2.1); rintro e w142 ⟨rfl, hb⟩; refine ⟨_, rfl, ?_⟩; have n0_ := Aside0.mk (Kd.R_below (by (with_reducible repeat (first | apply Kd.R_alloc | apply Kd.R_drewN | apply Kd.R_drew)); exact HO_299000.out) hb); have n1_ := Aside0.mk (blk_below (g := gb298) (o := .cells #[.slice Ao141 x299000_38.length co141, .bool x299001_38, .int .i64 x299002_63] 24 (0, 0)) (by (with_reducible repeat (first | refine blk_drewN ?_ _ | refine blk_drew ?_ | refine blk_alloc ?_ _)); exact BK298.out) hb); have n2_ := Aside0.mk (blk_below (g := gb299) (o := .cells #[.int .u8 a1_0, .string a1_1, .string a1_2, .string a1_3] 27 (0, 0)) (by (with_reducible repeat (first | refine blk_drewN ?_ _ | refine blk_drew ?_ | refine blk_alloc ?_ _)); exact BK299.out) hb); have n3_ := Aside0.mk (blk_below (g := gb300) (o := .cells #[.slice none 0 0, .bool false, .int .i64 0] 24 (0, 0)) (by (with_reducible repeat (first | refine blk_drewN ?_ _ | refine blk_drew ?_ | refine blk_alloc ?_ _)); exact BK300.out) hb); have n4_ := Aside0.mk (below_step (by repeat (first | (with_reducible first | exact HB.out | apply below_alloc | apply pw_below_drewN | apply below_drew1 | refine below_set ?_ GE298.out | refine below_set ?_ GE299.out | refine below_set ?_ GE300.out) | exact HB.out)) hb); clear HO_299000; clear BK298; clear BK299; clear BK300; clear HB; have HO_299000 := n0_; have BK298 := n1_; have BK299 := n2_; have BK300 := n3_; have HB := n4_; clear n0_ n1_ n2_ n3_ n4_; (try clear hb); (try clear hb2); (try clear hk); (try clear hi); have hcz143_0 : w142.cell? ⟨gb299, 0, none⟩ = some (.int .u8 a1_0) := (blk_cell BK299.out 0).trans rfl; have hcz143_1 : w142.cell? ⟨gb299, 1, none⟩ = some (.string a1_1) := (blk_cell BK299.out 1).trans rfl; have hcz143_2 : w142.cell? ⟨gb299, 2, none⟩ = some (.string a1_2) := (blk_cell BK299.out 2).trans rfl; have hcz143_3 : w142.cell? ⟨gb299, 3, none⟩ = some (.string a1_3) := (blk_cell BK299.out 3).trans rfl; have hfz143_0 := blk_frozen BK299.out 0; have hfz143_1 := blk_frozen BK299.out 1; have hfz143_2 := blk_frozen BK299.out 2; have hfz143_3 := blk_frozen BK299.out 3; have hcz144_0 : w142.cell? ⟨gb298, 0, none⟩ = some (.slice Ao141 x299000_38.length co141) := (blk_cell BK298.out 0).trans rfl; have hcz144_1 : w142.cell? ⟨gb298, 1, none⟩ = some (.bool x299001_38) := (blk_cell BK298.out 1).trans rfl; have hcz144_2 : w142.cell? ⟨gb298, 2, none⟩ = some (.int .i64 x299002_63) := (blk_cell BK298.out 2).trans rfl; have hfz144_0 := blk_frozen BK298.out 0; have hfz144_1 := blk_frozen BK298.out 1; have hfz144_2 := blk_frozen BK298.out 2; have hcz145_0 : w142.cell? ⟨gb300, 0, none⟩ = some (.slice none 0 0) := (blk_cell BK300.out 0).trans rfl; have hcz145_1 : w142.cell? ⟨gb300, 1, none⟩ = some (.bool false) := (blk_cell BK300.out 1).trans rfl; have hcz145_2 : w142.cell? ⟨gb300, 2, none⟩ = some (.int .i64 0) := (blk_cell BK300.out 2).trans rfl; have hfz145_0 := blk_frozen BK300.out 0; have hfz145_1 := blk_frozen BK300.out 1; have hfz145_2 := blk_frozen BK300.out 2))
                              refine bodyPost_ret (results_ct rfl _ _ gb300 24 #[.slice Ao141 x299000_38.length co141, .bool x299001_38, .int .i64 x299002_63] (0, 0) _ rfl (by (with_reducible repeat (first | refine blk_drewN ?_ _ | refine blk_drew ?_ | refine blk_alloc ?_ _)); refine blk_put (cs := #[.slice Ao141 x299000_38.length co141, .bool x299001_38, .int .i64 0]) ?_ 2 _ rfl; (with_reducible repeat (first | refine blk_drewN ?_ _ | refine blk_drew ?_ | refine blk_alloc ?_ _)); refine blk_put (cs := #[.slice Ao141 x299000_38.length co141, .bool false, .int .i64 0]) ?_ 1 _ rfl; (with_reducible repeat (first | refine blk_drewN ?_ _ | refine blk_drew ?_ | refine blk_alloc ?_ _)); refine blk_put (cs := #[.slice none 0 0, .bool false, .int .i64 0]) ?_ 0 _ rfl; (with_reducible repeat (first | refine blk_drewN ?_ _ | refine blk_drew ?_ | refine blk_alloc ?_ _)); exact BK300.out) Try.underlying24 rfl (by kernel_rfl)) rfl ?_
                              exact ⟨_, by first | rfl | (simp [errW_none, errW_some] <;> rfl) | (simp [*, errW_none, errW_some] <;> rfl), by (with_reducible repeat (first | apply Kd.R_alloc | apply Kd.R_drewN | apply Kd.R_drew)); exact Kd.R_mono (Kd.R_far (p := ⟨gb300, 2, none⟩) (Kd.R_far (p := ⟨gb300, 1, none⟩) (Kd.R_far (p := ⟨gb300, 0, none⟩) (Kd.R_types HO_299000.out BK300.out (by decide)) (fun _ hk => hk.2) (.slice Ao141 x299000_38.length co141)) (fun _ hk => hk.2) (.bool x299001_38)) (fun _ hk => hk.2) (.int .i64 x299002_63)) (fun _ hk => trivial), by repeat (first | (with_reducible first | exact HB.out | apply below_alloc | apply pw_below_drewN | apply below_drew1 | refine below_set ?_ GE298.out | refine below_set ?_ GE299.out | refine below_set ?_ GE300.out) | exact HB.out)⟩
            · rw [if_neg c38] at H
              have c38b0 : (t307 == 0) = false := beq_eq_false_iff_ne.mpr c38
              have c38b1 : (t307 != 0) = true := bne_iff_ne.mpr c38
              simp only [Option.some.injEq, Prod.mk.injEq] at H
              obtain ⟨rfl, rfl, rfl, rfl⟩ := H
              have hnb146 := NB298_299.out
              have hnc146 := NB299_298.out
              have hnb147 := NB298_300.out
              have hnc147 := NB300_298.out
              have hcz148_0 : wc.cell? ⟨gb298, 0, none⟩ = some (.slice Ao16 t302.length co16) := (blk_cell BK298.out 0).trans rfl
              have hcz148_1 : wc.cell? ⟨gb298, 1, none⟩ = some (.bool false) := (blk_cell BK298.out 1).trans rfl
              have hcz148_2 : wc.cell? ⟨gb298, 2, none⟩ = some (.int .i64 t306) := (blk_cell BK298.out 2).trans rfl
              have hfz148_0 := blk_frozen BK298.out 0
              have hfz148_1 := blk_frozen BK298.out 1
              have hfz148_2 := blk_frozen BK298.out 2
              have hnb149 := NB299_300.out
              have hnc149 := NB300_299.out
              have hcz150_0 : wc.cell? ⟨gb299, 0, none⟩ = some (.int .u8 a1_0) := (blk_cell BK299.out 0).trans rfl
              have hcz150_1 : wc.cell? ⟨gb299, 1, none⟩ = some (.string a1_1) := (blk_cell BK299.out 1).trans rfl
              have hcz150_2 : wc.cell? ⟨gb299, 2, none⟩ = some (.string a1_2) := (blk_cell BK299.out 2).trans rfl
              have hcz150_3 : wc.cell? ⟨gb299, 3, none⟩ = some (.string a1_3) := (blk_cell BK299.out 3).trans rfl
              have hfz150_0 := blk_frozen BK299.out 0
              have hfz150_1 := blk_frozen BK299.out 1
              have hfz150_2 := blk_frozen BK299.out 2
              have hfz150_3 := blk_frozen BK299.out 3
              go_wp2_with (first | ((with_reducible refine gate_callee (f := 27) rfl ?_); refine goesL_ (some 29) rfl rfl Try.func27 (by kernel_rfl) rfl #[.agg #[.slice Ao16 t302.length co16, .bool false, .int .i64 t306], .agg #[.int .u8 a1_0, .string a1_1, .string a1_2, .string a1_3]] rfl (by (try simp only [List.map_toArray, List.map_cons, List.map_nil]); first | done | rfl | (simp only [List.length_drop, List.length_take]; rfl)) ?_; (with_reducible refine (potsherdref10_refuses.calls kj5 _ _ t302 false t306 a1_0 a1_1 a1_2 a1_3 t307 _ ?side1 ?side2 A37.out).mono ?_); (case side1 => repeat (first | exact (Kd.R_reads' HO_299000.out).2.2 | (with_reducible refine Kd.C_alloc ?_ _) | (with_reducible refine Kd.C_drewN ?_ _) | (with_reducible refine Kd.C_drew ?_))); (case side2 => exact (Kd.R_reads' HO_299000.out).2.1); rintro e w151 ⟨rfl, hb⟩; refine ⟨_, rfl, ?_⟩; have n0_ := Aside0.mk (Kd.R_below (by (with_reducible repeat (first | apply Kd.R_alloc | apply Kd.R_drewN | apply Kd.R_drew)); exact HO_299000.out) hb); have n1_ := Aside0.mk (blk_below (g := gb298) (o := .cells #[.slice Ao16 t302.length co16, .bool false, .int .i64 t306] 24 (0, 0)) (by (with_reducible repeat (first | refine blk_drewN ?_ _ | refine blk_drew ?_ | refine blk_alloc ?_ _)); exact BK298.out) hb); have n2_ := Aside0.mk (blk_below (g := gb299) (o := .cells #[.int .u8 a1_0, .string a1_1, .string a1_2, .string a1_3] 27 (0, 0)) (by (with_reducible repeat (first | refine blk_drewN ?_ _ | refine blk_drew ?_ | refine blk_alloc ?_ _)); exact BK299.out) hb); have n3_ := Aside0.mk (blk_below (g := gb300) (o := .cells #[.slice none 0 0, .bool false, .int .i64 0] 24 (0, 0)) (by (with_reducible repeat (first | refine blk_drewN ?_ _ | refine blk_drew ?_ | refine blk_alloc ?_ _)); exact BK300.out) hb); have n4_ := Aside0.mk (below_step (by repeat (first | (with_reducible first | exact HB.out | apply below_alloc | apply pw_below_drewN | apply below_drew1 | refine below_set ?_ GE298.out | refine below_set ?_ GE299.out | refine below_set ?_ GE300.out) | exact HB.out)) hb); clear HO_299000; clear BK298; clear BK299; clear BK300; clear HB; have HO_299000 := n0_; have BK298 := n1_; have BK299 := n2_; have BK300 := n3_; have HB := n4_; clear n0_ n1_ n2_ n3_ n4_; (try clear hb); (try clear hb2); (try clear hk); (try clear hi); have hcz152_0 : w151.cell? ⟨gb298, 0, none⟩ = some (.slice Ao16 t302.length co16) := (blk_cell BK298.out 0).trans rfl; have hcz152_1 : w151.cell? ⟨gb298, 1, none⟩ = some (.bool false) := (blk_cell BK298.out 1).trans rfl; have hcz152_2 : w151.cell? ⟨gb298, 2, none⟩ = some (.int .i64 t306) := (blk_cell BK298.out 2).trans rfl; have hfz152_0 := blk_frozen BK298.out 0; have hfz152_1 := blk_frozen BK298.out 1; have hfz152_2 := blk_frozen BK298.out 2; have hcz153_0 : w151.cell? ⟨gb300, 0, none⟩ = some (.slice none 0 0) := (blk_cell BK300.out 0).trans rfl; have hcz153_1 : w151.cell? ⟨gb300, 1, none⟩ = some (.bool false) := (blk_cell BK300.out 1).trans rfl; have hcz153_2 : w151.cell? ⟨gb300, 2, none⟩ = some (.int .i64 0) := (blk_cell BK300.out 2).trans rfl; have hfz153_0 := blk_frozen BK300.out 0; have hfz153_1 := blk_frozen BK300.out 1; have hfz153_2 := blk_frozen BK300.out 2))
              refine bodyPost_ret (results_ct rfl _ _ gb300 24 #[.slice Ao16 t302.length co16, .bool false, .int .i64 t306] (0, 0) _ rfl (by (with_reducible repeat (first | refine blk_drewN ?_ _ | refine blk_drew ?_ | refine blk_alloc ?_ _)); refine blk_put (cs := #[.slice Ao16 t302.length co16, .bool false, .int .i64 0]) ?_ 2 _ rfl; (with_reducible repeat (first | refine blk_drewN ?_ _ | refine blk_drew ?_ | refine blk_alloc ?_ _)); refine blk_put (cs := #[.slice Ao16 t302.length co16, .bool false, .int .i64 0]) ?_ 1 _ rfl; (with_reducible repeat (first | refine blk_drewN ?_ _ | refine blk_drew ?_ | refine blk_alloc ?_ _)); refine blk_put (cs := #[.slice none 0 0, .bool false, .int .i64 0]) ?_ 0 _ rfl; (with_reducible repeat (first | refine blk_drewN ?_ _ | refine blk_drew ?_ | refine blk_alloc ?_ _)); exact BK300.out) Try.underlying24 rfl (by kernel_rfl)) rfl ?_
              exact ⟨_, by first | rfl | (simp [errW_none, errW_some] <;> rfl) | (simp [*, errW_none, errW_some] <;> rfl), by (with_reducible repeat (first | apply Kd.R_alloc | apply Kd.R_drewN | apply Kd.R_drew)); exact Kd.R_mono (Kd.R_far (p := ⟨gb300, 2, none⟩) (Kd.R_far (p := ⟨gb300, 1, none⟩) (Kd.R_far (p := ⟨gb300, 0, none⟩) (Kd.R_types HO_299000.out BK300.out (by decide)) (fun _ hk => hk.2) (.slice Ao16 t302.length co16)) (fun _ hk => hk.2) (.bool false)) (fun _ hk => hk.2) (.int .i64 t306)) (fun _ hk => trivial), by repeat (first | (with_reducible first | exact HB.out | apply below_alloc | apply pw_below_drewN | apply below_drew1 | refine below_set ?_ GE298.out | refine below_set ?_ GE299.out | refine below_set ?_ GE300.out) | exact HB.out)⟩
  · rw [if_neg c4] at H
    have c4b0 : (t301 == 0) = false := beq_eq_false_iff_ne.mpr c4
    have c4b1 : (t301 != 0) = true := bne_iff_ne.mpr c4
    simp only [Option.some.injEq, Prod.mk.injEq] at H
    obtain ⟨rfl, rfl, rfl, rfl⟩ := H
    go_enter Try.func11, Try.ntmps11
    go_wp2_with (first | ((with_reducible refine gate_dst (N := 2) rfl ?_); refine box_event ?hg (N := 2) ?hd (cs := #[.slice A0_0 l0_0.length c0_0, .bool a0_1, .int .i64 a0_2]) (t := 24) ?hr ?_; (case hd => rfl); (case hg => rfl); (case hr => first | (go_simp; done) | (go_simp; rfl)); intro gb298 hg w154 hbox hb; have n0_ := Aside0.mk (below_step (by repeat (first | (with_reducible first | exact HB.out | apply below_alloc | apply pw_below_drewN | apply below_drew1) | exact HB.out)) hb); have n1_ := Aside0.mk (hbox); have n2_ := Aside0.mk ((by rw [hg]; exact (below_size (by repeat (first | (with_reducible first | exact HB.out | apply below_alloc | apply pw_below_drewN | apply below_drew1) | exact HB.out))) : w.heap.size ≤ gb298)); have n3_ := Aside0.mk ((by rw [hg]; exact (below_size (by repeat (first | (with_reducible first | exact HB.out | apply below_alloc | apply pw_below_drewN | apply below_drew1) | exact HB.out))) : w.heap.size ≤ gb298)); clear HB; have HB := n0_; have BK298 := n1_; have GW298 := n2_; have GE298 := n3_; clear n0_ n1_ n2_ n3_; clear hb hbox hg) | ((with_reducible refine gate_dst (N := 3) rfl ?_); refine box_event ?hg (N := 3) ?hd (cs := #[.int .u8 a1_0, .string a1_1, .string a1_2, .string a1_3]) (t := 27) ?hr ?_; (case hd => rfl); (case hg => rfl); (case hr => first | (go_simp; done) | (go_simp; rfl)); intro gb299 hg w155 hbox hb; have n0_ := Aside0.mk (blk_below (g := gb298) (o := .cells #[.slice A0_0 l0_0.length c0_0, .bool a0_1, .int .i64 a0_2] 24 (0, 0)) (by (with_reducible repeat (first | refine blk_drewN ?_ _ | refine blk_drew ?_ | refine blk_alloc ?_ _)); exact BK298.out) hb); have n1_ := Aside0.mk (below_step (by repeat (first | (with_reducible first | exact HB.out | apply below_alloc | apply pw_below_drewN | apply below_drew1 | refine below_set ?_ GE298.out) | exact HB.out)) hb); have n2_ := Aside0.mk (hbox); have n3_ := Aside0.mk ((by rw [hg]; exact (below_size (by repeat (first | (with_reducible first | exact HB.out | apply below_alloc | apply pw_below_drewN | apply below_drew1 | refine below_set ?_ GE298.out) | exact HB.out))) : w.heap.size ≤ gb299)); have n4_ := Aside0.mk ((by rw [hg]; exact (below_size (by repeat (first | (with_reducible first | exact HB.out | apply below_alloc | apply pw_below_drewN | apply below_drew1 | refine below_set ?_ GE298.out) | exact HB.out))) : w.heap.size ≤ gb299)); have n5_ := Aside0.mk ((by rw [hg]; exact Nat.ne_of_lt (blk_lt (g := gb298) (o := .cells #[.slice A0_0 l0_0.length c0_0, .bool a0_1, .int .i64 a0_2] 24 (0, 0)) (by (with_reducible repeat (first | refine blk_drewN ?_ _ | refine blk_drew ?_ | refine blk_alloc ?_ _)); exact BK298.out)) : gb298 ≠ gb299)); have n6_ := Aside0.mk ((by rw [hg]; exact Nat.ne_of_gt (blk_lt (g := gb298) (o := .cells #[.slice A0_0 l0_0.length c0_0, .bool a0_1, .int .i64 a0_2] 24 (0, 0)) (by (with_reducible repeat (first | refine blk_drewN ?_ _ | refine blk_drew ?_ | refine blk_alloc ?_ _)); exact BK298.out)) : gb299 ≠ gb298)); clear BK298; clear HB; have BK298 := n0_; have HB := n1_; have BK299 := n2_; have GW299 := n3_; have GE299 := n4_; have NB298_299 := n5_; have NB299_298 := n6_; clear n0_ n1_ n2_ n3_ n4_ n5_ n6_; clear hb hbox hg) | ((with_reducible refine gate_dst (N := 4) rfl ?_); refine box_event ?hg (N := 4) ?hd (cs := #[.slice none 0 0, .bool false, .int .i64 0]) (t := 24) ?hr ?_; (case hd => rfl); (case hg => rfl); (case hr => first | (go_simp; done) | (go_simp; rfl)); intro gb300 hg w156 hbox hb; have n0_ := Aside0.mk (blk_below (g := gb298) (o := .cells #[.slice A0_0 l0_0.length c0_0, .bool a0_1, .int .i64 a0_2] 24 (0, 0)) (by (with_reducible repeat (first | refine blk_drewN ?_ _ | refine blk_drew ?_ | refine blk_alloc ?_ _)); exact BK298.out) hb); have n1_ := Aside0.mk (blk_below (g := gb299) (o := .cells #[.int .u8 a1_0, .string a1_1, .string a1_2, .string a1_3] 27 (0, 0)) (by (with_reducible repeat (first | refine blk_drewN ?_ _ | refine blk_drew ?_ | refine blk_alloc ?_ _)); exact BK299.out) hb); have n2_ := Aside0.mk (below_step (by repeat (first | (with_reducible first | exact HB.out | apply below_alloc | apply pw_below_drewN | apply below_drew1 | refine below_set ?_ GE298.out | refine below_set ?_ GE299.out) | exact HB.out)) hb); have n3_ := Aside0.mk (hbox); have n4_ := Aside0.mk ((by rw [hg]; exact (below_size (by repeat (first | (with_reducible first | exact HB.out | apply below_alloc | apply pw_below_drewN | apply below_drew1 | refine below_set ?_ GE298.out | refine below_set ?_ GE299.out) | exact HB.out))) : w.heap.size ≤ gb300)); have n5_ := Aside0.mk ((by rw [hg]; exact (below_size (by repeat (first | (with_reducible first | exact HB.out | apply below_alloc | apply pw_below_drewN | apply below_drew1 | refine below_set ?_ GE298.out | refine below_set ?_ GE299.out) | exact HB.out))) : w.heap.size ≤ gb300)); have n6_ := Aside0.mk ((by rw [hg]; exact Nat.ne_of_lt (blk_lt (g := gb298) (o := .cells #[.slice A0_0 l0_0.length c0_0, .bool a0_1, .int .i64 a0_2] 24 (0, 0)) (by (with_reducible repeat (first | refine blk_drewN ?_ _ | refine blk_drew ?_ | refine blk_alloc ?_ _)); exact BK298.out)) : gb298 ≠ gb300)); have n7_ := Aside0.mk ((by rw [hg]; exact Nat.ne_of_gt (blk_lt (g := gb298) (o := .cells #[.slice A0_0 l0_0.length c0_0, .bool a0_1, .int .i64 a0_2] 24 (0, 0)) (by (with_reducible repeat (first | refine blk_drewN ?_ _ | refine blk_drew ?_ | refine blk_alloc ?_ _)); exact BK298.out)) : gb300 ≠ gb298)); have n8_ := Aside0.mk ((by rw [hg]; exact Nat.ne_of_lt (blk_lt (g := gb299) (o := .cells #[.int .u8 a1_0, .string a1_1, .string a1_2, .string a1_3] 27 (0, 0)) (by (with_reducible repeat (first | refine blk_drewN ?_ _ | refine blk_drew ?_ | refine blk_alloc ?_ _)); exact BK299.out)) : gb299 ≠ gb300)); have n9_ := Aside0.mk ((by rw [hg]; exact Nat.ne_of_gt (blk_lt (g := gb299) (o := .cells #[.int .u8 a1_0, .string a1_1, .string a1_2, .string a1_3] 27 (0, 0)) (by (with_reducible repeat (first | refine blk_drewN ?_ _ | refine blk_drew ?_ | refine blk_alloc ?_ _)); exact BK299.out)) : gb300 ≠ gb299)); clear BK298; clear BK299; clear HB; have BK298 := n0_; have BK299 := n1_; have HB := n2_; have BK300 := n3_; have GW300 := n4_; have GE300 := n5_; have NB298_300 := n6_; have NB300_298 := n7_; have NB299_300 := n8_; have NB300_299 := n9_; clear n0_ n1_ n2_ n3_ n4_ n5_ n6_ n7_ n8_ n9_; clear hb hbox hg; have hnb157 := NB298_299.out; have hnc157 := NB299_298.out; have hnb158 := NB298_300.out; have hnc158 := NB300_298.out; have hcz159_0 : w156.cell? ⟨gb298, 0, none⟩ = some (.slice A0_0 l0_0.length c0_0) := (blk_cell BK298.out 0).trans rfl; have hcz159_1 : w156.cell? ⟨gb298, 1, none⟩ = some (.bool a0_1) := (blk_cell BK298.out 1).trans rfl; have hcz159_2 : w156.cell? ⟨gb298, 2, none⟩ = some (.int .i64 a0_2) := (blk_cell BK298.out 2).trans rfl; have hfz159_0 := blk_frozen BK298.out 0; have hfz159_1 := blk_frozen BK298.out 1; have hfz159_2 := blk_frozen BK298.out 2) | ((with_reducible refine gate_callee (f := 19) rfl ?_); refine goesL_ (some 10) rfl rfl Try.func19 (by kernel_rfl) rfl #[.agg #[.slice A0_0 l0_0.length c0_0, .bool a0_1, .int .i64 a0_2]] rfl (by (try simp only [List.map_toArray, List.map_cons, List.map_nil]); first | done | rfl | (simp only [List.length_drop, List.length_take]; rfl)) ?_; (with_reducible refine (potsherdref10_Check.calls k _ _ l0_0 a0_1 a0_2 t301 _ ?side1 ?side2 A3.out).mono ?_); (case side1 => repeat (first | exact (Kd.C_below HR0_0.out HB.out) | (with_reducible refine Kd.C_alloc ?_ _) | (with_reducible refine Kd.C_drewN ?_ _) | (with_reducible refine Kd.C_drew ?_))); (case side2 => exact HC0_0.out); rintro e w160 ⟨rfl, hb⟩; refine ⟨_, rfl, ?_⟩; have n0_ := Aside0.mk (blk_below (g := gb298) (o := .cells #[.slice A0_0 l0_0.length c0_0, .bool a0_1, .int .i64 a0_2] 24 (0, 0)) (by (with_reducible repeat (first | refine blk_drewN ?_ _ | refine blk_drew ?_ | refine blk_alloc ?_ _)); exact BK298.out) hb); have n1_ := Aside0.mk (blk_below (g := gb299) (o := .cells #[.int .u8 a1_0, .string a1_1, .string a1_2, .string a1_3] 27 (0, 0)) (by (with_reducible repeat (first | refine blk_drewN ?_ _ | refine blk_drew ?_ | refine blk_alloc ?_ _)); exact BK299.out) hb); have n2_ := Aside0.mk (blk_below (g := gb300) (o := .cells #[.slice none 0 0, .bool false, .int .i64 0] 24 (0, 0)) (by (with_reducible repeat (first | refine blk_drewN ?_ _ | refine blk_drew ?_ | refine blk_alloc ?_ _)); exact BK300.out) hb); have n3_ := Aside0.mk (below_step (by repeat (first | (with_reducible first | exact HB.out | apply below_alloc | apply pw_below_drewN | apply below_drew1 | refine below_set ?_ GE298.out | refine below_set ?_ GE299.out | refine below_set ?_ GE300.out) | exact HB.out)) hb); clear BK298; clear BK299; clear BK300; clear HB; have BK298 := n0_; have BK299 := n1_; have BK300 := n2_; have HB := n3_; clear n0_ n1_ n2_ n3_; (try clear hb); (try clear hb2); (try clear hk); (try clear hi); have hnb161 := NB300_299.out; have hnc161 := NB299_300.out; have hcz162_0 : w160.cell? ⟨gb300, 0, none⟩ = some (.slice none 0 0) := (blk_cell BK300.out 0).trans rfl; have hcz162_1 : w160.cell? ⟨gb300, 1, none⟩ = some (.bool false) := (blk_cell BK300.out 1).trans rfl; have hcz162_2 : w160.cell? ⟨gb300, 2, none⟩ = some (.int .i64 0) := (blk_cell BK300.out 2).trans rfl; have hfz162_0 := blk_frozen BK300.out 0; have hfz162_1 := blk_frozen BK300.out 1; have hfz162_2 := blk_frozen BK300.out 2))
    refine bodyPost_ret (results_ct rfl _ _ gb300 24 #[.slice none 0 0, .bool false, .int .i64 0] (0, 0) _ rfl (by (with_reducible repeat (first | refine blk_drewN ?_ _ | refine blk_drew ?_ | refine blk_alloc ?_ _)); refine blk_put (cs := #[.slice none 0 0, .bool false, .int .i64 0]) ?_ 2 _ rfl; (with_reducible repeat (first | refine blk_drewN ?_ _ | refine blk_drew ?_ | refine blk_alloc ?_ _)); refine blk_put (cs := #[.slice none 0 0, .bool false, .int .i64 0]) ?_ 1 _ rfl; (with_reducible repeat (first | refine blk_drewN ?_ _ | refine blk_drew ?_ | refine blk_alloc ?_ _)); refine blk_put (cs := #[.slice none 0 0, .bool false, .int .i64 0]) ?_ 0 _ rfl; (with_reducible repeat (first | refine blk_drewN ?_ _ | refine blk_drew ?_ | refine blk_alloc ?_ _)); exact BK300.out) Try.underlying24 rfl (by kernel_rfl)) rfl ?_
    exact ⟨_, by first | rfl | (simp [errW_none, errW_some] <;> rfl) | (simp [*, errW_none, errW_some] <;> rfl), by first | exact Kd.R_nil _ _ _ _ _ | exact Kd.N_nil _ _ _ _ _ | exact Kd.V_nil _ _ _ _ _ | exact Kd.Q_nil _ _ _ _ _ | exact Kd.S_nil _ _ _ _ _, by repeat (first | (with_reducible first | exact HB.out | apply below_alloc | apply pw_below_drewN | apply below_drew1 | refine below_set ?_ GE298.out | refine below_set ?_ GE299.out | refine below_set ?_ GE300.out) | exact HB.out)⟩

end Go.Proofs.Ytebngchdmpabhaa.G
