/- Printed by the kit's printer (gp.sh with conf01b.py), then turned by asm01.py: potsherdlaw06_PlaceLays. Condition: utf8's tables are laid, where a function reads them. -/
import Derived.Test.YtfgmgcnbponknaaDoorAc3
import Derived.Test.YtfgmgcnbponknaaDoorLp5
namespace Go.Proofs.YtfgmgcnbponknaaDoor.Lx
open Go.RowKit Go.Proofs.YtfgmgcnbponknaaDoor.G Go.Proofs.YtfgmgcnbponknaaDoorW.PrintWords Go.Proofs.YtfgmgcnbponknaaDoorW.PrintLast Go.Proofs.YtfgmgcnbponknaaDoorW.PrintMore
attribute [local go_sem] max2_int min2_int max_two min_two max_three min_three max_four min_four str_leq str_gtr str_geq   -- for this text's walks alone
set_option linter.unusedVariables false
set_option linter.unusedSimpArgs false

/-! ### potsherdlaw06_PlaceLays: function 4 -/
mutual
def potsherdlaw06_PlaceLays.j0 : Nat → List (List (List (S38))) → List (List (List (S38))) → Bool → Int → Int → Int → Option (Bool)
  | 0, _, _, _, _, _, _ => none
  | k + 1, x17, x19, x92, x315000, x315001, x315002 => if x92 = true then (some false) else (potsherdlaw06_PlaceLays.l0 k x17 x19 (x17.length : Int) 0 x315000 x315001 x315002)
def potsherdlaw06_PlaceLays.l0 : Nat → List (List (List (S38))) → List (List (List (S38))) → Int → Int → Int → Int → Int → Option (Bool)
  | 0, _, _, _, _, _, _, _ => none
  | k + 1, x17, x19, x94, x95, x315000, x315001, x315002 => if x95 < x94 then (if 0 ≤ x95 then (if x95 < (x17.length : Int) then (if x95 < (x19.length : Int) then ((potsherdref01_Same.f k (rd_L8 x17 x95) (rd_L8 x19 x95)).bind fun t340 => (if t340 = true then (potsherdlaw06_PlaceLays.l0 k x17 x19 x94 (wrap64 (x95 + 1)) x315000 x315001 x315002) else (some false))) else (none)) else (none)) else (none)) else ((place_Check.f x315000 x315001 x315002).bind fun t341 => ((potsherdref06_Check.f x315000 x315001 x315002).bind fun t342 => (some (t341 == t342))))
end
def potsherdlaw06_PlaceLays.f (k : Nat) (a0_0 : Int) (a0_1 : Int) (a0_2 : Int) (a1 : Int) (l2 : List (S38)) (a3_0 : ByteArray) (l3_1 : List (S97)) (l3_2 : List (List (S38))) : Option (Bool) := (place_Owners.f k a0_0 a0_1 a0_2 a1).bind fun bt316 => ((potsherdref06_Owners.f k a0_0 a0_1 a0_2 a1).bind fun bt320 => ((place_Shard.f a0_0 a0_1 a0_2 l2).bind fun bt324 => ((potsherdref06_Shard.f k a0_0 a0_1 a0_2 l2).bind fun bt326 => ((place_Split.f a0_0 a0_1 a0_2 a3_0 l3_1 l3_2).bind fun bt328 => ((potsherdref06_Split.f a0_0 a0_1 a0_2 a3_0 l3_1 l3_2).bind fun bt332 => ((potsherdlaw06_lives.f k).bind fun t336 => (if t336 = true then ((potsherdref06_Ints.f k bt316.1 bt320.1).bind fun t337 => (if t337 = true then (if bt316.2 = bt320.2 then (if bt324.1 = bt326.1 then (if bt324.2 = bt326.2 then (if bt328.2 = bt332.2 then (potsherdlaw06_PlaceLays.j0 k bt328.1 bt332.1 ((bt328.1.length : Int) != (bt332.1.length : Int)) a0_0 a0_1 a0_2) else (potsherdlaw06_PlaceLays.j0 k bt328.1 bt332.1 true a0_0 a0_1 a0_2)) else (potsherdlaw06_PlaceLays.j0 k bt328.1 bt332.1 true a0_0 a0_1 a0_2)) else (potsherdlaw06_PlaceLays.j0 k bt328.1 bt332.1 true a0_0 a0_1 a0_2)) else (potsherdlaw06_PlaceLays.j0 k bt328.1 bt332.1 true a0_0 a0_1 a0_2)) else (potsherdlaw06_PlaceLays.j0 k bt328.1 bt332.1 true a0_0 a0_1 a0_2))) else (potsherdlaw06_PlaceLays.j0 k bt328.1 bt332.1 true a0_0 a0_1 a0_2))))))))
def potsherdlaw06_PlaceLays.T12 : Bool × List (List Nat × List Nat) := (true, [([], []), ([], []), ([0, 1], [0, 1]), ([2], [2]), ([], []), ([], []), ([4, 5], [4, 5]), ([6], [6]), ([3, 7], [3, 7]), ([8], [8])])
def potsherdlaw06_PlaceLays.B12 : List Nat := [0, 0, 3, 7, 0, 0, 48, 112, 255, 511]
theorem potsherdlaw06_PlaceLays.tab12 : rtab .any (opsOf Tryd.f4 12) = potsherdlaw06_PlaceLays.T12 := by kernel_rfl
theorem potsherdlaw06_PlaceLays.bits12 : waitsOk potsherdlaw06_PlaceLays.T12.2 potsherdlaw06_PlaceLays.B12 = true := by kernel_rfl
set_option maxHeartbeats 8000000 in
set_option maxRecDepth 100000 in
theorem potsherdlaw06_PlaceLays.calls (k : Nat) (a0_0 : Int) (a0_1 : Int) (a0_2 : Int) (a1 : Int) (A2 : Option Addr) (c2 : Nat) (l2 : List (S38)) (a3_0 : ByteArray) (A3_1 : Option Addr) (c3_1 : Nat) (l3_1 : List (S97)) (A3_2 : Option Addr) (c3_2 : Nat) (l3_2 : List (List (S38))) (r : Bool) (w : World) (hr2 : Kd.C k38 w A2 l2.length l2) (hc2 : l2.length ≤ c2) (hr3_1 : Kd.C k97 w A3_1 l3_1.length l3_1) (hc3_1 : l3_1.length ≤ c3_1) (hr3_2 : Kd.C (Kd.slice 38 k38) w A3_2 l3_2.length l3_2) (hc3_2 : l3_2.length ≤ c3_2) (h : potsherdlaw06_PlaceLays.f k a0_0 a0_1 a0_2 a1 l2 a3_0 l3_1 l3_2 = some r) (hT_ : Lib.Utf8Tabs 0 1 w) :
    Calls Tryd.prog 4 #[.agg #[.int .i64 a0_0, .int .i64 a0_1, .int .i64 a0_2], .int .i64 a1, .slice A2 l2.length c2, .agg #[.string a3_0, .slice A3_1 l3_1.length c3_1, .slice A3_2 l3_2.length c3_2]] w fun e w' => e = .returned (.bool r) ∧ Below w.heap.size w w' := by
  have hu23 := Tryd.underlying23
  have hu27 := Tryd.underlying27
  have HR2 := Aside0.mk hr2
  have HC2 := Aside0.mk hc2
  clear hr2 hc2
  have HR3_1 := Aside0.mk hr3_1
  have HC3_1 := Aside0.mk hc3_1
  clear hr3_1 hc3_1
  have HR3_2 := Aside0.mk hr3_2
  have HC3_2 := Aside0.mk hc3_2
  clear hr3_2 hc3_2
  have HB := Aside0.mk (Below.refl w.heap.size w)
  have HT9 := Aside0.mk hT_
  clear hT_
  have H : ((place_Owners.f k a0_0 a0_1 a0_2 a1).bind fun bt316 => ((potsherdref06_Owners.f k a0_0 a0_1 a0_2 a1).bind fun bt320 => ((place_Shard.f a0_0 a0_1 a0_2 l2).bind fun bt324 => ((potsherdref06_Shard.f k a0_0 a0_1 a0_2 l2).bind fun bt326 => ((place_Split.f a0_0 a0_1 a0_2 a3_0 l3_1 l3_2).bind fun bt328 => ((potsherdref06_Split.f a0_0 a0_1 a0_2 a3_0 l3_1 l3_2).bind fun bt332 => ((potsherdlaw06_lives.f k).bind fun t336 => (if t336 = true then ((potsherdref06_Ints.f k bt316.1 bt320.1).bind fun t337 => (if t337 = true then (if bt316.2 = bt320.2 then (if bt324.1 = bt326.1 then (if bt324.2 = bt326.2 then (if bt328.2 = bt332.2 then (potsherdlaw06_PlaceLays.j0 k bt328.1 bt332.1 ((bt328.1.length : Int) != (bt332.1.length : Int)) a0_0 a0_1 a0_2) else (potsherdlaw06_PlaceLays.j0 k bt328.1 bt332.1 true a0_0 a0_1 a0_2)) else (potsherdlaw06_PlaceLays.j0 k bt328.1 bt332.1 true a0_0 a0_1 a0_2)) else (potsherdlaw06_PlaceLays.j0 k bt328.1 bt332.1 true a0_0 a0_1 a0_2)) else (potsherdlaw06_PlaceLays.j0 k bt328.1 bt332.1 true a0_0 a0_1 a0_2)) else (potsherdlaw06_PlaceLays.j0 k bt328.1 bt332.1 true a0_0 a0_1 a0_2))) else (potsherdlaw06_PlaceLays.j0 k bt328.1 bt332.1 true a0_0 a0_1 a0_2))))))))) = some r := h
  clear h
  replace H := Option.bind_eq_some_iff.mp H
  obtain ⟨⟨t316, t319⟩, A50, H⟩ := H
  replace H : ((potsherdref06_Owners.f k a0_0 a0_1 a0_2 a1).bind fun bt320 => ((place_Shard.f a0_0 a0_1 a0_2 l2).bind fun bt324 => ((potsherdref06_Shard.f k a0_0 a0_1 a0_2 l2).bind fun bt326 => ((place_Split.f a0_0 a0_1 a0_2 a3_0 l3_1 l3_2).bind fun bt328 => ((potsherdref06_Split.f a0_0 a0_1 a0_2 a3_0 l3_1 l3_2).bind fun bt332 => ((potsherdlaw06_lives.f k).bind fun t336 => (if t336 = true then ((potsherdref06_Ints.f k t316 bt320.1).bind fun t337 => (if t337 = true then (if t319 = bt320.2 then (if bt324.1 = bt326.1 then (if bt324.2 = bt326.2 then (if bt328.2 = bt332.2 then (potsherdlaw06_PlaceLays.j0 k bt328.1 bt332.1 ((bt328.1.length : Int) != (bt332.1.length : Int)) a0_0 a0_1 a0_2) else (potsherdlaw06_PlaceLays.j0 k bt328.1 bt332.1 true a0_0 a0_1 a0_2)) else (potsherdlaw06_PlaceLays.j0 k bt328.1 bt332.1 true a0_0 a0_1 a0_2)) else (potsherdlaw06_PlaceLays.j0 k bt328.1 bt332.1 true a0_0 a0_1 a0_2)) else (potsherdlaw06_PlaceLays.j0 k bt328.1 bt332.1 true a0_0 a0_1 a0_2)) else (potsherdlaw06_PlaceLays.j0 k bt328.1 bt332.1 true a0_0 a0_1 a0_2))) else (potsherdlaw06_PlaceLays.j0 k bt328.1 bt332.1 true a0_0 a0_1 a0_2)))))))) = some r := H
  have A5 := Aside0.mk A50
  clear A50
  replace H := Option.bind_eq_some_iff.mp H
  obtain ⟨⟨t320, t323⟩, A60, H⟩ := H
  replace H : ((place_Shard.f a0_0 a0_1 a0_2 l2).bind fun bt324 => ((potsherdref06_Shard.f k a0_0 a0_1 a0_2 l2).bind fun bt326 => ((place_Split.f a0_0 a0_1 a0_2 a3_0 l3_1 l3_2).bind fun bt328 => ((potsherdref06_Split.f a0_0 a0_1 a0_2 a3_0 l3_1 l3_2).bind fun bt332 => ((potsherdlaw06_lives.f k).bind fun t336 => (if t336 = true then ((potsherdref06_Ints.f k t316 t320).bind fun t337 => (if t337 = true then (if t319 = t323 then (if bt324.1 = bt326.1 then (if bt324.2 = bt326.2 then (if bt328.2 = bt332.2 then (potsherdlaw06_PlaceLays.j0 k bt328.1 bt332.1 ((bt328.1.length : Int) != (bt332.1.length : Int)) a0_0 a0_1 a0_2) else (potsherdlaw06_PlaceLays.j0 k bt328.1 bt332.1 true a0_0 a0_1 a0_2)) else (potsherdlaw06_PlaceLays.j0 k bt328.1 bt332.1 true a0_0 a0_1 a0_2)) else (potsherdlaw06_PlaceLays.j0 k bt328.1 bt332.1 true a0_0 a0_1 a0_2)) else (potsherdlaw06_PlaceLays.j0 k bt328.1 bt332.1 true a0_0 a0_1 a0_2)) else (potsherdlaw06_PlaceLays.j0 k bt328.1 bt332.1 true a0_0 a0_1 a0_2))) else (potsherdlaw06_PlaceLays.j0 k bt328.1 bt332.1 true a0_0 a0_1 a0_2))))))) = some r := H
  have A6 := Aside0.mk A60
  clear A60
  replace H := Option.bind_eq_some_iff.mp H
  obtain ⟨⟨t324, t325⟩, A70, H⟩ := H
  replace H : ((potsherdref06_Shard.f k a0_0 a0_1 a0_2 l2).bind fun bt326 => ((place_Split.f a0_0 a0_1 a0_2 a3_0 l3_1 l3_2).bind fun bt328 => ((potsherdref06_Split.f a0_0 a0_1 a0_2 a3_0 l3_1 l3_2).bind fun bt332 => ((potsherdlaw06_lives.f k).bind fun t336 => (if t336 = true then ((potsherdref06_Ints.f k t316 t320).bind fun t337 => (if t337 = true then (if t319 = t323 then (if t324 = bt326.1 then (if t325 = bt326.2 then (if bt328.2 = bt332.2 then (potsherdlaw06_PlaceLays.j0 k bt328.1 bt332.1 ((bt328.1.length : Int) != (bt332.1.length : Int)) a0_0 a0_1 a0_2) else (potsherdlaw06_PlaceLays.j0 k bt328.1 bt332.1 true a0_0 a0_1 a0_2)) else (potsherdlaw06_PlaceLays.j0 k bt328.1 bt332.1 true a0_0 a0_1 a0_2)) else (potsherdlaw06_PlaceLays.j0 k bt328.1 bt332.1 true a0_0 a0_1 a0_2)) else (potsherdlaw06_PlaceLays.j0 k bt328.1 bt332.1 true a0_0 a0_1 a0_2)) else (potsherdlaw06_PlaceLays.j0 k bt328.1 bt332.1 true a0_0 a0_1 a0_2))) else (potsherdlaw06_PlaceLays.j0 k bt328.1 bt332.1 true a0_0 a0_1 a0_2)))))) = some r := H
  have A7 := Aside0.mk A70
  clear A70
  replace H := Option.bind_eq_some_iff.mp H
  obtain ⟨⟨t326, t327⟩, A80, H⟩ := H
  replace H : ((place_Split.f a0_0 a0_1 a0_2 a3_0 l3_1 l3_2).bind fun bt328 => ((potsherdref06_Split.f a0_0 a0_1 a0_2 a3_0 l3_1 l3_2).bind fun bt332 => ((potsherdlaw06_lives.f k).bind fun t336 => (if t336 = true then ((potsherdref06_Ints.f k t316 t320).bind fun t337 => (if t337 = true then (if t319 = t323 then (if t324 = t326 then (if t325 = t327 then (if bt328.2 = bt332.2 then (potsherdlaw06_PlaceLays.j0 k bt328.1 bt332.1 ((bt328.1.length : Int) != (bt332.1.length : Int)) a0_0 a0_1 a0_2) else (potsherdlaw06_PlaceLays.j0 k bt328.1 bt332.1 true a0_0 a0_1 a0_2)) else (potsherdlaw06_PlaceLays.j0 k bt328.1 bt332.1 true a0_0 a0_1 a0_2)) else (potsherdlaw06_PlaceLays.j0 k bt328.1 bt332.1 true a0_0 a0_1 a0_2)) else (potsherdlaw06_PlaceLays.j0 k bt328.1 bt332.1 true a0_0 a0_1 a0_2)) else (potsherdlaw06_PlaceLays.j0 k bt328.1 bt332.1 true a0_0 a0_1 a0_2))) else (potsherdlaw06_PlaceLays.j0 k bt328.1 bt332.1 true a0_0 a0_1 a0_2))))) = some r := H
  have A8 := Aside0.mk A80
  clear A80
  replace H := Option.bind_eq_some_iff.mp H
  obtain ⟨⟨t328, t331⟩, A90, H⟩ := H
  replace H : ((potsherdref06_Split.f a0_0 a0_1 a0_2 a3_0 l3_1 l3_2).bind fun bt332 => ((potsherdlaw06_lives.f k).bind fun t336 => (if t336 = true then ((potsherdref06_Ints.f k t316 t320).bind fun t337 => (if t337 = true then (if t319 = t323 then (if t324 = t326 then (if t325 = t327 then (if t331 = bt332.2 then (potsherdlaw06_PlaceLays.j0 k t328 bt332.1 ((t328.length : Int) != (bt332.1.length : Int)) a0_0 a0_1 a0_2) else (potsherdlaw06_PlaceLays.j0 k t328 bt332.1 true a0_0 a0_1 a0_2)) else (potsherdlaw06_PlaceLays.j0 k t328 bt332.1 true a0_0 a0_1 a0_2)) else (potsherdlaw06_PlaceLays.j0 k t328 bt332.1 true a0_0 a0_1 a0_2)) else (potsherdlaw06_PlaceLays.j0 k t328 bt332.1 true a0_0 a0_1 a0_2)) else (potsherdlaw06_PlaceLays.j0 k t328 bt332.1 true a0_0 a0_1 a0_2))) else (potsherdlaw06_PlaceLays.j0 k t328 bt332.1 true a0_0 a0_1 a0_2)))) = some r := H
  have A9 := Aside0.mk A90
  clear A90
  replace H := Option.bind_eq_some_iff.mp H
  obtain ⟨⟨t332, t335⟩, A100, H⟩ := H
  replace H : ((potsherdlaw06_lives.f k).bind fun t336 => (if t336 = true then ((potsherdref06_Ints.f k t316 t320).bind fun t337 => (if t337 = true then (if t319 = t323 then (if t324 = t326 then (if t325 = t327 then (if t331 = t335 then (potsherdlaw06_PlaceLays.j0 k t328 t332 ((t328.length : Int) != (t332.length : Int)) a0_0 a0_1 a0_2) else (potsherdlaw06_PlaceLays.j0 k t328 t332 true a0_0 a0_1 a0_2)) else (potsherdlaw06_PlaceLays.j0 k t328 t332 true a0_0 a0_1 a0_2)) else (potsherdlaw06_PlaceLays.j0 k t328 t332 true a0_0 a0_1 a0_2)) else (potsherdlaw06_PlaceLays.j0 k t328 t332 true a0_0 a0_1 a0_2)) else (potsherdlaw06_PlaceLays.j0 k t328 t332 true a0_0 a0_1 a0_2))) else (potsherdlaw06_PlaceLays.j0 k t328 t332 true a0_0 a0_1 a0_2))) = some r := H
  have A10 := Aside0.mk A100
  clear A100
  have HC11 := Aside0.mk H
  clear H
  go_enter Tryd.func4, Tryd.ntmps4
  go_upto_region 7 with (first | ((with_reducible refine gate_dst (N := 4) rfl ?_); (try (refine gate_guard (by rfl) ?_; dsimp only)); refine box_event ?hg (N := 4) ?hd (cs := #[.int .i64 a0_0, .int .i64 a0_1, .int .i64 a0_2]) (t := 23) ?hr ?_; (case hd => rfl); (case hg => rfl); (case hr => first | (go_simp; done) | (go_simp; rfl)); intro gb314 hg w12 hbox hb; have n0_ := Aside0.mk (below_step (by repeat (first | (with_reducible first | exact HB.out | apply below_alloc | apply pw_below_drewN | apply below_drew1) | exact HB.out)) hb); have n1_ := Aside0.mk (hbox); have n2_ := Aside0.mk ((by rw [hg]; exact (below_size (by repeat (first | (with_reducible first | exact HB.out | apply below_alloc | apply pw_below_drewN | apply below_drew1) | exact HB.out))) : w.heap.size ≤ gb314)); have n3_ := Aside0.mk ((by rw [hg]; exact (below_size (by repeat (first | (with_reducible first | exact HB.out | apply below_alloc | apply pw_below_drewN | apply below_drew1) | exact HB.out))) : w.heap.size ≤ gb314)); clear HB; have HB := n0_; have BK314 := n1_; have GW314 := n2_; have GE314 := n3_; clear n0_ n1_ n2_ n3_; clear hb hbox hg) | ((with_reducible refine gate_dst (N := 7) rfl ?_); (try (refine gate_guard (by rfl) ?_; dsimp only)); refine box_event ?hg (N := 7) ?hd (cs := #[.string a3_0, .slice A3_1 l3_1.length c3_1, .slice A3_2 l3_2.length c3_2]) (t := 27) ?hr ?_; (case hd => rfl); (case hg => rfl); (case hr => first | (go_simp; done) | (go_simp; rfl)); intro gb315 hg w13 hbox hb; have n0_ := Aside0.mk (blk_below (g := gb314) (o := .cells #[.int .i64 a0_0, .int .i64 a0_1, .int .i64 a0_2] 23 (0, 0)) (by (with_reducible repeat (first | refine blk_drewN ?_ _ | refine blk_drew ?_ | refine blk_alloc ?_ _)); exact BK314.out) hb); have n1_ := Aside0.mk (below_step (by repeat (first | (with_reducible first | exact HB.out | apply below_alloc | apply pw_below_drewN | apply below_drew1 | refine below_set ?_ GE314.out) | exact HB.out)) hb); have n2_ := Aside0.mk (hbox); have n3_ := Aside0.mk ((by rw [hg]; exact (below_size (by repeat (first | (with_reducible first | exact HB.out | apply below_alloc | apply pw_below_drewN | apply below_drew1 | refine below_set ?_ GE314.out) | exact HB.out))) : w.heap.size ≤ gb315)); have n4_ := Aside0.mk ((by rw [hg]; exact (below_size (by repeat (first | (with_reducible first | exact HB.out | apply below_alloc | apply pw_below_drewN | apply below_drew1 | refine below_set ?_ GE314.out) | exact HB.out))) : w.heap.size ≤ gb315)); have n5_ := Aside0.mk ((by rw [hg]; exact Nat.ne_of_lt (blk_lt (g := gb314) (o := .cells #[.int .i64 a0_0, .int .i64 a0_1, .int .i64 a0_2] 23 (0, 0)) (by (with_reducible repeat (first | refine blk_drewN ?_ _ | refine blk_drew ?_ | refine blk_alloc ?_ _)); exact BK314.out)) : gb314 ≠ gb315)); have n6_ := Aside0.mk ((by rw [hg]; exact Nat.ne_of_gt (blk_lt (g := gb314) (o := .cells #[.int .i64 a0_0, .int .i64 a0_1, .int .i64 a0_2] 23 (0, 0)) (by (with_reducible repeat (first | refine blk_drewN ?_ _ | refine blk_drew ?_ | refine blk_alloc ?_ _)); exact BK314.out)) : gb315 ≠ gb314)); clear BK314; clear HB; have BK314 := n0_; have HB := n1_; have BK315 := n2_; have GW315 := n3_; have GE315 := n4_; have NB314_315 := n5_; have NB315_314 := n6_; clear n0_ n1_ n2_ n3_ n4_ n5_ n6_; clear hb hbox hg; have hnb14 := NB314_315.out; have hnc14 := NB315_314.out; have hcz15_0 : w13.cell? ⟨gb314, 0, none⟩ = some (.int .i64 a0_0) := (blk_cell BK314.out 0).trans rfl; have hcz15_1 : w13.cell? ⟨gb314, 1, none⟩ = some (.int .i64 a0_1) := (blk_cell BK314.out 1).trans rfl; have hcz15_2 : w13.cell? ⟨gb314, 2, none⟩ = some (.int .i64 a0_2) := (blk_cell BK314.out 2).trans rfl; have hfz15_0 := blk_frozen BK314.out 0; have hfz15_1 := blk_frozen BK314.out 1; have hfz15_2 := blk_frozen BK314.out 2) | ((with_reducible refine gate_callee (f := 16) rfl ?_); refine goesL_ (some 25) rfl rfl Tryd.func16 (by kernel_rfl) rfl #[.agg #[.int .i64 a0_0, .int .i64 a0_1, .int .i64 a0_2], .int .i64 a1] rfl (by (try simp only [List.map_toArray, List.map_cons, List.map_nil]); first | done | rfl | (simp only [List.length_drop, List.length_take]; rfl)) ?_; (with_reducible refine (place_Owners.calls k a0_0 a0_1 a0_2 a1 t316 t319 _ A5.out).mono ?_); rintro e w16 ⟨v317, rfl, ho0, hb⟩; refine ⟨_, rfl, ?_⟩; have n0_ := Aside0.mk (Kd.R_lower ho0 (below_size (by repeat (first | (with_reducible first | exact HB.out | apply below_alloc | apply pw_below_drewN | apply below_drew1 | refine below_set ?_ GE314.out | refine below_set ?_ GE315.out) | exact HB.out)))); have n1_ := Aside0.mk (blk_below (g := gb314) (o := .cells #[.int .i64 a0_0, .int .i64 a0_1, .int .i64 a0_2] 23 (0, 0)) (by (with_reducible repeat (first | refine blk_drewN ?_ _ | refine blk_drew ?_ | refine blk_alloc ?_ _)); exact BK314.out) hb); have n2_ := Aside0.mk (blk_below (g := gb315) (o := .cells #[.string a3_0, .slice A3_1 l3_1.length c3_1, .slice A3_2 l3_2.length c3_2] 27 (0, 0)) (by (with_reducible repeat (first | refine blk_drewN ?_ _ | refine blk_drew ?_ | refine blk_alloc ?_ _)); exact BK315.out) hb); have n3_ := Aside0.mk (below_step (by repeat (first | (with_reducible first | exact HB.out | apply below_alloc | apply pw_below_drewN | apply below_drew1 | refine below_set ?_ GE314.out | refine below_set ?_ GE315.out) | exact HB.out)) hb); clear BK314; clear BK315; clear HB; have HO318 := n0_; have BK314 := n1_; have BK315 := n2_; have HB := n3_; clear n0_ n1_ n2_ n3_; (try clear hb); (try clear hb2); (try clear hk); (try clear hi); (try clear ho0); have hcz17_0 : w16.cell? ⟨gb314, 0, none⟩ = some (.int .i64 a0_0) := (blk_cell BK314.out 0).trans rfl; have hcz17_1 : w16.cell? ⟨gb314, 1, none⟩ = some (.int .i64 a0_1) := (blk_cell BK314.out 1).trans rfl; have hcz17_2 : w16.cell? ⟨gb314, 2, none⟩ = some (.int .i64 a0_2) := (blk_cell BK314.out 2).trans rfl; have hfz17_0 := blk_frozen BK314.out 0; have hfz17_1 := blk_frozen BK314.out 1; have hfz17_2 := blk_frozen BK314.out 2) | ((with_reducible refine gate_callee (f := 17) rfl ?_); refine goesL_ (some 31) rfl rfl Tryd.func17 (by kernel_rfl) rfl #[.agg #[.int .i64 a0_0, .int .i64 a0_1, .int .i64 a0_2], .int .i64 a1] rfl (by (try simp only [List.map_toArray, List.map_cons, List.map_nil]); first | done | rfl | (simp only [List.length_drop, List.length_take]; rfl)) ?_; (with_reducible refine (potsherdref06_Owners.calls k a0_0 a0_1 a0_2 a1 t320 t323 _ A6.out).mono ?_); rintro e w18 ⟨v321, rfl, ho0, hb⟩; refine ⟨_, rfl, ?_⟩; have n0_ := Aside0.mk (Kd.R_elder' (by (with_reducible repeat (first | apply Kd.R_alloc | apply Kd.R_drewN | apply Kd.R_drew)); exact HO318.out) (Kd.R_base ho0) hb); have n1_ := Aside0.mk (Kd.R_lower (Kd.R_new' ho0 (Kd.R_lt (by (with_reducible repeat (first | apply Kd.R_alloc | apply Kd.R_drewN | apply Kd.R_drew)); exact HO318.out))) (below_size (by repeat (first | (with_reducible first | exact HB.out | apply below_alloc | apply pw_below_drewN | apply below_drew1 | refine below_set ?_ GE314.out | refine below_set ?_ GE315.out) | exact HB.out)))); have n2_ := Aside0.mk (blk_below (g := gb314) (o := .cells #[.int .i64 a0_0, .int .i64 a0_1, .int .i64 a0_2] 23 (0, 0)) (by (with_reducible repeat (first | refine blk_drewN ?_ _ | refine blk_drew ?_ | refine blk_alloc ?_ _)); exact BK314.out) hb); have n3_ := Aside0.mk (blk_below (g := gb315) (o := .cells #[.string a3_0, .slice A3_1 l3_1.length c3_1, .slice A3_2 l3_2.length c3_2] 27 (0, 0)) (by (with_reducible repeat (first | refine blk_drewN ?_ _ | refine blk_drew ?_ | refine blk_alloc ?_ _)); exact BK315.out) hb); have n4_ := Aside0.mk (below_step (by repeat (first | (with_reducible first | exact HB.out | apply below_alloc | apply pw_below_drewN | apply below_drew1 | refine below_set ?_ GE314.out | refine below_set ?_ GE315.out) | exact HB.out)) hb); clear HO318; clear BK314; clear BK315; clear HB; have HO318 := n0_; have HO322 := n1_; have BK314 := n2_; have BK315 := n3_; have HB := n4_; clear n0_ n1_ n2_ n3_ n4_; (try clear hb); (try clear hb2); (try clear hk); (try clear hi); (try clear ho0); have hcz19_0 : w18.cell? ⟨gb314, 0, none⟩ = some (.int .i64 a0_0) := (blk_cell BK314.out 0).trans rfl; have hcz19_1 : w18.cell? ⟨gb314, 1, none⟩ = some (.int .i64 a0_1) := (blk_cell BK314.out 1).trans rfl; have hcz19_2 : w18.cell? ⟨gb314, 2, none⟩ = some (.int .i64 a0_2) := (blk_cell BK314.out 2).trans rfl; have hfz19_0 := blk_frozen BK314.out 0; have hfz19_1 := blk_frozen BK314.out 1; have hfz19_2 := blk_frozen BK314.out 2) | ((with_reducible refine gate_callee (f := 18) rfl ?_); refine goesL_ (some 37) rfl rfl Tryd.func18 (by kernel_rfl) rfl #[.agg #[.int .i64 a0_0, .int .i64 a0_1, .int .i64 a0_2], .slice A2 l2.length c2] rfl (by (try simp only [List.map_toArray, List.map_cons, List.map_nil]); first | done | rfl | (simp only [List.length_drop, List.length_take]; rfl)) ?_; (with_reducible refine (place_Shard.calls a0_0 a0_1 a0_2 _ _ l2 t324 t325 _ ?side1 ?side2 A7.out).mono ?_); (case side1 => repeat (first | exact (Kd.C_below HR2.out HB.out) | (with_reducible refine Kd.C_alloc ?_ _) | (with_reducible refine Kd.C_drewN ?_ _) | (with_reducible refine Kd.C_drew ?_))); (case side2 => exact HC2.out); rintro e w20 ⟨rfl, hb⟩; refine ⟨_, rfl, ?_⟩; have n0_ := Aside0.mk (Kd.R_below (by (with_reducible repeat (first | apply Kd.R_alloc | apply Kd.R_drewN | apply Kd.R_drew)); exact HO318.out) hb); have n1_ := Aside0.mk (Kd.R_below (by (with_reducible repeat (first | apply Kd.R_alloc | apply Kd.R_drewN | apply Kd.R_drew)); exact HO322.out) hb); have n2_ := Aside0.mk (blk_below (g := gb314) (o := .cells #[.int .i64 a0_0, .int .i64 a0_1, .int .i64 a0_2] 23 (0, 0)) (by (with_reducible repeat (first | refine blk_drewN ?_ _ | refine blk_drew ?_ | refine blk_alloc ?_ _)); exact BK314.out) hb); have n3_ := Aside0.mk (blk_below (g := gb315) (o := .cells #[.string a3_0, .slice A3_1 l3_1.length c3_1, .slice A3_2 l3_2.length c3_2] 27 (0, 0)) (by (with_reducible repeat (first | refine blk_drewN ?_ _ | refine blk_drew ?_ | refine blk_alloc ?_ _)); exact BK315.out) hb); have n4_ := Aside0.mk (below_step (by repeat (first | (with_reducible first | exact HB.out | apply below_alloc | apply pw_below_drewN | apply below_drew1 | refine below_set ?_ GE314.out | refine below_set ?_ GE315.out) | exact HB.out)) hb); clear HO318; clear HO322; clear BK314; clear BK315; clear HB; have HO318 := n0_; have HO322 := n1_; have BK314 := n2_; have BK315 := n3_; have HB := n4_; clear n0_ n1_ n2_ n3_ n4_; (try clear hb); (try clear hb2); (try clear hk); (try clear hi); have hcz21_0 : w20.cell? ⟨gb314, 0, none⟩ = some (.int .i64 a0_0) := (blk_cell BK314.out 0).trans rfl; have hcz21_1 : w20.cell? ⟨gb314, 1, none⟩ = some (.int .i64 a0_1) := (blk_cell BK314.out 1).trans rfl; have hcz21_2 : w20.cell? ⟨gb314, 2, none⟩ = some (.int .i64 a0_2) := (blk_cell BK314.out 2).trans rfl; have hfz21_0 := blk_frozen BK314.out 0; have hfz21_1 := blk_frozen BK314.out 1; have hfz21_2 := blk_frozen BK314.out 2) | ((with_reducible refine gate_callee (f := 19) rfl ?_); refine goesL_ (some 43) rfl rfl Tryd.func19 (by kernel_rfl) rfl #[.agg #[.int .i64 a0_0, .int .i64 a0_1, .int .i64 a0_2], .slice A2 l2.length c2] rfl (by (try simp only [List.map_toArray, List.map_cons, List.map_nil]); first | done | rfl | (simp only [List.length_drop, List.length_take]; rfl)) ?_; (with_reducible refine (potsherdref06_Shard.calls k a0_0 a0_1 a0_2 _ _ l2 t326 t327 _ ?side1 ?side2 A8.out).mono ?_); (case side1 => repeat (first | exact (Kd.C_below HR2.out HB.out) | (with_reducible refine Kd.C_alloc ?_ _) | (with_reducible refine Kd.C_drewN ?_ _) | (with_reducible refine Kd.C_drew ?_))); (case side2 => exact HC2.out); rintro e w22 ⟨rfl, hb⟩; refine ⟨_, rfl, ?_⟩; have n0_ := Aside0.mk (Kd.R_below (by (with_reducible repeat (first | apply Kd.R_alloc | apply Kd.R_drewN | apply Kd.R_drew)); exact HO318.out) hb); have n1_ := Aside0.mk (Kd.R_below (by (with_reducible repeat (first | apply Kd.R_alloc | apply Kd.R_drewN | apply Kd.R_drew)); exact HO322.out) hb); have n2_ := Aside0.mk (blk_below (g := gb314) (o := .cells #[.int .i64 a0_0, .int .i64 a0_1, .int .i64 a0_2] 23 (0, 0)) (by (with_reducible repeat (first | refine blk_drewN ?_ _ | refine blk_drew ?_ | refine blk_alloc ?_ _)); exact BK314.out) hb); have n3_ := Aside0.mk (blk_below (g := gb315) (o := .cells #[.string a3_0, .slice A3_1 l3_1.length c3_1, .slice A3_2 l3_2.length c3_2] 27 (0, 0)) (by (with_reducible repeat (first | refine blk_drewN ?_ _ | refine blk_drew ?_ | refine blk_alloc ?_ _)); exact BK315.out) hb); have n4_ := Aside0.mk (below_step (by repeat (first | (with_reducible first | exact HB.out | apply below_alloc | apply pw_below_drewN | apply below_drew1 | refine below_set ?_ GE314.out | refine below_set ?_ GE315.out) | exact HB.out)) hb); clear HO318; clear HO322; clear BK314; clear BK315; clear HB; have HO318 := n0_; have HO322 := n1_; have BK314 := n2_; have BK315 := n3_; have HB := n4_; clear n0_ n1_ n2_ n3_ n4_; (try clear hb); (try clear hb2); (try clear hk); (try clear hi); have hcz23_0 : w22.cell? ⟨gb314, 0, none⟩ = some (.int .i64 a0_0) := (blk_cell BK314.out 0).trans rfl; have hcz23_1 : w22.cell? ⟨gb314, 1, none⟩ = some (.int .i64 a0_1) := (blk_cell BK314.out 1).trans rfl; have hcz23_2 : w22.cell? ⟨gb314, 2, none⟩ = some (.int .i64 a0_2) := (blk_cell BK314.out 2).trans rfl; have hfz23_0 := blk_frozen BK314.out 0; have hfz23_1 := blk_frozen BK314.out 1; have hfz23_2 := blk_frozen BK314.out 2; have hcz24_0 : w22.cell? ⟨gb315, 0, none⟩ = some (.string a3_0) := (blk_cell BK315.out 0).trans rfl; have hcz24_1 : w22.cell? ⟨gb315, 1, none⟩ = some (.slice A3_1 l3_1.length c3_1) := (blk_cell BK315.out 1).trans rfl; have hcz24_2 : w22.cell? ⟨gb315, 2, none⟩ = some (.slice A3_2 l3_2.length c3_2) := (blk_cell BK315.out 2).trans rfl; have hfz24_0 := blk_frozen BK315.out 0; have hfz24_1 := blk_frozen BK315.out 1; have hfz24_2 := blk_frozen BK315.out 2) | ((with_reducible refine gate_callee (f := 12) rfl ?_); refine goesL_ (some 49) rfl rfl Tryd.func12 (by kernel_rfl) rfl #[.agg #[.int .i64 a0_0, .int .i64 a0_1, .int .i64 a0_2], .agg #[.string a3_0, .slice A3_1 l3_1.length c3_1, .slice A3_2 l3_2.length c3_2]] rfl (by (try simp only [List.map_toArray, List.map_cons, List.map_nil]); first | done | rfl | (simp only [List.length_drop, List.length_take]; rfl)) ?_; (with_reducible refine (place_Split.calls a0_0 a0_1 a0_2 a3_0 _ _ l3_1 _ _ l3_2 t328 t331 _ ?side1 ?side2 ?side3 ?side4 A9.out ?sideT).mono ?_); (case sideT => exact Utf8Tabs_below HT9.out (by repeat (first | (with_reducible first | exact HB.out | apply below_alloc | apply pw_below_drewN | apply below_drew1 | refine below_set ?_ GE314.out | refine below_set ?_ GE315.out) | exact HB.out))); (case side1 => repeat (first | exact (Kd.C_below HR3_1.out HB.out) | (with_reducible refine Kd.C_alloc ?_ _) | (with_reducible refine Kd.C_drewN ?_ _) | (with_reducible refine Kd.C_drew ?_))); (case side2 => exact HC3_1.out); (case side3 => repeat (first | exact (Kd.C_below HR3_2.out HB.out) | (with_reducible refine Kd.C_alloc ?_ _) | (with_reducible refine Kd.C_drewN ?_ _) | (with_reducible refine Kd.C_drew ?_))); (case side4 => exact HC3_2.out); rintro e w25 ⟨v329, rfl, ho0, hb⟩; refine ⟨_, rfl, ?_⟩; have n0_ := Aside0.mk (Kd.R_below (by (with_reducible repeat (first | apply Kd.R_alloc | apply Kd.R_drewN | apply Kd.R_drew)); exact HO318.out) hb); have n1_ := Aside0.mk (Kd.R_below (by (with_reducible repeat (first | apply Kd.R_alloc | apply Kd.R_drewN | apply Kd.R_drew)); exact HO322.out) hb); have n2_ := Aside0.mk (Kd.R_lower ho0 (below_size (by repeat (first | (with_reducible first | exact HB.out | apply below_alloc | apply pw_below_drewN | apply below_drew1 | refine below_set ?_ GE314.out | refine below_set ?_ GE315.out) | exact HB.out)))); have n3_ := Aside0.mk (blk_below (g := gb314) (o := .cells #[.int .i64 a0_0, .int .i64 a0_1, .int .i64 a0_2] 23 (0, 0)) (by (with_reducible repeat (first | refine blk_drewN ?_ _ | refine blk_drew ?_ | refine blk_alloc ?_ _)); exact BK314.out) hb); have n4_ := Aside0.mk (blk_below (g := gb315) (o := .cells #[.string a3_0, .slice A3_1 l3_1.length c3_1, .slice A3_2 l3_2.length c3_2] 27 (0, 0)) (by (with_reducible repeat (first | refine blk_drewN ?_ _ | refine blk_drew ?_ | refine blk_alloc ?_ _)); exact BK315.out) hb); have n5_ := Aside0.mk (below_step (by repeat (first | (with_reducible first | exact HB.out | apply below_alloc | apply pw_below_drewN | apply below_drew1 | refine below_set ?_ GE314.out | refine below_set ?_ GE315.out) | exact HB.out)) hb); clear HO318; clear HO322; clear BK314; clear BK315; clear HB; have HO318 := n0_; have HO322 := n1_; have HO330 := n2_; have BK314 := n3_; have BK315 := n4_; have HB := n5_; clear n0_ n1_ n2_ n3_ n4_ n5_; (try clear hb); (try clear hb2); (try clear hk); (try clear hi); (try clear ho0); have hcz26_0 : w25.cell? ⟨gb314, 0, none⟩ = some (.int .i64 a0_0) := (blk_cell BK314.out 0).trans rfl; have hcz26_1 : w25.cell? ⟨gb314, 1, none⟩ = some (.int .i64 a0_1) := (blk_cell BK314.out 1).trans rfl; have hcz26_2 : w25.cell? ⟨gb314, 2, none⟩ = some (.int .i64 a0_2) := (blk_cell BK314.out 2).trans rfl; have hfz26_0 := blk_frozen BK314.out 0; have hfz26_1 := blk_frozen BK314.out 1; have hfz26_2 := blk_frozen BK314.out 2; have hcz27_0 : w25.cell? ⟨gb315, 0, none⟩ = some (.string a3_0) := (blk_cell BK315.out 0).trans rfl; have hcz27_1 : w25.cell? ⟨gb315, 1, none⟩ = some (.slice A3_1 l3_1.length c3_1) := (blk_cell BK315.out 1).trans rfl; have hcz27_2 : w25.cell? ⟨gb315, 2, none⟩ = some (.slice A3_2 l3_2.length c3_2) := (blk_cell BK315.out 2).trans rfl; have hfz27_0 := blk_frozen BK315.out 0; have hfz27_1 := blk_frozen BK315.out 1; have hfz27_2 := blk_frozen BK315.out 2) | ((with_reducible refine gate_callee (f := 20) rfl ?_); refine goesL_ (some 55) rfl rfl Tryd.func20 (by kernel_rfl) rfl #[.agg #[.int .i64 a0_0, .int .i64 a0_1, .int .i64 a0_2], .agg #[.string a3_0, .slice A3_1 l3_1.length c3_1, .slice A3_2 l3_2.length c3_2]] rfl (by (try simp only [List.map_toArray, List.map_cons, List.map_nil]); first | done | rfl | (simp only [List.length_drop, List.length_take]; rfl)) ?_; (with_reducible refine (potsherdref06_Split.calls a0_0 a0_1 a0_2 a3_0 _ _ l3_1 _ _ l3_2 t332 t335 _ ?side1 ?side2 ?side3 ?side4 A10.out).mono ?_); (case side1 => repeat (first | exact (Kd.C_below HR3_1.out HB.out) | (with_reducible refine Kd.C_alloc ?_ _) | (with_reducible refine Kd.C_drewN ?_ _) | (with_reducible refine Kd.C_drew ?_))); (case side2 => exact HC3_1.out); (case side3 => repeat (first | exact (Kd.C_below HR3_2.out HB.out) | (with_reducible refine Kd.C_alloc ?_ _) | (with_reducible refine Kd.C_drewN ?_ _) | (with_reducible refine Kd.C_drew ?_))); (case side4 => exact HC3_2.out); rintro e w28 ⟨v333, rfl, ho0, hb⟩; refine ⟨_, rfl, ?_⟩; have n0_ := Aside0.mk (Kd.R_below (by (with_reducible repeat (first | apply Kd.R_alloc | apply Kd.R_drewN | apply Kd.R_drew)); exact HO318.out) hb); have n1_ := Aside0.mk (Kd.R_below (by (with_reducible repeat (first | apply Kd.R_alloc | apply Kd.R_drewN | apply Kd.R_drew)); exact HO322.out) hb); have n2_ := Aside0.mk (Kd.R_elder' (by (with_reducible repeat (first | apply Kd.R_alloc | apply Kd.R_drewN | apply Kd.R_drew)); exact HO330.out) (Kd.R_base ho0) hb); have n3_ := Aside0.mk (Kd.R_lower (Kd.R_new' ho0 (Kd.R_lt (by (with_reducible repeat (first | apply Kd.R_alloc | apply Kd.R_drewN | apply Kd.R_drew)); exact HO330.out))) (below_size (by repeat (first | (with_reducible first | exact HB.out | apply below_alloc | apply pw_below_drewN | apply below_drew1 | refine below_set ?_ GE314.out | refine below_set ?_ GE315.out) | exact HB.out)))); have n4_ := Aside0.mk (blk_below (g := gb314) (o := .cells #[.int .i64 a0_0, .int .i64 a0_1, .int .i64 a0_2] 23 (0, 0)) (by (with_reducible repeat (first | refine blk_drewN ?_ _ | refine blk_drew ?_ | refine blk_alloc ?_ _)); exact BK314.out) hb); have n5_ := Aside0.mk (blk_below (g := gb315) (o := .cells #[.string a3_0, .slice A3_1 l3_1.length c3_1, .slice A3_2 l3_2.length c3_2] 27 (0, 0)) (by (with_reducible repeat (first | refine blk_drewN ?_ _ | refine blk_drew ?_ | refine blk_alloc ?_ _)); exact BK315.out) hb); have n6_ := Aside0.mk (below_step (by repeat (first | (with_reducible first | exact HB.out | apply below_alloc | apply pw_below_drewN | apply below_drew1 | refine below_set ?_ GE314.out | refine below_set ?_ GE315.out) | exact HB.out)) hb); clear HO318; clear HO322; clear HO330; clear BK314; clear BK315; clear HB; have HO318 := n0_; have HO322 := n1_; have HO330 := n2_; have HO334 := n3_; have BK314 := n4_; have BK315 := n5_; have HB := n6_; clear n0_ n1_ n2_ n3_ n4_ n5_ n6_; (try clear hb); (try clear hb2); (try clear hk); (try clear hi); (try clear ho0)))
  (try simp only [Act.put, List.setIfInBounds_toArray, List.set_cons_zero, List.set_cons_succ])
  go_cut [92] (fun v92 wc => ∃ (kq : Nat) (x92_10 : Bool), v92 = .bool x92_10 ∧ Aside0 (potsherdlaw06_PlaceLays.j0 kq t328 t332 x92_10 a0_0 a0_1 a0_2 = some r) ∧ Aside0 (kq ≤ k) ∧ Aside0 (Kd.R (Kd.slice 35 (Kd.slice 38 k38)) 25 wc w.heap.size (fun k_ => some k_ ≠ (v333 : Value).ownBlock) v329 t328) ∧ Aside0 (Kd.R (Kd.slice 35 (Kd.slice 38 k38)) 25 wc w.heap.size (fun k_ => some k_ ≠ (v329 : Value).ownBlock) v333 t332) ∧ Aside0 (wc.heap[gb314]? = some (.cells #[.int .i64 a0_0, .int .i64 a0_1, .int .i64 a0_2] 23 (0, 0))) ∧ Aside0 (wc.heap[gb315]? = some (.cells #[.string a3_0, (.slice A3_1 l3_1.length c3_1), (.slice A3_2 l3_2.length c3_2)] 27 (0, 0))) ∧ Aside0 (Below w.heap.size w wc))
  case first =>
    have H := HC11.out
    clear HC11
    replace H := Option.bind_eq_some_iff.mp H
    obtain ⟨t336, A290, H⟩ := H
    replace H : (if t336 = true then ((potsherdref06_Ints.f k t316 t320).bind fun t337 => (if t337 = true then (if t319 = t323 then (if t324 = t326 then (if t325 = t327 then (if t331 = t335 then (potsherdlaw06_PlaceLays.j0 k t328 t332 ((t328.length : Int) != (t332.length : Int)) a0_0 a0_1 a0_2) else (potsherdlaw06_PlaceLays.j0 k t328 t332 true a0_0 a0_1 a0_2)) else (potsherdlaw06_PlaceLays.j0 k t328 t332 true a0_0 a0_1 a0_2)) else (potsherdlaw06_PlaceLays.j0 k t328 t332 true a0_0 a0_1 a0_2)) else (potsherdlaw06_PlaceLays.j0 k t328 t332 true a0_0 a0_1 a0_2)) else (potsherdlaw06_PlaceLays.j0 k t328 t332 true a0_0 a0_1 a0_2))) else (potsherdlaw06_PlaceLays.j0 k t328 t332 true a0_0 a0_1 a0_2)) = some r := H
    have A29 := Aside0.mk A290
    clear A290
    by_cases c30 : t336 = true
    · subst c30
      have H1 : ((potsherdref06_Ints.f k t316 t320).bind fun t337 => (if t337 = true then (if t319 = t323 then (if t324 = t326 then (if t325 = t327 then (if t331 = t335 then (potsherdlaw06_PlaceLays.j0 k t328 t332 ((t328.length : Int) != (t332.length : Int)) a0_0 a0_1 a0_2) else (potsherdlaw06_PlaceLays.j0 k t328 t332 true a0_0 a0_1 a0_2)) else (potsherdlaw06_PlaceLays.j0 k t328 t332 true a0_0 a0_1 a0_2)) else (potsherdlaw06_PlaceLays.j0 k t328 t332 true a0_0 a0_1 a0_2)) else (potsherdlaw06_PlaceLays.j0 k t328 t332 true a0_0 a0_1 a0_2)) else (potsherdlaw06_PlaceLays.j0 k t328 t332 true a0_0 a0_1 a0_2))) = some r := by rw [if_pos rfl] at H; exact H
      clear H
      have H := H1
      clear H1
      replace H := Option.bind_eq_some_iff.mp H
      obtain ⟨t337, A310, H⟩ := H
      replace H : (if t337 = true then (if t319 = t323 then (if t324 = t326 then (if t325 = t327 then (if t331 = t335 then (potsherdlaw06_PlaceLays.j0 k t328 t332 ((t328.length : Int) != (t332.length : Int)) a0_0 a0_1 a0_2) else (potsherdlaw06_PlaceLays.j0 k t328 t332 true a0_0 a0_1 a0_2)) else (potsherdlaw06_PlaceLays.j0 k t328 t332 true a0_0 a0_1 a0_2)) else (potsherdlaw06_PlaceLays.j0 k t328 t332 true a0_0 a0_1 a0_2)) else (potsherdlaw06_PlaceLays.j0 k t328 t332 true a0_0 a0_1 a0_2)) else (potsherdlaw06_PlaceLays.j0 k t328 t332 true a0_0 a0_1 a0_2)) = some r := H
      have A31 := Aside0.mk A310
      clear A310
      by_cases c32 : t337 = true
      · subst c32
        have H1 : (if t319 = t323 then (if t324 = t326 then (if t325 = t327 then (if t331 = t335 then (potsherdlaw06_PlaceLays.j0 k t328 t332 ((t328.length : Int) != (t332.length : Int)) a0_0 a0_1 a0_2) else (potsherdlaw06_PlaceLays.j0 k t328 t332 true a0_0 a0_1 a0_2)) else (potsherdlaw06_PlaceLays.j0 k t328 t332 true a0_0 a0_1 a0_2)) else (potsherdlaw06_PlaceLays.j0 k t328 t332 true a0_0 a0_1 a0_2)) else (potsherdlaw06_PlaceLays.j0 k t328 t332 true a0_0 a0_1 a0_2)) = some r := by rw [if_pos rfl] at H; exact H
        clear H
        have H := H1
        clear H1
        by_cases c33 : t319 = t323
        · rw [if_pos c33] at H
          have c33b0 : (t319 == t323) = true := beq_iff_eq.mpr c33
          have c33b1 : (t319 != t323) = false := bne_eq_false_iff_eq.mpr c33
          clear c33
          (first | rw [c33b0] | (simp only [i64_w, i32_w]; rw [c33b0]) | skip)
          by_cases c34 : t324 = t326
          · rw [if_pos c34] at H
            have c34b0 : (t324 == t326) = true := beq_iff_eq.mpr c34
            have c34b1 : (t324 != t326) = false := bne_eq_false_iff_eq.mpr c34
            clear c34
            by_cases c35 : t325 = t327
            · rw [if_pos c35] at H
              have c35b0 : (t325 == t327) = true := beq_iff_eq.mpr c35
              have c35b1 : (t325 != t327) = false := bne_eq_false_iff_eq.mpr c35
              clear c35
              by_cases c36 : t331 = t335
              · rw [if_pos c36] at H
                have c36b0 : (t331 == t335) = true := beq_iff_eq.mpr c36
                have c36b1 : (t331 != t335) = false := bne_eq_false_iff_eq.mpr c36
                clear c36
                have H' := Aside0.mk H
                clear H
                go_wp2_with (first | ((with_reducible refine gate_callee (f := 10) rfl ?_); refine goesL_ (some 58) rfl rfl Tryd.func10 (by kernel_rfl) rfl #[] rfl (by (try simp only [List.map_toArray, List.map_cons, List.map_nil]); first | done | rfl | (simp only [List.length_drop, List.length_take]; rfl)) ?_; (with_reducible refine (potsherdlaw06_lives.calls k  true _ A29.out).mono ?_); rintro e w37 ⟨rfl, hb⟩; refine ⟨_, rfl, ?_⟩; have n0_ := Aside0.mk (Kd.R_below (by (with_reducible repeat (first | apply Kd.R_alloc | apply Kd.R_drewN | apply Kd.R_drew)); exact HO318.out) hb); have n1_ := Aside0.mk (Kd.R_below (by (with_reducible repeat (first | apply Kd.R_alloc | apply Kd.R_drewN | apply Kd.R_drew)); exact HO322.out) hb); have n2_ := Aside0.mk (Kd.R_below (by (with_reducible repeat (first | apply Kd.R_alloc | apply Kd.R_drewN | apply Kd.R_drew)); exact HO330.out) hb); have n3_ := Aside0.mk (Kd.R_below (by (with_reducible repeat (first | apply Kd.R_alloc | apply Kd.R_drewN | apply Kd.R_drew)); exact HO334.out) hb); have n4_ := Aside0.mk (blk_below (g := gb314) (o := .cells #[.int .i64 a0_0, .int .i64 a0_1, .int .i64 a0_2] 23 (0, 0)) (by (with_reducible repeat (first | refine blk_drewN ?_ _ | refine blk_drew ?_ | refine blk_alloc ?_ _)); exact BK314.out) hb); have n5_ := Aside0.mk (blk_below (g := gb315) (o := .cells #[.string a3_0, .slice A3_1 l3_1.length c3_1, .slice A3_2 l3_2.length c3_2] 27 (0, 0)) (by (with_reducible repeat (first | refine blk_drewN ?_ _ | refine blk_drew ?_ | refine blk_alloc ?_ _)); exact BK315.out) hb); have n6_ := Aside0.mk (below_step (by repeat (first | (with_reducible first | exact HB.out | apply below_alloc | apply pw_below_drewN | apply below_drew1 | refine below_set ?_ GE314.out | refine below_set ?_ GE315.out) | exact HB.out)) hb); clear HO318; clear HO322; clear HO330; clear HO334; clear BK314; clear BK315; clear HB; have HO318 := n0_; have HO322 := n1_; have HO330 := n2_; have HO334 := n3_; have BK314 := n4_; have BK315 := n5_; have HB := n6_; clear n0_ n1_ n2_ n3_ n4_ n5_ n6_; (try clear hb); (try clear hb2); (try clear hk); (try clear hi); obtain ⟨Ao38, co38, eo38⟩ := Kd.R_slice HO318.out; subst eo38; obtain ⟨Ao39, co39, eo39⟩ := Kd.R_slice HO322.out; subst eo39) | (go_at_call 21; (with_reducible refine (potsherdref06_Ints.calls k _ _ t316 _ _ t320 true _ ?side1 ?side2 ?side3 ?side4 A31.out).mono ?_); (case side1 => repeat (first | exact (Kd.R_reads' HO318.out).2.2 | (with_reducible refine Kd.C_alloc ?_ _) | (with_reducible refine Kd.C_drewN ?_ _) | (with_reducible refine Kd.C_drew ?_))); (case side2 => exact (Kd.R_reads' HO318.out).2.1); (case side3 => repeat (first | exact (Kd.R_reads' HO322.out).2.2 | (with_reducible refine Kd.C_alloc ?_ _) | (with_reducible refine Kd.C_drewN ?_ _) | (with_reducible refine Kd.C_drew ?_))); (case side4 => exact (Kd.R_reads' HO322.out).2.1); rintro e w' ⟨rfl, ⟨nd, rfl⟩⟩; obtain ⟨Ao40, co40, eo40⟩ := Kd.R_slice HO330.out; subst eo40; obtain ⟨Ao41, co41, eo41⟩ := Kd.R_slice HO334.out; subst eo41))
                go_meet
                case rel => exact ⟨_, (((t328.length : Int) != (t332.length : Int))), (by first | rfl | (simp; done) | (simp [*]; done)), H', ⟨by first | omega | exact Nat.le_refl _⟩, ⟨by (with_reducible repeat (first | apply Kd.R_alloc | apply Kd.R_drewN | apply Kd.R_drew)); exact Kd.R_mono HO330.out (fun _ hk => hk.2)⟩, ⟨by (with_reducible repeat (first | apply Kd.R_alloc | apply Kd.R_drewN | apply Kd.R_drew)); exact Kd.R_mono HO334.out (fun _ hk => hk.2)⟩, ⟨by (with_reducible repeat (first | refine blk_drewN ?_ _ | refine blk_drew ?_ | refine blk_alloc ?_ _)); exact BK314.out⟩, ⟨by (with_reducible repeat (first | refine blk_drewN ?_ _ | refine blk_drew ?_ | refine blk_alloc ?_ _)); exact BK315.out⟩, ⟨by repeat (first | (with_reducible first | exact HB.out | apply below_alloc | apply pw_below_drewN | apply below_drew1 | refine below_set ?_ GE314.out | refine below_set ?_ GE315.out) | exact HB.out)⟩⟩
              · rw [if_neg c36] at H
                have c36b0 : (t331 == t335) = false := beq_eq_false_iff_ne.mpr c36
                have c36b1 : (t331 != t335) = true := bne_iff_ne.mpr c36
                have H' := Aside0.mk H
                clear H
                go_wp2_with (first | ((with_reducible refine gate_callee (f := 10) rfl ?_); refine goesL_ (some 58) rfl rfl Tryd.func10 (by kernel_rfl) rfl #[] rfl (by (try simp only [List.map_toArray, List.map_cons, List.map_nil]); first | done | rfl | (simp only [List.length_drop, List.length_take]; rfl)) ?_; (with_reducible refine (potsherdlaw06_lives.calls k  true _ A29.out).mono ?_); rintro e w42 ⟨rfl, hb⟩; refine ⟨_, rfl, ?_⟩; have n0_ := Aside0.mk (Kd.R_below (by (with_reducible repeat (first | apply Kd.R_alloc | apply Kd.R_drewN | apply Kd.R_drew)); exact HO318.out) hb); have n1_ := Aside0.mk (Kd.R_below (by (with_reducible repeat (first | apply Kd.R_alloc | apply Kd.R_drewN | apply Kd.R_drew)); exact HO322.out) hb); have n2_ := Aside0.mk (Kd.R_below (by (with_reducible repeat (first | apply Kd.R_alloc | apply Kd.R_drewN | apply Kd.R_drew)); exact HO330.out) hb); have n3_ := Aside0.mk (Kd.R_below (by (with_reducible repeat (first | apply Kd.R_alloc | apply Kd.R_drewN | apply Kd.R_drew)); exact HO334.out) hb); have n4_ := Aside0.mk (blk_below (g := gb314) (o := .cells #[.int .i64 a0_0, .int .i64 a0_1, .int .i64 a0_2] 23 (0, 0)) (by (with_reducible repeat (first | refine blk_drewN ?_ _ | refine blk_drew ?_ | refine blk_alloc ?_ _)); exact BK314.out) hb); have n5_ := Aside0.mk (blk_below (g := gb315) (o := .cells #[.string a3_0, .slice A3_1 l3_1.length c3_1, .slice A3_2 l3_2.length c3_2] 27 (0, 0)) (by (with_reducible repeat (first | refine blk_drewN ?_ _ | refine blk_drew ?_ | refine blk_alloc ?_ _)); exact BK315.out) hb); have n6_ := Aside0.mk (below_step (by repeat (first | (with_reducible first | exact HB.out | apply below_alloc | apply pw_below_drewN | apply below_drew1 | refine below_set ?_ GE314.out | refine below_set ?_ GE315.out) | exact HB.out)) hb); clear HO318; clear HO322; clear HO330; clear HO334; clear BK314; clear BK315; clear HB; have HO318 := n0_; have HO322 := n1_; have HO330 := n2_; have HO334 := n3_; have BK314 := n4_; have BK315 := n5_; have HB := n6_; clear n0_ n1_ n2_ n3_ n4_ n5_ n6_; (try clear hb); (try clear hb2); (try clear hk); (try clear hi); obtain ⟨Ao43, co43, eo43⟩ := Kd.R_slice HO318.out; subst eo43; obtain ⟨Ao44, co44, eo44⟩ := Kd.R_slice HO322.out; subst eo44) | (go_at_call 21; (with_reducible refine (potsherdref06_Ints.calls k _ _ t316 _ _ t320 true _ ?side1 ?side2 ?side3 ?side4 A31.out).mono ?_); (case side1 => repeat (first | exact (Kd.R_reads' HO318.out).2.2 | (with_reducible refine Kd.C_alloc ?_ _) | (with_reducible refine Kd.C_drewN ?_ _) | (with_reducible refine Kd.C_drew ?_))); (case side2 => exact (Kd.R_reads' HO318.out).2.1); (case side3 => repeat (first | exact (Kd.R_reads' HO322.out).2.2 | (with_reducible refine Kd.C_alloc ?_ _) | (with_reducible refine Kd.C_drewN ?_ _) | (with_reducible refine Kd.C_drew ?_))); (case side4 => exact (Kd.R_reads' HO322.out).2.1); rintro e w' ⟨rfl, ⟨nd, rfl⟩⟩))
                go_meet
                case rel => exact ⟨_, (true), (by first | rfl | (simp; done) | (simp [*]; done)), H', ⟨by first | omega | exact Nat.le_refl _⟩, ⟨by (with_reducible repeat (first | apply Kd.R_alloc | apply Kd.R_drewN | apply Kd.R_drew)); exact Kd.R_mono HO330.out (fun _ hk => hk.2)⟩, ⟨by (with_reducible repeat (first | apply Kd.R_alloc | apply Kd.R_drewN | apply Kd.R_drew)); exact Kd.R_mono HO334.out (fun _ hk => hk.2)⟩, ⟨by (with_reducible repeat (first | refine blk_drewN ?_ _ | refine blk_drew ?_ | refine blk_alloc ?_ _)); exact BK314.out⟩, ⟨by (with_reducible repeat (first | refine blk_drewN ?_ _ | refine blk_drew ?_ | refine blk_alloc ?_ _)); exact BK315.out⟩, ⟨by repeat (first | (with_reducible first | exact HB.out | apply below_alloc | apply pw_below_drewN | apply below_drew1 | refine below_set ?_ GE314.out | refine below_set ?_ GE315.out) | exact HB.out)⟩⟩
            · rw [if_neg c35] at H
              have c35b0 : (t325 == t327) = false := beq_eq_false_iff_ne.mpr c35
              have c35b1 : (t325 != t327) = true := bne_iff_ne.mpr c35
              have H' := Aside0.mk H
              clear H
              go_wp2_with (first | ((with_reducible refine gate_callee (f := 10) rfl ?_); refine goesL_ (some 58) rfl rfl Tryd.func10 (by kernel_rfl) rfl #[] rfl (by (try simp only [List.map_toArray, List.map_cons, List.map_nil]); first | done | rfl | (simp only [List.length_drop, List.length_take]; rfl)) ?_; (with_reducible refine (potsherdlaw06_lives.calls k  true _ A29.out).mono ?_); rintro e w45 ⟨rfl, hb⟩; refine ⟨_, rfl, ?_⟩; have n0_ := Aside0.mk (Kd.R_below (by (with_reducible repeat (first | apply Kd.R_alloc | apply Kd.R_drewN | apply Kd.R_drew)); exact HO318.out) hb); have n1_ := Aside0.mk (Kd.R_below (by (with_reducible repeat (first | apply Kd.R_alloc | apply Kd.R_drewN | apply Kd.R_drew)); exact HO322.out) hb); have n2_ := Aside0.mk (Kd.R_below (by (with_reducible repeat (first | apply Kd.R_alloc | apply Kd.R_drewN | apply Kd.R_drew)); exact HO330.out) hb); have n3_ := Aside0.mk (Kd.R_below (by (with_reducible repeat (first | apply Kd.R_alloc | apply Kd.R_drewN | apply Kd.R_drew)); exact HO334.out) hb); have n4_ := Aside0.mk (blk_below (g := gb314) (o := .cells #[.int .i64 a0_0, .int .i64 a0_1, .int .i64 a0_2] 23 (0, 0)) (by (with_reducible repeat (first | refine blk_drewN ?_ _ | refine blk_drew ?_ | refine blk_alloc ?_ _)); exact BK314.out) hb); have n5_ := Aside0.mk (blk_below (g := gb315) (o := .cells #[.string a3_0, .slice A3_1 l3_1.length c3_1, .slice A3_2 l3_2.length c3_2] 27 (0, 0)) (by (with_reducible repeat (first | refine blk_drewN ?_ _ | refine blk_drew ?_ | refine blk_alloc ?_ _)); exact BK315.out) hb); have n6_ := Aside0.mk (below_step (by repeat (first | (with_reducible first | exact HB.out | apply below_alloc | apply pw_below_drewN | apply below_drew1 | refine below_set ?_ GE314.out | refine below_set ?_ GE315.out) | exact HB.out)) hb); clear HO318; clear HO322; clear HO330; clear HO334; clear BK314; clear BK315; clear HB; have HO318 := n0_; have HO322 := n1_; have HO330 := n2_; have HO334 := n3_; have BK314 := n4_; have BK315 := n5_; have HB := n6_; clear n0_ n1_ n2_ n3_ n4_ n5_ n6_; (try clear hb); (try clear hb2); (try clear hk); (try clear hi); obtain ⟨Ao46, co46, eo46⟩ := Kd.R_slice HO318.out; subst eo46; obtain ⟨Ao47, co47, eo47⟩ := Kd.R_slice HO322.out; subst eo47) | (go_at_call 21; (with_reducible refine (potsherdref06_Ints.calls k _ _ t316 _ _ t320 true _ ?side1 ?side2 ?side3 ?side4 A31.out).mono ?_); (case side1 => repeat (first | exact (Kd.R_reads' HO318.out).2.2 | (with_reducible refine Kd.C_alloc ?_ _) | (with_reducible refine Kd.C_drewN ?_ _) | (with_reducible refine Kd.C_drew ?_))); (case side2 => exact (Kd.R_reads' HO318.out).2.1); (case side3 => repeat (first | exact (Kd.R_reads' HO322.out).2.2 | (with_reducible refine Kd.C_alloc ?_ _) | (with_reducible refine Kd.C_drewN ?_ _) | (with_reducible refine Kd.C_drew ?_))); (case side4 => exact (Kd.R_reads' HO322.out).2.1); rintro e w' ⟨rfl, ⟨nd, rfl⟩⟩))
              go_meet
              case rel => exact ⟨_, (true), (by first | rfl | (simp; done) | (simp [*]; done)), H', ⟨by first | omega | exact Nat.le_refl _⟩, ⟨by (with_reducible repeat (first | apply Kd.R_alloc | apply Kd.R_drewN | apply Kd.R_drew)); exact Kd.R_mono HO330.out (fun _ hk => hk.2)⟩, ⟨by (with_reducible repeat (first | apply Kd.R_alloc | apply Kd.R_drewN | apply Kd.R_drew)); exact Kd.R_mono HO334.out (fun _ hk => hk.2)⟩, ⟨by (with_reducible repeat (first | refine blk_drewN ?_ _ | refine blk_drew ?_ | refine blk_alloc ?_ _)); exact BK314.out⟩, ⟨by (with_reducible repeat (first | refine blk_drewN ?_ _ | refine blk_drew ?_ | refine blk_alloc ?_ _)); exact BK315.out⟩, ⟨by repeat (first | (with_reducible first | exact HB.out | apply below_alloc | apply pw_below_drewN | apply below_drew1 | refine below_set ?_ GE314.out | refine below_set ?_ GE315.out) | exact HB.out)⟩⟩
          · rw [if_neg c34] at H
            have c34b0 : (t324 == t326) = false := beq_eq_false_iff_ne.mpr c34
            have c34b1 : (t324 != t326) = true := bne_iff_ne.mpr c34
            have H' := Aside0.mk H
            clear H
            go_wp2_with (first | ((with_reducible refine gate_callee (f := 10) rfl ?_); refine goesL_ (some 58) rfl rfl Tryd.func10 (by kernel_rfl) rfl #[] rfl (by (try simp only [List.map_toArray, List.map_cons, List.map_nil]); first | done | rfl | (simp only [List.length_drop, List.length_take]; rfl)) ?_; (with_reducible refine (potsherdlaw06_lives.calls k  true _ A29.out).mono ?_); rintro e w48 ⟨rfl, hb⟩; refine ⟨_, rfl, ?_⟩; have n0_ := Aside0.mk (Kd.R_below (by (with_reducible repeat (first | apply Kd.R_alloc | apply Kd.R_drewN | apply Kd.R_drew)); exact HO318.out) hb); have n1_ := Aside0.mk (Kd.R_below (by (with_reducible repeat (first | apply Kd.R_alloc | apply Kd.R_drewN | apply Kd.R_drew)); exact HO322.out) hb); have n2_ := Aside0.mk (Kd.R_below (by (with_reducible repeat (first | apply Kd.R_alloc | apply Kd.R_drewN | apply Kd.R_drew)); exact HO330.out) hb); have n3_ := Aside0.mk (Kd.R_below (by (with_reducible repeat (first | apply Kd.R_alloc | apply Kd.R_drewN | apply Kd.R_drew)); exact HO334.out) hb); have n4_ := Aside0.mk (blk_below (g := gb314) (o := .cells #[.int .i64 a0_0, .int .i64 a0_1, .int .i64 a0_2] 23 (0, 0)) (by (with_reducible repeat (first | refine blk_drewN ?_ _ | refine blk_drew ?_ | refine blk_alloc ?_ _)); exact BK314.out) hb); have n5_ := Aside0.mk (blk_below (g := gb315) (o := .cells #[.string a3_0, .slice A3_1 l3_1.length c3_1, .slice A3_2 l3_2.length c3_2] 27 (0, 0)) (by (with_reducible repeat (first | refine blk_drewN ?_ _ | refine blk_drew ?_ | refine blk_alloc ?_ _)); exact BK315.out) hb); have n6_ := Aside0.mk (below_step (by repeat (first | (with_reducible first | exact HB.out | apply below_alloc | apply pw_below_drewN | apply below_drew1 | refine below_set ?_ GE314.out | refine below_set ?_ GE315.out) | exact HB.out)) hb); clear HO318; clear HO322; clear HO330; clear HO334; clear BK314; clear BK315; clear HB; have HO318 := n0_; have HO322 := n1_; have HO330 := n2_; have HO334 := n3_; have BK314 := n4_; have BK315 := n5_; have HB := n6_; clear n0_ n1_ n2_ n3_ n4_ n5_ n6_; (try clear hb); (try clear hb2); (try clear hk); (try clear hi); obtain ⟨Ao49, co49, eo49⟩ := Kd.R_slice HO318.out; subst eo49; obtain ⟨Ao50, co50, eo50⟩ := Kd.R_slice HO322.out; subst eo50) | (go_at_call 21; (with_reducible refine (potsherdref06_Ints.calls k _ _ t316 _ _ t320 true _ ?side1 ?side2 ?side3 ?side4 A31.out).mono ?_); (case side1 => repeat (first | exact (Kd.R_reads' HO318.out).2.2 | (with_reducible refine Kd.C_alloc ?_ _) | (with_reducible refine Kd.C_drewN ?_ _) | (with_reducible refine Kd.C_drew ?_))); (case side2 => exact (Kd.R_reads' HO318.out).2.1); (case side3 => repeat (first | exact (Kd.R_reads' HO322.out).2.2 | (with_reducible refine Kd.C_alloc ?_ _) | (with_reducible refine Kd.C_drewN ?_ _) | (with_reducible refine Kd.C_drew ?_))); (case side4 => exact (Kd.R_reads' HO322.out).2.1); rintro e w' ⟨rfl, ⟨nd, rfl⟩⟩))
            go_meet
            case rel => exact ⟨_, (true), (by first | rfl | (simp; done) | (simp [*]; done)), H', ⟨by first | omega | exact Nat.le_refl _⟩, ⟨by (with_reducible repeat (first | apply Kd.R_alloc | apply Kd.R_drewN | apply Kd.R_drew)); exact Kd.R_mono HO330.out (fun _ hk => hk.2)⟩, ⟨by (with_reducible repeat (first | apply Kd.R_alloc | apply Kd.R_drewN | apply Kd.R_drew)); exact Kd.R_mono HO334.out (fun _ hk => hk.2)⟩, ⟨by (with_reducible repeat (first | refine blk_drewN ?_ _ | refine blk_drew ?_ | refine blk_alloc ?_ _)); exact BK314.out⟩, ⟨by (with_reducible repeat (first | refine blk_drewN ?_ _ | refine blk_drew ?_ | refine blk_alloc ?_ _)); exact BK315.out⟩, ⟨by repeat (first | (with_reducible first | exact HB.out | apply below_alloc | apply pw_below_drewN | apply below_drew1 | refine below_set ?_ GE314.out | refine below_set ?_ GE315.out) | exact HB.out)⟩⟩
        · rw [if_neg c33] at H
          have c33b0 : (t319 == t323) = false := beq_eq_false_iff_ne.mpr c33
          have c33b1 : (t319 != t323) = true := bne_iff_ne.mpr c33
          (first | rw [c33b0] | (simp only [i64_w, i32_w]; rw [c33b0]) | skip)
          have H' := Aside0.mk H
          clear H
          go_wp2_with (first | ((with_reducible refine gate_callee (f := 10) rfl ?_); refine goesL_ (some 58) rfl rfl Tryd.func10 (by kernel_rfl) rfl #[] rfl (by (try simp only [List.map_toArray, List.map_cons, List.map_nil]); first | done | rfl | (simp only [List.length_drop, List.length_take]; rfl)) ?_; (with_reducible refine (potsherdlaw06_lives.calls k  true _ A29.out).mono ?_); rintro e w51 ⟨rfl, hb⟩; refine ⟨_, rfl, ?_⟩; have n0_ := Aside0.mk (Kd.R_below (by (with_reducible repeat (first | apply Kd.R_alloc | apply Kd.R_drewN | apply Kd.R_drew)); exact HO318.out) hb); have n1_ := Aside0.mk (Kd.R_below (by (with_reducible repeat (first | apply Kd.R_alloc | apply Kd.R_drewN | apply Kd.R_drew)); exact HO322.out) hb); have n2_ := Aside0.mk (Kd.R_below (by (with_reducible repeat (first | apply Kd.R_alloc | apply Kd.R_drewN | apply Kd.R_drew)); exact HO330.out) hb); have n3_ := Aside0.mk (Kd.R_below (by (with_reducible repeat (first | apply Kd.R_alloc | apply Kd.R_drewN | apply Kd.R_drew)); exact HO334.out) hb); have n4_ := Aside0.mk (blk_below (g := gb314) (o := .cells #[.int .i64 a0_0, .int .i64 a0_1, .int .i64 a0_2] 23 (0, 0)) (by (with_reducible repeat (first | refine blk_drewN ?_ _ | refine blk_drew ?_ | refine blk_alloc ?_ _)); exact BK314.out) hb); have n5_ := Aside0.mk (blk_below (g := gb315) (o := .cells #[.string a3_0, .slice A3_1 l3_1.length c3_1, .slice A3_2 l3_2.length c3_2] 27 (0, 0)) (by (with_reducible repeat (first | refine blk_drewN ?_ _ | refine blk_drew ?_ | refine blk_alloc ?_ _)); exact BK315.out) hb); have n6_ := Aside0.mk (below_step (by repeat (first | (with_reducible first | exact HB.out | apply below_alloc | apply pw_below_drewN | apply below_drew1 | refine below_set ?_ GE314.out | refine below_set ?_ GE315.out) | exact HB.out)) hb); clear HO318; clear HO322; clear HO330; clear HO334; clear BK314; clear BK315; clear HB; have HO318 := n0_; have HO322 := n1_; have HO330 := n2_; have HO334 := n3_; have BK314 := n4_; have BK315 := n5_; have HB := n6_; clear n0_ n1_ n2_ n3_ n4_ n5_ n6_; (try clear hb); (try clear hb2); (try clear hk); (try clear hi); obtain ⟨Ao52, co52, eo52⟩ := Kd.R_slice HO318.out; subst eo52; obtain ⟨Ao53, co53, eo53⟩ := Kd.R_slice HO322.out; subst eo53) | (go_at_call 21; (with_reducible refine (potsherdref06_Ints.calls k _ _ t316 _ _ t320 true _ ?side1 ?side2 ?side3 ?side4 A31.out).mono ?_); (case side1 => repeat (first | exact (Kd.R_reads' HO318.out).2.2 | (with_reducible refine Kd.C_alloc ?_ _) | (with_reducible refine Kd.C_drewN ?_ _) | (with_reducible refine Kd.C_drew ?_))); (case side2 => exact (Kd.R_reads' HO318.out).2.1); (case side3 => repeat (first | exact (Kd.R_reads' HO322.out).2.2 | (with_reducible refine Kd.C_alloc ?_ _) | (with_reducible refine Kd.C_drewN ?_ _) | (with_reducible refine Kd.C_drew ?_))); (case side4 => exact (Kd.R_reads' HO322.out).2.1); rintro e w' ⟨rfl, ⟨nd, rfl⟩⟩))
          go_meet
          case rel => exact ⟨_, (true), (by first | rfl | (simp; done) | (simp [*]; done)), H', ⟨by first | omega | exact Nat.le_refl _⟩, ⟨by (with_reducible repeat (first | apply Kd.R_alloc | apply Kd.R_drewN | apply Kd.R_drew)); exact Kd.R_mono HO330.out (fun _ hk => hk.2)⟩, ⟨by (with_reducible repeat (first | apply Kd.R_alloc | apply Kd.R_drewN | apply Kd.R_drew)); exact Kd.R_mono HO334.out (fun _ hk => hk.2)⟩, ⟨by (with_reducible repeat (first | refine blk_drewN ?_ _ | refine blk_drew ?_ | refine blk_alloc ?_ _)); exact BK314.out⟩, ⟨by (with_reducible repeat (first | refine blk_drewN ?_ _ | refine blk_drew ?_ | refine blk_alloc ?_ _)); exact BK315.out⟩, ⟨by repeat (first | (with_reducible first | exact HB.out | apply below_alloc | apply pw_below_drewN | apply below_drew1 | refine below_set ?_ GE314.out | refine below_set ?_ GE315.out) | exact HB.out)⟩⟩
      · replace c32 := Bool.eq_false_iff.mpr c32
        subst c32
        have H1 : (potsherdlaw06_PlaceLays.j0 k t328 t332 true a0_0 a0_1 a0_2) = some r := by rw [if_neg (show ¬ (false = true) by decide)] at H; exact H
        clear H
        have H := H1
        clear H1
        have H' := Aside0.mk H
        clear H
        go_wp2_with (first | ((with_reducible refine gate_callee (f := 10) rfl ?_); refine goesL_ (some 58) rfl rfl Tryd.func10 (by kernel_rfl) rfl #[] rfl (by (try simp only [List.map_toArray, List.map_cons, List.map_nil]); first | done | rfl | (simp only [List.length_drop, List.length_take]; rfl)) ?_; (with_reducible refine (potsherdlaw06_lives.calls k  true _ A29.out).mono ?_); rintro e w54 ⟨rfl, hb⟩; refine ⟨_, rfl, ?_⟩; have n0_ := Aside0.mk (Kd.R_below (by (with_reducible repeat (first | apply Kd.R_alloc | apply Kd.R_drewN | apply Kd.R_drew)); exact HO318.out) hb); have n1_ := Aside0.mk (Kd.R_below (by (with_reducible repeat (first | apply Kd.R_alloc | apply Kd.R_drewN | apply Kd.R_drew)); exact HO322.out) hb); have n2_ := Aside0.mk (Kd.R_below (by (with_reducible repeat (first | apply Kd.R_alloc | apply Kd.R_drewN | apply Kd.R_drew)); exact HO330.out) hb); have n3_ := Aside0.mk (Kd.R_below (by (with_reducible repeat (first | apply Kd.R_alloc | apply Kd.R_drewN | apply Kd.R_drew)); exact HO334.out) hb); have n4_ := Aside0.mk (blk_below (g := gb314) (o := .cells #[.int .i64 a0_0, .int .i64 a0_1, .int .i64 a0_2] 23 (0, 0)) (by (with_reducible repeat (first | refine blk_drewN ?_ _ | refine blk_drew ?_ | refine blk_alloc ?_ _)); exact BK314.out) hb); have n5_ := Aside0.mk (blk_below (g := gb315) (o := .cells #[.string a3_0, .slice A3_1 l3_1.length c3_1, .slice A3_2 l3_2.length c3_2] 27 (0, 0)) (by (with_reducible repeat (first | refine blk_drewN ?_ _ | refine blk_drew ?_ | refine blk_alloc ?_ _)); exact BK315.out) hb); have n6_ := Aside0.mk (below_step (by repeat (first | (with_reducible first | exact HB.out | apply below_alloc | apply pw_below_drewN | apply below_drew1 | refine below_set ?_ GE314.out | refine below_set ?_ GE315.out) | exact HB.out)) hb); clear HO318; clear HO322; clear HO330; clear HO334; clear BK314; clear BK315; clear HB; have HO318 := n0_; have HO322 := n1_; have HO330 := n2_; have HO334 := n3_; have BK314 := n4_; have BK315 := n5_; have HB := n6_; clear n0_ n1_ n2_ n3_ n4_ n5_ n6_; (try clear hb); (try clear hb2); (try clear hk); (try clear hi); obtain ⟨Ao55, co55, eo55⟩ := Kd.R_slice HO318.out; subst eo55; obtain ⟨Ao56, co56, eo56⟩ := Kd.R_slice HO322.out; subst eo56) | (go_at_call 21; (with_reducible refine (potsherdref06_Ints.calls k _ _ t316 _ _ t320 false _ ?side1 ?side2 ?side3 ?side4 A31.out).mono ?_); (case side1 => repeat (first | exact (Kd.R_reads' HO318.out).2.2 | (with_reducible refine Kd.C_alloc ?_ _) | (with_reducible refine Kd.C_drewN ?_ _) | (with_reducible refine Kd.C_drew ?_))); (case side2 => exact (Kd.R_reads' HO318.out).2.1); (case side3 => repeat (first | exact (Kd.R_reads' HO322.out).2.2 | (with_reducible refine Kd.C_alloc ?_ _) | (with_reducible refine Kd.C_drewN ?_ _) | (with_reducible refine Kd.C_drew ?_))); (case side4 => exact (Kd.R_reads' HO322.out).2.1); rintro e w' ⟨rfl, ⟨nd, rfl⟩⟩))
        go_meet
        case rel => exact ⟨_, (true), (by first | rfl | (simp; done) | (simp [*]; done)), H', ⟨by first | omega | exact Nat.le_refl _⟩, ⟨by (with_reducible repeat (first | apply Kd.R_alloc | apply Kd.R_drewN | apply Kd.R_drew)); exact Kd.R_mono HO330.out (fun _ hk => hk.2)⟩, ⟨by (with_reducible repeat (first | apply Kd.R_alloc | apply Kd.R_drewN | apply Kd.R_drew)); exact Kd.R_mono HO334.out (fun _ hk => hk.2)⟩, ⟨by (with_reducible repeat (first | refine blk_drewN ?_ _ | refine blk_drew ?_ | refine blk_alloc ?_ _)); exact BK314.out⟩, ⟨by (with_reducible repeat (first | refine blk_drewN ?_ _ | refine blk_drew ?_ | refine blk_alloc ?_ _)); exact BK315.out⟩, ⟨by repeat (first | (with_reducible first | exact HB.out | apply below_alloc | apply pw_below_drewN | apply below_drew1 | refine below_set ?_ GE314.out | refine below_set ?_ GE315.out) | exact HB.out)⟩⟩
    · replace c30 := Bool.eq_false_iff.mpr c30
      subst c30
      have H1 : (potsherdlaw06_PlaceLays.j0 k t328 t332 true a0_0 a0_1 a0_2) = some r := by rw [if_neg (show ¬ (false = true) by decide)] at H; exact H
      clear H
      have H := H1
      clear H1
      have H' := Aside0.mk H
      clear H
      go_wp2_with (first | ((with_reducible refine gate_callee (f := 10) rfl ?_); refine goesL_ (some 58) rfl rfl Tryd.func10 (by kernel_rfl) rfl #[] rfl (by (try simp only [List.map_toArray, List.map_cons, List.map_nil]); first | done | rfl | (simp only [List.length_drop, List.length_take]; rfl)) ?_; (with_reducible refine (potsherdlaw06_lives.calls k  false _ A29.out).mono ?_); rintro e w57 ⟨rfl, hb⟩; refine ⟨_, rfl, ?_⟩; have n0_ := Aside0.mk (Kd.R_below (by (with_reducible repeat (first | apply Kd.R_alloc | apply Kd.R_drewN | apply Kd.R_drew)); exact HO318.out) hb); have n1_ := Aside0.mk (Kd.R_below (by (with_reducible repeat (first | apply Kd.R_alloc | apply Kd.R_drewN | apply Kd.R_drew)); exact HO322.out) hb); have n2_ := Aside0.mk (Kd.R_below (by (with_reducible repeat (first | apply Kd.R_alloc | apply Kd.R_drewN | apply Kd.R_drew)); exact HO330.out) hb); have n3_ := Aside0.mk (Kd.R_below (by (with_reducible repeat (first | apply Kd.R_alloc | apply Kd.R_drewN | apply Kd.R_drew)); exact HO334.out) hb); have n4_ := Aside0.mk (blk_below (g := gb314) (o := .cells #[.int .i64 a0_0, .int .i64 a0_1, .int .i64 a0_2] 23 (0, 0)) (by (with_reducible repeat (first | refine blk_drewN ?_ _ | refine blk_drew ?_ | refine blk_alloc ?_ _)); exact BK314.out) hb); have n5_ := Aside0.mk (blk_below (g := gb315) (o := .cells #[.string a3_0, .slice A3_1 l3_1.length c3_1, .slice A3_2 l3_2.length c3_2] 27 (0, 0)) (by (with_reducible repeat (first | refine blk_drewN ?_ _ | refine blk_drew ?_ | refine blk_alloc ?_ _)); exact BK315.out) hb); have n6_ := Aside0.mk (below_step (by repeat (first | (with_reducible first | exact HB.out | apply below_alloc | apply pw_below_drewN | apply below_drew1 | refine below_set ?_ GE314.out | refine below_set ?_ GE315.out) | exact HB.out)) hb); clear HO318; clear HO322; clear HO330; clear HO334; clear BK314; clear BK315; clear HB; have HO318 := n0_; have HO322 := n1_; have HO330 := n2_; have HO334 := n3_; have BK314 := n4_; have BK315 := n5_; have HB := n6_; clear n0_ n1_ n2_ n3_ n4_ n5_ n6_; (try clear hb); (try clear hb2); (try clear hk); (try clear hi)))
      go_meet
      case rel => exact ⟨_, (true), (by first | rfl | (simp; done) | (simp [*]; done)), H', ⟨by first | omega | exact Nat.le_refl _⟩, ⟨by (with_reducible repeat (first | apply Kd.R_alloc | apply Kd.R_drewN | apply Kd.R_drew)); exact Kd.R_mono HO330.out (fun _ hk => hk.2)⟩, ⟨by (with_reducible repeat (first | apply Kd.R_alloc | apply Kd.R_drewN | apply Kd.R_drew)); exact Kd.R_mono HO334.out (fun _ hk => hk.2)⟩, ⟨by (with_reducible repeat (first | refine blk_drewN ?_ _ | refine blk_drew ?_ | refine blk_alloc ?_ _)); exact BK314.out⟩, ⟨by (with_reducible repeat (first | refine blk_drewN ?_ _ | refine blk_drew ?_ | refine blk_alloc ?_ _)); exact BK315.out⟩, ⟨by repeat (first | (with_reducible first | exact HB.out | apply below_alloc | apply pw_below_drewN | apply below_drew1 | refine below_set ?_ GE314.out | refine below_set ?_ GE315.out) | exact HB.out)⟩⟩
  case rest =>
    clear HC11
    try clear c1
    try clear c2
    try clear p2
    try clear c3
    try clear c4
    try clear c10
    try clear c12
    try clear c14
    try clear c16
    try clear c17
    try clear c18
    try clear c19
    try clear c20
    try clear c30
    try clear c32
    try clear c33
    try clear c33b0
    try clear c33b1
    try clear c34
    try clear c34b0
    try clear c34b1
    try clear c35
    try clear c35b0
    try clear c35b1
    try clear c36
    try clear c36b0
    try clear c36b1
    try clear hcz15_0
    try clear hcz15_1
    try clear hcz15_2
    try clear hcz17_0
    try clear hcz17_1
    try clear hcz17_2
    try clear hcz19_0
    try clear hcz19_1
    try clear hcz19_2
    try clear hcz21_0
    try clear hcz21_1
    try clear hcz21_2
    try clear hcz23_0
    try clear hcz23_1
    try clear hcz23_2
    try clear hcz24_0
    try clear hcz24_1
    try clear hcz24_2
    try clear hcz26_0
    try clear hcz26_1
    try clear hcz26_2
    try clear hcz27_0
    try clear hcz27_1
    try clear hcz27_2
    try clear hfz15_0
    try clear hfz15_1
    try clear hfz15_2
    try clear hfz17_0
    try clear hfz17_1
    try clear hfz17_2
    try clear hfz19_0
    try clear hfz19_1
    try clear hfz19_2
    try clear hfz21_0
    try clear hfz21_1
    try clear hfz21_2
    try clear hfz23_0
    try clear hfz23_1
    try clear hfz23_2
    try clear hfz24_0
    try clear hfz24_1
    try clear hfz24_2
    try clear hfz26_0
    try clear hfz26_1
    try clear hfz26_2
    try clear hfz27_0
    try clear hfz27_1
    try clear hfz27_2
    obtain ⟨kq, x92_10, rfl, HA, HJ10, HO_17, HO_19, BK314, BK315, HB⟩ := hcut
    cases kq with
    | zero => exact absurd HA.out (by simp [potsherdlaw06_PlaceLays.j0])
    | succ kj10 =>
      have H := HA.out
      clear HA
      simp only [potsherdlaw06_PlaceLays.j0] at H
      by_cases c58 : x92_10 = true
      · subst c58
        have H1 : (some false) = some r := by rw [if_pos rfl] at H; exact H
        clear H
        have H := H1
        clear H1
        obtain rfl := Option.some.inj H
        go_wp2
        go_ret
        exact ⟨by first | rfl | (simp [errW_none, errW_some] <;> rfl) | (simp [*, errW_none, errW_some] <;> rfl), by repeat (first | (with_reducible first | exact HB.out | apply below_alloc | apply pw_below_drewN | apply below_drew1 | refine below_set ?_ GE314.out | refine below_set ?_ GE315.out) | exact HB.out)⟩
      · replace c58 := Bool.eq_false_iff.mpr c58
        subst c58
        have H1 : (potsherdlaw06_PlaceLays.l0 kj10 t328 t332 (t328.length : Int) 0 a0_0 a0_1 a0_2) = some r := by rw [if_neg (show ¬ (false = true) by decide)] at H; exact H
        clear H
        have H := H1
        clear H1
        have H' := Aside0.mk H
        clear H
        obtain ⟨Ao59, co59, eo59⟩ := Kd.R_slice HO_17.out
        subst eo59
        go_wp2
        go_loopg [95] kj10 (fun kq v95 w' => ∃ (x95_2 : Int), v95 = .int .i64 x95_2 ∧ Aside0 (potsherdlaw06_PlaceLays.l0 kq t328 t332 (t328.length : Int) x95_2 a0_0 a0_1 a0_2 = some r) ∧ Aside0 (kq ≤ kj10) ∧ Aside0 (Kd.R (Kd.slice 35 (Kd.slice 38 k38)) 25 w' w.heap.size (fun k_ => some k_ ≠ (v333 : Value).ownBlock) (.slice Ao59 t328.length co59) t328) ∧ Aside0 (Kd.R (Kd.slice 35 (Kd.slice 38 k38)) 25 w' w.heap.size (fun k_ => some k_ ≠ ((.slice Ao59 t328.length co59) : Value).ownBlock) v333 t332) ∧ Aside0 (w'.heap[gb314]? = some (.cells #[.int .i64 a0_0, .int .i64 a0_1, .int .i64 a0_2] 23 (0, 0))) ∧ Aside0 (w'.heap[gb315]? = some (.cells #[.string a3_0, (.slice A3_1 l3_1.length c3_1), (.slice A3_2 l3_2.length c3_2)] 27 (0, 0))) ∧ Aside0 (Below w.heap.size w w'))
        case atStart => exact ⟨(0), (by first | rfl | (simp; done) | (simp [*]; done)), H', ⟨Nat.le_refl _⟩, ⟨by (with_reducible repeat (first | apply Kd.R_alloc | apply Kd.R_drewN | apply Kd.R_drew)); exact HO_17.out⟩, ⟨by (with_reducible repeat (first | apply Kd.R_alloc | apply Kd.R_drewN | apply Kd.R_drew)); exact HO_19.out⟩, ⟨by (with_reducible repeat (first | refine blk_drewN ?_ _ | refine blk_drew ?_ | refine blk_alloc ?_ _)); exact BK314.out⟩, ⟨by (with_reducible repeat (first | refine blk_drewN ?_ _ | refine blk_drew ?_ | refine blk_alloc ?_ _)); exact BK315.out⟩, ⟨by repeat (first | (with_reducible first | exact HB.out | apply below_alloc | apply pw_below_drewN | apply below_drew1 | refine below_set ?_ GE314.out | refine below_set ?_ GE315.out) | exact HB.out)⟩⟩
        case round =>
          clear H'
          try clear c1
          try clear c2
          try clear p2
          try clear c3
          try clear c4
          try clear c5
          try clear c10
          try clear c12
          try clear c14
          try clear c16
          try clear c17
          try clear c18
          try clear c19
          try clear c20
          try clear c30
          try clear c32
          try clear c33
          try clear c33b0
          try clear c33b1
          try clear c34
          try clear c34b0
          try clear c34b1
          try clear c35
          try clear c35b0
          try clear c35b1
          try clear c36
          try clear c36b0
          try clear c36b1
          try clear c58
          try clear hcz15_0
          try clear hcz15_1
          try clear hcz15_2
          try clear hcz17_0
          try clear hcz17_1
          try clear hcz17_2
          try clear hcz19_0
          try clear hcz19_1
          try clear hcz19_2
          try clear hcz21_0
          try clear hcz21_1
          try clear hcz21_2
          try clear hcz23_0
          try clear hcz23_1
          try clear hcz23_2
          try clear hcz24_0
          try clear hcz24_1
          try clear hcz24_2
          try clear hcz26_0
          try clear hcz26_1
          try clear hcz26_2
          try clear hcz27_0
          try clear hcz27_1
          try clear hcz27_2
          try clear hfz15_0
          try clear hfz15_1
          try clear hfz15_2
          try clear hfz17_0
          try clear hfz17_1
          try clear hfz17_2
          try clear hfz19_0
          try clear hfz19_1
          try clear hfz19_2
          try clear hfz21_0
          try clear hfz21_1
          try clear hfz21_2
          try clear hfz23_0
          try clear hfz23_1
          try clear hfz23_2
          try clear hfz24_0
          try clear hfz24_1
          try clear hfz24_2
          try clear hfz26_0
          try clear hfz26_1
          try clear hfz26_2
          try clear hfz27_0
          try clear hfz27_1
          try clear hfz27_2
          try clear p2
          obtain ⟨x95_2, rfl, HA, HK2, HO_17, HO_19, BK314, BK315, HB⟩ := hrel
          cases gk with
          | zero => exact absurd HA.out (by simp [potsherdlaw06_PlaceLays.l0])
          | succ k2 =>
            have H := HA.out
            clear HA
            simp only [potsherdlaw06_PlaceLays.l0] at H
            by_cases c60 : x95_2 < (t328.length : Int)
            · rw [if_pos c60] at H
              have c60b0 : decide (x95_2 < (t328.length : Int)) = true := decide_eq_true c60
              clear c60
              by_cases c61 : 0 ≤ x95_2
              · rw [if_pos c61] at H
                have c61b0 : decide (0 ≤ x95_2) = true := decide_eq_true c61
                clear c61
                by_cases c62 : x95_2 < (t328.length : Int)
                · rw [if_pos c62] at H
                  have c62b0 : decide (x95_2 < (t328.length : Int)) = true := decide_eq_true c62
                  clear c62
                  by_cases c63 : x95_2 < (t332.length : Int)
                  · rw [if_pos c63] at H
                    have c63b0 : decide (x95_2 < (t332.length : Int)) = true := decide_eq_true c63
                    clear c63
                    replace H := Option.bind_eq_some_iff.mp H
                    obtain ⟨t340, A640, H⟩ := H
                    replace H : (if t340 = true then (potsherdlaw06_PlaceLays.l0 k2 t328 t332 (t328.length : Int) (wrap64 (x95_2 + 1)) a0_0 a0_1 a0_2) else (some false)) = some r := H
                    have A64 := Aside0.mk A640
                    clear A640
                    by_cases c65 : t340 = true
                    · subst c65
                      have H1 : (potsherdlaw06_PlaceLays.l0 k2 t328 t332 (t328.length : Int) (wrap64 (x95_2 + 1)) a0_0 a0_1 a0_2) = some r := by rw [if_pos rfl] at H; exact H
                      clear H
                      have H := H1
                      clear H1
                      have H' := Aside0.mk H
                      clear H
                      try go_wp2
                      have n0_ := Aside0.mk (Kd.R_drew HO_17.out)
                      have n1_ := Aside0.mk (Kd.R_drew HO_19.out)
                      have n2_ := Aside0.mk (blk_drew BK314.out)
                      have n3_ := Aside0.mk (blk_drew BK315.out)
                      have n4_ := Aside0.mk (below_drew1 HB.out)
                      clear HO_17
                      clear HO_19
                      clear BK314
                      clear BK315
                      clear HB
                      have HO_17 := n0_
                      have HO_19 := n1_
                      have BK314 := n2_
                      have BK315 := n3_
                      have HB := n4_
                      clear n0_ n1_ n2_ n3_ n4_
                      have p338 : 0 ≤ (x95_2 : Int) := of_decide_eq_true (by first | (with_reducible assumption) | assumption)
                      have q338 : x95_2 < (t328.length : Int) := of_decide_eq_true (by first | (with_reducible assumption) | assumption)
                      obtain ⟨ad338, A338_0, c338_0, e338, hx338_0, hl338_0, hi338_0⟩ := at_L8 (Kd.R_reads' HO_17.out).2.2 x95_2 p338 q338
                      cases e338
                      obtain ⟨ce338, hce338, hMe338, hcc338⟩ := Kd.R_get HO_17.out [] x95_2 p338 (by first | exact q338 | exact of_decide_eq_true (by first | (with_reducible assumption) | assumption) | (have e_ := (Kd.R_reads' HO_17.out).1; omega))
                      obtain ⟨ve338_0, rfl, ge338_0⟩ := hMe338
                      have hv338_0 := hcc338 0 _ rfl
                      rw [Nat.add_zero, show ((Kd.slice 35 (Kd.slice 38 k38))).sz = 1 from rfl, Nat.mul_one] at hv338_0
                      replace hv338_0 := Option.some.inj (hv338_0.symm.trans hx338_0)
                      rw [hv338_0] at ge338_0
                      have HL338_0 := Aside0.mk (show Kd.R (Kd.slice 38 k38) 35 _ _ _ _ (rd_L8 t328 x95_2) from ge338_0)
                      clear hv338_0 ge338_0
                      clear hcc338 hce338
                      have HR338_0 := Aside0.mk hi338_0
                      have HC338_0 := Aside0.mk hl338_0
                      clear hi338_0 hl338_0
                      replace p338 := eq_true p338
                      replace q338 := eq_true q338
                      obtain ⟨Ao67, co67, eo67⟩ := Kd.R_slice HO_19.out
                      (first | subst eo67 | (injection eo67 with f1_ f2_ f3_; have f4_ := f1_.symm; have f5_ := f3_.symm; clear f1_ f2_ f3_; subst f4_; subst f5_))
                      have p339 : 0 ≤ (x95_2 : Int) := of_decide_eq_true (by first | (with_reducible assumption) | assumption)
                      have q339 : x95_2 < (t332.length : Int) := of_decide_eq_true (by first | (with_reducible assumption) | assumption)
                      obtain ⟨ad339, A339_0, c339_0, e339, hx339_0, hl339_0, hi339_0⟩ := at_L8 (Kd.R_reads' HO_19.out).2.2 x95_2 p339 q339
                      cases e339
                      obtain ⟨ce339, hce339, hMe339, hcc339⟩ := Kd.R_get HO_19.out [] x95_2 p339 (by first | exact q339 | exact of_decide_eq_true (by first | (with_reducible assumption) | assumption) | (have e_ := (Kd.R_reads' HO_19.out).1; omega))
                      obtain ⟨ve339_0, rfl, ge339_0⟩ := hMe339
                      have hv339_0 := hcc339 0 _ rfl
                      rw [Nat.add_zero, show ((Kd.slice 35 (Kd.slice 38 k38))).sz = 1 from rfl, Nat.mul_one] at hv339_0
                      replace hv339_0 := Option.some.inj (hv339_0.symm.trans hx339_0)
                      rw [hv339_0] at ge339_0
                      have HL339_0 := Aside0.mk (show Kd.R (Kd.slice 38 k38) 35 _ _ _ _ (rd_L8 t332 x95_2) from ge339_0)
                      clear hv339_0 ge339_0
                      clear hcc339 hce339
                      have HR339_0 := Aside0.mk hi339_0
                      have HC339_0 := Aside0.mk hl339_0
                      clear hi339_0 hl339_0
                      replace p339 := eq_true p339
                      replace q339 := eq_true q339
                      refine start_ (n := 10) (S := fun w' => w'.cell? (ad338.add (x95_2).toNat) = some (.slice A338_0 (rd_L8 t328 x95_2).length c338_0) ∧ w'.cell? (ad339.add (x95_2).toNat) = some (.slice A339_0 (rd_L8 t332 x95_2).length c339_0)) (ds := []) #[false, false, false, false, false, false, false, false, false, false] (by kernel_rfl) rfl rfl ⟨hx338_0, hx339_0⟩ (fun hHeld => ?_); refine with_tabW potsherdlaw06_PlaceLays.tab12 potsherdlaw06_PlaceLays.bits12 (fun HT_ HW_ => ?_)
                      generalize wr.drew = w66 at HO_17 HO_19 BK314 BK315 HB HL338_0 HL339_0 HR338_0 HR339_0 hx338_0 hx339_0 hHeld ⊢
                      refine pure_ (i := 0) (N := some 98) (v := ?_) (a' := ?_) #[true, false, false, false, false, false, false, false, false, false] rfl rfl (any_of HT_.out (by kernel_rfl)) (fun _ _ _ h => h) (Or.inl ⟨by rfl, ?_⟩) ?_ ?_
                      rotate_left
                      · intro w'
                        go_simp
                        with_reducible rfl
                      rotate_left
                      · simp only [Act.put, List.setIfInBounds_toArray, List.set_cons_zero, List.set_cons_succ, i64_w, i32_w]
                        rfl
                      refine pure_ (i := 1) (N := some 99) (v := ?_) (a' := ?_) #[true, true, false, false, false, false, false, false, false, false] rfl rfl (any_of HT_.out (by kernel_rfl)) (fun _ _ _ h => h) (Or.inl ⟨by rfl, ?_⟩) ?_ ?_
                      rotate_left
                      · intro w'
                        go_simp
                        with_reducible rfl
                      rotate_left
                      · simp only [Act.put, List.setIfInBounds_toArray, List.set_cons_zero, List.set_cons_succ, i64_w, i32_w]
                        rfl
                      refine pure_ (i := 2) (N := some 100) (v := ?_) (a' := ?_) #[true, true, true, false, false, false, false, false, false, false] rfl rfl (any_of HT_.out (by kernel_rfl)) (fun _ _ _ h => h) (Or.inl ⟨by rfl, ?_⟩) ?_ ?_
                      rotate_left
                      · intro w'
                        go_simp
                        with_reducible rfl
                      rotate_left
                      · simp only [Act.put, List.setIfInBounds_toArray, List.set_cons_zero, List.set_cons_succ, i64_w, i32_w]
                        rfl
                      refine pure_ (i := 4) (N := some 102) (v := ?_) (a' := ?_) #[true, true, true, false, true, false, false, false, false, false] rfl rfl (any_of HT_.out (by kernel_rfl)) (fun _ _ _ h => h) (Or.inl ⟨by rfl, ?_⟩) ?_ ?_
                      rotate_left
                      · intro w'
                        go_simp
                        with_reducible rfl
                      rotate_left
                      · simp only [Act.put, List.setIfInBounds_toArray, List.set_cons_zero, List.set_cons_succ, i64_w, i32_w]
                        rfl
                      refine pure_ (i := 5) (N := some 103) (v := ?_) (a' := ?_) #[true, true, true, false, true, true, false, false, false, false] rfl rfl (any_of HT_.out (by kernel_rfl)) (fun _ _ _ h => h) (Or.inl ⟨by rfl, ?_⟩) ?_ ?_
                      rotate_left
                      · intro w'
                        go_simp
                        with_reducible rfl
                      rotate_left
                      · simp only [Act.put, List.setIfInBounds_toArray, List.set_cons_zero, List.set_cons_succ, i64_w, i32_w]
                        rfl
                      refine pure_ (i := 6) (N := some 104) (v := ?_) (a' := ?_) #[true, true, true, false, true, true, true, false, false, false] rfl rfl (any_of HT_.out (by kernel_rfl)) (fun _ _ _ h => h) (Or.inl ⟨by rfl, ?_⟩) ?_ ?_
                      rotate_left
                      · intro w'
                        go_simp
                        with_reducible rfl
                      rotate_left
                      · simp only [Act.put, List.setIfInBounds_toArray, List.set_cons_zero, List.set_cons_succ, i64_w, i32_w]
                        rfl
                      refine take_ (i := 3) (N := some 101) (v := ?_) (a' := ?_) #[true, true, true, true, true, true, true, false, false, false] rfl rfl (take_ofW HT_.out HW_.out (by kernel_rfl)) (fun _ _ _ h => h) (Or.inl ⟨by rfl, ?_⟩) hHeld ?_ ?_
                      rotate_left
                      · rintro w' ⟨s0, s1⟩
                        go_simp
                        with_reducible rfl
                      rotate_left
                      · simp only [Act.put, List.setIfInBounds_toArray, List.set_cons_zero, List.set_cons_succ, i64_w, i32_w]
                        rfl
                      refine take_ (i := 7) (N := some 105) (v := ?_) (a' := ?_) #[true, true, true, true, true, true, true, true, false, false] rfl rfl (take_ofW HT_.out HW_.out (by kernel_rfl)) (fun _ _ _ h => h) (Or.inl ⟨by rfl, ?_⟩) hHeld ?_ ?_
                      rotate_left
                      · rintro w' ⟨s0, s1⟩
                        go_simp
                        with_reducible rfl
                      rotate_left
                      · simp only [Act.put, List.setIfInBounds_toArray, List.set_cons_zero, List.set_cons_succ, i64_w, i32_w]
                        rfl
                      refine one_ (i := 8) (N := some 106) #[true, true, true, true, true, true, true, true, true, false] rfl rfl (one_of HT_.out (by kernel_rfl)) (by decide) (fun K hK => ?_)
                      refine goes_ Tryd.func13 (by kernel_rfl) rfl #[.slice A338_0 (rd_L8 t328 x95_2).length c338_0, .slice A339_0 (rd_L8 t332 x95_2).length c339_0] (by rfl) rfl rfl (by (try simp only [List.map_toArray, List.map_cons, List.map_nil]); first | done | rfl | (simp only [List.length_drop, List.length_take]; rfl)) ?_
                      with_reducible refine (potsherdref01_Same.calls k2 _ _ (rd_L8 t328 x95_2) _ _ (rd_L8 t332 x95_2) true _ ?side1 ?side2 ?side3 ?side4 A64.out).mono ?_
                      (case side1 => repeat (first | exact (by repeat (first | (with_reducible exact HR338_0.out) | (with_reducible refine Kd.C_alloc ?_ _) | (with_reducible refine Kd.C_drewN ?_ _) | (with_reducible refine Kd.C_drew ?_) | exact HR338_0.out)) | (with_reducible refine Kd.C_alloc ?_ _) | (with_reducible refine Kd.C_drewN ?_ _) | (with_reducible refine Kd.C_drew ?_)))
                      (case side2 => exact HC338_0.out)
                      (case side3 => repeat (first | exact (by repeat (first | (with_reducible exact HR339_0.out) | (with_reducible refine Kd.C_alloc ?_ _) | (with_reducible refine Kd.C_drewN ?_ _) | (with_reducible refine Kd.C_drew ?_) | exact HR339_0.out)) | (with_reducible refine Kd.C_alloc ?_ _) | (with_reducible refine Kd.C_drewN ?_ _) | (with_reducible refine Kd.C_drew ?_)))
                      (case side4 => exact HC339_0.out)
                      rintro e w' ⟨rfl, ⟨nd, rfl⟩⟩
                      refine ⟨_, rfl, ?_⟩
                      refine hK.out _ _ ⟨hHeld.1, hHeld.2⟩ (fun hHeld => ?_)
                      clear hK K
                      refine norm_ (a' := ?_) ?_ ?_
                      rotate_left
                      · show Act.put _ (some 106) _ = _
                        simp only [Act.put, List.setIfInBounds_toArray, List.set_cons_zero, List.set_cons_succ, i64_w, i32_w]
                        rfl
                      refine pure_ (i := 9) (N := some 107) (v := ?_) (a' := ?_) #[true, true, true, true, true, true, true, true, true, true] rfl rfl (any_of HT_.out (by kernel_rfl)) (fun _ _ _ h => h) (Or.inl ⟨by rfl, ?_⟩) ?_ ?_
                      rotate_left
                      · intro w'
                        go_simp
                        with_reducible rfl
                      rotate_left
                      · simp only [Act.put, List.setIfInBounds_toArray, List.set_cons_zero, List.set_cons_succ, i64_w, i32_w]
                        rfl
                      refine done_ (done_of HT_.out (by kernel_rfl)) ?_
                      try go_wp2
                      go_roundg k2
                      case measure => have := HJ10.out; have := HK2.out; omega
                      case rel => exact ⟨(wrap64 (x95_2 + 1)), (by first | rfl | (simp; done) | (simp [*]; done)), H', ⟨by have := HJ10.out; have := HK2.out; omega⟩, ⟨by (with_reducible repeat (first | apply Kd.R_alloc | apply Kd.R_drewN | apply Kd.R_drew)); exact HO_17.out⟩, ⟨by (with_reducible repeat (first | apply Kd.R_alloc | apply Kd.R_drewN | apply Kd.R_drew)); exact HO_19.out⟩, ⟨by (with_reducible repeat (first | refine blk_drewN ?_ _ | refine blk_drew ?_ | refine blk_alloc ?_ _)); exact BK314.out⟩, ⟨by (with_reducible repeat (first | refine blk_drewN ?_ _ | refine blk_drew ?_ | refine blk_alloc ?_ _)); exact BK315.out⟩, ⟨by repeat (first | (with_reducible first | exact HB.out | apply below_alloc | apply pw_below_drewN | apply below_drew1 | refine below_set ?_ GE314.out | refine below_set ?_ GE315.out) | exact HB.out)⟩⟩
                    · replace c65 := Bool.eq_false_iff.mpr c65
                      subst c65
                      have H1 : (some false) = some r := by rw [if_neg (show ¬ (false = true) by decide)] at H; exact H
                      clear H
                      have H := H1
                      clear H1
                      obtain rfl := Option.some.inj H
                      try go_wp2
                      have n0_ := Aside0.mk (Kd.R_drew HO_17.out)
                      have n1_ := Aside0.mk (Kd.R_drew HO_19.out)
                      have n2_ := Aside0.mk (blk_drew BK314.out)
                      have n3_ := Aside0.mk (blk_drew BK315.out)
                      have n4_ := Aside0.mk (below_drew1 HB.out)
                      clear HO_17
                      clear HO_19
                      clear BK314
                      clear BK315
                      clear HB
                      have HO_17 := n0_
                      have HO_19 := n1_
                      have BK314 := n2_
                      have BK315 := n3_
                      have HB := n4_
                      clear n0_ n1_ n2_ n3_ n4_
                      have p338 : 0 ≤ (x95_2 : Int) := of_decide_eq_true (by first | (with_reducible assumption) | assumption)
                      have q338 : x95_2 < (t328.length : Int) := of_decide_eq_true (by first | (with_reducible assumption) | assumption)
                      obtain ⟨ad338, A338_0, c338_0, e338, hx338_0, hl338_0, hi338_0⟩ := at_L8 (Kd.R_reads' HO_17.out).2.2 x95_2 p338 q338
                      cases e338
                      obtain ⟨ce338, hce338, hMe338, hcc338⟩ := Kd.R_get HO_17.out [] x95_2 p338 (by first | exact q338 | exact of_decide_eq_true (by first | (with_reducible assumption) | assumption) | (have e_ := (Kd.R_reads' HO_17.out).1; omega))
                      obtain ⟨ve338_0, rfl, ge338_0⟩ := hMe338
                      have hv338_0 := hcc338 0 _ rfl
                      rw [Nat.add_zero, show ((Kd.slice 35 (Kd.slice 38 k38))).sz = 1 from rfl, Nat.mul_one] at hv338_0
                      replace hv338_0 := Option.some.inj (hv338_0.symm.trans hx338_0)
                      rw [hv338_0] at ge338_0
                      have HL338_0 := Aside0.mk (show Kd.R (Kd.slice 38 k38) 35 _ _ _ _ (rd_L8 t328 x95_2) from ge338_0)
                      clear hv338_0 ge338_0
                      clear hcc338 hce338
                      have HR338_0 := Aside0.mk hi338_0
                      have HC338_0 := Aside0.mk hl338_0
                      clear hi338_0 hl338_0
                      replace p338 := eq_true p338
                      replace q338 := eq_true q338
                      obtain ⟨Ao69, co69, eo69⟩ := Kd.R_slice HO_19.out
                      (first | subst eo69 | (injection eo69 with f1_ f2_ f3_; have f4_ := f1_.symm; have f5_ := f3_.symm; clear f1_ f2_ f3_; subst f4_; subst f5_))
                      have p339 : 0 ≤ (x95_2 : Int) := of_decide_eq_true (by first | (with_reducible assumption) | assumption)
                      have q339 : x95_2 < (t332.length : Int) := of_decide_eq_true (by first | (with_reducible assumption) | assumption)
                      obtain ⟨ad339, A339_0, c339_0, e339, hx339_0, hl339_0, hi339_0⟩ := at_L8 (Kd.R_reads' HO_19.out).2.2 x95_2 p339 q339
                      cases e339
                      obtain ⟨ce339, hce339, hMe339, hcc339⟩ := Kd.R_get HO_19.out [] x95_2 p339 (by first | exact q339 | exact of_decide_eq_true (by first | (with_reducible assumption) | assumption) | (have e_ := (Kd.R_reads' HO_19.out).1; omega))
                      obtain ⟨ve339_0, rfl, ge339_0⟩ := hMe339
                      have hv339_0 := hcc339 0 _ rfl
                      rw [Nat.add_zero, show ((Kd.slice 35 (Kd.slice 38 k38))).sz = 1 from rfl, Nat.mul_one] at hv339_0
                      replace hv339_0 := Option.some.inj (hv339_0.symm.trans hx339_0)
                      rw [hv339_0] at ge339_0
                      have HL339_0 := Aside0.mk (show Kd.R (Kd.slice 38 k38) 35 _ _ _ _ (rd_L8 t332 x95_2) from ge339_0)
                      clear hv339_0 ge339_0
                      clear hcc339 hce339
                      have HR339_0 := Aside0.mk hi339_0
                      have HC339_0 := Aside0.mk hl339_0
                      clear hi339_0 hl339_0
                      replace p339 := eq_true p339
                      replace q339 := eq_true q339
                      refine start_ (n := 10) (S := fun w' => w'.cell? (ad338.add (x95_2).toNat) = some (.slice A338_0 (rd_L8 t328 x95_2).length c338_0) ∧ w'.cell? (ad339.add (x95_2).toNat) = some (.slice A339_0 (rd_L8 t332 x95_2).length c339_0)) (ds := []) #[false, false, false, false, false, false, false, false, false, false] (by kernel_rfl) rfl rfl ⟨hx338_0, hx339_0⟩ (fun hHeld => ?_); refine with_tabW potsherdlaw06_PlaceLays.tab12 potsherdlaw06_PlaceLays.bits12 (fun HT_ HW_ => ?_)
                      generalize wr.drew = w68 at HO_17 HO_19 BK314 BK315 HB HL338_0 HL339_0 HR338_0 HR339_0 hx338_0 hx339_0 hHeld ⊢
                      refine pure_ (i := 0) (N := some 98) (v := ?_) (a' := ?_) #[true, false, false, false, false, false, false, false, false, false] rfl rfl (any_of HT_.out (by kernel_rfl)) (fun _ _ _ h => h) (Or.inl ⟨by rfl, ?_⟩) ?_ ?_
                      rotate_left
                      · intro w'
                        go_simp
                        with_reducible rfl
                      rotate_left
                      · simp only [Act.put, List.setIfInBounds_toArray, List.set_cons_zero, List.set_cons_succ, i64_w, i32_w]
                        rfl
                      refine pure_ (i := 1) (N := some 99) (v := ?_) (a' := ?_) #[true, true, false, false, false, false, false, false, false, false] rfl rfl (any_of HT_.out (by kernel_rfl)) (fun _ _ _ h => h) (Or.inl ⟨by rfl, ?_⟩) ?_ ?_
                      rotate_left
                      · intro w'
                        go_simp
                        with_reducible rfl
                      rotate_left
                      · simp only [Act.put, List.setIfInBounds_toArray, List.set_cons_zero, List.set_cons_succ, i64_w, i32_w]
                        rfl
                      refine pure_ (i := 2) (N := some 100) (v := ?_) (a' := ?_) #[true, true, true, false, false, false, false, false, false, false] rfl rfl (any_of HT_.out (by kernel_rfl)) (fun _ _ _ h => h) (Or.inl ⟨by rfl, ?_⟩) ?_ ?_
                      rotate_left
                      · intro w'
                        go_simp
                        with_reducible rfl
                      rotate_left
                      · simp only [Act.put, List.setIfInBounds_toArray, List.set_cons_zero, List.set_cons_succ, i64_w, i32_w]
                        rfl
                      refine pure_ (i := 4) (N := some 102) (v := ?_) (a' := ?_) #[true, true, true, false, true, false, false, false, false, false] rfl rfl (any_of HT_.out (by kernel_rfl)) (fun _ _ _ h => h) (Or.inl ⟨by rfl, ?_⟩) ?_ ?_
                      rotate_left
                      · intro w'
                        go_simp
                        with_reducible rfl
                      rotate_left
                      · simp only [Act.put, List.setIfInBounds_toArray, List.set_cons_zero, List.set_cons_succ, i64_w, i32_w]
                        rfl
                      refine pure_ (i := 5) (N := some 103) (v := ?_) (a' := ?_) #[true, true, true, false, true, true, false, false, false, false] rfl rfl (any_of HT_.out (by kernel_rfl)) (fun _ _ _ h => h) (Or.inl ⟨by rfl, ?_⟩) ?_ ?_
                      rotate_left
                      · intro w'
                        go_simp
                        with_reducible rfl
                      rotate_left
                      · simp only [Act.put, List.setIfInBounds_toArray, List.set_cons_zero, List.set_cons_succ, i64_w, i32_w]
                        rfl
                      refine pure_ (i := 6) (N := some 104) (v := ?_) (a' := ?_) #[true, true, true, false, true, true, true, false, false, false] rfl rfl (any_of HT_.out (by kernel_rfl)) (fun _ _ _ h => h) (Or.inl ⟨by rfl, ?_⟩) ?_ ?_
                      rotate_left
                      · intro w'
                        go_simp
                        with_reducible rfl
                      rotate_left
                      · simp only [Act.put, List.setIfInBounds_toArray, List.set_cons_zero, List.set_cons_succ, i64_w, i32_w]
                        rfl
                      refine take_ (i := 3) (N := some 101) (v := ?_) (a' := ?_) #[true, true, true, true, true, true, true, false, false, false] rfl rfl (take_ofW HT_.out HW_.out (by kernel_rfl)) (fun _ _ _ h => h) (Or.inl ⟨by rfl, ?_⟩) hHeld ?_ ?_
                      rotate_left
                      · rintro w' ⟨s0, s1⟩
                        go_simp
                        with_reducible rfl
                      rotate_left
                      · simp only [Act.put, List.setIfInBounds_toArray, List.set_cons_zero, List.set_cons_succ, i64_w, i32_w]
                        rfl
                      refine take_ (i := 7) (N := some 105) (v := ?_) (a' := ?_) #[true, true, true, true, true, true, true, true, false, false] rfl rfl (take_ofW HT_.out HW_.out (by kernel_rfl)) (fun _ _ _ h => h) (Or.inl ⟨by rfl, ?_⟩) hHeld ?_ ?_
                      rotate_left
                      · rintro w' ⟨s0, s1⟩
                        go_simp
                        with_reducible rfl
                      rotate_left
                      · simp only [Act.put, List.setIfInBounds_toArray, List.set_cons_zero, List.set_cons_succ, i64_w, i32_w]
                        rfl
                      refine one_ (i := 8) (N := some 106) #[true, true, true, true, true, true, true, true, true, false] rfl rfl (one_of HT_.out (by kernel_rfl)) (by decide) (fun K hK => ?_)
                      refine goes_ Tryd.func13 (by kernel_rfl) rfl #[.slice A338_0 (rd_L8 t328 x95_2).length c338_0, .slice A339_0 (rd_L8 t332 x95_2).length c339_0] (by rfl) rfl rfl (by (try simp only [List.map_toArray, List.map_cons, List.map_nil]); first | done | rfl | (simp only [List.length_drop, List.length_take]; rfl)) ?_
                      with_reducible refine (potsherdref01_Same.calls k2 _ _ (rd_L8 t328 x95_2) _ _ (rd_L8 t332 x95_2) false _ ?side1 ?side2 ?side3 ?side4 A64.out).mono ?_
                      (case side1 => repeat (first | exact (by repeat (first | (with_reducible exact HR338_0.out) | (with_reducible refine Kd.C_alloc ?_ _) | (with_reducible refine Kd.C_drewN ?_ _) | (with_reducible refine Kd.C_drew ?_) | exact HR338_0.out)) | (with_reducible refine Kd.C_alloc ?_ _) | (with_reducible refine Kd.C_drewN ?_ _) | (with_reducible refine Kd.C_drew ?_)))
                      (case side2 => exact HC338_0.out)
                      (case side3 => repeat (first | exact (by repeat (first | (with_reducible exact HR339_0.out) | (with_reducible refine Kd.C_alloc ?_ _) | (with_reducible refine Kd.C_drewN ?_ _) | (with_reducible refine Kd.C_drew ?_) | exact HR339_0.out)) | (with_reducible refine Kd.C_alloc ?_ _) | (with_reducible refine Kd.C_drewN ?_ _) | (with_reducible refine Kd.C_drew ?_)))
                      (case side4 => exact HC339_0.out)
                      rintro e w' ⟨rfl, ⟨nd, rfl⟩⟩
                      refine ⟨_, rfl, ?_⟩
                      refine hK.out _ _ ⟨hHeld.1, hHeld.2⟩ (fun hHeld => ?_)
                      clear hK K
                      refine norm_ (a' := ?_) ?_ ?_
                      rotate_left
                      · show Act.put _ (some 106) _ = _
                        simp only [Act.put, List.setIfInBounds_toArray, List.set_cons_zero, List.set_cons_succ, i64_w, i32_w]
                        rfl
                      refine pure_ (i := 9) (N := some 107) (v := ?_) (a' := ?_) #[true, true, true, true, true, true, true, true, true, true] rfl rfl (any_of HT_.out (by kernel_rfl)) (fun _ _ _ h => h) (Or.inl ⟨by rfl, ?_⟩) ?_ ?_
                      rotate_left
                      · intro w'
                        go_simp
                        with_reducible rfl
                      rotate_left
                      · simp only [Act.put, List.setIfInBounds_toArray, List.set_cons_zero, List.set_cons_succ, i64_w, i32_w]
                        rfl
                      refine done_ (done_of HT_.out (by kernel_rfl)) ?_
                      try go_wp2
                      go_ret
                      exact ⟨by first | rfl | (simp [errW_none, errW_some] <;> rfl) | (simp [*, errW_none, errW_some] <;> rfl), by repeat (first | (with_reducible first | exact HB.out | apply below_alloc | apply pw_below_drewN | apply below_drew1 | refine below_set ?_ GE314.out | refine below_set ?_ GE315.out) | exact HB.out)⟩
                  · rw [if_neg c63] at H
                    exact absurd H (by simp)
                · rw [if_neg c62] at H
                  exact absurd H (by simp)
              · rw [if_neg c61] at H
                exact absurd H (by simp)
            · rw [if_neg c60] at H
              have c60b0 : decide (x95_2 < (t328.length : Int)) = false := decide_eq_false c60
              clear c60
              replace H := Option.bind_eq_some_iff.mp H
              obtain ⟨t341, A700, H⟩ := H
              replace H : ((potsherdref06_Check.f a0_0 a0_1 a0_2).bind fun t342 => (some (t341 == t342))) = some r := H
              have A70 := Aside0.mk A700
              clear A700
              replace H := Option.bind_eq_some_iff.mp H
              obtain ⟨t342, A710, H⟩ := H
              replace H : (some (t341 == t342)) = some r := H
              have A71 := Aside0.mk A710
              clear A710
              obtain rfl := Option.some.inj H
              try go_wp2
              have n0_ := Aside0.mk (Kd.R_drew HO_17.out)
              have n1_ := Aside0.mk (Kd.R_drew HO_19.out)
              have n2_ := Aside0.mk (blk_drew BK314.out)
              have n3_ := Aside0.mk (blk_drew BK315.out)
              have n4_ := Aside0.mk (below_drew1 HB.out)
              clear HO_17
              clear HO_19
              clear BK314
              clear BK315
              clear HB
              have HO_17 := n0_
              have HO_19 := n1_
              have BK314 := n2_
              have BK315 := n3_
              have HB := n4_
              clear n0_ n1_ n2_ n3_ n4_
              refine start_ (n := 6) (S := fun w' => w'.cell? ⟨gb314, 0, none⟩ = some (.int .i64 a0_0) ∧ w'.cell? ⟨gb314, 1, none⟩ = some (.int .i64 a0_1) ∧ w'.cell? ⟨gb314, 2, none⟩ = some (.int .i64 a0_2)) (ds := []) #[false, false, false, false, false, false] (by kernel_rfl) rfl rfl ⟨(blk_cell BK314.out 0).trans rfl, (blk_cell BK314.out 1).trans rfl, (blk_cell BK314.out 2).trans rfl⟩ (fun hHeld => ?_)
              generalize wr.drew = w72 at HO_17 HO_19 BK314 BK315 HB hHeld ⊢
              refine take_ (i := 0) (N := some 109) (v := ?_) (a' := ?_) #[true, false, false, false, false, false] rfl rfl (by kernel_rfl) (fun _ _ _ h => h) (Or.inl ⟨by rfl, ?_⟩) hHeld ?_ ?_
              rotate_left
              · rintro w' ⟨s0, s1, s2⟩
                go_simp
                with_reducible rfl
              rotate_left
              · simp only [Act.put, List.setIfInBounds_toArray, List.set_cons_zero, List.set_cons_succ, i64_w, i32_w]
                rfl
              refine take_ (i := 2) (N := some 111) (v := ?_) (a' := ?_) #[true, false, true, false, false, false] rfl rfl (by kernel_rfl) (fun _ _ _ h => h) (Or.inl ⟨by rfl, ?_⟩) hHeld ?_ ?_
              rotate_left
              · rintro w' ⟨s0, s1, s2⟩
                go_simp
                with_reducible rfl
              rotate_left
              · simp only [Act.put, List.setIfInBounds_toArray, List.set_cons_zero, List.set_cons_succ, i64_w, i32_w]
                rfl
              refine one_ (i := 1) (N := some 110) #[true, true, true, false, false, false] rfl rfl (by kernel_rfl) (by decide) (fun K hK => ?_)
              refine goes_ Tryd.func15 (by kernel_rfl) rfl #[.agg #[.int .i64 a0_0, .int .i64 a0_1, .int .i64 a0_2]] (by rfl) rfl rfl (by (try simp only [List.map_toArray, List.map_cons, List.map_nil]); first | done | rfl | (simp only [List.length_drop, List.length_take]; rfl)) ?_
              with_reducible refine (place_Check.calls a0_0 a0_1 a0_2 t341 _ A70.out).mono ?_
              rintro e w73 ⟨rfl, hb⟩
              refine ⟨_, rfl, ?_⟩
              have n0_ := Aside0.mk (Kd.R_below (by (with_reducible repeat (first | apply Kd.R_alloc | apply Kd.R_drewN | apply Kd.R_drew)); exact HO_17.out) hb)
              have n1_ := Aside0.mk (Kd.R_below (by (with_reducible repeat (first | apply Kd.R_alloc | apply Kd.R_drewN | apply Kd.R_drew)); exact HO_19.out) hb)
              have n2_ := Aside0.mk (blk_below (g := gb314) (o := .cells #[.int .i64 a0_0, .int .i64 a0_1, .int .i64 a0_2] 23 (0, 0)) (by (with_reducible repeat (first | refine blk_drewN ?_ _ | refine blk_drew ?_ | refine blk_alloc ?_ _)); exact BK314.out) hb)
              have n3_ := Aside0.mk (blk_below (g := gb315) (o := .cells #[.string a3_0, .slice A3_1 l3_1.length c3_1, .slice A3_2 l3_2.length c3_2] 27 (0, 0)) (by (with_reducible repeat (first | refine blk_drewN ?_ _ | refine blk_drew ?_ | refine blk_alloc ?_ _)); exact BK315.out) hb)
              have n4_ := Aside0.mk (below_step (by repeat (first | (with_reducible first | exact HB.out | apply below_alloc | apply pw_below_drewN | apply below_drew1 | refine below_set ?_ GE314.out | refine below_set ?_ GE315.out) | exact HB.out)) hb)
              clear HO_17
              clear HO_19
              clear BK314
              clear BK315
              clear HB
              have HO_17 := n0_
              have HO_19 := n1_
              have BK314 := n2_
              have BK315 := n3_
              have HB := n4_
              clear n0_ n1_ n2_ n3_ n4_
              (try clear hb)
              (try clear hb2)
              (try clear hk)
              (try clear hi)
              refine hK.out _ _ ⟨(blk_cell BK314.out 0).trans rfl, (blk_cell BK314.out 1).trans rfl, (blk_cell BK314.out 2).trans rfl⟩ (fun hHeld => ?_)
              clear hK K
              refine norm_ (a' := ?_) ?_ ?_
              rotate_left
              · show Act.put _ (some 110) _ = _
                simp only [Act.put, List.setIfInBounds_toArray, List.set_cons_zero, List.set_cons_succ, i64_w, i32_w]
                rfl
              refine one_ (i := 3) (N := some 112) #[true, true, true, true, false, false] rfl rfl (by kernel_rfl) (by decide) (fun K hK => ?_)
              refine goes_ Tryd.func14 (by kernel_rfl) rfl #[.agg #[.int .i64 a0_0, .int .i64 a0_1, .int .i64 a0_2]] (by rfl) rfl rfl (by (try simp only [List.map_toArray, List.map_cons, List.map_nil]); first | done | rfl | (simp only [List.length_drop, List.length_take]; rfl)) ?_
              with_reducible refine (potsherdref06_Check.calls a0_0 a0_1 a0_2 t342 _ A71.out).mono ?_
              rintro e w74 ⟨rfl, hb⟩
              refine ⟨_, rfl, ?_⟩
              have n0_ := Aside0.mk (Kd.R_below (by (with_reducible repeat (first | apply Kd.R_alloc | apply Kd.R_drewN | apply Kd.R_drew)); exact HO_17.out) hb)
              have n1_ := Aside0.mk (Kd.R_below (by (with_reducible repeat (first | apply Kd.R_alloc | apply Kd.R_drewN | apply Kd.R_drew)); exact HO_19.out) hb)
              have n2_ := Aside0.mk (blk_below (g := gb314) (o := .cells #[.int .i64 a0_0, .int .i64 a0_1, .int .i64 a0_2] 23 (0, 0)) (by (with_reducible repeat (first | refine blk_drewN ?_ _ | refine blk_drew ?_ | refine blk_alloc ?_ _)); exact BK314.out) hb)
              have n3_ := Aside0.mk (blk_below (g := gb315) (o := .cells #[.string a3_0, .slice A3_1 l3_1.length c3_1, .slice A3_2 l3_2.length c3_2] 27 (0, 0)) (by (with_reducible repeat (first | refine blk_drewN ?_ _ | refine blk_drew ?_ | refine blk_alloc ?_ _)); exact BK315.out) hb)
              have n4_ := Aside0.mk (below_step (by repeat (first | (with_reducible first | exact HB.out | apply below_alloc | apply pw_below_drewN | apply below_drew1 | refine below_set ?_ GE314.out | refine below_set ?_ GE315.out) | exact HB.out)) hb)
              clear HO_17
              clear HO_19
              clear BK314
              clear BK315
              clear HB
              have HO_17 := n0_
              have HO_19 := n1_
              have BK314 := n2_
              have BK315 := n3_
              have HB := n4_
              clear n0_ n1_ n2_ n3_ n4_
              (try clear hb)
              (try clear hb2)
              (try clear hk)
              (try clear hi)
              refine hK.out _ _ ⟨(blk_cell BK314.out 0).trans rfl, (blk_cell BK314.out 1).trans rfl, (blk_cell BK314.out 2).trans rfl⟩ (fun hHeld => ?_)
              clear hK K
              refine norm_ (a' := ?_) ?_ ?_
              rotate_left
              · show Act.put _ (some 112) _ = _
                simp only [Act.put, List.setIfInBounds_toArray, List.set_cons_zero, List.set_cons_succ, i64_w, i32_w]
                rfl
              refine pure_ (i := 4) (N := some 113) (v := ?_) (a' := ?_) #[true, true, true, true, true, false] rfl rfl (by kernel_rfl) (fun _ _ _ h => h) (Or.inl ⟨by rfl, ?_⟩) ?_ ?_
              rotate_left
              · intro w'
                go_simp
                with_reducible rfl
              rotate_left
              · simp only [Act.put, List.setIfInBounds_toArray, List.set_cons_zero, List.set_cons_succ, i64_w, i32_w]
                rfl
              refine pure_ (i := 5) (N := some 8) (v := ?_) (a' := ?_) #[true, true, true, true, true, true] rfl rfl (by kernel_rfl) (fun _ _ _ h => h) (Or.inl ⟨by rfl, ?_⟩) ?_ ?_
              rotate_left
              · intro w'
                go_simp
                with_reducible rfl
              rotate_left
              · simp only [Act.put, List.setIfInBounds_toArray, List.set_cons_zero, List.set_cons_succ, i64_w, i32_w]
                rfl
              refine done_ (by kernel_rfl) ?_
              try go_wp2
              go_ret
              exact ⟨by first | rfl | (simp [errW_none, errW_some] <;> rfl) | (simp [*, errW_none, errW_some] <;> rfl), by repeat (first | (with_reducible first | exact HB.out | apply below_alloc | apply pw_below_drewN | apply below_drew1 | refine below_set ?_ GE314.out | refine below_set ?_ GE315.out) | exact HB.out)⟩
end Go.Proofs.YtfgmgcnbponknaaDoor.Lx
