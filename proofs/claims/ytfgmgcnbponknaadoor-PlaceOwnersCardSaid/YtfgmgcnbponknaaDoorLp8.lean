/- Printed by the kit's printer (gp.sh with conf01b.py), then turned by asm01.py: potsherdlaw06_PlaceOwners. Condition: utf8's tables are laid, where a function reads them. -/
import Derived.Test.YtfgmgcnbponknaaDoorLp5
namespace Go.Proofs.YtfgmgcnbponknaaDoor.Lx
open Go.RowKit Go.Proofs.YtfgmgcnbponknaaDoor.G Go.Proofs.YtfgmgcnbponknaaDoorW.PrintWords Go.Proofs.YtfgmgcnbponknaaDoorW.PrintLast Go.Proofs.YtfgmgcnbponknaaDoorW.PrintMore
attribute [local go_sem] max2_int min2_int max_two min_two max_three min_three max_four min_four str_leq str_gtr str_geq   -- for this text's walks alone
set_option linter.unusedVariables false
set_option linter.unusedSimpArgs false

/-! ### potsherdlaw06_PlaceOwners: function 6 -/
mutual
def potsherdlaw06_PlaceOwners.j1 : Nat → List Bool → Int → Int → Int → ByteArray → List (S97) → Int → Int → List (List Int) → Option (Bool)
  | 0, _, _, _, _, _, _, _, _, _ => none
  | k + 1, x3, x246000, x246001, x246002, x247000, x247001, x247002, x247003, x247004 => (place_Pick.f x246000 x246001 x246002 x247000 x247001 x247002 x247003 x247004 x3).bind fun bt254 => (if bt254.2 = 0 then (potsherdlaw06_PlaceOwners.l1 k x3 bt254.1 bt254.1 (bt254.1.length : Int) 0 x246000 x246001 x246002 x247000 x247001 x247002 x247003 x247004) else (some ((bt254.1.length : Int) == 0)))
def potsherdlaw06_PlaceOwners.l1 : Nat → List Bool → List Int → List Int → Int → Int → Int → Int → Int → ByteArray → List (S97) → Int → Int → List (List Int) → Option (Bool)
  | 0, _, _, _, _, _, _, _, _, _, _, _, _, _ => none
  | k + 1, x3, x13, x75, x76, x77, x246000, x246001, x246002, x247000, x247001, x247002, x247003, x247004 => if x77 < x76 then (if 0 ≤ x77 then (if x77 < (x75.length : Int) then (if (rd x75 x77) ≥ (x3.length : Int) then (potsherdlaw06_PlaceOwners.j3 k x3 x13 x77 (rd x75 x77) x75 x76 x77 true x246000 x246001 x246002 x247000 x247001 x247002 x247003 x247004) else (if 0 ≤ (rd x75 x77) then (if (rd x75 x77) < (x3.length : Int) then (if (rdOf false x3 (rd x75 x77) = true) then (if x77 < (x247004.length : Int) then ((potsherdref06_Live.f k (rd_L7 x247004 x77) x3).bind fun t261 => (potsherdlaw06_PlaceOwners.j3 k x3 x13 x77 (rd x75 x77) x75 x76 x77 ((t261.length : Int) == 0) x246000 x246001 x246002 x247000 x247001 x247002 x247003 x247004)) else (none)) else (potsherdlaw06_PlaceOwners.j3 k x3 x13 x77 (rd x75 x77) x75 x76 x77 true x246000 x246001 x246002 x247000 x247001 x247002 x247003 x247004)) else (none)) else (none))) else (none)) else (none)) else (some ((x13.length : Int) == x246001))
def potsherdlaw06_PlaceOwners.j3 : Nat → List Bool → List Int → Int → Int → List Int → Int → Int → Bool → Int → Int → Int → ByteArray → List (S97) → Int → Int → List (List Int) → Option (Bool)
  | 0, _, _, _, _, _, _, _, _, _, _, _, _, _, _, _, _ => none
  | k + 1, x3, x13, x14, x15, x75, x76, x77, x103, x246000, x246001, x246002, x247000, x247001, x247002, x247003, x247004 => if x103 = true then (some false) else (if 0 ≤ x14 then (if x14 < (x247004.length : Int) then (potsherdlaw06_PlaceOwners.l2 k x3 x13 x15 false x75 x76 x77 (rd_L7 x247004 x14) ((rd_L7 x247004 x14).length : Int) 0 x246000 x246001 x246002 x247000 x247001 x247002 x247003 x247004) else (none)) else (none))
def potsherdlaw06_PlaceOwners.l2 : Nat → List Bool → List Int → Int → Bool → List Int → Int → Int → List Int → Int → Int → Int → Int → Int → ByteArray → List (S97) → Int → Int → List (List Int) → Option (Bool)
  | 0, _, _, _, _, _, _, _, _, _, _, _, _, _, _, _, _, _, _ => none
  | k + 1, x3, x13, x15, x16, x75, x76, x77, x108, x109, x110, x246000, x246001, x246002, x247000, x247001, x247002, x247003, x247004 => if x110 < x109 then (if 0 ≤ x110 then (if x110 < (x108.length : Int) then (if x16 = true then (potsherdlaw06_PlaceOwners.l2 k x3 x13 x15 true x75 x76 x77 x108 x109 (wrap64 (x110 + 1)) x246000 x246001 x246002 x247000 x247001 x247002 x247003 x247004) else (potsherdlaw06_PlaceOwners.l2 k x3 x13 x15 ((rd x108 x110) == x15) x75 x76 x77 x108 x109 (wrap64 (x110 + 1)) x246000 x246001 x246002 x247000 x247001 x247002 x247003 x247004)) else (none)) else (none)) else (if x16 = true then (potsherdlaw06_PlaceOwners.l1 k x3 x13 x75 x76 (wrap64 (x77 + 1)) x246000 x246001 x246002 x247000 x247001 x247002 x247003 x247004) else (some false))
def potsherdlaw06_PlaceOwners.l0 : Nat → List Bool → List Int → List Int → Int → Int → Int → Int → Int → ByteArray → List (S97) → Int → Int → List (List Int) → Option (Bool)
  | 0, _, _, _, _, _, _, _, _, _, _, _, _, _ => none
  | k + 1, x3, x9, x34, x35, x36, x246000, x246001, x246002, x247000, x247001, x247002, x247003, x247004 => if x36 < x35 then (if 0 ≤ x36 then (if x36 < (x34.length : Int) then (if (rd x34 x36) < 1 then (some false) else (if (rd x34 x36) ≥ x246000 then (some false) else (if x36 > 0 then (if 0 ≤ (wrap64 (x36 - 1)) then (if (wrap64 (x36 - 1)) < (x9.length : Int) then (if (rd x9 (wrap64 (x36 - 1))) ≥ (rd x34 x36) then (some false) else (potsherdlaw06_PlaceOwners.l0 k x3 x9 x34 x35 (wrap64 (x36 + 1)) x246000 x246001 x246002 x247000 x247001 x247002 x247003 x247004)) else (none)) else (none)) else (potsherdlaw06_PlaceOwners.l0 k x3 x9 x34 x35 (wrap64 (x36 + 1)) x246000 x246001 x246002 x247000 x247001 x247002 x247003 x247004)))) else (none)) else (none)) else (potsherdlaw06_PlaceOwners.j1 k x3 x246000 x246001 x246002 x247000 x247001 x247002 x247003 x247004)
end
def potsherdlaw06_PlaceOwners.f (k : Nat) (a0_0 : Int) (a0_1 : Int) (a0_2 : Int) (a1 : Int) (a2_0 : ByteArray) (l2_1 : List (S97)) (a2_2 : Int) (a2_3 : Int) (l2_4 : List (List Int)) (l3 : List Bool) : Option (Bool) := (potsherdlaw06_lives.f k).bind fun t247 => (if t247 = true then ((place_Owners.f k a0_0 a0_1 a0_2 a1).bind fun bt248 => (if bt248.2 = 0 then (if (bt248.1.length : Int) = a0_2 then (potsherdlaw06_PlaceOwners.l0 k l3 bt248.1 bt248.1 (bt248.1.length : Int) 0 a0_0 a0_1 a0_2 a2_0 l2_1 a2_2 a2_3 l2_4) else (some false)) else (potsherdlaw06_PlaceOwners.j1 k l3 a0_0 a0_1 a0_2 a2_0 l2_1 a2_2 a2_3 l2_4))) else (some false))
theorem potsherdlaw06_PlaceOwners.mono_l : ∀ k, (∀ y0 y1 y2 y3 y4 y5 y6 y7 y8, LeO (potsherdlaw06_PlaceOwners.j1 k y0 y1 y2 y3 y4 y5 y6 y7 y8) (potsherdlaw06_PlaceOwners.j1 (k + 1) y0 y1 y2 y3 y4 y5 y6 y7 y8)) ∧ (∀ y0 y1 y2 y3 y4 y5 y6 y7 y8 y9 y10 y11 y12, LeO (potsherdlaw06_PlaceOwners.l1 k y0 y1 y2 y3 y4 y5 y6 y7 y8 y9 y10 y11 y12) (potsherdlaw06_PlaceOwners.l1 (k + 1) y0 y1 y2 y3 y4 y5 y6 y7 y8 y9 y10 y11 y12)) ∧ (∀ y0 y1 y2 y3 y4 y5 y6 y7 y8 y9 y10 y11 y12 y13 y14 y15, LeO (potsherdlaw06_PlaceOwners.j3 k y0 y1 y2 y3 y4 y5 y6 y7 y8 y9 y10 y11 y12 y13 y14 y15) (potsherdlaw06_PlaceOwners.j3 (k + 1) y0 y1 y2 y3 y4 y5 y6 y7 y8 y9 y10 y11 y12 y13 y14 y15)) ∧ (∀ y0 y1 y2 y3 y4 y5 y6 y7 y8 y9 y10 y11 y12 y13 y14 y15 y16 y17, LeO (potsherdlaw06_PlaceOwners.l2 k y0 y1 y2 y3 y4 y5 y6 y7 y8 y9 y10 y11 y12 y13 y14 y15 y16 y17) (potsherdlaw06_PlaceOwners.l2 (k + 1) y0 y1 y2 y3 y4 y5 y6 y7 y8 y9 y10 y11 y12 y13 y14 y15 y16 y17)) ∧ (∀ y0 y1 y2 y3 y4 y5 y6 y7 y8 y9 y10 y11 y12, LeO (potsherdlaw06_PlaceOwners.l0 k y0 y1 y2 y3 y4 y5 y6 y7 y8 y9 y10 y11 y12) (potsherdlaw06_PlaceOwners.l0 (k + 1) y0 y1 y2 y3 y4 y5 y6 y7 y8 y9 y10 y11 y12))
  | 0 => ⟨fun _ _ _ _ _ _ _ _ _ r h => by simp [potsherdlaw06_PlaceOwners.j1] at h, fun _ _ _ _ _ _ _ _ _ _ _ _ _ r h => by simp [potsherdlaw06_PlaceOwners.l1] at h, fun _ _ _ _ _ _ _ _ _ _ _ _ _ _ _ _ r h => by simp [potsherdlaw06_PlaceOwners.j3] at h, fun _ _ _ _ _ _ _ _ _ _ _ _ _ _ _ _ _ _ r h => by simp [potsherdlaw06_PlaceOwners.l2] at h, fun _ _ _ _ _ _ _ _ _ _ _ _ _ r h => by simp [potsherdlaw06_PlaceOwners.l0] at h⟩
  | k + 1 => by
    obtain ⟨ih0, ih1, ih2, ih3, ih4⟩ := potsherdlaw06_PlaceOwners.mono_l k
    refine ⟨?_, ?_, ?_, ?_, ?_⟩
    · intro y0 y1 y2 y3 y4 y5 y6 y7 y8
      unfold potsherdlaw06_PlaceOwners.j1
      repeat' first
      | (with_reducible exact ih0 _ _ _ _ _ _ _ _ _)
      | (with_reducible exact ih1 _ _ _ _ _ _ _ _ _ _ _ _ _)
      | (with_reducible exact ih2 _ _ _ _ _ _ _ _ _ _ _ _ _ _ _ _)
      | (with_reducible exact ih3 _ _ _ _ _ _ _ _ _ _ _ _ _ _ _ _ _ _)
      | (with_reducible exact ih4 _ _ _ _ _ _ _ _ _ _ _ _ _)
      | (with_reducible exact place_Owners.mono _ _ _ _ _)
      | (with_reducible exact potsherdlaw06_lives.mono _)
      | (with_reducible exact potsherdref06_Live.mono _ _ _)
      | (with_reducible exact LeO.refl _)
      | (with_reducible exact LeO.none _)
      | (with_reducible refine LeO.ite ?_ ?_)
      | (with_reducible refine LeO.bind ?_ (fun _ => ?_))
      | exact ih0 _ _ _ _ _ _ _ _ _
      | exact ih1 _ _ _ _ _ _ _ _ _ _ _ _ _
      | exact ih2 _ _ _ _ _ _ _ _ _ _ _ _ _ _ _ _
      | exact ih3 _ _ _ _ _ _ _ _ _ _ _ _ _ _ _ _ _ _
      | exact ih4 _ _ _ _ _ _ _ _ _ _ _ _ _
      | exact place_Owners.mono _ _ _ _ _
      | exact potsherdlaw06_lives.mono _
      | exact potsherdref06_Live.mono _ _ _
      | exact LeO.none _
      | refine LeO.ite ?_ ?_
      | refine LeO.bind ?_ (fun _ => ?_)
    · intro y0 y1 y2 y3 y4 y5 y6 y7 y8 y9 y10 y11 y12
      unfold potsherdlaw06_PlaceOwners.l1
      repeat' first
      | (with_reducible exact ih0 _ _ _ _ _ _ _ _ _)
      | (with_reducible exact ih1 _ _ _ _ _ _ _ _ _ _ _ _ _)
      | (with_reducible exact ih2 _ _ _ _ _ _ _ _ _ _ _ _ _ _ _ _)
      | (with_reducible exact ih3 _ _ _ _ _ _ _ _ _ _ _ _ _ _ _ _ _ _)
      | (with_reducible exact ih4 _ _ _ _ _ _ _ _ _ _ _ _ _)
      | (with_reducible exact place_Owners.mono _ _ _ _ _)
      | (with_reducible exact potsherdlaw06_lives.mono _)
      | (with_reducible exact potsherdref06_Live.mono _ _ _)
      | (with_reducible exact LeO.refl _)
      | (with_reducible exact LeO.none _)
      | (with_reducible refine LeO.ite ?_ ?_)
      | (with_reducible refine LeO.bind ?_ (fun _ => ?_))
      | exact ih0 _ _ _ _ _ _ _ _ _
      | exact ih1 _ _ _ _ _ _ _ _ _ _ _ _ _
      | exact ih2 _ _ _ _ _ _ _ _ _ _ _ _ _ _ _ _
      | exact ih3 _ _ _ _ _ _ _ _ _ _ _ _ _ _ _ _ _ _
      | exact ih4 _ _ _ _ _ _ _ _ _ _ _ _ _
      | exact place_Owners.mono _ _ _ _ _
      | exact potsherdlaw06_lives.mono _
      | exact potsherdref06_Live.mono _ _ _
      | exact LeO.none _
      | refine LeO.ite ?_ ?_
      | refine LeO.bind ?_ (fun _ => ?_)
    · intro y0 y1 y2 y3 y4 y5 y6 y7 y8 y9 y10 y11 y12 y13 y14 y15
      unfold potsherdlaw06_PlaceOwners.j3
      repeat' first
      | (with_reducible exact ih0 _ _ _ _ _ _ _ _ _)
      | (with_reducible exact ih1 _ _ _ _ _ _ _ _ _ _ _ _ _)
      | (with_reducible exact ih2 _ _ _ _ _ _ _ _ _ _ _ _ _ _ _ _)
      | (with_reducible exact ih3 _ _ _ _ _ _ _ _ _ _ _ _ _ _ _ _ _ _)
      | (with_reducible exact ih4 _ _ _ _ _ _ _ _ _ _ _ _ _)
      | (with_reducible exact place_Owners.mono _ _ _ _ _)
      | (with_reducible exact potsherdlaw06_lives.mono _)
      | (with_reducible exact potsherdref06_Live.mono _ _ _)
      | (with_reducible exact LeO.refl _)
      | (with_reducible exact LeO.none _)
      | (with_reducible refine LeO.ite ?_ ?_)
      | (with_reducible refine LeO.bind ?_ (fun _ => ?_))
      | exact ih0 _ _ _ _ _ _ _ _ _
      | exact ih1 _ _ _ _ _ _ _ _ _ _ _ _ _
      | exact ih2 _ _ _ _ _ _ _ _ _ _ _ _ _ _ _ _
      | exact ih3 _ _ _ _ _ _ _ _ _ _ _ _ _ _ _ _ _ _
      | exact ih4 _ _ _ _ _ _ _ _ _ _ _ _ _
      | exact place_Owners.mono _ _ _ _ _
      | exact potsherdlaw06_lives.mono _
      | exact potsherdref06_Live.mono _ _ _
      | exact LeO.none _
      | refine LeO.ite ?_ ?_
      | refine LeO.bind ?_ (fun _ => ?_)
    · intro y0 y1 y2 y3 y4 y5 y6 y7 y8 y9 y10 y11 y12 y13 y14 y15 y16 y17
      unfold potsherdlaw06_PlaceOwners.l2
      repeat' first
      | (with_reducible exact ih0 _ _ _ _ _ _ _ _ _)
      | (with_reducible exact ih1 _ _ _ _ _ _ _ _ _ _ _ _ _)
      | (with_reducible exact ih2 _ _ _ _ _ _ _ _ _ _ _ _ _ _ _ _)
      | (with_reducible exact ih3 _ _ _ _ _ _ _ _ _ _ _ _ _ _ _ _ _ _)
      | (with_reducible exact ih4 _ _ _ _ _ _ _ _ _ _ _ _ _)
      | (with_reducible exact place_Owners.mono _ _ _ _ _)
      | (with_reducible exact potsherdlaw06_lives.mono _)
      | (with_reducible exact potsherdref06_Live.mono _ _ _)
      | (with_reducible exact LeO.refl _)
      | (with_reducible exact LeO.none _)
      | (with_reducible refine LeO.ite ?_ ?_)
      | (with_reducible refine LeO.bind ?_ (fun _ => ?_))
      | exact ih0 _ _ _ _ _ _ _ _ _
      | exact ih1 _ _ _ _ _ _ _ _ _ _ _ _ _
      | exact ih2 _ _ _ _ _ _ _ _ _ _ _ _ _ _ _ _
      | exact ih3 _ _ _ _ _ _ _ _ _ _ _ _ _ _ _ _ _ _
      | exact ih4 _ _ _ _ _ _ _ _ _ _ _ _ _
      | exact place_Owners.mono _ _ _ _ _
      | exact potsherdlaw06_lives.mono _
      | exact potsherdref06_Live.mono _ _ _
      | exact LeO.none _
      | refine LeO.ite ?_ ?_
      | refine LeO.bind ?_ (fun _ => ?_)
    · intro y0 y1 y2 y3 y4 y5 y6 y7 y8 y9 y10 y11 y12
      unfold potsherdlaw06_PlaceOwners.l0
      repeat' first
      | (with_reducible exact ih0 _ _ _ _ _ _ _ _ _)
      | (with_reducible exact ih1 _ _ _ _ _ _ _ _ _ _ _ _ _)
      | (with_reducible exact ih2 _ _ _ _ _ _ _ _ _ _ _ _ _ _ _ _)
      | (with_reducible exact ih3 _ _ _ _ _ _ _ _ _ _ _ _ _ _ _ _ _ _)
      | (with_reducible exact ih4 _ _ _ _ _ _ _ _ _ _ _ _ _)
      | (with_reducible exact place_Owners.mono _ _ _ _ _)
      | (with_reducible exact potsherdlaw06_lives.mono _)
      | (with_reducible exact potsherdref06_Live.mono _ _ _)
      | (with_reducible exact LeO.refl _)
      | (with_reducible exact LeO.none _)
      | (with_reducible refine LeO.ite ?_ ?_)
      | (with_reducible refine LeO.bind ?_ (fun _ => ?_))
      | exact ih0 _ _ _ _ _ _ _ _ _
      | exact ih1 _ _ _ _ _ _ _ _ _ _ _ _ _
      | exact ih2 _ _ _ _ _ _ _ _ _ _ _ _ _ _ _ _
      | exact ih3 _ _ _ _ _ _ _ _ _ _ _ _ _ _ _ _ _ _
      | exact ih4 _ _ _ _ _ _ _ _ _ _ _ _ _
      | exact place_Owners.mono _ _ _ _ _
      | exact potsherdlaw06_lives.mono _
      | exact potsherdref06_Live.mono _ _ _
      | exact LeO.none _
      | refine LeO.ite ?_ ?_
      | refine LeO.bind ?_ (fun _ => ?_)
theorem potsherdlaw06_PlaceOwners.mono : ∀ a0 a1 a2 a3 a4 a5 a6 a7 a8 a9 k, LeO (potsherdlaw06_PlaceOwners.f k a0 a1 a2 a3 a4 a5 a6 a7 a8 a9) (potsherdlaw06_PlaceOwners.f (k + 1) a0 a1 a2 a3 a4 a5 a6 a7 a8 a9) := by
  intro a0 a1 a2 a3 a4 a5 a6 a7 a8 a9 k
  obtain ⟨ih0, ih1, ih2, ih3, ih4⟩ := potsherdlaw06_PlaceOwners.mono_l k
  unfold potsherdlaw06_PlaceOwners.f
  repeat' first
      | (with_reducible exact ih0 _ _ _ _ _ _ _ _ _)
      | (with_reducible exact ih1 _ _ _ _ _ _ _ _ _ _ _ _ _)
      | (with_reducible exact ih2 _ _ _ _ _ _ _ _ _ _ _ _ _ _ _ _)
      | (with_reducible exact ih3 _ _ _ _ _ _ _ _ _ _ _ _ _ _ _ _ _ _)
      | (with_reducible exact ih4 _ _ _ _ _ _ _ _ _ _ _ _ _)
      | (with_reducible exact place_Owners.mono _ _ _ _ _)
      | (with_reducible exact potsherdlaw06_lives.mono _)
      | (with_reducible exact potsherdref06_Live.mono _ _ _)
      | (with_reducible exact LeO.refl _)
      | (with_reducible exact LeO.none _)
      | (with_reducible refine LeO.ite ?_ ?_)
      | (with_reducible refine LeO.bind ?_ (fun _ => ?_))
      | exact ih0 _ _ _ _ _ _ _ _ _
      | exact ih1 _ _ _ _ _ _ _ _ _ _ _ _ _
      | exact ih2 _ _ _ _ _ _ _ _ _ _ _ _ _ _ _ _
      | exact ih3 _ _ _ _ _ _ _ _ _ _ _ _ _ _ _ _ _ _
      | exact ih4 _ _ _ _ _ _ _ _ _ _ _ _ _
      | exact place_Owners.mono _ _ _ _ _
      | exact potsherdlaw06_lives.mono _
      | exact potsherdref06_Live.mono _ _ _
      | exact LeO.none _
      | refine LeO.ite ?_ ?_
      | refine LeO.bind ?_ (fun _ => ?_)
set_option maxHeartbeats 8000000 in
set_option maxRecDepth 100000 in
theorem potsherdlaw06_PlaceOwners.calls (k : Nat) (a0_0 : Int) (a0_1 : Int) (a0_2 : Int) (a1 : Int) (a2_0 : ByteArray) (A2_1 : Option Addr) (c2_1 : Nat) (l2_1 : List (S97)) (a2_2 : Int) (a2_3 : Int) (A2_4 : Option Addr) (c2_4 : Nat) (l2_4 : List (List Int)) (A3 : Option Addr) (c3 : Nat) (l3 : List Bool) (r : Bool) (w : World) (hr2_1 : Kd.C k97 w A2_1 l2_1.length l2_1) (hc2_1 : l2_1.length ≤ c2_1) (hr2_4 : Kd.C (Kd.slice 3 (Kd.int .i64)) w A2_4 l2_4.length l2_4) (hc2_4 : l2_4.length ≤ c2_4) (hr3 : Kd.C Kd.bool w A3 l3.length l3) (hc3 : l3.length ≤ c3) (h : potsherdlaw06_PlaceOwners.f k a0_0 a0_1 a0_2 a1 a2_0 l2_1 a2_2 a2_3 l2_4 l3 = some r) (hT_ : Lib.Utf8Tabs 0 1 w) :
    Calls Tryd.prog 6 #[.agg #[.int .i64 a0_0, .int .i64 a0_1, .int .i64 a0_2], .int .i64 a1, .agg #[.string a2_0, .slice A2_1 l2_1.length c2_1, .int .u64 a2_2, .int .u64 a2_3, .slice A2_4 l2_4.length c2_4], .slice A3 l3.length c3] w fun e w' => e = .returned (.bool r) ∧ Below w.heap.size w w' := by
  have hu23 := Tryd.underlying23
  have hu54 := Tryd.underlying54
  have HR2_1 := Aside0.mk hr2_1
  have HC2_1 := Aside0.mk hc2_1
  clear hr2_1 hc2_1
  have HR2_4 := Aside0.mk hr2_4
  have HC2_4 := Aside0.mk hc2_4
  clear hr2_4 hc2_4
  have HR3 := Aside0.mk hr3
  have HC3 := Aside0.mk hc3
  clear hr3 hc3
  have HB := Aside0.mk (Below.refl w.heap.size w)
  have HT9 := Aside0.mk hT_
  clear hT_
  have H : ((potsherdlaw06_lives.f k).bind fun t247 => (if t247 = true then ((place_Owners.f k a0_0 a0_1 a0_2 a1).bind fun bt248 => (if bt248.2 = 0 then (if (bt248.1.length : Int) = a0_2 then (potsherdlaw06_PlaceOwners.l0 k l3 bt248.1 bt248.1 (bt248.1.length : Int) 0 a0_0 a0_1 a0_2 a2_0 l2_1 a2_2 a2_3 l2_4) else (some false)) else (potsherdlaw06_PlaceOwners.j1 k l3 a0_0 a0_1 a0_2 a2_0 l2_1 a2_2 a2_3 l2_4))) else (some false))) = some r := h
  clear h
  replace H := Option.bind_eq_some_iff.mp H
  obtain ⟨t247, A50, H⟩ := H
  replace H : (if t247 = true then ((place_Owners.f k a0_0 a0_1 a0_2 a1).bind fun bt248 => (if bt248.2 = 0 then (if (bt248.1.length : Int) = a0_2 then (potsherdlaw06_PlaceOwners.l0 k l3 bt248.1 bt248.1 (bt248.1.length : Int) 0 a0_0 a0_1 a0_2 a2_0 l2_1 a2_2 a2_3 l2_4) else (some false)) else (potsherdlaw06_PlaceOwners.j1 k l3 a0_0 a0_1 a0_2 a2_0 l2_1 a2_2 a2_3 l2_4))) else (some false)) = some r := H
  have A5 := Aside0.mk A50
  clear A50
  by_cases c6 : t247 = true
  · subst c6
    have H1 : ((place_Owners.f k a0_0 a0_1 a0_2 a1).bind fun bt248 => (if bt248.2 = 0 then (if (bt248.1.length : Int) = a0_2 then (potsherdlaw06_PlaceOwners.l0 k l3 bt248.1 bt248.1 (bt248.1.length : Int) 0 a0_0 a0_1 a0_2 a2_0 l2_1 a2_2 a2_3 l2_4) else (some false)) else (potsherdlaw06_PlaceOwners.j1 k l3 a0_0 a0_1 a0_2 a2_0 l2_1 a2_2 a2_3 l2_4))) = some r := by rw [if_pos rfl] at H; exact H
    clear H
    have H := H1
    clear H1
    replace H := Option.bind_eq_some_iff.mp H
    obtain ⟨⟨t248, t251⟩, A70, H⟩ := H
    replace H : (if t251 = 0 then (if (t248.length : Int) = a0_2 then (potsherdlaw06_PlaceOwners.l0 k l3 t248 t248 (t248.length : Int) 0 a0_0 a0_1 a0_2 a2_0 l2_1 a2_2 a2_3 l2_4) else (some false)) else (potsherdlaw06_PlaceOwners.j1 k l3 a0_0 a0_1 a0_2 a2_0 l2_1 a2_2 a2_3 l2_4)) = some r := H
    have A7 := Aside0.mk A70
    clear A70
    have HC8 := Aside0.mk H
    clear H
    go_enter Tryd.func6, Tryd.ntmps6
    go_upto_if 28 with (first | ((with_reducible refine gate_dst (N := 4) rfl ?_); (try (refine gate_guard (by rfl) ?_; dsimp only)); refine box_event ?hg (N := 4) ?hd (cs := #[.int .i64 a0_0, .int .i64 a0_1, .int .i64 a0_2]) (t := 23) ?hr ?_; (case hd => rfl); (case hg => rfl); (case hr => first | (go_simp; done) | (go_simp; rfl)); intro gb245 hg w9 hbox hb; have n0_ := Aside0.mk (below_step (by repeat (first | (with_reducible first | exact HB.out | apply below_alloc | apply pw_below_drewN | apply below_drew1) | exact HB.out)) hb); have n1_ := Aside0.mk (hbox); have n2_ := Aside0.mk ((by rw [hg]; exact (below_size (by repeat (first | (with_reducible first | exact HB.out | apply below_alloc | apply pw_below_drewN | apply below_drew1) | exact HB.out))) : w.heap.size ≤ gb245)); have n3_ := Aside0.mk ((by rw [hg]; exact (below_size (by repeat (first | (with_reducible first | exact HB.out | apply below_alloc | apply pw_below_drewN | apply below_drew1) | exact HB.out))) : w.heap.size ≤ gb245)); clear HB; have HB := n0_; have BK245 := n1_; have GW245 := n2_; have GE245 := n3_; clear n0_ n1_ n2_ n3_; clear hb hbox hg) | ((with_reducible refine gate_dst (N := 6) rfl ?_); (try (refine gate_guard (by rfl) ?_; dsimp only)); refine box_event ?hg (N := 6) ?hd (cs := #[.string a2_0, .slice A2_1 l2_1.length c2_1, .int .u64 a2_2, .int .u64 a2_3, .slice A2_4 l2_4.length c2_4]) (t := 54) ?hr ?_; (case hd => rfl); (case hg => rfl); (case hr => first | (go_simp; done) | (go_simp; rfl)); intro gb246 hg w10 hbox hb; have n0_ := Aside0.mk (blk_below (g := gb245) (o := .cells #[.int .i64 a0_0, .int .i64 a0_1, .int .i64 a0_2] 23 (0, 0)) (by (with_reducible repeat (first | refine blk_drewN ?_ _ | refine blk_drew ?_ | refine blk_alloc ?_ _)); exact BK245.out) hb); have n1_ := Aside0.mk (below_step (by repeat (first | (with_reducible first | exact HB.out | apply below_alloc | apply pw_below_drewN | apply below_drew1 | refine below_set ?_ GE245.out) | exact HB.out)) hb); have n2_ := Aside0.mk (hbox); have n3_ := Aside0.mk ((by rw [hg]; exact (below_size (by repeat (first | (with_reducible first | exact HB.out | apply below_alloc | apply pw_below_drewN | apply below_drew1 | refine below_set ?_ GE245.out) | exact HB.out))) : w.heap.size ≤ gb246)); have n4_ := Aside0.mk ((by rw [hg]; exact (below_size (by repeat (first | (with_reducible first | exact HB.out | apply below_alloc | apply pw_below_drewN | apply below_drew1 | refine below_set ?_ GE245.out) | exact HB.out))) : w.heap.size ≤ gb246)); have n5_ := Aside0.mk ((by rw [hg]; exact Nat.ne_of_lt (blk_lt (g := gb245) (o := .cells #[.int .i64 a0_0, .int .i64 a0_1, .int .i64 a0_2] 23 (0, 0)) (by (with_reducible repeat (first | refine blk_drewN ?_ _ | refine blk_drew ?_ | refine blk_alloc ?_ _)); exact BK245.out)) : gb245 ≠ gb246)); have n6_ := Aside0.mk ((by rw [hg]; exact Nat.ne_of_gt (blk_lt (g := gb245) (o := .cells #[.int .i64 a0_0, .int .i64 a0_1, .int .i64 a0_2] 23 (0, 0)) (by (with_reducible repeat (first | refine blk_drewN ?_ _ | refine blk_drew ?_ | refine blk_alloc ?_ _)); exact BK245.out)) : gb246 ≠ gb245)); clear BK245; clear HB; have BK245 := n0_; have HB := n1_; have BK246 := n2_; have GW246 := n3_; have GE246 := n4_; have NB245_246 := n5_; have NB246_245 := n6_; clear n0_ n1_ n2_ n3_ n4_ n5_ n6_; clear hb hbox hg) | ((with_reducible refine gate_callee (f := 10) rfl ?_); refine goesL_ (some 19) rfl rfl Tryd.func10 (by kernel_rfl) rfl #[] rfl (by (try simp only [List.map_toArray, List.map_cons, List.map_nil]); first | done | rfl | (simp only [List.length_drop, List.length_take]; rfl)) ?_; (with_reducible refine (potsherdlaw06_lives.calls k  true _ A5.out).mono ?_); rintro e w11 ⟨rfl, hb⟩; refine ⟨_, rfl, ?_⟩; have n0_ := Aside0.mk (blk_below (g := gb245) (o := .cells #[.int .i64 a0_0, .int .i64 a0_1, .int .i64 a0_2] 23 (0, 0)) (by (with_reducible repeat (first | refine blk_drewN ?_ _ | refine blk_drew ?_ | refine blk_alloc ?_ _)); exact BK245.out) hb); have n1_ := Aside0.mk (blk_below (g := gb246) (o := .cells #[.string a2_0, .slice A2_1 l2_1.length c2_1, .int .u64 a2_2, .int .u64 a2_3, .slice A2_4 l2_4.length c2_4] 54 (0, 0)) (by (with_reducible repeat (first | refine blk_drewN ?_ _ | refine blk_drew ?_ | refine blk_alloc ?_ _)); exact BK246.out) hb); have n2_ := Aside0.mk (below_step (by repeat (first | (with_reducible first | exact HB.out | apply below_alloc | apply pw_below_drewN | apply below_drew1 | refine below_set ?_ GE245.out | refine below_set ?_ GE246.out) | exact HB.out)) hb); clear BK245; clear BK246; clear HB; have BK245 := n0_; have BK246 := n1_; have HB := n2_; clear n0_ n1_ n2_; (try clear hb); (try clear hb2); (try clear hk); (try clear hi); have hnb12 := NB245_246.out; have hnc12 := NB246_245.out; have hcz13_0 : w11.cell? ⟨gb245, 0, none⟩ = some (.int .i64 a0_0) := (blk_cell BK245.out 0).trans rfl; have hcz13_1 : w11.cell? ⟨gb245, 1, none⟩ = some (.int .i64 a0_1) := (blk_cell BK245.out 1).trans rfl; have hcz13_2 : w11.cell? ⟨gb245, 2, none⟩ = some (.int .i64 a0_2) := (blk_cell BK245.out 2).trans rfl; have hfz13_0 := blk_frozen BK245.out 0; have hfz13_1 := blk_frozen BK245.out 1; have hfz13_2 := blk_frozen BK245.out 2) | ((with_reducible refine gate_callee (f := 16) rfl ?_); refine goesL_ (some 24) rfl rfl Tryd.func16 (by kernel_rfl) rfl #[.agg #[.int .i64 a0_0, .int .i64 a0_1, .int .i64 a0_2], .int .i64 a1] rfl (by (try simp only [List.map_toArray, List.map_cons, List.map_nil]); first | done | rfl | (simp only [List.length_drop, List.length_take]; rfl)) ?_; (with_reducible refine (place_Owners.calls k a0_0 a0_1 a0_2 a1 t248 t251 _ A7.out).mono ?_); rintro e w14 ⟨v249, rfl, ho0, hb⟩; refine ⟨_, rfl, ?_⟩; have n0_ := Aside0.mk (Kd.R_lower ho0 (below_size (by repeat (first | (with_reducible first | exact HB.out | apply below_alloc | apply pw_below_drewN | apply below_drew1 | refine below_set ?_ GE245.out | refine below_set ?_ GE246.out) | exact HB.out)))); have n1_ := Aside0.mk (blk_below (g := gb245) (o := .cells #[.int .i64 a0_0, .int .i64 a0_1, .int .i64 a0_2] 23 (0, 0)) (by (with_reducible repeat (first | refine blk_drewN ?_ _ | refine blk_drew ?_ | refine blk_alloc ?_ _)); exact BK245.out) hb); have n2_ := Aside0.mk (blk_below (g := gb246) (o := .cells #[.string a2_0, .slice A2_1 l2_1.length c2_1, .int .u64 a2_2, .int .u64 a2_3, .slice A2_4 l2_4.length c2_4] 54 (0, 0)) (by (with_reducible repeat (first | refine blk_drewN ?_ _ | refine blk_drew ?_ | refine blk_alloc ?_ _)); exact BK246.out) hb); have n3_ := Aside0.mk (below_step (by repeat (first | (with_reducible first | exact HB.out | apply below_alloc | apply pw_below_drewN | apply below_drew1 | refine below_set ?_ GE245.out | refine below_set ?_ GE246.out) | exact HB.out)) hb); clear BK245; clear BK246; clear HB; have HO250 := n0_; have BK245 := n1_; have BK246 := n2_; have HB := n3_; clear n0_ n1_ n2_ n3_; (try clear hb); (try clear hb2); (try clear hk); (try clear hi); (try clear ho0)))
    (try simp only [Act.put, List.setIfInBounds_toArray, List.set_cons_zero, List.set_cons_succ])
    go_cut [] (fun wc => ∃ (kq : Nat), Aside0 (potsherdlaw06_PlaceOwners.j1 kq l3 a0_0 a0_1 a0_2 a2_0 l2_1 a2_2 a2_3 l2_4 = some r) ∧ Aside0 (kq ≤ k) ∧ Aside0 (wc.heap[gb245]? = some (.cells #[.int .i64 a0_0, .int .i64 a0_1, .int .i64 a0_2] 23 (0, 0))) ∧ Aside0 (wc.heap[gb246]? = some (.cells #[.string a2_0, (.slice A2_1 l2_1.length c2_1), .int .u64 a2_2, .int .u64 a2_3, (.slice A2_4 l2_4.length c2_4)] 54 (0, 0))) ∧ Aside0 (Below w.heap.size w wc))
    case first =>
      have H := HC8.out
      clear HC8
      by_cases c15 : t251 = 0
      · rw [if_pos c15] at H
        have c15b0 : (t251 == 0) = true := beq_iff_eq.mpr c15
        have c15b1 : (t251 != 0) = false := bne_eq_false_iff_eq.mpr c15
        clear c15
        (first | rw [c15b0] | (simp only [i64_w, i32_w]; rw [c15b0]) | skip)
        by_cases c16 : (t248.length : Int) = a0_2
        · rw [if_pos c16] at H
          have c16b0 : ((t248.length : Int) == a0_2) = true := beq_iff_eq.mpr c16
          have c16b1 : ((t248.length : Int) != a0_2) = false := bne_eq_false_iff_eq.mpr c16
          clear c16
          have H' := Aside0.mk H
          clear H
          obtain ⟨Ao17, co17, eo17⟩ := Kd.R_slice HO250.out
          subst eo17
          have hnb18 := NB245_246.out
          have hnc18 := NB246_245.out
          have hcz19_0 : w14.cell? ⟨gb245, 0, none⟩ = some (.int .i64 a0_0) := (blk_cell BK245.out 0).trans rfl
          have hcz19_1 : w14.cell? ⟨gb245, 1, none⟩ = some (.int .i64 a0_1) := (blk_cell BK245.out 1).trans rfl
          have hcz19_2 : w14.cell? ⟨gb245, 2, none⟩ = some (.int .i64 a0_2) := (blk_cell BK245.out 2).trans rfl
          have hfz19_0 := blk_frozen BK245.out 0
          have hfz19_1 := blk_frozen BK245.out 1
          have hfz19_2 := blk_frozen BK245.out 2
          go_wp2
          go_loopg [36] k (fun kq v36 w' => ∃ (x36_1 : Int), v36 = .int .i64 x36_1 ∧ Aside0 (potsherdlaw06_PlaceOwners.l0 kq l3 t248 t248 (t248.length : Int) x36_1 a0_0 a0_1 a0_2 a2_0 l2_1 a2_2 a2_3 l2_4 = some r) ∧ Aside0 (kq ≤ k) ∧ Aside0 (Kd.R (Kd.int .i64) 3 w' w.heap.size (fun _ => True) (.slice Ao17 t248.length co17) t248) ∧ Aside0 (Kd.R (Kd.int .i64) 3 w' w.heap.size (fun _ => True) (.slice Ao17 t248.length co17) t248) ∧ Aside0 (w'.heap[gb245]? = some (.cells #[.int .i64 a0_0, .int .i64 a0_1, .int .i64 a0_2] 23 (0, 0))) ∧ Aside0 (w'.heap[gb246]? = some (.cells #[.string a2_0, (.slice A2_1 l2_1.length c2_1), .int .u64 a2_2, .int .u64 a2_3, (.slice A2_4 l2_4.length c2_4)] 54 (0, 0))) ∧ Aside0 (Below w.heap.size w w'))
          case atStart => exact ⟨(0), (by first | rfl | (simp; done) | (simp [*]; done)), H', ⟨Nat.le_refl _⟩, ⟨by (with_reducible repeat (first | apply Kd.R_alloc | apply Kd.R_drewN | apply Kd.R_drew)); exact HO250.out⟩, ⟨by (with_reducible repeat (first | apply Kd.R_alloc | apply Kd.R_drewN | apply Kd.R_drew)); exact HO250.out⟩, ⟨by (with_reducible repeat (first | refine blk_drewN ?_ _ | refine blk_drew ?_ | refine blk_alloc ?_ _)); exact BK245.out⟩, ⟨by (with_reducible repeat (first | refine blk_drewN ?_ _ | refine blk_drew ?_ | refine blk_alloc ?_ _)); exact BK246.out⟩, ⟨by repeat (first | (with_reducible first | exact HB.out | apply below_alloc | apply pw_below_drewN | apply below_drew1 | refine below_set ?_ GE245.out | refine below_set ?_ GE246.out) | exact HB.out)⟩⟩
          case round =>
            clear H'
            try clear c1
            try clear c2
            try clear p2
            try clear c3
            try clear c6
            try clear c10
            try clear c12
            try clear c15
            try clear c15b0
            try clear c15b1
            try clear c16
            try clear c16b0
            try clear c16b1
            try clear c18
            try clear hcz13_0
            try clear hcz13_1
            try clear hcz13_2
            try clear hcz19_0
            try clear hcz19_1
            try clear hcz19_2
            try clear hfz13_0
            try clear hfz13_1
            try clear hfz13_2
            try clear hfz19_0
            try clear hfz19_1
            try clear hfz19_2
            obtain ⟨x36_1, rfl, HA, HK1, HO_9, HO_34, BK245, BK246, HB⟩ := hrel
            cases gk with
            | zero => exact absurd HA.out (by simp [potsherdlaw06_PlaceOwners.l0])
            | succ k1 =>
              have H := HA.out
              clear HA
              simp only [potsherdlaw06_PlaceOwners.l0] at H
              by_cases c20 : x36_1 < (t248.length : Int)
              · rw [if_pos c20] at H
                have c20b0 : decide (x36_1 < (t248.length : Int)) = true := decide_eq_true c20
                clear c20
                by_cases c21 : 0 ≤ x36_1
                · rw [if_pos c21] at H
                  have c21b0 : decide (0 ≤ x36_1) = true := decide_eq_true c21
                  clear c21
                  by_cases c22 : x36_1 < (t248.length : Int)
                  · rw [if_pos c22] at H
                    have c22b0 : decide (x36_1 < (t248.length : Int)) = true := decide_eq_true c22
                    clear c22
                    by_cases c23 : (rd t248 x36_1) < 1
                    · rw [if_pos c23] at H
                      have c23b0 : decide ((rd t248 x36_1) < 1) = true := decide_eq_true c23
                      clear c23
                      obtain rfl := Option.some.inj H
                      have p252 : 0 ≤ (x36_1 : Int) := of_decide_eq_true (by first | (with_reducible assumption) | assumption)
                      have q252 : x36_1 < (t248.length : Int) := of_decide_eq_true (by first | (with_reducible assumption) | assumption)
                      obtain ⟨ad252, e252, hx252_0⟩ := Kd.at_int (Kd.R_reads' HO_34.out).2.2 x36_1 p252 q252
                      cases e252
                      replace p252 := eq_true p252
                      replace q252 := eq_true q252
                      go_wp2
                      go_ret
                      exact ⟨by first | rfl | (simp [errW_none, errW_some] <;> rfl) | (simp [*, errW_none, errW_some] <;> rfl), by repeat (first | (with_reducible first | exact HB.out | apply below_alloc | apply pw_below_drewN | apply below_drew1 | refine below_set ?_ GE245.out | refine below_set ?_ GE246.out) | exact HB.out)⟩
                    · rw [if_neg c23] at H
                      have c23b0 : decide ((rd t248 x36_1) < 1) = false := decide_eq_false c23
                      clear c23
                      by_cases c24 : (rd t248 x36_1) ≥ a0_0
                      · rw [if_pos c24] at H
                        have c24b0 : decide (a0_0 ≤ (rd t248 x36_1)) = true := decide_eq_true c24
                        clear c24
                        obtain rfl := Option.some.inj H
                        have p252 : 0 ≤ (x36_1 : Int) := of_decide_eq_true (by first | (with_reducible assumption) | assumption)
                        have q252 : x36_1 < (t248.length : Int) := of_decide_eq_true (by first | (with_reducible assumption) | assumption)
                        obtain ⟨ad252, e252, hx252_0⟩ := Kd.at_int (Kd.R_reads' HO_34.out).2.2 x36_1 p252 q252
                        cases e252
                        replace p252 := eq_true p252
                        replace q252 := eq_true q252
                        have hnb25 := NB245_246.out
                        have hnc25 := NB246_245.out
                        have hcz26_0 : wr.cell? ⟨gb245, 0, none⟩ = some (.int .i64 a0_0) := (blk_cell BK245.out 0).trans rfl
                        have hcz26_1 : wr.cell? ⟨gb245, 1, none⟩ = some (.int .i64 a0_1) := (blk_cell BK245.out 1).trans rfl
                        have hcz26_2 : wr.cell? ⟨gb245, 2, none⟩ = some (.int .i64 a0_2) := (blk_cell BK245.out 2).trans rfl
                        have hfz26_0 := blk_frozen BK245.out 0
                        have hfz26_1 := blk_frozen BK245.out 1
                        have hfz26_2 := blk_frozen BK245.out 2
                        go_wp2
                        go_ret
                        exact ⟨by first | rfl | (simp [errW_none, errW_some] <;> rfl) | (simp [*, errW_none, errW_some] <;> rfl), by repeat (first | (with_reducible first | exact HB.out | apply below_alloc | apply pw_below_drewN | apply below_drew1 | refine below_set ?_ GE245.out | refine below_set ?_ GE246.out) | exact HB.out)⟩
                      · rw [if_neg c24] at H
                        have c24b0 : decide (a0_0 ≤ (rd t248 x36_1)) = false := decide_eq_false c24
                        clear c24
                        by_cases c27 : x36_1 > 0
                        · rw [if_pos c27] at H
                          have c27b0 : decide (0 < x36_1) = true := decide_eq_true c27
                          clear c27
                          obtain ⟨ji28, hji28⟩ : ∃ j_ : Int, (wrap64 (x36_1 - 1)) = j_ := ⟨_, rfl⟩
                          replace H : (if 0 ≤ (ji28) then (if (ji28) < (t248.length : Int) then (if (rd t248 (ji28)) ≥ (rd t248 x36_1) then (some false) else (potsherdlaw06_PlaceOwners.l0 k1 l3 t248 t248 (t248.length : Int) (wrap64 (x36_1 + 1)) a0_0 a0_1 a0_2 a2_0 l2_1 a2_2 a2_3 l2_4)) else (none)) else (none)) = some r := by first | (rw [hji28] at H; exact H) | (simp only [hji28] at H ⊢; exact H)
                          have hji28w : (IntKind.i64.wrap (x36_1 - 1)) = ji28 := (i64_w _).trans hji28
                          by_cases c29 : 0 ≤ (ji28)
                          · rw [if_pos c29] at H
                            have c29b0 : decide (0 ≤ (ji28)) = true := decide_eq_true c29
                            clear c29
                            by_cases c30 : (ji28) < (t248.length : Int)
                            · rw [if_pos c30] at H
                              have c30b0 : decide ((ji28) < (t248.length : Int)) = true := decide_eq_true c30
                              clear c30
                              by_cases c31 : (rd t248 (ji28)) ≥ (rd t248 x36_1)
                              · rw [if_pos c31] at H
                                have c31b0 : decide ((rd t248 x36_1) ≤ (rd t248 (ji28))) = true := decide_eq_true c31
                                clear c31
                                obtain rfl := Option.some.inj H
                                have p252 : 0 ≤ (x36_1 : Int) := of_decide_eq_true (by first | (with_reducible assumption) | assumption)
                                have q252 : x36_1 < (t248.length : Int) := of_decide_eq_true (by first | (with_reducible assumption) | assumption)
                                obtain ⟨ad252, e252, hx252_0⟩ := Kd.at_int (Kd.R_reads' HO_34.out).2.2 x36_1 p252 q252
                                cases e252
                                replace p252 := eq_true p252
                                replace q252 := eq_true q252
                                have hnb32 := NB245_246.out
                                have hnc32 := NB246_245.out
                                have hcz33_0 : wr.cell? ⟨gb245, 0, none⟩ = some (.int .i64 a0_0) := (blk_cell BK245.out 0).trans rfl
                                have hcz33_1 : wr.cell? ⟨gb245, 1, none⟩ = some (.int .i64 a0_1) := (blk_cell BK245.out 1).trans rfl
                                have hcz33_2 : wr.cell? ⟨gb245, 2, none⟩ = some (.int .i64 a0_2) := (blk_cell BK245.out 2).trans rfl
                                have hfz33_0 := blk_frozen BK245.out 0
                                have hfz33_1 := blk_frozen BK245.out 1
                                have hfz33_2 := blk_frozen BK245.out 2
                                have p253 : 0 ≤ ((ji28) : Int) := of_decide_eq_true (by first | (with_reducible assumption) | assumption)
                                have q253 : (ji28) < (t248.length : Int) := of_decide_eq_true (by first | (with_reducible assumption) | assumption)
                                obtain ⟨ad253, e253, hx253_0⟩ := Kd.at_int (Kd.R_reads' HO_9.out).2.2 (ji28) p253 q253
                                obtain rfl : ad252 = ad253 := (by injection e253)
                                replace p253 := eq_true p253
                                replace q253 := eq_true q253
                                go_wp2
                                go_ret
                                exact ⟨by first | rfl | (simp [errW_none, errW_some] <;> rfl) | (simp only [← hji28]; first | rfl | (simp [errW_none, errW_some] <;> rfl)) | (simp [*, errW_none, errW_some] <;> rfl), by repeat (first | (with_reducible first | exact HB.out | apply below_alloc | apply pw_below_drewN | apply below_drew1 | refine below_set ?_ GE245.out | refine below_set ?_ GE246.out) | exact HB.out)⟩
                              · rw [if_neg c31] at H
                                have c31b0 : decide ((rd t248 x36_1) ≤ (rd t248 (ji28))) = false := decide_eq_false c31
                                clear c31
                                have H' := Aside0.mk H
                                clear H
                                have p252 : 0 ≤ (x36_1 : Int) := of_decide_eq_true (by first | (with_reducible assumption) | assumption)
                                have q252 : x36_1 < (t248.length : Int) := of_decide_eq_true (by first | (with_reducible assumption) | assumption)
                                obtain ⟨ad252, e252, hx252_0⟩ := Kd.at_int (Kd.R_reads' HO_34.out).2.2 x36_1 p252 q252
                                cases e252
                                replace p252 := eq_true p252
                                replace q252 := eq_true q252
                                have hnb34 := NB245_246.out
                                have hnc34 := NB246_245.out
                                have hcz35_0 : wr.cell? ⟨gb245, 0, none⟩ = some (.int .i64 a0_0) := (blk_cell BK245.out 0).trans rfl
                                have hcz35_1 : wr.cell? ⟨gb245, 1, none⟩ = some (.int .i64 a0_1) := (blk_cell BK245.out 1).trans rfl
                                have hcz35_2 : wr.cell? ⟨gb245, 2, none⟩ = some (.int .i64 a0_2) := (blk_cell BK245.out 2).trans rfl
                                have hfz35_0 := blk_frozen BK245.out 0
                                have hfz35_1 := blk_frozen BK245.out 1
                                have hfz35_2 := blk_frozen BK245.out 2
                                have p253 : 0 ≤ ((ji28) : Int) := of_decide_eq_true (by first | (with_reducible assumption) | assumption)
                                have q253 : (ji28) < (t248.length : Int) := of_decide_eq_true (by first | (with_reducible assumption) | assumption)
                                obtain ⟨ad253, e253, hx253_0⟩ := Kd.at_int (Kd.R_reads' HO_9.out).2.2 (ji28) p253 q253
                                obtain rfl : ad252 = ad253 := (by injection e253)
                                replace p253 := eq_true p253
                                replace q253 := eq_true q253
                                go_wp2
                                go_roundg k1
                                case measure => have := HK1.out; omega
                                case rel => exact ⟨(wrap64 (x36_1 + 1)), (by first | rfl | (simp; done) | (simp [*]; done)), H', ⟨by have := HK1.out; omega⟩, ⟨by (with_reducible repeat (first | apply Kd.R_alloc | apply Kd.R_drewN | apply Kd.R_drew)); exact HO_9.out⟩, ⟨by (with_reducible repeat (first | apply Kd.R_alloc | apply Kd.R_drewN | apply Kd.R_drew)); exact HO_34.out⟩, ⟨by (with_reducible repeat (first | refine blk_drewN ?_ _ | refine blk_drew ?_ | refine blk_alloc ?_ _)); exact BK245.out⟩, ⟨by (with_reducible repeat (first | refine blk_drewN ?_ _ | refine blk_drew ?_ | refine blk_alloc ?_ _)); exact BK246.out⟩, ⟨by repeat (first | (with_reducible first | exact HB.out | apply below_alloc | apply pw_below_drewN | apply below_drew1 | refine below_set ?_ GE245.out | refine below_set ?_ GE246.out) | exact HB.out)⟩⟩
                            · rw [if_neg c30] at H
                              exact absurd H (by simp)
                          · rw [if_neg c29] at H
                            exact absurd H (by simp)
                        · rw [if_neg c27] at H
                          have c27b0 : decide (0 < x36_1) = false := decide_eq_false c27
                          clear c27
                          have H' := Aside0.mk H
                          clear H
                          have p252 : 0 ≤ (x36_1 : Int) := of_decide_eq_true (by first | (with_reducible assumption) | assumption)
                          have q252 : x36_1 < (t248.length : Int) := of_decide_eq_true (by first | (with_reducible assumption) | assumption)
                          obtain ⟨ad252, e252, hx252_0⟩ := Kd.at_int (Kd.R_reads' HO_34.out).2.2 x36_1 p252 q252
                          cases e252
                          replace p252 := eq_true p252
                          replace q252 := eq_true q252
                          have hnb36 := NB245_246.out
                          have hnc36 := NB246_245.out
                          have hcz37_0 : wr.cell? ⟨gb245, 0, none⟩ = some (.int .i64 a0_0) := (blk_cell BK245.out 0).trans rfl
                          have hcz37_1 : wr.cell? ⟨gb245, 1, none⟩ = some (.int .i64 a0_1) := (blk_cell BK245.out 1).trans rfl
                          have hcz37_2 : wr.cell? ⟨gb245, 2, none⟩ = some (.int .i64 a0_2) := (blk_cell BK245.out 2).trans rfl
                          have hfz37_0 := blk_frozen BK245.out 0
                          have hfz37_1 := blk_frozen BK245.out 1
                          have hfz37_2 := blk_frozen BK245.out 2
                          go_wp2
                          go_roundg k1
                          case measure => have := HK1.out; omega
                          case rel => exact ⟨(wrap64 (x36_1 + 1)), (by first | rfl | (simp; done) | (simp [*]; done)), H', ⟨by have := HK1.out; omega⟩, ⟨by (with_reducible repeat (first | apply Kd.R_alloc | apply Kd.R_drewN | apply Kd.R_drew)); exact HO_9.out⟩, ⟨by (with_reducible repeat (first | apply Kd.R_alloc | apply Kd.R_drewN | apply Kd.R_drew)); exact HO_34.out⟩, ⟨by (with_reducible repeat (first | refine blk_drewN ?_ _ | refine blk_drew ?_ | refine blk_alloc ?_ _)); exact BK245.out⟩, ⟨by (with_reducible repeat (first | refine blk_drewN ?_ _ | refine blk_drew ?_ | refine blk_alloc ?_ _)); exact BK246.out⟩, ⟨by repeat (first | (with_reducible first | exact HB.out | apply below_alloc | apply pw_below_drewN | apply below_drew1 | refine below_set ?_ GE245.out | refine below_set ?_ GE246.out) | exact HB.out)⟩⟩
                  · rw [if_neg c22] at H
                    exact absurd H (by simp)
                · rw [if_neg c21] at H
                  exact absurd H (by simp)
              · rw [if_neg c20] at H
                have c20b0 : decide (x36_1 < (t248.length : Int)) = false := decide_eq_false c20
                clear c20
                have H' := Aside0.mk H
                clear H
                go_wp2
                go_meet
                case rel => exact ⟨_, H', ⟨by have := HK1.out; first | omega | exact Nat.le_refl _⟩, ⟨by (with_reducible repeat (first | refine blk_drewN ?_ _ | refine blk_drew ?_ | refine blk_alloc ?_ _)); exact BK245.out⟩, ⟨by (with_reducible repeat (first | refine blk_drewN ?_ _ | refine blk_drew ?_ | refine blk_alloc ?_ _)); exact BK246.out⟩, ⟨by repeat (first | (with_reducible first | exact HB.out | apply below_alloc | apply pw_below_drewN | apply below_drew1 | refine below_set ?_ GE245.out | refine below_set ?_ GE246.out) | exact HB.out)⟩⟩
        · rw [if_neg c16] at H
          have c16b0 : ((t248.length : Int) == a0_2) = false := beq_eq_false_iff_ne.mpr c16
          have c16b1 : ((t248.length : Int) != a0_2) = true := bne_iff_ne.mpr c16
          obtain rfl := Option.some.inj H
          obtain ⟨Ao38, co38, eo38⟩ := Kd.R_slice HO250.out
          subst eo38
          have hnb39 := NB245_246.out
          have hnc39 := NB246_245.out
          have hcz40_0 : w14.cell? ⟨gb245, 0, none⟩ = some (.int .i64 a0_0) := (blk_cell BK245.out 0).trans rfl
          have hcz40_1 : w14.cell? ⟨gb245, 1, none⟩ = some (.int .i64 a0_1) := (blk_cell BK245.out 1).trans rfl
          have hcz40_2 : w14.cell? ⟨gb245, 2, none⟩ = some (.int .i64 a0_2) := (blk_cell BK245.out 2).trans rfl
          have hfz40_0 := blk_frozen BK245.out 0
          have hfz40_1 := blk_frozen BK245.out 1
          have hfz40_2 := blk_frozen BK245.out 2
          go_wp2
          go_ret
          exact ⟨by first | rfl | (simp [errW_none, errW_some] <;> rfl) | (simp [*, errW_none, errW_some] <;> rfl), by repeat (first | (with_reducible first | exact HB.out | apply below_alloc | apply pw_below_drewN | apply below_drew1 | refine below_set ?_ GE245.out | refine below_set ?_ GE246.out) | exact HB.out)⟩
      · rw [if_neg c15] at H
        have c15b0 : (t251 == 0) = false := beq_eq_false_iff_ne.mpr c15
        have c15b1 : (t251 != 0) = true := bne_iff_ne.mpr c15
        (first | rw [c15b0] | (simp only [i64_w, i32_w]; rw [c15b0]) | skip)
        have H' := Aside0.mk H
        clear H
        go_wp2
        go_meet
        case rel => exact ⟨_, H', ⟨by first | omega | exact Nat.le_refl _⟩, ⟨by (with_reducible repeat (first | refine blk_drewN ?_ _ | refine blk_drew ?_ | refine blk_alloc ?_ _)); exact BK245.out⟩, ⟨by (with_reducible repeat (first | refine blk_drewN ?_ _ | refine blk_drew ?_ | refine blk_alloc ?_ _)); exact BK246.out⟩, ⟨by repeat (first | (with_reducible first | exact HB.out | apply below_alloc | apply pw_below_drewN | apply below_drew1 | refine below_set ?_ GE245.out | refine below_set ?_ GE246.out) | exact HB.out)⟩⟩
    case rest =>
      clear HC8
      try clear c1
      try clear c2
      try clear p2
      try clear q2
      try clear hx2
      try clear c3
      try clear c6
      try clear p6
      try clear c10
      try clear c12
      try clear c15
      try clear c15b0
      try clear c15b1
      try clear c16
      try clear c16b0
      try clear c16b1
      try clear c18
      try clear c20
      try clear c20b0
      try clear c21
      try clear c21b0
      try clear c22
      try clear c22b0
      try clear c23
      try clear c23b0
      try clear c24
      try clear c24b0
      try clear c25
      try clear p25
      try clear q25
      try clear hx25
      try clear c27
      try clear c27b0
      try clear c29
      try clear c29b0
      try clear c30
      try clear c30b0
      try clear c31
      try clear c31b0
      try clear c32
      try clear c34
      try clear c36
      try clear c39
      try clear hcz13_0
      try clear hcz13_1
      try clear hcz13_2
      try clear hcz19_0
      try clear hcz19_1
      try clear hcz19_2
      try clear hcz26_0
      try clear hcz26_1
      try clear hcz26_2
      try clear hcz33_0
      try clear hcz33_1
      try clear hcz33_2
      try clear hcz35_0
      try clear hcz35_1
      try clear hcz35_2
      try clear hcz37_0
      try clear hcz37_1
      try clear hcz37_2
      try clear hcz40_0
      try clear hcz40_1
      try clear hcz40_2
      try clear hfz13_0
      try clear hfz13_1
      try clear hfz13_2
      try clear hfz19_0
      try clear hfz19_1
      try clear hfz19_2
      try clear hfz26_0
      try clear hfz26_1
      try clear hfz26_2
      try clear hfz33_0
      try clear hfz33_1
      try clear hfz33_2
      try clear hfz35_0
      try clear hfz35_1
      try clear hfz35_2
      try clear hfz37_0
      try clear hfz37_1
      try clear hfz37_2
      try clear hfz40_0
      try clear hfz40_1
      try clear hfz40_2
      try clear hx252_0
      try clear hx253_0
      try clear p2
      try clear p252
      try clear p253
      try clear q252
      try clear q253
      obtain ⟨kq, HA, HJ7, BK245, BK246, HB⟩ := hcut
      cases kq with
      | zero => exact absurd HA.out (by simp [potsherdlaw06_PlaceOwners.j1])
      | succ kj7 =>
        have H := HA.out
        clear HA
        simp only [potsherdlaw06_PlaceOwners.j1] at H
        replace H := Option.bind_eq_some_iff.mp H
        obtain ⟨⟨t254, t257⟩, A410, H⟩ := H
        replace H : (if t257 = 0 then (potsherdlaw06_PlaceOwners.l1 kj7 l3 t254 t254 (t254.length : Int) 0 a0_0 a0_1 a0_2 a2_0 l2_1 a2_2 a2_3 l2_4) else (some ((t254.length : Int) == 0))) = some r := H
        have A41 := Aside0.mk A410
        clear A410
        by_cases c42 : t257 = 0
        · rw [if_pos c42] at H
          have c42b0 : (t257 == 0) = true := beq_iff_eq.mpr c42
          have c42b1 : (t257 != 0) = false := bne_eq_false_iff_eq.mpr c42
          clear c42
          have H' := Aside0.mk H
          clear H
          have hnb43 := NB245_246.out
          have hnc43 := NB246_245.out
          have hcz44_0 : wc.cell? ⟨gb245, 0, none⟩ = some (.int .i64 a0_0) := (blk_cell BK245.out 0).trans rfl
          have hcz44_1 : wc.cell? ⟨gb245, 1, none⟩ = some (.int .i64 a0_1) := (blk_cell BK245.out 1).trans rfl
          have hcz44_2 : wc.cell? ⟨gb245, 2, none⟩ = some (.int .i64 a0_2) := (blk_cell BK245.out 2).trans rfl
          have hfz44_0 := blk_frozen BK245.out 0
          have hfz44_1 := blk_frozen BK245.out 1
          have hfz44_2 := blk_frozen BK245.out 2
          have hcz45_0 : wc.cell? ⟨gb246, 0, none⟩ = some (.string a2_0) := (blk_cell BK246.out 0).trans rfl
          have hcz45_1 : wc.cell? ⟨gb246, 1, none⟩ = some (.slice A2_1 l2_1.length c2_1) := (blk_cell BK246.out 1).trans rfl
          have hcz45_2 : wc.cell? ⟨gb246, 2, none⟩ = some (.int .u64 a2_2) := (blk_cell BK246.out 2).trans rfl
          have hcz45_3 : wc.cell? ⟨gb246, 3, none⟩ = some (.int .u64 a2_3) := (blk_cell BK246.out 3).trans rfl
          have hcz45_4 : wc.cell? ⟨gb246, 4, none⟩ = some (.slice A2_4 l2_4.length c2_4) := (blk_cell BK246.out 4).trans rfl
          have hfz45_0 := blk_frozen BK246.out 0
          have hfz45_1 := blk_frozen BK246.out 1
          have hfz45_2 := blk_frozen BK246.out 2
          have hfz45_3 := blk_frozen BK246.out 3
          have hfz45_4 := blk_frozen BK246.out 4
          go_wp2_with (first | ((with_reducible refine gate_callee (f := 22) rfl ?_); refine goesL_ (some 67) rfl rfl Tryd.func22 (by kernel_rfl) rfl #[.agg #[.int .i64 a0_0, .int .i64 a0_1, .int .i64 a0_2], .agg #[.string a2_0, .slice A2_1 l2_1.length c2_1, .int .u64 a2_2, .int .u64 a2_3, .slice A2_4 l2_4.length c2_4], .slice A3 l3.length c3] rfl (by (try simp only [List.map_toArray, List.map_cons, List.map_nil]); first | done | rfl | (simp only [List.length_drop, List.length_take]; rfl)) ?_; (with_reducible refine (place_Pick.calls a0_0 a0_1 a0_2 a2_0 _ _ l2_1 a2_2 a2_3 _ _ l2_4 _ _ l3 t254 t257 _ ?side1 ?side2 ?side3 ?side4 ?side5 ?side6 A41.out ?sideT).mono ?_); (case sideT => exact Utf8Tabs_below HT9.out (by repeat (first | (with_reducible first | exact HB.out | apply below_alloc | apply pw_below_drewN | apply below_drew1 | refine below_set ?_ GE245.out | refine below_set ?_ GE246.out) | exact HB.out))); (case side1 => repeat (first | exact (Kd.C_below HR2_1.out HB.out) | (with_reducible refine Kd.C_alloc ?_ _) | (with_reducible refine Kd.C_drewN ?_ _) | (with_reducible refine Kd.C_drew ?_))); (case side2 => exact HC2_1.out); (case side3 => repeat (first | exact (Kd.C_below HR2_4.out HB.out) | (with_reducible refine Kd.C_alloc ?_ _) | (with_reducible refine Kd.C_drewN ?_ _) | (with_reducible refine Kd.C_drew ?_))); (case side4 => exact HC2_4.out); (case side5 => repeat (first | exact (Kd.C_below HR3.out HB.out) | (with_reducible refine Kd.C_alloc ?_ _) | (with_reducible refine Kd.C_drewN ?_ _) | (with_reducible refine Kd.C_drew ?_))); (case side6 => exact HC3.out); rintro e w46 ⟨v255, rfl, ho0, hb⟩; refine ⟨_, rfl, ?_⟩; have n0_ := Aside0.mk (Kd.R_lower ho0 (below_size (by repeat (first | (with_reducible first | exact HB.out | apply below_alloc | apply pw_below_drewN | apply below_drew1 | refine below_set ?_ GE245.out | refine below_set ?_ GE246.out) | exact HB.out)))); have n1_ := Aside0.mk (blk_below (g := gb245) (o := .cells #[.int .i64 a0_0, .int .i64 a0_1, .int .i64 a0_2] 23 (0, 0)) (by (with_reducible repeat (first | refine blk_drewN ?_ _ | refine blk_drew ?_ | refine blk_alloc ?_ _)); exact BK245.out) hb); have n2_ := Aside0.mk (blk_below (g := gb246) (o := .cells #[.string a2_0, .slice A2_1 l2_1.length c2_1, .int .u64 a2_2, .int .u64 a2_3, .slice A2_4 l2_4.length c2_4] 54 (0, 0)) (by (with_reducible repeat (first | refine blk_drewN ?_ _ | refine blk_drew ?_ | refine blk_alloc ?_ _)); exact BK246.out) hb); have n3_ := Aside0.mk (below_step (by repeat (first | (with_reducible first | exact HB.out | apply below_alloc | apply pw_below_drewN | apply below_drew1 | refine below_set ?_ GE245.out | refine below_set ?_ GE246.out) | exact HB.out)) hb); clear BK245; clear BK246; clear HB; have HO256 := n0_; have BK245 := n1_; have BK246 := n2_; have HB := n3_; clear n0_ n1_ n2_ n3_; (try clear hb); (try clear hb2); (try clear hk); (try clear hi); (try clear ho0); obtain ⟨Ao47, co47, eo47⟩ := Kd.R_slice HO256.out; subst eo47))
          go_loopg [77] kj7 (fun kq v77 w' => ∃ (x77_2 : Int), v77 = .int .i64 x77_2 ∧ Aside0 (potsherdlaw06_PlaceOwners.l1 kq l3 t254 t254 (t254.length : Int) x77_2 a0_0 a0_1 a0_2 a2_0 l2_1 a2_2 a2_3 l2_4 = some r) ∧ Aside0 (kq ≤ kj7) ∧ Aside0 (Kd.R (Kd.int .i64) 3 w' w.heap.size (fun _ => True) (.slice Ao47 t254.length co47) t254) ∧ Aside0 (Kd.R (Kd.int .i64) 3 w' w.heap.size (fun _ => True) (.slice Ao47 t254.length co47) t254) ∧ Aside0 (w'.heap[gb245]? = some (.cells #[.int .i64 a0_0, .int .i64 a0_1, .int .i64 a0_2] 23 (0, 0))) ∧ Aside0 (w'.heap[gb246]? = some (.cells #[.string a2_0, (.slice A2_1 l2_1.length c2_1), .int .u64 a2_2, .int .u64 a2_3, (.slice A2_4 l2_4.length c2_4)] 54 (0, 0))) ∧ Aside0 (Below w.heap.size w w'))
          case atStart => exact ⟨(0), (by first | rfl | (simp; done) | (simp [*]; done)), H', ⟨Nat.le_refl _⟩, ⟨by (with_reducible repeat (first | apply Kd.R_alloc | apply Kd.R_drewN | apply Kd.R_drew)); exact HO256.out⟩, ⟨by (with_reducible repeat (first | apply Kd.R_alloc | apply Kd.R_drewN | apply Kd.R_drew)); exact HO256.out⟩, ⟨by (with_reducible repeat (first | refine blk_drewN ?_ _ | refine blk_drew ?_ | refine blk_alloc ?_ _)); exact BK245.out⟩, ⟨by (with_reducible repeat (first | refine blk_drewN ?_ _ | refine blk_drew ?_ | refine blk_alloc ?_ _)); exact BK246.out⟩, ⟨by repeat (first | (with_reducible first | exact HB.out | apply below_alloc | apply pw_below_drewN | apply below_drew1 | refine below_set ?_ GE245.out | refine below_set ?_ GE246.out) | exact HB.out)⟩⟩
          case round =>
            clear H'
            try clear c1
            try clear c2
            try clear p2
            try clear q2
            try clear hx2
            try clear c3
            try clear c4
            try clear c6
            try clear p6
            try clear c10
            try clear c12
            try clear c15
            try clear c15b0
            try clear c15b1
            try clear c16
            try clear c16b0
            try clear c16b1
            try clear c18
            try clear c20
            try clear c20b0
            try clear c21
            try clear c21b0
            try clear c22
            try clear c22b0
            try clear c23
            try clear c23b0
            try clear c24
            try clear c24b0
            try clear c25
            try clear p25
            try clear q25
            try clear hx25
            try clear c27
            try clear c27b0
            try clear c29
            try clear c29b0
            try clear c30
            try clear c30b0
            try clear c31
            try clear c31b0
            try clear c32
            try clear c34
            try clear c36
            try clear c39
            try clear c42
            try clear c42b0
            try clear c42b1
            try clear c43
            try clear hcz13_0
            try clear hcz13_1
            try clear hcz13_2
            try clear hcz19_0
            try clear hcz19_1
            try clear hcz19_2
            try clear hcz26_0
            try clear hcz26_1
            try clear hcz26_2
            try clear hcz33_0
            try clear hcz33_1
            try clear hcz33_2
            try clear hcz35_0
            try clear hcz35_1
            try clear hcz35_2
            try clear hcz37_0
            try clear hcz37_1
            try clear hcz37_2
            try clear hcz40_0
            try clear hcz40_1
            try clear hcz40_2
            try clear hcz44_0
            try clear hcz44_1
            try clear hcz44_2
            try clear hcz45_0
            try clear hcz45_1
            try clear hcz45_2
            try clear hcz45_3
            try clear hcz45_4
            try clear hfz13_0
            try clear hfz13_1
            try clear hfz13_2
            try clear hfz19_0
            try clear hfz19_1
            try clear hfz19_2
            try clear hfz26_0
            try clear hfz26_1
            try clear hfz26_2
            try clear hfz33_0
            try clear hfz33_1
            try clear hfz33_2
            try clear hfz35_0
            try clear hfz35_1
            try clear hfz35_2
            try clear hfz37_0
            try clear hfz37_1
            try clear hfz37_2
            try clear hfz40_0
            try clear hfz40_1
            try clear hfz40_2
            try clear hfz44_0
            try clear hfz44_1
            try clear hfz44_2
            try clear hfz45_0
            try clear hfz45_1
            try clear hfz45_2
            try clear hfz45_3
            try clear hfz45_4
            try clear hx252_0
            try clear hx253_0
            try clear p2
            try clear p25
            try clear p252
            try clear p253
            try clear p6
            try clear q2
            try clear q25
            try clear q252
            try clear q253
            obtain ⟨x77_2, rfl, HA, HK2, HO_13, HO_75, BK245, BK246, HB⟩ := hrel
            cases gk with
            | zero => exact absurd HA.out (by simp [potsherdlaw06_PlaceOwners.l1])
            | succ k2 =>
              have H := HA.out
              clear HA
              simp only [potsherdlaw06_PlaceOwners.l1] at H
              by_cases c48 : x77_2 < (t254.length : Int)
              · rw [if_pos c48] at H
                have c48b0 : decide (x77_2 < (t254.length : Int)) = true := decide_eq_true c48
                clear c48
                by_cases c49 : 0 ≤ x77_2
                · rw [if_pos c49] at H
                  have c49b0 : decide (0 ≤ x77_2) = true := decide_eq_true c49
                  clear c49
                  by_cases c50 : x77_2 < (t254.length : Int)
                  · rw [if_pos c50] at H
                    have c50b0 : decide (x77_2 < (t254.length : Int)) = true := decide_eq_true c50
                    clear c50
                    have HC51 := Aside0.mk H
                    clear H
                    have p258 : 0 ≤ (x77_2 : Int) := of_decide_eq_true (by first | (with_reducible assumption) | assumption)
                    have q258 : x77_2 < (t254.length : Int) := of_decide_eq_true (by first | (with_reducible assumption) | assumption)
                    obtain ⟨ad258, e258, hx258_0⟩ := Kd.at_int (Kd.R_reads' HO_75.out).2.2 x77_2 p258 q258
                    cases e258
                    replace p258 := eq_true p258
                    replace q258 := eq_true q258
                    go_upto_region 19 with (fail)
                    go_cut [103] (fun v103 wc => ∃ (kq : Nat) (x103_50 : Bool), v103 = .bool x103_50 ∧ Aside0 (potsherdlaw06_PlaceOwners.j3 kq l3 t254 x77_2 (rd t254 x77_2) t254 (t254.length : Int) x77_2 x103_50 a0_0 a0_1 a0_2 a2_0 l2_1 a2_2 a2_3 l2_4 = some r) ∧ Aside0 (kq ≤ k2) ∧ Aside0 (Kd.R (Kd.int .i64) 3 wc w.heap.size (fun _ => True) (.slice (some ad258) t254.length co47) t254) ∧ Aside0 (Kd.R (Kd.int .i64) 3 wc w.heap.size (fun _ => True) (.slice (some ad258) t254.length co47) t254) ∧ Aside0 (wc.heap[gb245]? = some (.cells #[.int .i64 a0_0, .int .i64 a0_1, .int .i64 a0_2] 23 (0, 0))) ∧ Aside0 (wc.heap[gb246]? = some (.cells #[.string a2_0, (.slice A2_1 l2_1.length c2_1), .int .u64 a2_2, .int .u64 a2_3, (.slice A2_4 l2_4.length c2_4)] 54 (0, 0))) ∧ Aside0 (Below w.heap.size w wc))
                    case first =>
                      have H := HC51.out
                      clear HC51
                      by_cases c52 : (rd t254 x77_2) ≥ (l3.length : Int)
                      · rw [if_pos c52] at H
                        have c52b0 : decide ((l3.length : Int) ≤ (rd t254 x77_2)) = true := decide_eq_true c52
                        clear c52
                        (first | rw [c52b0] | (simp only [i64_w, i32_w]; rw [c52b0]) | skip)
                        have H' := Aside0.mk H
                        clear H
                        go_wp2
                        go_meet
                        case rel => exact ⟨_, (true), (by first | rfl | (simp; done) | (simp [*]; done)), H', ⟨by have := HJ7.out; have := HK2.out; first | omega | exact Nat.le_refl _⟩, ⟨by (with_reducible repeat (first | apply Kd.R_alloc | apply Kd.R_drewN | apply Kd.R_drew)); exact HO_13.out⟩, ⟨by (with_reducible repeat (first | apply Kd.R_alloc | apply Kd.R_drewN | apply Kd.R_drew)); exact HO_75.out⟩, ⟨by (with_reducible repeat (first | refine blk_drewN ?_ _ | refine blk_drew ?_ | refine blk_alloc ?_ _)); exact BK245.out⟩, ⟨by (with_reducible repeat (first | refine blk_drewN ?_ _ | refine blk_drew ?_ | refine blk_alloc ?_ _)); exact BK246.out⟩, ⟨by repeat (first | (with_reducible first | exact HB.out | apply below_alloc | apply pw_below_drewN | apply below_drew1 | refine below_set ?_ GE245.out | refine below_set ?_ GE246.out) | exact HB.out)⟩⟩
                      · rw [if_neg c52] at H
                        have c52b0 : decide ((l3.length : Int) ≤ (rd t254 x77_2)) = false := decide_eq_false c52
                        clear c52
                        (first | rw [c52b0] | (simp only [i64_w, i32_w]; rw [c52b0]) | skip)
                        by_cases c53 : 0 ≤ (rd t254 x77_2)
                        · rw [if_pos c53] at H
                          have c53b0 : decide (0 ≤ (rd t254 x77_2)) = true := decide_eq_true c53
                          clear c53
                          by_cases c54 : (rd t254 x77_2) < (l3.length : Int)
                          · rw [if_pos c54] at H
                            have c54b0 : decide ((rd t254 x77_2) < (l3.length : Int)) = true := decide_eq_true c54
                            clear c54
                            obtain ⟨bq55, hbq55⟩ : ∃ b_ : Bool, b_ = (rdOf false l3 (rd t254 x77_2)) := ⟨_, rfl⟩
                            replace H : (if (bq55 = true) then (if x77_2 < (l2_4.length : Int) then ((potsherdref06_Live.f k2 (rd_L7 l2_4 x77_2) l3).bind fun t261 => (potsherdlaw06_PlaceOwners.j3 k2 l3 t254 x77_2 (rd t254 x77_2) t254 (t254.length : Int) x77_2 ((t261.length : Int) == 0) a0_0 a0_1 a0_2 a2_0 l2_1 a2_2 a2_3 l2_4)) else (none)) else (potsherdlaw06_PlaceOwners.j3 k2 l3 t254 x77_2 (rd t254 x77_2) t254 (t254.length : Int) x77_2 true a0_0 a0_1 a0_2 a2_0 l2_1 a2_2 a2_3 l2_4)) = some r := by rw [← hbq55] at H; exact H
                            have Nbq55 := Aside0.mk hbq55
                            clear hbq55
                            by_cases c56 : (bq55 = true)
                            · subst c56
                              have H1 : (if x77_2 < (l2_4.length : Int) then ((potsherdref06_Live.f k2 (rd_L7 l2_4 x77_2) l3).bind fun t261 => (potsherdlaw06_PlaceOwners.j3 k2 l3 t254 x77_2 (rd t254 x77_2) t254 (t254.length : Int) x77_2 ((t261.length : Int) == 0) a0_0 a0_1 a0_2 a2_0 l2_1 a2_2 a2_3 l2_4)) else (none)) = some r := by rw [if_pos rfl] at H; exact H
                              clear H
                              have H := H1
                              clear H1
                              by_cases c57 : x77_2 < (l2_4.length : Int)
                              · rw [if_pos c57] at H
                                have c57b0 : decide (x77_2 < (l2_4.length : Int)) = true := decide_eq_true c57
                                clear c57
                                replace H := Option.bind_eq_some_iff.mp H
                                obtain ⟨t261, A580, H⟩ := H
                                replace H : (potsherdlaw06_PlaceOwners.j3 k2 l3 t254 x77_2 (rd t254 x77_2) t254 (t254.length : Int) x77_2 ((t261.length : Int) == 0) a0_0 a0_1 a0_2 a2_0 l2_1 a2_2 a2_3 l2_4) = some r := H
                                have A58 := Aside0.mk A580
                                clear A580
                                have H' := Aside0.mk H
                                clear H
                                have p259 : 0 ≤ ((rd t254 x77_2) : Int) := of_decide_eq_true (by first | (with_reducible assumption) | assumption)
                                have q259 : (rd t254 x77_2) < (l3.length : Int) := of_decide_eq_true (by first | (with_reducible assumption) | assumption)
                                obtain ⟨ad259, e259, hx259_0⟩ := Kd.at_bool HR3.out (rd t254 x77_2) p259 q259
                                (try rw [← Nbq55.out] at hx259_0)
                                cases e259
                                replace hx259_0 := (HB.out.cell (World.block_lt_of_cell? w _ hx259_0)).trans hx259_0
                                replace p259 := eq_true p259
                                replace q259 := eq_true q259
                                have hnb59 := NB246_245.out
                                have hnc59 := NB245_246.out
                                have hcz60_0 : wr.cell? ⟨gb246, 0, none⟩ = some (.string a2_0) := (blk_cell BK246.out 0).trans rfl
                                have hcz60_1 : wr.cell? ⟨gb246, 1, none⟩ = some (.slice A2_1 l2_1.length c2_1) := (blk_cell BK246.out 1).trans rfl
                                have hcz60_2 : wr.cell? ⟨gb246, 2, none⟩ = some (.int .u64 a2_2) := (blk_cell BK246.out 2).trans rfl
                                have hcz60_3 : wr.cell? ⟨gb246, 3, none⟩ = some (.int .u64 a2_3) := (blk_cell BK246.out 3).trans rfl
                                have hcz60_4 : wr.cell? ⟨gb246, 4, none⟩ = some (.slice A2_4 l2_4.length c2_4) := (blk_cell BK246.out 4).trans rfl
                                have hfz60_0 := blk_frozen BK246.out 0
                                have hfz60_1 := blk_frozen BK246.out 1
                                have hfz60_2 := blk_frozen BK246.out 2
                                have hfz60_3 := blk_frozen BK246.out 3
                                have hfz60_4 := blk_frozen BK246.out 4
                                have p260 : 0 ≤ (x77_2 : Int) := of_decide_eq_true (by first | (with_reducible assumption) | assumption)
                                have q260 : x77_2 < (l2_4.length : Int) := of_decide_eq_true (by first | (with_reducible assumption) | assumption)
                                obtain ⟨ad260, A260_0, c260_0, e260, hx260_0, hl260_0, hi260_0⟩ := at_L7 HR2_4.out x77_2 p260 q260
                                cases e260
                                replace hx260_0 := (HB.out.cell (World.block_lt_of_cell? w _ hx260_0)).trans hx260_0
                                have HR260_0 := Aside0.mk hi260_0
                                have HC260_0 := Aside0.mk hl260_0
                                clear hi260_0 hl260_0
                                replace p260 := eq_true p260
                                replace q260 := eq_true q260
                                go_wp2_with (first | (go_at_call 26; (with_reducible refine (potsherdref06_Live.calls k2 _ _ (rd_L7 l2_4 x77_2) _ _ l3 t261 _ ?side1 ?side2 ?side3 ?side4 A58.out).mono ?_); (case side1 => repeat (first | exact (Kd.C_below HR260_0.out HB.out) | (with_reducible refine Kd.C_alloc ?_ _) | (with_reducible refine Kd.C_drewN ?_ _) | (with_reducible refine Kd.C_drew ?_))); (case side2 => exact HC260_0.out); (case side3 => repeat (first | exact (Kd.C_below HR3.out HB.out) | (with_reducible refine Kd.C_alloc ?_ _) | (with_reducible refine Kd.C_drewN ?_ _) | (with_reducible refine Kd.C_drew ?_))); (case side4 => exact HC3.out); rintro e w61 ⟨v262, rfl, ho0, hb⟩; have n0_ := Aside0.mk (Kd.R_elder' (by (with_reducible repeat (first | apply Kd.R_alloc | apply Kd.R_drewN | apply Kd.R_drew)); exact HO_13.out) (Kd.R_base ho0) hb); have n1_ := Aside0.mk (Kd.R_elder' (by (with_reducible repeat (first | apply Kd.R_alloc | apply Kd.R_drewN | apply Kd.R_drew)); exact HO_75.out) (Kd.R_base ho0) hb); have n2_ := Aside0.mk (Kd.R_lower (Kd.R_new' (Kd.R_new' ho0 (Kd.R_lt (by (with_reducible repeat (first | apply Kd.R_alloc | apply Kd.R_drewN | apply Kd.R_drew)); exact HO_13.out))) (Kd.R_lt (by (with_reducible repeat (first | apply Kd.R_alloc | apply Kd.R_drewN | apply Kd.R_drew)); exact HO_75.out))) (below_size (by repeat (first | (with_reducible first | exact HB.out | apply below_alloc | apply pw_below_drewN | apply below_drew1 | refine below_set ?_ GE245.out | refine below_set ?_ GE246.out) | exact HB.out)))); have n3_ := Aside0.mk (blk_below (g := gb245) (o := .cells #[.int .i64 a0_0, .int .i64 a0_1, .int .i64 a0_2] 23 (0, 0)) (by (with_reducible repeat (first | refine blk_drewN ?_ _ | refine blk_drew ?_ | refine blk_alloc ?_ _)); exact BK245.out) hb); have n4_ := Aside0.mk (blk_below (g := gb246) (o := .cells #[.string a2_0, .slice A2_1 l2_1.length c2_1, .int .u64 a2_2, .int .u64 a2_3, .slice (some ad260) l2_4.length c2_4] 54 (0, 0)) (by (with_reducible repeat (first | refine blk_drewN ?_ _ | refine blk_drew ?_ | refine blk_alloc ?_ _)); exact BK246.out) hb); have n5_ := Aside0.mk (below_step (by repeat (first | (with_reducible first | exact HB.out | apply below_alloc | apply pw_below_drewN | apply below_drew1 | refine below_set ?_ GE245.out | refine below_set ?_ GE246.out) | exact HB.out)) hb); clear HO_13; clear HO_75; clear BK245; clear BK246; clear HB; have HO_13 := n0_; have HO_75 := n1_; have HO263 := n2_; have BK245 := n3_; have BK246 := n4_; have HB := n5_; clear n0_ n1_ n2_ n3_ n4_ n5_; (try clear hb); (try clear hb2); (try clear hk); (try clear hi); (try clear ho0); obtain ⟨Ao62, co62, eo62⟩ := Kd.R_slice HO263.out; subst eo62))
                                go_meet
                                case rel => exact ⟨_, (((t261.length : Int) == 0)), (by first | rfl | (simp; done) | (simp [*]; done)), H', ⟨by have := HJ7.out; have := HK2.out; first | omega | exact Nat.le_refl _⟩, ⟨by (with_reducible repeat (first | apply Kd.R_alloc | apply Kd.R_drewN | apply Kd.R_drew)); exact Kd.R_mono HO_13.out (fun _ hk => trivial)⟩, ⟨by (with_reducible repeat (first | apply Kd.R_alloc | apply Kd.R_drewN | apply Kd.R_drew)); exact Kd.R_mono HO_75.out (fun _ hk => trivial)⟩, ⟨by (with_reducible repeat (first | refine blk_drewN ?_ _ | refine blk_drew ?_ | refine blk_alloc ?_ _)); exact BK245.out⟩, ⟨by (with_reducible repeat (first | refine blk_drewN ?_ _ | refine blk_drew ?_ | refine blk_alloc ?_ _)); exact BK246.out⟩, ⟨by repeat (first | (with_reducible first | exact HB.out | apply below_alloc | apply pw_below_drewN | apply below_drew1 | refine below_set ?_ GE245.out | refine below_set ?_ GE246.out) | exact HB.out)⟩⟩
                              · rw [if_neg c57] at H
                                exact absurd H (by simp)
                            · replace c56 := Bool.eq_false_iff.mpr c56
                              subst c56
                              have H1 : (potsherdlaw06_PlaceOwners.j3 k2 l3 t254 x77_2 (rd t254 x77_2) t254 (t254.length : Int) x77_2 true a0_0 a0_1 a0_2 a2_0 l2_1 a2_2 a2_3 l2_4) = some r := by rw [if_neg (show ¬ (false = true) by decide)] at H; exact H
                              clear H
                              have H := H1
                              clear H1
                              have H' := Aside0.mk H
                              clear H
                              have p259 : 0 ≤ ((rd t254 x77_2) : Int) := of_decide_eq_true (by first | (with_reducible assumption) | assumption)
                              have q259 : (rd t254 x77_2) < (l3.length : Int) := of_decide_eq_true (by first | (with_reducible assumption) | assumption)
                              obtain ⟨ad259, e259, hx259_0⟩ := Kd.at_bool HR3.out (rd t254 x77_2) p259 q259
                              (try rw [← Nbq55.out] at hx259_0)
                              cases e259
                              replace hx259_0 := (HB.out.cell (World.block_lt_of_cell? w _ hx259_0)).trans hx259_0
                              replace p259 := eq_true p259
                              replace q259 := eq_true q259
                              go_wp2
                              go_meet
                              case rel => exact ⟨_, (true), (by first | rfl | (simp; done) | (simp [*]; done)), H', ⟨by have := HJ7.out; have := HK2.out; first | omega | exact Nat.le_refl _⟩, ⟨by (with_reducible repeat (first | apply Kd.R_alloc | apply Kd.R_drewN | apply Kd.R_drew)); exact HO_13.out⟩, ⟨by (with_reducible repeat (first | apply Kd.R_alloc | apply Kd.R_drewN | apply Kd.R_drew)); exact HO_75.out⟩, ⟨by (with_reducible repeat (first | refine blk_drewN ?_ _ | refine blk_drew ?_ | refine blk_alloc ?_ _)); exact BK245.out⟩, ⟨by (with_reducible repeat (first | refine blk_drewN ?_ _ | refine blk_drew ?_ | refine blk_alloc ?_ _)); exact BK246.out⟩, ⟨by repeat (first | (with_reducible first | exact HB.out | apply below_alloc | apply pw_below_drewN | apply below_drew1 | refine below_set ?_ GE245.out | refine below_set ?_ GE246.out) | exact HB.out)⟩⟩
                          · rw [if_neg c54] at H
                            exact absurd H (by simp)
                        · rw [if_neg c53] at H
                          exact absurd H (by simp)
                    case rest =>
                      clear HC51
                      try clear c1
                      try clear c2
                      try clear p2
                      try clear q2
                      try clear hx2
                      try clear c3
                      try clear c4
                      try clear c5
                      try clear q5
                      try clear c6
                      try clear p6
                      try clear c10
                      try clear c12
                      try clear c15
                      try clear c15b0
                      try clear c15b1
                      try clear c16
                      try clear c16b0
                      try clear c16b1
                      try clear c18
                      try clear c20
                      try clear c20b0
                      try clear c21
                      try clear c21b0
                      try clear c22
                      try clear c22b0
                      try clear c23
                      try clear c23b0
                      try clear c24
                      try clear c24b0
                      try clear c25
                      try clear p25
                      try clear q25
                      try clear hx25
                      try clear c26
                      try clear p26
                      try clear q26
                      try clear hx26
                      try clear c27
                      try clear c27b0
                      try clear c29
                      try clear c29b0
                      try clear c30
                      try clear c30b0
                      try clear c31
                      try clear c31b0
                      try clear c32
                      try clear c34
                      try clear c36
                      try clear c39
                      try clear c42
                      try clear c42b0
                      try clear c42b1
                      try clear c43
                      try clear c48
                      try clear c48b0
                      try clear c49
                      try clear c49b0
                      try clear c50
                      try clear c50b0
                      try clear c52
                      try clear c52b0
                      try clear c53
                      try clear c53b0
                      try clear c54
                      try clear c54b0
                      try clear q55
                      try clear c56
                      try clear c57
                      try clear c57b0
                      try clear c59
                      try clear hcz13_0
                      try clear hcz13_1
                      try clear hcz13_2
                      try clear hcz19_0
                      try clear hcz19_1
                      try clear hcz19_2
                      try clear hcz26_0
                      try clear hcz26_1
                      try clear hcz26_2
                      try clear hcz33_0
                      try clear hcz33_1
                      try clear hcz33_2
                      try clear hcz35_0
                      try clear hcz35_1
                      try clear hcz35_2
                      try clear hcz37_0
                      try clear hcz37_1
                      try clear hcz37_2
                      try clear hcz40_0
                      try clear hcz40_1
                      try clear hcz40_2
                      try clear hcz44_0
                      try clear hcz44_1
                      try clear hcz44_2
                      try clear hcz45_0
                      try clear hcz45_1
                      try clear hcz45_2
                      try clear hcz45_3
                      try clear hcz45_4
                      try clear hcz60_0
                      try clear hcz60_1
                      try clear hcz60_2
                      try clear hcz60_3
                      try clear hcz60_4
                      try clear hfz13_0
                      try clear hfz13_1
                      try clear hfz13_2
                      try clear hfz19_0
                      try clear hfz19_1
                      try clear hfz19_2
                      try clear hfz26_0
                      try clear hfz26_1
                      try clear hfz26_2
                      try clear hfz33_0
                      try clear hfz33_1
                      try clear hfz33_2
                      try clear hfz35_0
                      try clear hfz35_1
                      try clear hfz35_2
                      try clear hfz37_0
                      try clear hfz37_1
                      try clear hfz37_2
                      try clear hfz40_0
                      try clear hfz40_1
                      try clear hfz40_2
                      try clear hfz44_0
                      try clear hfz44_1
                      try clear hfz44_2
                      try clear hfz45_0
                      try clear hfz45_1
                      try clear hfz45_2
                      try clear hfz45_3
                      try clear hfz45_4
                      try clear hfz60_0
                      try clear hfz60_1
                      try clear hfz60_2
                      try clear hfz60_3
                      try clear hfz60_4
                      try clear hx252_0
                      try clear hx253_0
                      try clear hx258_0
                      try clear hx259_0
                      try clear hx260_0
                      try clear p2
                      try clear p25
                      try clear p252
                      try clear p253
                      try clear p258
                      try clear p259
                      try clear p260
                      try clear p6
                      try clear q2
                      try clear q25
                      try clear q252
                      try clear q253
                      try clear q258
                      try clear q259
                      try clear q260
                      obtain ⟨kq, x103_50, rfl, HA, HJ50, HO_13, HO_75, BK245, BK246, HB⟩ := hcut
                      cases kq with
                      | zero => exact absurd HA.out (by simp [potsherdlaw06_PlaceOwners.j3])
                      | succ kj50 =>
                        have H := HA.out
                        clear HA
                        simp only [potsherdlaw06_PlaceOwners.j3] at H
                        by_cases c63 : x103_50 = true
                        · subst c63
                          have H1 : (some false) = some r := by rw [if_pos rfl] at H; exact H
                          clear H
                          have H := H1
                          clear H1
                          obtain rfl := Option.some.inj H
                          go_wp2
                          go_ret
                          exact ⟨by first | rfl | (simp [errW_none, errW_some] <;> rfl) | (simp [*, errW_none, errW_some] <;> rfl), by repeat (first | (with_reducible first | exact HB.out | apply below_alloc | apply pw_below_drewN | apply below_drew1 | refine below_set ?_ GE245.out | refine below_set ?_ GE246.out) | exact HB.out)⟩
                        · replace c63 := Bool.eq_false_iff.mpr c63
                          subst c63
                          have H1 : (if 0 ≤ x77_2 then (if x77_2 < (l2_4.length : Int) then (potsherdlaw06_PlaceOwners.l2 kj50 l3 t254 (rd t254 x77_2) false t254 (t254.length : Int) x77_2 (rd_L7 l2_4 x77_2) ((rd_L7 l2_4 x77_2).length : Int) 0 a0_0 a0_1 a0_2 a2_0 l2_1 a2_2 a2_3 l2_4) else (none)) else (none)) = some r := by rw [if_neg (show ¬ (false = true) by decide)] at H; exact H
                          clear H
                          have H := H1
                          clear H1
                          by_cases c64 : 0 ≤ x77_2
                          · rw [if_pos c64] at H
                            have c64b0 : decide (0 ≤ x77_2) = true := decide_eq_true c64
                            clear c64
                            by_cases c65 : x77_2 < (l2_4.length : Int)
                            · rw [if_pos c65] at H
                              have c65b0 : decide (x77_2 < (l2_4.length : Int)) = true := decide_eq_true c65
                              clear c65
                              have H' := Aside0.mk H
                              clear H
                              have hnb66 := NB246_245.out
                              have hnc66 := NB245_246.out
                              have hcz67_0 : wc.cell? ⟨gb246, 0, none⟩ = some (.string a2_0) := (blk_cell BK246.out 0).trans rfl
                              have hcz67_1 : wc.cell? ⟨gb246, 1, none⟩ = some (.slice A2_1 l2_1.length c2_1) := (blk_cell BK246.out 1).trans rfl
                              have hcz67_2 : wc.cell? ⟨gb246, 2, none⟩ = some (.int .u64 a2_2) := (blk_cell BK246.out 2).trans rfl
                              have hcz67_3 : wc.cell? ⟨gb246, 3, none⟩ = some (.int .u64 a2_3) := (blk_cell BK246.out 3).trans rfl
                              have hcz67_4 : wc.cell? ⟨gb246, 4, none⟩ = some (.slice A2_4 l2_4.length c2_4) := (blk_cell BK246.out 4).trans rfl
                              have hfz67_0 := blk_frozen BK246.out 0
                              have hfz67_1 := blk_frozen BK246.out 1
                              have hfz67_2 := blk_frozen BK246.out 2
                              have hfz67_3 := blk_frozen BK246.out 3
                              have hfz67_4 := blk_frozen BK246.out 4
                              have p264 : 0 ≤ (x77_2 : Int) := of_decide_eq_true (by first | (with_reducible assumption) | assumption)
                              have q264 : x77_2 < (l2_4.length : Int) := of_decide_eq_true (by first | (with_reducible assumption) | assumption)
                              obtain ⟨ad264, A264_0, c264_0, e264, hx264_0, hl264_0, hi264_0⟩ := at_L7 HR2_4.out x77_2 p264 q264
                              cases e264
                              replace hx264_0 := (HB.out.cell (World.block_lt_of_cell? w _ hx264_0)).trans hx264_0
                              have HR264_0 := Aside0.mk hi264_0
                              have HC264_0 := Aside0.mk hl264_0
                              clear hi264_0 hl264_0
                              replace p264 := eq_true p264
                              replace q264 := eq_true q264
                              go_wp2
                              go_loopg [16, 110] kj50 (fun kq v16 v110 w' => ∃ (x16_4 : Bool) (x110_4 : Int), v16 = .bool x16_4 ∧ v110 = .int .i64 x110_4 ∧ Aside0 (potsherdlaw06_PlaceOwners.l2 kq l3 t254 (rd t254 x77_2) x16_4 t254 (t254.length : Int) x77_2 (rd_L7 l2_4 x77_2) ((rd_L7 l2_4 x77_2).length : Int) x110_4 a0_0 a0_1 a0_2 a2_0 l2_1 a2_2 a2_3 l2_4 = some r) ∧ Aside0 (kq ≤ kj50) ∧ Aside0 (Kd.R (Kd.int .i64) 3 w' w.heap.size (fun _ => True) (.slice (some ad258) t254.length co47) t254) ∧ Aside0 (Kd.R (Kd.int .i64) 3 w' w.heap.size (fun _ => True) (.slice (some ad258) t254.length co47) t254) ∧ Aside0 (w'.heap[gb245]? = some (.cells #[.int .i64 a0_0, .int .i64 a0_1, .int .i64 a0_2] 23 (0, 0))) ∧ Aside0 (w'.heap[gb246]? = some (.cells #[.string a2_0, (.slice A2_1 l2_1.length c2_1), .int .u64 a2_2, .int .u64 a2_3, (.slice (some ad264) l2_4.length c2_4)] 54 (0, 0))) ∧ Aside0 (Below w.heap.size w w'))
                              case atStart => exact ⟨(false), (0), (by first | rfl | (simp; done) | (simp [*]; done)), (by first | rfl | (simp; done) | (simp [*]; done)), H', ⟨Nat.le_refl _⟩, ⟨by (with_reducible repeat (first | apply Kd.R_alloc | apply Kd.R_drewN | apply Kd.R_drew)); exact HO_13.out⟩, ⟨by (with_reducible repeat (first | apply Kd.R_alloc | apply Kd.R_drewN | apply Kd.R_drew)); exact HO_75.out⟩, ⟨by (with_reducible repeat (first | refine blk_drewN ?_ _ | refine blk_drew ?_ | refine blk_alloc ?_ _)); exact BK245.out⟩, ⟨by (with_reducible repeat (first | refine blk_drewN ?_ _ | refine blk_drew ?_ | refine blk_alloc ?_ _)); exact BK246.out⟩, ⟨by repeat (first | (with_reducible first | exact HB.out | apply below_alloc | apply pw_below_drewN | apply below_drew1 | refine below_set ?_ GE245.out | refine below_set ?_ GE246.out) | exact HB.out)⟩⟩
                              case round =>
                                clear H'
                                try clear c1
                                try clear c2
                                try clear p2
                                try clear q2
                                try clear hx2
                                try clear c3
                                try clear c4
                                try clear c5
                                try clear q5
                                try clear c6
                                try clear p6
                                try clear c10
                                try clear c12
                                try clear c15
                                try clear c15b0
                                try clear c15b1
                                try clear c16
                                try clear c16b0
                                try clear c16b1
                                try clear c18
                                try clear c20
                                try clear c20b0
                                try clear c21
                                try clear c21b0
                                try clear c22
                                try clear c22b0
                                try clear c23
                                try clear c23b0
                                try clear c24
                                try clear c24b0
                                try clear c25
                                try clear p25
                                try clear q25
                                try clear hx25
                                try clear c26
                                try clear p26
                                try clear q26
                                try clear hx26
                                try clear c27
                                try clear c27b0
                                try clear c29
                                try clear c29b0
                                try clear c30
                                try clear c30b0
                                try clear c31
                                try clear c31b0
                                try clear c32
                                try clear c34
                                try clear c36
                                try clear c39
                                try clear c42
                                try clear c42b0
                                try clear c42b1
                                try clear c43
                                try clear c48
                                try clear c48b0
                                try clear c49
                                try clear c49b0
                                try clear c50
                                try clear c50b0
                                try clear c52
                                try clear c52b0
                                try clear c53
                                try clear c53b0
                                try clear c54
                                try clear c54b0
                                try clear q55
                                try clear c56
                                try clear c57
                                try clear c57b0
                                try clear c59
                                try clear c63
                                try clear c64
                                try clear c64b0
                                try clear c65
                                try clear c65b0
                                try clear c66
                                try clear hcz13_0
                                try clear hcz13_1
                                try clear hcz13_2
                                try clear hcz19_0
                                try clear hcz19_1
                                try clear hcz19_2
                                try clear hcz26_0
                                try clear hcz26_1
                                try clear hcz26_2
                                try clear hcz33_0
                                try clear hcz33_1
                                try clear hcz33_2
                                try clear hcz35_0
                                try clear hcz35_1
                                try clear hcz35_2
                                try clear hcz37_0
                                try clear hcz37_1
                                try clear hcz37_2
                                try clear hcz40_0
                                try clear hcz40_1
                                try clear hcz40_2
                                try clear hcz44_0
                                try clear hcz44_1
                                try clear hcz44_2
                                try clear hcz45_0
                                try clear hcz45_1
                                try clear hcz45_2
                                try clear hcz45_3
                                try clear hcz45_4
                                try clear hcz60_0
                                try clear hcz60_1
                                try clear hcz60_2
                                try clear hcz60_3
                                try clear hcz60_4
                                try clear hcz67_0
                                try clear hcz67_1
                                try clear hcz67_2
                                try clear hcz67_3
                                try clear hcz67_4
                                try clear hfz13_0
                                try clear hfz13_1
                                try clear hfz13_2
                                try clear hfz19_0
                                try clear hfz19_1
                                try clear hfz19_2
                                try clear hfz26_0
                                try clear hfz26_1
                                try clear hfz26_2
                                try clear hfz33_0
                                try clear hfz33_1
                                try clear hfz33_2
                                try clear hfz35_0
                                try clear hfz35_1
                                try clear hfz35_2
                                try clear hfz37_0
                                try clear hfz37_1
                                try clear hfz37_2
                                try clear hfz40_0
                                try clear hfz40_1
                                try clear hfz40_2
                                try clear hfz44_0
                                try clear hfz44_1
                                try clear hfz44_2
                                try clear hfz45_0
                                try clear hfz45_1
                                try clear hfz45_2
                                try clear hfz45_3
                                try clear hfz45_4
                                try clear hfz60_0
                                try clear hfz60_1
                                try clear hfz60_2
                                try clear hfz60_3
                                try clear hfz60_4
                                try clear hfz67_0
                                try clear hfz67_1
                                try clear hfz67_2
                                try clear hfz67_3
                                try clear hfz67_4
                                try clear hx252_0
                                try clear hx253_0
                                try clear hx258_0
                                try clear hx259_0
                                try clear hx260_0
                                try clear hx264_0
                                try clear p2
                                try clear p25
                                try clear p252
                                try clear p253
                                try clear p258
                                try clear p259
                                try clear p26
                                try clear p260
                                try clear p264
                                try clear p6
                                try clear q2
                                try clear q25
                                try clear q252
                                try clear q253
                                try clear q258
                                try clear q259
                                try clear q26
                                try clear q260
                                try clear q264
                                try clear q5
                                try clear q55
                                obtain ⟨x16_4, x110_4, rfl, rfl, HA, HK4, HO_13, HO_75, BK245, BK246, HB⟩ := hrel
                                cases gk with
                                | zero => exact absurd HA.out (by simp [potsherdlaw06_PlaceOwners.l2])
                                | succ k4 =>
                                  have H := HA.out
                                  clear HA
                                  simp only [potsherdlaw06_PlaceOwners.l2] at H
                                  by_cases c68 : x110_4 < ((rd_L7 l2_4 x77_2).length : Int)
                                  · rw [if_pos c68] at H
                                    have c68b0 : decide (x110_4 < ((rd_L7 l2_4 x77_2).length : Int)) = true := decide_eq_true c68
                                    clear c68
                                    by_cases c69 : 0 ≤ x110_4
                                    · rw [if_pos c69] at H
                                      have c69b0 : decide (0 ≤ x110_4) = true := decide_eq_true c69
                                      clear c69
                                      by_cases c70 : x110_4 < ((rd_L7 l2_4 x77_2).length : Int)
                                      · rw [if_pos c70] at H
                                        have c70b0 : decide (x110_4 < ((rd_L7 l2_4 x77_2).length : Int)) = true := decide_eq_true c70
                                        clear c70
                                        by_cases c71 : x16_4 = true
                                        · subst c71
                                          have H1 : (potsherdlaw06_PlaceOwners.l2 k4 l3 t254 (rd t254 x77_2) true t254 (t254.length : Int) x77_2 (rd_L7 l2_4 x77_2) ((rd_L7 l2_4 x77_2).length : Int) (wrap64 (x110_4 + 1)) a0_0 a0_1 a0_2 a2_0 l2_1 a2_2 a2_3 l2_4) = some r := by rw [if_pos rfl] at H; exact H
                                          clear H
                                          have H := H1
                                          clear H1
                                          have H' := Aside0.mk H
                                          clear H
                                          have p265 : 0 ≤ (x110_4 : Int) := of_decide_eq_true (by first | (with_reducible assumption) | assumption)
                                          have q265 : x110_4 < ((rd_L7 l2_4 x77_2).length : Int) := of_decide_eq_true (by first | (with_reducible assumption) | assumption)
                                          obtain ⟨ad265, e265, hx265_0⟩ := Kd.at_int HR264_0.out x110_4 p265 q265
                                          cases e265
                                          replace hx265_0 := (HB.out.cell (World.block_lt_of_cell? w _ hx265_0)).trans hx265_0
                                          replace p265 := eq_true p265
                                          replace q265 := eq_true q265
                                          go_wp2
                                          go_roundg k4
                                          case measure => have := HJ7.out; have := HK2.out; have := HJ50.out; have := HK4.out; omega
                                          case rel => exact ⟨(true), (wrap64 (x110_4 + 1)), (by first | rfl | (simp; done) | (simp [*]; done)), (by first | rfl | (simp; done) | (simp [*]; done)), H', ⟨by have := HJ7.out; have := HK2.out; have := HJ50.out; have := HK4.out; omega⟩, ⟨by (with_reducible repeat (first | apply Kd.R_alloc | apply Kd.R_drewN | apply Kd.R_drew)); exact HO_13.out⟩, ⟨by (with_reducible repeat (first | apply Kd.R_alloc | apply Kd.R_drewN | apply Kd.R_drew)); exact HO_75.out⟩, ⟨by (with_reducible repeat (first | refine blk_drewN ?_ _ | refine blk_drew ?_ | refine blk_alloc ?_ _)); exact BK245.out⟩, ⟨by (with_reducible repeat (first | refine blk_drewN ?_ _ | refine blk_drew ?_ | refine blk_alloc ?_ _)); exact BK246.out⟩, ⟨by repeat (first | (with_reducible first | exact HB.out | apply below_alloc | apply pw_below_drewN | apply below_drew1 | refine below_set ?_ GE245.out | refine below_set ?_ GE246.out) | exact HB.out)⟩⟩
                                        · replace c71 := Bool.eq_false_iff.mpr c71
                                          subst c71
                                          have H1 : (potsherdlaw06_PlaceOwners.l2 k4 l3 t254 (rd t254 x77_2) ((rd (rd_L7 l2_4 x77_2) x110_4) == (rd t254 x77_2)) t254 (t254.length : Int) x77_2 (rd_L7 l2_4 x77_2) ((rd_L7 l2_4 x77_2).length : Int) (wrap64 (x110_4 + 1)) a0_0 a0_1 a0_2 a2_0 l2_1 a2_2 a2_3 l2_4) = some r := by rw [if_neg (show ¬ (false = true) by decide)] at H; exact H
                                          clear H
                                          have H := H1
                                          clear H1
                                          have H' := Aside0.mk H
                                          clear H
                                          have p265 : 0 ≤ (x110_4 : Int) := of_decide_eq_true (by first | (with_reducible assumption) | assumption)
                                          have q265 : x110_4 < ((rd_L7 l2_4 x77_2).length : Int) := of_decide_eq_true (by first | (with_reducible assumption) | assumption)
                                          obtain ⟨ad265, e265, hx265_0⟩ := Kd.at_int HR264_0.out x110_4 p265 q265
                                          cases e265
                                          replace hx265_0 := (HB.out.cell (World.block_lt_of_cell? w _ hx265_0)).trans hx265_0
                                          replace p265 := eq_true p265
                                          replace q265 := eq_true q265
                                          go_wp2
                                          go_roundg k4
                                          case measure => have := HJ7.out; have := HK2.out; have := HJ50.out; have := HK4.out; omega
                                          case rel => exact ⟨(((rd (rd_L7 l2_4 x77_2) x110_4) == (rd t254 x77_2))), (wrap64 (x110_4 + 1)), (by first | rfl | (simp; done) | (simp [*]; done)), (by first | rfl | (simp; done) | (simp [*]; done)), H', ⟨by have := HJ7.out; have := HK2.out; have := HJ50.out; have := HK4.out; omega⟩, ⟨by (with_reducible repeat (first | apply Kd.R_alloc | apply Kd.R_drewN | apply Kd.R_drew)); exact HO_13.out⟩, ⟨by (with_reducible repeat (first | apply Kd.R_alloc | apply Kd.R_drewN | apply Kd.R_drew)); exact HO_75.out⟩, ⟨by (with_reducible repeat (first | refine blk_drewN ?_ _ | refine blk_drew ?_ | refine blk_alloc ?_ _)); exact BK245.out⟩, ⟨by (with_reducible repeat (first | refine blk_drewN ?_ _ | refine blk_drew ?_ | refine blk_alloc ?_ _)); exact BK246.out⟩, ⟨by repeat (first | (with_reducible first | exact HB.out | apply below_alloc | apply pw_below_drewN | apply below_drew1 | refine below_set ?_ GE245.out | refine below_set ?_ GE246.out) | exact HB.out)⟩⟩
                                      · rw [if_neg c70] at H
                                        exact absurd H (by simp)
                                    · rw [if_neg c69] at H
                                      exact absurd H (by simp)
                                  · rw [if_neg c68] at H
                                    have c68b0 : decide (x110_4 < ((rd_L7 l2_4 x77_2).length : Int)) = false := decide_eq_false c68
                                    clear c68
                                    by_cases c72 : x16_4 = true
                                    · subst c72
                                      have H1 : (potsherdlaw06_PlaceOwners.l1 k4 l3 t254 t254 (t254.length : Int) (wrap64 (x77_2 + 1)) a0_0 a0_1 a0_2 a2_0 l2_1 a2_2 a2_3 l2_4) = some r := by rw [if_pos rfl] at H; exact H
                                      clear H
                                      have H := H1
                                      clear H1
                                      have H' := Aside0.mk H
                                      clear H
                                      go_wp2
                                      go_roundg k4
                                      case measure => have := HJ7.out; have := HK2.out; have := HJ50.out; have := HK4.out; omega
                                      case rel => exact ⟨(wrap64 (x77_2 + 1)), (by first | rfl | (simp; done) | (simp [*]; done)), H', ⟨by have := HJ7.out; have := HK2.out; have := HJ50.out; have := HK4.out; omega⟩, ⟨by (with_reducible repeat (first | apply Kd.R_alloc | apply Kd.R_drewN | apply Kd.R_drew)); exact HO_13.out⟩, ⟨by (with_reducible repeat (first | apply Kd.R_alloc | apply Kd.R_drewN | apply Kd.R_drew)); exact HO_75.out⟩, ⟨by (with_reducible repeat (first | refine blk_drewN ?_ _ | refine blk_drew ?_ | refine blk_alloc ?_ _)); exact BK245.out⟩, ⟨by (with_reducible repeat (first | refine blk_drewN ?_ _ | refine blk_drew ?_ | refine blk_alloc ?_ _)); exact BK246.out⟩, ⟨by repeat (first | (with_reducible first | exact HB.out | apply below_alloc | apply pw_below_drewN | apply below_drew1 | refine below_set ?_ GE245.out | refine below_set ?_ GE246.out) | exact HB.out)⟩⟩
                                    · replace c72 := Bool.eq_false_iff.mpr c72
                                      subst c72
                                      have H1 : (some false) = some r := by rw [if_neg (show ¬ (false = true) by decide)] at H; exact H
                                      clear H
                                      have H := H1
                                      clear H1
                                      obtain rfl := Option.some.inj H
                                      go_wp2
                                      go_ret
                                      exact ⟨by first | rfl | (simp [errW_none, errW_some] <;> rfl) | (simp [*, errW_none, errW_some] <;> rfl), by repeat (first | (with_reducible first | exact HB.out | apply below_alloc | apply pw_below_drewN | apply below_drew1 | refine below_set ?_ GE245.out | refine below_set ?_ GE246.out) | exact HB.out)⟩
                            · rw [if_neg c65] at H
                              exact absurd H (by simp)
                          · rw [if_neg c64] at H
                            exact absurd H (by simp)
                  · rw [if_neg c50] at H
                    exact absurd H (by simp)
                · rw [if_neg c49] at H
                  exact absurd H (by simp)
              · rw [if_neg c48] at H
                have c48b0 : decide (x77_2 < (t254.length : Int)) = false := decide_eq_false c48
                clear c48
                obtain rfl := Option.some.inj H
                have hnb73 := NB245_246.out
                have hnc73 := NB246_245.out
                have hcz74_0 : wr.cell? ⟨gb245, 0, none⟩ = some (.int .i64 a0_0) := (blk_cell BK245.out 0).trans rfl
                have hcz74_1 : wr.cell? ⟨gb245, 1, none⟩ = some (.int .i64 a0_1) := (blk_cell BK245.out 1).trans rfl
                have hcz74_2 : wr.cell? ⟨gb245, 2, none⟩ = some (.int .i64 a0_2) := (blk_cell BK245.out 2).trans rfl
                have hfz74_0 := blk_frozen BK245.out 0
                have hfz74_1 := blk_frozen BK245.out 1
                have hfz74_2 := blk_frozen BK245.out 2
                go_wp2
                go_ret
                exact ⟨by first | rfl | (simp [errW_none, errW_some] <;> rfl) | (simp [*, errW_none, errW_some] <;> rfl), by repeat (first | (with_reducible first | exact HB.out | apply below_alloc | apply pw_below_drewN | apply below_drew1 | refine below_set ?_ GE245.out | refine below_set ?_ GE246.out) | exact HB.out)⟩
        · rw [if_neg c42] at H
          have c42b0 : (t257 == 0) = false := beq_eq_false_iff_ne.mpr c42
          have c42b1 : (t257 != 0) = true := bne_iff_ne.mpr c42
          obtain rfl := Option.some.inj H
          have hnb75 := NB245_246.out
          have hnc75 := NB246_245.out
          have hcz76_0 : wc.cell? ⟨gb245, 0, none⟩ = some (.int .i64 a0_0) := (blk_cell BK245.out 0).trans rfl
          have hcz76_1 : wc.cell? ⟨gb245, 1, none⟩ = some (.int .i64 a0_1) := (blk_cell BK245.out 1).trans rfl
          have hcz76_2 : wc.cell? ⟨gb245, 2, none⟩ = some (.int .i64 a0_2) := (blk_cell BK245.out 2).trans rfl
          have hfz76_0 := blk_frozen BK245.out 0
          have hfz76_1 := blk_frozen BK245.out 1
          have hfz76_2 := blk_frozen BK245.out 2
          have hcz77_0 : wc.cell? ⟨gb246, 0, none⟩ = some (.string a2_0) := (blk_cell BK246.out 0).trans rfl
          have hcz77_1 : wc.cell? ⟨gb246, 1, none⟩ = some (.slice A2_1 l2_1.length c2_1) := (blk_cell BK246.out 1).trans rfl
          have hcz77_2 : wc.cell? ⟨gb246, 2, none⟩ = some (.int .u64 a2_2) := (blk_cell BK246.out 2).trans rfl
          have hcz77_3 : wc.cell? ⟨gb246, 3, none⟩ = some (.int .u64 a2_3) := (blk_cell BK246.out 3).trans rfl
          have hcz77_4 : wc.cell? ⟨gb246, 4, none⟩ = some (.slice A2_4 l2_4.length c2_4) := (blk_cell BK246.out 4).trans rfl
          have hfz77_0 := blk_frozen BK246.out 0
          have hfz77_1 := blk_frozen BK246.out 1
          have hfz77_2 := blk_frozen BK246.out 2
          have hfz77_3 := blk_frozen BK246.out 3
          have hfz77_4 := blk_frozen BK246.out 4
          go_wp2_with (first | ((with_reducible refine gate_callee (f := 22) rfl ?_); refine goesL_ (some 67) rfl rfl Tryd.func22 (by kernel_rfl) rfl #[.agg #[.int .i64 a0_0, .int .i64 a0_1, .int .i64 a0_2], .agg #[.string a2_0, .slice A2_1 l2_1.length c2_1, .int .u64 a2_2, .int .u64 a2_3, .slice A2_4 l2_4.length c2_4], .slice A3 l3.length c3] rfl (by (try simp only [List.map_toArray, List.map_cons, List.map_nil]); first | done | rfl | (simp only [List.length_drop, List.length_take]; rfl)) ?_; (with_reducible refine (place_Pick.calls a0_0 a0_1 a0_2 a2_0 _ _ l2_1 a2_2 a2_3 _ _ l2_4 _ _ l3 t254 t257 _ ?side1 ?side2 ?side3 ?side4 ?side5 ?side6 A41.out ?sideT).mono ?_); (case sideT => exact Utf8Tabs_below HT9.out (by repeat (first | (with_reducible first | exact HB.out | apply below_alloc | apply pw_below_drewN | apply below_drew1 | refine below_set ?_ GE245.out | refine below_set ?_ GE246.out) | exact HB.out))); (case side1 => repeat (first | exact (Kd.C_below HR2_1.out HB.out) | (with_reducible refine Kd.C_alloc ?_ _) | (with_reducible refine Kd.C_drewN ?_ _) | (with_reducible refine Kd.C_drew ?_))); (case side2 => exact HC2_1.out); (case side3 => repeat (first | exact (Kd.C_below HR2_4.out HB.out) | (with_reducible refine Kd.C_alloc ?_ _) | (with_reducible refine Kd.C_drewN ?_ _) | (with_reducible refine Kd.C_drew ?_))); (case side4 => exact HC2_4.out); (case side5 => repeat (first | exact (Kd.C_below HR3.out HB.out) | (with_reducible refine Kd.C_alloc ?_ _) | (with_reducible refine Kd.C_drewN ?_ _) | (with_reducible refine Kd.C_drew ?_))); (case side6 => exact HC3.out); rintro e w78 ⟨v255, rfl, ho0, hb⟩; refine ⟨_, rfl, ?_⟩; have n0_ := Aside0.mk (Kd.R_lower ho0 (below_size (by repeat (first | (with_reducible first | exact HB.out | apply below_alloc | apply pw_below_drewN | apply below_drew1 | refine below_set ?_ GE245.out | refine below_set ?_ GE246.out) | exact HB.out)))); have n1_ := Aside0.mk (blk_below (g := gb245) (o := .cells #[.int .i64 a0_0, .int .i64 a0_1, .int .i64 a0_2] 23 (0, 0)) (by (with_reducible repeat (first | refine blk_drewN ?_ _ | refine blk_drew ?_ | refine blk_alloc ?_ _)); exact BK245.out) hb); have n2_ := Aside0.mk (blk_below (g := gb246) (o := .cells #[.string a2_0, .slice A2_1 l2_1.length c2_1, .int .u64 a2_2, .int .u64 a2_3, .slice A2_4 l2_4.length c2_4] 54 (0, 0)) (by (with_reducible repeat (first | refine blk_drewN ?_ _ | refine blk_drew ?_ | refine blk_alloc ?_ _)); exact BK246.out) hb); have n3_ := Aside0.mk (below_step (by repeat (first | (with_reducible first | exact HB.out | apply below_alloc | apply pw_below_drewN | apply below_drew1 | refine below_set ?_ GE245.out | refine below_set ?_ GE246.out) | exact HB.out)) hb); clear BK245; clear BK246; clear HB; have HO256 := n0_; have BK245 := n1_; have BK246 := n2_; have HB := n3_; clear n0_ n1_ n2_ n3_; (try clear hb); (try clear hb2); (try clear hk); (try clear hi); (try clear ho0); obtain ⟨Ao79, co79, eo79⟩ := Kd.R_slice HO256.out; subst eo79))
          go_ret
          exact ⟨by first | rfl | (simp [errW_none, errW_some] <;> rfl) | (simp [*, errW_none, errW_some] <;> rfl), by repeat (first | (with_reducible first | exact HB.out | apply below_alloc | apply pw_below_drewN | apply below_drew1 | refine below_set ?_ GE245.out | refine below_set ?_ GE246.out) | exact HB.out)⟩
  · replace c6 := Bool.eq_false_iff.mpr c6
    subst c6
    have H1 : (some false) = some r := by rw [if_neg (show ¬ (false = true) by decide)] at H; exact H
    clear H
    have H := H1
    clear H1
    obtain rfl := Option.some.inj H
    go_enter Tryd.func6, Tryd.ntmps6
    go_wp2_with (first | ((with_reducible refine gate_dst (N := 4) rfl ?_); (try (refine gate_guard (by rfl) ?_; dsimp only)); refine box_event ?hg (N := 4) ?hd (cs := #[.int .i64 a0_0, .int .i64 a0_1, .int .i64 a0_2]) (t := 23) ?hr ?_; (case hd => rfl); (case hg => rfl); (case hr => first | (go_simp; done) | (go_simp; rfl)); intro gb245 hg w80 hbox hb; have n0_ := Aside0.mk (below_step (by repeat (first | (with_reducible first | exact HB.out | apply below_alloc | apply pw_below_drewN | apply below_drew1) | exact HB.out)) hb); have n1_ := Aside0.mk (hbox); have n2_ := Aside0.mk ((by rw [hg]; exact (below_size (by repeat (first | (with_reducible first | exact HB.out | apply below_alloc | apply pw_below_drewN | apply below_drew1) | exact HB.out))) : w.heap.size ≤ gb245)); have n3_ := Aside0.mk ((by rw [hg]; exact (below_size (by repeat (first | (with_reducible first | exact HB.out | apply below_alloc | apply pw_below_drewN | apply below_drew1) | exact HB.out))) : w.heap.size ≤ gb245)); clear HB; have HB := n0_; have BK245 := n1_; have GW245 := n2_; have GE245 := n3_; clear n0_ n1_ n2_ n3_; clear hb hbox hg) | ((with_reducible refine gate_dst (N := 6) rfl ?_); (try (refine gate_guard (by rfl) ?_; dsimp only)); refine box_event ?hg (N := 6) ?hd (cs := #[.string a2_0, .slice A2_1 l2_1.length c2_1, .int .u64 a2_2, .int .u64 a2_3, .slice A2_4 l2_4.length c2_4]) (t := 54) ?hr ?_; (case hd => rfl); (case hg => rfl); (case hr => first | (go_simp; done) | (go_simp; rfl)); intro gb246 hg w81 hbox hb; have n0_ := Aside0.mk (blk_below (g := gb245) (o := .cells #[.int .i64 a0_0, .int .i64 a0_1, .int .i64 a0_2] 23 (0, 0)) (by (with_reducible repeat (first | refine blk_drewN ?_ _ | refine blk_drew ?_ | refine blk_alloc ?_ _)); exact BK245.out) hb); have n1_ := Aside0.mk (below_step (by repeat (first | (with_reducible first | exact HB.out | apply below_alloc | apply pw_below_drewN | apply below_drew1 | refine below_set ?_ GE245.out) | exact HB.out)) hb); have n2_ := Aside0.mk (hbox); have n3_ := Aside0.mk ((by rw [hg]; exact (below_size (by repeat (first | (with_reducible first | exact HB.out | apply below_alloc | apply pw_below_drewN | apply below_drew1 | refine below_set ?_ GE245.out) | exact HB.out))) : w.heap.size ≤ gb246)); have n4_ := Aside0.mk ((by rw [hg]; exact (below_size (by repeat (first | (with_reducible first | exact HB.out | apply below_alloc | apply pw_below_drewN | apply below_drew1 | refine below_set ?_ GE245.out) | exact HB.out))) : w.heap.size ≤ gb246)); have n5_ := Aside0.mk ((by rw [hg]; exact Nat.ne_of_lt (blk_lt (g := gb245) (o := .cells #[.int .i64 a0_0, .int .i64 a0_1, .int .i64 a0_2] 23 (0, 0)) (by (with_reducible repeat (first | refine blk_drewN ?_ _ | refine blk_drew ?_ | refine blk_alloc ?_ _)); exact BK245.out)) : gb245 ≠ gb246)); have n6_ := Aside0.mk ((by rw [hg]; exact Nat.ne_of_gt (blk_lt (g := gb245) (o := .cells #[.int .i64 a0_0, .int .i64 a0_1, .int .i64 a0_2] 23 (0, 0)) (by (with_reducible repeat (first | refine blk_drewN ?_ _ | refine blk_drew ?_ | refine blk_alloc ?_ _)); exact BK245.out)) : gb246 ≠ gb245)); clear BK245; clear HB; have BK245 := n0_; have HB := n1_; have BK246 := n2_; have GW246 := n3_; have GE246 := n4_; have NB245_246 := n5_; have NB246_245 := n6_; clear n0_ n1_ n2_ n3_ n4_ n5_ n6_; clear hb hbox hg) | ((with_reducible refine gate_callee (f := 10) rfl ?_); refine goesL_ (some 19) rfl rfl Tryd.func10 (by kernel_rfl) rfl #[] rfl (by (try simp only [List.map_toArray, List.map_cons, List.map_nil]); first | done | rfl | (simp only [List.length_drop, List.length_take]; rfl)) ?_; (with_reducible refine (potsherdlaw06_lives.calls k  false _ A5.out).mono ?_); rintro e w82 ⟨rfl, hb⟩; refine ⟨_, rfl, ?_⟩; have n0_ := Aside0.mk (blk_below (g := gb245) (o := .cells #[.int .i64 a0_0, .int .i64 a0_1, .int .i64 a0_2] 23 (0, 0)) (by (with_reducible repeat (first | refine blk_drewN ?_ _ | refine blk_drew ?_ | refine blk_alloc ?_ _)); exact BK245.out) hb); have n1_ := Aside0.mk (blk_below (g := gb246) (o := .cells #[.string a2_0, .slice A2_1 l2_1.length c2_1, .int .u64 a2_2, .int .u64 a2_3, .slice A2_4 l2_4.length c2_4] 54 (0, 0)) (by (with_reducible repeat (first | refine blk_drewN ?_ _ | refine blk_drew ?_ | refine blk_alloc ?_ _)); exact BK246.out) hb); have n2_ := Aside0.mk (below_step (by repeat (first | (with_reducible first | exact HB.out | apply below_alloc | apply pw_below_drewN | apply below_drew1 | refine below_set ?_ GE245.out | refine below_set ?_ GE246.out) | exact HB.out)) hb); clear BK245; clear BK246; clear HB; have BK245 := n0_; have BK246 := n1_; have HB := n2_; clear n0_ n1_ n2_; (try clear hb); (try clear hb2); (try clear hk); (try clear hi)))
    go_ret
    exact ⟨by first | rfl | (simp [errW_none, errW_some] <;> rfl) | (simp [*, errW_none, errW_some] <;> rfl), by repeat (first | (with_reducible first | exact HB.out | apply below_alloc | apply pw_below_drewN | apply below_drew1 | refine below_set ?_ GE245.out | refine below_set ?_ GE246.out) | exact HB.out)⟩
end Go.Proofs.YtfgmgcnbponknaaDoor.Lx
