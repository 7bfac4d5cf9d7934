/- The contracts of package place that were proved by hand (CheckClaim, Pick), in the form that printed texts take. Conditions: as the functions' own bounds say; utf8's tables are laid. -/
import Derived.Test.YtfgmgcnbponknaaDoorVc7
namespace Go.Proofs.YtfgmgcnbponknaaDoor.Lx
open Go.RowKit Go.Proofs.YtfgmgcnbponknaaDoor.G Go.Proofs.YtfgmgcnbponknaaDoorW.PrintWords Go.Proofs.YtfgmgcnbponknaaDoorW.PrintLast Go.Proofs.YtfgmgcnbponknaaDoorW.PrintMore
set_option linter.unusedVariables false
/-- what the program's claims bear -/
def FitsC (nm : ByteArray) (l : List S97) (m : List (List Int)) : Prop := (l.length < 4611686018427387904 ∧ nm.size ≤ 9223372036854775807 ∧ Val.ShortC l) ∧ m.length < 17592186044416 ∧ Val.Reach m
instance (l : List (List Int)) : Decidable (Val.Reach l) := inferInstanceAs (Decidable (∀ x ∈ l, x.length < 4611686018427387904))
instance (m : List (List Int)) : Decidable (Val.Good m) := inferInstanceAs (Decidable (∀ x ∈ m, x ≠ [] ∧ x.length < 17592186044416 ∧ ∀ y ∈ x, 0 ≤ y))
instance (nm : ByteArray) (l : List S97) (m : List (List Int)) : Decidable (FitsC nm l m) := inferInstanceAs (Decidable ((l.length < 4611686018427387904 ∧ nm.size ≤ 9223372036854775807 ∧ Val.ShortC l) ∧ m.length < 17592186044416 ∧ Val.Reach m))
def place_CheckClaim.f (a0_0 a0_1 a0_2 : Int) (a1_0 : ByteArray) (l1_1 : List S97) (a1_2 a1_3 : Int) (l1_4 : List (List Int)) : Option Int := if FitsC a1_0 l1_1 l1_4 then some (Val.claimV a0_0 a0_1 a0_2 a1_0 l1_1 l1_4) else none
theorem place_CheckClaim.calls (a0_0 : Int) (a0_1 : Int) (a0_2 : Int) (a1_0 : ByteArray) (A1_1 : Option Addr) (c1_1 : Nat) (l1_1 : List (S97)) (a1_2 : Int) (a1_3 : Int) (A1_4 : Option Addr) (c1_4 : Nat) (l1_4 : List (List Int)) (r : Int) (w : World) (hr1_1 : Kd.C k97 w A1_1 l1_1.length l1_1) (hc1_1 : l1_1.length ≤ c1_1) (hr1_4 : Kd.C (Kd.slice 3 (Kd.int .i64)) w A1_4 l1_4.length l1_4) (hc1_4 : l1_4.length ≤ c1_4) (h : place_CheckClaim.f a0_0 a0_1 a0_2 a1_0 l1_1 a1_2 a1_3 l1_4 = some r) (hT : Lib.Utf8Tabs 0 1 w) :
    Calls Tryd.prog 24 #[.agg #[.int .i64 a0_0, .int .i64 a0_1, .int .i64 a0_2], .agg #[.string a1_0, .slice A1_1 l1_1.length c1_1, .int .u64 a1_2, .int .u64 a1_3, .slice A1_4 l1_4.length c1_4]] w fun e w' => e = .returned (.int .i64 r) ∧ Below w.heap.size w w' := by
  unfold place_CheckClaim.f at h
  split at h
  · rename_i hk
    obtain rfl := Option.some.inj h
    exact Val.claim_calls a0_0 a0_1 a0_2 a1_2 a1_3 a1_0 A1_1 A1_4 c1_1 c1_4 l1_1 l1_4 w hr1_1 hc1_1 hk.1.1 hk.1.2.1 hk.1.2.2 hr1_4 hc1_4 (by have := hk.2.1; omega) hk.2.2 hT
  · cases h
def place_Pick.f (a0_0 a0_1 a0_2 : Int) (a1_0 : ByteArray) (l1_1 : List S97) (a1_2 a1_3 : Int) (l1_4 : List (List Int)) (l2 : List Bool) : Option (List Int × Int) := if FitsC a1_0 l1_1 l1_4 ∧ (Val.claimV a0_0 a0_1 a0_2 a1_0 l1_1 l1_4 = 0 → Val.Good l1_4) then some (Val.pickV a0_0 a0_1 a0_2 a1_0 l1_1 l1_4 l2) else none
theorem place_Pick.calls (a0_0 : Int) (a0_1 : Int) (a0_2 : Int) (a1_0 : ByteArray) (A1_1 : Option Addr) (c1_1 : Nat) (l1_1 : List (S97)) (a1_2 : Int) (a1_3 : Int) (A1_4 : Option Addr) (c1_4 : Nat) (l1_4 : List (List Int)) (A2 : Option Addr) (c2 : Nat) (l2 : List Bool) (r1 : List Int) (r2 : Int) (w : World) (hr1_1 : Kd.C k97 w A1_1 l1_1.length l1_1) (hc1_1 : l1_1.length ≤ c1_1) (hr1_4 : Kd.C (Kd.slice 3 (Kd.int .i64)) w A1_4 l1_4.length l1_4) (hc1_4 : l1_4.length ≤ c1_4) (hr2 : Kd.C Kd.bool w A2 l2.length l2) (hc2 : l2.length ≤ c2) (h : place_Pick.f a0_0 a0_1 a0_2 a1_0 l1_1 a1_2 a1_3 l1_4 l2 = some (r1, r2)) (hT : Lib.Utf8Tabs 0 1 w) :
    Calls Tryd.prog 22 #[.agg #[.int .i64 a0_0, .int .i64 a0_1, .int .i64 a0_2], .agg #[.string a1_0, .slice A1_1 l1_1.length c1_1, .int .u64 a1_2, .int .u64 a1_3, .slice A1_4 l1_4.length c1_4], .slice A2 l2.length c2] w fun e w' => ∃ v0_ : Value, e = .returned (.tuple #[v0_, .int .i64 r2]) ∧ Kd.R (Kd.int .i64) 3 w' w.heap.size (fun _ => True) v0_ r1 ∧ Below w.heap.size w w' := by
  unfold place_Pick.f at h
  split at h
  · rename_i hk
    have e := Option.some.inj h
    refine (Val.pick_calls a0_0 a0_1 a0_2 a1_2 a1_3 a1_0 A1_1 A1_4 A2 c1_1 c1_4 c2 l1_1 l1_4 l2 w hr1_1 hc1_1 hk.1.1.1 hk.1.1.2.1 hk.1.1.2.2 hr1_4 hc1_4 hk.1.2.1 hk.1.2.2 hr2 hc2 hk.2 hT).mono ?_
    rintro e' w' ⟨v0, h1, h2, h3⟩
    rw [e] at h1 h2
    exact ⟨v0, h1, h2, h3⟩
  · cases h
end Go.Proofs.YtfgmgcnbponknaaDoor.Lx
