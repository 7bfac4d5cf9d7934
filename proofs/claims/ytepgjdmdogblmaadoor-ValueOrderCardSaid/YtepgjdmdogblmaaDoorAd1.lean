/- The contracts of package value and its document that were proved by hand, in the form that printed texts take. Conditions: as the functions' own bounds say; utf8's tables are laid where a function reads them. -/
import Derived.Test.YtepgjdmdogblmaaDoorVl16
import Derived.Test.YtepgjdmdogblmaaDoorLq0
namespace Go.Proofs.YtepgjdmdogblmaaDoor.Lx
open Go.RowKit Go.Proofs.YtepgjdmdogblmaaDoor.G Go.Proofs.YtepgjdmdogblmaaDoorW.PrintWords Go.Proofs.YtepgjdmdogblmaaDoorW.PrintLast Go.Proofs.YtepgjdmdogblmaaDoorW.PrintMore
set_option linter.unusedVariables false
def potsherdlaw01_lives.f : Option Bool := some true
theorem potsherdlaw01_lives.calls (r : Bool) (w : World) (h : potsherdlaw01_lives.f = some r) (hT : Lib.Utf8Tabs 0 1 w) :
    Calls Tryd.prog 13 #[] w fun e w' => e = .returned (.bool r) ∧ Below w.heap.size w w' := by
  obtain rfl := Option.some.inj h
  exact Val.lives_calls w hT
def value_Check.f (a0_0 : Int) (a0_1 : Bool) (a0_2 : Int) (a0_3 : ByteArray) : Option Int := if 0 ≤ a0_0 then some (Val.checkV a0_0 a0_1 a0_2 a0_3) else none
theorem value_Check.calls (a0_0 : Int) (a0_1 : Bool) (a0_2 : Int) (a0_3 : ByteArray) (r : Int) (w : World) (h : value_Check.f a0_0 a0_1 a0_2 a0_3 = some r) (hT : Lib.Utf8Tabs 0 1 w) :
    Calls Tryd.prog 14 #[.agg #[.int .u8 a0_0, .bool a0_1, .int .i64 a0_2, .string a0_3]] w fun e w' => e = .returned (.int .i64 r) ∧ Below w.heap.size w w' := by
  unfold value_Check.f at h
  split at h
  · rename_i hk
    obtain rfl := Option.some.inj h
    exact Val.check_calls a0_0 a0_1 a0_2 a0_3 w hk hT
  · cases h
def potsherdref01_Check.f (a0_0 : Int) (a0_1 : Bool) (a0_2 : Int) (a0_3 : ByteArray) : Option Int := some (Val.checkV a0_0 a0_1 a0_2 a0_3)
theorem potsherdref01_Check.calls (a0_0 : Int) (a0_1 : Bool) (a0_2 : Int) (a0_3 : ByteArray) (r : Int) (w : World) (h : potsherdref01_Check.f a0_0 a0_1 a0_2 a0_3 = some r) :
    Calls Tryd.prog 19 #[.agg #[.int .u8 a0_0, .bool a0_1, .int .i64 a0_2, .string a0_3]] w fun e w' => e = .returned (.int .i64 r) ∧ Below w.heap.size w w' := by
  obtain rfl := Option.some.inj h
  exact Val.rcheck_calls a0_0 a0_1 a0_2 a0_3 w
def value_Compare.f (a0_0 : Int) (a0_1 : Bool) (a0_2 : Int) (a0_3 : ByteArray) (a1_0 : Int) (a1_1 : Bool) (a1_2 : Int) (a1_3 : ByteArray) : Option Int :=
  if a0_3.size ≤ 9223372036854775807 ∧ a1_3.size ≤ 9223372036854775807 then some (Val.cmpV ⟨a0_0, a0_1, a0_2, a0_3⟩ ⟨a1_0, a1_1, a1_2, a1_3⟩) else none
theorem value_Compare.calls (a0_0 : Int) (a0_1 : Bool) (a0_2 : Int) (a0_3 : ByteArray) (a1_0 : Int) (a1_1 : Bool) (a1_2 : Int) (a1_3 : ByteArray) (r : Int) (w : World) (h : value_Compare.f a0_0 a0_1 a0_2 a0_3 a1_0 a1_1 a1_2 a1_3 = some r) (hT : Lib.Utf8Tabs 0 1 w) :
    Calls Tryd.prog 16 #[.agg #[.int .u8 a0_0, .bool a0_1, .int .i64 a0_2, .string a0_3], .agg #[.int .u8 a1_0, .bool a1_1, .int .i64 a1_2, .string a1_3]] w fun e w' => e = .returned (.int .i64 r) ∧ Below w.heap.size w w' := by
  unfold value_Compare.f at h
  split at h
  · rename_i hk
    obtain rfl := Option.some.inj h
    exact Val.compare_calls a0_0 a1_0 a0_1 a1_1 a0_2 a1_2 a0_3 a1_3 w hk.1 hk.2 hT
  · cases h
def value_Runes.f (a0 : ByteArray) : Option Int := if a0.size ≤ 9223372036854775807 then some ((Val.runesL a0).length : Int) else none
theorem value_Runes.calls (a0 : ByteArray) (r : Int) (w : World) (h : value_Runes.f a0 = some r) :
    Calls Tryd.prog 17 #[.string a0] w fun e w' => e = .returned (.int .i64 r) ∧ Below w.heap.size w w' := by
  unfold value_Runes.f at h
  split at h
  · rename_i hk
    obtain rfl := Option.some.inj h
    exact Val.runes_calls a0 w hk
  · cases h
def potsherdref01_Runes.f (a0 : ByteArray) : Option Int := if a0.size < 35184372088832 then some ((Val.runesL a0).length : Int) else none
theorem potsherdref01_Runes.calls (a0 : ByteArray) (r : Int) (w : World) (h : potsherdref01_Runes.f a0 = some r) :
    Calls Tryd.prog 23 #[.string a0] w fun e w' => e = .returned (.int .i64 r) ∧ Below w.heap.size w w' := by
  unfold potsherdref01_Runes.f at h
  split at h
  · rename_i hk
    obtain rfl := Option.some.inj h
    exact Val.rcount_calls a0 w hk
  · cases h
def potsherdref01_runes.f (a0 : ByteArray) : Option (List Int) := if a0.size < 35184372088832 then some (Val.runeI (Val.runesL a0)) else none
theorem potsherdref01_runes.calls (a0 : ByteArray) (r : List Int) (w : World) (h : potsherdref01_runes.f a0 = some r) :
    Calls Tryd.prog 49 #[.string a0] w fun e w' => ∃ v0_ : Value, e = .returned (v0_) ∧ Kd.R (Kd.int .i32) 21 w' w.heap.size (fun _ => True) v0_ r ∧ Below w.heap.size w w' := by
  unfold potsherdref01_runes.f at h
  split at h
  · rename_i hk
    obtain rfl := Option.some.inj h
    exact Val.rrunes_calls a0 w hk
  · cases h
def potsherdref01_Utf.f (a0 : ByteArray) : Option Bool := if a0.size ≤ 9223372036854775804 then some (Lib.validD a0.data.toList) else none
theorem potsherdref01_Utf.calls (a0 : ByteArray) (r : Bool) (w : World) (h : potsherdref01_Utf.f a0 = some r) :
    Calls Tryd.prog 47 #[.string a0] w fun e w' => e = .returned (.bool r) ∧ Below w.heap.size w w' := by
  unfold potsherdref01_Utf.f at h
  split at h
  · rename_i hk
    obtain rfl := Option.some.inj h
    exact Val.utf_calls a0 w hk
  · cases h
def utf8_ValidString.f (a0 : ByteArray) : Option Bool := if a0.size ≤ 9223372036854775807 then some (Lib.validD a0.data.toList) else none
theorem utf8_ValidString.calls (a0 : ByteArray) (r : Bool) (w : World) (h : utf8_ValidString.f a0 = some r) (hT : Lib.Utf8Tabs 0 1 w) :
    Calls Tryd.prog 43 #[.string a0] w fun e w' => e = .returned (.bool r) ∧ Below w.heap.size w w' := by
  unfold utf8_ValidString.f at h
  split at h
  · rename_i hk
    obtain rfl := Option.some.inj h
    exact Tryd.utf8_ValidString a0 w hk hT
  · cases h
end Go.Proofs.YtepgjdmdogblmaaDoor.Lx
