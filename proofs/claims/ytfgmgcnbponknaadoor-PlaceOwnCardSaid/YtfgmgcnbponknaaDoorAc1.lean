/- Contracts that were proved by hand (Check, Utf, Hash, name, CheckCols), in the form that printed texts take. Conditions: as the functions' own bounds say; utf8's tables are laid where a function reads them. -/
import Derived.Test.YtfgmgcnbponknaaDoorVc1
namespace Go.Proofs.YtfgmgcnbponknaaDoor.Lx
open Go.RowKit Go.Proofs.YtfgmgcnbponknaaDoor.G Go.Proofs.YtfgmgcnbponknaaDoorW.PrintWords Go.Proofs.YtfgmgcnbponknaaDoorW.PrintLast Go.Proofs.YtfgmgcnbponknaaDoorW.PrintMore
set_option linter.unusedVariables false
theorem ne_nil_isEmpty (l : List UInt8) : (l != ([] : List UInt8)) = !l.isEmpty := by cases l <;> rfl
def value_Check.f (a0_0 : Int) (a0_1 : Bool) (a0_2 : Int) (a0_3 : ByteArray) : Option Int := if 0 ≤ a0_0 then some (Val.checkV a0_0 a0_1 a0_2 a0_3) else none
theorem value_Check.calls (a0_0 : Int) (a0_1 : Bool) (a0_2 : Int) (a0_3 : ByteArray) (r : Int) (w : World) (h : value_Check.f a0_0 a0_1 a0_2 a0_3 = some r) (hT : Lib.Utf8Tabs 0 1 w) :
    Calls Tryd.prog 72 #[.agg #[.int .u8 a0_0, .bool a0_1, .int .i64 a0_2, .string a0_3]] w fun e w' => e = .returned (.int .i64 r) ∧ Below w.heap.size w w' := by
  unfold value_Check.f at h
  split at h
  · rename_i hk
    obtain rfl := Option.some.inj h
    exact Val.check_calls a0_0 a0_1 a0_2 a0_3 w hk hT
  · cases h
def potsherdref01_Check.f (a0_0 : Int) (a0_1 : Bool) (a0_2 : Int) (a0_3 : ByteArray) : Option Int := some (Val.checkV a0_0 a0_1 a0_2 a0_3)
theorem potsherdref01_Check.calls (a0_0 : Int) (a0_1 : Bool) (a0_2 : Int) (a0_3 : ByteArray) (r : Int) (w : World) (h : potsherdref01_Check.f a0_0 a0_1 a0_2 a0_3 = some r) :
    Calls Tryd.prog 86 #[.agg #[.int .u8 a0_0, .bool a0_1, .int .i64 a0_2, .string a0_3]] w fun e w' => e = .returned (.int .i64 r) ∧ Below w.heap.size w w' := by
  obtain rfl := Option.some.inj h
  exact Val.rcheck_calls a0_0 a0_1 a0_2 a0_3 w
def potsherdref01_Utf.f (a0 : ByteArray) : Option Bool := if a0.size ≤ 9223372036854775804 then some (Lib.validD a0.data.toList) else none
theorem potsherdref01_Utf.calls (a0 : ByteArray) (r : Bool) (w : World) (h : potsherdref01_Utf.f a0 = some r) :
    Calls Tryd.prog 85 #[.string a0] w fun e w' => e = .returned (.bool r) ∧ Below w.heap.size w w' := by
  unfold potsherdref01_Utf.f at h
  split at h
  · rename_i hk
    obtain rfl := Option.some.inj h
    exact Val.utf_calls a0 w hk
  · cases h
def value_Hash.f (a0_0 : Int) (a0_1 : Bool) (a0_2 : Int) (a0_3 : ByteArray) : Option Int := if a0_3.size ≤ 9223372036854775807 then some (Val.hashV a0_0 a0_1 a0_2 a0_3) else none
theorem value_Hash.calls (a0_0 : Int) (a0_1 : Bool) (a0_2 : Int) (a0_3 : ByteArray) (r : Int) (w : World) (h : value_Hash.f a0_0 a0_1 a0_2 a0_3 = some r) :
    Calls Tryd.prog 53 #[.agg #[.int .u8 a0_0, .bool a0_1, .int .i64 a0_2, .string a0_3]] w fun e w' => e = .returned (.int .u64 r) ∧ Below w.heap.size w w' := by
  unfold value_Hash.f at h
  split at h
  · rename_i hk
    obtain rfl := Option.some.inj h
    exact Val.hash_calls a0_0 a0_1 a0_2 a0_3 w hk
  · cases h
def value_name.f (a0 : ByteArray) : Option Int := if a0.size ≤ 9223372036854775807 then some (Val.nameV a0) else none
theorem value_name.calls (a0 : ByteArray) (r : Int) (w : World) (h : value_name.f a0 = some r) (hT : Lib.Utf8Tabs 0 1 w) :
    Calls Tryd.prog 50 #[.string a0] w fun e w' => e = .returned (.int .i64 r) ∧ Below w.heap.size w w' := by
  unfold value_name.f at h
  split at h
  · rename_i hk
    obtain rfl := Option.some.inj h
    exact Val.name_calls a0 w hk hT
  · cases h
def potsherdref01_Name.f (a0 : ByteArray) : Option Int := if a0.size ≤ 9223372036854775804 then some (Val.nameV a0) else none
theorem potsherdref01_Name.calls (a0 : ByteArray) (r : Int) (w : World) (h : potsherdref01_Name.f a0 = some r) :
    Calls Tryd.prog 57 #[.string a0] w fun e w' => e = .returned (.int .i64 r) ∧ Below w.heap.size w w' := by
  unfold potsherdref01_Name.f at h
  split at h
  · rename_i hk
    obtain rfl := Option.some.inj h
    exact Val.rname_calls a0 w hk
  · cases h
def value_CheckCols.f (l0 : List S97) : Option Int := if l0.length < 4611686018427387904 ∧ Val.ShortC l0 then some (Val.colsV l0) else none
theorem value_CheckCols.calls (A0 : Option Addr) (c0 : Nat) (l0 : List S97) (r : Int) (w : World) (hr0 : Kd.C k97 w A0 l0.length l0) (hc0 : l0.length ≤ c0) (h : value_CheckCols.f l0 = some r) (hT : Lib.Utf8Tabs 0 1 w) :
    Calls Tryd.prog 51 #[.slice A0 l0.length c0] w fun e w' => e = .returned (.int .i64 r) ∧ Below w.heap.size w w' := by
  unfold value_CheckCols.f at h
  split at h
  · rename_i hk
    obtain rfl := Option.some.inj h
    exact Val.cols_calls A0 c0 l0 w hr0 hc0 hk.1 hk.2 hT
  · cases h
end Go.Proofs.YtfgmgcnbponknaaDoor.Lx
