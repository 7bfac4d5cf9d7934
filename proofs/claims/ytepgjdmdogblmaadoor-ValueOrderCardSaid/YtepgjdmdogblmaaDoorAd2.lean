/- The contracts of package value that were proved by hand (Hash, name, CheckCols, CompareRows), in the form that printed texts take. Conditions: as the functions' own bounds say; utf8's tables are laid where a function reads them. -/
import Derived.Test.YtepgjdmdogblmaaDoorAd1
import Derived.Test.YtepgjdmdogblmaaDoorVl17
import Derived.Test.YtepgjdmdogblmaaDoorVl19
import Derived.Test.YtepgjdmdogblmaaDoorVl21
namespace Go.Proofs.YtepgjdmdogblmaaDoor.Lx
open Go.RowKit Go.Proofs.YtepgjdmdogblmaaDoor.G Go.Proofs.YtepgjdmdogblmaaDoorW.PrintWords Go.Proofs.YtepgjdmdogblmaaDoorW.PrintLast Go.Proofs.YtepgjdmdogblmaaDoorW.PrintMore
set_option linter.unusedVariables false
theorem ne_nil_isEmpty (l : List UInt8) : (l != ([] : List UInt8)) = !l.isEmpty := by cases l <;> rfl
def value_Hash.f (a0_0 : Int) (a0_1 : Bool) (a0_2 : Int) (a0_3 : ByteArray) : Option Int := if a0_3.size ≤ 9223372036854775807 then some (Val.hashV a0_0 a0_1 a0_2 a0_3) else none
theorem value_Hash.calls (a0_0 : Int) (a0_1 : Bool) (a0_2 : Int) (a0_3 : ByteArray) (r : Int) (w : World) (h : value_Hash.f a0_0 a0_1 a0_2 a0_3 = some r) :
    Calls Tryd.prog 21 #[.agg #[.int .u8 a0_0, .bool a0_1, .int .i64 a0_2, .string a0_3]] w fun e w' => e = .returned (.int .u64 r) ∧ Below w.heap.size w w' := by
  unfold value_Hash.f at h
  split at h
  · rename_i hk
    obtain rfl := Option.some.inj h
    exact Val.hash_calls a0_0 a0_1 a0_2 a0_3 w hk
  · cases h
def value_name.f (a0 : ByteArray) : Option Int := if a0.size ≤ 9223372036854775807 then some (Val.nameV a0) else none
theorem value_name.calls (a0 : ByteArray) (r : Int) (w : World) (h : value_name.f a0 = some r) (hT : Lib.Utf8Tabs 0 1 w) :
    Calls Tryd.prog 55 #[.string a0] w fun e w' => e = .returned (.int .i64 r) ∧ Below w.heap.size w w' := by
  unfold value_name.f at h
  split at h
  · rename_i hk
    obtain rfl := Option.some.inj h
    exact Val.name_calls a0 w hk hT
  · cases h
def potsherdref01_Name.f (a0 : ByteArray) : Option Int := if a0.size ≤ 9223372036854775804 then some (Val.nameV a0) else none
theorem potsherdref01_Name.calls (a0 : ByteArray) (r : Int) (w : World) (h : potsherdref01_Name.f a0 = some r) :
    Calls Tryd.prog 56 #[.string a0] w fun e w' => e = .returned (.int .i64 r) ∧ Below w.heap.size w w' := by
  unfold potsherdref01_Name.f at h
  split at h
  · rename_i hk
    obtain rfl := Option.some.inj h
    exact Val.rname_calls a0 w hk
  · cases h
def value_CheckCols.f (l0 : List S36) : Option Int := if l0.length < 4611686018427387904 ∧ Val.ShortC l0 then some (Val.colsV l0) else none
theorem value_CheckCols.calls (A0 : Option Addr) (c0 : Nat) (l0 : List S36) (r : Int) (w : World) (hr0 : Kd.C k36 w A0 l0.length l0) (hc0 : l0.length ≤ c0) (h : value_CheckCols.f l0 = some r) (hT : Lib.Utf8Tabs 0 1 w) :
    Calls Tryd.prog 33 #[.slice A0 l0.length c0] w fun e w' => e = .returned (.int .i64 r) ∧ Below w.heap.size w w' := by
  unfold value_CheckCols.f at h
  split at h
  · rename_i hk
    obtain rfl := Option.some.inj h
    exact Val.cols_calls A0 c0 l0 w hr0 hc0 hk.1 hk.2 hT
  · cases h
def value_CompareRows.f (l0 : List S27) (l1 : List S27) : Option Int := if (l0.length < 4611686018427387904 ∧ l1.length < 4611686018427387904) ∧ Val.Short l0 ∧ Val.Short l1 then some (Val.rowsN Val.cmpV l0 l1) else none
theorem value_CompareRows.calls (A0 : Option Addr) (c0 : Nat) (l0 : List S27) (A1 : Option Addr) (c1 : Nat) (l1 : List S27) (r : Int) (w : World) (hr0 : Kd.C k27 w A0 l0.length l0) (hc0 : l0.length ≤ c0) (hr1 : Kd.C k27 w A1 l1.length l1) (hc1 : l1.length ≤ c1) (h : value_CompareRows.f l0 l1 = some r) (hT : Lib.Utf8Tabs 0 1 w) :
    Calls Tryd.prog 24 #[.slice A0 l0.length c0, .slice A1 l1.length c1] w fun e w' => e = .returned (.int .i64 r) ∧ Below w.heap.size w w' := by
  unfold value_CompareRows.f at h
  split at h
  · rename_i hk
    obtain rfl := Option.some.inj h
    exact Val.rows_calls A0 A1 c0 c1 l0 l1 w hr0 hr1 hk.1.1 hk.1.2 hk.2.1 hk.2.2 hT
  · cases h
end Go.Proofs.YtepgjdmdogblmaaDoor.Lx
