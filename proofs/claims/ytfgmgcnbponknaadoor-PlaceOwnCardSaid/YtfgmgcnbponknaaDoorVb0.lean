/- Small facts of texts (for seats that have no lives of chapter 01). No condition. -/
import Derived.Test.YtfgmgcnbponknaaDoorLw0
import Derived.Lib.Hide
import Derived.Laws.RangeAny
import Derived.Lib.TrimU
import Derived.Lib.RuneCountTail
import Derived.Lib.QuoteLoop
namespace Go.Proofs.YtfgmgcnbponknaaDoor.Val
open Go.RowKit Go.Proofs.YtfgmgcnbponknaaDoor.Lx Go.Proofs.YtfgmgcnbponknaaDoorW.PrintWords Go.Proofs.YtfgmgcnbponknaaDoorW.PrintLast Go.Proofs.YtfgmgcnbponknaaDoorW.PrintMore
set_option linter.unusedVariables false
def bitN (b : Bool) : Int := if b = true then 1 else 0
theorem empty_of {s : ByteArray} (h : s.size = 0) : s.toList = [] := by
  rw [ByteArray.toList_eq]
  exact List.eq_nil_of_length_eq_zero (by simpa using h)
theorem nonempty_of {s : ByteArray} (h : s.size ≠ 0) : s.toList ≠ [] := by
  rw [ByteArray.toList_eq]
  intro e
  apply h
  have := congrArg List.length e
  simpa using this
end Go.Proofs.YtfgmgcnbponknaaDoor.Val
