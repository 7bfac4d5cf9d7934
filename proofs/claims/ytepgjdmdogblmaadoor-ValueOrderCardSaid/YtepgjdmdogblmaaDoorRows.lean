/-
  NARROWER THAN 'FOR EVERY INPUT', by the rows' own cells (each row's printed sentence says how): ValueJoined: laid · ValueRows: laid · ValueHeld: laid · ValueOrder: laid · ValueTimes: laid · ValueNumbers: laid · ValueTables: laid · ValueBags: laid · ValueSorts: laid · ValueOwn: laid.
  DERIVED. THE GIVEN ROWS OF THIS SEAT. 10 by the template 'for every input the law returns true; each argument reads behind the call as it read before'; 0 by the template 'total and deterministic' (their statements: YtepgjdmdogblmaaDoorTotals.lean).
  GIVEN WITH THE SEED: the statements are not yours to turn. If you find one false, say at which input.
  Laid BY PROGRAM, IN A SANDBOX (cutbox-rows.mjs): the forced cells as the released guide's own fill.sh prints them over the translation edb1a06762176981… (all of the seat's roots in one cut). By AI agents, Wed Nov 11 2026. No macro, syntax, notation, axiom, sorry.
-/
import Derived.Test.YtepgjdmdogblmaaDoorChecked
import GoSem.PinnedTables
import GoSem.Claim
import GoSem.ClaimJoined
import GoSem.ClaimMapViews
import Derived.JoinedTies
import Derived.KernelRfl
namespace Go.Proofs.YtepgjdmdogblmaaDoor
/- THE CELL 'sum', in the pinned program and in every row, IS THE sha256 OF THE DUMP (.gsa) THAT YtepgjdmdogblmaaDoorProg.lean LOADS. Nothing in Lean hashes anything: it is a label: what it is worth is what the hold of that sum in a sandbox is worth. -/
noncomputable def Tryd.pinned : Pinned := { name := "ytepgjdmdogblmaadoor", sum := "edb1a0676217698149e22060c408d139f45d43d9f9aa1a66cb49b39426f7a012", checked := Tryd.checked }
namespace Rows
def none {H : Type} : Left H := { results := [], args := [] }

/- WHAT THE LISTED PACKAGE-LEVEL VARIABLES READ AS WHEN THE CALL BEGINS. Each datum BY PROGRAM (the guide's laid-datum.mjs) off the statement by which the dump's own 'gosem.cut.vars' lays the variable. In a bare row this is a premise. The card (YtepgjdmdogblmaaDoorCards.lean) ties it to the program's text. -/
def laid_unicode_utf8_acceptRanges {H : Type} : DataW H := .agg [.agg [.lit (.int .u8 128), .lit (.int .u8 191)], .agg [.lit (.int .u8 160), .lit (.int .u8 191)], .agg [.lit (.int .u8 128), .lit (.int .u8 159)], .agg [.lit (.int .u8 144), .lit (.int .u8 191)], .agg [.lit (.int .u8 128), .lit (.int .u8 143)], .agg [.lit (.int .u8 0), .lit (.int .u8 0)], .agg [.lit (.int .u8 0), .lit (.int .u8 0)], .agg [.lit (.int .u8 0), .lit (.int .u8 0)], .agg [.lit (.int .u8 0), .lit (.int .u8 0)], .agg [.lit (.int .u8 0), .lit (.int .u8 0)], .agg [.lit (.int .u8 0), .lit (.int .u8 0)], .agg [.lit (.int .u8 0), .lit (.int .u8 0)], .agg [.lit (.int .u8 0), .lit (.int .u8 0)], .agg [.lit (.int .u8 0), .lit (.int .u8 0)], .agg [.lit (.int .u8 0), .lit (.int .u8 0)], .agg [.lit (.int .u8 0), .lit (.int .u8 0)]]
/-- One of Go's own tables, pinned by name: the form's constant. -/
def laid_unicode_utf8_first : DataW Unit := Go.Pinned.utf8First

/-- 'potsherdlaw01.ValueJoined': WHATEVER THE INPUT: true; the input reads as it did. -/
def valueJoinedSpec : ChangeSpec := { name := "valueJoined", fn := fun _ => fun
  | [d1, d2] => { results := [.lit (.bool true)], args := [d1, d2] }
  | _ => none }
def valueJoinedRow : OpenClaim := { program := "ytepgjdmdogblmaadoor", sum := "edb1a0676217698149e22060c408d139f45d43d9f9aa1a66cb49b39426f7a012", func := "potsherd/potsherdlaw01.ValueJoined", spec := "valueJoined", unfollowed := true, recurses := true, named := ["unicode/utf8.first", "unicode/utf8.acceptRanges"], apart := false, laid := [("unicode/utf8.acceptRanges", laid_unicode_utf8_acceptRanges), ("unicode/utf8.first", laid_unicode_utf8_first)] }
def ValueJoinedSaid : Prop := valueJoinedRow.holds Tryd.pinned (OpenSpec.ofChange valueJoinedSpec)

/-- ITS FALSE NEIGHBOUR: 'it returns false'. Refute it at one input. -/
def valueJoinedWrong : ChangeSpec := { name := "valueJoined", fn := fun _ => fun
  | [d1, d2] => { results := [.lit (.bool false)], args := [d1, d2] }
  | _ => none }
def ValueJoinedWrongFalsely : Prop := valueJoinedRow.holds Tryd.pinned (OpenSpec.ofChange valueJoinedWrong)

/-- 'potsherdlaw01.ValueRows': WHATEVER THE INPUT: true; the input reads as it did. -/
def valueRowsSpec : ChangeSpec := { name := "valueRows", fn := fun _ => fun
  | [d1, d2, d3] => { results := [.lit (.bool true)], args := [d1, d2, d3] }
  | _ => none }
def valueRowsRow : OpenClaim := { program := "ytepgjdmdogblmaadoor", sum := "edb1a0676217698149e22060c408d139f45d43d9f9aa1a66cb49b39426f7a012", func := "potsherd/potsherdlaw01.ValueRows", spec := "valueRows", unfollowed := true, recurses := true, named := ["unicode/utf8.first", "unicode/utf8.acceptRanges"], apart := false, laid := [("unicode/utf8.acceptRanges", laid_unicode_utf8_acceptRanges), ("unicode/utf8.first", laid_unicode_utf8_first)] }
def ValueRowsSaid : Prop := valueRowsRow.holds Tryd.pinned (OpenSpec.ofChange valueRowsSpec)

/-- ITS FALSE NEIGHBOUR: 'it returns false'. Refute it at one input. -/
def valueRowsWrong : ChangeSpec := { name := "valueRows", fn := fun _ => fun
  | [d1, d2, d3] => { results := [.lit (.bool false)], args := [d1, d2, d3] }
  | _ => none }
def ValueRowsWrongFalsely : Prop := valueRowsRow.holds Tryd.pinned (OpenSpec.ofChange valueRowsWrong)

/-- 'potsherdlaw01.ValueHeld': WHATEVER THE INPUT: true; the input reads as it did. -/
def valueHeldSpec : ChangeSpec := { name := "valueHeld", fn := fun _ => fun
  | [d1, d2] => { results := [.lit (.bool true)], args := [d1, d2] }
  | _ => none }
def valueHeldRow : OpenClaim := { program := "ytepgjdmdogblmaadoor", sum := "edb1a0676217698149e22060c408d139f45d43d9f9aa1a66cb49b39426f7a012", func := "potsherd/potsherdlaw01.ValueHeld", spec := "valueHeld", unfollowed := true, recurses := true, named := ["unicode/utf8.first", "unicode/utf8.acceptRanges"], apart := false, laid := [("unicode/utf8.acceptRanges", laid_unicode_utf8_acceptRanges), ("unicode/utf8.first", laid_unicode_utf8_first)] }
def ValueHeldSaid : Prop := valueHeldRow.holds Tryd.pinned (OpenSpec.ofChange valueHeldSpec)

/-- ITS FALSE NEIGHBOUR: 'it returns false'. Refute it at one input. -/
def valueHeldWrong : ChangeSpec := { name := "valueHeld", fn := fun _ => fun
  | [d1, d2] => { results := [.lit (.bool false)], args := [d1, d2] }
  | _ => none }
def ValueHeldWrongFalsely : Prop := valueHeldRow.holds Tryd.pinned (OpenSpec.ofChange valueHeldWrong)

/-- 'potsherdlaw01.ValueOrder': WHATEVER THE INPUT: true; the input reads as it did. -/
def valueOrderSpec : ChangeSpec := { name := "valueOrder", fn := fun _ => fun
  | [d1, d2, d3] => { results := [.lit (.bool true)], args := [d1, d2, d3] }
  | _ => none }
def valueOrderRow : OpenClaim := { program := "ytepgjdmdogblmaadoor", sum := "edb1a0676217698149e22060c408d139f45d43d9f9aa1a66cb49b39426f7a012", func := "potsherd/potsherdlaw01.ValueOrder", spec := "valueOrder", unfollowed := true, recurses := true, named := ["unicode/utf8.first", "unicode/utf8.acceptRanges"], apart := false, laid := [("unicode/utf8.acceptRanges", laid_unicode_utf8_acceptRanges), ("unicode/utf8.first", laid_unicode_utf8_first)] }
def ValueOrderSaid : Prop := valueOrderRow.holds Tryd.pinned (OpenSpec.ofChange valueOrderSpec)

/-- ITS FALSE NEIGHBOUR: 'it returns false'. Refute it at one input. -/
def valueOrderWrong : ChangeSpec := { name := "valueOrder", fn := fun _ => fun
  | [d1, d2, d3] => { results := [.lit (.bool false)], args := [d1, d2, d3] }
  | _ => none }
def ValueOrderWrongFalsely : Prop := valueOrderRow.holds Tryd.pinned (OpenSpec.ofChange valueOrderWrong)

/-- 'potsherdlaw01.ValueTimes': WHATEVER THE INPUT: true; the input reads as it did. -/
def valueTimesSpec : ChangeSpec := { name := "valueTimes", fn := fun _ => fun
  | [d1, d2] => { results := [.lit (.bool true)], args := [d1, d2] }
  | _ => none }
def valueTimesRow : OpenClaim := { program := "ytepgjdmdogblmaadoor", sum := "edb1a0676217698149e22060c408d139f45d43d9f9aa1a66cb49b39426f7a012", func := "potsherd/potsherdlaw01.ValueTimes", spec := "valueTimes", unfollowed := true, recurses := true, named := ["unicode/utf8.first", "unicode/utf8.acceptRanges"], apart := false, laid := [("unicode/utf8.acceptRanges", laid_unicode_utf8_acceptRanges), ("unicode/utf8.first", laid_unicode_utf8_first)] }
def ValueTimesSaid : Prop := valueTimesRow.holds Tryd.pinned (OpenSpec.ofChange valueTimesSpec)

/-- ITS FALSE NEIGHBOUR: 'it returns false'. Refute it at one input. -/
def valueTimesWrong : ChangeSpec := { name := "valueTimes", fn := fun _ => fun
  | [d1, d2] => { results := [.lit (.bool false)], args := [d1, d2] }
  | _ => none }
def ValueTimesWrongFalsely : Prop := valueTimesRow.holds Tryd.pinned (OpenSpec.ofChange valueTimesWrong)

/-- 'potsherdlaw01.ValueNumbers': WHATEVER THE INPUT: true; the input reads as it did. -/
def valueNumbersSpec : ChangeSpec := { name := "valueNumbers", fn := fun _ => fun
  | [d1, d2] => { results := [.lit (.bool true)], args := [d1, d2] }
  | _ => none }
def valueNumbersRow : OpenClaim := { program := "ytepgjdmdogblmaadoor", sum := "edb1a0676217698149e22060c408d139f45d43d9f9aa1a66cb49b39426f7a012", func := "potsherd/potsherdlaw01.ValueNumbers", spec := "valueNumbers", unfollowed := true, recurses := true, named := ["unicode/utf8.first", "unicode/utf8.acceptRanges"], apart := false, laid := [("unicode/utf8.acceptRanges", laid_unicode_utf8_acceptRanges), ("unicode/utf8.first", laid_unicode_utf8_first)] }
def ValueNumbersSaid : Prop := valueNumbersRow.holds Tryd.pinned (OpenSpec.ofChange valueNumbersSpec)

/-- ITS FALSE NEIGHBOUR: 'it returns false'. Refute it at one input. -/
def valueNumbersWrong : ChangeSpec := { name := "valueNumbers", fn := fun _ => fun
  | [d1, d2] => { results := [.lit (.bool false)], args := [d1, d2] }
  | _ => none }
def ValueNumbersWrongFalsely : Prop := valueNumbersRow.holds Tryd.pinned (OpenSpec.ofChange valueNumbersWrong)

/-- 'potsherdlaw01.ValueTables': WHATEVER THE INPUT: true; the input reads as it did. -/
def valueTablesSpec : ChangeSpec := { name := "valueTables", fn := fun _ => fun
  | [d1, d2] => { results := [.lit (.bool true)], args := [d1, d2] }
  | _ => none }
def valueTablesRow : OpenClaim := { program := "ytepgjdmdogblmaadoor", sum := "edb1a0676217698149e22060c408d139f45d43d9f9aa1a66cb49b39426f7a012", func := "potsherd/potsherdlaw01.ValueTables", spec := "valueTables", unfollowed := true, recurses := true, named := ["unicode/utf8.first", "unicode/utf8.acceptRanges"], apart := false, laid := [("unicode/utf8.acceptRanges", laid_unicode_utf8_acceptRanges), ("unicode/utf8.first", laid_unicode_utf8_first)] }
def ValueTablesSaid : Prop := valueTablesRow.holds Tryd.pinned (OpenSpec.ofChange valueTablesSpec)

/-- ITS FALSE NEIGHBOUR: 'it returns false'. Refute it at one input. -/
def valueTablesWrong : ChangeSpec := { name := "valueTables", fn := fun _ => fun
  | [d1, d2] => { results := [.lit (.bool false)], args := [d1, d2] }
  | _ => none }
def ValueTablesWrongFalsely : Prop := valueTablesRow.holds Tryd.pinned (OpenSpec.ofChange valueTablesWrong)

/-- 'potsherdlaw01.ValueBags': WHATEVER THE INPUT: true; the input reads as it did. -/
def valueBagsSpec : ChangeSpec := { name := "valueBags", fn := fun _ => fun
  | [d1, d2] => { results := [.lit (.bool true)], args := [d1, d2] }
  | _ => none }
def valueBagsRow : OpenClaim := { program := "ytepgjdmdogblmaadoor", sum := "edb1a0676217698149e22060c408d139f45d43d9f9aa1a66cb49b39426f7a012", func := "potsherd/potsherdlaw01.ValueBags", spec := "valueBags", unfollowed := true, recurses := true, named := ["unicode/utf8.first", "unicode/utf8.acceptRanges"], apart := false, laid := [("unicode/utf8.acceptRanges", laid_unicode_utf8_acceptRanges), ("unicode/utf8.first", laid_unicode_utf8_first)] }
def ValueBagsSaid : Prop := valueBagsRow.holds Tryd.pinned (OpenSpec.ofChange valueBagsSpec)

/-- ITS FALSE NEIGHBOUR: 'it returns false'. Refute it at one input. -/
def valueBagsWrong : ChangeSpec := { name := "valueBags", fn := fun _ => fun
  | [d1, d2] => { results := [.lit (.bool false)], args := [d1, d2] }
  | _ => none }
def ValueBagsWrongFalsely : Prop := valueBagsRow.holds Tryd.pinned (OpenSpec.ofChange valueBagsWrong)

/-- 'potsherdlaw01.ValueSorts': WHATEVER THE INPUT: true; the input reads as it did. -/
def valueSortsSpec : ChangeSpec := { name := "valueSorts", fn := fun _ => fun
  | [d1, d2] => { results := [.lit (.bool true)], args := [d1, d2] }
  | _ => none }
def valueSortsRow : OpenClaim := { program := "ytepgjdmdogblmaadoor", sum := "edb1a0676217698149e22060c408d139f45d43d9f9aa1a66cb49b39426f7a012", func := "potsherd/potsherdlaw01.ValueSorts", spec := "valueSorts", unfollowed := true, recurses := true, named := ["unicode/utf8.first", "unicode/utf8.acceptRanges"], apart := false, laid := [("unicode/utf8.acceptRanges", laid_unicode_utf8_acceptRanges), ("unicode/utf8.first", laid_unicode_utf8_first)] }
def ValueSortsSaid : Prop := valueSortsRow.holds Tryd.pinned (OpenSpec.ofChange valueSortsSpec)

/-- ITS FALSE NEIGHBOUR: 'it returns false'. Refute it at one input. -/
def valueSortsWrong : ChangeSpec := { name := "valueSorts", fn := fun _ => fun
  | [d1, d2] => { results := [.lit (.bool false)], args := [d1, d2] }
  | _ => none }
def ValueSortsWrongFalsely : Prop := valueSortsRow.holds Tryd.pinned (OpenSpec.ofChange valueSortsWrong)

/-- 'potsherdlaw01.ValueOwn': WHATEVER THE INPUT: true; the input reads as it did. -/
def valueOwnSpec : ChangeSpec := { name := "valueOwn", fn := fun _ => fun
  | [d] => { results := [.lit (.bool true)], args := [d] }
  | _ => none }
def valueOwnRow : OpenClaim := { program := "ytepgjdmdogblmaadoor", sum := "edb1a0676217698149e22060c408d139f45d43d9f9aa1a66cb49b39426f7a012", func := "potsherd/potsherdlaw01.ValueOwn", spec := "valueOwn", unfollowed := true, recurses := true, named := ["unicode/utf8.first", "unicode/utf8.acceptRanges"], apart := false, laid := [("unicode/utf8.acceptRanges", laid_unicode_utf8_acceptRanges), ("unicode/utf8.first", laid_unicode_utf8_first)] }
def ValueOwnSaid : Prop := valueOwnRow.holds Tryd.pinned (OpenSpec.ofChange valueOwnSpec)

/-- ITS FALSE NEIGHBOUR: 'it returns false'. Refute it at one input. -/
def valueOwnWrong : ChangeSpec := { name := "valueOwn", fn := fun _ => fun
  | [d] => { results := [.lit (.bool false)], args := [d] }
  | _ => none }
def ValueOwnWrongFalsely : Prop := valueOwnRow.holds Tryd.pinned (OpenSpec.ofChange valueOwnWrong)

/- THE SECOND FORM. 'bulk': how many values and letters a reading holds, each counted each time it is reached (what is shared counts as often as it is met; a slice's spare places count too). A statement '..UptoSaid' is the law's where the arguments, and the package variables that the reading takes, are together of bulk at most 1048576: NARROWER than '..Said'. Prove '..Said' where nothing that the law and all that it calls make is longer than what came in: it says more and counts as full. Else prove '..UptoSaid'. A law counts once. -/
mutual
def uptoBulk {H : Type} : DataW H → Nat
  | .lit (.string bytes) => bytes.length + 1
  | .lit _ => 1
  | .nil => 1
  | .ptr d => uptoBulk d + 1
  | .slice elems spare => uptoBulkAll elems + uptoBulkAll spare + 1
  | .agg parts => uptoBulkAll parts + 1
  | .iface _ d => uptoBulk d + 1
  | .map entries => uptoBulkEntries entries + 1
  | .held _ => 1
def uptoBulkAll {H : Type} : List (DataW H) → Nat
  | [] => 0
  | d :: r => uptoBulk d + uptoBulkAll r
def uptoBulkEntries {H : Type} : List (Lit × DataW H) → Nat
  | [] => 0
  | x :: r => uptoBulkEntry x + uptoBulkEntries r
def uptoBulkEntry {H : Type} : Lit × DataW H → Nat
  | (.string bytes, d) => bytes.length + uptoBulk d + 1
  | (_, d) => uptoBulk d + 1
 end
def uptoSmall : (H : Type) → List (DataW H) → Bool := fun _ ds => decide (uptoBulkAll ds ≤ 1048576)
def OpenSpec.upto (s : _root_.Go.ChangeSpec) : _root_.Go.OpenSpec := { _root_.Go.OpenSpec.ofChange s with cond := some uptoSmall }

/-- 'potsherdlaw01.ValueJoined', WHERE WHAT IT READS IS OF BULK AT MOST 1048576: true; the input reads as it did. -/
def valueJoinedUptoRow : OpenClaim := { program := "ytepgjdmdogblmaadoor", sum := "edb1a0676217698149e22060c408d139f45d43d9f9aa1a66cb49b39426f7a012", func := "potsherd/potsherdlaw01.ValueJoined", spec := "valueJoined", unfollowed := true, recurses := true, named := ["unicode/utf8.first", "unicode/utf8.acceptRanges"], apart := false, laid := [("unicode/utf8.acceptRanges", laid_unicode_utf8_acceptRanges), ("unicode/utf8.first", laid_unicode_utf8_first)], narrowed := true }
def ValueJoinedUptoSaid : Prop := valueJoinedUptoRow.holds Tryd.pinned (OpenSpec.upto valueJoinedSpec)

/-- 'potsherdlaw01.ValueRows', WHERE WHAT IT READS IS OF BULK AT MOST 1048576: true; the input reads as it did. -/
def valueRowsUptoRow : OpenClaim := { program := "ytepgjdmdogblmaadoor", sum := "edb1a0676217698149e22060c408d139f45d43d9f9aa1a66cb49b39426f7a012", func := "potsherd/potsherdlaw01.ValueRows", spec := "valueRows", unfollowed := true, recurses := true, named := ["unicode/utf8.first", "unicode/utf8.acceptRanges"], apart := false, laid := [("unicode/utf8.acceptRanges", laid_unicode_utf8_acceptRanges), ("unicode/utf8.first", laid_unicode_utf8_first)], narrowed := true }
def ValueRowsUptoSaid : Prop := valueRowsUptoRow.holds Tryd.pinned (OpenSpec.upto valueRowsSpec)

/-- 'potsherdlaw01.ValueHeld', WHERE WHAT IT READS IS OF BULK AT MOST 1048576: true; the input reads as it did. -/
def valueHeldUptoRow : OpenClaim := { program := "ytepgjdmdogblmaadoor", sum := "edb1a0676217698149e22060c408d139f45d43d9f9aa1a66cb49b39426f7a012", func := "potsherd/potsherdlaw01.ValueHeld", spec := "valueHeld", unfollowed := true, recurses := true, named := ["unicode/utf8.first", "unicode/utf8.acceptRanges"], apart := false, laid := [("unicode/utf8.acceptRanges", laid_unicode_utf8_acceptRanges), ("unicode/utf8.first", laid_unicode_utf8_first)], narrowed := true }
def ValueHeldUptoSaid : Prop := valueHeldUptoRow.holds Tryd.pinned (OpenSpec.upto valueHeldSpec)

/-- 'potsherdlaw01.ValueOrder', WHERE WHAT IT READS IS OF BULK AT MOST 1048576: true; the input reads as it did. -/
def valueOrderUptoRow : OpenClaim := { program := "ytepgjdmdogblmaadoor", sum := "edb1a0676217698149e22060c408d139f45d43d9f9aa1a66cb49b39426f7a012", func := "potsherd/potsherdlaw01.ValueOrder", spec := "valueOrder", unfollowed := true, recurses := true, named := ["unicode/utf8.first", "unicode/utf8.acceptRanges"], apart := false, laid := [("unicode/utf8.acceptRanges", laid_unicode_utf8_acceptRanges), ("unicode/utf8.first", laid_unicode_utf8_first)], narrowed := true }
def ValueOrderUptoSaid : Prop := valueOrderUptoRow.holds Tryd.pinned (OpenSpec.upto valueOrderSpec)

/-- 'potsherdlaw01.ValueTimes', WHERE WHAT IT READS IS OF BULK AT MOST 1048576: true; the input reads as it did. -/
def valueTimesUptoRow : OpenClaim := { program := "ytepgjdmdogblmaadoor", sum := "edb1a0676217698149e22060c408d139f45d43d9f9aa1a66cb49b39426f7a012", func := "potsherd/potsherdlaw01.ValueTimes", spec := "valueTimes", unfollowed := true, recurses := true, named := ["unicode/utf8.first", "unicode/utf8.acceptRanges"], apart := false, laid := [("unicode/utf8.acceptRanges", laid_unicode_utf8_acceptRanges), ("unicode/utf8.first", laid_unicode_utf8_first)], narrowed := true }
def ValueTimesUptoSaid : Prop := valueTimesUptoRow.holds Tryd.pinned (OpenSpec.upto valueTimesSpec)

/-- 'potsherdlaw01.ValueNumbers', WHERE WHAT IT READS IS OF BULK AT MOST 1048576: true; the input reads as it did. -/
def valueNumbersUptoRow : OpenClaim := { program := "ytepgjdmdogblmaadoor", sum := "edb1a0676217698149e22060c408d139f45d43d9f9aa1a66cb49b39426f7a012", func := "potsherd/potsherdlaw01.ValueNumbers", spec := "valueNumbers", unfollowed := true, recurses := true, named := ["unicode/utf8.first", "unicode/utf8.acceptRanges"], apart := false, laid := [("unicode/utf8.acceptRanges", laid_unicode_utf8_acceptRanges), ("unicode/utf8.first", laid_unicode_utf8_first)], narrowed := true }
def ValueNumbersUptoSaid : Prop := valueNumbersUptoRow.holds Tryd.pinned (OpenSpec.upto valueNumbersSpec)

/-- 'potsherdlaw01.ValueTables', WHERE WHAT IT READS IS OF BULK AT MOST 1048576: true; the input reads as it did. -/
def valueTablesUptoRow : OpenClaim := { program := "ytepgjdmdogblmaadoor", sum := "edb1a0676217698149e22060c408d139f45d43d9f9aa1a66cb49b39426f7a012", func := "potsherd/potsherdlaw01.ValueTables", spec := "valueTables", unfollowed := true, recurses := true, named := ["unicode/utf8.first", "unicode/utf8.acceptRanges"], apart := false, laid := [("unicode/utf8.acceptRanges", laid_unicode_utf8_acceptRanges), ("unicode/utf8.first", laid_unicode_utf8_first)], narrowed := true }
def ValueTablesUptoSaid : Prop := valueTablesUptoRow.holds Tryd.pinned (OpenSpec.upto valueTablesSpec)

/-- 'potsherdlaw01.ValueBags', WHERE WHAT IT READS IS OF BULK AT MOST 1048576: true; the input reads as it did. -/
def valueBagsUptoRow : OpenClaim := { program := "ytepgjdmdogblmaadoor", sum := "edb1a0676217698149e22060c408d139f45d43d9f9aa1a66cb49b39426f7a012", func := "potsherd/potsherdlaw01.ValueBags", spec := "valueBags", unfollowed := true, recurses := true, named := ["unicode/utf8.first", "unicode/utf8.acceptRanges"], apart := false, laid := [("unicode/utf8.acceptRanges", laid_unicode_utf8_acceptRanges), ("unicode/utf8.first", laid_unicode_utf8_first)], narrowed := true }
def ValueBagsUptoSaid : Prop := valueBagsUptoRow.holds Tryd.pinned (OpenSpec.upto valueBagsSpec)

/-- 'potsherdlaw01.ValueSorts', WHERE WHAT IT READS IS OF BULK AT MOST 1048576: true; the input reads as it did. -/
def valueSortsUptoRow : OpenClaim := { program := "ytepgjdmdogblmaadoor", sum := "edb1a0676217698149e22060c408d139f45d43d9f9aa1a66cb49b39426f7a012", func := "potsherd/potsherdlaw01.ValueSorts", spec := "valueSorts", unfollowed := true, recurses := true, named := ["unicode/utf8.first", "unicode/utf8.acceptRanges"], apart := false, laid := [("unicode/utf8.acceptRanges", laid_unicode_utf8_acceptRanges), ("unicode/utf8.first", laid_unicode_utf8_first)], narrowed := true }
def ValueSortsUptoSaid : Prop := valueSortsUptoRow.holds Tryd.pinned (OpenSpec.upto valueSortsSpec)

/-- 'potsherdlaw01.ValueOwn', WHERE WHAT IT READS IS OF BULK AT MOST 1048576: true; the input reads as it did. -/
def valueOwnUptoRow : OpenClaim := { program := "ytepgjdmdogblmaadoor", sum := "edb1a0676217698149e22060c408d139f45d43d9f9aa1a66cb49b39426f7a012", func := "potsherd/potsherdlaw01.ValueOwn", spec := "valueOwn", unfollowed := true, recurses := true, named := ["unicode/utf8.first", "unicode/utf8.acceptRanges"], apart := false, laid := [("unicode/utf8.acceptRanges", laid_unicode_utf8_acceptRanges), ("unicode/utf8.first", laid_unicode_utf8_first)], narrowed := true }
def ValueOwnUptoSaid : Prop := valueOwnUptoRow.holds Tryd.pinned (OpenSpec.upto valueOwnSpec)

end Rows
end Go.Proofs.YtepgjdmdogblmaaDoor
