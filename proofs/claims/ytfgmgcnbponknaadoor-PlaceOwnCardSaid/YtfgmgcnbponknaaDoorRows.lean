/-
  NARROWER THAN 'FOR EVERY INPUT', by the rows' own cells (each row's printed sentence says how): PlaceOwn: laid · PlaceLays: laid · PlaceClaims: laid · PlaceOwners: laid · PlaceDown: laid · PlaceTurned: laid · PlaceOnce: laid.
  DERIVED. THE GIVEN ROWS OF THIS SEAT. 7 by the template 'for every input the law returns true; each argument reads behind the call as it read before'; 0 by the template 'total and deterministic' (their statements: YtfgmgcnbponknaaDoorTotals.lean).
  GIVEN WITH THE SEED: the statements are not yours to turn. If you find one false, say at which input.
  Laid BY PROGRAM, IN A SANDBOX (cutbox-rows.mjs): the forced cells as the released guide's own fill.sh prints them over the translation ca7e11830d286d02… (all of the seat's roots in one cut). By AI agents, Wed Nov 11 2026. No macro, syntax, notation, axiom, sorry.
-/
import Derived.Test.YtfgmgcnbponknaaDoorChecked
import GoSem.PinnedTables
import GoSem.Claim
import GoSem.ClaimJoined
import GoSem.ClaimMapViews
import Derived.JoinedTies
import Derived.KernelRfl
namespace Go.Proofs.YtfgmgcnbponknaaDoor
/- THE CELL 'sum', in the pinned program and in every row, IS THE sha256 OF THE DUMP (.gsa) THAT YtfgmgcnbponknaaDoorProg.lean LOADS. Nothing in Lean hashes anything: it is a label: what it is worth is what the hold of that sum in a sandbox is worth. -/
noncomputable def Tryd.pinned : Pinned := { name := "ytfgmgcnbponknaadoor", sum := "ca7e11830d286d026b5fe83791d83c58ca55a383601beb9f560c4728c31f4d80", checked := Tryd.checked }
namespace Rows
def none {H : Type} : Left H := { results := [], args := [] }

/- WHAT THE LISTED PACKAGE-LEVEL VARIABLES READ AS WHEN THE CALL BEGINS. Each datum BY PROGRAM (the guide's laid-datum.mjs) off the statement by which the dump's own 'gosem.cut.vars' lays the variable. In a bare row this is a premise. The card (YtfgmgcnbponknaaDoorCards.lean) ties it to the program's text. -/
def laid_unicode_utf8_acceptRanges {H : Type} : DataW H := .agg [.agg [.lit (.int .u8 128), .lit (.int .u8 191)], .agg [.lit (.int .u8 160), .lit (.int .u8 191)], .agg [.lit (.int .u8 128), .lit (.int .u8 159)], .agg [.lit (.int .u8 144), .lit (.int .u8 191)], .agg [.lit (.int .u8 128), .lit (.int .u8 143)], .agg [.lit (.int .u8 0), .lit (.int .u8 0)], .agg [.lit (.int .u8 0), .lit (.int .u8 0)], .agg [.lit (.int .u8 0), .lit (.int .u8 0)], .agg [.lit (.int .u8 0), .lit (.int .u8 0)], .agg [.lit (.int .u8 0), .lit (.int .u8 0)], .agg [.lit (.int .u8 0), .lit (.int .u8 0)], .agg [.lit (.int .u8 0), .lit (.int .u8 0)], .agg [.lit (.int .u8 0), .lit (.int .u8 0)], .agg [.lit (.int .u8 0), .lit (.int .u8 0)], .agg [.lit (.int .u8 0), .lit (.int .u8 0)], .agg [.lit (.int .u8 0), .lit (.int .u8 0)]]
/-- One of Go's own tables, pinned by name: the form's constant. -/
def laid_unicode_utf8_first : DataW Unit := Go.Pinned.utf8First

/-- 'potsherdlaw06.PlaceOwn': WHATEVER THE INPUT: true; the input reads as it did. -/
def placeOwnSpec : ChangeSpec := { name := "placeOwn", fn := fun _ => fun
  | [d1, d2] => { results := [.lit (.bool true)], args := [d1, d2] }
  | _ => none }
def placeOwnRow : OpenClaim := { program := "ytfgmgcnbponknaadoor", sum := "ca7e11830d286d026b5fe83791d83c58ca55a383601beb9f560c4728c31f4d80", func := "potsherd/potsherdlaw06.PlaceOwn", spec := "placeOwn", unfollowed := true, recurses := true, named := ["unicode/utf8.first", "unicode/utf8.acceptRanges"], apart := false, laid := [("unicode/utf8.acceptRanges", laid_unicode_utf8_acceptRanges), ("unicode/utf8.first", laid_unicode_utf8_first)] }
def PlaceOwnSaid : Prop := placeOwnRow.holds Tryd.pinned (OpenSpec.ofChange placeOwnSpec)

/-- ITS FALSE NEIGHBOUR: 'it returns false'. Refute it at one input. -/
def placeOwnWrong : ChangeSpec := { name := "placeOwn", fn := fun _ => fun
  | [d1, d2] => { results := [.lit (.bool false)], args := [d1, d2] }
  | _ => none }
def PlaceOwnWrongFalsely : Prop := placeOwnRow.holds Tryd.pinned (OpenSpec.ofChange placeOwnWrong)

/-- 'potsherdlaw06.PlaceLays': WHATEVER THE INPUT: true; the input reads as it did. -/
def placeLaysSpec : ChangeSpec := { name := "placeLays", fn := fun _ => fun
  | [d1, d2, d3, d4] => { results := [.lit (.bool true)], args := [d1, d2, d3, d4] }
  | _ => none }
def placeLaysRow : OpenClaim := { program := "ytfgmgcnbponknaadoor", sum := "ca7e11830d286d026b5fe83791d83c58ca55a383601beb9f560c4728c31f4d80", func := "potsherd/potsherdlaw06.PlaceLays", spec := "placeLays", unfollowed := true, recurses := true, named := ["unicode/utf8.first", "unicode/utf8.acceptRanges"], apart := false, laid := [("unicode/utf8.acceptRanges", laid_unicode_utf8_acceptRanges), ("unicode/utf8.first", laid_unicode_utf8_first)] }
def PlaceLaysSaid : Prop := placeLaysRow.holds Tryd.pinned (OpenSpec.ofChange placeLaysSpec)

/-- ITS FALSE NEIGHBOUR: 'it returns false'. Refute it at one input. -/
def placeLaysWrong : ChangeSpec := { name := "placeLays", fn := fun _ => fun
  | [d1, d2, d3, d4] => { results := [.lit (.bool false)], args := [d1, d2, d3, d4] }
  | _ => none }
def PlaceLaysWrongFalsely : Prop := placeLaysRow.holds Tryd.pinned (OpenSpec.ofChange placeLaysWrong)

/-- 'potsherdlaw06.PlaceClaims': WHATEVER THE INPUT: true; the input reads as it did. -/
def placeClaimsSpec : ChangeSpec := { name := "placeClaims", fn := fun _ => fun
  | [d1, d2, d3] => { results := [.lit (.bool true)], args := [d1, d2, d3] }
  | _ => none }
def placeClaimsRow : OpenClaim := { program := "ytfgmgcnbponknaadoor", sum := "ca7e11830d286d026b5fe83791d83c58ca55a383601beb9f560c4728c31f4d80", func := "potsherd/potsherdlaw06.PlaceClaims", spec := "placeClaims", unfollowed := true, recurses := true, named := ["unicode/utf8.first", "unicode/utf8.acceptRanges"], apart := false, laid := [("unicode/utf8.acceptRanges", laid_unicode_utf8_acceptRanges), ("unicode/utf8.first", laid_unicode_utf8_first)] }
def PlaceClaimsSaid : Prop := placeClaimsRow.holds Tryd.pinned (OpenSpec.ofChange placeClaimsSpec)

/-- ITS FALSE NEIGHBOUR: 'it returns false'. Refute it at one input. -/
def placeClaimsWrong : ChangeSpec := { name := "placeClaims", fn := fun _ => fun
  | [d1, d2, d3] => { results := [.lit (.bool false)], args := [d1, d2, d3] }
  | _ => none }
def PlaceClaimsWrongFalsely : Prop := placeClaimsRow.holds Tryd.pinned (OpenSpec.ofChange placeClaimsWrong)

/-- 'potsherdlaw06.PlaceOwners': WHATEVER THE INPUT: true; the input reads as it did. -/
def placeOwnersSpec : ChangeSpec := { name := "placeOwners", fn := fun _ => fun
  | [d1, d2, d3, d4] => { results := [.lit (.bool true)], args := [d1, d2, d3, d4] }
  | _ => none }
def placeOwnersRow : OpenClaim := { program := "ytfgmgcnbponknaadoor", sum := "ca7e11830d286d026b5fe83791d83c58ca55a383601beb9f560c4728c31f4d80", func := "potsherd/potsherdlaw06.PlaceOwners", spec := "placeOwners", unfollowed := true, recurses := true, named := ["unicode/utf8.first", "unicode/utf8.acceptRanges"], apart := false, laid := [("unicode/utf8.acceptRanges", laid_unicode_utf8_acceptRanges), ("unicode/utf8.first", laid_unicode_utf8_first)] }
def PlaceOwnersSaid : Prop := placeOwnersRow.holds Tryd.pinned (OpenSpec.ofChange placeOwnersSpec)

/-- ITS FALSE NEIGHBOUR: 'it returns false'. Refute it at one input. -/
def placeOwnersWrong : ChangeSpec := { name := "placeOwners", fn := fun _ => fun
  | [d1, d2, d3, d4] => { results := [.lit (.bool false)], args := [d1, d2, d3, d4] }
  | _ => none }
def PlaceOwnersWrongFalsely : Prop := placeOwnersRow.holds Tryd.pinned (OpenSpec.ofChange placeOwnersWrong)

/-- 'potsherdlaw06.PlaceDown': WHATEVER THE INPUT: true; the input reads as it did. -/
def placeDownSpec : ChangeSpec := { name := "placeDown", fn := fun _ => fun
  | [d1, d2, d3, d4] => { results := [.lit (.bool true)], args := [d1, d2, d3, d4] }
  | _ => none }
def placeDownRow : OpenClaim := { program := "ytfgmgcnbponknaadoor", sum := "ca7e11830d286d026b5fe83791d83c58ca55a383601beb9f560c4728c31f4d80", func := "potsherd/potsherdlaw06.PlaceDown", spec := "placeDown", unfollowed := true, recurses := true, named := ["unicode/utf8.first", "unicode/utf8.acceptRanges"], apart := false, laid := [("unicode/utf8.acceptRanges", laid_unicode_utf8_acceptRanges), ("unicode/utf8.first", laid_unicode_utf8_first)] }
def PlaceDownSaid : Prop := placeDownRow.holds Tryd.pinned (OpenSpec.ofChange placeDownSpec)

/-- ITS FALSE NEIGHBOUR: 'it returns false'. Refute it at one input. -/
def placeDownWrong : ChangeSpec := { name := "placeDown", fn := fun _ => fun
  | [d1, d2, d3, d4] => { results := [.lit (.bool false)], args := [d1, d2, d3, d4] }
  | _ => none }
def PlaceDownWrongFalsely : Prop := placeDownRow.holds Tryd.pinned (OpenSpec.ofChange placeDownWrong)

/-- 'potsherdlaw06.PlaceTurned': WHATEVER THE INPUT: true; the input reads as it did. -/
def placeTurnedSpec : ChangeSpec := { name := "placeTurned", fn := fun _ => fun
  | [d1, d2] => { results := [.lit (.bool true)], args := [d1, d2] }
  | _ => none }
def placeTurnedRow : OpenClaim := { program := "ytfgmgcnbponknaadoor", sum := "ca7e11830d286d026b5fe83791d83c58ca55a383601beb9f560c4728c31f4d80", func := "potsherd/potsherdlaw06.PlaceTurned", spec := "placeTurned", unfollowed := true, recurses := true, named := ["unicode/utf8.first", "unicode/utf8.acceptRanges"], apart := false, laid := [("unicode/utf8.acceptRanges", laid_unicode_utf8_acceptRanges), ("unicode/utf8.first", laid_unicode_utf8_first)] }
def PlaceTurnedSaid : Prop := placeTurnedRow.holds Tryd.pinned (OpenSpec.ofChange placeTurnedSpec)

/-- ITS FALSE NEIGHBOUR: 'it returns false'. Refute it at one input. -/
def placeTurnedWrong : ChangeSpec := { name := "placeTurned", fn := fun _ => fun
  | [d1, d2] => { results := [.lit (.bool false)], args := [d1, d2] }
  | _ => none }
def PlaceTurnedWrongFalsely : Prop := placeTurnedRow.holds Tryd.pinned (OpenSpec.ofChange placeTurnedWrong)

/-- 'potsherdlaw06.PlaceOnce': WHATEVER THE INPUT: true; the input reads as it did. -/
def placeOnceSpec : ChangeSpec := { name := "placeOnce", fn := fun _ => fun
  | [d1, d2] => { results := [.lit (.bool true)], args := [d1, d2] }
  | _ => none }
def placeOnceRow : OpenClaim := { program := "ytfgmgcnbponknaadoor", sum := "ca7e11830d286d026b5fe83791d83c58ca55a383601beb9f560c4728c31f4d80", func := "potsherd/potsherdlaw06.PlaceOnce", spec := "placeOnce", unfollowed := true, recurses := true, named := ["unicode/utf8.first", "unicode/utf8.acceptRanges"], apart := false, laid := [("unicode/utf8.acceptRanges", laid_unicode_utf8_acceptRanges), ("unicode/utf8.first", laid_unicode_utf8_first)] }
def PlaceOnceSaid : Prop := placeOnceRow.holds Tryd.pinned (OpenSpec.ofChange placeOnceSpec)

/-- ITS FALSE NEIGHBOUR: 'it returns false'. Refute it at one input. -/
def placeOnceWrong : ChangeSpec := { name := "placeOnce", fn := fun _ => fun
  | [d1, d2] => { results := [.lit (.bool false)], args := [d1, d2] }
  | _ => none }
def PlaceOnceWrongFalsely : Prop := placeOnceRow.holds Tryd.pinned (OpenSpec.ofChange placeOnceWrong)

/- THE SECOND FORM. 'bulk': how many values and letters a reading holds, each counted each time it is reached (what is shared counts as often as it is met; a slice's spare places count too). A statement '..UptoSaid' is the law's where the arguments, and the package variables that the reading takes, are together of bulk at most 1048576: NARROWER than '..Said'. Prove '..Said' where nothing that the law and all that it calls make is longer than what came in: it says more and counts as full. Else prove '..UptoSaid'. A law counts once. -/
mutual
def uptoBulk {H : Type} : DataW H → Nat
  | .lit (.string bytes) => bytes.length + 1
  | .lit _ => 1
  | .nil => 1
  | .ptr d => uptoBulk d + 1
  | .slice elems spare => uptoBulkAll elems + uptoBulkAll spare + 1
  | .agg parts => uptoBulkAll parts + 1
  | .iface _ d => uptoBulk d + 1
  | .map entries => uptoBulkEntries entries + 1
  | .held _ => 1
def uptoBulkAll {H : Type} : List (DataW H) → Nat
  | [] => 0
  | d :: r => uptoBulk d + uptoBulkAll r
def uptoBulkEntries {H : Type} : List (Lit × DataW H) → Nat
  | [] => 0
  | x :: r => uptoBulkEntry x + uptoBulkEntries r
def uptoBulkEntry {H : Type} : Lit × DataW H → Nat
  | (.string bytes, d) => bytes.length + uptoBulk d + 1
  | (_, d) => uptoBulk d + 1
 end
def uptoSmall : (H : Type) → List (DataW H) → Bool := fun _ ds => decide (uptoBulkAll ds ≤ 1048576)
def OpenSpec.upto (s : _root_.Go.ChangeSpec) : _root_.Go.OpenSpec := { _root_.Go.OpenSpec.ofChange s with cond := some uptoSmall }

/-- 'potsherdlaw06.PlaceOwn', WHERE WHAT IT READS IS OF BULK AT MOST 1048576: true; the input reads as it did. -/
def placeOwnUptoRow : OpenClaim := { program := "ytfgmgcnbponknaadoor", sum := "ca7e11830d286d026b5fe83791d83c58ca55a383601beb9f560c4728c31f4d80", func := "potsherd/potsherdlaw06.PlaceOwn", spec := "placeOwn", unfollowed := true, recurses := true, named := ["unicode/utf8.first", "unicode/utf8.acceptRanges"], apart := false, laid := [("unicode/utf8.acceptRanges", laid_unicode_utf8_acceptRanges), ("unicode/utf8.first", laid_unicode_utf8_first)], narrowed := true }
def PlaceOwnUptoSaid : Prop := placeOwnUptoRow.holds Tryd.pinned (OpenSpec.upto placeOwnSpec)

/-- 'potsherdlaw06.PlaceLays', WHERE WHAT IT READS IS OF BULK AT MOST 1048576: true; the input reads as it did. -/
def placeLaysUptoRow : OpenClaim := { program := "ytfgmgcnbponknaadoor", sum := "ca7e11830d286d026b5fe83791d83c58ca55a383601beb9f560c4728c31f4d80", func := "potsherd/potsherdlaw06.PlaceLays", spec := "placeLays", unfollowed := true, recurses := true, named := ["unicode/utf8.first", "unicode/utf8.acceptRanges"], apart := false, laid := [("unicode/utf8.acceptRanges", laid_unicode_utf8_acceptRanges), ("unicode/utf8.first", laid_unicode_utf8_first)], narrowed := true }
def PlaceLaysUptoSaid : Prop := placeLaysUptoRow.holds Tryd.pinned (OpenSpec.upto placeLaysSpec)

/-- 'potsherdlaw06.PlaceClaims', WHERE WHAT IT READS IS OF BULK AT MOST 1048576: true; the input reads as it did. -/
def placeClaimsUptoRow : OpenClaim := { program := "ytfgmgcnbponknaadoor", sum := "ca7e11830d286d026b5fe83791d83c58ca55a383601beb9f560c4728c31f4d80", func := "potsherd/potsherdlaw06.PlaceClaims", spec := "placeClaims", unfollowed := true, recurses := true, named := ["unicode/utf8.first", "unicode/utf8.acceptRanges"], apart := false, laid := [("unicode/utf8.acceptRanges", laid_unicode_utf8_acceptRanges), ("unicode/utf8.first", laid_unicode_utf8_first)], narrowed := true }
def PlaceClaimsUptoSaid : Prop := placeClaimsUptoRow.holds Tryd.pinned (OpenSpec.upto placeClaimsSpec)

/-- 'potsherdlaw06.PlaceOwners', WHERE WHAT IT READS IS OF BULK AT MOST 1048576: true; the input reads as it did. -/
def placeOwnersUptoRow : OpenClaim := { program := "ytfgmgcnbponknaadoor", sum := "ca7e11830d286d026b5fe83791d83c58ca55a383601beb9f560c4728c31f4d80", func := "potsherd/potsherdlaw06.PlaceOwners", spec := "placeOwners", unfollowed := true, recurses := true, named := ["unicode/utf8.first", "unicode/utf8.acceptRanges"], apart := false, laid := [("unicode/utf8.acceptRanges", laid_unicode_utf8_acceptRanges), ("unicode/utf8.first", laid_unicode_utf8_first)], narrowed := true }
def PlaceOwnersUptoSaid : Prop := placeOwnersUptoRow.holds Tryd.pinned (OpenSpec.upto placeOwnersSpec)

/-- 'potsherdlaw06.PlaceDown', WHERE WHAT IT READS IS OF BULK AT MOST 1048576: true; the input reads as it did. -/
def placeDownUptoRow : OpenClaim := { program := "ytfgmgcnbponknaadoor", sum := "ca7e11830d286d026b5fe83791d83c58ca55a383601beb9f560c4728c31f4d80", func := "potsherd/potsherdlaw06.PlaceDown", spec := "placeDown", unfollowed := true, recurses := true, named := ["unicode/utf8.first", "unicode/utf8.acceptRanges"], apart := false, laid := [("unicode/utf8.acceptRanges", laid_unicode_utf8_acceptRanges), ("unicode/utf8.first", laid_unicode_utf8_first)], narrowed := true }
def PlaceDownUptoSaid : Prop := placeDownUptoRow.holds Tryd.pinned (OpenSpec.upto placeDownSpec)

/-- 'potsherdlaw06.PlaceTurned', WHERE WHAT IT READS IS OF BULK AT MOST 1048576: true; the input reads as it did. -/
def placeTurnedUptoRow : OpenClaim := { program := "ytfgmgcnbponknaadoor", sum := "ca7e11830d286d026b5fe83791d83c58ca55a383601beb9f560c4728c31f4d80", func := "potsherd/potsherdlaw06.PlaceTurned", spec := "placeTurned", unfollowed := true, recurses := true, named := ["unicode/utf8.first", "unicode/utf8.acceptRanges"], apart := false, laid := [("unicode/utf8.acceptRanges", laid_unicode_utf8_acceptRanges), ("unicode/utf8.first", laid_unicode_utf8_first)], narrowed := true }
def PlaceTurnedUptoSaid : Prop := placeTurnedUptoRow.holds Tryd.pinned (OpenSpec.upto placeTurnedSpec)

/-- 'potsherdlaw06.PlaceOnce', WHERE WHAT IT READS IS OF BULK AT MOST 1048576: true; the input reads as it did. -/
def placeOnceUptoRow : OpenClaim := { program := "ytfgmgcnbponknaadoor", sum := "ca7e11830d286d026b5fe83791d83c58ca55a383601beb9f560c4728c31f4d80", func := "potsherd/potsherdlaw06.PlaceOnce", spec := "placeOnce", unfollowed := true, recurses := true, named := ["unicode/utf8.first", "unicode/utf8.acceptRanges"], apart := false, laid := [("unicode/utf8.acceptRanges", laid_unicode_utf8_acceptRanges), ("unicode/utf8.first", laid_unicode_utf8_first)], narrowed := true }
def PlaceOnceUptoSaid : Prop := placeOnceUptoRow.holds Tryd.pinned (OpenSpec.upto placeOnceSpec)

end Rows
end Go.Proofs.YtfgmgcnbponknaaDoor
