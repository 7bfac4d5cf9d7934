/-
  DERIVED. GIVEN WITH THE SEED: THE CARDS: each row of YtfgmgcnbponknaaDoorRows.lean that lists a variable, with what it lists TIED to the program's text (the seventh form; the later family's looks); each row that meets fmt, with fmt's text TOLD by the authors' own Lean function (tested against real Go, not proved from fmt's source: count such statements apart). THE CARD IS WHAT COUNTS. Prove the row's statement (the work); the ties are given (YtfgmgcnbponknaaDoorTie.lean); close each card by the builder's one call (the guide's Derived/Test/ToyasCard.lean, 'card_holds'). Laid BY PROGRAM, IN A SANDBOX (cutbox-door.mjs). By AI agents, Wed Nov 11 2026. No macro, syntax, notation, axiom, sorry.
-/
import Derived.Test.YtfgmgcnbponknaaDoorRows
import GoSem.ClaimSeven
namespace Go.Proofs.YtfgmgcnbponknaaDoor
namespace Rows

/-- THE TIED CARD OF 'potsherdlaw06.PlaceOwn'. -/
def placeOwnCard : Claim7 := { stood := { row := placeOwnRow, standIns := [], harness := (true, "6de538d0623696c00d241f73f3dbb5226787bbae1e97f4c8f3a99a5bec9c05c4"), looks := false }, kinds := [], alts := [], laidByText := true, laidKinds := [.data, .pinned], laidTests := true, laidLooks := .later }
def PlaceOwnCardSaid : Prop := Claim7.holds Tryd.pinned (.plain (OpenSpec.ofChange placeOwnSpec)) placeOwnCard

/-- THE TIED CARD OF 'potsherdlaw06.PlaceLays'. -/
def placeLaysCard : Claim7 := { stood := { row := placeLaysRow, standIns := [], harness := (true, "6de538d0623696c00d241f73f3dbb5226787bbae1e97f4c8f3a99a5bec9c05c4"), looks := false }, kinds := [], alts := [], laidByText := true, laidKinds := [.data, .pinned], laidTests := true, laidLooks := .later }
def PlaceLaysCardSaid : Prop := Claim7.holds Tryd.pinned (.plain (OpenSpec.ofChange placeLaysSpec)) placeLaysCard

/-- THE TIED CARD OF 'potsherdlaw06.PlaceClaims'. -/
def placeClaimsCard : Claim7 := { stood := { row := placeClaimsRow, standIns := [], harness := (true, "6de538d0623696c00d241f73f3dbb5226787bbae1e97f4c8f3a99a5bec9c05c4"), looks := false }, kinds := [], alts := [], laidByText := true, laidKinds := [.data, .pinned], laidTests := true, laidLooks := .later }
def PlaceClaimsCardSaid : Prop := Claim7.holds Tryd.pinned (.plain (OpenSpec.ofChange placeClaimsSpec)) placeClaimsCard

/-- THE TIED CARD OF 'potsherdlaw06.PlaceOwners'. -/
def placeOwnersCard : Claim7 := { stood := { row := placeOwnersRow, standIns := [], harness := (true, "6de538d0623696c00d241f73f3dbb5226787bbae1e97f4c8f3a99a5bec9c05c4"), looks := false }, kinds := [], alts := [], laidByText := true, laidKinds := [.data, .pinned], laidTests := true, laidLooks := .later }
def PlaceOwnersCardSaid : Prop := Claim7.holds Tryd.pinned (.plain (OpenSpec.ofChange placeOwnersSpec)) placeOwnersCard

/-- THE TIED CARD OF 'potsherdlaw06.PlaceDown'. -/
def placeDownCard : Claim7 := { stood := { row := placeDownRow, standIns := [], harness := (true, "6de538d0623696c00d241f73f3dbb5226787bbae1e97f4c8f3a99a5bec9c05c4"), looks := false }, kinds := [], alts := [], laidByText := true, laidKinds := [.data, .pinned], laidTests := true, laidLooks := .later }
def PlaceDownCardSaid : Prop := Claim7.holds Tryd.pinned (.plain (OpenSpec.ofChange placeDownSpec)) placeDownCard

/-- THE TIED CARD OF 'potsherdlaw06.PlaceTurned'. -/
def placeTurnedCard : Claim7 := { stood := { row := placeTurnedRow, standIns := [], harness := (true, "6de538d0623696c00d241f73f3dbb5226787bbae1e97f4c8f3a99a5bec9c05c4"), looks := false }, kinds := [], alts := [], laidByText := true, laidKinds := [.data, .pinned], laidTests := true, laidLooks := .later }
def PlaceTurnedCardSaid : Prop := Claim7.holds Tryd.pinned (.plain (OpenSpec.ofChange placeTurnedSpec)) placeTurnedCard

/-- THE TIED CARD OF 'potsherdlaw06.PlaceOnce'. -/
def placeOnceCard : Claim7 := { stood := { row := placeOnceRow, standIns := [], harness := (true, "6de538d0623696c00d241f73f3dbb5226787bbae1e97f4c8f3a99a5bec9c05c4"), looks := false }, kinds := [], alts := [], laidByText := true, laidKinds := [.data, .pinned], laidTests := true, laidLooks := .later }
def PlaceOnceCardSaid : Prop := Claim7.holds Tryd.pinned (.plain (OpenSpec.ofChange placeOnceSpec)) placeOnceCard

/-- THE SECOND FORM's CARD OF 'potsherdlaw06.PlaceOwn'. -/
def placeOwnUptoCard : Claim7 := { stood := { row := placeOwnUptoRow, standIns := [], harness := (true, "6de538d0623696c00d241f73f3dbb5226787bbae1e97f4c8f3a99a5bec9c05c4"), looks := false }, kinds := [], alts := [], laidByText := true, laidKinds := [.data, .pinned], laidTests := true, laidLooks := .later }
def PlaceOwnUptoCardSaid : Prop := Claim7.holds Tryd.pinned (.plain (OpenSpec.upto placeOwnSpec)) placeOwnUptoCard

/-- THE SECOND FORM's CARD OF 'potsherdlaw06.PlaceLays'. -/
def placeLaysUptoCard : Claim7 := { stood := { row := placeLaysUptoRow, standIns := [], harness := (true, "6de538d0623696c00d241f73f3dbb5226787bbae1e97f4c8f3a99a5bec9c05c4"), looks := false }, kinds := [], alts := [], laidByText := true, laidKinds := [.data, .pinned], laidTests := true, laidLooks := .later }
def PlaceLaysUptoCardSaid : Prop := Claim7.holds Tryd.pinned (.plain (OpenSpec.upto placeLaysSpec)) placeLaysUptoCard

/-- THE SECOND FORM's CARD OF 'potsherdlaw06.PlaceClaims'. -/
def placeClaimsUptoCard : Claim7 := { stood := { row := placeClaimsUptoRow, standIns := [], harness := (true, "6de538d0623696c00d241f73f3dbb5226787bbae1e97f4c8f3a99a5bec9c05c4"), looks := false }, kinds := [], alts := [], laidByText := true, laidKinds := [.data, .pinned], laidTests := true, laidLooks := .later }
def PlaceClaimsUptoCardSaid : Prop := Claim7.holds Tryd.pinned (.plain (OpenSpec.upto placeClaimsSpec)) placeClaimsUptoCard

/-- THE SECOND FORM's CARD OF 'potsherdlaw06.PlaceOwners'. -/
def placeOwnersUptoCard : Claim7 := { stood := { row := placeOwnersUptoRow, standIns := [], harness := (true, "6de538d0623696c00d241f73f3dbb5226787bbae1e97f4c8f3a99a5bec9c05c4"), looks := false }, kinds := [], alts := [], laidByText := true, laidKinds := [.data, .pinned], laidTests := true, laidLooks := .later }
def PlaceOwnersUptoCardSaid : Prop := Claim7.holds Tryd.pinned (.plain (OpenSpec.upto placeOwnersSpec)) placeOwnersUptoCard

/-- THE SECOND FORM's CARD OF 'potsherdlaw06.PlaceDown'. -/
def placeDownUptoCard : Claim7 := { stood := { row := placeDownUptoRow, standIns := [], harness := (true, "6de538d0623696c00d241f73f3dbb5226787bbae1e97f4c8f3a99a5bec9c05c4"), looks := false }, kinds := [], alts := [], laidByText := true, laidKinds := [.data, .pinned], laidTests := true, laidLooks := .later }
def PlaceDownUptoCardSaid : Prop := Claim7.holds Tryd.pinned (.plain (OpenSpec.upto placeDownSpec)) placeDownUptoCard

/-- THE SECOND FORM's CARD OF 'potsherdlaw06.PlaceTurned'. -/
def placeTurnedUptoCard : Claim7 := { stood := { row := placeTurnedUptoRow, standIns := [], harness := (true, "6de538d0623696c00d241f73f3dbb5226787bbae1e97f4c8f3a99a5bec9c05c4"), looks := false }, kinds := [], alts := [], laidByText := true, laidKinds := [.data, .pinned], laidTests := true, laidLooks := .later }
def PlaceTurnedUptoCardSaid : Prop := Claim7.holds Tryd.pinned (.plain (OpenSpec.upto placeTurnedSpec)) placeTurnedUptoCard

/-- THE SECOND FORM's CARD OF 'potsherdlaw06.PlaceOnce'. -/
def placeOnceUptoCard : Claim7 := { stood := { row := placeOnceUptoRow, standIns := [], harness := (true, "6de538d0623696c00d241f73f3dbb5226787bbae1e97f4c8f3a99a5bec9c05c4"), looks := false }, kinds := [], alts := [], laidByText := true, laidKinds := [.data, .pinned], laidTests := true, laidLooks := .later }
def PlaceOnceUptoCardSaid : Prop := Claim7.holds Tryd.pinned (.plain (OpenSpec.upto placeOnceSpec)) placeOnceUptoCard
end Rows
end Go.Proofs.YtfgmgcnbponknaaDoor
