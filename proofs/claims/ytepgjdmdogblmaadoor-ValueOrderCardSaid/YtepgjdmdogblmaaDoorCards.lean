/-
  DERIVED. GIVEN WITH THE SEED: THE CARDS: each row of YtepgjdmdogblmaaDoorRows.lean that lists a variable, with what it lists TIED to the program's text (the seventh form; the later family's looks); each row that meets fmt, with fmt's text TOLD by the authors' own Lean function (tested against real Go, not proved from fmt's source: count such statements apart). THE CARD IS WHAT COUNTS. Prove the row's statement (the work); the ties are given (YtepgjdmdogblmaaDoorTie.lean); close each card by the builder's one call (the guide's Derived/Test/ToyasCard.lean, 'card_holds'). Laid BY PROGRAM, IN A SANDBOX (cutbox-door.mjs). By AI agents, Wed Nov 11 2026. No macro, syntax, notation, axiom, sorry.
-/
import Derived.Test.YtepgjdmdogblmaaDoorRows
import GoSem.ClaimSeven
namespace Go.Proofs.YtepgjdmdogblmaaDoor
namespace Rows

/-- THE TIED CARD OF 'potsherdlaw01.ValueJoined'. -/
def valueJoinedCard : Claim7 := { stood := { row := valueJoinedRow, standIns := [], harness := (true, "43a5001219b2532451f7a67512ec9656cff84b9ea944037b6d69cf15ada1b85c"), looks := false }, kinds := [], alts := [], laidByText := true, laidKinds := [.data, .pinned], laidTests := true, laidLooks := .later }
def ValueJoinedCardSaid : Prop := Claim7.holds Tryd.pinned (.plain (OpenSpec.ofChange valueJoinedSpec)) valueJoinedCard

/-- THE TIED CARD OF 'potsherdlaw01.ValueRows'. -/
def valueRowsCard : Claim7 := { stood := { row := valueRowsRow, standIns := [], harness := (true, "43a5001219b2532451f7a67512ec9656cff84b9ea944037b6d69cf15ada1b85c"), looks := false }, kinds := [], alts := [], laidByText := true, laidKinds := [.data, .pinned], laidTests := true, laidLooks := .later }
def ValueRowsCardSaid : Prop := Claim7.holds Tryd.pinned (.plain (OpenSpec.ofChange valueRowsSpec)) valueRowsCard

/-- THE TIED CARD OF 'potsherdlaw01.ValueHeld'. -/
def valueHeldCard : Claim7 := { stood := { row := valueHeldRow, standIns := [], harness := (true, "43a5001219b2532451f7a67512ec9656cff84b9ea944037b6d69cf15ada1b85c"), looks := false }, kinds := [], alts := [], laidByText := true, laidKinds := [.data, .pinned], laidTests := true, laidLooks := .later }
def ValueHeldCardSaid : Prop := Claim7.holds Tryd.pinned (.plain (OpenSpec.ofChange valueHeldSpec)) valueHeldCard

/-- THE TIED CARD OF 'potsherdlaw01.ValueOrder'. -/
def valueOrderCard : Claim7 := { stood := { row := valueOrderRow, standIns := [], harness := (true, "43a5001219b2532451f7a67512ec9656cff84b9ea944037b6d69cf15ada1b85c"), looks := false }, kinds := [], alts := [], laidByText := true, laidKinds := [.data, .pinned], laidTests := true, laidLooks := .later }
def ValueOrderCardSaid : Prop := Claim7.holds Tryd.pinned (.plain (OpenSpec.ofChange valueOrderSpec)) valueOrderCard

/-- THE TIED CARD OF 'potsherdlaw01.ValueTimes'. -/
def valueTimesCard : Claim7 := { stood := { row := valueTimesRow, standIns := [], harness := (true, "43a5001219b2532451f7a67512ec9656cff84b9ea944037b6d69cf15ada1b85c"), looks := false }, kinds := [], alts := [], laidByText := true, laidKinds := [.data, .pinned], laidTests := true, laidLooks := .later }
def ValueTimesCardSaid : Prop := Claim7.holds Tryd.pinned (.plain (OpenSpec.ofChange valueTimesSpec)) valueTimesCard

/-- THE TIED CARD OF 'potsherdlaw01.ValueNumbers'. -/
def valueNumbersCard : Claim7 := { stood := { row := valueNumbersRow, standIns := [], harness := (true, "43a5001219b2532451f7a67512ec9656cff84b9ea944037b6d69cf15ada1b85c"), looks := false }, kinds := [], alts := [], laidByText := true, laidKinds := [.data, .pinned], laidTests := true, laidLooks := .later }
def ValueNumbersCardSaid : Prop := Claim7.holds Tryd.pinned (.plain (OpenSpec.ofChange valueNumbersSpec)) valueNumbersCard

/-- THE TIED CARD OF 'potsherdlaw01.ValueTables'. -/
def valueTablesCard : Claim7 := { stood := { row := valueTablesRow, standIns := [], harness := (true, "43a5001219b2532451f7a67512ec9656cff84b9ea944037b6d69cf15ada1b85c"), looks := false }, kinds := [], alts := [], laidByText := true, laidKinds := [.data, .pinned], laidTests := true, laidLooks := .later }
def ValueTablesCardSaid : Prop := Claim7.holds Tryd.pinned (.plain (OpenSpec.ofChange valueTablesSpec)) valueTablesCard

/-- THE TIED CARD OF 'potsherdlaw01.ValueBags'. -/
def valueBagsCard : Claim7 := { stood := { row := valueBagsRow, standIns := [], harness := (true, "43a5001219b2532451f7a67512ec9656cff84b9ea944037b6d69cf15ada1b85c"), looks := false }, kinds := [], alts := [], laidByText := true, laidKinds := [.data, .pinned], laidTests := true, laidLooks := .later }
def ValueBagsCardSaid : Prop := Claim7.holds Tryd.pinned (.plain (OpenSpec.ofChange valueBagsSpec)) valueBagsCard

/-- THE TIED CARD OF 'potsherdlaw01.ValueSorts'. -/
def valueSortsCard : Claim7 := { stood := { row := valueSortsRow, standIns := [], harness := (true, "43a5001219b2532451f7a67512ec9656cff84b9ea944037b6d69cf15ada1b85c"), looks := false }, kinds := [], alts := [], laidByText := true, laidKinds := [.data, .pinned], laidTests := true, laidLooks := .later }
def ValueSortsCardSaid : Prop := Claim7.holds Tryd.pinned (.plain (OpenSpec.ofChange valueSortsSpec)) valueSortsCard

/-- THE TIED CARD OF 'potsherdlaw01.ValueOwn'. -/
def valueOwnCard : Claim7 := { stood := { row := valueOwnRow, standIns := [], harness := (true, "43a5001219b2532451f7a67512ec9656cff84b9ea944037b6d69cf15ada1b85c"), looks := false }, kinds := [], alts := [], laidByText := true, laidKinds := [.data, .pinned], laidTests := true, laidLooks := .later }
def ValueOwnCardSaid : Prop := Claim7.holds Tryd.pinned (.plain (OpenSpec.ofChange valueOwnSpec)) valueOwnCard

/-- THE SECOND FORM's CARD OF 'potsherdlaw01.ValueJoined'. -/
def valueJoinedUptoCard : Claim7 := { stood := { row := valueJoinedUptoRow, standIns := [], harness := (true, "43a5001219b2532451f7a67512ec9656cff84b9ea944037b6d69cf15ada1b85c"), looks := false }, kinds := [], alts := [], laidByText := true, laidKinds := [.data, .pinned], laidTests := true, laidLooks := .later }
def ValueJoinedUptoCardSaid : Prop := Claim7.holds Tryd.pinned (.plain (OpenSpec.upto valueJoinedSpec)) valueJoinedUptoCard

/-- THE SECOND FORM's CARD OF 'potsherdlaw01.ValueRows'. -/
def valueRowsUptoCard : Claim7 := { stood := { row := valueRowsUptoRow, standIns := [], harness := (true, "43a5001219b2532451f7a67512ec9656cff84b9ea944037b6d69cf15ada1b85c"), looks := false }, kinds := [], alts := [], laidByText := true, laidKinds := [.data, .pinned], laidTests := true, laidLooks := .later }
def ValueRowsUptoCardSaid : Prop := Claim7.holds Tryd.pinned (.plain (OpenSpec.upto valueRowsSpec)) valueRowsUptoCard

/-- THE SECOND FORM's CARD OF 'potsherdlaw01.ValueHeld'. -/
def valueHeldUptoCard : Claim7 := { stood := { row := valueHeldUptoRow, standIns := [], harness := (true, "43a5001219b2532451f7a67512ec9656cff84b9ea944037b6d69cf15ada1b85c"), looks := false }, kinds := [], alts := [], laidByText := true, laidKinds := [.data, .pinned], laidTests := true, laidLooks := .later }
def ValueHeldUptoCardSaid : Prop := Claim7.holds Tryd.pinned (.plain (OpenSpec.upto valueHeldSpec)) valueHeldUptoCard

/-- THE SECOND FORM's CARD OF 'potsherdlaw01.ValueOrder'. -/
def valueOrderUptoCard : Claim7 := { stood := { row := valueOrderUptoRow, standIns := [], harness := (true, "43a5001219b2532451f7a67512ec9656cff84b9ea944037b6d69cf15ada1b85c"), looks := false }, kinds := [], alts := [], laidByText := true, laidKinds := [.data, .pinned], laidTests := true, laidLooks := .later }
def ValueOrderUptoCardSaid : Prop := Claim7.holds Tryd.pinned (.plain (OpenSpec.upto valueOrderSpec)) valueOrderUptoCard

/-- THE SECOND FORM's CARD OF 'potsherdlaw01.ValueTimes'. -/
def valueTimesUptoCard : Claim7 := { stood := { row := valueTimesUptoRow, standIns := [], harness := (true, "43a5001219b2532451f7a67512ec9656cff84b9ea944037b6d69cf15ada1b85c"), looks := false }, kinds := [], alts := [], laidByText := true, laidKinds := [.data, .pinned], laidTests := true, laidLooks := .later }
def ValueTimesUptoCardSaid : Prop := Claim7.holds Tryd.pinned (.plain (OpenSpec.upto valueTimesSpec)) valueTimesUptoCard

/-- THE SECOND FORM's CARD OF 'potsherdlaw01.ValueNumbers'. -/
def valueNumbersUptoCard : Claim7 := { stood := { row := valueNumbersUptoRow, standIns := [], harness := (true, "43a5001219b2532451f7a67512ec9656cff84b9ea944037b6d69cf15ada1b85c"), looks := false }, kinds := [], alts := [], laidByText := true, laidKinds := [.data, .pinned], laidTests := true, laidLooks := .later }
def ValueNumbersUptoCardSaid : Prop := Claim7.holds Tryd.pinned (.plain (OpenSpec.upto valueNumbersSpec)) valueNumbersUptoCard

/-- THE SECOND FORM's CARD OF 'potsherdlaw01.ValueTables'. -/
def valueTablesUptoCard : Claim7 := { stood := { row := valueTablesUptoRow, standIns := [], harness := (true, "43a5001219b2532451f7a67512ec9656cff84b9ea944037b6d69cf15ada1b85c"), looks := false }, kinds := [], alts := [], laidByText := true, laidKinds := [.data, .pinned], laidTests := true, laidLooks := .later }
def ValueTablesUptoCardSaid : Prop := Claim7.holds Tryd.pinned (.plain (OpenSpec.upto valueTablesSpec)) valueTablesUptoCard

/-- THE SECOND FORM's CARD OF 'potsherdlaw01.ValueBags'. -/
def valueBagsUptoCard : Claim7 := { stood := { row := valueBagsUptoRow, standIns := [], harness := (true, "43a5001219b2532451f7a67512ec9656cff84b9ea944037b6d69cf15ada1b85c"), looks := false }, kinds := [], alts := [], laidByText := true, laidKinds := [.data, .pinned], laidTests := true, laidLooks := .later }
def ValueBagsUptoCardSaid : Prop := Claim7.holds Tryd.pinned (.plain (OpenSpec.upto valueBagsSpec)) valueBagsUptoCard

/-- THE SECOND FORM's CARD OF 'potsherdlaw01.ValueSorts'. -/
def valueSortsUptoCard : Claim7 := { stood := { row := valueSortsUptoRow, standIns := [], harness := (true, "43a5001219b2532451f7a67512ec9656cff84b9ea944037b6d69cf15ada1b85c"), looks := false }, kinds := [], alts := [], laidByText := true, laidKinds := [.data, .pinned], laidTests := true, laidLooks := .later }
def ValueSortsUptoCardSaid : Prop := Claim7.holds Tryd.pinned (.plain (OpenSpec.upto valueSortsSpec)) valueSortsUptoCard

/-- THE SECOND FORM's CARD OF 'potsherdlaw01.ValueOwn'. -/
def valueOwnUptoCard : Claim7 := { stood := { row := valueOwnUptoRow, standIns := [], harness := (true, "43a5001219b2532451f7a67512ec9656cff84b9ea944037b6d69cf15ada1b85c"), looks := false }, kinds := [], alts := [], laidByText := true, laidKinds := [.data, .pinned], laidTests := true, laidLooks := .later }
def ValueOwnUptoCardSaid : Prop := Claim7.holds Tryd.pinned (.plain (OpenSpec.upto valueOwnSpec)) valueOwnUptoCard
end Rows
end Go.Proofs.YtepgjdmdogblmaaDoor
