/-
  DERIVED. GIVEN WITH THE SEED: THE CARDS: each row of YtmilckfhlldboaaDoorRows.lean that lists a variable, with what it lists TIED to the program's text (the seventh form; the later family's looks); each row that meets fmt, with fmt's text TOLD by the authors' own Lean function (tested against real Go, not proved from fmt's source: count such statements apart). THE CARD IS WHAT COUNTS. Prove the row's statement (the work); the ties are given (YtmilckfhlldboaaDoorTie.lean); close each card by the builder's one call (the guide's Derived/Test/ToyasCard.lean, 'card_holds'). Laid BY PROGRAM, IN A SANDBOX (cutbox-door.mjs). By AI agents, Wed Nov 11 2026. No macro, syntax, notation, axiom, sorry.
-/
import Derived.Test.YtmilckfhlldboaaDoorRows
import GoSem.ClaimSeven
namespace Go.Proofs.YtmilckfhlldboaaDoor
namespace Rows

/-- THE TIED CARD OF 'palinglaw13.StateTells'. -/
def stateTellsCard : Claim7 := { stood := { row := stateTellsRow, standIns := [], harness := (true, "9301ce09105d8effca63dd174708e472707c11b8ac52d577372822c49ad22b1b"), looks := true }, kinds := [], alts := [], laidByText := true, laidKinds := [.data, .data, .data], laidTests := true, laidLooks := .later }
def StateTellsCardSaid : Prop := Claim7.holds Tryd.pinned (.plain (OpenSpec.ofChange stateTellsSpec)) stateTellsCard

/-- THE TIED CARD OF 'palinglaw13.StateTexts'. -/
def stateTextsCard : Claim7 := { stood := { row := stateTextsRow, standIns := [], harness := (true, "9301ce09105d8effca63dd174708e472707c11b8ac52d577372822c49ad22b1b"), looks := true }, kinds := [], alts := [], laidByText := true, laidKinds := [.data, .data, .data], laidTests := true, laidLooks := .later }
def StateTextsCardSaid : Prop := Claim7.holds Tryd.pinned (.plain (OpenSpec.ofChange stateTextsSpec)) stateTextsCard

/-- THE TIED CARD OF 'palinglaw13.StateSame'. -/
def stateSameCard : Claim7 := { stood := { row := stateSameRow, standIns := [], harness := (true, "9301ce09105d8effca63dd174708e472707c11b8ac52d577372822c49ad22b1b"), looks := true }, kinds := [], alts := [], laidByText := true, laidKinds := [.data, .data, .data], laidTests := true, laidLooks := .later }
def StateSameCardSaid : Prop := Claim7.holds Tryd.pinned (.plain (OpenSpec.ofChange stateSameSpec)) stateSameCard

/-- THE TIED CARD OF 'palinglaw13.StateCopies'. -/
def stateCopiesCard : Claim7 := { stood := { row := stateCopiesRow, standIns := [], harness := (true, "9301ce09105d8effca63dd174708e472707c11b8ac52d577372822c49ad22b1b"), looks := true }, kinds := [], alts := [], laidByText := true, laidKinds := [.data, .data, .data], laidTests := true, laidLooks := .later }
def StateCopiesCardSaid : Prop := Claim7.holds Tryd.pinned (.plain (OpenSpec.ofChange stateCopiesSpec)) stateCopiesCard

/-- THE TIED CARD OF 'palinglaw2.NumTells'. -/
def numTellsCard : Claim7 := { stood := { row := numTellsRow, standIns := [], harness := (true, "9301ce09105d8effca63dd174708e472707c11b8ac52d577372822c49ad22b1b"), looks := true }, kinds := [], alts := [], laidByText := true, laidKinds := [.data, .data, .data, .sentinel, .sentinel], laidTests := true, laidLooks := .later }
def NumTellsCardSaid : Prop := Claim7.holds Tryd.pinned (.plain (OpenSpec.ofChange numTellsSpec)) numTellsCard

/-- THE TIED CARD OF 'palinglaw2.NumBack'. -/
def numBackCard : Claim7 := { stood := { row := numBackRow, standIns := [], harness := (true, "9301ce09105d8effca63dd174708e472707c11b8ac52d577372822c49ad22b1b"), looks := true }, kinds := [], alts := [], laidByText := true, laidKinds := [.data, .data, .data, .sentinel, .sentinel], laidTests := true, laidLooks := .later }
def NumBackCardSaid : Prop := Claim7.holds Tryd.pinned (.plain (OpenSpec.ofChange numBackSpec)) numBackCard

/-- THE TIED CARD OF 'palinglaw2.NumOnce'. -/
def numOnceCard : Claim7 := { stood := { row := numOnceRow, standIns := [], harness := (true, "9301ce09105d8effca63dd174708e472707c11b8ac52d577372822c49ad22b1b"), looks := true }, kinds := [], alts := [], laidByText := true, laidKinds := [.data, .data, .data, .sentinel, .sentinel], laidTests := true, laidLooks := .later }
def NumOnceCardSaid : Prop := Claim7.holds Tryd.pinned (.plain (OpenSpec.ofChange numOnceSpec)) numOnceCard

/-- THE TIED CARD OF 'palinglaw2.NumBent'. -/
def numBentCard : Claim7 := { stood := { row := numBentRow, standIns := [], harness := (true, "9301ce09105d8effca63dd174708e472707c11b8ac52d577372822c49ad22b1b"), looks := true }, kinds := [], alts := [], laidByText := true, laidKinds := [.data, .data, .data, .sentinel, .sentinel], laidTests := true, laidLooks := .later }
def NumBentCardSaid : Prop := Claim7.holds Tryd.pinned (.plain (OpenSpec.ofChange numBentSpec)) numBentCard

/-- THE TIED CARD OF 'palinglaw2.NumOrder'. -/
def numOrderCard : Claim7 := { stood := { row := numOrderRow, standIns := [], harness := (true, "9301ce09105d8effca63dd174708e472707c11b8ac52d577372822c49ad22b1b"), looks := true }, kinds := [], alts := [], laidByText := true, laidKinds := [.data, .data, .data, .sentinel, .sentinel], laidTests := true, laidLooks := .later }
def NumOrderCardSaid : Prop := Claim7.holds Tryd.pinned (.plain (OpenSpec.ofChange numOrderSpec)) numOrderCard

/-- THE SECOND FORM's CARD OF 'palinglaw13.StateTells'. -/
def stateTellsUptoCard : Claim7 := { stood := { row := stateTellsUptoRow, standIns := [], harness := (true, "9301ce09105d8effca63dd174708e472707c11b8ac52d577372822c49ad22b1b"), looks := true }, kinds := [], alts := [], laidByText := true, laidKinds := [.data, .data, .data], laidTests := true, laidLooks := .later }
def StateTellsUptoCardSaid : Prop := Claim7.holds Tryd.pinned (.plain (OpenSpec.upto stateTellsSpec)) stateTellsUptoCard

/-- THE SECOND FORM's CARD OF 'palinglaw13.StateTexts'. -/
def stateTextsUptoCard : Claim7 := { stood := { row := stateTextsUptoRow, standIns := [], harness := (true, "9301ce09105d8effca63dd174708e472707c11b8ac52d577372822c49ad22b1b"), looks := true }, kinds := [], alts := [], laidByText := true, laidKinds := [.data, .data, .data], laidTests := true, laidLooks := .later }
def StateTextsUptoCardSaid : Prop := Claim7.holds Tryd.pinned (.plain (OpenSpec.upto stateTextsSpec)) stateTextsUptoCard

/-- THE SECOND FORM's CARD OF 'palinglaw13.StateSame'. -/
def stateSameUptoCard : Claim7 := { stood := { row := stateSameUptoRow, standIns := [], harness := (true, "9301ce09105d8effca63dd174708e472707c11b8ac52d577372822c49ad22b1b"), looks := true }, kinds := [], alts := [], laidByText := true, laidKinds := [.data, .data, .data], laidTests := true, laidLooks := .later }
def StateSameUptoCardSaid : Prop := Claim7.holds Tryd.pinned (.plain (OpenSpec.upto stateSameSpec)) stateSameUptoCard

/-- THE SECOND FORM's CARD OF 'palinglaw13.StateCopies'. -/
def stateCopiesUptoCard : Claim7 := { stood := { row := stateCopiesUptoRow, standIns := [], harness := (true, "9301ce09105d8effca63dd174708e472707c11b8ac52d577372822c49ad22b1b"), looks := true }, kinds := [], alts := [], laidByText := true, laidKinds := [.data, .data, .data], laidTests := true, laidLooks := .later }
def StateCopiesUptoCardSaid : Prop := Claim7.holds Tryd.pinned (.plain (OpenSpec.upto stateCopiesSpec)) stateCopiesUptoCard

/-- THE SECOND FORM's CARD OF 'palinglaw2.NumTells'. -/
def numTellsUptoCard : Claim7 := { stood := { row := numTellsUptoRow, standIns := [], harness := (true, "9301ce09105d8effca63dd174708e472707c11b8ac52d577372822c49ad22b1b"), looks := true }, kinds := [], alts := [], laidByText := true, laidKinds := [.data, .data, .data, .sentinel, .sentinel], laidTests := true, laidLooks := .later }
def NumTellsUptoCardSaid : Prop := Claim7.holds Tryd.pinned (.plain (OpenSpec.upto numTellsSpec)) numTellsUptoCard

/-- THE SECOND FORM's CARD OF 'palinglaw2.NumBack'. -/
def numBackUptoCard : Claim7 := { stood := { row := numBackUptoRow, standIns := [], harness := (true, "9301ce09105d8effca63dd174708e472707c11b8ac52d577372822c49ad22b1b"), looks := true }, kinds := [], alts := [], laidByText := true, laidKinds := [.data, .data, .data, .sentinel, .sentinel], laidTests := true, laidLooks := .later }
def NumBackUptoCardSaid : Prop := Claim7.holds Tryd.pinned (.plain (OpenSpec.upto numBackSpec)) numBackUptoCard

/-- THE SECOND FORM's CARD OF 'palinglaw2.NumOnce'. -/
def numOnceUptoCard : Claim7 := { stood := { row := numOnceUptoRow, standIns := [], harness := (true, "9301ce09105d8effca63dd174708e472707c11b8ac52d577372822c49ad22b1b"), looks := true }, kinds := [], alts := [], laidByText := true, laidKinds := [.data, .data, .data, .sentinel, .sentinel], laidTests := true, laidLooks := .later }
def NumOnceUptoCardSaid : Prop := Claim7.holds Tryd.pinned (.plain (OpenSpec.upto numOnceSpec)) numOnceUptoCard

/-- THE SECOND FORM's CARD OF 'palinglaw2.NumBent'. -/
def numBentUptoCard : Claim7 := { stood := { row := numBentUptoRow, standIns := [], harness := (true, "9301ce09105d8effca63dd174708e472707c11b8ac52d577372822c49ad22b1b"), looks := true }, kinds := [], alts := [], laidByText := true, laidKinds := [.data, .data, .data, .sentinel, .sentinel], laidTests := true, laidLooks := .later }
def NumBentUptoCardSaid : Prop := Claim7.holds Tryd.pinned (.plain (OpenSpec.upto numBentSpec)) numBentUptoCard

/-- THE SECOND FORM's CARD OF 'palinglaw2.NumOrder'. -/
def numOrderUptoCard : Claim7 := { stood := { row := numOrderUptoRow, standIns := [], harness := (true, "9301ce09105d8effca63dd174708e472707c11b8ac52d577372822c49ad22b1b"), looks := true }, kinds := [], alts := [], laidByText := true, laidKinds := [.data, .data, .data, .sentinel, .sentinel], laidTests := true, laidLooks := .later }
def NumOrderUptoCardSaid : Prop := Claim7.holds Tryd.pinned (.plain (OpenSpec.upto numOrderSpec)) numOrderUptoCard
end Rows
end Go.Proofs.YtmilckfhlldboaaDoor
