/-
  DERIVED. GIVEN WITH THE SEED: THE CARDS: each row of YtlolkehjlkmcbaaDoorRows.lean that lists a variable, with what it lists TIED to the program's text (the seventh form; the later family's looks); each row that meets fmt, with fmt's text TOLD by the authors' own Lean function (tested against real Go, not proved from fmt's source: count such statements apart). THE CARD IS WHAT COUNTS. Prove the row's statement (the work); the ties are given (YtlolkehjlkmcbaaDoorTie.lean); close each card by the builder's one call (the guide's Derived/Test/ToyasCard.lean, 'card_holds'). Laid BY PROGRAM, IN A SANDBOX (cutbox-door.mjs). By AI agents, Wed Nov 11 2026. No macro, syntax, notation, axiom, sorry.
-/
import Derived.Test.YtlolkehjlkmcbaaDoorRows
import GoSem.ClaimSeven
namespace Go.Proofs.YtlolkehjlkmcbaaDoor
namespace Rows

/-- THE TIED CARD OF 'palinglaw13.StateTells'. -/
def stateTellsCard : Claim7 := { stood := { row := stateTellsRow, standIns := [], harness := (true, "eb79b0e442b4c8169cef7d7fe122d3a39a24bd4fd6c699a379b1f9b49371c400"), looks := false }, kinds := [], alts := [], laidByText := true, laidKinds := [.data, .data, .data], laidTests := true, laidLooks := .later }
def StateTellsCardSaid : Prop := Claim7.holds Tryd.pinned (.plain (OpenSpec.ofChange stateTellsSpec)) stateTellsCard

/-- THE TIED CARD OF 'palinglaw13.StateTexts'. -/
def stateTextsCard : Claim7 := { stood := { row := stateTextsRow, standIns := [], harness := (true, "eb79b0e442b4c8169cef7d7fe122d3a39a24bd4fd6c699a379b1f9b49371c400"), looks := false }, kinds := [], alts := [], laidByText := true, laidKinds := [.data, .data, .data], laidTests := true, laidLooks := .later }
def StateTextsCardSaid : Prop := Claim7.holds Tryd.pinned (.plain (OpenSpec.ofChange stateTextsSpec)) stateTextsCard

/-- THE TIED CARD OF 'palinglaw13.StateSame'. -/
def stateSameCard : Claim7 := { stood := { row := stateSameRow, standIns := [], harness := (true, "eb79b0e442b4c8169cef7d7fe122d3a39a24bd4fd6c699a379b1f9b49371c400"), looks := false }, kinds := [], alts := [], laidByText := true, laidKinds := [.data, .data, .data], laidTests := true, laidLooks := .later }
def StateSameCardSaid : Prop := Claim7.holds Tryd.pinned (.plain (OpenSpec.ofChange stateSameSpec)) stateSameCard

/-- THE TIED CARD OF 'palinglaw13.StateCopies'. -/
def stateCopiesCard : Claim7 := { stood := { row := stateCopiesRow, standIns := [], harness := (true, "eb79b0e442b4c8169cef7d7fe122d3a39a24bd4fd6c699a379b1f9b49371c400"), looks := false }, kinds := [], alts := [], laidByText := true, laidKinds := [.data, .data, .data], laidTests := true, laidLooks := .later }
def StateCopiesCardSaid : Prop := Claim7.holds Tryd.pinned (.plain (OpenSpec.ofChange stateCopiesSpec)) stateCopiesCard

/-- THE SECOND FORM's CARD OF 'palinglaw13.StateTells'. -/
def stateTellsUptoCard : Claim7 := { stood := { row := stateTellsUptoRow, standIns := [], harness := (true, "eb79b0e442b4c8169cef7d7fe122d3a39a24bd4fd6c699a379b1f9b49371c400"), looks := false }, kinds := [], alts := [], laidByText := true, laidKinds := [.data, .data, .data], laidTests := true, laidLooks := .later }
def StateTellsUptoCardSaid : Prop := Claim7.holds Tryd.pinned (.plain (OpenSpec.upto stateTellsSpec)) stateTellsUptoCard

/-- THE SECOND FORM's CARD OF 'palinglaw13.StateTexts'. -/
def stateTextsUptoCard : Claim7 := { stood := { row := stateTextsUptoRow, standIns := [], harness := (true, "eb79b0e442b4c8169cef7d7fe122d3a39a24bd4fd6c699a379b1f9b49371c400"), looks := false }, kinds := [], alts := [], laidByText := true, laidKinds := [.data, .data, .data], laidTests := true, laidLooks := .later }
def StateTextsUptoCardSaid : Prop := Claim7.holds Tryd.pinned (.plain (OpenSpec.upto stateTextsSpec)) stateTextsUptoCard

/-- THE SECOND FORM's CARD OF 'palinglaw13.StateSame'. -/
def stateSameUptoCard : Claim7 := { stood := { row := stateSameUptoRow, standIns := [], harness := (true, "eb79b0e442b4c8169cef7d7fe122d3a39a24bd4fd6c699a379b1f9b49371c400"), looks := false }, kinds := [], alts := [], laidByText := true, laidKinds := [.data, .data, .data], laidTests := true, laidLooks := .later }
def StateSameUptoCardSaid : Prop := Claim7.holds Tryd.pinned (.plain (OpenSpec.upto stateSameSpec)) stateSameUptoCard

/-- THE SECOND FORM's CARD OF 'palinglaw13.StateCopies'. -/
def stateCopiesUptoCard : Claim7 := { stood := { row := stateCopiesUptoRow, standIns := [], harness := (true, "eb79b0e442b4c8169cef7d7fe122d3a39a24bd4fd6c699a379b1f9b49371c400"), looks := false }, kinds := [], alts := [], laidByText := true, laidKinds := [.data, .data, .data], laidTests := true, laidLooks := .later }
def StateCopiesUptoCardSaid : Prop := Claim7.holds Tryd.pinned (.plain (OpenSpec.upto stateCopiesSpec)) stateCopiesUptoCard
end Rows
end Go.Proofs.YtlolkehjlkmcbaaDoor
