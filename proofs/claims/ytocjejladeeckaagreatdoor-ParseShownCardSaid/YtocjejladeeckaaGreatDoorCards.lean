/-
  DERIVED. GIVEN WITH THE SEED: THE CARDS: each row of YtocjejladeeckaaGreatDoorRows.lean that lists a variable, with what it lists TIED to the program's text (the seventh form; the later family's looks); each row that meets fmt, with fmt's text TOLD by the authors' own Lean function (tested against real Go, not proved from fmt's source: count such statements apart). THE CARD IS WHAT COUNTS. Prove the row's statement (the work); the ties are given (YtocjejladeeckaaGreatDoorTie.lean); close each card by the builder's one call (the guide's Derived/Test/ToyasCard.lean, 'card_holds'). Laid BY PROGRAM, IN A SANDBOX (cutbox-door.mjs). By AI agents, Wed Nov 11 2026. No macro, syntax, notation, axiom, sorry.
-/
import Derived.Test.YtocjejladeeckaaGreatDoorRows
import GoSem.ClaimSeven
namespace Go.Proofs.YtocjejladeeckaaGreatDoor
namespace Rows

/-- THE TIED CARD OF 'palinglaw10.ParseTells'. -/
def parseTellsCard : Claim7 := { stood := { row := parseTellsRow, standIns := [], harness := (true, "19866bf00af4ae0fd994b3d1a04ac6e2a4ab6e22b11d007b4e16f062e562e0c6"), looks := true }, kinds := [], alts := [], laidByText := true, laidKinds := [.data, .data, .data, .data, .sentinel, .sentinel, .pinned], laidTests := true, laidLooks := .later }
def ParseTellsCardSaid : Prop := Claim7.holds Tryz.pinned (.plain (OpenSpec.ofChange parseTellsSpec)) parseTellsCard

/-- THE TIED CARD OF 'palinglaw10.ParseBent'. -/
def parseBentCard : Claim7 := { stood := { row := parseBentRow, standIns := [], harness := (true, "19866bf00af4ae0fd994b3d1a04ac6e2a4ab6e22b11d007b4e16f062e562e0c6"), looks := true }, kinds := [], alts := [], laidByText := true, laidKinds := [.data, .data, .data, .data, .sentinel, .sentinel, .pinned], laidTests := true, laidLooks := .later }
def ParseBentCardSaid : Prop := Claim7.holds Tryz.pinned (.plain (OpenSpec.ofChange parseBentSpec)) parseBentCard

/-- THE TIED CARD OF 'palinglaw10.ParseTurned'. -/
def parseTurnedCard : Claim7 := { stood := { row := parseTurnedRow, standIns := [], harness := (true, "19866bf00af4ae0fd994b3d1a04ac6e2a4ab6e22b11d007b4e16f062e562e0c6"), looks := true }, kinds := [], alts := [], laidByText := true, laidKinds := [.data, .data, .data, .data, .sentinel, .sentinel, .pinned], laidTests := true, laidLooks := .later }
def ParseTurnedCardSaid : Prop := Claim7.holds Tryz.pinned (.plain (OpenSpec.ofChange parseTurnedSpec)) parseTurnedCard

/-- THE TIED CARD OF 'palinglaw10.ParseBack'. -/
def parseBackCard : Claim7 := { stood := { row := parseBackRow, standIns := [], harness := (true, "19866bf00af4ae0fd994b3d1a04ac6e2a4ab6e22b11d007b4e16f062e562e0c6"), looks := true }, kinds := [], alts := [], laidByText := true, laidKinds := [.data, .data, .data, .data, .sentinel, .sentinel, .pinned], laidTests := true, laidLooks := .later }
def ParseBackCardSaid : Prop := Claim7.holds Tryz.pinned (.plain (OpenSpec.ofChange parseBackSpec)) parseBackCard

/-- THE TIED CARD OF 'palinglaw10.ParseShown'. -/
def parseShownCard : Claim7 := { stood := { row := parseShownRow, standIns := [], harness := (true, "19866bf00af4ae0fd994b3d1a04ac6e2a4ab6e22b11d007b4e16f062e562e0c6"), looks := true }, kinds := [], alts := [], laidByText := true, laidKinds := [.data, .data, .data, .data, .sentinel, .sentinel, .pinned], laidTests := true, laidLooks := .later }
def ParseShownCardSaid : Prop := Claim7.holds Tryz.pinned (.plain (OpenSpec.ofChange parseShownSpec)) parseShownCard

/-- THE TIED CARD OF 'palinglaw10.ParseRows'. -/
def parseRowsCard : Claim7 := { stood := { row := parseRowsRow, standIns := [], harness := (true, "19866bf00af4ae0fd994b3d1a04ac6e2a4ab6e22b11d007b4e16f062e562e0c6"), looks := true }, kinds := [], alts := [], laidByText := true, laidKinds := [.data, .data, .data, .data, .sentinel, .sentinel, .pinned], laidTests := true, laidLooks := .later }
def ParseRowsCardSaid : Prop := Claim7.holds Tryz.pinned (.plain (OpenSpec.ofChange parseRowsSpec)) parseRowsCard

/-- THE SECOND FORM's CARD OF 'palinglaw10.ParseTells'. -/
def parseTellsUptoCard : Claim7 := { stood := { row := parseTellsUptoRow, standIns := [], harness := (true, "19866bf00af4ae0fd994b3d1a04ac6e2a4ab6e22b11d007b4e16f062e562e0c6"), looks := true }, kinds := [], alts := [], laidByText := true, laidKinds := [.data, .data, .data, .data, .sentinel, .sentinel, .pinned], laidTests := true, laidLooks := .later }
def ParseTellsUptoCardSaid : Prop := Claim7.holds Tryz.pinned (.plain (OpenSpec.upto parseTellsSpec)) parseTellsUptoCard

/-- THE SECOND FORM's CARD OF 'palinglaw10.ParseBent'. -/
def parseBentUptoCard : Claim7 := { stood := { row := parseBentUptoRow, standIns := [], harness := (true, "19866bf00af4ae0fd994b3d1a04ac6e2a4ab6e22b11d007b4e16f062e562e0c6"), looks := true }, kinds := [], alts := [], laidByText := true, laidKinds := [.data, .data, .data, .data, .sentinel, .sentinel, .pinned], laidTests := true, laidLooks := .later }
def ParseBentUptoCardSaid : Prop := Claim7.holds Tryz.pinned (.plain (OpenSpec.upto parseBentSpec)) parseBentUptoCard

/-- THE SECOND FORM's CARD OF 'palinglaw10.ParseTurned'. -/
def parseTurnedUptoCard : Claim7 := { stood := { row := parseTurnedUptoRow, standIns := [], harness := (true, "19866bf00af4ae0fd994b3d1a04ac6e2a4ab6e22b11d007b4e16f062e562e0c6"), looks := true }, kinds := [], alts := [], laidByText := true, laidKinds := [.data, .data, .data, .data, .sentinel, .sentinel, .pinned], laidTests := true, laidLooks := .later }
def ParseTurnedUptoCardSaid : Prop := Claim7.holds Tryz.pinned (.plain (OpenSpec.upto parseTurnedSpec)) parseTurnedUptoCard

/-- THE SECOND FORM's CARD OF 'palinglaw10.ParseBack'. -/
def parseBackUptoCard : Claim7 := { stood := { row := parseBackUptoRow, standIns := [], harness := (true, "19866bf00af4ae0fd994b3d1a04ac6e2a4ab6e22b11d007b4e16f062e562e0c6"), looks := true }, kinds := [], alts := [], laidByText := true, laidKinds := [.data, .data, .data, .data, .sentinel, .sentinel, .pinned], laidTests := true, laidLooks := .later }
def ParseBackUptoCardSaid : Prop := Claim7.holds Tryz.pinned (.plain (OpenSpec.upto parseBackSpec)) parseBackUptoCard

/-- THE SECOND FORM's CARD OF 'palinglaw10.ParseShown'. -/
def parseShownUptoCard : Claim7 := { stood := { row := parseShownUptoRow, standIns := [], harness := (true, "19866bf00af4ae0fd994b3d1a04ac6e2a4ab6e22b11d007b4e16f062e562e0c6"), looks := true }, kinds := [], alts := [], laidByText := true, laidKinds := [.data, .data, .data, .data, .sentinel, .sentinel, .pinned], laidTests := true, laidLooks := .later }
def ParseShownUptoCardSaid : Prop := Claim7.holds Tryz.pinned (.plain (OpenSpec.upto parseShownSpec)) parseShownUptoCard

/-- THE SECOND FORM's CARD OF 'palinglaw10.ParseRows'. -/
def parseRowsUptoCard : Claim7 := { stood := { row := parseRowsUptoRow, standIns := [], harness := (true, "19866bf00af4ae0fd994b3d1a04ac6e2a4ab6e22b11d007b4e16f062e562e0c6"), looks := true }, kinds := [], alts := [], laidByText := true, laidKinds := [.data, .data, .data, .data, .sentinel, .sentinel, .pinned], laidTests := true, laidLooks := .later }
def ParseRowsUptoCardSaid : Prop := Claim7.holds Tryz.pinned (.plain (OpenSpec.upto parseRowsSpec)) parseRowsUptoCard
end Rows
end Go.Proofs.YtocjejladeeckaaGreatDoor
