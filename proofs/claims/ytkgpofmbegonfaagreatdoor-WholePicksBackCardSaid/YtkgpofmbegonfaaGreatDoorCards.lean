/-
  DERIVED. GIVEN WITH THE SEED: THE CARDS: each row of YtkgpofmbegonfaaGreatDoorRows.lean that lists a variable, with what it lists TIED to the program's text (the seventh form; the later family's looks); each row that meets fmt, with fmt's text TOLD by the authors' own Lean function (tested against real Go, not proved from fmt's source: count such statements apart). THE CARD IS WHAT COUNTS. Prove the row's statement (the work); the ties are given (YtkgpofmbegonfaaGreatDoorTie.lean); close each card by the builder's one call (the guide's Derived/Test/ToyasCard.lean, 'card_holds'). Laid BY PROGRAM, IN A SANDBOX (cutbox-door.mjs). By AI agents, Wed Nov 11 2026. No macro, syntax, notation, axiom, sorry.
-/
import Derived.Test.YtkgpofmbegonfaaGreatDoorRows
import GoSem.ClaimSeven
namespace Go.Proofs.YtkgpofmbegonfaaGreatDoor
namespace Rows

/-- THE TIED CARD OF 'palinglaw32.WholePicks'. -/
def wholePicksCard : Claim7 := { stood := { row := wholePicksRow, standIns := [], harness := (true, "ffc8048458888361800e8f46ee0b33ae07391b5c84173609c06161ae6c157cb0"), looks := true }, kinds := [], alts := [], laidByText := true, laidKinds := [.data, .data, .data, .data, .sentinel, .sentinel, .pinned], laidTests := true, laidLooks := .later }
def WholePicksCardSaid : Prop := Claim7.holds Tryz.pinned (.plain (OpenSpec.ofChange wholePicksSpec)) wholePicksCard

/-- THE TIED CARD OF 'palinglaw32.WholePicksBack'. -/
def wholePicksBackCard : Claim7 := { stood := { row := wholePicksBackRow, standIns := [], harness := (true, "ffc8048458888361800e8f46ee0b33ae07391b5c84173609c06161ae6c157cb0"), looks := true }, kinds := [], alts := [], laidByText := true, laidKinds := [.data, .data, .data, .data, .sentinel, .sentinel, .pinned], laidTests := true, laidLooks := .later }
def WholePicksBackCardSaid : Prop := Claim7.holds Tryz.pinned (.plain (OpenSpec.ofChange wholePicksBackSpec)) wholePicksBackCard

/-- THE SECOND FORM's CARD OF 'palinglaw32.WholePicks'. -/
def wholePicksUptoCard : Claim7 := { stood := { row := wholePicksUptoRow, standIns := [], harness := (true, "ffc8048458888361800e8f46ee0b33ae07391b5c84173609c06161ae6c157cb0"), looks := true }, kinds := [], alts := [], laidByText := true, laidKinds := [.data, .data, .data, .data, .sentinel, .sentinel, .pinned], laidTests := true, laidLooks := .later }
def WholePicksUptoCardSaid : Prop := Claim7.holds Tryz.pinned (.plain (OpenSpec.upto wholePicksSpec)) wholePicksUptoCard

/-- THE SECOND FORM's CARD OF 'palinglaw32.WholePicksBack'. -/
def wholePicksBackUptoCard : Claim7 := { stood := { row := wholePicksBackUptoRow, standIns := [], harness := (true, "ffc8048458888361800e8f46ee0b33ae07391b5c84173609c06161ae6c157cb0"), looks := true }, kinds := [], alts := [], laidByText := true, laidKinds := [.data, .data, .data, .data, .sentinel, .sentinel, .pinned], laidTests := true, laidLooks := .later }
def WholePicksBackUptoCardSaid : Prop := Claim7.holds Tryz.pinned (.plain (OpenSpec.upto wholePicksBackSpec)) wholePicksBackUptoCard
end Rows
end Go.Proofs.YtkgpofmbegonfaaGreatDoor
