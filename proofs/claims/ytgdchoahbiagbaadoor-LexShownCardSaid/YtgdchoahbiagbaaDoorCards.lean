/-
  DERIVED. GIVEN WITH THE SEED: THE CARDS: each row of YtgdchoahbiagbaaDoorRows.lean that lists a variable, with what it lists TIED to the program's text (the seventh form; the later family's looks); each row that meets fmt, with fmt's text TOLD by the authors' own Lean function (tested against real Go, not proved from fmt's source: count such statements apart). THE CARD IS WHAT COUNTS. Prove the row's statement (the work); the ties are given (YtgdchoahbiagbaaDoorTie.lean); close each card by the builder's one call (the guide's Derived/Test/ToyasCard.lean, 'card_holds'). Laid BY PROGRAM, IN A SANDBOX (cutbox-door.mjs). By AI agents, Wed Nov 11 2026. No macro, syntax, notation, axiom, sorry.
-/
import Derived.Test.YtgdchoahbiagbaaDoorRows
import GoSem.ClaimSeven
namespace Go.Proofs.YtgdchoahbiagbaaDoor
namespace Rows

/-- THE TIED CARD OF 'palinglaw5.LexShown'. -/
def lexShownCard : Claim7 := { stood := { row := lexShownRow, standIns := [], harness := (true, "73b2246fe2c56d2ae5c4d2be794785c4407bdf856200b350fc5a83cc50f28966"), looks := true }, kinds := [], alts := [], laidByText := true, laidKinds := [.data, .data, .data, .data, .sentinel, .sentinel, .pinned], laidTests := true, laidLooks := .later }
def LexShownCardSaid : Prop := Claim7.holds Tryd.pinned (.plain (OpenSpec.ofChange lexShownSpec)) lexShownCard

/-- THE SECOND FORM's CARD OF 'palinglaw5.LexShown'. -/
def lexShownUptoCard : Claim7 := { stood := { row := lexShownUptoRow, standIns := [], harness := (true, "73b2246fe2c56d2ae5c4d2be794785c4407bdf856200b350fc5a83cc50f28966"), looks := true }, kinds := [], alts := [], laidByText := true, laidKinds := [.data, .data, .data, .data, .sentinel, .sentinel, .pinned], laidTests := true, laidLooks := .later }
def LexShownUptoCardSaid : Prop := Claim7.holds Tryd.pinned (.plain (OpenSpec.upto lexShownSpec)) lexShownUptoCard
end Rows
end Go.Proofs.YtgdchoahbiagbaaDoor
