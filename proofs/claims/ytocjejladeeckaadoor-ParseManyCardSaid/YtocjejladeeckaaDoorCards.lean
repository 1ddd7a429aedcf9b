/-
  DERIVED. GIVEN WITH THE SEED: THE CARDS: each row of YtocjejladeeckaaDoorRows.lean that lists a variable, with what it lists TIED to the program's text (the seventh form; the later family's looks); each row that meets fmt, with fmt's text TOLD by the authors' own Lean function (tested against real Go, not proved from fmt's source: count such statements apart). THE CARD IS WHAT COUNTS. Prove the row's statement (the work); the ties are given (YtocjejladeeckaaDoorTie.lean); close each card by the builder's one call (the guide's Derived/Test/ToyasCard.lean, 'card_holds'). Laid BY PROGRAM, IN A SANDBOX (cutbox-door.mjs). By AI agents, Wed Nov 11 2026. No macro, syntax, notation, axiom, sorry.
-/
import Derived.Test.YtocjejladeeckaaDoorRows
import GoSem.ClaimSeven
namespace Go.Proofs.YtocjejladeeckaaDoor
namespace Rows

/-- THE TIED CARD OF 'palinglaw5.LexTells'. -/
def lexTellsCard : Claim7 := { stood := { row := lexTellsRow, standIns := [], harness := (true, "91bd84435f7844acf82f03652bd536d16bf9eaedb138dee3e1ee42f1df22a077"), looks := true }, kinds := [], alts := [], laidByText := true, laidKinds := [.data, .data, .data, .data, .sentinel, .sentinel, .pinned], laidTests := true, laidLooks := .later }
def LexTellsCardSaid : Prop := Claim7.holds Tryd.pinned (.plain (OpenSpec.ofChange lexTellsSpec)) lexTellsCard

/-- THE TIED CARD OF 'palinglaw5.LexShown'. -/
def lexShownCard : Claim7 := { stood := { row := lexShownRow, standIns := [], harness := (true, "91bd84435f7844acf82f03652bd536d16bf9eaedb138dee3e1ee42f1df22a077"), looks := true }, kinds := [], alts := [], laidByText := true, laidKinds := [.data, .data, .data, .data, .sentinel, .sentinel, .pinned], laidTests := true, laidLooks := .later }
def LexShownCardSaid : Prop := Claim7.holds Tryd.pinned (.plain (OpenSpec.ofChange lexShownSpec)) lexShownCard

/-- THE TIED CARD OF 'palinglaw5.LexGaps'. -/
def lexGapsCard : Claim7 := { stood := { row := lexGapsRow, standIns := [], harness := (true, "91bd84435f7844acf82f03652bd536d16bf9eaedb138dee3e1ee42f1df22a077"), looks := true }, kinds := [], alts := [], laidByText := true, laidKinds := [.data, .data, .data, .data, .sentinel, .sentinel, .pinned], laidTests := true, laidLooks := .later }
def LexGapsCardSaid : Prop := Claim7.holds Tryd.pinned (.plain (OpenSpec.ofChange lexGapsSpec)) lexGapsCard

/-- THE TIED CARD OF 'palinglaw5.LexAhead'. -/
def lexAheadCard : Claim7 := { stood := { row := lexAheadRow, standIns := [], harness := (true, "91bd84435f7844acf82f03652bd536d16bf9eaedb138dee3e1ee42f1df22a077"), looks := true }, kinds := [], alts := [], laidByText := true, laidKinds := [.data, .data, .data, .data, .sentinel, .sentinel, .pinned], laidTests := true, laidLooks := .later }
def LexAheadCardSaid : Prop := Claim7.holds Tryd.pinned (.plain (OpenSpec.ofChange lexAheadSpec)) lexAheadCard

/-- THE TIED CARD OF 'palinglaw5.LexStand'. -/
def lexStandCard : Claim7 := { stood := { row := lexStandRow, standIns := [], harness := (true, "91bd84435f7844acf82f03652bd536d16bf9eaedb138dee3e1ee42f1df22a077"), looks := true }, kinds := [], alts := [], laidByText := true, laidKinds := [.data, .data, .data, .data, .sentinel, .sentinel, .pinned], laidTests := true, laidLooks := .later }
def LexStandCardSaid : Prop := Claim7.holds Tryd.pinned (.plain (OpenSpec.ofChange lexStandSpec)) lexStandCard

/-- THE TIED CARD OF 'palinglaw9.ShowTells'. -/
def showTellsCard : Claim7 := { stood := { row := showTellsRow, standIns := [], harness := (true, "91bd84435f7844acf82f03652bd536d16bf9eaedb138dee3e1ee42f1df22a077"), looks := true }, kinds := [], alts := [], laidByText := true, laidKinds := [.data, .data, .data, .data, .pinned], laidTests := true, laidLooks := .later }
def ShowTellsCardSaid : Prop := Claim7.holds Tryd.pinned (.plain (OpenSpec.ofChange showTellsSpec)) showTellsCard

/-- THE TIED CARD OF 'palinglaw9.ShowMade'. -/
def showMadeCard : Claim7 := { stood := { row := showMadeRow, standIns := [], harness := (true, "91bd84435f7844acf82f03652bd536d16bf9eaedb138dee3e1ee42f1df22a077"), looks := true }, kinds := [], alts := [], laidByText := true, laidKinds := [.data, .data, .data, .data, .pinned], laidTests := true, laidLooks := .later }
def ShowMadeCardSaid : Prop := Claim7.holds Tryd.pinned (.plain (OpenSpec.ofChange showMadeSpec)) showMadeCard

/-- THE TIED CARD OF 'palinglaw9.ShowIns'. -/
def showInsCard : Claim7 := { stood := { row := showInsRow, standIns := [], harness := (true, "91bd84435f7844acf82f03652bd536d16bf9eaedb138dee3e1ee42f1df22a077"), looks := true }, kinds := [], alts := [], laidByText := true, laidKinds := [.data, .data, .data, .data, .pinned], laidTests := true, laidLooks := .later }
def ShowInsCardSaid : Prop := Claim7.holds Tryd.pinned (.plain (OpenSpec.ofChange showInsSpec)) showInsCard

/-- THE TIED CARD OF 'palinglaw9.ShowLines'. -/
def showLinesCard : Claim7 := { stood := { row := showLinesRow, standIns := [], harness := (true, "91bd84435f7844acf82f03652bd536d16bf9eaedb138dee3e1ee42f1df22a077"), looks := true }, kinds := [], alts := [], laidByText := true, laidKinds := [.data, .data, .data, .data, .pinned], laidTests := true, laidLooks := .later }
def ShowLinesCardSaid : Prop := Claim7.holds Tryd.pinned (.plain (OpenSpec.ofChange showLinesSpec)) showLinesCard

/-- THE TIED CARD OF 'palinglaw9.ShowApart'. -/
def showApartCard : Claim7 := { stood := { row := showApartRow, standIns := [], harness := (true, "91bd84435f7844acf82f03652bd536d16bf9eaedb138dee3e1ee42f1df22a077"), looks := true }, kinds := [], alts := [], laidByText := true, laidKinds := [.data, .data, .data, .data, .pinned], laidTests := true, laidLooks := .later }
def ShowApartCardSaid : Prop := Claim7.holds Tryd.pinned (.plain (OpenSpec.ofChange showApartSpec)) showApartCard

/-- THE TIED CARD OF 'palinglaw10.ParsePlace'. -/
def parsePlaceCard : Claim7 := { stood := { row := parsePlaceRow, standIns := [], harness := (true, "91bd84435f7844acf82f03652bd536d16bf9eaedb138dee3e1ee42f1df22a077"), looks := true }, kinds := [], alts := [], laidByText := true, laidKinds := [.data, .data, .data, .data, .sentinel, .sentinel, .pinned], laidTests := true, laidLooks := .later }
def ParsePlaceCardSaid : Prop := Claim7.holds Tryd.pinned (.plain (OpenSpec.ofChange parsePlaceSpec)) parsePlaceCard

/-- THE TIED CARD OF 'palinglaw10.ParseMany'. -/
def parseManyCard : Claim7 := { stood := { row := parseManyRow, standIns := [], harness := (true, "91bd84435f7844acf82f03652bd536d16bf9eaedb138dee3e1ee42f1df22a077"), looks := true }, kinds := [], alts := [], laidByText := true, laidKinds := [.data, .data, .data, .data, .sentinel, .sentinel, .pinned], laidTests := true, laidLooks := .later }
def ParseManyCardSaid : Prop := Claim7.holds Tryd.pinned (.plain (OpenSpec.ofChange parseManySpec)) parseManyCard

/-- THE SECOND FORM's CARD OF 'palinglaw5.LexTells'. -/
def lexTellsUptoCard : Claim7 := { stood := { row := lexTellsUptoRow, standIns := [], harness := (true, "91bd84435f7844acf82f03652bd536d16bf9eaedb138dee3e1ee42f1df22a077"), looks := true }, kinds := [], alts := [], laidByText := true, laidKinds := [.data, .data, .data, .data, .sentinel, .sentinel, .pinned], laidTests := true, laidLooks := .later }
def LexTellsUptoCardSaid : Prop := Claim7.holds Tryd.pinned (.plain (OpenSpec.upto lexTellsSpec)) lexTellsUptoCard

/-- THE SECOND FORM's CARD OF 'palinglaw5.LexShown'. -/
def lexShownUptoCard : Claim7 := { stood := { row := lexShownUptoRow, standIns := [], harness := (true, "91bd84435f7844acf82f03652bd536d16bf9eaedb138dee3e1ee42f1df22a077"), looks := true }, kinds := [], alts := [], laidByText := true, laidKinds := [.data, .data, .data, .data, .sentinel, .sentinel, .pinned], laidTests := true, laidLooks := .later }
def LexShownUptoCardSaid : Prop := Claim7.holds Tryd.pinned (.plain (OpenSpec.upto lexShownSpec)) lexShownUptoCard

/-- THE SECOND FORM's CARD OF 'palinglaw5.LexGaps'. -/
def lexGapsUptoCard : Claim7 := { stood := { row := lexGapsUptoRow, standIns := [], harness := (true, "91bd84435f7844acf82f03652bd536d16bf9eaedb138dee3e1ee42f1df22a077"), looks := true }, kinds := [], alts := [], laidByText := true, laidKinds := [.data, .data, .data, .data, .sentinel, .sentinel, .pinned], laidTests := true, laidLooks := .later }
def LexGapsUptoCardSaid : Prop := Claim7.holds Tryd.pinned (.plain (OpenSpec.upto lexGapsSpec)) lexGapsUptoCard

/-- THE SECOND FORM's CARD OF 'palinglaw5.LexAhead'. -/
def lexAheadUptoCard : Claim7 := { stood := { row := lexAheadUptoRow, standIns := [], harness := (true, "91bd84435f7844acf82f03652bd536d16bf9eaedb138dee3e1ee42f1df22a077"), looks := true }, kinds := [], alts := [], laidByText := true, laidKinds := [.data, .data, .data, .data, .sentinel, .sentinel, .pinned], laidTests := true, laidLooks := .later }
def LexAheadUptoCardSaid : Prop := Claim7.holds Tryd.pinned (.plain (OpenSpec.upto lexAheadSpec)) lexAheadUptoCard

/-- THE SECOND FORM's CARD OF 'palinglaw5.LexStand'. -/
def lexStandUptoCard : Claim7 := { stood := { row := lexStandUptoRow, standIns := [], harness := (true, "91bd84435f7844acf82f03652bd536d16bf9eaedb138dee3e1ee42f1df22a077"), looks := true }, kinds := [], alts := [], laidByText := true, laidKinds := [.data, .data, .data, .data, .sentinel, .sentinel, .pinned], laidTests := true, laidLooks := .later }
def LexStandUptoCardSaid : Prop := Claim7.holds Tryd.pinned (.plain (OpenSpec.upto lexStandSpec)) lexStandUptoCard

/-- THE SECOND FORM's CARD OF 'palinglaw9.ShowTells'. -/
def showTellsUptoCard : Claim7 := { stood := { row := showTellsUptoRow, standIns := [], harness := (true, "91bd84435f7844acf82f03652bd536d16bf9eaedb138dee3e1ee42f1df22a077"), looks := true }, kinds := [], alts := [], laidByText := true, laidKinds := [.data, .data, .data, .data, .pinned], laidTests := true, laidLooks := .later }
def ShowTellsUptoCardSaid : Prop := Claim7.holds Tryd.pinned (.plain (OpenSpec.upto showTellsSpec)) showTellsUptoCard

/-- THE SECOND FORM's CARD OF 'palinglaw9.ShowMade'. -/
def showMadeUptoCard : Claim7 := { stood := { row := showMadeUptoRow, standIns := [], harness := (true, "91bd84435f7844acf82f03652bd536d16bf9eaedb138dee3e1ee42f1df22a077"), looks := true }, kinds := [], alts := [], laidByText := true, laidKinds := [.data, .data, .data, .data, .pinned], laidTests := true, laidLooks := .later }
def ShowMadeUptoCardSaid : Prop := Claim7.holds Tryd.pinned (.plain (OpenSpec.upto showMadeSpec)) showMadeUptoCard

/-- THE SECOND FORM's CARD OF 'palinglaw9.ShowIns'. -/
def showInsUptoCard : Claim7 := { stood := { row := showInsUptoRow, standIns := [], harness := (true, "91bd84435f7844acf82f03652bd536d16bf9eaedb138dee3e1ee42f1df22a077"), looks := true }, kinds := [], alts := [], laidByText := true, laidKinds := [.data, .data, .data, .data, .pinned], laidTests := true, laidLooks := .later }
def ShowInsUptoCardSaid : Prop := Claim7.holds Tryd.pinned (.plain (OpenSpec.upto showInsSpec)) showInsUptoCard

/-- THE SECOND FORM's CARD OF 'palinglaw9.ShowLines'. -/
def showLinesUptoCard : Claim7 := { stood := { row := showLinesUptoRow, standIns := [], harness := (true, "91bd84435f7844acf82f03652bd536d16bf9eaedb138dee3e1ee42f1df22a077"), looks := true }, kinds := [], alts := [], laidByText := true, laidKinds := [.data, .data, .data, .data, .pinned], laidTests := true, laidLooks := .later }
def ShowLinesUptoCardSaid : Prop := Claim7.holds Tryd.pinned (.plain (OpenSpec.upto showLinesSpec)) showLinesUptoCard

/-- THE SECOND FORM's CARD OF 'palinglaw9.ShowApart'. -/
def showApartUptoCard : Claim7 := { stood := { row := showApartUptoRow, standIns := [], harness := (true, "91bd84435f7844acf82f03652bd536d16bf9eaedb138dee3e1ee42f1df22a077"), looks := true }, kinds := [], alts := [], laidByText := true, laidKinds := [.data, .data, .data, .data, .pinned], laidTests := true, laidLooks := .later }
def ShowApartUptoCardSaid : Prop := Claim7.holds Tryd.pinned (.plain (OpenSpec.upto showApartSpec)) showApartUptoCard

/-- THE SECOND FORM's CARD OF 'palinglaw10.ParsePlace'. -/
def parsePlaceUptoCard : Claim7 := { stood := { row := parsePlaceUptoRow, standIns := [], harness := (true, "91bd84435f7844acf82f03652bd536d16bf9eaedb138dee3e1ee42f1df22a077"), looks := true }, kinds := [], alts := [], laidByText := true, laidKinds := [.data, .data, .data, .data, .sentinel, .sentinel, .pinned], laidTests := true, laidLooks := .later }
def ParsePlaceUptoCardSaid : Prop := Claim7.holds Tryd.pinned (.plain (OpenSpec.upto parsePlaceSpec)) parsePlaceUptoCard

/-- THE SECOND FORM's CARD OF 'palinglaw10.ParseMany'. -/
def parseManyUptoCard : Claim7 := { stood := { row := parseManyUptoRow, standIns := [], harness := (true, "91bd84435f7844acf82f03652bd536d16bf9eaedb138dee3e1ee42f1df22a077"), looks := true }, kinds := [], alts := [], laidByText := true, laidKinds := [.data, .data, .data, .data, .sentinel, .sentinel, .pinned], laidTests := true, laidLooks := .later }
def ParseManyUptoCardSaid : Prop := Claim7.holds Tryd.pinned (.plain (OpenSpec.upto parseManySpec)) parseManyUptoCard
end Rows
end Go.Proofs.YtocjejladeeckaaDoor
