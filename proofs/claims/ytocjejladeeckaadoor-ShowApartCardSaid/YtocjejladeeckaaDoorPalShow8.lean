import Derived.Test.YtocjejladeeckaaDoorPalShow7
/-! The text of a program, the document's way. -/
set_option linter.unusedVariables false
set_option linter.unusedSimpArgs false
set_option linter.unusedSectionVars false
namespace Go.Vs
open Go.Lib
local instance tabPalShow8 : Tab := ⟨fun _ => none⟩
end Go.Vs
