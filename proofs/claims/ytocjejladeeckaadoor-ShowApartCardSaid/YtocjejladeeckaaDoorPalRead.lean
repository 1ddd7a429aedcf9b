import Derived.Test.YtocjejladeeckaaDoorPalNum
/-! The document's reading of a number. -/
set_option linter.unusedVariables false
set_option linter.unusedSimpArgs false
set_option linter.unusedSectionVars false
namespace Go.Vs
local instance : Tab := ⟨fun _ => none⟩
open Go.Lib (decDigits itoa nDigits)
end Go.Vs
