import Derived.Test.YtocjejladeeckaaDoorWE
import Derived.Test.YtocjejladeeckaaDoorLexLaws
import Derived.Test.YtocjejladeeckaaDoorPalLex7
/-! The laws of tokens, as walks: what stands ahead of the wrong place. -/
set_option linter.unusedVariables false
set_option linter.unusedSimpArgs false
set_option linter.unusedSectionVars false
set_option maxRecDepth 100000
namespace Go.Proofs.YtocjejladeeckaaDoor
open Go.Vs
theorem lexAhead_law [TabU] (x0 : List AV) (t0 : HasT Tryd.prog 12 9 x0) : PureF Tryd.prog 6 [pk Tryd.prog 9 x0] (.bool true) := by
  obtain ⟨s, e0, h0⟩ := str_of t0
  rw [e0]
  exact palinglaw5_LexAhead_ok (LexAhead_true s)
end Go.Proofs.YtocjejladeeckaaDoor
