import Derived.Test.YtocjejladeeckaaDoorWEb
import Derived.Test.YtocjejladeeckaaDoorHas
import Derived.Test.YtocjejladeeckaaDoorPalShowI
/-! The law of texts of made programs, as a walk. -/
set_option linter.unusedVariables false
set_option linter.unusedSimpArgs false
set_option linter.unusedSectionVars false
set_option maxRecDepth 100000
namespace Go.Proofs.YtocjejladeeckaaDoor
open Go.Vs
theorem showLines_law [TabU] (x0 : List AV) (t0 : HasT Tryd.prog 12 32 x0) : PureF Tryd.prog 11 [pk Tryd.prog 32 x0] (.bool true) := by
  obtain ⟨l, rfl, w⟩ := has32 (n := 8) t0
  rw [pk32]
  exact palinglaw9_ShowLines_ok (ShowLines_true l (fun a ha b hb => (w.2 a ha).2 b hb))
end Go.Proofs.YtocjejladeeckaaDoor
