import Derived.Test.YtocjejladeeckaaDoorWEa
import Derived.Test.YtocjejladeeckaaDoorHas
import Derived.Test.YtocjejladeeckaaDoorPalShow9
/-! The laws of texts of programs, as walks. -/
set_option linter.unusedVariables false
set_option linter.unusedSimpArgs false
set_option linter.unusedSectionVars false
set_option maxRecDepth 100000
namespace Go.Proofs.YtocjejladeeckaaDoor
open Go.Vs
theorem showTells_law [TabU] (x0 : List AV) (t0 : HasT Tryd.prog 12 38 x0) : PureF Tryd.prog 8 [pk Tryd.prog 38 x0] (.bool true) := by
  obtain ⟨p, rfl, w⟩ := has38 (n := 5) t0
  rw [pk38]
  exact palinglaw9_ShowTells_ok (ShowTells_true p w)
end Go.Proofs.YtocjejladeeckaaDoor
