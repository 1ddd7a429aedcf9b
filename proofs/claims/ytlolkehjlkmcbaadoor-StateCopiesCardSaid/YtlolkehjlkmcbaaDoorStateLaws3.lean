import Derived.Test.YtlolkehjlkmcbaaDoorWG
import Derived.Test.YtlolkehjlkmcbaaDoorHas
import Derived.Test.YtlolkehjlkmcbaaDoorPalSt7
/-! StateCopies, as a walk. -/
set_option linter.unusedVariables false
set_option linter.unusedSimpArgs false
set_option linter.unusedSectionVars false
set_option maxRecDepth 100000
namespace Go.Proofs.YtlolkehjlkmcbaaDoor
open Go.Vs
theorem stateCopies_law [TabP] (x0 : List AV) (t0 : HasT Tryd.prog 12 26 x0) : PureF Tryd.prog 6 [pk Tryd.prog 26 x0] (.bool true) := by
  obtain ⟨a, rfl, wa⟩ := has26 (n := 7) t0
  rw [pk26]
  exact palinglaw13_StateCopies_ok (StateCopies_true a)
end Go.Proofs.YtlolkehjlkmcbaaDoor
