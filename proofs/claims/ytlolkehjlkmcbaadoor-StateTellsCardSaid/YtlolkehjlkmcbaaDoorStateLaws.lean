import Derived.Test.YtlolkehjlkmcbaaDoorWD
import Derived.Test.YtlolkehjlkmcbaaDoorHas
import Derived.Test.YtlolkehjlkmcbaaDoorPalSt4
/-! The laws of states, as walks. -/
set_option linter.unusedVariables false
set_option linter.unusedSimpArgs false
set_option linter.unusedSectionVars false
set_option maxRecDepth 100000
namespace Go.Proofs.YtlolkehjlkmcbaaDoor
open Go.Vs
theorem stateTells_law [TabP] (x0 : List AV) (t0 : HasT Tryd.prog 12 26 x0) (x1 : List AV) (t1 : HasT Tryd.prog 12 26 x1) : PureF Tryd.prog 3 [pk Tryd.prog 26 x0, pk Tryd.prog 26 x1] (.bool true) := by
  obtain ⟨a, rfl, wa⟩ := has26 (n := 7) t0
  obtain ⟨b, rfl, wb⟩ := has26 (n := 7) t1
  rw [pk26, pk26]
  exact palinglaw13_StateTells_ok (StateTells_true a b wa wb)
end Go.Proofs.YtlolkehjlkmcbaaDoor
