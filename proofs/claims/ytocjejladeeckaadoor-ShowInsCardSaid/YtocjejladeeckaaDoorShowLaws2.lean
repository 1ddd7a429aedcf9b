import Derived.Test.YtocjejladeeckaaDoorWEb
import Derived.Test.YtocjejladeeckaaDoorHas
import Derived.Test.YtocjejladeeckaaDoorPalShowA
/-! The law of texts of instructions, as a walk. -/
set_option linter.unusedVariables false
set_option linter.unusedSimpArgs false
set_option linter.unusedSectionVars false
set_option maxRecDepth 100000
namespace Go.Proofs.YtocjejladeeckaaDoor
open Go.Vs
theorem showIns_law [TabU] (x0 : List AV) (t0 : HasT Tryd.prog 12 55 x0) (x1 : List AV) (t1 : HasT Tryd.prog 12 57 x1) (x2 : List AV) (t2 : HasT Tryd.prog 12 44 x2) :
    PureF Tryd.prog 10 [pk Tryd.prog 55 x0, pk Tryd.prog 57 x1, pk Tryd.prog 44 x2] (.bool true) := by
  obtain ⟨x, rfl, w⟩ := has55 (n := 9) t0
  obtain ⟨a, rfl, wa⟩ := has57 (n := 10) t1
  obtain ⟨l, rfl, wl⟩ := has44 (n := 10) t2
  rw [pk55, pk57, pk44]
  exact palinglaw9_ShowIns_ok (ShowIns_true x a l w wa)
end Go.Proofs.YtocjejladeeckaaDoor
