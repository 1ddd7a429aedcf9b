import Derived.Test.YtocjejladeeckaaDoorWH
import Derived.Test.YtocjejladeeckaaDoorHas
import Derived.Test.YtocjejladeeckaaDoorPS2
/-! The law of texts that tell programs apart, as a walk. -/
set_option linter.unusedVariables false
set_option linter.unusedSimpArgs false
set_option linter.unusedSectionVars false
set_option maxRecDepth 100000
namespace Go.Proofs.YtocjejladeeckaaDoor
open Go.Vs
theorem showApart_law [TabU] (x0 : List AV) (t0 : HasT Tryd.prog 12 32 x0) (x1 : List AV) (t1 : HasT Tryd.prog 12 3 x1) (x2 : List AV) (t2 : HasT Tryd.prog 12 3 x2) (x3 : List AV) (t3 : HasT Tryd.prog 12 57 x3) :
    PureF Tryd.prog 12 [pk Tryd.prog 32 x0, pk Tryd.prog 3 x1, pk Tryd.prog 3 x2, pk Tryd.prog 57 x3] (.bool true) := by
  obtain ⟨l, rfl, w⟩ := has32 (n := 8) t0
  obtain ⟨i, rfl, wi⟩ := has3 (n := 11) t1
  obtain ⟨k, rfl, wk⟩ := has3 (n := 11) t2
  obtain ⟨a, rfl, wa⟩ := has57 (n := 10) t3
  rw [pk32, pk3, pk3, pk57]
  exact palinglaw9_ShowApart_ok (ShowApart_true l (fun a ha b hb => (w.2 a ha).2 b hb) i k wi.i64 wk.i64 a wa)
end Go.Proofs.YtocjejladeeckaaDoor
