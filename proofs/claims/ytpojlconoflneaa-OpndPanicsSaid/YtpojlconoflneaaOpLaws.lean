import Derived.Test.YtpojlconoflneaaWC
import Derived.Test.YtpojlconoflneaaHas
import Derived.Test.YtpojlconoflneaaPalOp
/-! OpndPanics, as a walk. -/
set_option linter.unusedVariables false
set_option linter.unusedSimpArgs false
set_option linter.unusedSectionVars false
set_option maxRecDepth 100000
namespace Go.Proofs.Ytpojlconoflneaa
open Go.Vs
theorem opndPanics_law [Tab] (x0 : List AV) (t0 : HasT Try.prog 12 3 x0) (x1 : List AV) (t1 : HasT Try.prog 12 3 x1) (x2 : List AV) (t2 : HasT Try.prog 12 2 x2) : PureF Try.prog 3 [pk Try.prog 3 x0, pk Try.prog 3 x1, pk Try.prog 2 x2] (.bool true) := by
  obtain ⟨a, rfl, wa⟩ := has3 (n := 11) t0
  obtain ⟨b, rfl, wb⟩ := has3 (n := 11) t1
  obtain ⟨c, rfl, wc⟩ := has2 (n := 11) t2
  rw [pk3, pk3, pk2]
  exact palinglaw6_OpndPanics_ok (OpndPanics_true a b c wa.i64)
end Go.Proofs.Ytpojlconoflneaa
