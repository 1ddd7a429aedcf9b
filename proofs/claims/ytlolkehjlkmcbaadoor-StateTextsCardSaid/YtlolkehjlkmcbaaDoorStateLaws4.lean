import Derived.Test.YtlolkehjlkmcbaaDoorWH
import Derived.Test.YtlolkehjlkmcbaaDoorHas
import Derived.Test.YtlolkehjlkmcbaaDoorPalSt8
/-! StateTexts, as a walk. -/
set_option linter.unusedVariables false
set_option linter.unusedSimpArgs false
set_option linter.unusedSectionVars false
set_option maxRecDepth 100000
namespace Go.Proofs.YtlolkehjlkmcbaaDoor
open Go.Vs
theorem stateTexts_law [TabP] (x0 : List AV) (t0 : HasT Tryd.prog 12 26 x0) (x1 : List AV) (t1 : HasT Tryd.prog 12 26 x1) (x2 : List AV) (t2 : HasT Tryd.prog 12 3 x2) (x3 : List AV) (t3 : HasT Tryd.prog 12 3 x3) (x4 : List AV) (t4 : HasT Tryd.prog 12 2 x4) :
    PureF Tryd.prog 4 [pk Tryd.prog 26 x0, pk Tryd.prog 26 x1, pk Tryd.prog 3 x2, pk Tryd.prog 3 x3, pk Tryd.prog 2 x4] (.bool true) := by
  obtain ⟨a, rfl, wa⟩ := has26 (n := 7) t0
  obtain ⟨b, rfl, wb⟩ := has26 (n := 7) t1
  obtain ⟨x, rfl, wx⟩ := has3 (n := 11) t2
  obtain ⟨y, rfl, wy⟩ := has3 (n := 11) t3
  obtain ⟨z, rfl, wz⟩ := has2 (n := 11) t4
  rw [pk26, pk26, pk3, pk3, pk2]
  exact palinglaw13_StateTexts_ok (StateTexts_true a b x y z wa wb wx.i64 wy.i64 wz.i64)
end Go.Proofs.YtlolkehjlkmcbaaDoor
