import Derived.Test.YtmilckfhlldboaaDoorWN
import Derived.Test.YtmilckfhlldboaaDoorPalNumLaws
import Derived.Test.YtmilckfhlldboaaDoorVtR
/-! The laws of numbers, as walks. -/
set_option linter.unusedVariables false
set_option linter.unusedSimpArgs false
set_option linter.unusedSectionVars false
set_option maxRecDepth 100000
namespace Go.Proofs.YtmilckfhlldboaaDoor
open Go.Vs
theorem i64_of [Tab] {t : TypeId} (hu : Tryd.prog.underlying t = some (.int .i64)) {x : List AV} (h : HasT Tryd.prog 12 t x) : ∃ i, pk Tryd.prog t x = .int .i64 i ∧ I64 i := by
  obtain ⟨i, e, h1, h2⟩ := HasT.int_ (n := 11) hu h
  have a1 : IntKind.i64.min = -9223372036854775808 := by decide
  have a2 : IntKind.i64.max = 9223372036854775807 := by decide
  exact ⟨i, e, by omega, by omega⟩
theorem str_of [Tab] {x : List AV} (h : HasT Tryd.prog 12 9 x) : ∃ s : ByteArray, pk Tryd.prog 9 x = .str s ∧ s.size ≤ maxLen := HasT.str_ (n := 11) Tryd.underlying9 h
theorem numTells_law [TabE] (x0 : List AV) (t0 : HasT Tryd.prog 12 2 x0) (x1 : List AV) (t1 : HasT Tryd.prog 12 9 x1) : PureF Tryd.prog 7 [pk Tryd.prog 2 x0, pk Tryd.prog 9 x1] (.bool true) := by
  obtain ⟨a, e0, h0⟩ := i64_of Tryd.underlying2 t0
  obtain ⟨s, e1, h1⟩ := str_of t1
  rw [e0, e1]
  exact palinglaw2_NumTells_ok (NumTells_true h0 s)
theorem numBack_law [TabE] (x0 : List AV) (t0 : HasT Tryd.prog 12 2 x0) : PureF Tryd.prog 8 [pk Tryd.prog 2 x0] (.bool true) := by
  obtain ⟨a, e0, h0⟩ := i64_of Tryd.underlying2 t0
  rw [e0]
  exact palinglaw2_NumBack_ok (NumBack_true h0)
theorem numOnce_law [TabE] (x0 : List AV) (t0 : HasT Tryd.prog 12 9 x0) : PureF Tryd.prog 9 [pk Tryd.prog 9 x0] (.bool true) := by
  obtain ⟨s, e0, h0⟩ := str_of t0
  rw [e0]
  exact palinglaw2_NumOnce_ok (NumOnce_true s)
theorem numBent_law [TabE] (x0 : List AV) (t0 : HasT Tryd.prog 12 2 x0) (x1 : List AV) (t1 : HasT Tryd.prog 12 3 x1) : PureF Tryd.prog 10 [pk Tryd.prog 2 x0, pk Tryd.prog 3 x1] (.bool true) := by
  obtain ⟨a, e0, h0⟩ := i64_of Tryd.underlying2 t0
  obtain ⟨b, e1, h1⟩ := i64_of Tryd.underlying3 t1
  rw [e0, e1]
  exact palinglaw2_NumBent_ok (NumBent_true h0 h1)
theorem numOrder_law [TabE] (x0 : List AV) (t0 : HasT Tryd.prog 12 2 x0) (x1 : List AV) (t1 : HasT Tryd.prog 12 2 x1) : PureF Tryd.prog 11 [pk Tryd.prog 2 x0, pk Tryd.prog 2 x1] (.bool true) := by
  obtain ⟨a, e0, h0⟩ := i64_of Tryd.underlying2 t0
  obtain ⟨b, e1, h1⟩ := i64_of Tryd.underlying2 t1
  rw [e0, e1]
  exact palinglaw2_NumOrder_ok (NumOrder_true h0 h1)
end Go.Proofs.YtmilckfhlldboaaDoor
