import Derived.Test.YtpojlconoflneaaPalA
import Derived.Lib.ItoaNum
import Derived.Lib.ItoaLen
import Derived.Lib.ParseIntBTie
/-! Numbers as texts: what the two readings and the two writings come to. -/
set_option linter.unusedVariables false
set_option linter.unusedSimpArgs false
set_option linter.unusedSectionVars false
namespace Go.Vs
local instance : Tab := ⟨fun _ => none⟩
open Go.Lib (decDigits itoa nDigits)

/-! ### Words -/
def I64 (n : Int) : Prop := -9223372036854775808 ≤ n ∧ n ≤ 9223372036854775807
instance (n : Int) : Decidable (I64 n) := inferInstanceAs (Decidable (_ ∧ _))
theorem wi64 (n : Int) : IntKind.wrap .i64 n = (n + 9223372036854775808) % 18446744073709551616 - 9223372036854775808 := by
  simp only [IntKind.wrap, IntKind.bits, IntKind.signed, Bool.true_and, decide_eq_true_eq, ge_iff_le]
  split <;> omega
theorem wi64_id {n : Int} (h : I64 n) : IntKind.wrap .i64 n = n := by obtain ⟨h1, h2⟩ := h; rw [wi64]; omega
def bs (l : List UInt8) : ByteArray := ⟨l.toArray⟩
def itoaB (n : Int) : ByteArray := bs (itoa n)
/-! ### The document's text of a number -/
end Go.Vs
