import Derived.Test.YtlolkehjlkmcbaaDoorPalA
import Derived.Lib.ItoaNum
import Derived.Lib.ItoaLen
import Derived.Lib.ParseIntBTie
/-! Numbers as texts: what the two readings and the two writings come to. -/
set_option linter.unusedVariables false
set_option linter.unusedSimpArgs false
set_option linter.unusedSectionVars false
namespace Go.Vs
local instance : Tab := ⟨fun _ => none⟩
open Go.Lib (decDigits itoa nDigits)

/-! ### Words -/
def I64 (n : Int) : Prop := -9223372036854775808 ≤ n ∧ n ≤ 9223372036854775807
instance (n : Int) : Decidable (I64 n) := inferInstanceAs (Decidable (_ ∧ _))
theorem wi64 (n : Int) : IntKind.wrap .i64 n = (n + 9223372036854775808) % 18446744073709551616 - 9223372036854775808 := by
  simp only [IntKind.wrap, IntKind.bits, IntKind.signed, Bool.true_and, decide_eq_true_eq, ge_iff_le]
  split <;> omega
theorem wi64_id {n : Int} (h : I64 n) : IntKind.wrap .i64 n = n := by obtain ⟨h1, h2⟩ := h; rw [wi64]; omega
theorem bext {a b : ByteArray} (h : a.data.toList = b.data.toList) : a = b := ByteArray.ext (Array.ext' h)
theorem bl_append (a b : ByteArray) : (a ++ b).data.toList = a.data.toList ++ b.data.toList := by simp [ByteArray.data_append]
theorem bl_size (b : ByteArray) : b.size = b.data.toList.length := by rw [Array.length_toList]; rfl
def bs (l : List UInt8) : ByteArray := ⟨l.toArray⟩
theorem bl_bs (l : List UInt8) : (bs l).data.toList = l := by simp [bs]
theorem bs_size (l : List UInt8) : (bs l).size = l.length := by rw [bl_size, bl_bs]
def itoaB (n : Int) : ByteArray := bs (itoa n)
/-! ### The document's text of a number -/
/-! ### Digits -/
def isDig (c : UInt8) : Bool := decide (48 ≤ c.toNat ∧ c.toNat ≤ 57)
def valD (l : List UInt8) : Nat := l.foldl (fun a c => a * 10 + (c.toNat - 48)) 0
/-! ### What a text is read as -/
def readL (l : List UInt8) : Option Int :=
  let d := if l.head? = some 45 then l.tail else l
  if d ≠ [] ∧ d.all isDig = true ∧ (d.head? = some 48 → d = [48] ∧ l.head? ≠ some 45) ∧ (if l.head? = some 45 then valD d ≤ 9223372036854775808 else valD d < 9223372036854775808) then
    some (if l.head? = some 45 then -(valD d : Int) else valD d) else none
def readS (s : ByteArray) : Int × Bool := match readL s.data.toList with | some v => (v, true) | none => (0, false)

/-! ### The library's reading -/
/-! ### The program's reading and writing -/
noncomputable def strconv_FormatInt (p0 p1 : Int) : Option ByteArray := if p1 = 10 ∧ I64 p0 then some (itoaB p0) else none
noncomputable def num_Text (p0 : Int) : Option ByteArray := if I64 p0 then some (itoaB p0) else none
noncomputable def num_Read (p0 : ByteArray) : Option (Int × Bool) := if p0.size ≤ 281474976710656 then some (readS p0) else none
end Go.Vs
