import Derived.Test.YtocjejladeeckaaDoorPalA
import Derived.Lib.ItoaNum
import Derived.Lib.ItoaLen
import Derived.Lib.ParseIntBTie
/-! Numbers as texts: what the two readings and the two writings come to. -/
set_option linter.unusedVariables false
set_option linter.unusedSimpArgs false
set_option linter.unusedSectionVars false
namespace Go.Vs
local instance : Tab := ⟨fun _ => none⟩
open Go.Lib (decDigits itoa nDigits)

/-! ### Words -/
def I64 (n : Int) : Prop := -9223372036854775808 ≤ n ∧ n ≤ 9223372036854775807
instance (n : Int) : Decidable (I64 n) := inferInstanceAs (Decidable (_ ∧ _))
theorem wi64 (n : Int) : IntKind.wrap .i64 n = (n + 9223372036854775808) % 18446744073709551616 - 9223372036854775808 := by
  simp only [IntKind.wrap, IntKind.bits, IntKind.signed, Bool.true_and, decide_eq_true_eq, ge_iff_le]
  split <;> omega
theorem wi64_id {n : Int} (h : I64 n) : IntKind.wrap .i64 n = n := by obtain ⟨h1, h2⟩ := h; rw [wi64]; omega
theorem bl_append (a b : ByteArray) : (a ++ b).data.toList = a.data.toList ++ b.data.toList := by simp [ByteArray.data_append]
theorem bl_size (b : ByteArray) : b.size = b.data.toList.length := by rw [Array.length_toList]; rfl
def bs (l : List UInt8) : ByteArray := ⟨l.toArray⟩
theorem bl_bs (l : List UInt8) : (bs l).data.toList = l := by simp [bs]
theorem bs_size (l : List UInt8) : (bs l).size = l.length := by rw [bl_size, bl_bs]
def itoaB (n : Int) : ByteArray := bs (itoa n)
/-! ### The document's text of a number -/
/-! ### Digits -/
def isDig (c : UInt8) : Bool := decide (48 ≤ c.toNat ∧ c.toNat ≤ 57)
def valD (l : List UInt8) : Nat := l.foldl (fun a c => a * 10 + (c.toNat - 48)) 0
theorem valD_snoc (l : List UInt8) (c : UInt8) : valD (l ++ [c]) = valD l * 10 + (c.toNat - 48) := by simp [valD]
theorem dig_nat (d : Nat) (h : d < 10) : (UInt8.ofNat (48 + d)).toNat = 48 + d := by
  rw [UInt8.toNat_ofNat']; omega
theorem decDigits_facts (u : Nat) : valD (decDigits u) = u ∧ (decDigits u).all isDig = true ∧ decDigits u ≠ [] ∧ (u ≠ 0 → (decDigits u).head? ≠ some 48) := by
  induction u using Nat.strongRecOn with
  | _ u ih =>
    by_cases h : u < 10
    · rw [Lib.decDigits_one h]
      refine ⟨?_, ?_, by simp, fun h0 => ?_⟩
      · simp only [valD, List.foldl_cons, List.foldl_nil, dig_nat u h]; omega
      · simp only [List.all_cons, List.all_nil, Bool.and_true, isDig, dig_nat u h, decide_eq_true_eq]; omega
      · simp only [List.head?_cons, ne_eq, Option.some.injEq]
        intro e
        have := congrArg UInt8.toNat e
        rw [dig_nat u h] at this
        have e48 : (48 : UInt8).toNat = 48 := rfl
        omega
    · rw [decDigits, dif_neg h]
      obtain ⟨h1, h2, h3, h4⟩ := ih (u / 10) (by omega)
      have hd := dig_nat (u % 10) (by omega)
      refine ⟨by rw [valD_snoc, h1, hd]; omega, ?_, by simp, fun _ => ?_⟩
      · rw [List.all_append, h2]
        simp only [List.all_cons, List.all_nil, Bool.and_true, Bool.true_and, isDig, hd, decide_eq_true_eq]; omega
      · have := h4 (by omega)
        cases hl : decDigits (u / 10) with
        | nil => exact absurd hl h3
        | cons a l => rw [hl] at this; simpa using this
/-! ### What a text is read as -/
def readL (l : List UInt8) : Option Int :=
  let d := if l.head? = some 45 then l.tail else l
  if d ≠ [] ∧ d.all isDig = true ∧ (d.head? = some 48 → d = [48] ∧ l.head? ≠ some 45) ∧ (if l.head? = some 45 then valD d ≤ 9223372036854775808 else valD d < 9223372036854775808) then
    some (if l.head? = some 45 then -(valD d : Int) else valD d) else none
def readS (s : ByteArray) : Int × Bool := match readL s.data.toList with | some v => (v, true) | none => (0, false)

/-! ### The library's reading -/
/-! ### The program's reading and writing -/
noncomputable def strconv_FormatInt (p0 p1 : Int) : Option ByteArray := if p1 = 10 ∧ I64 p0 then some (itoaB p0) else none
noncomputable def num_Text (p0 : Int) : Option ByteArray := if I64 p0 then some (itoaB p0) else none
noncomputable def num_Read (p0 : ByteArray) : Option (Int × Bool) := if p0.size ≤ 281474976710656 then some (readS p0) else none
end Go.Vs
