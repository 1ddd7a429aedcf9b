import Derived.Test.YtlolkehjlkmcbaaDoorPalA
import Derived.Lib.ItoaNum
import Derived.Lib.ItoaLen
import Derived.Lib.ParseIntBTie
/-! Numbers as texts: what the two readings and the two writings come to. -/
set_option linter.unusedVariables false
set_option linter.unusedSimpArgs false
set_option linter.unusedSectionVars false
namespace Go.Vs
local instance : Tab := ⟨fun _ => none⟩
open Go.Lib (decDigits itoa nDigits)

/-! ### Words -/
def I64 (n : Int) : Prop := -9223372036854775808 ≤ n ∧ n ≤ 9223372036854775807
instance (n : Int) : Decidable (I64 n) := inferInstanceAs (Decidable (_ ∧ _))
theorem wi64 (n : Int) : IntKind.wrap .i64 n = (n + 9223372036854775808) % 18446744073709551616 - 9223372036854775808 := by
  simp only [IntKind.wrap, IntKind.bits, IntKind.signed, Bool.true_and, decide_eq_true_eq, ge_iff_le]
  split <;> omega
theorem wu64 (n : Int) : IntKind.wrap .u64 n = n % 18446744073709551616 := by
  simp [IntKind.wrap, IntKind.bits, IntKind.signed]
theorem wu8 (n : Int) : IntKind.wrap .u8 n = n % 256 := by
  simp [IntKind.wrap, IntKind.bits, IntKind.signed]
theorem wi64_id {n : Int} (h : I64 n) : IntKind.wrap .i64 n = n := by obtain ⟨h1, h2⟩ := h; rw [wi64]; omega
theorem bext {a b : ByteArray} (h : a.data.toList = b.data.toList) : a = b := ByteArray.ext (Array.ext' h)
theorem bl_append (a b : ByteArray) : (a ++ b).data.toList = a.data.toList ++ b.data.toList := by simp [ByteArray.data_append]
theorem bl_size (b : ByteArray) : b.size = b.data.toList.length := by rw [Array.length_toList]; rfl
theorem bl_nil {b : ByteArray} : b = ⟨#[]⟩ ↔ b.data.toList = [] := ⟨fun h => by rw [h], fun h => bext (by rw [h])⟩
def bs (l : List UInt8) : ByteArray := ⟨l.toArray⟩
theorem bl_bs (l : List UInt8) : (bs l).data.toList = l := by simp [bs]
theorem bs_size (l : List UInt8) : (bs l).size = l.length := by rw [bl_size, bl_bs]
def itoaB (n : Int) : ByteArray := bs (itoa n)
theorem catOk {a b : ByteArray} (h : a.size + b.size ≤ 9223372036854775807) : CatOk a b := h

/-! ### The document's text of a number -/
theorem text_step (u : Nat) (hu : u < 18446744073709551616) (s : ByteArray) (hs : s.size ≤ 1000) (h : u ≠ 0 ∨ s = ⟨#[]⟩) :
    palingref1_Text_s1 ((u : Int), s) = some (.inl (((u / 10 : Nat) : Int), bs [UInt8.ofNat (48 + u % 10)] ++ s)) := by
  rw [palingref1_Text_s1]
  have hc : (decide ((u : Int) > 0) || decide (s = (⟨#[]⟩ : ByteArray))) = true := by
    rcases h with h | h
    · have : (u : Int) > 0 := by omega
      rw [decide_eq_true this]; rfl
    · simp [h]
  rw [if_pos hc]
  have e1 : IntKind.wrap .u8 (IntKind.wrap .u64 (48 + Int.tmod (u : Int) 10)) = ((48 + u % 10 : Nat) : Int) := by
    rw [wu8, wu64, Int.tmod_eq_emod_of_nonneg (by omega)]; omega
  have e2 : bytesI [((48 + u % 10 : Nat) : Int)] = bs [UInt8.ofNat (48 + u % 10)] := by
    simp only [bytesI, bs, List.map_cons, List.map_nil, Int.toNat_natCast]
  have e3 : IntKind.wrap .u64 (Int.tdiv (u : Int) 10) = ((u / 10 : Nat) : Int) := by
    rw [wu64, Int.tdiv_eq_ediv_of_nonneg (by omega)]; omega
  rw [e1, e2, e3, if_pos (catOk (by rw [bs_size]; simp; omega))]
  rfl
theorem text_stop (s : ByteArray) (h : s ≠ ⟨#[]⟩) : palingref1_Text_s1 (0, s) = some (.inr s) := by
  rw [palingref1_Text_s1, if_neg (by simp [h])]
theorem text_loop (u : Nat) : u < 18446744073709551616 → ∀ s : ByteArray, s ≠ ⟨#[]⟩ → s.size + nDigits u ≤ 1000 →
    loopO palingref1_Text_s1 ((u : Int), s) = some (if u = 0 then s else bs (decDigits u) ++ s) := by
  induction u using Nat.strongRecOn with
  | _ u ih =>
    intro hu s hs hl
    by_cases h0 : u = 0
    · subst h0
      rw [if_pos rfl]
      exact loopO_inr (text_stop s hs)
    · rw [if_neg h0, loopO_inl (text_step u hu s (by have := Lib.nDigits_pos u; omega) (.inl h0))]
      have hne : bs [UInt8.ofNat (48 + u % 10)] ++ s ≠ ⟨#[]⟩ := by
        rw [Ne, bl_nil, bl_append, bl_bs]; simp
      have hsz : (bs [UInt8.ofNat (48 + u % 10)] ++ s).size = s.size + 1 := by rw [bl_size, bl_append, bl_bs, bl_size s]; simp <;> omega
      by_cases h10 : u < 10
      · have e : u / 10 = 0 := by omega
        have e2 : u % 10 = u := by omega
        have e3 := loopO_inr (text_stop _ hne)
        rw [e]
        refine e3.trans ?_
        rw [Lib.decDigits_one h10, e2]
      · rw [ih (u / 10) (by omega) (by omega) _ hne (by rw [hsz]; have := Lib.nDigits_big h10; omega), if_neg (by omega)]
        congr 1
        apply bext
        rw [bl_append, bl_append, bl_append, bl_bs, bl_bs, bl_bs]
        conv => rhs; rw [decDigits, dif_neg h10]
        simp
theorem text_top (u : Nat) (hu : u < 18446744073709551616) : loopO palingref1_Text_s1 ((u : Int), (⟨#[]⟩ : ByteArray)) = some (bs (decDigits u)) := by
  rw [loopO_inl (text_step u hu ⟨#[]⟩ (by simp [ByteArray.size]) (.inr rfl))]
  have e0 : bs [UInt8.ofNat (48 + u % 10)] ++ (⟨#[]⟩ : ByteArray) = bs [UInt8.ofNat (48 + u % 10)] := bext (by rw [bl_append]; simp)
  rw [e0]
  have hne : bs [UInt8.ofNat (48 + u % 10)] ≠ ⟨#[]⟩ := by rw [Ne, bl_nil, bl_bs]; simp
  by_cases h10 : u < 10
  · have e : u / 10 = 0 := by omega
    have e2 : u % 10 = u := by omega
    have e3 := loopO_inr (text_stop _ hne)
    rw [e]
    refine e3.trans ?_
    rw [Lib.decDigits_one h10, e2]
  · have hn : nDigits (u / 10) ≤ 20 := Lib.nDigits_le20 _ (by omega)
    rw [text_loop (u / 10) (by omega) _ hne (by rw [bs_size]; simp; omega), if_neg (by omega)]
    congr 1
    apply bext
    rw [bl_append, bl_bs, bl_bs, bl_bs]
    conv => rhs; rw [decDigits, dif_neg h10]
theorem palingref1_Text_eq (n : Int) (h : I64 n) : palingref1_Text n = some (itoaB n) := by
  obtain ⟨h1, h2⟩ := h
  rw [palingref1_Text]
  by_cases hn : n < 0
  · rw [if_pos (by simpa using hn)]
    have e : IntKind.wrap .u64 (0 - IntKind.wrap .u64 n) = ((n.natAbs : Nat) : Int) := by rw [wu64, wu64]; omega
    rw [palingref1_Text_j1, e, text_top _ (by omega)]
    simp only [Option.bind_some]
    have hl : nDigits n.natAbs ≤ 20 := Lib.nDigits_le20 _ (by omega)
    rw [if_pos (by simpa using hn), if_pos (catOk (by rw [bs_size, Lib.decDigits_length]; simp [ByteArray.size]; omega))]
    congr 1
    apply bext
    rw [bl_append, itoaB, bl_bs, bl_bs, itoa, if_pos hn]
    rfl
  · rw [if_neg (by simpa using hn)]
    have e : IntKind.wrap .u64 n = ((n.toNat : Nat) : Int) := by rw [wu64]; omega
    rw [palingref1_Text_j1, e, text_top _ (by omega)]
    simp only [Option.bind_some]
    rw [if_neg (by simpa using hn), itoaB, itoa, if_neg hn]

/-! ### Digits -/
def isDig (c : UInt8) : Bool := decide (48 ≤ c.toNat ∧ c.toNat ≤ 57)
def valD (l : List UInt8) : Nat := l.foldl (fun a c => a * 10 + (c.toNat - 48)) 0
/-! ### What a text is read as -/
def readL (l : List UInt8) : Option Int :=
  let d := if l.head? = some 45 then l.tail else l
  if d ≠ [] ∧ d.all isDig = true ∧ (d.head? = some 48 → d = [48] ∧ l.head? ≠ some 45) ∧ (if l.head? = some 45 then valD d ≤ 9223372036854775808 else valD d < 9223372036854775808) then
    some (if l.head? = some 45 then -(valD d : Int) else valD d) else none
def readS (s : ByteArray) : Int × Bool := match readL s.data.toList with | some v => (v, true) | none => (0, false)

/-! ### The library's reading -/
/-! ### The program's reading and writing -/
noncomputable def strconv_FormatInt (p0 p1 : Int) : Option ByteArray := if p1 = 10 ∧ I64 p0 then some (itoaB p0) else none
noncomputable def num_Text (p0 : Int) : Option ByteArray := if I64 p0 then some (itoaB p0) else none
noncomputable def num_Read (p0 : ByteArray) : Option (Int × Bool) := if p0.size ≤ 281474976710656 then some (readS p0) else none
end Go.Vs
