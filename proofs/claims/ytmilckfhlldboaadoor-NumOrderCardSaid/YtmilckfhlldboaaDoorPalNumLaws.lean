import Derived.Test.YtmilckfhlldboaaDoorPalN
import Derived.Test.YtmilckfhlldboaaDoorPalRead
/-! The laws of numbers, in plain words. -/
set_option linter.unusedVariables false
set_option linter.unusedSimpArgs false
set_option linter.unusedSectionVars false
namespace Go.Vs
local instance : Tab := ⟨fun _ => none⟩
open Go.Lib (decDigits itoa nDigits)
theorem itoaB_lit {l : List UInt8} {v : Int} (h : readL l = some v) : itoaB v = bs l := by rw [itoaB, ← (readL_some.1 h).2]
theorem readS_itoaB {v : Int} (h : I64 v) : readS (itoaB v) = (v, true) := by rw [readS, itoaB, bl_bs, readL_itoa h]
theorem itoaB_size {v : Int} (h : I64 v) : (itoaB v).size ≤ 21 := by
  obtain ⟨h1, h2⟩ := h
  rw [itoaB, bs_size, itoa]
  split
  · have hl : nDigits v.natAbs ≤ 20 := Lib.nDigits_le20 _ (by omega)
    rw [List.length_cons, Lib.decDigits_length]; omega
  · have hl : nDigits v.toNat ≤ 20 := Lib.nDigits_le20 _ (by omega)
    rw [Lib.decDigits_length]; omega
theorem numText {v : Int} (h : I64 v) : num_Text v = some (itoaB v) := if_pos h
theorem numRead {s : ByteArray} (h : s.size ≤ 281474976710656) : num_Read s = some (readS s) := if_pos h
theorem i64_m12 : I64 (-12) := ⟨by decide, by decide⟩
theorem alive_true : palinglaw2_alive = some true := by
  rw [palinglaw2_alive, numRead (by decide), numRead (by decide), numText i64_m12]
  simp only [Option.bind_some]
  rw [itoaB_lit (l := [45, 49, 50]) (by rfl)]
  have e1 : readS (⟨#[45, 49, 50]⟩ : ByteArray) = (-12, true) := by rfl
  have e2 : readS (⟨#[45, 48]⟩ : ByteArray) = (0, false) := by rfl
  rw [e1, e2]
  rfl
theorem short_some (s : ByteArray) {n : Int} (h : 0 ≤ n) : ∃ t, palingbook_Short s n = some t ∧ (t.size : Int) ≤ n := by
  rw [palingbook_Short, if_pos ⟨by split <;> omega, by split <;> omega⟩]
  refine ⟨_, rfl, ?_⟩
  rw [ByteArray.size_extract]
  split <;> omega
theorem NumTells_true {p0 : Int} (h : I64 p0) (p1 : ByteArray) : palinglaw2_NumTells p0 p1 = some true := by
  obtain ⟨t, ht, hs⟩ := short_some p1 (n := 60) (by decide)
  rw [palinglaw2_NumTells, ht]
  simp only [Option.bind_some]
  rw [numRead (by omega), palingref1_Read_eq t (by omega), numText h, palingref1_Text_eq p0 h, alive_true]
  simp
theorem NumBack_true {p0 : Int} (h : I64 p0) : palinglaw2_NumBack p0 = some true := by
  have hs := itoaB_size h
  rw [palinglaw2_NumBack, numText h]
  simp only [Option.bind_some]
  rw [numRead (by omega), readS_itoaB h, alive_true]
  simp
theorem readS_cases (s : ByteArray) : readS s = (0, false) ∨ ∃ v, I64 v ∧ itoaB v = s ∧ readS s = (v, true) := by
  unfold readS
  cases hr : readL s.data.toList with
  | none => exact .inl rfl
  | some v =>
    obtain ⟨h1, h2⟩ := readL_some.1 hr
    exact .inr ⟨v, h1, by rw [itoaB, ← h2, bs_bl], rfl⟩
theorem NumOnce_true (p0 : ByteArray) : palinglaw2_NumOnce p0 = some true := by
  obtain ⟨t, ht, hs⟩ := short_some p0 (n := 60) (by decide)
  rw [palinglaw2_NumOnce, ht]
  simp only [Option.bind_some]
  rw [numRead (by omega)]
  simp only [Option.bind_some]
  rcases readS_cases t with h | ⟨v, hv, he, h⟩
  · rw [h, alive_true]; rfl
  · rw [h, alive_true, numText hv]
    simp [he]
theorem pick_some {p : Int} (h : I64 p) (n : Int) (hn : 0 < n) (hn2 : n ≤ 1000) : ∃ i, palingbook_Pick p n = some i ∧ 0 ≤ i ∧ i < n := by
  rw [palingbook_Pick, if_pos (by omega)]
  have h1 := Int.tmod_lt_of_pos p hn
  have h2 : -n < Int.tmod p n := by
    have := Int.tmod_lt_of_pos (-p) hn
    rw [Int.neg_tmod] at this; omega
  by_cases hc : Int.tmod p n < 0
  · rw [if_pos (by simpa using hc), wi64_id ⟨by omega, by omega⟩]
    exact ⟨_, rfl, by omega, by omega⟩
  · rw [if_neg (by simpa using hc)]
    exact ⟨_, rfl, by omega, by omega⟩
theorem readS_none {l : List UInt8} (h : ∀ v, I64 v → l ≠ itoa v) : readS (bs l) = (0, false) := by
  rw [readS, bl_bs]
  cases hr : readL l with
  | none => rfl
  | some v => exact absurd (readL_some.1 hr).2 (h v (readL_some.1 hr).1)
theorem bs_read {s : ByteArray} (l : List UInt8) (h : s = bs l) (hn : readL l = none) : readS s = (0, false) := by
  rw [h, readS, bl_bs, hn]
theorem readL_bad {l : List UInt8} (c : UInt8) (hc : c ∈ l.tail) (hd : isDig c = false) : readL l = none := by
  unfold readL
  dsimp only
  rw [if_neg]
  rintro ⟨_, h, _⟩
  rw [List.all_eq_true] at h
  have : c ∈ (if l.head? = some 45 then l.tail else l) := by
    split
    · exact hc
    · exact List.mem_of_mem_tail hc
  have := h c this
  rw [hd] at this; cases this
theorem readL_first {c : UInt8} {l : List UInt8} (h45 : c ≠ 45) (hd : isDig c = false) : readL (c :: l) = none := by
  unfold readL
  dsimp only
  have e : ¬ (c :: l).head? = some 45 := by simpa using h45
  rw [if_neg e, if_neg]
  rintro ⟨_, h, _⟩
  simp [hd] at h
theorem itoa_ne (v : Int) : itoa v ≠ [] := by
  rw [itoa]; split
  · simp
  · exact (decDigits_facts _).2.2.1
theorem readL_nought {l : List UInt8} (h : l ≠ []) : readL (48 :: l) = none := by
  unfold readL
  dsimp only
  have e : ¬ ((48 : UInt8) :: l).head? = some 45 := by simp
  rw [if_neg e, if_neg]
  rintro ⟨_, _, h3, _⟩
  have := (h3 rfl).1
  simp at this
  exact h this
theorem itoa_pos {v : Int} (h : ¬ v < 0) : itoa v = decDigits v.toNat := by rw [itoa, if_neg h]
theorem itoa_neg {v : Int} (h : v < 0) : itoa v = 45 :: decDigits v.natAbs := by rw [itoa, if_pos h]
theorem readL_minus {v : Int} (h : v ≤ 0) : readL (45 :: itoa v) = none := by
  by_cases hn : v < 0
  · rw [itoa_neg hn]
    exact readL_bad 45 (by simp) (by decide)
  · have : v = 0 := by omega
    subst this
    rw [itoa_pos (by omega)]
    have e : decDigits (Int.toNat 0) = [48] := decDigits_zero
    rw [e]; rfl
theorem readL_minus_pos {v : Int} (h : I64 v) (h0 : 0 < v) : readL (45 :: itoa v) = some (-v) := by
  rw [readL_some]
  refine ⟨⟨by obtain ⟨_, _⟩ := h; omega, by omega⟩, ?_⟩
  rw [itoa_pos (by omega), itoa_neg (by omega)]
  congr 2; omega
theorem NumBent_true {p0 p1 : Int} (h : I64 p0) (h1 : I64 p1) : palinglaw2_NumBent p0 p1 = some true := by
  have hs := itoaB_size h
  obtain ⟨i, hi, hi0, hi4⟩ := pick_some h1 4 (by decide) (by decide)
  have r1 : readS (⟨#[57, 50, 50, 51, 51, 55, 50, 48, 51, 54, 56, 53, 52, 55, 55, 53, 56, 48, 56]⟩ : ByteArray) = (0, false) := by rfl
  have r2 : readS (⟨#[45, 57, 50, 50, 51, 51, 55, 50, 48, 51, 54, 56, 53, 52, 55, 55, 53, 56, 48, 57]⟩ : ByteArray) = (0, false) := by rfl
  have r3 : readS (itoaB p0 ++ (⟨#[32]⟩ : ByteArray)) = (0, false) := by
    refine bs_read (itoa p0 ++ [32]) (bs_append _ _).symm (readL_bad 32 ?_ (by decide))
    have := itoa_ne p0
    cases hl : itoa p0 with
    | nil => exact absurd hl this
    | cons a l => simp
  rw [palinglaw2_NumBent, numText h, hi]
  simp only [Option.bind_some]
  rw [if_pos ⟨hi0, by simp; omega⟩]
  have rest : ∀ c : UInt8, readL (c :: itoa p0) = none → (if CatOk (⟨#[c]⟩ : ByteArray) (itoaB p0) then ((num_Read ((⟨#[c]⟩ : ByteArray) ++ itoaB p0)).bind fun v18 =>
    if CatOk (itoaB p0) (⟨#[32]⟩ : ByteArray) then ((num_Read (itoaB p0 ++ (⟨#[32]⟩ : ByteArray))).bind fun v21 =>
    (num_Read (⟨#[57, 50, 50, 51, 51, 55, 50, 48, 51, 54, 56, 53, 52, 55, 55, 53, 56, 48, 56]⟩ : ByteArray)).bind fun v23 =>
    (num_Read (⟨#[45, 57, 50, 50, 51, 51, 55, 50, 48, 51, 54, 56, 53, 52, 55, 55, 53, 56, 48, 57]⟩ : ByteArray)).bind fun v25 =>
    (if ((((!v18.2) && (!v21.2)) && (!v23.2)) && (!v25.2)) = true then palinglaw2_alive else some default).bind fun v27 =>
    some (((((!v18.2) && (!v21.2)) && (!v23.2)) && (!v25.2)) && v27)) else none) else none) = some true := by
    intro c hc
    have e1 : (⟨#[c]⟩ : ByteArray).size = 1 := rfl
    have e32 : (⟨#[32]⟩ : ByteArray).size = 1 := rfl
    have hr : readS ((⟨#[c]⟩ : ByteArray) ++ itoaB p0) = (0, false) := bs_read (c :: itoa p0) (bs_append [c] _).symm hc
    rw [if_pos (catOk (by rw [e1]; omega)), numRead (by rw [ByteArray.size_append, e1]; omega), hr]
    simp only [Option.bind_some]
    rw [if_pos (catOk (by rw [e32]; omega)), numRead (by rw [ByteArray.size_append, e32]; omega), r3, numRead (by decide), numRead (by decide), r1, r2, alive_true]
    rfl
  have e45 : ∀ c : UInt8, c ≠ 45 → decide ((⟨#[c]⟩ : ByteArray) = (⟨#[45]⟩ : ByteArray)) = false := by
    intro c hc
    apply decide_eq_false
    intro h
    have := congrArg (fun x => x.data.toList) h
    simp at this
    exact hc this
  have hcase : i = 0 ∨ i = 1 ∨ i = 2 ∨ i = 3 := by omega
  rcases hcase with rfl | rfl | rfl | rfl
  · have e : rd ([(⟨#[48]⟩ : ByteArray), (⟨#[43]⟩ : ByteArray), (⟨#[32]⟩ : ByteArray), (⟨#[45]⟩ : ByteArray)]) 0 = ⟨#[48]⟩ := rfl
    rw [e, e45 48 (by decide)]
    exact rest 48 (readL_nought (itoa_ne _))
  · have e : rd ([(⟨#[48]⟩ : ByteArray), (⟨#[43]⟩ : ByteArray), (⟨#[32]⟩ : ByteArray), (⟨#[45]⟩ : ByteArray)]) 1 = ⟨#[43]⟩ := rfl
    rw [e, e45 43 (by decide)]
    exact rest 43 (readL_first (by decide) (by decide))
  · have e : rd ([(⟨#[48]⟩ : ByteArray), (⟨#[43]⟩ : ByteArray), (⟨#[32]⟩ : ByteArray), (⟨#[45]⟩ : ByteArray)]) 2 = ⟨#[32]⟩ := rfl
    rw [e, e45 32 (by decide)]
    exact rest 32 (readL_first (by decide) (by decide))
  · have e : rd ([(⟨#[48]⟩ : ByteArray), (⟨#[43]⟩ : ByteArray), (⟨#[32]⟩ : ByteArray), (⟨#[45]⟩ : ByteArray)]) 3 = ⟨#[45]⟩ := rfl
    rw [e]
    by_cases h0 : p0 > 0
    · rw [if_pos (by simpa using h0)]
      have e1 : (⟨#[45]⟩ : ByteArray).size = 1 := rfl
      have hr : readS ((⟨#[45]⟩ : ByteArray) ++ itoaB p0) = (-p0, true) := by
        have e2 : (⟨#[45]⟩ : ByteArray) ++ itoaB p0 = bs (45 :: itoa p0) := (bs_append [45] _).symm
        rw [e2, readS, bl_bs, readL_minus_pos h h0]
      have hw : IntKind.wrap .i64 (0 - p0) = -p0 := by obtain ⟨_, _⟩ := h; rw [wi64_id ⟨by omega, by omega⟩]; omega
      rw [if_pos (catOk (by rw [e1]; omega)), numRead (by rw [ByteArray.size_append, e1]; omega), hr, hw, alive_true]
      simp
    · rw [if_neg (by simpa using h0)]
      exact rest 45 (readL_minus (by omega))
theorem foldD_lt : ∀ (l m : List UInt8) (a b : Nat), l.length = m.length → l.all isDig = true → m.all isDig = true → a < b →
    l.foldl (fun a c => a * 10 + (c.toNat - 48)) a < m.foldl (fun a c => a * 10 + (c.toNat - 48)) b := by
  intro l m a b hl h1 h2 hab
  have e1 := (foldD_bounds l a h1).2
  have e2 := (foldD_bounds m b h2).1
  have e3 : (a + 1) * 10 ^ l.length ≤ b * 10 ^ l.length := Nat.mul_le_mul_right _ hab
  rw [← hl] at e2
  omega
theorem less_digits : ∀ (l m : List UInt8) (a : Nat), l.length = m.length → l.all isDig = true → m.all isDig = true →
    Op.bytesLess l m = decide (l.foldl (fun a c => a * 10 + (c.toNat - 48)) a < m.foldl (fun a c => a * 10 + (c.toNat - 48)) a)
  | [], [], a, _, _, _ => by simp [Op.bytesLess]
  | c :: l, d :: m, a, hl, h1, h2 => by
    simp only [List.all_cons, Bool.and_eq_true] at h1 h2
    have hc : 48 ≤ c.toNat ∧ c.toNat ≤ 57 := by simpa [isDig] using h1.1
    have hd : 48 ≤ d.toNat ∧ d.toNat ≤ 57 := by simpa [isDig] using h2.1
    simp only [List.length_cons, Nat.add_right_cancel_iff] at hl
    show Op.bytesLess (c :: l) (d :: m) = decide (l.foldl (fun a c => a * 10 + (c.toNat - 48)) (a * 10 + (c.toNat - 48)) < m.foldl (fun a c => a * 10 + (c.toNat - 48)) (a * 10 + (d.toNat - 48)))
    rcases Nat.lt_trichotomy c.toNat d.toNat with h | h | h
    · have := foldD_lt l m (a * 10 + (c.toNat - 48)) (a * 10 + (d.toNat - 48)) hl h1.2 h2.2 (by omega)
      rw [decide_eq_true this, Op.bytesLess]
      simp [UInt8.lt_iff_toNat_lt, h]
    · have e : c = d := UInt8.toNat.inj h
      subst e
      rw [← less_digits l m _ hl h1.2 h2.2, Op.bytesLess]
      simp
    · have := foldD_lt m l (a * 10 + (d.toNat - 48)) (a * 10 + (c.toNat - 48)) hl.symm h2.2 h1.2 (by omega)
      rw [decide_eq_false (by omega), Op.bytesLess]
      have hne : c ≠ d := fun e => by subst e; omega
      simp [UInt8.lt_iff_toNat_lt, hne]; omega
theorem decDigits_len_lt {u v : Nat} (h : (decDigits u).length < (decDigits v).length) : u < v := by
  obtain ⟨a1, a2, a3, a4⟩ := decDigits_facts u
  obtain ⟨b1, b2, b3, b4⟩ := decDigits_facts v
  have hu := valD_lt a2
  rw [a1] at hu
  have h0 : v ≠ 0 := by
    intro h0
    subst h0
    rw [decDigits_zero] at h
    simp only [List.length_cons, List.length_nil] at h
    exact a3 (List.eq_nil_of_length_eq_zero (by omega))
  cases hv : decDigits v with
  | nil => exact absurd hv b3
  | cons c r =>
    rw [hv] at b1 b2 b4 h
    have := valD_ge b2 (fun hc => b4 h0 (by rw [hc]; rfl))
    rw [b1] at this
    simp only [List.length_cons] at h
    have : 10 ^ (decDigits u).length ≤ 10 ^ r.length := Nat.pow_le_pow_right (by omega) (by omega)
    omega
theorem order_digits (u v : Nat) : decide (u < v) = (decide (((decDigits u).length : Int) < ((decDigits v).length : Int)) ||
    ((((decDigits u).length : Int) == ((decDigits v).length : Int)) && Op.bytesLess (decDigits u) (decDigits v))) := by
  obtain ⟨a1, a2, a3, a4⟩ := decDigits_facts u
  obtain ⟨b1, b2, b3, b4⟩ := decDigits_facts v
  rcases Nat.lt_trichotomy (decDigits u).length (decDigits v).length with h | h | h
  · rw [decide_eq_true (decDigits_len_lt h), decide_eq_true (by omega)]; rfl
  · have e := less_digits (decDigits u) (decDigits v) 0 h a2 b2
    have e2 : Op.bytesLess (decDigits u) (decDigits v) = decide (u < v) := by
      rw [e]; show decide (valD _ < valD _) = _; rw [a1, b1]
    rw [e2, h]
    simp
  · have := decDigits_len_lt h
    rw [decide_eq_false (by omega), decide_eq_false (by omega)]
    have : (((decDigits u).length : Int) == ((decDigits v).length : Int)) = false := by simp; omega
    rw [this]; rfl
theorem NumOrder_true {p0 p1 : Int} (h : I64 p0) (h1 : I64 p1) : palinglaw2_NumOrder p0 p1 = some true := by
  rw [palinglaw2_NumOrder, alive_true]
  by_cases hn : (decide (p0 < 0) || decide (p1 < 0)) = true
  · rw [if_pos hn]; rfl
  · rw [if_neg hn, numText h, numText h1]
    simp only [Bool.or_eq_true, decide_eq_true_eq, not_or] at hn
    simp only [Option.bind_some]
    have e := order_digits p0.toNat p1.toNat
    have e0 : decide (p0 < p1) = decide (p0.toNat < p1.toNat) := by
      rw [Bool.eq_iff_iff, decide_eq_true_eq, decide_eq_true_eq]; omega
    have ha : itoaB p0 = bs (decDigits p0.toNat) := by rw [itoaB, itoa_pos hn.1]
    have hb : itoaB p1 = bs (decDigits p1.toNat) := by rw [itoaB, itoa_pos hn.2]
    rw [ha, hb, bl_bs, bl_bs, bs_size, bs_size, e0, ← e]
    simp
end Go.Vs
