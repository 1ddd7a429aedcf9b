import Derived.Test.YtocjejladeeckaaDoorPalLex2
import Derived.Test.YtocjejladeeckaaDoorPalNumLaws0
/-! Tokens: both ways of taking a text apart come to the same. -/
set_option linter.unusedVariables false
set_option linter.unusedSimpArgs false
set_option linter.unusedSectionVars false
namespace Go.Vs
local instance tabPalLex3 : Tab := ⟨fun _ => none⟩
def letterB (p0 : Int) : Bool := (((decide (p0 ≥ 97) && decide (p0 ≤ 122)) || (decide (p0 ≥ 65) && decide (p0 ≤ 90))) || (p0 == 95)) || (decide (p0 ≥ 161) && decide (p0 ≤ 1114111))
def digitB (p0 : Int) : Bool := decide (p0 ≥ 48) && decide (p0 ≤ 57)
def blankB (p0 : Int) : Bool := (p0 == 32) || (p0 == 9)
def signB (p0 : Int) : Bool := (((p0 == 44) || (p0 == 91)) || (p0 == 93)) || (p0 == 58)
theorem gLetter (r : Int) : glyph_Letter r = some (letterB r) := rfl
theorem rLetter (r : Int) : palingref1_Letter r = some (letterB r) := rfl
theorem gDigit (r : Int) : glyph_Digit r = some (digitB r) := rfl
theorem rDigit (r : Int) : palingref1_Digit r = some (digitB r) := rfl
theorem gBlank (r : Int) : glyph_Blank r = some (blankB r) := rfl
theorem rBlank (r : Int) : palingref1_Blank r = some (blankB r) := rfl
theorem rd_map {v : List T_glyph_Spot} {i : Int} (h : InB i v.length) : rd (v.map toR) i = toR (rd v i) := by
  obtain ⟨h0, h1⟩ := h
  rw [rd, rd, List.getD_eq_getElem?_getD, List.getD_eq_getElem?_getD, List.getElem?_map, List.getElem?_eq_getElem h1]; rfl
/-- Does a word or a number go on there? -/
def wordAt (v : List T_glyph_Spot) (i : Int) : Bool := (decide (i < (v.length : Int)) && !(rd v i).Bad) && (letterB (rd v i).Rune || digitB (rd v i).Rune)
theorem inb_of {i : Int} {n : Nat} (h0 : 0 ≤ i) (h : decide (i < (n : Int)) = true) : InB i n := ⟨h0, by have := of_decide_eq_true h; omega⟩
theorem run_step {v : List T_glyph_Spot} {i : Int} (h0 : 0 ≤ i) (h1 : i ≤ 1000000) : lex_run_s1 v i = some (if wordAt v i = true then .inl (i + 1) else .inr i) := by
  have e1 : IntKind.wrap .i64 (i + 1) = i + 1 := wi64_id ⟨by omega, by omega⟩
  rw [lex_run_s1, if_pos (inb_of h0), if_pos (fun h => inb_of h0 (by simp only [Bool.and_eq_true] at h; exact h.1)), e1, wordAt]
  cases hA : (decide (i < (v.length : Int)) && !(rd v i).Bad) with
  | false => simp
  | true =>
    have hin : InB i v.length := inb_of h0 (by simp only [Bool.and_eq_true] at hA; exact hA.1)
    simp only [if_true, gLetter, Option.bind_some, Bool.true_and]
    rw [if_pos (fun _ => hin)]
    cases hl : letterB (rd v i).Rune <;> (try simp [gDigit]) <;> (try (split <;> rfl))
theorem run_stepR {v : List T_glyph_Spot} {i : Int} (h0 : 0 ≤ i) (h1 : i ≤ 1000000) : palingref1_Tokens_s3 (v.map toR) i = some (if wordAt v i = true then .inl (i + 1) else .inr i) := by
  have e1 : IntKind.wrap .i64 (i + 1) = i + 1 := wi64_id ⟨by omega, by omega⟩
  have el : (v.map toR).length = v.length := by simp
  rw [palingref1_Tokens_s3, el, if_pos (inb_of h0), if_pos (fun h => inb_of h0 (by simp only [Bool.and_eq_true] at h; exact h.1)), e1, wordAt]
  cases hd : decide (i < (v.length : Int)) with
  | false => simp
  | true =>
    have hin : InB i v.length := inb_of h0 hd
    rw [rd_map hin]
    have eb : (toR (rd v i)).Bad = (rd v i).Bad := rfl
    have er : (toR (rd v i)).Rune = (rd v i).Rune := rfl
    rw [eb, er]
    cases hb : (rd v i).Bad with
    | true => simp
    | false =>
      simp only [Bool.not_false, Bool.and_true, if_true, rLetter, Option.bind_some, Bool.true_and]
      rw [if_pos (fun _ => hin)]
      cases hl : letterB (rd v i).Rune <;> (try simp [rDigit]) <;> (try (split <;> rfl))
def runC (v : List T_glyph_Spot) : Nat → Int → Int
  | 0, i => i
  | n + 1, i => if wordAt v i = true then runC v n (i + 1) else i
theorem run_loop (v : List T_glyph_Spot) (hv : v.length ≤ 1000000) : ∀ (n : Nat) (i : Int), 0 ≤ i → i ≤ v.length → v.length - i.toNat ≤ n →
    ∃ k, k = runC v n i ∧ loopO (lex_run_s1 v) i = some k ∧ loopO (palingref1_Tokens_s3 (v.map toR)) i = some k ∧ i ≤ k ∧ k ≤ v.length := by
  intro n
  induction n with
  | zero =>
    intro i h0 h1 hn
    have hw : wordAt v i = false := by
      have : decide (i < (v.length : Int)) = false := decide_eq_false (by omega)
      rw [wordAt, this]; rfl
    refine ⟨i, rfl, loopO_inr ?_, loopO_inr ?_, Int.le_refl _, h1⟩
    · rw [run_step h0 (by omega), hw]; rfl
    · rw [run_stepR h0 (by omega), hw]; rfl
  | succ n ih =>
    intro i h0 h1 hn
    cases hw : wordAt v i with
    | false =>
      refine ⟨i, by rw [runC, hw]; rfl, loopO_inr ?_, loopO_inr ?_, Int.le_refl _, h1⟩
      · rw [run_step h0 (by omega), hw]; rfl
      · rw [run_stepR h0 (by omega), hw]; rfl
    | true =>
      have hlt : i < (v.length : Int) := by
        simp only [wordAt, Bool.and_eq_true, decide_eq_true_eq] at hw; exact hw.1.1
      obtain ⟨k, e, a, b, c, d⟩ := ih (i + 1) (by omega) (by omega) (by omega)
      refine ⟨k, by rw [runC, hw]; exact e, ?_, ?_, by omega, d⟩
      · rw [loopO_inl (by rw [run_step h0 (by omega), hw]; rfl)]; exact a
      · rw [loopO_inl (by rw [run_stepR h0 (by omega), hw]; rfl)]; exact b
/-- One rune of a remark. -/
def remAt (v : List T_glyph_Spot) (i : Int) : Int ⊕ (Int ⊕ ((List T_api_Token) × T_api_Fault)) :=
  if (decide (i < (v.length : Int)) && ((rd v i).Rune != 10)) = true then (if (rd v i).Bad = true then .inr (.inr ([], ⟨1, (rd v i).Line, (rd v i).Col⟩)) else .inl (i + 1)) else .inr (.inl i)
theorem rem_step {v : List T_glyph_Spot} {i : Int} (h0 : 0 ≤ i) (h1 : i ≤ 1000000) : lex_Tokens_s2 v i = some (remAt v i) := by
  have e1 : IntKind.wrap .i64 (i + 1) = i + 1 := wi64_id ⟨by omega, by omega⟩
  rw [lex_Tokens_s2, if_pos (inb_of h0), e1, remAt]
  by_cases hA : (decide (i < (v.length : Int)) && ((rd v i).Rune != 10)) = true
  · have hin : InB i v.length := inb_of h0 (by simp only [Bool.and_eq_true] at hA; exact hA.1)
    rw [if_pos hA, if_pos hA, if_pos hin]
    by_cases hb : (rd v i).Bad = true
    · rw [if_pos hb, if_pos hb, if_pos hin]; rfl
    · rw [if_neg hb, if_neg hb]
  · rw [if_neg hA, if_neg hA]
theorem rem_stepR {v : List T_glyph_Spot} {i : Int} (h0 : 0 ≤ i) (h1 : i ≤ 1000000) : palingref1_Tokens_s2 (v.map toR) i = some (remAt v i) := by
  have e1 : IntKind.wrap .i64 (i + 1) = i + 1 := wi64_id ⟨by omega, by omega⟩
  have el : (v.map toR).length = v.length := by simp
  rw [palingref1_Tokens_s2, el, if_pos (inb_of h0), e1, remAt]
  by_cases hd : decide (i < (v.length : Int)) = true
  · have hin : InB i v.length := inb_of h0 hd
    rw [rd_map hin, hd]
    have er : (toR (rd v i)).Rune = (rd v i).Rune := rfl
    have eb : (toR (rd v i)).Bad = (rd v i).Bad := rfl
    rw [er, eb, if_pos hin, if_pos hin, if_pos hin]
    simp only [Bool.true_and]
    split
    · split <;> rfl
    · rfl
  · simp only [Bool.not_eq_true] at hd
    rw [hd]; simp
def remC (v : List T_glyph_Spot) : Nat → Int → Int ⊕ ((List T_api_Token) × T_api_Fault)
  | 0, i => .inl i
  | n + 1, i => match remAt v i with | .inl j => remC v n j | .inr r => r
theorem rem_loop (v : List T_glyph_Spot) (hv : v.length ≤ 1000000) : ∀ (n : Nat) (i : Int), 0 ≤ i → i ≤ v.length → v.length - i.toNat ≤ n →
    ∃ r, r = remC v n i ∧ loopO (lex_Tokens_s2 v) i = some r ∧ loopO (palingref1_Tokens_s2 (v.map toR)) i = some r ∧ ∀ k, r = .inl k → i ≤ k ∧ k ≤ v.length := by
  intro n
  induction n with
  | zero =>
    intro i h0 h1 hn
    have hw : remAt v i = .inr (.inl i) := by
      have : decide (i < (v.length : Int)) = false := decide_eq_false (by omega)
      rw [remAt, this]; rfl
    refine ⟨.inl i, rfl, loopO_inr ?_, loopO_inr ?_, fun k e => ?_⟩
    · rw [rem_step h0 (by omega), hw]
    · rw [rem_stepR h0 (by omega), hw]
    · injection e with e; omega
  | succ n ih =>
    intro i h0 h1 hn
    cases hw : remAt v i with
    | inr r =>
      refine ⟨r, by rw [remC, hw], loopO_inr ?_, loopO_inr ?_, fun k e => ?_⟩
      · rw [rem_step h0 (by omega), hw]
      · rw [rem_stepR h0 (by omega), hw]
      · subst e
        unfold remAt at hw
        split at hw
        · split at hw
          · injection hw with hw; cases hw
          · cases hw
        · injection hw with hw; injection hw with hw; omega
    | inl j =>
      have hj : j = i + 1 ∧ i < (v.length : Int) := by
        unfold remAt at hw
        split at hw
        · rename_i hc
          simp only [Bool.and_eq_true, decide_eq_true_eq] at hc
          split at hw
          · cases hw
          · injection hw with hw; exact ⟨hw.symm, hc.1⟩
        · cases hw
      obtain ⟨rfl, hlt⟩ := hj
      obtain ⟨r, er, a, b, c⟩ := ih (i + 1) (by omega) (by omega) (by omega)
      refine ⟨r, by rw [remC, hw]; exact er, ?_, ?_, fun k e => ?_⟩
      · rw [loopO_inl (by rw [rem_step h0 (by omega), hw])]; exact a
      · rw [loopO_inl (by rw [rem_stepR h0 (by omega), hw])]; exact b
      · have := c k e; omega
theorem wrong_eq {kind L C n : Int} {t : ByteArray} (hkind : kind = 1 ∨ kind = 2 ∨ kind = 3 ∨ kind = 4) (ht : t.size ≤ 281474976710656) :
    lex_wrong (T_api_Token.mk kind L C t) n = some (if kind = 1 ∧ n > 16 then 3 else if kind = 2 ∧ (readS t).2 = false then 2 else 0) := by
  rw [lex_wrong]
  show (if ((kind == 1) && decide (n > 16)) = true then some 3 else if (kind == 2) = true then ((num_Read t).bind fun v4 => if (!v4.2) = true then some 2 else some 0) else some 0) = _
  rw [numRead ht]
  simp only [Option.bind_some, Bool.and_eq_true, beq_iff_eq, decide_eq_true_eq, Bool.not_eq_true']
  by_cases p1 : kind = 1 ∧ n > 16
  · rw [if_pos p1, if_pos p1]
  · rw [if_neg p1, if_neg p1]
    by_cases p2 : kind = 2
    · rw [if_pos p2]
      by_cases p3 : (readS t).2 = false
      · rw [if_pos p3, if_pos ⟨p2, p3⟩]
      · rw [if_neg p3, if_neg (fun h => p3 h.2)]
    · rw [if_neg p2, if_neg (fun h => p2 h.1)]
/-- Runes that stand in a text, one behind the other. -/
structure Good (s : ByteArray) (v : List T_glyph_Spot) : Prop where
  sm : Sm s
  len : v.length ≤ s.size
  at0 : ∀ i, InB i v.length → 0 ≤ (rd v i).At ∧ 1 ≤ (rd v i).Size ∧ (rd v i).At + (rd v i).Size ≤ s.size
  le : ∀ i j, InB i v.length → InB j v.length → i ≤ j → (rd v i).At ≤ (rd v j).At
theorem rd_get {v : List T_glyph_Spot} {i : Int} (h : InB i v.length) : rd v i = v[i.toNat]'h.2 := by
  rw [rd, List.getD_eq_getElem?_getD, List.getElem?_eq_getElem h.2]; rfl
theorem good_spots (s : ByteArray) (hs : Sm s) : Good s (spots s) := by
  refine ⟨hs, by have := spotsF_len s s.size 0 1 1; unfold spots; omega, fun i h => ?_, fun i j hi hj hij => ?_⟩
  · rw [rd_get h]
    obtain ⟨a, b, c, _⟩ := spotsF_all s _ _ _ _ _ (List.getElem_mem h.2)
    exact ⟨by simpa using a, b, c⟩
  · rw [rd_get hi, rd_get hj]
    by_cases e : i = j
    · subst e; exact Int.le_refl _
    · have := hi.1
      exact List.pairwise_iff_getElem.1 (spotsF_sorted s _ _ _ _) i.toNat j.toNat hi.2 hj.2 (by omega)
/-- What becomes of a token that has been found. -/
def tail (v : List T_glyph_Spot) (s : ByteArray) (i : Int) (l : List T_api_Token) (k kind : Int) : (Int × List T_api_Token) ⊕ (List T_api_Token ⊕ ((List T_api_Token) × T_api_Fault)) :=
  let t := s.extract (rd v i).At.toNat ((rd v (k - 1)).At + (rd v (k - 1)).Size).toNat
  if kind = 1 ∧ k - i > 16 then .inr (.inr ([], ⟨3, (rd v i).Line, (rd v i).Col⟩))
  else if kind = 2 ∧ (readS t).2 = false then .inr (.inr ([], ⟨2, (rd v i).Line, (rd v i).Col⟩))
  else .inl (k, l ++ [⟨kind, (rd v i).Line, (rd v i).Col, t⟩])
section
variable {s : ByteArray} {v : List T_glyph_Spot} (g : Good s v) {i k : Int} {l : List T_api_Token} (hi : InB i v.length) (hk : i < k) (hkn : k ≤ v.length) (hl : l.length ≤ 1000000)
include g hi hk hkn hl
theorem kFacts : IntKind.wrap .i64 (k - 1) = k - 1 ∧ InB (k - 1) v.length ∧ IntKind.wrap .i64 (k - i) = k - i ∧ IntKind.wrap .i64 ((rd v (k - 1)).At + (rd v (k - 1)).Size) = (rd v (k - 1)).At + (rd v (k - 1)).Size ∧
    Bnd ((rd v (k - 1)).At + (rd v (k - 1)).Size) s.size ∧ Bnd (rd v i).At (((rd v (k - 1)).At + (rd v (k - 1)).Size).toNat) := by
  have hsm := g.sm
  unfold Sm at hsm
  have hlen := g.len
  obtain ⟨hi0, hi1⟩ := hi
  have hin : InB (k - 1) v.length := ⟨by omega, by omega⟩
  obtain ⟨a1, a2, a3⟩ := g.at0 _ hin
  obtain ⟨b1, b2, b3⟩ := g.at0 _ ⟨hi0, hi1⟩
  have hle := g.le i (k - 1) ⟨hi0, hi1⟩ hin (by omega)
  exact ⟨wi64_id ⟨by omega, by omega⟩, hin, wi64_id ⟨by omega, by omega⟩, wi64_id ⟨by omega, by omega⟩, ⟨by omega, by omega⟩, ⟨by omega, by omega⟩⟩
theorem lex_tail (kind : Int) (hkind : kind = 1 ∨ kind = 2 ∨ kind = 3 ∨ kind = 4) :
    (if InB (IntKind.wrap .i64 (k - 1)) v.length then (if InB (IntKind.wrap .i64 (k - 1)) v.length then (if Bnd (IntKind.wrap .i64 ((rd v (IntKind.wrap .i64 (k - 1))).At + (rd v (IntKind.wrap .i64 (k - 1))).Size)) s.size then (if Bnd ((rd v i).At) ((IntKind.wrap .i64 ((rd v (IntKind.wrap .i64 (k - 1))).At + (rd v (IntKind.wrap .i64 (k - 1))).Size)).toNat) then ((some (s.extract (((rd v i).At).toNat) ((IntKind.wrap .i64 ((rd v (IntKind.wrap .i64 (k - 1))).At + (rd v (IntKind.wrap .i64 (k - 1))).Size)).toNat))).bind fun s222 =>
              (lex_wrong (T_api_Token.mk kind ((rd v i).Line) ((rd v i).Col) s222) (IntKind.wrap .i64 (k - i))).bind fun v224 =>
              if (v224 != 0) = true then ((lex_fault v224 (rd v i)).bind fun v227 =>
                some (.inr (.inr ([], v227)))) else (if Fits (l.length + 1) then ((some (l ++ ([(T_api_Token.mk kind ((rd v i).Line) ((rd v i).Col) s222)]))).bind fun l230 =>
                some (.inl (k, l230))) else none)) else none) else none) else none) else none) = some (tail v s i l k kind) := by
  obtain ⟨e1, hin, e2, e3, b1, b2⟩ := kFacts g hi hk hkn hl
  rw [e1, if_pos hin, if_pos hin, e3, if_pos b1, if_pos b2, e2]
  simp only [Option.bind_some, tail]
  generalize ht : s.extract (rd v i).At.toNat ((rd v (k - 1)).At + (rd v (k - 1)).Size).toNat = t
  have hts : t.size ≤ 1000000 := by
    have := g.sm
    unfold Sm at this
    rw [← ht, ByteArray.size_extract]; omega
  have hf : Fits (l.length + 1) := by unfold Fits; omega
  rw [wrong_eq hkind (by omega)]
  simp only [Option.bind_some, hf, if_true]
  by_cases p1 : kind = 1 ∧ k - i > 16
  · rw [if_pos p1, if_pos p1]; rfl
  · rw [if_neg p1, if_neg p1]
    by_cases p2 : kind = 2 ∧ (readS t).2 = false
    · rw [if_pos p2, if_pos p2]; rfl
    · rw [if_neg p2, if_neg p2]; rfl
theorem ref_tail (kind : Int) (hkind : kind = 1 ∨ kind = 2 ∨ kind = 3 ∨ kind = 4) : palingref1_Tokens_j1 (v.map toR) s i l k kind = some (tail v s i l k kind) := by
  obtain ⟨e1, hin, e2, e3, b1, b2⟩ := kFacts g hi hk hkn hl
  have el : (v.map toR).length = v.length := by simp
  rw [palingref1_Tokens_j1, e1, el, rd_map hin, rd_map hi]
  have q1 : (toR (rd v (k - 1))).At = (rd v (k - 1)).At := rfl
  have q2 : (toR (rd v (k - 1))).Size = (rd v (k - 1)).Size := rfl
  have q3 : (toR (rd v i)).At = (rd v i).At := rfl
  have q4 : (toR (rd v i)).Line = (rd v i).Line := rfl
  have q5 : (toR (rd v i)).Col = (rd v i).Col := rfl
  rw [q1, q2, q3, q4, q5, if_pos hin, if_pos hin, e3, if_pos b1, if_pos b2, e2]
  simp only [Option.bind_some, tail]
  generalize ht : s.extract (rd v i).At.toNat ((rd v (k - 1)).At + (rd v (k - 1)).Size).toNat = t
  have hts : t.size ≤ 1000000 := by
    have := g.sm
    unfold Sm at this
    rw [← ht, ByteArray.size_extract]; omega
  have hf : Fits (l.length + 1) := by unfold Fits; omega
  have hj2 : palingref1_Tokens_j2 kind l (v.map toR) i t k = some (.inl (k, l ++ [⟨kind, (rd v i).Line, (rd v i).Col, t⟩])) := by
    rw [palingref1_Tokens_j2, rd_map hi, if_pos (by rcases hkind with rfl | rfl | rfl | rfl <;> rfl), if_pos hf]; rfl
  rw [hj2, palingref1_Read_eq t (by omega)]
  simp only [Option.bind_some, e2, Bool.and_eq_true, beq_iff_eq, decide_eq_true_eq, Bool.not_eq_true']
  by_cases p1 : kind = 1 ∧ k - i > 16
  · rw [if_pos p1, if_pos p1]
  · rw [if_neg p1, if_neg p1]
    by_cases p2 : kind = 2
    · rw [if_pos p2]
      by_cases p3 : (readS t).2 = false
      · rw [if_pos p3, if_pos ⟨p2, p3⟩]
      · rw [if_neg p3, if_neg (fun h => p3 h.2)]
    · rw [if_neg p2, if_neg (fun h => p2 h.1)]
theorem ref_skip : palingref1_Tokens_j1 (v.map toR) s i l k 0 = some (.inl (k, l)) := by
  obtain ⟨e1, hin, e2, e3, b1, b2⟩ := kFacts g hi hk hkn hl
  have el : (v.map toR).length = v.length := by simp
  rw [palingref1_Tokens_j1, e1, el, rd_map hin, rd_map hi]
  have q1 : (toR (rd v (k - 1))).At = (rd v (k - 1)).At := rfl
  have q2 : (toR (rd v (k - 1))).Size = (rd v (k - 1)).Size := rfl
  have q3 : (toR (rd v i)).At = (rd v i).At := rfl
  rw [q1, q2, q3, if_pos hin, if_pos hin, e3, if_pos b1, if_pos b2]
  simp only [Option.bind_some]
  rw [if_neg (by simp), if_neg (by decide), palingref1_Tokens_j2, if_neg (by simp)]; rfl
end
end Go.Vs
