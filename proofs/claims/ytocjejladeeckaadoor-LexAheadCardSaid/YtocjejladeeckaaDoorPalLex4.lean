import Derived.Test.YtocjejladeeckaaDoorPalLex3
import Derived.Test.YtocjejladeeckaaDoorPalD
/-! The two ways of taking a text apart are one. -/
set_option linter.unusedVariables false
set_option linter.unusedSimpArgs false
set_option linter.unusedSectionVars false
namespace Go.Vs
local instance tabPalLex4 : Tab := ⟨fun _ => none⟩
/-- One round. -/
def tokAt (v : List T_glyph_Spot) (s : ByteArray) (i : Int) (l : List T_api_Token) : (Int × List T_api_Token) ⊕ (List T_api_Token ⊕ ((List T_api_Token) × T_api_Fault)) :=
  if (rd v i).Bad = true then .inr (.inr ([], ⟨1, (rd v i).Line, (rd v i).Col⟩))
  else if blankB (rd v i).Rune = true then .inl (i + 1, l)
  else if (rd v i).Rune = 59 then (match remC v v.length (i + 1) with | .inl k => .inl (k, l) | .inr q => .inr (.inr q))
  else if (rd v i).Rune = 10 then tail v s i l (i + 1) 4
  else if signB (rd v i).Rune = true then tail v s i l (i + 1) 3
  else if letterB (rd v i).Rune = true then tail v s i l (runC v v.length (i + 1)) 1
  else if (digitB (rd v i).Rune || ((rd v i).Rune == 45)) = true then tail v s i l (runC v v.length (i + 1)) 2
  else .inr (.inr ([], ⟨1, (rd v i).Line, (rd v i).Col⟩))
section
variable {s : ByteArray} {v : List T_glyph_Spot} (g : Good s v) {i : Int} {l : List T_api_Token} (hi : InB i v.length) (hl : l.length ≤ 1000000)
include g hi hl
theorem bounds : 0 ≤ i ∧ i < v.length ∧ v.length ≤ 1000000 := by
  have h1 := g.sm; have h2 := g.len; unfold Sm at h1
  obtain ⟨a, b⟩ := hi
  exact ⟨a, by omega, by omega⟩
theorem lex_step : lex_Tokens_s1 v s (i, l) = some (tokAt v s i l) := by
  obtain ⟨h0, h1, hv⟩ := bounds g hi hl
  have e1 : IntKind.wrap .i64 (i + 1) = i + 1 := wi64_id ⟨by omega, by omega⟩
  have hd : decide (i < (v.length : Int)) = true := decide_eq_true h1
  obtain ⟨k, ek, lk, _, k1, k2⟩ := run_loop v hv v.length (i + 1) (by omega) (by omega) (by omega)
  obtain ⟨r, er, lr, _, r1⟩ := rem_loop v hv v.length (i + 1) (by omega) (by omega) (by omega)
  rw [lex_Tokens_s1, if_pos hd, if_pos hi, gBlank, e1]
  simp only [Option.bind_some]
  unfold tokAt
  by_cases c1 : (rd v i).Bad = true
  · rw [if_pos c1, if_pos c1]; rfl
  rw [if_neg c1, if_neg c1]
  by_cases c2 : blankB (rd v i).Rune = true
  · rw [if_pos c2, if_pos c2]
  rw [if_neg c2, if_neg c2]
  by_cases c3 : (rd v i).Rune = 59
  · rw [if_pos (by simpa using c3), if_pos c3]
    have hst : lex_Tokens_s2 v i = some (.inl (i + 1)) := by
      rw [rem_step h0 (by omega), remAt, hd, if_pos (by rw [c3]; rfl), if_neg c1]
    rw [loopO_inl hst, lr, ← er]
    simp only [Option.bind_some]
    cases r <;> rfl
  rw [if_neg (by simpa using c3), if_neg c3]
  have hrun : ∀ kk kind : Int, i < kk → kk ≤ v.length → (kind = 1 ∨ kind = 2 ∨ kind = 3 ∨ kind = 4) → lex_run v i = some (kk, kind) →
      ((lex_run v i).bind fun v213 =>
            if (v213.2 == 0) = true then ((lex_fault 1 (rd v i)).bind fun v216 =>
              some (.inr (.inr ([], v216)))) else (if InB (IntKind.wrap .i64 (v213.1 - 1)) v.length then (if InB (IntKind.wrap .i64 (v213.1 - 1)) v.length then (if Bnd (IntKind.wrap .i64 ((rd v (IntKind.wrap .i64 (v213.1 - 1))).At + (rd v (IntKind.wrap .i64 (v213.1 - 1))).Size)) s.size then (if Bnd ((rd v i).At) ((IntKind.wrap .i64 ((rd v (IntKind.wrap .i64 (v213.1 - 1))).At + (rd v (IntKind.wrap .i64 (v213.1 - 1))).Size)).toNat) then ((some (s.extract (((rd v i).At).toNat) ((IntKind.wrap .i64 ((rd v (IntKind.wrap .i64 (v213.1 - 1))).At + (rd v (IntKind.wrap .i64 (v213.1 - 1))).Size)).toNat))).bind fun s222 =>
              (lex_wrong (T_api_Token.mk v213.2 ((rd v i).Line) ((rd v i).Col) s222) (IntKind.wrap .i64 (v213.1 - i))).bind fun v224 =>
              if (v224 != 0) = true then ((lex_fault v224 (rd v i)).bind fun v227 =>
                some (.inr (.inr ([], v227)))) else (if Fits (l.length + 1) then ((some (l ++ ([(T_api_Token.mk v213.2 ((rd v i).Line) ((rd v i).Col) s222)]))).bind fun l230 =>
                some (.inl (v213.1, l230))) else none)) else none) else none) else none) else none) : Option ((Int × List T_api_Token) ⊕ (List T_api_Token ⊕ ((List T_api_Token) × T_api_Fault)))) = some (tail v s i l kk kind) := by
    intro kk kind h2 h3 h4 h5
    rw [h5, Option.bind_some, if_neg (by rcases h4 with rfl | rfl | rfl | rfl <;> simp)]
    exact lex_tail g hi h2 h3 hl kind h4
  have hj : ∀ kind : Int, lex_run_j1 v i kind = some (runC v v.length (i + 1), kind) := by
    intro kind
    rw [lex_run_j1, e1, lk, ← ek]; rfl
  have hR : lex_run v i = if (rd v i).Rune = 10 then some (i + 1, 4) else if signB (rd v i).Rune = true then some (i + 1, 3) else if letterB (rd v i).Rune = true then some (runC v v.length (i + 1), 1)
      else if (digitB (rd v i).Rune || ((rd v i).Rune == 45)) = true then some (runC v v.length (i + 1), 2) else some (i, 0) := by
    rw [lex_run, if_pos hi, e1, gLetter, gDigit, hj, hj]
    simp only [Option.bind_some, beq_iff_eq]
    rfl
  rw [← ek] at hR
  by_cases c4 : (rd v i).Rune = 10
  · rw [if_pos c4]; exact hrun _ _ (by omega) (by omega) (by omega) (by rw [hR, if_pos c4])
  by_cases c5 : signB (rd v i).Rune = true
  · rw [if_neg c4, if_pos c5]; exact hrun _ _ (by omega) (by omega) (by omega) (by rw [hR, if_neg c4, if_pos c5])
  by_cases c6 : letterB (rd v i).Rune = true
  · rw [if_neg c4, if_neg c5, if_pos c6, ← ek]; exact hrun _ _ (by omega) (by omega) (by omega) (by rw [hR, if_neg c4, if_neg c5, if_pos c6])
  by_cases c7 : (digitB (rd v i).Rune || ((rd v i).Rune == 45)) = true
  · rw [if_neg c4, if_neg c5, if_neg c6, if_pos c7, ← ek]; exact hrun _ _ (by omega) (by omega) (by omega) (by rw [hR, if_neg c4, if_neg c5, if_neg c6, if_pos c7])
  · rw [hR, if_neg c4, if_neg c5, if_neg c6, if_neg c7, if_neg c4, if_neg c5, if_neg c6, if_neg c7]; rfl
theorem ref_step : palingref1_Tokens_s1 (v.map toR) s (i, l) = some (tokAt v s i l) := by
  obtain ⟨h0, h1, hv⟩ := bounds g hi hl
  have e1 : IntKind.wrap .i64 (i + 1) = i + 1 := wi64_id ⟨by omega, by omega⟩
  have hd : decide (i < (v.length : Int)) = true := decide_eq_true h1
  have el : (v.map toR).length = v.length := by simp
  obtain ⟨k, ek, _, lk, k1, k2⟩ := run_loop v hv v.length (i + 1) (by omega) (by omega) (by omega)
  obtain ⟨r, er, _, lr, r1⟩ := rem_loop v hv v.length (i + 1) (by omega) (by omega) (by omega)
  have hsk := fun kk h2 h3 => ref_skip g hi (k := kk) h2 h3 hl
  have hT := fun kk h2 h3 => ref_tail g hi (k := kk) h2 h3 hl
  rw [palingref1_Tokens_s1, el, if_pos hd, if_pos hi, rd_map hi, rBlank, e1]
  have q1 : (toR (rd v i)).Rune = (rd v i).Rune := rfl
  have q2 : (toR (rd v i)).Bad = (rd v i).Bad := rfl
  have q4 : (toR (rd v i)).Line = (rd v i).Line := rfl
  have q5 : (toR (rd v i)).Col = (rd v i).Col := rfl
  rw [q1, q2, q4, q5]
  simp only [Option.bind_some]
  unfold tokAt
  by_cases c1 : (rd v i).Bad = true
  · rw [if_pos c1, if_pos c1]
  rw [if_neg c1, if_neg c1]
  by_cases c2 : blankB (rd v i).Rune = true
  · rw [if_pos c2, if_pos c2]; exact hsk _ (by omega) (by omega)
  rw [if_neg c2, if_neg c2]
  by_cases c3 : (rd v i).Rune = 59
  · rw [if_pos (by simpa using c3), if_pos c3, lr, ← er]
    simp only [Option.bind_some]
    cases r with
    | inl k =>
      have := r1 k rfl
      exact hsk _ (by omega) (by omega)
    | inr q => rfl
  rw [if_neg (by simpa using c3), if_neg c3]
  by_cases c4 : (rd v i).Rune = 10
  · rw [if_pos (by simpa using c4), if_pos c4]; exact hT _ (by omega) (by omega) 4 (by omega)
  rw [if_neg (by simpa using c4), if_neg c4]
  show (if signB (rd v i).Rune = true then _ else _) = _
  by_cases c5 : signB (rd v i).Rune = true
  · rw [if_pos c5, if_pos c5]; exact hT _ (by omega) (by omega) 3 (by omega)
  rw [if_neg c5, if_neg c5, rLetter, rDigit]
  simp only [Option.bind_some]
  by_cases c6 : letterB (rd v i).Rune = true
  · rw [if_pos c6, c6]
    simp only [Bool.not_true, Bool.false_eq_true, if_false, Option.bind_some, Bool.true_or, if_true]
    rw [lk, ← ek]
    exact hT _ (by omega) (by omega) 1 (by omega)
  · rw [if_neg c6]
    simp only [Bool.not_eq_true] at c6
    rw [c6]
    simp only [Bool.not_false, if_true, Option.bind_some, Bool.false_or]
    by_cases c7 : (digitB (rd v i).Rune || ((rd v i).Rune == 45)) = true
    · rw [if_pos c7, if_pos c7, lk, ← ek]
      exact hT _ (by omega) (by omega) 2 (by omega)
    · rw [if_neg c7, if_neg c7]
theorem tok_next {k : Int} {l' : List T_api_Token} (h : tokAt v s i l = .inl (k, l')) : i < k ∧ k ≤ v.length ∧ l'.length ≤ l.length + 1 := by
  obtain ⟨h0, h1, hv⟩ := bounds g hi hl
  obtain ⟨kk, ek, _, _, k1, k2⟩ := run_loop v hv v.length (i + 1) (by omega) (by omega) (by omega)
  obtain ⟨r, er, _, _, r1⟩ := rem_loop v hv v.length (i + 1) (by omega) (by omega) (by omega)
  have ht : ∀ a kind, tail v s i l a kind = .inl (k, l') → k = a ∧ l'.length ≤ l.length + 1 := by
    intro a kind h
    unfold tail at h
    dsimp only at h
    split at h
    · cases h
    · split at h
      · cases h
      · injection h with h
        injection h with h3 h4
        exact ⟨h3.symm, by rw [← h4]; simp⟩
  unfold tokAt at h
  rw [← er, ← ek] at h
  repeat' split at h
  all_goals first
    | (cases h; done)
    | (obtain ⟨rfl, h5⟩ := ht _ _ h; exact ⟨by omega, by omega, h5⟩)
    | (injection h with h; injection h with h3 h4; subst h3; subst h4; first | exact ⟨by omega, by omega, by omega⟩ | (have := r1 _ rfl; exact ⟨by omega, by omega, by omega⟩))
end
/-- All rounds. -/
def tokC (v : List T_glyph_Spot) (s : ByteArray) : Nat → Int → List T_api_Token → List T_api_Token ⊕ ((List T_api_Token) × T_api_Fault)
  | 0, _, l => .inl l
  | n + 1, i, l => if i < v.length then (match tokAt v s i l with | .inl (k, l') => tokC v s n k l' | .inr r => r) else .inl l
theorem tok_loop {s : ByteArray} {v : List T_glyph_Spot} (g : Good s v) : ∀ (n : Nat) (i : Int) (l : List T_api_Token), 0 ≤ i → i ≤ v.length → v.length - i.toNat ≤ n → l.length ≤ i.toNat →
    loopO (lex_Tokens_s1 v s) (i, l) = some (tokC v s n i l) ∧ loopO (palingref1_Tokens_s1 (v.map toR) s) (i, l) = some (tokC v s n i l) ∧ ∀ l', tokC v s n i l = .inl l' → l'.length ≤ v.length := by
  have h1 := g.sm
  have h2 := g.len
  unfold Sm at h1
  have el : (v.map toR).length = v.length := by simp
  have stop : ∀ (i : Int) (l : List T_api_Token), ¬ i < v.length → loopO (lex_Tokens_s1 v s) (i, l) = some (.inl l) ∧ loopO (palingref1_Tokens_s1 (v.map toR) s) (i, l) = some (.inl l) := fun i l h =>
    ⟨loopO_inr (by rw [lex_Tokens_s1, if_neg (by simpa using h)]), loopO_inr (by rw [palingref1_Tokens_s1, el, if_neg (by simpa using h)])⟩
  intro n
  induction n with
  | zero =>
    intro i l h0 hv hn hl
    rw [tokC]
    exact ⟨(stop i l (by omega)).1, (stop i l (by omega)).2, fun l' e => by injection e with e; subst e; omega⟩
  | succ n ih =>
    intro i l h0 hv hn hl
    rw [tokC]
    by_cases hlt : i < v.length
    · rw [if_pos hlt]
      have hin : InB i v.length := ⟨h0, by omega⟩
      have a := lex_step g hin (l := l) (by omega)
      have b := ref_step g hin (l := l) (by omega)
      cases ht : tokAt v s i l with
      | inl q =>
        obtain ⟨k, l'⟩ := q
        obtain ⟨n1, n2, n3⟩ := tok_next g hin (by omega) ht
        obtain ⟨x, y, z⟩ := ih k l' (by omega) n2 (by omega) (by omega)
        exact ⟨(loopO_inl (a.trans (by rw [ht]))).trans x, (loopO_inl (b.trans (by rw [ht]))).trans y, z⟩
      | inr r =>
        refine ⟨loopO_inr (a.trans (by rw [ht])), loopO_inr (b.trans (by rw [ht])), fun l' e => ?_⟩
        dsimp only at e
        subst e
        exfalso
        unfold tokAt tail at ht
        dsimp only at ht
        repeat' split at ht
        all_goals first | cases ht | (injection ht with ht; cases ht)
    · rw [if_neg hlt]
      exact ⟨(stop i l hlt).1, (stop i l hlt).2, fun l' e => by injection e with e; subst e; omega⟩
/-- What a text is taken apart to. -/
def tokens (s : ByteArray) : (List T_api_Token) × T_api_Fault := match tokC (spots s) s (spots s).length 0 [] with
  | .inl l => (l ++ [⟨4, (endOf (spots s)).1, (endOf (spots s)).2, ⟨#[]⟩⟩], ⟨0, 0, 0⟩)
  | .inr q => q
theorem ref_End_eq (s : ByteArray) (hs : Sm s) : palingref1_End s = some (endOf (spots s)) := by
  have hs' := hs
  unfold Sm at hs'
  rw [palingref1_End, ref_Spots_eq s hs]
  simp only [Option.bind_some]
  have hlen : (spots s).length ≤ 1000000 := by have := spotsF_len s s.size 0 1 1; unfold spots; omega
  have hbd : ∀ x ∈ spots s, -1 ≤ x.Line ∧ x.Line ≤ 3000000 ∧ -1 ≤ x.Col ∧ x.Col ≤ 3000000 := by
    have : ∀ (f pos : Nat) (line col : Int), pos ≤ s.size → 0 ≤ line ∧ line ≤ 1 + pos → 0 ≤ col ∧ col ≤ 1 + pos → ∀ x ∈ spotsF s f pos line col, -1 ≤ x.Line ∧ x.Line ≤ 3000000 ∧ -1 ≤ x.Col ∧ x.Col ≤ 3000000 := by
      intro f
      induction f with
      | zero => intro pos line col _ _ _ x hx; simp [spotsF] at hx
      | succ f ih =>
        intro pos line col hp h1 h2 x hx
        rw [spotsF] at hx
        split at hx
        · rename_i h
          obtain ⟨w1, w2⟩ := width s pos h
          rcases List.mem_cons.1 hx with rfl | hx
          · exact ⟨by simp; omega, by simp; omega, by simp; omega, by simp; omega⟩
          · exact ih _ _ _ w2 (by split <;> omega) (by split <;> omega) x hx
        · simp at hx
    exact this _ _ _ _ (by omega) (by omega) (by omega)
  rcases List.eq_nil_or_concat (spots s) with h | ⟨ini, y, h⟩
  · rw [h]; rfl
  · rw [List.concat_eq_append] at h
    have hy := hbd y (by rw [h]; simp)
    rw [h] at hlen
    simp only [List.length_append, List.length_cons, List.length_nil] at hlen
    have e0 : endOf (spots s) = if y.Rune = 10 then (y.Line + 1, 1) else (y.Line, y.Col + 1) := by rw [h, endOf]; simp
    have elen : (((spots s).map toR).length : Int) = (ini.length : Int) + 1 := by rw [h]; simp
    have em : (spots s).map toR = ini.map toR ++ toR y :: [] := by rw [h]; simp
    have ewr : IntKind.wrap .i64 ((((spots s).map toR).length : Int) - 1) = ((ini.map toR).length : Int) := by
      rw [elen, wi64_id ⟨by omega, by omega⟩]; simp
    have hin : InB (((ini.map toR).length : Nat) : Int) ((spots s).map toR).length := ⟨by omega, by rw [em]; simp⟩
    rw [if_neg (by rw [elen]; simp; omega), ewr, if_pos hin, em, rd_mid, e0]
    have q1 : (toR y).Rune = y.Rune := rfl
    have q2 : (toR y).Line = y.Line := rfl
    have q3 : (toR y).Col = y.Col := rfl
    rw [q1, q2, q3, wi64_id (n := y.Line + 1) ⟨by omega, by omega⟩, wi64_id (n := y.Col + 1) ⟨by omega, by omega⟩]
    by_cases c : y.Rune = 10
    · rw [if_pos (by simpa using c), if_pos c]
    · rw [if_neg (by simpa using c), if_neg c]
theorem lex_Tokens_eq (s : ByteArray) (hs : Sm s) : lex_Tokens s = some (tokens s) := by
  have hs' := hs
  unfold Sm at hs'
  have g := good_spots s hs
  have hg := g.len
  obtain ⟨a, b, c⟩ := tok_loop g (spots s).length 0 [] (by omega) (by omega) (by omega) (by simp)
  rw [lex_Tokens, glyph_Spots_eq s hs, Option.bind_some, a, glyph_End_eq s hs]
  simp only [Option.bind_some, tokens]
  cases h : tokC (spots s) s (spots s).length 0 [] with
  | inl l =>
    have := c l h
    simp only [onSum]
    rw [if_pos (show Fits _ by unfold Fits; omega)]
  | inr q => rfl
theorem ref_Tokens_eq (s : ByteArray) (hs : Sm s) : palingref1_Tokens s = some (tokens s) := by
  have hs' := hs
  unfold Sm at hs'
  have g := good_spots s hs
  have hg := g.len
  obtain ⟨a, b, c⟩ := tok_loop g (spots s).length 0 [] (by omega) (by omega) (by omega) (by simp)
  rw [palingref1_Tokens, ref_Spots_eq s hs, Option.bind_some, b, ref_End_eq s hs]
  simp only [Option.bind_some, tokens]
  cases h : tokC (spots s) s (spots s).length 0 [] with
  | inl l =>
    have := c l h
    simp only [onSum]
    rw [if_pos (show Fits _ by unfold Fits; omega)]
  | inr q => rfl
theorem same_refl (l : List T_api_Token) (hl : l.length ≤ 2000000) : palingbook_SameTokens l l = some true := by
  rw [palingbook_SameTokens, if_neg (by simp)]
  have : ∀ (n : Nat) (i : Int), 0 ≤ i → l.length - i.toNat ≤ n → loopO (palingbook_SameTokens_s1 l l) i = some (.inl ()) := by
    intro n
    induction n with
    | zero => intro i h0 hn; exact loopO_inr (by rw [palingbook_SameTokens_s1, if_neg (by simp; omega)])
    | succ n ih =>
      intro i h0 hn
      by_cases h : i < l.length
      · have hin : InB i l.length := ⟨h0, by omega⟩
        have e1 : IntKind.wrap .i64 (i + 1) = i + 1 := wi64_id ⟨by omega, by omega⟩
        have hst : palingbook_SameTokens_s1 l l i = some (.inl (i + 1)) := by
          rw [palingbook_SameTokens_s1, if_pos (by simpa using h), if_pos hin, if_pos hin, e1]
          have eb : ((rd l i).Text == (rd l i).Text) = true := by rw [Go.beq_toListBytes]; simp
          simp [eb]
        rw [loopO_inl hst]
        exact ih _ (by omega) (by omega)
      · exact loopO_inr (by rw [palingbook_SameTokens_s1, if_neg (by simpa using h)])
  rw [this _ 0 (by omega) (Nat.le_refl _)]; rfl
theorem tokens_len (s : ByteArray) (hs : Sm s) : (tokens s).1.length ≤ 2000000 := by
  have g := good_spots s hs
  have hg := g.len
  unfold Sm at hs
  obtain ⟨a, b, c⟩ := tok_loop g (spots s).length 0 [] (by omega) (by omega) (by omega) (by simp)
  unfold tokens
  cases h : tokC (spots s) s (spots s).length 0 [] with
  | inl l => have := c l h; simp; omega
  | inr q =>
    have : ∀ (n : Nat) (i : Int) (l : List T_api_Token) q, tokC (spots s) s n i l = .inr q → q.1 = [] := by
      intro n
      induction n with
      | zero => intro i l q h; cases h
      | succ n ih =>
        intro i l q h
        rw [tokC] at h
        split at h
        · cases ht : tokAt (spots s) s i l with
          | inl p => rw [ht] at h; exact ih _ _ _ h
          | inr r =>
            rw [ht] at h
            dsimp only at h
            subst h
            have hrem : ∀ (n : Nat) (i : Int) q, remC (spots s) n i = .inr q → q.1 = [] := by
              intro n
              induction n with
              | zero => intro i q h; cases h
              | succ n ih =>
                intro i q h
                rw [remC] at h
                cases hw : remAt (spots s) i with
                | inl j => rw [hw] at h; exact ih _ _ h
                | inr r =>
                  rw [hw] at h
                  dsimp only at h
                  subst h
                  unfold remAt at hw
                  repeat' split at hw
                  all_goals first | (cases hw; done) | (cases hw; rfl)
            unfold tokAt tail at ht
            dsimp only at ht
            repeat' split at ht
            all_goals first
              | (cases ht; done)
              | (cases ht; rfl)
              | (cases ht; rename_i hq; exact hrem _ _ _ hq)
        · cases h
    have := this _ _ _ _ h
    simp [this]
theorem alive5_true : palinglaw5_alive = some true := by
  rw [palinglaw5_alive, lex_Tokens_eq ⟨#[120, 91, 49, 93, 32, 59, 32, 97]⟩ (show (8 : Nat) ≤ 1000000 by decide), lex_Tokens_eq ⟨#[97, 32, 36]⟩ (show (3 : Nat) ≤ 1000000 by decide)]
  simp only [Option.bind_some]
  have e1 : tokens (⟨#[120, 91, 49, 93, 32, 59, 32, 97]⟩ : ByteArray) = ([⟨1, 1, 1, ⟨#[120]⟩⟩, ⟨3, 1, 2, ⟨#[91]⟩⟩, ⟨2, 1, 3, ⟨#[49]⟩⟩, ⟨3, 1, 4, ⟨#[93]⟩⟩, ⟨4, 1, 9, ⟨#[]⟩⟩], ⟨0, 0, 0⟩) := by decide +kernel
  have e2 : tokens (⟨#[97, 32, 36]⟩ : ByteArray) = ([], ⟨1, 1, 3⟩) := by decide +kernel
  rw [e1, e2]
  rfl
theorem LexTells_true (p0 : ByteArray) : palinglaw5_LexTells p0 = some true := by
  obtain ⟨t, ht, hs⟩ := short_some p0 (n := 600) (by decide)
  have hsm : Sm t := by unfold Sm; omega
  rw [palinglaw5_LexTells, ht]
  simp only [Option.bind_some]
  rw [lex_Tokens_eq t hsm, ref_Tokens_eq t hsm]
  simp only [Option.bind_some]
  rw [same_refl _ (tokens_len t hsm), alive5_true]
  simp
end Go.Vs
