import Derived.Test.YtocjejladeeckaaDoorPalLex4
import Derived.Test.YtocjejladeeckaaDoorPalE
/-! Where tokens stand. -/
set_option linter.unusedVariables false
set_option linter.unusedSimpArgs false
set_option linter.unusedSectionVars false
namespace Go.Vs
local instance tabPalLex5 : Tab := ⟨fun _ => none⟩
/-- A place ahead of a place. -/
def PLt (l c l' c' : Int) : Prop := l < l' ∨ (l = l' ∧ c < c')
theorem spotsF_after (s : ByteArray) : ∀ (f pos : Nat) (line col : Int), ∀ x ∈ spotsF s f pos line col, (line < x.Line ∨ (line = x.Line ∧ col ≤ x.Col)) := by
  intro f
  induction f with
  | zero => intro pos line col x hx; simp [spotsF] at hx
  | succ f ih =>
    intro pos line col x hx
    rw [spotsF] at hx
    split at hx
    · rcases List.mem_cons.1 hx with rfl | hx
      · exact .inr ⟨rfl, Int.le_refl _⟩
      · have := ih _ _ _ x hx
        split at this <;> omega
    · simp at hx
theorem spotsF_pw (s : ByteArray) : ∀ (f pos : Nat) (line col : Int), (spotsF s f pos line col).Pairwise fun x y => x.At + x.Size ≤ y.At ∧ PLt x.Line x.Col y.Line y.Col := by
  intro f
  induction f with
  | zero => intro pos line col; simp [spotsF]
  | succ f ih =>
    intro pos line col
    rw [spotsF]
    split
    · rename_i h
      refine List.Pairwise.cons (fun y hy => ?_) (ih _ _ _)
      have h1 := (spotsF_all s _ _ _ _ y hy).1
      have h2 := spotsF_after s _ _ _ _ y hy
      refine ⟨by simp only; omega, ?_⟩
      unfold PLt
      simp only
      split at h2 <;> omega
    · exact List.Pairwise.nil
theorem endOf_after (l : List T_glyph_Spot) (hp : l.Pairwise fun x y => x.At + x.Size ≤ y.At ∧ PLt x.Line x.Col y.Line y.Col) : ∀ x ∈ l, PLt x.Line x.Col (endOf l).1 (endOf l).2 := by
  intro x hx
  rcases List.eq_nil_or_concat l with h | ⟨ini, y, h⟩
  · rw [h] at hx; simp at hx
  · rw [List.concat_eq_append] at h
    subst h
    have e0 : endOf (ini ++ [y]) = if y.Rune = 10 then (y.Line + 1, 1) else (y.Line, y.Col + 1) := by rw [endOf]; simp
    rw [e0]
    generalize hE : (if y.Rune = 10 then ((y.Line + 1, 1) : Int × Int) else (y.Line, y.Col + 1)) = E
    have hy : PLt y.Line y.Col E.1 E.2 := by
      rw [← hE]
      by_cases h : y.Rune = 10
      · rw [if_pos h]; exact .inl (by show y.Line < y.Line + 1; omega)
      · rw [if_neg h]; exact .inr ⟨rfl, by show y.Col < y.Col + 1; omega⟩
    rcases List.mem_append.1 hx with hx | hx
    · have h1 := (List.pairwise_append.1 hp).2.2 x hx y (by simp)
      have h2 := h1.2
      unfold PLt at h2 hy ⊢
      omega
    · obtain rfl : x = y := by simpa using hx
      exact hy
/-- Tokens, one behind the other, from a rune and a byte on. -/
def Chain (v : List T_glyph_Spot) (s : ByteArray) : Int → List T_api_Token → Prop
  | _, [] => True
  | lo, t :: r => ∃ i k kind, lo ≤ i ∧ i < k ∧ k ≤ v.length ∧ t = ⟨kind, (rd v i).Line, (rd v i).Col, s.extract (rd v i).At.toNat ((rd v (k - 1)).At + (rd v (k - 1)).Size).toNat⟩ ∧ Chain v s k r
theorem Chain.mono {v : List T_glyph_Spot} {s : ByteArray} {a b : Int} (h : a ≤ b) : ∀ {r : List T_api_Token}, Chain v s b r → Chain v s a r
  | [], _ => trivial
  | t :: r, ⟨i, k, kind, h1, h2⟩ => ⟨i, k, kind, by omega, h2⟩
theorem tok_chain {s : ByteArray} {v : List T_glyph_Spot} (g : Good s v) : ∀ (n : Nat) (i : Int) (l L : List T_api_Token), 0 ≤ i → l.length ≤ i.toNat → i ≤ v.length → tokC v s n i l = .inl L → ∃ r, L = l ++ r ∧ Chain v s i r := by
  have h1 := g.sm
  have h2 := g.len
  unfold Sm at h1
  intro n
  induction n with
  | zero => intro i l L _ _ _ h; rw [tokC] at h; injection h with h; exact ⟨[], by simp [h], trivial⟩
  | succ n ih =>
    intro i l L h0 hl hv h
    rw [tokC] at h
    split at h
    · rename_i hlt
      have hin : InB i v.length := ⟨h0, by omega⟩
      cases ht : tokAt v s i l with
      | inr r => rw [ht] at h; exact absurd h (by
          have hno : ∀ L, r ≠ .inl L := by
            intro L e; subst e
            unfold tokAt tail at ht
            dsimp only at ht
            repeat' split at ht
            all_goals (cases ht; done)
          exact hno L)
      | inl q =>
        obtain ⟨k, l'⟩ := q
        rw [ht] at h
        obtain ⟨n1, n2, n3⟩ := tok_next g hin (by omega) ht
        obtain ⟨r, e, hc⟩ := ih k l' L (by omega) (by omega) n2 h
        have hcase : l' = l ∨ ∃ kind, l' = l ++ [⟨kind, (rd v i).Line, (rd v i).Col, s.extract (rd v i).At.toNat ((rd v (k - 1)).At + (rd v (k - 1)).Size).toNat⟩] := by
          have hT : ∀ a kind, tail v s i l a kind = .inl (k, l') → ∃ kind, l' = l ++ [⟨kind, (rd v i).Line, (rd v i).Col, s.extract (rd v i).At.toNat ((rd v (k - 1)).At + (rd v (k - 1)).Size).toNat⟩] := by
            intro a kind h
            unfold tail at h
            dsimp only at h
            split at h
            · cases h
            · split at h
              · cases h
              · injection h with h
                injection h with h3 h4
                subst h3
                exact ⟨kind, h4.symm⟩
          unfold tokAt at ht
          repeat' split at ht
          all_goals first
            | (cases ht; done)
            | exact .inr (hT _ _ ht)
            | (injection ht with ht; injection ht with h3 h4; exact .inl h4.symm)
        rcases hcase with rfl | ⟨kind, rfl⟩
        · exact ⟨r, e, hc.mono (by omega)⟩
        · exact ⟨_ :: r, by rw [e]; simp, i, k, kind, Int.le_refl _, n1, n2, rfl, hc⟩
    · injection h with h; exact ⟨[], by simp [h], trivial⟩
section
variable {s : ByteArray} {v : List T_glyph_Spot} (g : Good s v) (hp : v.Pairwise fun x y => x.At + x.Size ≤ y.At ∧ PLt x.Line x.Col y.Line y.Col)
include g hp
theorem pw {i j : Int} (hi : InB i v.length) (hj : InB j v.length) (h : i < j) : (rd v i).At + (rd v i).Size ≤ (rd v j).At ∧ PLt (rd v i).Line (rd v i).Col (rd v j).Line (rd v j).Col := by
  rw [rd_get hi, rd_get hj]
  have := hi.1
  exact List.pairwise_iff_getElem.1 hp i.toNat j.toNat hi.2 hj.2 (by omega)
/-- The scan for a place. -/
theorem scan (A : List T_api_Token) (F : T_api_Fault) {m : Int} (hm : InB m A.length) (i : Int) (hi0 : 0 ≤ i) (hiv : i ≤ v.length)
    (hmatch : i < v.length → (rd v i).Line = (rd A m).Line ∧ (rd v i).Col = (rd A m).Col) (hno : ∀ j, InB j v.length → j < i → ¬ ((rd v j).Line = (rd A m).Line ∧ (rd v j).Col = (rd A m).Col)) :
    ∀ (n : Nat) (k : Int), 0 ≤ k → k ≤ i → (i - k).toNat ≤ n → loopO (palinglaw5_LexStand_s2 (v.map toR) m (A, F)) k = some i := by
  have h1 := g.sm
  have h2 := g.len
  unfold Sm at h1
  have el : (v.map toR).length = v.length := by simp
  have stp : ∀ k : Int, 0 ≤ k → k ≤ v.length → palinglaw5_LexStand_s2 (v.map toR) m (A, F) k = if k < v.length ∧ ¬ ((rd v k).Line = (rd A m).Line ∧ (rd v k).Col = (rd A m).Col) then some (.inl (k + 1)) else some (.inr k) := by
    intro k hk0 hkv
    have e1 : IntKind.wrap .i64 (k + 1) = k + 1 := wi64_id ⟨by omega, by omega⟩
    rw [palinglaw5_LexStand_s2, el, e1]
    by_cases hd : decide (k < (v.length : Int)) = true
    · have hin := inb_of hk0 hd
      rw [rd_map hin]
      have q1 : (toR (rd v k)).Line = (rd v k).Line := rfl
      have q2 : (toR (rd v k)).Col = (rd v k).Col := rfl
      rw [q1, q2, if_pos (fun _ => hin), if_pos (fun _ => hm), if_pos (fun _ => hin), if_pos (fun _ => hm), hd]
      have hd' : k < (v.length : Int) := of_decide_eq_true hd
      simp only [Bool.true_and, Option.bind_some, Bool.or_eq_true, bne_iff_ne, ne_eq]
      by_cases c1 : (rd v k).Line = (rd A m).Line
      · by_cases c2 : (rd v k).Col = (rd A m).Col
        · rw [if_neg (by simp [c1, c2]), if_neg (by simp [c1, c2])]
        · rw [if_pos (.inr c2), if_pos ⟨hd', fun h => c2 h.2⟩]
      · rw [if_pos (.inl c1), if_pos ⟨hd', fun h => c1 h.1⟩]
    · simp only [Bool.not_eq_true] at hd
      have hd' : ¬ k < (v.length : Int) := of_decide_eq_false hd
      rw [hd]
      simp [hd']
  intro n
  induction n with
  | zero =>
    intro k hk0 hki hn
    have : k = i := by omega
    subst this
    exact loopO_inr (by rw [stp k hk0 hiv, if_neg (fun h => h.2 (hmatch h.1))])
  | succ n ih =>
    intro k hk0 hki hn
    by_cases e : k = i
    · subst e
      exact loopO_inr (by rw [stp k hk0 hiv, if_neg (fun h => h.2 (hmatch h.1))])
    · have hin : InB k v.length := ⟨hk0, by omega⟩
      rw [loopO_inl (by rw [stp k hk0 (by omega), if_pos ⟨by omega, hno k hin (by omega)⟩])]
      exact ih (k + 1) (by omega) (by omega) (by omega)
theorem stand_j2 (A : List T_api_Token) (F : T_api_Fault) {m : Int} (hm : InB m A.length) (hm2 : m ≤ 2000000) {at0 h r : Int} (a0 : 0 ≤ at0) (ha : at0 ≤ h) (hh : h + (rd A m).Text.size ≤ s.size)
    (ht : s.extract h.toNat (h + (rd A m).Text.size).toNat = (rd A m).Text) : palinglaw5_LexStand_j2 at0 m (A, F) s r h = some (.inl (h + (rd A m).Text.size, r, m + 1)) := by
  have h1 := g.sm
  unfold Sm at h1
  have hm0 := hm.1
  have e1 : IntKind.wrap .i64 ((s.size : Int) - h) = s.size - h := wi64_id ⟨by omega, by omega⟩
  have e2 : IntKind.wrap .i64 (h + ((rd A m).Text.size : Int)) = h + (rd A m).Text.size := wi64_id ⟨by omega, by omega⟩
  have e3 : IntKind.wrap .i64 (m + 1) = m + 1 := wi64_id ⟨by omega, by omega⟩
  rw [palinglaw5_LexStand_j2]
  simp only
  have hb1 : Bnd (h + ((rd A m).Text.size : Int)) s.size := ⟨by omega, by omega⟩
  have hb2 : Bnd h (h + ((rd A m).Text.size : Int)).toNat := ⟨by omega, by omega⟩
  rw [e1, e2, if_pos (fun _ => hm), if_pos (fun _ => hm), if_pos (fun _ => hb1), if_pos (fun _ => hb2), if_pos (fun _ => hm), ht]
  have d1 : decide (h < at0) = false := decide_eq_false (by omega)
  have d2 : decide (((rd A m).Text.size : Int) > (s.size : Int) - h) = false := decide_eq_false (by omega)
  rw [d1, d2]
  simp only [Bool.or_self, decide_true, Bool.not_true, Option.bind_some, Bool.false_eq_true, if_false]
  rw [if_pos hm, palinglaw5_LexStand_j1, e3]
end
theorem ext_size (s : ByteArray) (a b : Nat) (h : a ≤ b) (hb : b ≤ s.size) : (s.extract a b).size = b - a := by
  rw [ByteArray.size_extract]; omega
theorem stand_loop {s : ByteArray} {v : List T_glyph_Spot} (g : Good s v) (hp : v.Pairwise fun x y => x.At + x.Size ≤ y.At ∧ PLt x.Line x.Col y.Line y.Col) (F : T_api_Fault) (hF : ∀ x ∈ v, PLt x.Line x.Col (endOf v).1 (endOf v).2) :
    ∀ (r pre : List T_api_Token) (lo kk at0 : Int), pre.length ≤ lo.toNat → 0 ≤ kk → kk ≤ lo → lo ≤ v.length → 0 ≤ at0 → (at0 = 0 ∨ ∃ k, 0 < k ∧ k ≤ lo ∧ at0 = (rd v (k - 1)).At + (rd v (k - 1)).Size) → Chain v s lo r →
    loopO (palinglaw5_LexStand_s1 (pre ++ r ++ [⟨4, (endOf v).1, (endOf v).2, ⟨#[]⟩⟩], F) (v.map toR) s) (at0, kk, (pre.length : Int)) = some (.inl (s.size : Int)) := by
  have h1 := g.sm
  have h2 := g.len
  unfold Sm at h1
  have el : (v.map toR).length = v.length := by simp
  -- how far the bytes are behind a token
  have hat : ∀ (lo at0 i : Int), lo ≤ i → InB i v.length → (at0 = 0 ∨ ∃ k, 0 < k ∧ k ≤ lo ∧ at0 = (rd v (k - 1)).At + (rd v (k - 1)).Size) → at0 ≤ (rd v i).At := by
    intro lo at0 i hlo hin h
    rcases h with rfl | ⟨k, k0, k1, rfl⟩
    · exact (g.at0 i hin).1
    · have hi1 := hin.1; have hi2 := hin.2
      have hk : InB (k - 1) v.length := ⟨by omega, by omega⟩
      exact (pw g hp hk hin (by omega)).1
  have hsz : ∀ (lo at0 : Int), lo ≤ v.length → (at0 = 0 ∨ ∃ k, 0 < k ∧ k ≤ lo ∧ at0 = (rd v (k - 1)).At + (rd v (k - 1)).Size) → at0 ≤ s.size := by
    intro lo at0 hlo h
    rcases h with rfl | ⟨k, k0, k1, rfl⟩
    · omega
    · exact (g.at0 (k - 1) ⟨by omega, by omega⟩).2.2
  intro r
  induction r with
  | nil =>
    intro pre lo kk at0 hpl hk0 hk1 hlo ha0 hat0 hc
    rw [List.append_nil]
    have hm : InB (pre.length : Int) (pre ++ [(⟨4, (endOf v).1, (endOf v).2, ⟨#[]⟩⟩ : T_api_Token)]).length := ⟨by omega, by simp⟩
    have hrd : rd (pre ++ [(⟨4, (endOf v).1, (endOf v).2, ⟨#[]⟩⟩ : T_api_Token)]) (pre.length : Int) = ⟨4, (endOf v).1, (endOf v).2, ⟨#[]⟩⟩ := rd_mid pre [] _
    have hsc := scan g hp (pre ++ [(⟨4, (endOf v).1, (endOf v).2, ⟨#[]⟩⟩ : T_api_Token)]) F hm (v.length : Int) (by omega) (Int.le_refl _) (fun h => absurd h (by omega)) (fun j hj _ hne => by
      rw [hrd] at hne
      have := hF (rd v j) (by rw [rd_get hj]; exact List.getElem_mem hj.2)
      unfold PLt at this
      simp only at hne
      omega) v.length kk hk0 (by omega) (by omega)
    have hj := stand_j2 g hp (pre ++ [(⟨4, (endOf v).1, (endOf v).2, ⟨#[]⟩⟩ : T_api_Token)]) F hm (by omega) (at0 := at0) (h := (s.size : Int)) (r := (v.length : Int)) ha0 (hsz lo at0 hlo hat0)
      (by rw [hrd]; show (s.size : Int) + ((0 : Nat) : Int) ≤ s.size; omega) (by
        rw [hrd]
        apply bext
        rw [ByteArray.data_extract, Array.toList_extract]
        show List.take _ _ = []
        have : ((s.size : Int) + ((ByteArray.size ⟨#[]⟩ : Nat) : Int)).toNat - (s.size : Int).toNat = 0 := by
          have : (ByteArray.size ⟨#[]⟩ : Nat) = 0 := rfl
          omega
        rw [this]; rfl)
    have hst : palinglaw5_LexStand_s1 (pre ++ [(⟨4, (endOf v).1, (endOf v).2, ⟨#[]⟩⟩ : T_api_Token)], F) (v.map toR) s (at0, kk, (pre.length : Int)) = some (.inl ((s.size : Int), (v.length : Int), (pre.length : Int) + 1)) := by
      rw [palinglaw5_LexStand_s1]
      simp only
      rw [if_pos (by simp; omega), hsc, Option.bind_some, el, if_neg (by simp), hj, hrd]
      show some (Sum.inl ((s.size : Int) + ((0 : Nat) : Int), _, _)) = _
      simp
    rw [loopO_inl hst]
    refine loopO_inr ?_
    rw [palinglaw5_LexStand_s1]
    simp only
    rw [if_neg (by simp)]
  | cons t r ih =>
    intro pre lo kk at0 hpl hk0 hk1 hlo ha0 hat0 hc
    obtain ⟨i, k, kind, c1, c2, c3, c4, c5⟩ := hc
    have hin : InB i v.length := ⟨by omega, by omega⟩
    have hkin : InB (k - 1) v.length := ⟨by omega, by omega⟩
    have eA : pre ++ t :: r ++ [(⟨4, (endOf v).1, (endOf v).2, ⟨#[]⟩⟩ : T_api_Token)] = pre ++ t :: (r ++ [⟨4, (endOf v).1, (endOf v).2, ⟨#[]⟩⟩]) := by simp
    have eA2 : pre ++ t :: r ++ [(⟨4, (endOf v).1, (endOf v).2, ⟨#[]⟩⟩ : T_api_Token)] = (pre ++ [t]) ++ r ++ [⟨4, (endOf v).1, (endOf v).2, ⟨#[]⟩⟩] := by simp
    generalize hA : pre ++ t :: r ++ [(⟨4, (endOf v).1, (endOf v).2, ⟨#[]⟩⟩ : T_api_Token)] = A at eA eA2 ⊢
    have hm : InB (pre.length : Int) A.length := ⟨by omega, by rw [eA]; simp⟩
    have hrd : rd A (pre.length : Int) = t := by rw [eA]; exact rd_mid pre _ _
    obtain ⟨b1, b2, b3⟩ := g.at0 i hin
    obtain ⟨d1, d2, d3⟩ := g.at0 (k - 1) hkin
    have hle := g.le i (k - 1) hin hkin (by omega)
    have hts : (t.Text.size : Int) = (rd v (k - 1)).At + (rd v (k - 1)).Size - (rd v i).At := by
      rw [c4]; show ((ByteArray.extract s _ _).size : Int) = _
      rw [ext_size s _ _ (by omega) (by omega)]; omega
    have hsc := scan g hp A F hm i (by omega) (by omega) (fun _ => by rw [hrd, c4]; exact ⟨rfl, rfl⟩) (fun j hj hji hne => by
      rw [hrd, c4] at hne
      have := (pw g hp hj hin hji).2
      unfold PLt at this
      simp only at hne
      omega) (i - kk).toNat kk hk0 (by omega) (Nat.le_refl _)
    have hj := stand_j2 g hp A F hm (by omega) (at0 := at0) (h := (rd v i).At) (r := i) ha0 (hat lo at0 i c1 hin hat0) (by rw [hrd, hts]; omega) (by
      rw [hrd, hts]
      conv => rhs; rw [c4]
      show ByteArray.extract s _ _ = ByteArray.extract s _ _
      congr 1; omega)
    have hst : palinglaw5_LexStand_s1 (A, F) (v.map toR) s (at0, kk, (pre.length : Int)) = some (.inl ((rd v (k - 1)).At + (rd v (k - 1)).Size, i, ((pre ++ [t]).length : Int))) := by
      rw [palinglaw5_LexStand_s1]
      simp only
      have hlt : decide ((pre.length : Int) < (A.length : Int)) = true := decide_eq_true (by have := hm.2; omega)
      have hid : decide (i < (v.length : Int)) = true := decide_eq_true (by omega)
      rw [if_pos hlt, hsc, Option.bind_some, el, if_pos hid, if_pos hin, rd_map hin]
      show palinglaw5_LexStand_j2 at0 (pre.length : Int) (A, F) s i (rd v i).At = _
      rw [hj, hrd, hts]
      simp
      omega
    rw [loopO_inl hst, eA2]
    exact ih (pre ++ [t]) k i _ (by simp; omega) (by omega) (by omega) c3 (by omega) (.inr ⟨k, by omega, Int.le_refl _, rfl⟩) c5
theorem LexStand_true (p0 : ByteArray) : palinglaw5_LexStand p0 = some true := by
  obtain ⟨s, ht, hs⟩ := short_some p0 (n := 400) (by decide)
  have hsm : Sm s := by unfold Sm; omega
  have g := good_spots s hsm
  have hp : (spots s).Pairwise fun x y => x.At + x.Size ≤ y.At ∧ PLt x.Line x.Col y.Line y.Col := spotsF_pw s _ _ _ _
  rw [palinglaw5_LexStand, ht]
  simp only [Option.bind_some]
  rw [lex_Tokens_eq s hsm]
  simp only [Option.bind_some]
  rw [alive5_true, ref_Spots_eq s hsm]
  simp only [Option.bind_some]
  by_cases hc : ((tokens s).2.Code != 0) = true
  · rw [if_pos hc]
  rw [if_neg hc]
  have hcode : ∀ (n : Nat) (i : Int) (l : List T_api_Token) q, tokC (spots s) s n i l = .inr q → q.2.Code ≠ 0 := by
    have hrem : ∀ (n : Nat) (i : Int) q, remC (spots s) n i = .inr q → q.2.Code ≠ 0 := by
      intro n
      induction n with
      | zero => intro i q h; cases h
      | succ n ih =>
        intro i q h
        rw [remC] at h
        cases hw : remAt (spots s) i with
        | inl j => rw [hw] at h; exact ih _ _ h
        | inr r =>
          rw [hw] at h
          dsimp only at h
          subst h
          unfold remAt at hw
          repeat' split at hw
          all_goals first | (cases hw; done) | (cases hw; decide) | (cases hw; intro h; cases h)
    intro n
    induction n with
    | zero => intro i l q h; cases h
    | succ n ih =>
      intro i l q h
      rw [tokC] at h
      split at h
      · cases ht : tokAt (spots s) s i l with
        | inl p => rw [ht] at h; exact ih _ _ _ h
        | inr r =>
          rw [ht] at h
          dsimp only at h
          subst h
          unfold tokAt tail at ht
          dsimp only at ht
          repeat' split at ht
          all_goals first
            | (cases ht; done)
            | (cases ht; rename_i hq; exact hrem _ _ _ hq)
            | (cases ht; intro h; cases h)
      · cases h
  cases htc : tokC (spots s) s (spots s).length 0 [] with
  | inr q =>
    exfalso
    have e : tokens s = q := by unfold tokens; rw [htc]
    rw [e] at hc
    exact hc (by simpa using hcode _ _ _ _ htc)
  | inl L =>
    obtain ⟨r, e, hch⟩ := tok_chain g _ 0 [] L (by omega) (by simp) (by omega) htc
    have eT : tokens s = (L ++ [⟨4, (endOf (spots s)).1, (endOf (spots s)).2, ⟨#[]⟩⟩], ⟨0, 0, 0⟩) := by unfold tokens; rw [htc]
    have hlen := tokens_len s hsm
    rw [eT] at hlen ⊢
    have hl := stand_loop g hp ⟨0, 0, 0⟩ (endOf_after _ hp) r [] 0 0 0 (by simp) (by omega) (by omega) (by omega) (by omega) (.inl rfl) hch
    have e' : L = r := by simpa using e
    rw [List.nil_append, ← e'] at hl
    have hl' : loopO (palinglaw5_LexStand_s1 (L ++ [⟨4, (endOf (spots s)).1, (endOf (spots s)).2, ⟨#[]⟩⟩], ⟨0, 0, 0⟩) ((spots s).map toR) s) (0, 0, 0) = some (.inl (s.size : Int)) := hl
    rw [hl']
    simp only [List.length_append, List.length_cons, List.length_nil] at hlen
    have ew : IntKind.wrap .i64 (((L ++ [(⟨4, (endOf (spots s)).1, (endOf (spots s)).2, ⟨#[]⟩⟩ : T_api_Token)]).length : Int) - 1) = (L.length : Int) := by
      rw [wi64_id ⟨by simp <;> omega, by simp <;> omega⟩]; simp
    have hin : InB (L.length : Int) (L ++ [(⟨4, (endOf (spots s)).1, (endOf (spots s)).2, ⟨#[]⟩⟩ : T_api_Token)]).length := ⟨by omega, by simp⟩
    have hrd : rd (L ++ [(⟨4, (endOf (spots s)).1, (endOf (spots s)).2, ⟨#[]⟩⟩ : T_api_Token)]) (L.length : Int) = ⟨4, (endOf (spots s)).1, (endOf (spots s)).2, ⟨#[]⟩⟩ := rd_mid L [] _
    have hd : decide (((L ++ [(⟨4, (endOf (spots s)).1, (endOf (spots s)).2, ⟨#[]⟩⟩ : T_api_Token)]).length : Int) > 0) = true := decide_eq_true (by simp <;> omega)
    simp only [Option.bind_some, onSum]
    rw [ew, if_pos (fun _ => hin), if_pos (fun _ => hin), hrd, hd]
    simp
end Go.Vs
