import Derived.Test.YtocjejladeeckaaDoorPalLex6
/-! What stands ahead of the wrong place is not wrong. -/
set_option linter.unusedVariables false
set_option linter.unusedSimpArgs false
set_option linter.unusedSectionVars false
namespace Go.Vs
local instance tabPalLex7 : Tab := ⟨fun _ => none⟩
theorem rd_take {v : List T_glyph_Spot} {i : Nat} {x : Int} (h0 : 0 ≤ x) (h : x < i) (hi : i ≤ v.length) : rd (v.take i) x = rd v x := by
  have h1 : InB x v.length := ⟨h0, by omega⟩
  have h2 : InB x (v.take i).length := ⟨h0, by simp; omega⟩
  rw [rd_get h1, rd_get h2, List.getElem_take]
theorem word_take {v : List T_glyph_Spot} {i : Nat} {x : Int} (h0 : 0 ≤ x) (h : x < i) (hi : i ≤ v.length) : wordAt (v.take i) x = wordAt v x := by
  have d1 : decide (x < ((v.take i).length : Int)) = true := decide_eq_true (by simp; omega)
  have d2 : decide (x < (v.length : Int)) = true := decide_eq_true (by omega)
  rw [wordAt, wordAt, rd_take h0 h hi, d1, d2]
theorem runC_spec (v : List T_glyph_Spot) : ∀ (n : Nat) (x : Int), 0 ≤ x → x ≤ v.length → v.length - x.toNat ≤ n → x ≤ runC v n x ∧ runC v n x ≤ v.length ∧ (∀ y, x ≤ y → y < runC v n x → wordAt v y = true) ∧ wordAt v (runC v n x) = false := by
  intro n
  induction n with
  | zero =>
    intro x h0 hx hn
    have : decide (x < (v.length : Int)) = false := decide_eq_false (by omega)
    exact ⟨Int.le_refl _, hx, fun y h1 h2 => by simp only [runC] at h2; omega, by rw [runC, wordAt, this]; rfl⟩
  | succ n ih =>
    intro x h0 hx hn
    rw [runC]
    cases hw : wordAt v x with
    | false => exact ⟨Int.le_refl _, hx, fun y h1 h2 => by simp at h2; omega, by simpa using hw⟩
    | true =>
      have hlt : x < v.length := by simp only [wordAt, Bool.and_eq_true, decide_eq_true_eq] at hw; exact hw.1.1
      obtain ⟨a, b, c, d⟩ := ih (x + 1) (by omega) (by omega) (by omega)
      simp only [if_true]
      refine ⟨by omega, b, fun y h1 h2 => ?_, d⟩
      by_cases e : y = x
      · rw [e]; exact hw
      · exact c y (by omega) h2
theorem runC_of (v : List T_glyph_Spot) (k : Int) : ∀ (n : Nat) (x : Int), x ≤ k → (k - x).toNat ≤ n → (∀ y, x ≤ y → y < k → wordAt v y = true) → wordAt v k = false → runC v n x = k := by
  intro n
  induction n with
  | zero => intro x hx hn _ _; rw [runC]; omega
  | succ n ih =>
    intro x hx hn hy hk
    rw [runC]
    by_cases e : x = k
    · rw [e, hk]; rfl
    · rw [hy x (Int.le_refl _) (by omega), if_pos rfl]
      exact ih (x + 1) (by omega) (by omega) (fun y h1 h2 => hy y (by omega) h2) hk
theorem runC_take {v : List T_glyph_Spot} {i : Nat} (hi : i ≤ v.length) {x : Int} (h0 : 0 ≤ x) (hx : x ≤ i) (hk : runC v v.length x ≤ i) : runC (v.take i) (v.take i).length x = runC v v.length x := by
  obtain ⟨a, b, c, d⟩ := runC_spec v v.length x h0 (by omega) (by omega)
  refine runC_of _ _ _ _ a (by simp; omega) (fun y h1 h2 => ?_) ?_
  · rw [word_take (by omega) (by omega) hi]; exact c y h1 h2
  · by_cases e : runC v v.length x < i
    · rw [word_take (by omega) e hi]; exact d
    · have : decide (runC v v.length x < ((v.take i).length : Int)) = false := decide_eq_false (by simp; omega)
      rw [wordAt, this]; rfl
/-- A remark: where it ends. -/
theorem remC_take {v : List T_glyph_Spot} {i : Nat} (hi : i ≤ v.length) : ∀ (n : Nat) (x : Int), 0 ≤ x → x ≤ i → v.length - x.toNat ≤ n → ∀ n' : Nat, i - x.toNat ≤ n' →
    (∀ k, remC v n x = .inl k → k ≤ i → remC (v.take i) n' x = .inl k) ∧
    (∀ q, remC v n x = .inr q → ∃ b, x ≤ b ∧ InB b v.length ∧ q = ([], ⟨1, (rd v b).Line, (rd v b).Col⟩) ∧ (b = i → remC (v.take i) n' x = .inl (i : Int))) := by
  intro n
  induction n with
  | zero =>
    intro x h0 hx hn n' hn'
    have hxi : x = i := by omega
    have hd : decide (x < ((v.take i).length : Int)) = false := decide_eq_false (by simp; omega)
    refine ⟨fun k h hk => ?_, fun q h => by rw [remC] at h; cases h⟩
    rw [remC] at h
    injection h with h
    subst h
    cases n' with
    | zero => rfl
    | succ n' => rw [remC, remAt, hd]; rfl
  | succ n ih =>
    intro x h0 hx hn n' hn'
    by_cases hxi : x = i
    · -- the cut
      have hd : decide (x < ((v.take i).length : Int)) = false := decide_eq_false (by simp; omega)
      have hend : remC (v.take i) n' x = .inl x := by
        cases n' with
        | zero => rfl
        | succ n' => rw [remC, remAt, hd]; rfl
      have hmono : ∀ (m : Nat) (y k : Int), remC v m y = .inl k → y ≤ k := by
        intro m
        induction m with
        | zero => intro y k h; rw [remC] at h; injection h with h; omega
        | succ m ihm =>
          intro y k h
          rw [remC] at h
          cases hw : remAt v y with
          | inl j =>
            rw [hw] at h
            have := ihm j k h
            unfold remAt at hw
            repeat' split at hw
            all_goals first | (cases hw; done) | (injection hw with hw; omega)
          | inr r =>
            rw [hw] at h
            dsimp only at h
            subst h
            unfold remAt at hw
            repeat' split at hw
            all_goals first | (cases hw; done) | (injection hw with hw; injection hw with hw; omega)
      have hbad : ∀ (m : Nat) (y : Int) q, 0 ≤ y → remC v m y = .inr q → ∃ b, y ≤ b ∧ InB b v.length ∧ q = ([], ⟨1, (rd v b).Line, (rd v b).Col⟩) := by
        intro m
        induction m with
        | zero => intro y q _ h; rw [remC] at h; cases h
        | succ m ihm =>
          intro y q hy h
          rw [remC] at h
          cases hw : remAt v y with
          | inl j =>
            rw [hw] at h
            have hj : j = y + 1 := by
              unfold remAt at hw
              repeat' split at hw
              all_goals first | (cases hw; done) | (injection hw with hw; omega)
            obtain ⟨b, b1, b2⟩ := ihm j q (by omega) h
            exact ⟨b, by omega, b2⟩
          | inr r =>
            rw [hw] at h
            dsimp only at h
            subst h
            unfold remAt at hw
            split at hw
            · rename_i hc
              simp only [Bool.and_eq_true] at hc
              split at hw
              · injection hw with hw; injection hw with hw
                exact ⟨y, Int.le_refl _, inb_of hy hc.1, hw.symm⟩
              · cases hw
            · injection hw with hw; cases hw
      refine ⟨fun k h hk => ?_, fun q h => ?_⟩
      · have := hmono _ _ _ h
        have : k = x := by omega
        rw [this]; exact hend
      · obtain ⟨b, b1, b2, b3⟩ := hbad _ _ q h0 h
        exact ⟨b, b1, b2, b3, fun _ => by rw [hend, hxi]⟩
    · have hlt : x < i := by omega
      have er : remAt (v.take i) x = remAt v x := by
        have d1 : decide (x < ((v.take i).length : Int)) = true := decide_eq_true (by simp; omega)
        have d2 : decide (x < (v.length : Int)) = true := decide_eq_true (by omega)
        rw [remAt, remAt, rd_take h0 hlt hi, d1, d2]
      cases n' with
      | zero => omega
      | succ n' =>
        rw [remC, remC, er]
        cases hw : remAt v x with
        | inl j =>
          have hj : j = x + 1 := by
            unfold remAt at hw
            repeat' split at hw
            all_goals first | (cases hw; done) | (injection hw with hw; omega)
          subst hj
          obtain ⟨a, b⟩ := ih (x + 1) (by omega) (by omega) (by omega) n' (by omega)
          exact ⟨a, fun q h => by obtain ⟨b0, b1, b2, b3, b4⟩ := b q h; exact ⟨b0, by omega, b2, b3, b4⟩⟩
        | inr r =>
          refine ⟨fun k h _ => h, fun q h => ?_⟩
          dsimp only at h
          subst h
          unfold remAt at hw
          split at hw
          · rename_i hc
            simp only [Bool.and_eq_true] at hc
            split at hw
            · injection hw with hw; injection hw with hw
              exact ⟨x, Int.le_refl _, inb_of h0 hc.1, hw.symm, fun e => absurd e hxi⟩
            · cases hw
          · injection hw with hw; cases hw
theorem ext_cut (s : ByteArray) {a b m : Nat} (h : b ≤ m) : (s.extract 0 m).extract a b = s.extract a b := by
  apply bext
  rw [ByteArray.data_extract, ByteArray.data_extract, ByteArray.data_extract, Array.toList_extract, Array.toList_extract, Array.toList_extract, List.extract_eq_take_drop, List.extract_eq_take_drop, List.extract_eq_take_drop]
  rw [List.drop_zero, Nat.sub_zero, List.drop_take, List.take_take]
  congr 1; omega
section
variable {s : ByteArray} {v : List T_glyph_Spot} (g : Good s v) (hp : v.Pairwise fun x y => x.At + x.Size ≤ y.At ∧ PLt x.Line x.Col y.Line y.Col) {i : Nat} (hi : i < v.length) {j : Int} {l : List T_api_Token} (hj : 0 ≤ j) (hji : j < i) (hl : l.length ≤ 1000000)
include g hp hi hj hji hl
theorem tail_take {k : Int} (hk : j < k) (hki : k ≤ i) (kind : Int) : tail (v.take i) (s.extract 0 (rd v (i : Int)).At.toNat) j l k kind = tail v s j l k kind := by
  have hin : InB (i : Int) v.length := ⟨by omega, by simpa using hi⟩
  have hkn : InB (k - 1) v.length := ⟨by omega, by omega⟩
  have h1 := (pw g hp hkn hin (by omega)).1
  obtain ⟨a1, a2, a3⟩ := g.at0 _ hkn
  obtain ⟨b1, b2, b3⟩ := g.at0 _ hin
  unfold tail
  rw [rd_take hj hji (by omega), rd_take (x := k - 1) (by omega) (by omega) (by omega), ext_cut s (by omega)]
theorem tokAt_take {k : Int} {l' : List T_api_Token} (h : tokAt v s j l = .inl (k, l')) (hki : k ≤ i) : tokAt (v.take i) (s.extract 0 (rd v (i : Int)).At.toNat) j l = .inl (k, l') := by
  have hT : ∀ a kind, tail v s j l a kind = .inl (k, l') → a = k := by
    intro a kind h
    unfold tail at h
    dsimp only at h
    split at h
    · cases h
    · split at h
      · cases h
      · injection h with h
        injection h with h3 h4
  obtain ⟨r1, r2, _, _⟩ := runC_spec v v.length (j + 1) (by omega) (by omega) (by omega)
  unfold tokAt at h ⊢
  rw [rd_take hj hji (by omega)]
  by_cases c1 : (rd v j).Bad = true
  · rw [if_pos c1] at h; cases h
  rw [if_neg c1] at h ⊢
  by_cases c2 : blankB (rd v j).Rune = true
  · rw [if_pos c2] at h ⊢; exact h
  rw [if_neg c2] at h ⊢
  by_cases c3 : (rd v j).Rune = 59
  · rw [if_pos c3] at h ⊢
    cases hr : remC v v.length (j + 1) with
    | inr q => rw [hr] at h; cases h
    | inl k0 =>
      rw [hr] at h
      have e : k0 = k := by injection h with h; injection h with h
      rw [(remC_take (v := v) (i := i) (by omega) v.length (j + 1) (by omega) (by omega) (by omega) (v.take i).length (by simp; omega)).1 k0 hr (by omega)]
      exact h
  rw [if_neg c3] at h ⊢
  by_cases c4 : (rd v j).Rune = 10
  · rw [if_pos c4] at h ⊢
    rw [tail_take g hp hi hj hji hl (by omega) (by omega)]; exact h
  rw [if_neg c4] at h ⊢
  by_cases c5 : signB (rd v j).Rune = true
  · rw [if_pos c5] at h ⊢
    rw [tail_take g hp hi hj hji hl (by omega) (by omega)]; exact h
  rw [if_neg c5] at h ⊢
  by_cases c6 : letterB (rd v j).Rune = true
  · rw [if_pos c6] at h ⊢
    have e := hT _ _ h
    rw [runC_take (by omega) (by omega) (by omega) (by omega), tail_take g hp hi hj hji hl (by omega) (by omega)]; exact h
  rw [if_neg c6] at h ⊢
  by_cases c7 : (digitB (rd v j).Rune || ((rd v j).Rune == 45)) = true
  · rw [if_pos c7] at h ⊢
    have e := hT _ _ h
    rw [runC_take (by omega) (by omega) (by omega) (by omega), tail_take g hp hi hj hji hl (by omega) (by omega)]; exact h
  · rw [if_neg c7] at h; cases h
end
/-- Where a round finds something wrong. -/
theorem tokAt_fault {s : ByteArray} {v : List T_glyph_Spot} {j : Int} {l : List T_api_Token} {q : (List T_api_Token) × T_api_Fault} (hin : InB j v.length) (h : tokAt v s j l = .inr (.inr q)) :
    (q.2.Line = (rd v j).Line ∧ q.2.Col = (rd v j).Col) ∨ ((rd v j).Bad = false ∧ blankB (rd v j).Rune = false ∧ (rd v j).Rune = 59 ∧ remC v v.length (j + 1) = .inr q) := by
  have hT : ∀ a kind, tail v s j l a kind = .inr (.inr q) → q.2.Line = (rd v j).Line ∧ q.2.Col = (rd v j).Col := by
    intro a kind h
    unfold tail at h
    dsimp only at h
    split at h
    · cases h; exact ⟨rfl, rfl⟩
    · split at h
      · cases h; exact ⟨rfl, rfl⟩
      · cases h
  unfold tokAt at h
  by_cases c1 : (rd v j).Bad = true
  · rw [if_pos c1] at h; cases h; exact .inl ⟨rfl, rfl⟩
  rw [if_neg c1] at h
  by_cases c2 : blankB (rd v j).Rune = true
  · rw [if_pos c2] at h; cases h
  rw [if_neg c2] at h
  by_cases c3 : (rd v j).Rune = 59
  · rw [if_pos c3] at h
    cases hr : remC v v.length (j + 1) with
    | inl k0 => rw [hr] at h; cases h
    | inr q0 => rw [hr] at h; cases h; exact .inr ⟨by simpa using c1, by simpa using c2, c3, rfl⟩
  rw [if_neg c3] at h
  left
  repeat' split at h
  all_goals first | exact hT _ _ h | (cases h; exact ⟨rfl, rfl⟩)
theorem pos_inj {s : ByteArray} {v : List T_glyph_Spot} (g : Good s v) (hp : v.Pairwise fun x y => x.At + x.Size ≤ y.At ∧ PLt x.Line x.Col y.Line y.Col) {a b : Int} (ha : InB a v.length) (hb : InB b v.length)
    (h1 : (rd v a).Line = (rd v b).Line) (h2 : (rd v a).Col = (rd v b).Col) : a = b := by
  rcases Int.lt_trichotomy a b with h | h | h
  · have := (pw g hp ha hb h).2; unfold PLt at this; omega
  · exact h
  · have := (pw g hp hb ha h).2; unfold PLt at this; omega
theorem fault_idx {s : ByteArray} {v : List T_glyph_Spot} (g : Good s v) : ∀ (n : Nat) (j : Int) (l : List T_api_Token) (q : (List T_api_Token) × T_api_Fault), 0 ≤ j → j ≤ v.length → l.length ≤ j.toNat → tokC v s n j l = .inr q →
    ∃ b, j ≤ b ∧ InB b v.length ∧ q.2.Line = (rd v b).Line ∧ q.2.Col = (rd v b).Col := by
  have h1 := g.sm
  have h2 := g.len
  unfold Sm at h1
  intro n
  induction n with
  | zero => intro j l q _ _ _ h; rw [tokC] at h; cases h
  | succ n ih =>
    intro j l q h0 hv hl h
    rw [tokC] at h
    split at h
    · rename_i hlt
      have hin : InB j v.length := ⟨h0, by omega⟩
      cases ht : tokAt v s j l with
      | inl p =>
        obtain ⟨k, l'⟩ := p
        rw [ht] at h
        obtain ⟨n1, n2, n3⟩ := tok_next g hin (by omega) ht
        obtain ⟨b, b1, b2⟩ := ih k l' q (by omega) n2 (by omega) h
        exact ⟨b, by omega, b2⟩
      | inr r =>
        rw [ht] at h
        dsimp only at h
        subst h
        rcases tokAt_fault hin ht with h3 | ⟨_, _, _, h3⟩
        · exact ⟨j, Int.le_refl _, hin, h3⟩
        · obtain ⟨b, b1, b2, b3, _⟩ := (remC_take (v := v) (i := v.length) (Nat.le_refl _) v.length (j + 1) (by omega) (by omega) (by omega) v.length (by omega)).2 q h3
          exact ⟨b, by omega, b2, by rw [b3], by rw [b3]⟩
    · cases h
theorem ahead {s : ByteArray} {v : List T_glyph_Spot} (g : Good s v) (hp : v.Pairwise fun x y => x.At + x.Size ≤ y.At ∧ PLt x.Line x.Col y.Line y.Col) {i : Nat} (hi : i < v.length) (q : (List T_api_Token) × T_api_Fault)
    (hq : q.2.Line = (rd v (i : Int)).Line ∧ q.2.Col = (rd v (i : Int)).Col) : ∀ (n : Nat) (j : Int) (l : List T_api_Token), 0 ≤ j → j ≤ i → l.length ≤ j.toNat → tokC v s n j l = .inr q → ∀ n' : Nat, i - j.toNat ≤ n' →
    ∃ L, tokC (v.take i) (s.extract 0 (rd v (i : Int)).At.toNat) n' j l = .inl L := by
  have h1 := g.sm
  have h2 := g.len
  unfold Sm at h1
  have hii : InB (i : Int) v.length := ⟨by omega, by simpa using hi⟩
  have stop : ∀ (n' : Nat) (l : List T_api_Token), tokC (v.take i) (s.extract 0 (rd v (i : Int)).At.toNat) n' (i : Int) l = .inl l := by
    intro n' l
    cases n' with
    | zero => rfl
    | succ n' => rw [tokC, if_neg (by simp; omega)]
  intro n
  induction n with
  | zero => intro j l _ _ _ h; rw [tokC] at h; cases h
  | succ n ih =>
    intro j l h0 hji hl h n' hn'
    by_cases e : j = i
    · subst e; exact ⟨l, stop n' l⟩
    · have hlt : j < i := by omega
      have hin : InB j v.length := ⟨h0, by omega⟩
      rw [tokC, if_pos (by omega)] at h
      cases n' with
      | zero => omega
      | succ n' =>
        rw [tokC, if_pos (by simp; omega)]
        cases ht : tokAt v s j l with
        | inl p =>
          obtain ⟨k, l'⟩ := p
          rw [ht] at h
          obtain ⟨n1, n2, n3⟩ := tok_next g hin (by omega) ht
          have hki : k ≤ i := by
            obtain ⟨b, b1, b2, b3, b4⟩ := fault_idx g n k l' q (by omega) n2 (by omega) h
            have := pos_inj g hp b2 hii (by rw [← b3]; exact hq.1) (by rw [← b4]; exact hq.2)
            omega
          rw [tokAt_take g hp hi h0 hlt (by omega) ht hki]
          exact ih k l' (by omega) hki (by omega) h n' (by omega)
        | inr r =>
          rw [ht] at h
          dsimp only at h
          subst h
          rcases tokAt_fault hin ht with h3 | ⟨c1, c2, c3, h3⟩
          · exact absurd (pos_inj g hp hin hii (by rw [← h3.1]; exact hq.1) (by rw [← h3.2]; exact hq.2)) e
          · obtain ⟨b, b1, b2, b3, b4⟩ := (remC_take (v := v) (i := i) (by omega) v.length (j + 1) (by omega) (by omega) (by omega) (v.take i).length (by simp; omega)).2 q h3
            have hb : b = i := pos_inj g hp b2 hii (by rw [← hq.1, b3]) (by rw [← hq.2, b3])
            have hat : tokAt (v.take i) (s.extract 0 (rd v (i : Int)).At.toNat) j l = .inl ((i : Int), l) := by
              unfold tokAt
              rw [rd_take h0 hlt (by omega), if_neg (by rw [c1]; simp), if_neg (by rw [c2]; simp), if_pos c3, b4 hb]
            rw [hat]
            exact ⟨l, stop n' l⟩
theorem LexAhead_true (p0 : ByteArray) : palinglaw5_LexAhead p0 = some true := by
  obtain ⟨s, ht, hs⟩ := short_some p0 (n := 400) (by decide)
  have hsm : Sm s := by unfold Sm; omega
  have g := good_spots s hsm
  have hp : (spots s).Pairwise fun x y => x.At + x.Size ≤ y.At ∧ PLt x.Line x.Col y.Line y.Col := spotsF_pw s _ _ _ _
  rw [palinglaw5_LexAhead, ht]
  simp only [Option.bind_some]
  rw [lex_Tokens_eq s hsm]
  simp only [Option.bind_some]
  rw [alive5_true, ref_Spots_eq s hsm]
  simp only [Option.bind_some]
  by_cases hc : ((tokens s).2.Code == 0) = true
  · rw [if_pos hc]
  rw [if_neg hc]
  cases htc : tokC (spots s) s (spots s).length 0 [] with
  | inl L =>
    exfalso
    have eT : (tokens s).2 = ⟨0, 0, 0⟩ := by unfold tokens; rw [htc]
    rw [eT] at hc
    exact hc rfl
  | inr q =>
    have eT : tokens s = q := by unfold tokens; rw [htc]
    obtain ⟨b, b0, b1, b2, b3⟩ := fault_idx g _ 0 [] q (by omega) (by omega) (by simp) htc
    obtain ⟨i, rfl⟩ : ∃ i : Nat, b = i := ⟨b.toNat, by omega⟩
    have hi : i < (spots s).length := by have := b1.2; simpa using this
    have hlen := g.len
    have hgs := g.sm
    unfold Sm at hgs
    have hm : (rd (spots s) (i : Int)).At = ((spots s)[i]'hi).At := by rw [rd_get b1]; rfl
    obtain ⟨a1, a2, a3⟩ := g.at0 _ b1
    have hsm2 : Sm (s.extract 0 (rd (spots s) (i : Int)).At.toNat) := by unfold Sm; rw [ByteArray.size_extract]; omega
    obtain ⟨L, hL⟩ := ahead g hp hi q ⟨b2, b3⟩ _ 0 [] (by omega) (by omega) (by simp) htc i (by omega)
    have hT2 : (tokens (s.extract 0 (rd (spots s) (i : Int)).At.toNat)).2 = ⟨0, 0, 0⟩ := by
      have e2 : spots (s.extract 0 (rd (spots s) (i : Int)).At.toNat) = (spots s).take i := by rw [hm]; exact spots_cut s hi
      have e3 : ((spots s).take i).length = i := by simp; omega
      unfold tokens
      rw [e2, e3, hL]
    rw [eT]
    have el : ((spots s).map toR).length = (spots s).length := by simp
    have main : ∀ (n : Nat) (k : Int), 0 ≤ k → k ≤ i → (i - k).toNat ≤ n → loopO (palinglaw5_LexAhead_s1 ((spots s).map toR) q s) k = some (.inr true) := by
      have stp : ∀ k : Int, InB k (spots s).length → palinglaw5_LexAhead_s1 ((spots s).map toR) q s k = if k = i then some (.inr (.inr true)) else some (.inl (k + 1)) := by
        intro k hk
        have hk0 := hk.1
        have hk1 := hk.2
        have e1 : IntKind.wrap .i64 (k + 1) = k + 1 := wi64_id ⟨by omega, by omega⟩
        have hd : decide (k < ((spots s).length : Int)) = true := decide_eq_true (by omega)
        rw [palinglaw5_LexAhead_s1, el, rd_map hk, e1, if_pos hd, if_pos hk, if_pos (fun _ => hk)]
        have q1 : (toR (rd (spots s) k)).Line = (rd (spots s) k).Line := rfl
        have q2 : (toR (rd (spots s) k)).Col = (rd (spots s) k).Col := rfl
        have q3 : (toR (rd (spots s) k)).At = (rd (spots s) k).At := rfl
        rw [q1, q2, q3]
        by_cases e : k = i
        · subst e
          have hB : Bnd (rd (spots s) (i : Int)).At s.size := ⟨by omega, by omega⟩
          rw [if_pos (by rw [b2, b3]; simp), if_pos hk, if_pos hB, lex_Tokens_eq _ hsm2]
          simp only [Option.bind_some]
          rw [hT2, alive5_true]
          simp
        · rw [if_neg e, if_neg]
          intro hh
          simp only [Bool.and_eq_true, beq_iff_eq] at hh
          exact e (pos_inj g hp hk b1 (by rw [hh.1, b2]) (by rw [hh.2, b3]))
      intro n
      induction n with
      | zero =>
        intro k h0 hk hn
        have : k = i := by omega
        exact loopO_inr (by rw [stp k ⟨h0, by omega⟩, if_pos this])
      | succ n ih =>
        intro k h0 hk hn
        by_cases e : k = i
        · exact loopO_inr (by rw [stp k ⟨h0, by omega⟩, if_pos e])
        · rw [loopO_inl (by rw [stp k ⟨h0, by omega⟩, if_neg e])]
          exact ih (k + 1) (by omega) (by omega) (by omega)
    rw [main i 0 (by omega) (by omega) (by omega)]
    rfl
end Go.Vs
