import Derived.Test.YtocjejladeeckaaDoorPalShowD
/-! Made threads may be. -/
set_option linter.unusedVariables false
set_option linter.unusedSimpArgs false
set_option linter.unusedSectionVars false
namespace Go.Vs
open Go.Lib
local instance tabPalShowE : Tab := ⟨fun _ => none⟩
theorem insN_putL (m : Nat → Bool) (k : Nat) (y : T_api_Ins) : insN (putL m k y) = insN y := rfl
theorem place_book {p : T_api_Prog} (hp : p.Syms = bookSyms) {o : T_api_Opd} (h : memB o = true → memChk o = true) : placeN p o = 0 := by
  unfold placeN
  cases hm : memB o
  · rfl
  · have hc := h hm
    unfold memChk at hc
    simp only [Bool.and_eq_true, decide_eq_true_eq] at hc
    obtain ⟨_, h0, h2, h3, h4, h5⟩ := hc
    rw [hp]
    have e3 : ((bookSyms.length : Nat) : Int) = 3 := rfl
    rw [e3]
    have d1 : decide (o.Sym ≥ 3) = false := by simp; omega
    simp only [Bool.not_true, Bool.false_eq_true, if_false, d1]
    by_cases hk : o.Kind = 3
    · have hs : (rd bookSyms o.Sym).Size = rd [1, 2, 1] o.Sym := by
        have : o.Sym = 0 ∨ o.Sym = 1 ∨ o.Sym = 2 := by omega
        rcases this with e | e | e <;> rw [e] <;> rfl
      have := h5 hk
      rw [hs]
      have d2 : decide (o.N ≥ rd [1, 2, 1] o.Sym) = false := by simp; omega
      simp [d2]
    · have : (o.Kind == 3) = false := by simpa using hk
      simp [this]
theorem ins_fold (p : T_api_Prog) (hp : p.Syms = bookSyms) (o : List T_api_Ins) (ho : o.length ≤ 100) (m : Nat → Bool) (hy : ∀ y ∈ o, insN y = 0 ∧ (memB y.A = true → memChk y.A = true) ∧ (memB y.B = true → memChk y.B = true)) :
    ∀ (k j : Nat) (L : List ByteArray), o.length - j = k → j ≤ o.length → (∀ s ∈ L, ∃ q : Nat, q < j ∧ s = labelB (q : Int)) → ∃ L', foldE (insF p) (Sum.inl : List ByteArray → List ByteArray ⊕ Int) j L ((withL o m).drop j) = .inl L' := by
  intro k
  induction k with
  | zero =>
    intro j L h1 h2 h3
    rw [List.drop_eq_nil_of_le (by rw [withL_len]; omega)]
    exact ⟨L, rfl⟩
  | succ k ih =>
    intro j L h1 h2 h3
    have hj : j < o.length := by omega
    have hyj : o[j]? = some o[j] := List.getElem?_eq_getElem hj
    have g := withL_get (m := m) hyj
    have hd : (withL o m).drop j = putL m j o[j] :: (withL o m).drop (j + 1) := by
      rw [List.drop_eq_getElem_cons (by rw [withL_len]; exact hj)]
      congr 1
      exact (List.getElem?_eq_some_iff.1 g).2
    rw [hd]
    obtain ⟨z, cA, cB⟩ := hy o[j] (List.getElem_mem _)
    have hl : labsE L (putL m j o[j]).Labels = .inl (if m j then L ++ [labelB (j : Int)] else L) := by
      unfold putL labsE
      cases hm : m j
      · rfl
      · have hn : has L (labelB (j : Int)) = false := by
          rw [has_not]
          intro hmem
          obtain ⟨q, hq, e⟩ := h3 _ hmem
          have := label_inj (by omega) (by omega) e
          omega
        simp [foldE, labF, label_right (show j < 100 by omega), hn]
    have hf : insF p j L (putL m j o[j]) = .inl (if m j then L ++ [labelB (j : Int)] else L) := by
      unfold insF
      rw [hl]
      simp only [insN_putL, z]
      have pA : placeN p (putL m j o[j]).A = 0 := place_book hp cA
      have pB : placeN p (putL m j o[j]).B = 0 := place_book hp cB
      rw [pA, pB]
      rfl
    simp only [foldE, hf]
    refine ih (j + 1) _ (by omega) (by omega) fun s hs => ?_
    split at hs
    · rcases List.mem_append.1 hs with h | h
      · obtain ⟨q, a, b⟩ := h3 s h; exact ⟨q, by omega, b⟩
      · exact ⟨j, by omega, List.mem_singleton.1 h⟩
    · obtain ⟨q, a, b⟩ := h3 s hs; exact ⟨q, by omega, b⟩
theorem count_le : ∀ (xs : List T_api_Ins) (k : Nat) (a : Int), foldE (fun _ (n : Int) (x : T_api_Ins) => if (x.Op != 12) = true then .inl (n + 1) else .inl n) (fun n => n) k a xs ≤ a + xs.length
  | [], k, a => by simp [foldE]
  | x :: xs, k, a => by
    simp only [foldE]
    by_cases h : (x.Op != 12) = true
    · simp only [h, if_true]
      have := count_le xs (k + 1) (a + 1)
      simp only [List.length_cons]; omega
    · simp only [h, if_false]
      have := count_le xs (k + 1) a
      simp only [List.length_cons]
      simp only [Bool.false_eq_true, if_false]
      omega
theorem lead_ok (L : List ByteArray) : ∀ (xs : List T_api_Ins) (k : Nat), (∀ x ∈ xs, jumpB x = true → has L x.To = true) → foldE (leadF L) (Sum.inl : Unit → Unit ⊕ Int) k () xs = .inl ()
  | [], k, _ => rfl
  | x :: xs, k, h => by
    have hx : leadF L k () x = .inl () := by
      unfold leadF
      cases hj : jumpB x
      · rfl
      · rw [h x (List.mem_cons_self ..) hj]; rfl
    simp only [foldE, hx]
    exact lead_ok L xs (k + 1) fun y hy => h y (List.mem_cons_of_mem _ hy)
def hltI : T_api_Ins := T_api_Ins.mk 14 false 0 (T_api_Opd.mk 0 0 0 0) (T_api_Opd.mk 0 0 0 0) (⟨#[]⟩ : ByteArray) ([])
theorem thread_zero (p : T_api_Prog) (hp : p.Syms = bookSyms) (r : List T_api_Ins) (n : Nat) (hr : r.length = n) (hn : n ≤ 98) (hy : ∀ y ∈ r, BookR (n + 1) y) (m : Nat → Bool) (hm : ∀ q, q ≤ n → (m q = true ↔ Hit (r ++ [hltI]) n 0 q)) :
    threadN p ⟨withL (r ++ [hltI]) m⟩ = 0 := by
  have hlen : (withL (r ++ [hltI]) m).length = n + 1 := by rw [withL_len]; simp [hr]
  unfold threadN
  have hc : decide (countN ⟨withL (r ++ [hltI]) m⟩ > 4096) = false := by
    have := count_le (withL (r ++ [hltI]) m) 0 0
    rw [hlen] at this
    have h2 : countN ⟨withL (r ++ [hltI]) m⟩ ≤ 0 + ((n + 1 : Nat) : Int) := this
    simp; omega
  rw [hc]
  obtain ⟨L, hL⟩ := ins_fold p hp (r ++ [hltI]) (by simp; omega) m (fun y h => by
    rcases List.mem_append.1 h with h | h
    · exact ⟨(hy y h).z, (hy y h).pA, (hy y h).pB⟩
    · rw [List.mem_singleton.1 h]; exact ⟨by decide +kernel, by decide, by decide⟩) _ 0 [] rfl (by omega) (by intro s hs; cases hs)
  rw [List.drop_zero] at hL
  simp only [Bool.false_eq_true, if_false]
  rw [hL]
  obtain ⟨hL2, _⟩ := insE_spec _ _ _ _ hL
  have hlast : lastOp ⟨withL (r ++ [hltI]) m⟩ = 14 := by
    unfold lastOp
    have : (withL (r ++ [hltI]) m)[n]? = some (putL m n hltI) := withL_get (by simp [← hr])
    have e : (((withL (r ++ [hltI]) m).length : Nat) : Int) - 1 = (n : Int) := by rw [hlen]; omega
    show (rd (withL (r ++ [hltI]) m) (((withL (r ++ [hltI]) m).length : Int) - 1)).Op = 14
    rw [e, rd_at this]; rfl
  have h0 : (((withL (r ++ [hltI]) m).length : Int) == 0) = false := by rw [hlen]; simp; omega
  simp only [hlast, h0]
  rw [lead_ok L _ 0 fun x hx hj => ?_]
  · rfl
  · obtain ⟨k, hk⟩ := List.mem_iff_getElem?.1 hx
    have hk2 : k < (r ++ [hltI]).length := by have := (List.getElem?_eq_some_iff.1 hk).1; rw [withL_len] at this; exact this
    obtain ⟨y, hyk⟩ : ∃ y, (r ++ [hltI])[k]? = some y := ⟨_, List.getElem?_eq_getElem hk2⟩
    rw [withL_get hyk] at hk
    obtain rfl := Option.some.inj hk
    have hj2 : jumpB y = true := hj
    by_cases hkn : k < n
    · have hyr : r[k]? = some y := by rw [List.getElem?_append_left (by omega)] at hyk; exact hyk
      obtain ⟨q, hq, hto⟩ := (hy y (List.mem_of_getElem? hyr)).j hj2
      have hmq := (hm q (by omega)).2 ⟨k, y, Nat.zero_le _, hkn, hyk, hto⟩
      rw [has_mem, hL2, List.nil_append, List.mem_flatMap]
      obtain ⟨z, hz⟩ : ∃ z, (r ++ [hltI])[q]? = some z := ⟨_, List.getElem?_eq_getElem (by simp; omega)⟩
      refine ⟨putL m q z, List.mem_of_getElem? (withL_get hz), ?_⟩
      show y.To ∈ (if m q then [labelB (q : Int)] else [])
      rw [hmq, hto]; simp
    · have : k = r.length := by simp at hk2; omega
      subst this
      rw [List.getElem?_append_right (Nat.le_refl _), Nat.sub_self] at hyk
      obtain rfl := Option.some.inj hyk
      exact absurd hj2 (by decide)
end Go.Vs
