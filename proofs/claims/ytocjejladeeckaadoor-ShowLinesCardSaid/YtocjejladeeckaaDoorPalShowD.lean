import Derived.Test.YtocjejladeeckaaDoorPalShowC
/-! The threads that the book of programs makes. -/
set_option linter.unusedVariables false
set_option linter.unusedSimpArgs false
set_option linter.unusedSectionVars false
namespace Go.Vs
open Go.Lib
local instance tabPalShowD : Tab := ⟨fun _ => none⟩
theorem book_s2R (p0 : List (List T_palingbook_Act)) (i : Nat) (l : List T_palingbook_Act) (hi : p0[i]? = some l) (hl : ∀ x ∈ l, W_palingbook_Act x) (n : Nat) (hn : n ≤ l.length) (hn8 : n < 99) :
    ∃ r, loopO (palingbook_Prog_s2 (n : Int) (i : Int) p0) (0, []) = some r ∧ r.length = n ∧ ∀ y ∈ r, BookR (n + 1) y := by
  have main : ∀ (k j : Nat) (out : List T_api_Ins), n - j = k → j ≤ n → out.length = j → (∀ y ∈ out, BookR (n + 1) y) → ∃ r, loopO (palingbook_Prog_s2 (n : Int) (i : Int) p0) ((j : Int), out) = some r ∧ r.length = n ∧ ∀ y ∈ r, BookR (n + 1) y := by
    intro k
    induction k with
    | zero =>
      intro j out h1 h2 h3 h4
      obtain rfl : j = n := by omega
      exact ⟨out, loopO_inr (by simp only [palingbook_Prog_s2]; rw [if_neg (by simp)]), h3, h4⟩
    | succ k ih =>
      intro j out h1 h2 h3 h4
      have hx : l[j]? = some l[j] := by rw [List.getElem?_eq_getElem]
      obtain ⟨y, e1, e2⟩ := book_right (hl l[j] (List.getElem_mem _)) (n := n + 1) (by omega) (by omega)
      have e1' : palingbook_Ins l[j] ((n : Int) + 1) = some y := e1
      have hst : palingbook_Prog_s2 (n : Int) (i : Int) p0 ((j : Int), out) = some (.inl ((j : Int) + 1, out ++ [y])) := by
        simp only [palingbook_Prog_s2]
        rw [if_pos (by simp; omega), if_pos (inb_at hi), rd_at hi, if_pos (inb_at hx), rd_at hx, wi (by omega), e1', wi (by omega)]
        simp only [Option.bind_some]
        rw [if_pos (show Fits (out.length + 1) from by unfold Fits; omega)]
      obtain ⟨r, e3, e4, e5⟩ := ih (j + 1) (out ++ [y]) (by omega) (by omega) (by simp; omega) (fun z hz => by
        rcases List.mem_append.1 hz with h | h
        · exact h4 z h
        · rw [List.mem_singleton.1 h]; exact e2)
      exact ⟨r, by rw [loopO_inl hst]; exact e3, e4, e5⟩
  exact main n 0 [] (by omega) (by omega) rfl (by intro y hy; cases hy)
def putL (m : Nat → Bool) (k : Nat) (x : T_api_Ins) : T_api_Ins := T_api_Ins.mk x.Op x.Lock x.Cond x.A x.B x.To (if m k then [labelB (k : Int)] else [])
def withL (o : List T_api_Ins) (m : Nat → Bool) : List T_api_Ins := o.mapIdx (putL m)
theorem withL_len {o m} : (withL o m).length = o.length := List.length_mapIdx
theorem withL_get {o : List T_api_Ins} {m : Nat → Bool} {k : Nat} {x : T_api_Ins} (h : o[k]? = some x) : (withL o m)[k]? = some (putL m k x) := by
  unfold withL; rw [List.getElem?_mapIdx, h]; rfl
theorem withL_set {o : List T_api_Ins} {m : Nat → Bool} {j : Nat} {x : T_api_Ins} (h : o[j]? = some x) :
    (withL o m).set j (T_api_Ins.mk x.Op x.Lock x.Cond x.A x.B x.To [labelB (j : Int)]) = withL o (fun k => m k || (k == j)) := by
  refine List.ext_getElem? fun k => ?_
  rw [List.getElem?_set]
  have hlt := (List.getElem?_eq_some_iff.1 h).1
  by_cases e : j = k
  · subst e
    rw [if_pos rfl, if_pos (by rw [withL_len]; exact hlt), withL_get h]
    simp [putL]
  · rw [if_neg e]
    cases ho : o[k]? with
    | none => unfold withL; rw [List.getElem?_mapIdx, List.getElem?_mapIdx, ho]; rfl
    | some y =>
      rw [withL_get ho, withL_get ho]
      have : (k == j) = false := by simpa using fun e2 => e e2.symm
      simp [putL, this]
theorem withL_congr {o : List T_api_Ins} {m m' : Nat → Bool} (h : ∀ k, k < o.length → m k = m' k) : withL o m = withL o m' := by
  refine List.ext_getElem? fun k => ?_
  cases ho : o[k]? with
  | none => unfold withL; rw [List.getElem?_mapIdx, List.getElem?_mapIdx, ho]; rfl
  | some y =>
    rw [withL_get ho, withL_get ho]
    have := h k (List.getElem?_eq_some_iff.1 ho).1
    simp [putL, this]
theorem book_s4R (n : Nat) (hn : n ≤ 98) (o : List T_api_Ins) (ho : o.length = n + 1) (i : Nat) (hi : i < n) (x : T_api_Ins) (hx : o[i]? = some x) : ∀ (k j : Nat) (m : Nat → Bool), n + 1 - j = k → j ≤ n + 1 →
    ∃ m', loopO (palingbook_Prog_s4 (n : Int) (i : Int)) ((j : Int), withL o m) = some (withL o m') ∧ ∀ q, q ≤ n → m' q = (m q || (decide (j ≤ q) && decide (x.To = labelB (q : Int)))) := by
  intro k
  induction k with
  | zero =>
    intro j m h1 h2
    exact ⟨m, loopO_inr (by simp only [palingbook_Prog_s4]; rw [if_neg (by simp; omega)]), fun q hq => by
      have : decide (j ≤ q) = false := by simp; omega
      simp [this]⟩
  | succ k ih =>
    intro j m h1 h2
    have hj : j < o.length := by omega
    obtain ⟨y, hy⟩ : ∃ y, o[j]? = some y := ⟨_, List.getElem?_eq_getElem hj⟩
    have gx := withL_get (m := m) hx
    have gy := withL_get (m := m) hy
    have hst : palingbook_Prog_s4 (n : Int) (i : Int) ((j : Int), withL o m) = some (.inl ((j : Int) + 1, withL o (fun q => m q || ((q == j) && decide (x.To = labelB (j : Int)))))) := by
      simp only [palingbook_Prog_s4]
      rw [if_pos (by simp; omega), label_eq]
      simp only [Option.bind_some, if_pos (inb_at gx), rd_at gx, rd_at gy, inb_at gy, implies_true, if_true]
      unfold palingbook_Prog_j2
      rw [wi (by omega)]
      have hTo : (putL m i x).To = x.To := rfl
      rw [hTo]
      by_cases ht : x.To = labelB (j : Int)
      · have d1 : decide (labelB (j : Int) = x.To) = true := by simp [ht]
        have d2 : decide (x.To = labelB (j : Int)) = true := by simp [ht]
        simp only [d1, d2, Bool.true_and, Bool.and_true]
        cases hm : m j
        · have e : (((putL m j y).Labels.length : Int) == 0) = true := by simp [putL, hm]
          simp only [e, if_true]
          have := withL_set (m := m) hy
          rw [show (j : Int).toNat = j from rfl]
          exact congrArg (fun z => some (Sum.inl ((j : Int) + 1, z))) this
        · have e : (((putL m j y).Labels.length : Int) == 0) = false := by simp [putL, hm]
          simp only [e, Bool.false_eq_true, if_false]
          refine congrArg (fun z => some (Sum.inl ((j : Int) + 1, z))) (withL_congr fun q hq => ?_)
          by_cases e2 : q = j
          · subst e2; simp [hm]
          · have : (q == j) = false := by simpa using e2
            simp [this]
      · have d1 : decide (labelB (j : Int) = x.To) = false := by simp; exact fun e => ht e.symm
        have d2 : decide (x.To = labelB (j : Int)) = false := by simpa using ht
        simp only [d1, d2, Bool.false_and, Bool.and_false, Bool.or_false, Bool.false_eq_true, if_false]
    obtain ⟨m', e3, e4⟩ := ih (j + 1) _ (by omega) (by omega)
    refine ⟨m', by rw [loopO_inl hst]; exact e3, fun q hq => ?_⟩
    rw [e4 q hq]
    by_cases e2 : q = j
    · subst e2
      have a1 : decide (q + 1 ≤ q) = false := by simp
      have a2 : decide (q ≤ q) = true := by simp
      simp [a1, a2]
    · have a0 : (q == j) = false := by simpa using e2
      have a1 : decide (j + 1 ≤ q) = decide (j ≤ q) := by
        by_cases h : j ≤ q
        · simp [h]; omega
        · simp [h]; omega
      simp [a0, a1]
theorem label_ne (q : Int) : ¬ labelB q = ⟨#[]⟩ := by
  intro h
  have h1 : (labelB q).size = 3 := by
    obtain ⟨t, h1, h2⟩ := label_w q
    rw [label_eq] at h1
    obtain rfl := Option.some.inj h1
    exact h2
  rw [h] at h1
  exact absurd h1 (by decide)
def Hit (o : List T_api_Ins) (n j q : Nat) : Prop := ∃ (i : Nat) (x : T_api_Ins), j ≤ i ∧ i < n ∧ o[i]? = some x ∧ x.To = labelB (q : Int)
theorem book_s3R (n : Nat) (hn : n ≤ 98) (o : List T_api_Ins) (ho : o.length = n + 1) : ∀ (k j : Nat) (m : Nat → Bool), n - j = k → j ≤ n →
    ∃ m', loopO (palingbook_Prog_s3 (n : Int)) ((j : Int), withL o m) = some (withL o m') ∧ ∀ q, q ≤ n → (m' q = true ↔ m q = true ∨ Hit o n j q) := by
  intro k
  induction k with
  | zero =>
    intro j m h1 h2
    refine ⟨m, loopO_inr (by simp only [palingbook_Prog_s3]; rw [if_neg (by simp; omega)]), fun q hq => ⟨.inl, fun h => h.elim id fun ⟨i, x, a, b, _⟩ => by omega⟩⟩
  | succ k ih =>
    intro j m h1 h2
    obtain ⟨x, hx⟩ : ∃ x, o[j]? = some x := ⟨_, List.getElem?_eq_getElem (by omega)⟩
    have gx := withL_get (m := m) hx
    have hst : ∃ m1, palingbook_Prog_s3 (n : Int) ((j : Int), withL o m) = some (.inl ((j : Int) + 1, withL o m1)) ∧ ∀ q, q ≤ n → (m1 q = true ↔ m q = true ∨ x.To = labelB (q : Int)) := by
      simp only [palingbook_Prog_s3]
      rw [if_pos (by simp; omega), if_pos (inb_at gx), rd_at gx]
      unfold palingbook_Prog_j1
      rw [wi (by omega)]
      have hTo : (putL m j x).To = x.To := rfl
      rw [hTo]
      by_cases he : x.To = ⟨#[]⟩
      · rw [if_pos (by simpa using he)]
        exact ⟨m, rfl, fun q _ => ⟨.inl, fun h => h.elim id fun h => absurd (h.symm.trans he) (label_ne _)⟩⟩
      · rw [if_neg (by simpa using he)]
        obtain ⟨m', e1, e2⟩ := book_s4R n hn o ho j (by omega) x hx (n + 1) 0 m (by omega) (by omega)
        have e0 : loopO (palingbook_Prog_s4 (n : Int) (j : Int)) (0, withL o m) = some (withL o m') := e1
        rw [e0]
        refine ⟨m', rfl, fun q hq => ?_⟩
        rw [e2 q hq]
        simp
    obtain ⟨m1, e3, e4⟩ := hst
    obtain ⟨m', e5, e6⟩ := ih (j + 1) m1 (by omega) (by omega)
    refine ⟨m', by rw [loopO_inl e3]; exact e5, fun q hq => ?_⟩
    rw [e6 q hq, e4 q hq]
    constructor
    · rintro ((h | h) | ⟨i, y, a, b, c, d⟩)
      · exact .inl h
      · exact .inr ⟨j, x, Nat.le_refl _, by omega, hx, h⟩
      · exact .inr ⟨i, y, by omega, b, c, d⟩
    · rintro (h | ⟨i, y, a, b, c, d⟩)
      · exact .inl (.inl h)
      · by_cases e : i = j
        · subst e
          rw [hx] at c
          obtain rfl := Option.some.inj c
          exact .inl (.inr d)
        · exact .inr ⟨i, y, by omega, b, c, d⟩
end Go.Vs
