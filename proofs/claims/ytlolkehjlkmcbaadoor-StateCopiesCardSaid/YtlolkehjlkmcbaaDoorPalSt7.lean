import Derived.Test.YtlolkehjlkmcbaaDoorPalSt4
import Derived.Test.YtlolkehjlkmcbaaDoorPalG
/-! Copies of states; StateCopies. -/
set_option linter.unusedVariables false
set_option linter.unusedSimpArgs false
set_option linter.unusedSectionVars false
set_option maxRecDepth 10000
namespace Go.Vs
open Go.Lib
local instance tabPalSt7 : Tab := ⟨fun _ => none⟩
theorem fits_le {n : Nat} (h : n ≤ 1000000) : Fits n := by unfold Fits; omega
theorem foldE_app {α R : Type} (fin : List α → R) : ∀ (l : List α) (i : Nat) (a : List α), foldE (fun _ (a : List α) x => (.inl (a ++ [x]) : List α ⊕ R)) fin i a l = fin (a ++ l)
  | [], _, a => by simp [foldE]
  | x :: l, i, a => by
    simp only [foldE]
    rw [foldE_app fin l (i + 1) (a ++ [x])]
    simp
theorem ref_Copy_eq (s : T_api_State) (h : Small s) : palingref2_Copy s = some s := by
  obtain ⟨h1, h2, h3, h4⟩ := h
  unfold palingref2_Copy
  rw [if_pos (fits_le (by omega)), if_pos (fits_le (by omega))]
  have L := loop_list s.Bufs (fun i (b : List (List T_api_Entry)) => (i, b)) (palingref2_Copy_s1 s) (fun _ (a : List (List T_api_Entry)) x => (.inl (a ++ [x]) : List (List T_api_Entry) ⊕ List (List T_api_Entry))) id (fun i a => a.length = i)
    (fun i x hx a ha => ⟨by
      have hi := (List.getElem?_eq_some_iff.1 hx).1
      simp only [palingref2_Copy_s1]
      rw [if_pos (lt_at hx), if_pos (inb_at hx), rd_at hx, if_pos (fits_le (by have := h4 x (List.mem_of_getElem? hx); omega)), if_pos (fits_le (by omega)), Option.bind_some, wi (by omega)], fun a' ha' => by
      obtain rfl := Sum.inl.inj ha'
      simp [ha]⟩)
    (fun a ha => by
      simp only [palingref2_Copy_s1]
      rw [if_neg (by simp)]; rfl) [] rfl
  rw [L, foldE_app, Option.bind_some]
  simp
theorem st_Copy_eq (s : T_api_State) (h : Small s) : state_Copy s = some s := by
  obtain ⟨h1, h2, h3, h4⟩ := h
  unfold state_Copy
  rw [if_pos (fits_le (by omega)), if_pos (fits_le (by omega))]
  have L := loop_list s.Bufs (fun i (b : List (List T_api_Entry)) => (i, b)) (state_Copy_s1 s) (fun _ (a : List (List T_api_Entry)) x => (.inl (a ++ [x]) : List (List T_api_Entry) ⊕ List (List T_api_Entry))) id (fun i a => a.length = i)
    (fun i x hx a ha => ⟨by
      have hi := (List.getElem?_eq_some_iff.1 hx).1
      simp only [state_Copy_s1]
      rw [if_pos (lt_at hx), if_pos (inb_at hx), rd_at hx, if_pos (fits_le (by have := h4 x (List.mem_of_getElem? hx); omega)), if_pos (fits_le (by omega)), Option.bind_some, wi (by omega)], fun a' ha' => by
      obtain rfl := Sum.inl.inj ha'
      simp [ha]⟩)
    (fun a ha => by
      simp only [state_Copy_s1]
      rw [if_neg (by simp)]; rfl) [] rfl
  rw [L, foldE_app, Option.bind_some]
  simp
theorem loop_ends {σ R : Type} (n : Nat) (step : σ → Option (σ ⊕ R)) (Inv : Nat → σ → Prop)
    (h1 : ∀ i a, i < n → Inv i a → ∃ a', step a = some (.inl a') ∧ Inv (i + 1) a') (h2 : ∀ a, Inv n a → ∃ r, step a = some (.inr r)) (a0 : σ) (h0 : Inv 0 a0) : ∃ a r, loopO step a0 = some r ∧ Inv n a ∧ step a = some (.inr r) := by
  have main : ∀ (k i : Nat) (a : σ), i + k = n → Inv i a → ∃ a' r, loopO step a = some r ∧ Inv n a' ∧ step a' = some (.inr r) := by
    intro k
    induction k with
    | zero =>
      intro i a e hi
      obtain rfl : i = n := by omega
      obtain ⟨r, hr⟩ := h2 a hi
      exact ⟨a, r, loopO_inr hr, hi, hr⟩
    | succ k ih =>
      intro i a e hi
      obtain ⟨a', e1, e2⟩ := h1 i a (by omega) hi
      rw [loopO_inl e1]
      exact ih (i + 1) a' (by omega) e2
  exact main n 0 a0 (by omega) h0
theorem lt_n {i n : Nat} (h : i < n) : decide ((i : Int) < (n : Int)) = true := by simpa using h
theorem inb_n {i n : Nat} (h : i < n) : InB (i : Int) n := ⟨by omega, by simpa using h⟩
theorem rd_setN {α : Type} [Inhabited α] {l : List α} {i : Nat} {x : α} (h : i < l.length) : rd (l.set i x) (i : Int) = x := rd_at (by simp [h])
theorem StateCopies_true (a : T_api_State) : palinglaw13_StateCopies a = some true := by
  obtain ⟨ga, ea, ha⟩ := great_eq a
  unfold palinglaw13_StateCopies
  rw [ea, Option.bind_some]
  cases ga with
  | true => simp [alive13_true]
  | false =>
    have hq := ha rfl
    rw [if_neg (by simp), ref_Copy_eq a hq, st_Copy_eq a hq, Option.bind_some, Option.bind_some, ref_Same_eq _ _ hq, Option.bind_some, if_neg (by simp)]
    obtain ⟨h1, h2, h3, h4⟩ := hq
    obtain ⟨_, r1, e1, _, _⟩ := loop_ends a.Mem.length palinglaw13_StateCopies_s1 (fun i s => s.1 = (i : Int) ∧ s.2.length = a.Mem.length)
      (by
        rintro i ⟨j, l⟩ hi ⟨rfl, hl⟩
        simp only at hl
        refine ⟨((i : Int) + 1, l.set i (-9)), ?_, by simp, by simpa using hl⟩
        simp only [palinglaw13_StateCopies_s1]
        rw [if_pos (by rw [hl]; exact lt_n hi), if_pos (by rw [hl]; exact inb_n hi), Option.bind_some, wi (by omega), Int.toNat_natCast])
      (by
        rintro ⟨j, l⟩ ⟨rfl, hl⟩
        simp only at hl
        exact ⟨l, by simp only [palinglaw13_StateCopies_s1]; rw [if_neg (by rw [hl]; simp)]⟩) (0, a.Mem) ⟨rfl, rfl⟩
    rw [e1, Option.bind_some]
    obtain ⟨_, r2, e2, _, _⟩ := loop_ends a.Thr.length palinglaw13_StateCopies_s2 (fun i s => s.1 = (i : Int) ∧ s.2.length = a.Thr.length)
      (by
        rintro i ⟨j, l⟩ hi ⟨rfl, hl⟩
        simp only at hl
        refine ⟨((i : Int) + 1, l.set i (T_api_Thr.mk (A8.mk 0 0 0 0 0 0 0 0) (T_api_Flags.mk false false false false) (-9) 0 0 0)), ?_, by simp, by simpa using hl⟩
        simp only [palinglaw13_StateCopies_s2]
        rw [if_pos (by rw [hl]; exact lt_n hi), if_pos (by rw [hl]; exact inb_n hi), Option.bind_some, wi (by omega), Int.toNat_natCast])
      (by
        rintro ⟨j, l⟩ ⟨rfl, hl⟩
        simp only at hl
        exact ⟨l, by simp only [palinglaw13_StateCopies_s2]; rw [if_neg (by rw [hl]; simp)]⟩) (0, a.Thr) ⟨rfl, rfl⟩
    rw [e2, Option.bind_some]
    have inner : ∀ (i : Nat) (l : List (List T_api_Entry)), i < l.length → (∀ x ∈ l, x.length ≤ 13) → ∃ r, loopO (palinglaw13_StateCopies_s4 (i : Int)) (0, l) = some r ∧ r.length = l.length ∧ ∀ x ∈ r, x.length ≤ 13 := by
      intro i l hi hx
      have hr : (rd l (i : Int)).length ≤ 13 := by
        have : l[i]? = some l[i] := List.getElem?_eq_getElem hi
        rw [rd_at this]; exact hx _ (List.getElem_mem hi)
      obtain ⟨s, r, e, h5, h6⟩ := loop_ends (rd l (i : Int)).length (palinglaw13_StateCopies_s4 (i : Int)) (fun k s => s.1 = (k : Int) ∧ s.2.length = l.length ∧ (rd s.2 (i : Int)).length = (rd l (i : Int)).length ∧ ∀ x ∈ s.2, x.length ≤ 13)
        (by
          rintro k ⟨j, m⟩ hk ⟨rfl, hl, hm, hx⟩
          simp only at hl hm hx
          have hil : i < m.length := by omega
          refine ⟨((k : Int) + 1, m.set i ((rd m (i : Int)).set k (T_api_Entry.mk (-9) 0))), ?_, by simp, by simpa using hl, ?_, ?_⟩
          · simp only [palinglaw13_StateCopies_s4]
            rw [if_pos (inb_n hil), if_pos (by rw [hm]; exact lt_n hk), if_pos (inb_n hil), if_pos (by rw [hm]; exact inb_n hk), if_pos (by rw [hm]; exact inb_n hk), Option.bind_some, wi (by omega), Int.toNat_natCast, Int.toNat_natCast]
          · simp only
            rw [rd_setN hil]; simpa using hm
          · intro x hxm
            rcases List.mem_or_eq_of_mem_set hxm with h | h
            · exact hx x h
            · subst h; rw [List.length_set, hm]; exact hr)
        (by
          rintro ⟨j, m⟩ ⟨rfl, hl, hm, hx⟩
          simp only at hl hm hx
          exact ⟨m, by simp only [palinglaw13_StateCopies_s4]; rw [if_pos (inb_n (by omega)), if_neg (by rw [hm]; simp)]⟩) (0, l) ⟨rfl, rfl, rfl, hx⟩
      obtain ⟨j, m⟩ := s
      obtain ⟨rfl, hl, hm, hx⟩ := h5
      simp only at hl hm hx
      simp only [palinglaw13_StateCopies_s4] at h6
      rw [if_pos (inb_n (by omega)), if_neg (by rw [hm]; simp)] at h6
      obtain rfl := Sum.inr.inj (Option.some.inj h6)
      exact ⟨m, e, hl, hx⟩
    obtain ⟨_, r3, e3, _, _⟩ := loop_ends a.Bufs.length palinglaw13_StateCopies_s3 (fun i s => s.1 = (i : Int) ∧ s.2.length = a.Bufs.length ∧ ∀ x ∈ s.2, x.length ≤ 13)
      (by
        rintro i ⟨j, l⟩ hi ⟨rfl, hl, hx⟩
        simp only at hl hx
        obtain ⟨r, e, h5, h6⟩ := inner i l (by omega) hx
        refine ⟨((i : Int) + 1, r), ?_, by simp, by simp only; omega, h6⟩
        simp only [palinglaw13_StateCopies_s3]
        rw [if_pos (by rw [hl]; exact lt_n hi), e, Option.bind_some, wi (by omega)])
      (by
        rintro ⟨j, l⟩ ⟨rfl, hl, hx⟩
        simp only at hl
        exact ⟨(), by simp only [palinglaw13_StateCopies_s3]; rw [if_neg (by rw [hl]; simp)]⟩) (0, a.Bufs) ⟨rfl, rfl, h4⟩
    rw [e3, Option.bind_some, Option.bind_some, alive13_true]
    simp
end Go.Vs
