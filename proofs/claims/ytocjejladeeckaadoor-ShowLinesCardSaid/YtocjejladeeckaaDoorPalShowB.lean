import Derived.Test.YtocjejladeeckaaDoorPalShowA
/-! What the book of programs makes: whole programs. -/
set_option linter.unusedVariables false
set_option linter.unusedSimpArgs false
set_option linter.unusedSectionVars false
namespace Go.Vs
open Go.Lib
local instance tabPalShowB : Tab := ⟨fun _ => none⟩
structure BookL (y : T_api_Ins) : Prop where
  a : I64 y.A.N
  b : I64 y.B.N
  to : y.To.size ≤ 3
  n : y.Labels.length ≤ 1
  lab : ∀ s ∈ y.Labels, s.size ≤ 3
theorem BookIns.l {y : T_api_Ins} (h : BookIns y) : BookL y := ⟨h.a, h.b, h.to, by rw [h.lab]; decide, by rw [h.lab]; intro s hs; cases hs⟩
theorem BookL.ok {y : T_api_Ins} (h : BookL y) : LabOk y := ⟨⟨by have := h.to; unfold Sm; omega, h.a, h.b⟩, by have := h.n; omega, by have := h.to; omega, fun s hs => by have := h.lab s hs; omega⟩
theorem book_s2 (p0 : List (List T_palingbook_Act)) (i : Nat) (l : List T_palingbook_Act) (hi : p0[i]? = some l) (hl : ∀ x ∈ l, W_palingbook_Act x) (n : Nat) (hn : n ≤ l.length) (hn8 : n ≤ 100) :
    ∃ r, loopO (palingbook_Prog_s2 (n : Int) (i : Int) p0) (0, []) = some r ∧ r.length = n ∧ ∀ y ∈ r, BookIns y := by
  have main : ∀ (k j : Nat) (out : List T_api_Ins), n - j = k → j ≤ n → out.length = j → (∀ y ∈ out, BookIns y) → ∃ r, loopO (palingbook_Prog_s2 (n : Int) (i : Int) p0) ((j : Int), out) = some r ∧ r.length = n ∧ ∀ y ∈ r, BookIns y := by
    intro k
    induction k with
    | zero =>
      intro j out h1 h2 h3 h4
      obtain rfl : j = n := by omega
      exact ⟨out, loopO_inr (by simp only [palingbook_Prog_s2]; rw [if_neg (by simp)]), h3, h4⟩
    | succ k ih =>
      intro j out h1 h2 h3 h4
      have hx : l[j]? = some l[j] := by rw [List.getElem?_eq_getElem]
      obtain ⟨y, e1, e2⟩ := book_Ins (hl l[j] (List.getElem_mem _)) (n := (n : Int) + 1) (by omega) (by omega)
      have hst : palingbook_Prog_s2 (n : Int) (i : Int) p0 ((j : Int), out) = some (.inl ((j : Int) + 1, out ++ [y])) := by
        simp only [palingbook_Prog_s2]
        rw [if_pos (by simp; omega), if_pos (inb_at hi), rd_at hi, if_pos (inb_at hx), rd_at hx, wi (by omega), e1, wi (by omega)]
        simp only [Option.bind_some]
        rw [if_pos (show Fits (out.length + 1) from by unfold Fits; omega)]
      obtain ⟨r, e3, e4, e5⟩ := ih (j + 1) (out ++ [y]) (by omega) (by omega) (by simp; omega) (fun z hz => by
        rcases List.mem_append.1 hz with h | h
        · exact h4 z h
        · rw [List.mem_singleton.1 h]; exact e2)
      exact ⟨r, by rw [loopO_inl hst]; exact e3, e4, e5⟩
  exact main n 0 [] (by omega) (by omega) rfl (by intro y hy; cases hy)
theorem set_all {α : Type} {P : α → Prop} {l : List α} {i : Nat} {a : α} (hl : ∀ x ∈ l, P x) (ha : P a) : ∀ x ∈ l.set i a, P x := by
  intro x hx
  rcases List.mem_or_eq_of_mem_set hx with h | h
  · exact hl x h
  · rw [h]; exact ha
theorem book_s4 (n : Nat) (hn : n ≤ 100) (i : Nat) (hi : i < n) : ∀ (k j : Nat) (l : List T_api_Ins), n + 1 - j = k → j ≤ n + 1 → l.length = n + 1 → (∀ y ∈ l, BookL y) →
    ∃ r, loopO (palingbook_Prog_s4 (n : Int) (i : Int)) ((j : Int), l) = some r ∧ r.length = n + 1 ∧ ∀ y ∈ r, BookL y := by
  intro k
  induction k with
  | zero =>
    intro j l h1 h2 h3 h4
    exact ⟨l, loopO_inr (by simp only [palingbook_Prog_s4]; rw [if_neg (by simp; omega)]), h3, h4⟩
  | succ k ih =>
    intro j l h1 h2 h3 h4
    obtain ⟨t, e1, e2⟩ := label_w (j : Int)
    have hj : j < l.length := by omega
    have hx : l[j]? = some l[j] := by rw [List.getElem?_eq_getElem]
    have hxi : l[i]? = some (l[i]'(by omega)) := by rw [List.getElem?_eq_getElem]
    have hst : ∃ l', palingbook_Prog_s4 (n : Int) (i : Int) ((j : Int), l) = some (.inl ((j : Int) + 1, l')) ∧ l'.length = n + 1 ∧ ∀ y ∈ l', BookL y := by
      simp only [palingbook_Prog_s4]
      rw [if_pos (by simp; omega), e1]
      simp only [Option.bind_some, if_pos (inb_at hxi), rd_at hxi, rd_at hx, inb_at hx, implies_true, if_true]
      unfold palingbook_Prog_j2
      rw [wi (by omega)]
      cases hc : (decide (t = (l[i]'(by omega)).To) && (((l[j].Labels).length : Int) == 0))
      · exact ⟨l, by simp, h3, h4⟩
      · refine ⟨_, by simp only [if_true]; rfl, by simp [h3], ?_⟩
        have hb := h4 l[j] (List.getElem_mem _)
        exact set_all h4 ⟨hb.a, hb.b, hb.to, by simp, fun s hs => by rw [List.mem_singleton.1 hs]; omega⟩
    obtain ⟨l', e3, e4, e5⟩ := hst
    obtain ⟨r, e6, e7, e8⟩ := ih (j + 1) l' (by omega) (by omega) e4 e5
    exact ⟨r, by rw [loopO_inl e3]; exact e6, e7, e8⟩
theorem book_s3 (n : Nat) (hn : n ≤ 100) : ∀ (k j : Nat) (l : List T_api_Ins), n - j = k → j ≤ n → l.length = n + 1 → (∀ y ∈ l, BookL y) →
    ∃ r, loopO (palingbook_Prog_s3 (n : Int)) ((j : Int), l) = some r ∧ r.length = n + 1 ∧ ∀ y ∈ r, BookL y := by
  intro k
  induction k with
  | zero =>
    intro j l h1 h2 h3 h4
    exact ⟨l, loopO_inr (by simp only [palingbook_Prog_s3]; rw [if_neg (by simp; omega)]), h3, h4⟩
  | succ k ih =>
    intro j l h1 h2 h3 h4
    have hx : l[j]? = some (l[j]'(by omega)) := by rw [List.getElem?_eq_getElem]
    have hst : ∃ l', palingbook_Prog_s3 (n : Int) ((j : Int), l) = some (.inl ((j : Int) + 1, l')) ∧ l'.length = n + 1 ∧ ∀ y ∈ l', BookL y := by
      simp only [palingbook_Prog_s3]
      rw [if_pos (by simp; omega), if_pos (inb_at hx)]
      unfold palingbook_Prog_j1
      rw [wi (by omega)]
      split
      · exact ⟨l, rfl, h3, h4⟩
      · obtain ⟨r, e1, e2, e3⟩ := book_s4 n hn j (by omega) (n + 1) 0 l (by omega) (by omega) h3 h4
        have e0 : loopO (palingbook_Prog_s4 (n : Int) (j : Int)) (0, l) = some r := e1
        rw [e0]
        exact ⟨r, rfl, e2, e3⟩
    obtain ⟨l', e3, e4, e5⟩ := hst
    obtain ⟨r, e6, e7, e8⟩ := ih (j + 1) l' (by omega) (by omega) e4 e5
    exact ⟨r, by rw [loopO_inl e3]; exact e6, e7, e8⟩
theorem hlt_ok : BookL (T_api_Ins.mk 14 false 0 (T_api_Opd.mk 0 0 0 0) (T_api_Opd.mk 0 0 0 0) (⟨#[]⟩ : ByteArray) ([])) := ⟨z64, z64, by decide, by decide, by intro s hs; cases hs⟩
theorem book_s1 (p0 : List (List T_palingbook_Act)) (hw : ∀ l ∈ p0, ∀ x ∈ l, W_palingbook_Act x) (p1 p2 : Nat) (h1 : p1 ≤ 100) (h2 : p2 ≤ 90) :
    ∃ r, loopO (palingbook_Prog_s1 p0 (p1 : Int) (p2 : Int)) (0, []) = some r ∧ r.length ≤ p1 ∧ ∀ t ∈ r, ThOk t := by
  have main : ∀ (k j : Nat) (out : List T_api_Thread), p1 - j = k → j ≤ p1 → out.length = j → (∀ y ∈ out, ThOk y) → ∃ r, loopO (palingbook_Prog_s1 p0 (p1 : Int) (p2 : Int)) ((j : Int), out) = some r ∧ r.length ≤ p1 ∧ ∀ y ∈ r, ThOk y := by
    intro k
    induction k with
    | zero =>
      intro j out q1 q2 q3 q4
      exact ⟨out, loopO_inr (by simp only [palingbook_Prog_s1]; rw [if_neg (by simp; omega)]), by omega, q4⟩
    | succ k ih =>
      intro j out q1 q2 q3 q4
      by_cases hj : j < p0.length
      · have hx : p0[j]? = some p0[j] := by rw [List.getElem?_eq_getElem]
        obtain ⟨n, hn, hn1, hn2⟩ : ∃ n : Nat, (if (p2 : Int) < (p0[j].length : Int) then (p2 : Int) else (p0[j].length : Int)) = (n : Int) ∧ n ≤ p0[j].length ∧ n ≤ p2 := by
          split
          · exact ⟨p2, rfl, by omega, Nat.le_refl _⟩
          · exact ⟨p0[j].length, rfl, Nat.le_refl _, by omega⟩
        obtain ⟨r, e1, e2, e3⟩ := book_s2 p0 j p0[j] hx (hw _ (List.getElem_mem _)) n hn1 (by omega)
        obtain ⟨r2, e4, e5, e6⟩ := book_s3 n (by omega) n 0 (r ++ [T_api_Ins.mk 14 false 0 (T_api_Opd.mk 0 0 0 0) (T_api_Opd.mk 0 0 0 0) (⟨#[]⟩ : ByteArray) ([])]) (by omega) (by omega) (by simp [e2]) (fun y hy => by
          rcases List.mem_append.1 hy with h | h
          · exact (e3 y h).l
          · rw [List.mem_singleton.1 h]; exact hlt_ok)
        have e7 : loopO (palingbook_Prog_s3 (n : Int)) (0, (r ++ [T_api_Ins.mk 14 false 0 (T_api_Opd.mk 0 0 0 0) (T_api_Opd.mk 0 0 0 0) (⟨#[]⟩ : ByteArray) ([])])) = some r2 := e4
        have hst : palingbook_Prog_s1 p0 (p1 : Int) (p2 : Int) ((j : Int), out) = some (.inl ((j : Int) + 1, out ++ [T_api_Thread.mk r2])) := by
          simp only [palingbook_Prog_s1]
          rw [if_pos (by simp; omega), if_pos (inb_at hx), rd_at hx, hn]
          simp only [Option.bind_some]
          rw [e1]
          simp only [Option.bind_some]
          rw [if_pos (show Fits (r.length + 1) from by unfold Fits; omega), e7]
          simp only [Option.bind_some]
          rw [if_pos (show Fits (out.length + 1) from by unfold Fits; omega), wi (by omega)]
        obtain ⟨r3, e8, e9, e10⟩ := ih (j + 1) (out ++ [T_api_Thread.mk r2]) (by omega) (by omega) (by simp; omega) (fun t ht => by
          rcases List.mem_append.1 ht with h | h
          · exact q4 t h
          · rw [List.mem_singleton.1 h]
            exact ⟨by show r2.length ≤ 100; omega, fun x hx => (e6 x hx).ok⟩)
        exact ⟨r3, by rw [loopO_inl hst]; exact e8, e9, e10⟩
      · exact ⟨out, loopO_inr (by simp only [palingbook_Prog_s1]; rw [if_neg (by simp; omega)]), by omega, q4⟩
  exact main p1 0 [] (by omega) (by omega) rfl (by intro y hy; cases hy)
def bookSyms : List T_api_Sym := [(T_api_Sym.mk (⟨#[120]⟩ : ByteArray) 1 ([])), (T_api_Sym.mk (⟨#[121]⟩ : ByteArray) 2 ([1])), (T_api_Sym.mk (⟨#[122]⟩ : ByteArray) 1 ([0]))]
theorem bookSyms_ok : ∀ s ∈ bookSyms, SymOk s := by
  intro s hs
  have i1 : I64 1 := by unfold I64; decide
  have i2 : I64 2 := by unfold I64; decide
  unfold bookSyms at hs
  simp only [List.mem_cons, List.mem_nil_iff, or_false] at hs
  rcases hs with rfl | rfl | rfl
  · exact ⟨by decide, by decide, i1, by intro v hv; cases hv⟩
  · exact ⟨by decide, by decide, i2, by intro v hv; rw [List.mem_singleton.1 hv]; exact i1⟩
  · exact ⟨by decide, by decide, i1, by intro v hv; rw [List.mem_singleton.1 hv]; exact z64⟩
theorem book_Prog (p0 : List (List T_palingbook_Act)) (hw : ∀ l ∈ p0, ∀ x ∈ l, W_palingbook_Act x) (p1 p2 : Nat) (h1 : p1 ≤ 100) (h2 : p2 ≤ 90) : ∃ p, palingbook_Prog p0 (p1 : Int) (p2 : Int) = some p ∧ ProgOk p := by
  obtain ⟨r, e1, e2, e3⟩ := book_s1 p0 hw p1 p2 h1 h2
  refine ⟨⟨bookSyms, r⟩, ?_, ⟨by show 3 ≤ 100; omega, by show r.length ≤ 100; omega, bookSyms_ok, e3⟩⟩
  unfold palingbook_Prog
  rw [e1]; rfl
end Go.Vs
