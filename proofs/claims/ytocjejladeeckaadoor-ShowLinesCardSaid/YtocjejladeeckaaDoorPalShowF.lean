import Derived.Test.YtocjejladeeckaaDoorPalShowE
/-! Made programs may be. -/
set_option linter.unusedVariables false
set_option linter.unusedSimpArgs false
set_option linter.unusedSectionVars false
namespace Go.Vs
open Go.Lib
local instance tabPalShowF : Tab := ⟨fun _ => none⟩
def BookT (t : T_api_Thread) : Prop := ∃ (r : List T_api_Ins) (n : Nat) (m : Nat → Bool), r.length = n ∧ n ≤ 98 ∧ (∀ y ∈ r, BookR (n + 1) y) ∧ (∀ q, q ≤ n → (m q = true ↔ Hit (r ++ [hltI]) n 0 q)) ∧ t = ⟨withL (r ++ [hltI]) m⟩
theorem withL_none {o : List T_api_Ins} (h : ∀ y ∈ o, y.Labels = []) : withL o (fun _ => false) = o := by
  refine List.ext_getElem? fun k => ?_
  cases ho : o[k]? with
  | none => unfold withL; rw [List.getElem?_mapIdx, ho]; rfl
  | some y =>
    rw [withL_get ho]
    have := h y (List.mem_of_getElem? ho)
    congr 1
    unfold putL
    simp only [Bool.false_eq_true, if_false]
    rw [← this]
theorem book_s1R (p0 : List (List T_palingbook_Act)) (hw : ∀ l ∈ p0, ∀ x ∈ l, W_palingbook_Act x) (p1 p2 : Nat) (h1 : p1 ≤ 60) (h2 : p2 ≤ 90) :
    ∃ r, loopO (palingbook_Prog_s1 p0 (p1 : Int) (p2 : Int)) (0, []) = some r ∧ r.length ≤ p1 ∧ ∀ t ∈ r, BookT t := by
  have main : ∀ (k j : Nat) (out : List T_api_Thread), p1 - j = k → j ≤ p1 → out.length = j → (∀ y ∈ out, BookT y) → ∃ r, loopO (palingbook_Prog_s1 p0 (p1 : Int) (p2 : Int)) ((j : Int), out) = some r ∧ r.length ≤ p1 ∧ ∀ y ∈ r, BookT y := by
    intro k
    induction k with
    | zero =>
      intro j out q1 q2 q3 q4
      exact ⟨out, loopO_inr (by simp only [palingbook_Prog_s1]; rw [if_neg (by simp; omega)]), by omega, q4⟩
    | succ k ih =>
      intro j out q1 q2 q3 q4
      by_cases hj : j < p0.length
      · have hx : p0[j]? = some p0[j] := by rw [List.getElem?_eq_getElem]
        obtain ⟨n, hn, hn1, hn2⟩ : ∃ n : Nat, (if (p2 : Int) < (p0[j].length : Int) then (p2 : Int) else (p0[j].length : Int)) = (n : Int) ∧ n ≤ p0[j].length ∧ n ≤ p2 := by
          split
          · exact ⟨p2, rfl, by omega, Nat.le_refl _⟩
          · exact ⟨p0[j].length, rfl, Nat.le_refl _, by omega⟩
        obtain ⟨r, e1, e2, e3⟩ := book_s2R p0 j p0[j] hx (hw _ (List.getElem_mem _)) n hn1 (by omega)
        obtain ⟨m, e4, e5⟩ := book_s3R n (by omega) (r ++ [hltI]) (by simp [e2]) n 0 (fun _ => false) (by omega) (by omega)
        rw [withL_none (fun y hy => by
          rcases List.mem_append.1 hy with h | h
          · exact (e3 y h).lab
          · rw [List.mem_singleton.1 h]; rfl)] at e4
        have e7 : loopO (palingbook_Prog_s3 (n : Int)) (0, (r ++ [T_api_Ins.mk 14 false 0 (T_api_Opd.mk 0 0 0 0) (T_api_Opd.mk 0 0 0 0) (⟨#[]⟩ : ByteArray) ([])])) = some (withL (r ++ [hltI]) m) := e4
        have hst : palingbook_Prog_s1 p0 (p1 : Int) (p2 : Int) ((j : Int), out) = some (.inl ((j : Int) + 1, out ++ [T_api_Thread.mk (withL (r ++ [hltI]) m)])) := by
          simp only [palingbook_Prog_s1]
          rw [if_pos (by simp; omega), if_pos (inb_at hx), rd_at hx, hn]
          simp only [Option.bind_some]
          rw [e1]
          simp only [Option.bind_some]
          rw [if_pos (show Fits (r.length + 1) from by unfold Fits; omega), e7]
          simp only [Option.bind_some]
          rw [if_pos (show Fits (out.length + 1) from by unfold Fits; omega), wi (by omega)]
        obtain ⟨r3, e8, e9, e10⟩ := ih (j + 1) (out ++ [T_api_Thread.mk (withL (r ++ [hltI]) m)]) (by omega) (by omega) (by simp; omega) (fun t ht => by
          rcases List.mem_append.1 ht with h | h
          · exact q4 t h
          · rw [List.mem_singleton.1 h]
            exact ⟨r, n, m, e2, by omega, e3, fun q hq => by rw [e5 q hq]; simp, rfl⟩)
        exact ⟨r3, by rw [loopO_inl hst]; exact e8, e9, e10⟩
      · exact ⟨out, loopO_inr (by simp only [palingbook_Prog_s1]; rw [if_neg (by simp; omega)]), by omega, q4⟩
  exact main p1 0 [] (by omega) (by omega) rfl (by intro y hy; cases hy)
theorem sym_zero : foldE symF (fun _ => (.inl () : Unit ⊕ Int)) 0 [] bookSyms = .inl () := by decide +kernel
theorem th_zero (p : T_api_Prog) : ∀ (ts : List T_api_Thread) (k : Nat), (∀ t ∈ ts, threadN p t = 0) → foldE (thF p) (Sum.inl : Unit → Unit ⊕ Int) k () ts = .inl ()
  | [], k, _ => rfl
  | t :: ts, k, h => by
    have : thF p k () t = .inl () := by unfold thF; rw [h t (List.mem_cons_self ..)]; rfl
    simp only [foldE, this]
    exact th_zero p ts (k + 1) fun y hy => h y (List.mem_cons_of_mem _ hy)
theorem book_zero (p0 : List (List T_palingbook_Act)) (hw : ∀ l ∈ p0, ∀ x ∈ l, W_palingbook_Act x) (p1 p2 : Nat) (h1 : p1 ≤ 60) (h2 : p2 ≤ 90) :
    ∃ p, palingbook_Prog p0 (p1 : Int) (p2 : Int) = some p ∧ p.Syms = bookSyms ∧ (∀ t ∈ p.Threads, BookT t) ∧ p.Threads.length ≤ p1 ∧ checkN p = 0 := by
  obtain ⟨r, e1, e2, e3⟩ := book_s1R p0 hw p1 p2 h1 h2
  refine ⟨⟨bookSyms, r⟩, ?_, rfl, e3, e2, ?_⟩
  · unfold palingbook_Prog
    rw [e1]; rfl
  · unfold checkN
    have d : (decide (((bookSyms.length : Nat) : Int) > 64) || decide ((r.length : Int) > 64)) = false := by
      have : decide ((r.length : Int) > 64) = false := by simp; omega
      rw [this]; rfl
    simp only [d, Bool.false_eq_true, if_false, sym_zero]
    rw [th_zero ⟨bookSyms, r⟩ r 0 fun t ht => ?_]
    obtain ⟨r', n, m, q1, q2, q3, q4, rfl⟩ := e3 t ht
    exact thread_zero _ rfl r' n q1 q2 q3 m q4
end Go.Vs
