import Derived.Test.YtocjejladeeckaaDoorPalLex2
import Derived.Test.YtocjejladeeckaaDoorPalD
import Derived.Test.YtocjejladeeckaaDoorPalNumLaws0
/-! Names and words: both ways of telling them come to the same. -/
set_option linter.unusedVariables false
set_option linter.unusedSimpArgs false
set_option linter.unusedSectionVars false
namespace Go.Vs
local instance tabPalShow1 : Tab := ⟨fun _ => none⟩
/-! ### Loops over a list -/
def foldE {α β R : Type} (f : Nat → β → α → β ⊕ R) (fin : β → R) : Nat → β → List α → R
  | _, a, [] => fin a
  | i, a, x :: xs => match f i a x with
    | .inl a' => foldE f fin (i + 1) a' xs
    | .inr r => r
theorem loop_list {α β σ R : Type} (l : List α) (mk : Int → β → σ) (step : σ → Option (σ ⊕ R)) (f : Nat → β → α → β ⊕ R) (fin : β → R) (Inv : Nat → β → Prop)
    (h1 : ∀ (i : Nat) (x : α), l[i]? = some x → ∀ a, Inv i a → (step (mk (i : Int) a) = some (match f i a x with | .inl a' => .inl (mk ((i : Int) + 1) a') | .inr r => .inr r)) ∧ ∀ a', f i a x = .inl a' → Inv (i + 1) a')
    (h2 : ∀ a, Inv l.length a → step (mk (l.length : Int) a) = some (.inr (fin a))) (a0 : β) (h0 : Inv 0 a0) : loopO step (mk 0 a0) = some (foldE f fin 0 a0 l) := by
  have main : ∀ (suf pre : List α) (a : β), l = pre ++ suf → Inv pre.length a → loopO step (mk (pre.length : Int) a) = some (foldE f fin pre.length a suf) := by
    intro suf
    induction suf with
    | nil =>
      intro pre a e hI
      rw [List.append_nil] at e
      subst e
      exact loopO_inr (h2 a hI)
    | cons x xs ih =>
      intro pre a e hI
      obtain ⟨e1, e2⟩ := h1 pre.length x (by rw [e]; simp) a hI
      cases hf : f pre.length a x with
      | inl a' =>
        rw [hf] at e1
        have := ih (pre ++ [x]) a' (by rw [e]; simp) (by simpa using e2 a' hf)
        rw [loopO_inl e1]
        simp only [foldE, hf]
        simpa using this
      | inr r =>
        rw [hf] at e1
        rw [loopO_inr e1]
        simp only [foldE, hf]
  exact main l [] a0 rfl h0
theorem rd_at {α : Type} [Inhabited α] {l : List α} {i : Nat} {x : α} (h : l[i]? = some x) : rd l (i : Int) = x := by
  simp [rd, h]
theorem inb_at {α : Type} {l : List α} {i : Nat} {x : α} (h : l[i]? = some x) : InB (i : Int) l.length := ⟨by omega, (List.getElem?_eq_some_iff.1 h).1⟩
theorem lt_at {α : Type} {l : List α} {i : Nat} {x : α} (h : l[i]? = some x) : decide ((i : Int) < (l.length : Int)) = true := by have := (List.getElem?_eq_some_iff.1 h).1; simpa using this
theorem wi {n : Nat} (h : n ≤ 1000000000) : IntKind.wrap .i64 ((n : Int) + 1) = (n : Int) + 1 := wi64_id ⟨by omega, by omega⟩

/-! ### Looking a text up -/
def fnd (l : List ByteArray) (s : ByteArray) : Option Nat := l.findIdx? (fun x => decide (x = s))
theorem find_loop {R : Type} (l : List ByteArray) (s : ByteArray) (hl : l.length ≤ 1000000) (g : Int → R) (step : Int → Option (Int ⊕ (Unit ⊕ R)))
    (hs : ∀ i, step i = if decide (i < (l.length : Int)) = true then (if InB i l.length then (if decide ((rd l i) = s) = true then (some (.inr (.inr (g i)))) else (some (.inl (IntKind.wrap .i64 (i + 1))))) else none) else (some (.inr (.inl ())))) :
    loopO step 0 = some (match fnd l s with | some i => .inr (g (i : Int)) | none => .inl ()) := by
  unfold fnd
  have main : ∀ (suf pre : List ByteArray), l = pre ++ suf → loopO step (pre.length : Int) = some (match suf.findIdx? (fun x => decide (x = s)) with | some i => .inr (g ((pre.length + i : Nat) : Int)) | none => .inl ()) := by
    intro suf
    induction suf with
    | nil =>
      intro pre e
      rw [List.append_nil] at e; subst e
      refine loopO_inr ?_
      rw [hs, if_neg (by simp)]; rfl
    | cons x xs ih =>
      intro pre e
      have hx : l[pre.length]? = some x := by rw [e]; simp
      have hlen : pre.length ≤ 1000000 := by have := (List.getElem?_eq_some_iff.1 hx).1; omega
      have e1 := hs (pre.length : Int)
      rw [if_pos (lt_at hx), if_pos (inb_at hx), rd_at hx] at e1
      rw [List.findIdx?_cons]
      by_cases hd : x = s
      · rw [if_pos (by simpa using hd)] at e1
        rw [loopO_inr e1]; simp [hd]
      · rw [if_neg (by simpa using hd), wi (by omega)] at e1
        rw [loopO_inl e1]
        have := ih (pre ++ [x]) (by rw [e]; simp)
        simp only [List.length_append, List.length_cons, List.length_nil, Nat.zero_add] at this
        rw [show ((pre.length : Int) + 1) = ((pre.length + 1 : Nat) : Int) by omega, this]
        simp only [hd, decide_false, Bool.false_eq_true, if_false]
        cases xs.findIdx? (fun x => decide (x = s)) with
        | none => rfl
        | some k => simp only [Option.map_some]; congr 3; omega
  have := main l [] rfl
  simpa using this
def regsL : List ByteArray := [⟨#[114, 97, 120]⟩, ⟨#[114, 98, 120]⟩, ⟨#[114, 99, 120]⟩, ⟨#[114, 100, 120]⟩, ⟨#[114, 115, 105]⟩, ⟨#[114, 100, 105]⟩, ⟨#[114, 56]⟩, ⟨#[114, 57]⟩]
def opsL : List ByteArray := [⟨#[109, 111, 118]⟩, ⟨#[97, 100, 100]⟩, ⟨#[115, 117, 98]⟩, ⟨#[97, 110, 100]⟩, ⟨#[111, 114]⟩, ⟨#[120, 111, 114]⟩, ⟨#[99, 109, 112]⟩, ⟨#[120, 99, 104, 103]⟩, ⟨#[99, 109, 112, 120, 99, 104, 103]⟩, ⟨#[106, 109, 112]⟩, ⟨#[]⟩, ⟨#[109, 102, 101, 110, 99, 101]⟩, ⟨#[110, 111, 112]⟩, ⟨#[104, 108, 116]⟩]
def jumpsL : List ByteArray := [⟨#[106, 101]⟩, ⟨#[106, 110, 101]⟩, ⟨#[106, 108]⟩, ⟨#[106, 108, 101]⟩, ⟨#[106, 103]⟩, ⟨#[106, 103, 101]⟩, ⟨#[106, 98]⟩, ⟨#[106, 98, 101]⟩, ⟨#[106, 97]⟩, ⟨#[106, 97, 101]⟩]
theorem regs_eq : names_regs = some regsL := rfl
theorem ops_eq : names_ops = some opsL := rfl
theorem jumps_eq : names_jumps = some jumpsL := rfl
def kwB (s : ByteArray) : Bool := (decide (s = (⟨#[115, 121, 109]⟩ : ByteArray)) || decide (s = (⟨#[116, 104, 114, 101, 97, 100]⟩ : ByteArray))) || decide (s = (⟨#[108, 111, 99, 107]⟩ : ByteArray))
def wordS (s : ByteArray) : Bool := (!decide (s = ⟨#[]⟩)) && (kwB s || (fnd regsL s).isSome || (fnd opsL s).isSome || (fnd jumpsL s).isSome)
theorem names_Reg_eq (s : ByteArray) : names_Reg s = some (match fnd regsL s with | some i => ((i : Int), true) | none => (0, false)) := by
  unfold names_Reg
  rw [regs_eq]
  simp only [Option.bind_some]
  rw [find_loop regsL s (by decide) (fun i => (i, true)) (names_Reg_s1 regsL s) (fun i => rfl)]
  cases fnd regsL s <;> rfl
theorem fnd_lt {l : List ByteArray} {s : ByteArray} {i : Nat} (h : fnd l s = some i) : i < l.length ∧ l[i]? = some s := by
  unfold fnd at h
  rw [List.findIdx?_eq_some_iff_getElem] at h
  obtain ⟨h1, h2, _⟩ := h
  exact ⟨h1, by rw [List.getElem?_eq_getElem h1]; simpa using h2⟩
theorem names_Op_eq (s : ByteArray) : names_Op s = some (if s = ⟨#[]⟩ then (0, 0, false) else match fnd opsL s with | some i => ((i : Int) + 1, 0, true) | none => match fnd jumpsL s with | some i => (11, (i : Int) + 1, true) | none => (0, 0, false)) := by
  unfold names_Op
  by_cases h0 : s = ⟨#[]⟩
  · rw [if_pos (by simpa using h0), if_pos h0]
  · rw [if_neg (by simpa using h0), if_neg h0, ops_eq]
    simp only [Option.bind_some]
    rw [find_loop opsL s (by decide) (fun i => (IntKind.wrap .i64 (i + 1), 0, true)) (names_Op_s1 opsL s) (fun i => rfl)]
    cases ho : fnd opsL s with
    | some i =>
      have hi := (fnd_lt ho).1
      have hw := wi (n := i) (by simp [opsL] at hi; omega)
      simp only [onSum, Option.bind_some, hw]
    | none =>
      simp only [onSum, Option.bind_some, jumps_eq]
      rw [find_loop jumpsL s (by decide) (fun i => (11, IntKind.wrap .i64 (i + 1), true)) (names_Op_s2 jumpsL s) (fun i => rfl)]
      cases hj : fnd jumpsL s with
      | some i =>
        have hi := (fnd_lt hj).1
        have hw := wi (n := i) (by simp [jumpsL] at hi; omega)
        simp only [onSum, Option.bind_some, hw]
      | none => rfl
theorem names_Word_eq (s : ByteArray) : names_Word s = some (wordS s) := by
  unfold names_Word
  simp only [Option.bind_some]
  change (if kwB s = true then _ else _) = _
  by_cases h0 : s = ⟨#[]⟩
  · subst h0
    rw [names_Reg_eq, names_Op_eq]
    rfl
  · unfold wordS
    simp only [h0, decide_false, Bool.not_false, Bool.true_and]
    by_cases hk : kwB s = true
    · simp [hk]
    · rw [if_neg hk, names_Reg_eq, names_Op_eq, if_neg h0]
      simp only [Bool.not_eq_true] at hk
      rw [hk]
      simp only [Option.bind_some, Bool.false_or]
      cases fnd regsL s <;> cases fnd opsL s <;> cases fnd jumpsL s <;> rfl
end Go.Vs
