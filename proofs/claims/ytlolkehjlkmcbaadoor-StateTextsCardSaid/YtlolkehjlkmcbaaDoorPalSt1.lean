import Derived.Test.YtlolkehjlkmcbaaDoorPalC
import Derived.Test.YtlolkehjlkmcbaaDoorPalD
import Derived.Test.YtlolkehjlkmcbaaDoorPalNumb
import Derived.Test.YtlolkehjlkmcbaaDoorPalWf
/-! States: sameness, and whether one is drained. -/
set_option linter.unusedVariables false
set_option linter.unusedSimpArgs false
set_option linter.unusedSectionVars false
namespace Go.Vs
local instance tabPalSt1 : Tab := ⟨fun _ => none⟩
/-! ### Loops over a list -/
def foldE {α β R : Type} (f : Nat → β → α → β ⊕ R) (fin : β → R) : Nat → β → List α → R
  | _, a, [] => fin a
  | i, a, x :: xs => match f i a x with
    | .inl a' => foldE f fin (i + 1) a' xs
    | .inr r => r
theorem loop_list {α β σ R : Type} (l : List α) (mk : Int → β → σ) (step : σ → Option (σ ⊕ R)) (f : Nat → β → α → β ⊕ R) (fin : β → R) (Inv : Nat → β → Prop)
    (h1 : ∀ (i : Nat) (x : α), l[i]? = some x → ∀ a, Inv i a → (step (mk (i : Int) a) = some (match f i a x with | .inl a' => .inl (mk ((i : Int) + 1) a') | .inr r => .inr r)) ∧ ∀ a', f i a x = .inl a' → Inv (i + 1) a')
    (h2 : ∀ a, Inv l.length a → step (mk (l.length : Int) a) = some (.inr (fin a))) (a0 : β) (h0 : Inv 0 a0) : loopO step (mk 0 a0) = some (foldE f fin 0 a0 l) := by
  have main : ∀ (suf pre : List α) (a : β), l = pre ++ suf → Inv pre.length a → loopO step (mk (pre.length : Int) a) = some (foldE f fin pre.length a suf) := by
    intro suf
    induction suf with
    | nil =>
      intro pre a e hI
      rw [List.append_nil] at e
      subst e
      exact loopO_inr (h2 a hI)
    | cons x xs ih =>
      intro pre a e hI
      obtain ⟨e1, e2⟩ := h1 pre.length x (by rw [e]; simp) a hI
      cases hf : f pre.length a x with
      | inl a' =>
        rw [hf] at e1
        have := ih (pre ++ [x]) a' (by rw [e]; simp) (by simpa using e2 a' hf)
        rw [loopO_inl e1]
        simp only [foldE, hf]
        simpa using this
      | inr r =>
        rw [hf] at e1
        rw [loopO_inr e1]
        simp only [foldE, hf]
  exact main l [] a0 rfl h0
theorem rd_at {α : Type} [Inhabited α] {l : List α} {i : Nat} {x : α} (h : l[i]? = some x) : rd l (i : Int) = x := by
  simp [rd, h]
theorem inb_at {α : Type} {l : List α} {i : Nat} {x : α} (h : l[i]? = some x) : InB (i : Int) l.length := ⟨by omega, (List.getElem?_eq_some_iff.1 h).1⟩
theorem lt_at {α : Type} {l : List α} {i : Nat} {x : α} (h : l[i]? = some x) : decide ((i : Int) < (l.length : Int)) = true := by have := (List.getElem?_eq_some_iff.1 h).1; simpa using this
theorem wi {n : Nat} (h : n ≤ 1000000000) : IntKind.wrap .i64 ((n : Int) + 1) = (n : Int) + 1 := wi64_id ⟨by omega, by omega⟩

theorem cmp_loop {α : Type} [DecidableEq α] (a b : List α) (hl : a.length = b.length) (step : Int → Option (Int ⊕ (Unit ⊕ Bool)))
    (hs : ∀ (i : Nat) x y, a[i]? = some x → b[i]? = some y → step (i : Int) = some (if x = y then .inl ((i : Int) + 1) else .inr (.inr false))) (he : step (a.length : Int) = some (.inr (.inl ()))) :
    loopO step 0 = some (if a = b then .inl () else .inr false) := by
  have main : ∀ (n k : Nat), a.length - k = n → k ≤ a.length → loopO step (k : Int) = some (if a.drop k = b.drop k then .inl () else .inr false) := by
    intro n
    induction n with
    | zero =>
      intro k h1 h2
      obtain rfl : k = a.length := by omega
      rw [List.drop_length, hl, List.drop_length, ← hl, loopO_inr he]
      simp
    | succ n ih =>
      intro k h1 h2
      have ha : k < a.length := by omega
      have hb : k < b.length := by omega
      have e := hs k a[k] b[k] (List.getElem?_eq_getElem ha) (List.getElem?_eq_getElem hb)
      rw [List.drop_eq_getElem_cons ha, List.drop_eq_getElem_cons hb]
      by_cases hx : a[k] = b[k]
      · rw [if_pos hx] at e
        rw [loopO_inl e]
        have := ih (k + 1) (by omega) (by omega)
        rw [show ((k + 1 : Nat) : Int) = (k : Int) + 1 by omega] at this
        rw [this, hx]
        simp only [List.cons.injEq, true_and]
      · rw [if_neg hx] at e
        rw [loopO_inr e, if_neg (fun e => hx (List.cons.inj e).1)]
  exact main a.length 0 (by omega) (by omega)
theorem ne_len {α β : Type} {a : List α} {b : List β} : (((a.length : Int) != (b.length : Int)) = true) ↔ a.length ≠ b.length := by
  simp; omega

theorem entry_eq (x y : T_api_Entry) : ((x.Addr == y.Addr) && (x.Val == y.Val)) = decide (x = y) := by
  obtain ⟨a, b⟩ := x; obtain ⟨c, d⟩ := y
  rw [Bool.eq_iff_iff]; simp
theorem thr_eq (x y : T_api_Thr) : ((x.Regs.a0 == y.Regs.a0) && ((x.Regs.a1 == y.Regs.a1) && ((x.Regs.a2 == y.Regs.a2) && ((x.Regs.a3 == y.Regs.a3) && ((x.Regs.a4 == y.Regs.a4) && ((x.Regs.a5 == y.Regs.a5) && ((x.Regs.a6 == y.Regs.a6) && ((x.Regs.a7 == y.Regs.a7) && ((x.Flags.Z == y.Flags.Z) && ((x.Flags.S == y.Flags.S) && ((x.Flags.C == y.Flags.C) && ((x.Flags.O == y.Flags.O) && ((x.PC == y.PC) && ((x.Phase == y.Phase) && ((x.Latch == y.Latch) && (x.Status == y.Status)))))))))))))))) = decide (x = y) := by
  obtain ⟨⟨a0, a1, a2, a3, a4, a5, a6, a7⟩, ⟨z, s, c, o⟩, p, q, l, t⟩ := x; obtain ⟨⟨b0, b1, b2, b3, b4, b5, b6, b7⟩, ⟨z', s', c', o'⟩, p', q', l', t'⟩ := y
  rw [Bool.eq_iff_iff]; simp [T_api_Thr.mk.injEq, A8.mk.injEq, T_api_Flags.mk.injEq, and_assoc]
theorem palingref2_sameInts_eq (a b : List Int) (ha : a.length ≤ 1000000) : palingref2_sameInts a b = some (decide (a = b)) := by
  unfold palingref2_sameInts
  by_cases hl : a.length = b.length
  · rw [if_neg (by rw [ne_len]; simpa using hl), cmp_loop a b hl _ (fun i x y hx hy => ?_) ?_]
    · by_cases e : a = b <;> simp [e, onSum]
    · simp only [palingref2_sameInts_s1]
      rw [if_neg (by simp)]
    · simp only [palingref2_sameInts_s1, Option.bind_some]
      rw [if_pos (lt_at hx), if_pos (inb_at hx), if_pos (inb_at hy), rd_at hx, rd_at hy, wi (by have := (List.getElem?_eq_some_iff.1 hx).1; omega)]
      by_cases e : x = y <;> simp [e]
  · rw [if_pos (ne_len.2 hl)]
    have : a ≠ b := fun e => hl (by rw [e])
    simp [this]
theorem palingref2_SameEntries_eq (a b : List T_api_Entry) (ha : a.length ≤ 1000000) : palingref2_SameEntries a b = some (decide (a = b)) := by
  unfold palingref2_SameEntries
  by_cases hl : a.length = b.length
  · rw [if_neg (by rw [ne_len]; simpa using hl), cmp_loop a b hl _ (fun i x y hx hy => ?_) ?_]
    · by_cases e : a = b <;> simp [e, onSum]
    · simp only [palingref2_SameEntries_s1]
      rw [if_neg (by simp)]
    · simp only [palingref2_SameEntries_s1, Option.bind_some]
      rw [if_pos (lt_at hx), if_pos (inb_at hx), if_pos (inb_at hy), rd_at hx, rd_at hy, wi (by have := (List.getElem?_eq_some_iff.1 hx).1; omega)]
      rw [entry_eq]
      by_cases e : x = y <;> simp [e]
  · rw [if_pos (ne_len.2 hl)]
    have : a ≠ b := fun e => hl (by rw [e])
    simp [this]
theorem state_row_int64_eq (a b : List Int) (ha : a.length ≤ 1000000) : state_row_int64 a b = some (decide (a = b)) := by
  unfold state_row_int64
  by_cases hl : a.length = b.length
  · rw [if_neg (by rw [ne_len]; simpa using hl), cmp_loop a b hl _ (fun i x y hx hy => ?_) ?_]
    · by_cases e : a = b <;> simp [e, onSum]
    · simp only [state_row_int64_s1]
      rw [if_neg (by simp)]
    · simp only [state_row_int64_s1, Option.bind_some]
      rw [if_pos (lt_at hx), if_pos (inb_at hx), if_pos (inb_at hy), rd_at hx, rd_at hy, wi (by have := (List.getElem?_eq_some_iff.1 hx).1; omega)]
      by_cases e : x = y <;> simp [e]
  · rw [if_pos (ne_len.2 hl)]
    have : a ≠ b := fun e => hl (by rw [e])
    simp [this]
theorem state_row_api_Entry_eq (a b : List T_api_Entry) (ha : a.length ≤ 1000000) : state_row_api_Entry a b = some (decide (a = b)) := by
  unfold state_row_api_Entry
  by_cases hl : a.length = b.length
  · rw [if_neg (by rw [ne_len]; simpa using hl), cmp_loop a b hl _ (fun i x y hx hy => ?_) ?_]
    · by_cases e : a = b <;> simp [e, onSum]
    · simp only [state_row_api_Entry_s1]
      rw [if_neg (by simp)]
    · simp only [state_row_api_Entry_s1, Option.bind_some]
      rw [if_pos (lt_at hx), if_pos (inb_at hx), if_pos (inb_at hy), rd_at hx, rd_at hy, wi (by have := (List.getElem?_eq_some_iff.1 hx).1; omega)]
      rw [entry_eq]
      by_cases e : x = y <;> simp [e]
  · rw [if_pos (ne_len.2 hl)]
    have : a ≠ b := fun e => hl (by rw [e])
    simp [this]
theorem state_row_api_Thr_eq (a b : List T_api_Thr) (ha : a.length ≤ 1000000) : state_row_api_Thr a b = some (decide (a = b)) := by
  unfold state_row_api_Thr
  by_cases hl : a.length = b.length
  · rw [if_neg (by rw [ne_len]; simpa using hl), cmp_loop a b hl _ (fun i x y hx hy => ?_) ?_]
    · by_cases e : a = b <;> simp [e, onSum]
    · simp only [state_row_api_Thr_s1]
      rw [if_neg (by simp)]
    · simp only [state_row_api_Thr_s1, Option.bind_some]
      rw [if_pos (lt_at hx), if_pos (inb_at hx), if_pos (inb_at hy), rd_at hx, rd_at hy, wi (by have := (List.getElem?_eq_some_iff.1 hx).1; omega)]
      rw [thr_eq]
      by_cases e : x = y <;> simp [e]
  · rw [if_pos (ne_len.2 hl)]
    have : a ≠ b := fun e => hl (by rw [e])
    simp [this]

structure Tight (s : T_api_State) : Prop where
  mem : s.Mem.length ≤ 30
  thr : s.Thr.length ≤ 8
  buf : s.Bufs.length ≤ 8
  ent : ∀ l ∈ s.Bufs, l.length ≤ 12
structure Small (s : T_api_State) : Prop where
  mem : s.Mem.length ≤ 31
  thr : s.Thr.length ≤ 8
  buf : s.Bufs.length ≤ 9
  ent : ∀ l ∈ s.Bufs, l.length ≤ 13
theorem Tight.small {s : T_api_State} (h : Tight s) : Small s := ⟨by have := h.mem; omega, h.thr, by have := h.buf; omega, fun l hl => by have := h.ent l hl; omega⟩
theorem great_tight (s : T_api_State) : ∃ g, palingbook_GreatState s = some g ∧ (g = false → Tight s) := by
  unfold palingbook_GreatState
  rw [Option.bind_some]
  split
  · exact ⟨true, rfl, fun h => by cases h⟩
  · rename_i h0
    simp only [Bool.or_eq_true, decide_eq_true_eq, not_or] at h0
    have hb : s.Bufs.length ≤ 8 := by omega
    have := loop_list s.Bufs (fun i (_ : Unit) => i) (palingbook_GreatState_s1 s) (fun i _ x => if 12 < x.length then .inr (.inr true) else .inl ()) (fun _ => .inl ()) (fun _ _ => True) (fun i x hx _ _ => ⟨by
      simp only [palingbook_GreatState_s1]
      rw [if_pos (lt_at hx), if_pos (inb_at hx), rd_at hx, wi (by have := (List.getElem?_eq_some_iff.1 hx).1; omega)]
      by_cases e : 12 < x.length
      · rw [if_pos (by simp; omega), if_pos e]
      · rw [if_neg (by simp; omega), if_neg e], fun _ _ => trivial⟩) (fun _ _ => by simp only [palingbook_GreatState_s1]; rw [if_neg (by simp)]) () trivial
    rw [this]
    have key : ∀ (l : List (List T_api_Entry)) (i : Nat), (∃ g, (foldE (fun i (_ : Unit) (x : List T_api_Entry) => if 12 < x.length then (.inr (.inr true) : Unit ⊕ (Unit ⊕ Bool)) else .inl ()) (fun _ => .inl ()) i () l) = .inr g ∧ g = true) ∨ ((foldE (fun i (_ : Unit) (x : List T_api_Entry) => if 12 < x.length then (.inr (.inr true) : Unit ⊕ (Unit ⊕ Bool)) else .inl ()) (fun _ => .inl ()) i () l) = .inl () ∧ ∀ x ∈ l, x.length ≤ 12) := by
      intro l
      induction l with
      | nil => intro i; exact .inr ⟨rfl, by simp⟩
      | cons x l ih =>
        intro i
        by_cases e : 12 < x.length
        · exact .inl ⟨true, by simp only [foldE, if_pos e], rfl⟩
        · rcases ih (i + 1) with ⟨g, h1, h2⟩ | ⟨h1, h2⟩
          · exact .inl ⟨g, by simp only [foldE, if_neg e]; exact h1, h2⟩
          · exact .inr ⟨by simp only [foldE, if_neg e]; exact h1, fun y hy => (List.mem_cons.1 hy).elim (fun h => by subst h; omega) (h2 y)⟩
    rcases key s.Bufs 0 with ⟨g, h1, h2⟩ | ⟨h1, h2⟩
    · rw [h1]; exact ⟨g, rfl, fun h => by rw [h2] at h; cases h⟩
    · rw [h1]; exact ⟨false, rfl, fun _ => ⟨by omega, by omega, by omega, h2⟩⟩
theorem great_eq (s : T_api_State) : ∃ g, palingbook_GreatState s = some g ∧ (g = false → Small s) := by
  obtain ⟨g, h1, h2⟩ := great_tight s
  exact ⟨g, h1, fun h => (h2 h).small⟩
theorem ref_Same_eq (a b : T_api_State) (ha : Small a) : palingref2_Same a b = some (decide (a = b)) := by
  obtain ⟨am, at_, ab, al⟩ := a; obtain ⟨bm, bt, bb, bl⟩ := b
  obtain ⟨h1, h2, h3, h4⟩ := ha
  simp only at h1 h2 h3 h4
  unfold palingref2_Same
  simp only
  rw [palingref2_sameInts_eq _ _ (by omega)]
  simp only [Option.bind_some, T_api_State.mk.injEq]
  by_cases e1 : am = bm
  rotate_left
  · simp [e1]
  by_cases e2 : at_.length = bt.length
  rotate_left
  · have : at_ ≠ bt := fun e => e2 (by rw [e])
    have e3 : ((at_.length : Int) != (bt.length : Int)) = true := ne_len.2 e2
    simp [e1, e3, this]
  by_cases e3 : ab.length = bb.length
  rotate_left
  · have : ab ≠ bb := fun e => e3 (by rw [e])
    have e4 : ((ab.length : Int) != (bb.length : Int)) = true := ne_len.2 e3
    simp [e4, this]
  by_cases e4 : al = bl
  rotate_left
  · simp [e4]
  rw [if_neg (by simp [e1, e2, e3, e4])]
  rw [cmp_loop at_ bt e2 _ (fun i x y hx hy => ?_) ?_]
  · by_cases e5 : at_ = bt
    rotate_left
    · simp [e5, onSum]
    simp only [e5, if_true, Option.bind_some, onSum]
    rw [cmp_loop ab bb e3 _ (fun i x y hx hy => ?_) ?_]
    · by_cases e6 : ab = bb <;> simp [e1, e4, e6, onSum]
    · simp only [palingref2_Same_s2]
      rw [if_neg (by simp)]
    · simp only [palingref2_Same_s2]
      rw [if_pos (lt_at hx), if_pos (inb_at hx), if_pos (inb_at hy), rd_at hx, rd_at hy, wi (by have := (List.getElem?_eq_some_iff.1 hx).1; omega), palingref2_SameEntries_eq _ _ (by have := h4 x (List.mem_of_getElem? hx); omega)]
      by_cases e : x = y <;> simp [e]
  · simp only [palingref2_Same_s1]
    rw [if_neg (by simp)]
  · simp only [palingref2_Same_s1, Option.bind_some]
    rw [if_pos (lt_at hx), if_pos (inb_at hx), if_pos (inb_at hy), rd_at hx, rd_at hy, wi (by have := (List.getElem?_eq_some_iff.1 hx).1; omega), thr_eq]
    by_cases e : x = y <;> simp [e]
theorem st_Same_eq (a b : T_api_State) (ha : Small a) : state_Same a b = some (decide (a = b)) := by
  obtain ⟨am, at_, ab, al⟩ := a; obtain ⟨bm, bt, bb, bl⟩ := b
  obtain ⟨h1, h2, h3, h4⟩ := ha
  simp only at h1 h2 h3 h4
  unfold state_Same
  simp only
  rw [state_row_int64_eq _ _ (by omega), state_row_api_Thr_eq _ _ (by omega)]
  simp only [Option.bind_some, T_api_State.mk.injEq]
  by_cases e1 : am = bm
  rotate_left
  · simp [e1]
  by_cases e2 : at_ = bt
  rotate_left
  · simp [e1, e2]
  by_cases e3 : ab.length = bb.length
  rotate_left
  · have : ab ≠ bb := fun e => e3 (by rw [e])
    have e4 : ((ab.length : Int) != (bb.length : Int)) = true := ne_len.2 e3
    simp [e1, e2, e4, this]
  by_cases e4 : al = bl
  rotate_left
  · simp [e1, e2, e4]
  rw [if_pos (by simp [e1])]
  rw [Option.bind_some, if_neg (by simp [e1, e2, e3, e4])]
  rw [cmp_loop ab bb e3 _ (fun i x y hx hy => ?_) ?_]
  · by_cases e6 : ab = bb <;> simp [e1, e2, e4, e6, onSum]
  · simp only [state_Same_s1]
    rw [if_neg (by simp)]
  · simp only [state_Same_s1]
    rw [if_pos (lt_at hx), if_pos (inb_at hx), if_pos (inb_at hy), rd_at hx, rd_at hy, wi (by have := (List.getElem?_eq_some_iff.1 hx).1; omega), state_row_api_Entry_eq _ _ (by have := h4 x (List.mem_of_getElem? hx); omega)]
    by_cases e : x = y <;> simp [e]
def drB (s : T_api_State) : Bool := s.Bufs.all (fun l => decide (l = [])) && s.Lock == 0
theorem st_Drained_eq (s : T_api_State) (h : s.Bufs.length ≤ 9) : state_Drained s = some (drB s) := by
  unfold state_Drained
  have := loop_list s.Bufs (fun i (_ : Unit) => i) (state_Drained_s1 s) (fun i _ x => if 0 < x.length then .inr (.inr false) else .inl ()) (fun _ => .inl ()) (fun _ _ => True) (fun i x hx _ _ => ⟨by
    simp only [state_Drained_s1]
    rw [if_pos (lt_at hx), if_pos (inb_at hx), rd_at hx, wi (by have := (List.getElem?_eq_some_iff.1 hx).1; omega)]
    by_cases e : 0 < x.length
    · rw [if_pos (by simpa using e), if_pos e]
    · rw [if_neg (by simpa using e), if_neg e], fun _ _ => trivial⟩) (fun _ _ => by simp only [state_Drained_s1]; rw [if_neg (by simp)]) () trivial
  rw [this]
  have key : ∀ (l : List (List T_api_Entry)) (i : Nat), (foldE (fun i (_ : Unit) (x : List T_api_Entry) => if 0 < x.length then (.inr (.inr false) : Unit ⊕ (Unit ⊕ Bool)) else .inl ()) (fun _ => .inl ()) i () l) = if l.all (fun l => decide (l = [])) = true then .inl () else .inr false := by
    intro l
    induction l with
    | nil => intro i; rfl
    | cons x l ih =>
      intro i
      cases x with
      | nil => simp only [foldE]; rw [if_neg (by simp)]; simpa using ih (i + 1)
      | cons y x => simp only [foldE]; rw [if_pos (by simp)]; simp
  rw [key]
  unfold drB
  cases s.Bufs.all (fun l => decide (l = [])) <;> rfl
end Go.Vs
