import Derived.Test.YtocjejladeeckaaDoorPalShow4
/-! What may be, the threads and the whole. -/
set_option linter.unusedVariables false
set_option linter.unusedSimpArgs false
set_option linter.unusedSectionVars false
namespace Go.Vs
open Go.Lib
local instance tabPalShow5 : Tab := ⟨fun _ => none⟩
theorem fold_map {α β R R' : Type} (f : Nat → β → α → β ⊕ R) (g : Nat → β → α → β ⊕ R') (fin : β → R) (fin' : β → R') (q : R → R') (hq : ∀ b, fin' b = q (fin b))
    (hg : ∀ i b x, g i b x = match f i b x with | .inl b' => .inl b' | .inr r => .inr (q r)) : ∀ (l : List α) (i : Nat) (b : β), foldE g fin' i b l = q (foldE f fin i b l)
  | [], i, b => hq b
  | x :: xs, i, b => by
    simp only [foldE, hg]
    cases f i b x with
    | inl b' => exact fold_map f g fin fin' q hq hg xs (i + 1) b'
    | inr r => rfl
theorem valid_ins_step (p : T_api_Prog) (t : T_api_Thread) (i : Nat) (x : T_api_Ins) (hx : t.Ins[i]? = some x) (hk : LabOk x) (L : List ByteArray) (hi : i ≤ 1000000) :
    valid_thread_s1 t p ((i : Int), seen L) = some (match insF p i L x with | .inl L' => .inl ((i : Int) + 1, seen L') | .inr (.inl L') => .inr (.inl (seen L')) | .inr (.inr e) => .inr (.inr e)) := by
  simp only [valid_thread_s1]
  rw [if_pos (lt_at hx), if_pos (inb_at hx), valid_labs t i x hx hk L, rd_at hx, ins_Right_eq _ hk.to]
  unfold insF
  cases hl : labsE L x.Labels with
  | inr e => rfl
  | inl L1 =>
    simp only [Option.bind_some, onSum]
    by_cases hn : insN x = 0
    · obtain ⟨hA, hB⟩ := ins_sym hn
      have e0 : (insN x == 0) = true := by rw [hn]; rfl
      have e1 : (insN x != 0) = false := by rw [hn]; rfl
      rw [valid_place_eq p _ hA]
      simp only [e0, e1, if_true, Bool.false_eq_true, if_false, Option.bind_some]
      unfold valid_thread_j2 valid_thread_j3 valid_thread_j1
      rw [rd_at hx, valid_place_eq p _ hB, wi (by omega)]
      by_cases hA0 : placeN p x.A = 0
      · have f0 : (placeN p x.A == 0) = true := by rw [hA0]; rfl
        have f1 : (placeN p x.A != 0) = false := by rw [hA0]; rfl
        simp only [f0, f1, if_true, Bool.false_eq_true, if_false, Option.bind_some]
        cases (placeN p x.B != 0) <;> rfl
      · have f0 : (placeN p x.A == 0) = false := by simpa using hA0
        have f1 : (placeN p x.A != 0) = true := by simpa using hA0
        simp only [f0, f1, if_true, Bool.false_eq_true, if_false]
    · have e0 : (insN x == 0) = false := by simpa using hn
      have e1 : (insN x != 0) = true := by simpa using hn
      unfold valid_thread_j2 valid_thread_j3
      simp only [e0, e1, if_true, Bool.false_eq_true, if_false]
def qS : List ByteArray ⊕ Int → List (ByteArray × Bool) ⊕ Int
  | .inl L => .inl (seen L)
  | .inr e => .inr e
def insG (p : T_api_Prog) (i : Nat) (L : List ByteArray) (x : T_api_Ins) : List ByteArray ⊕ (List (ByteArray × Bool) ⊕ Int) :=
  match insF p i L x with
  | .inl L' => .inl L'
  | .inr (.inl L') => .inr (.inl (seen L'))
  | .inr (.inr e) => .inr (.inr e)
theorem valid_thread_eq (p : T_api_Prog) (t : T_api_Thread) (ht : ThOk t) : valid_thread p t = some (threadN p t) := by
  have hn := ht.n
  unfold valid_thread threadN
  rw [valid_Count_eq t (by omega)]
  simp only [Option.bind_some]
  split
  · rfl
  have h1 := loop_list t.Ins (fun i (L : List ByteArray) => (i, seen L)) (valid_thread_s1 t p) (insG p) (fun L => .inl (seen L)) (fun _ _ => True)
    (fun i x hx L _ => ⟨by
      rw [valid_ins_step p t i x hx (ht.ins x (List.mem_of_getElem? hx)) L (by have := (List.getElem?_eq_some_iff.1 hx).1; omega)]
      unfold insG
      cases insF p i L x with
      | inl L' => rfl
      | inr r => cases r <;> rfl, fun _ _ => trivial⟩) (fun L _ => by simp only [valid_thread_s1]; rw [if_neg (by simp)]) [] trivial
  have e0 : (([] : List (ByteArray × Bool))) = seen [] := rfl
  rw [e0, h1, fold_map (insF p) (insG p) (Sum.inl : List ByteArray → List ByteArray ⊕ Int) (fun L => .inl (seen L)) qS (fun _ => rfl) (fun i b x => by
    unfold insG
    cases insF p i b x with
    | inl L' => rfl
    | inr r => cases r <;> rfl)]
  cases hf : foldE (insF p) (Sum.inl : List ByteArray → List ByteArray ⊕ Int) 0 [] t.Ins with
  | inr e => rfl
  | inl L =>
    obtain ⟨hL, hz⟩ := insE_spec _ _ _ _ hf
    simp only [Option.bind_some, onSum, qS]
    have hlast : ¬ ((t.Ins.length : Int) == 0) = true → IntKind.wrap .i64 ((t.Ins.length : Int) - 1) = (t.Ins.length : Int) - 1 ∧ InB ((t.Ins.length : Int) - 1) t.Ins.length := fun h => by
      have h0 : t.Ins.length ≠ 0 := by simpa using h
      exact ⟨wi64_id ⟨by omega, by omega⟩, ⟨by omega, by omega⟩⟩
    have hb : ∀ q : Prop, ((!((t.Ins.length : Int) == 0)) = true → q) ↔ (¬ ((t.Ins.length : Int) == 0) = true → q) := fun q => by simp
    have h3 : loopO (valid_thread_s3 t (seen L)) 0 = some (match foldE (leadF L) Sum.inl 0 () t.Ins with | .inl () => .inl () | .inr e => .inr e) := by
      have h4 := loop_list t.Ins (fun i (_ : Unit) => i) (valid_thread_s3 t (seen L)) (leadF L) Sum.inl (fun _ _ => True)
        (fun i x hx a _ => ⟨?_, fun _ _ => trivial⟩) (fun a _ => ?_) () trivial
      · rw [h4]
        cases foldE (leadF L) Sum.inl 0 () t.Ins with
        | inl u => rfl
        | inr e => rfl
      · have hi : i ≤ 1000000 := by have := (List.getElem?_eq_some_iff.1 hx).1; omega
        have hm := List.mem_of_getElem? hx
        have hk := ht.ins x hm
        simp only [valid_thread_s3]
        unfold ins_Leads
        rw [if_pos (lt_at hx), if_pos (inb_at hx), rd_at hx, ins_Right_eq _ hk.to, hz x hm, wi (by omega), mat_seen]
        have ej : ((x.Op == 10) || (x.Op == 11)) = jumpB x := rfl
        have b0 : ((0 : Int) != 0) = false := rfl
        simp only [Option.bind_some, b0, Bool.false_eq_true, if_false, ej]
        unfold leadF
        cases jumpB x <;> cases has L x.To <;> rfl
      · simp only [valid_thread_s3]; rw [if_neg (by simp)]
    rw [h3]
    by_cases hl : ((t.Ins.length : Int) == 0) = true
    · simp only [hl, Bool.true_or, if_true, Bool.not_true, Bool.false_eq_true, false_implies, Bool.false_and]
    · obtain ⟨w1, w2⟩ := hlast hl
      simp only [Bool.not_eq_true] at hl
      rw [w1]
      simp only [hl, w2, implies_true, if_true, Bool.false_or, Bool.not_false, Bool.true_and]
      have : (rd t.Ins ((t.Ins.length : Int) - 1)).Op = lastOp t := rfl
      rw [this]
      split
      · rfl
      · cases foldE (leadF L) Sum.inl 0 () t.Ins with
        | inl u => rfl
        | inr e => rfl
end Go.Vs
