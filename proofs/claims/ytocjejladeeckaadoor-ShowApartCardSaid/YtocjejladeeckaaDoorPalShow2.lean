import Derived.Test.YtocjejladeeckaaDoorPalShow1
/-! Names, operands, instructions: both ways of telling them come to the same. -/
set_option linter.unusedVariables false
set_option linter.unusedSimpArgs false
set_option linter.unusedSectionVars false
namespace Go.Vs
local instance tabPalShow2 : Tab := ⟨fun _ => none⟩
def letB (p0 : Int) : Bool := (((decide (p0 ≥ 97) && decide (p0 ≤ 122)) || (decide (p0 ≥ 65) && decide (p0 ≤ 90))) || (p0 == 95)) || (decide (p0 ≥ 161) && decide (p0 ≤ 1114111))
def digB (p0 : Int) : Bool := decide (p0 ≥ 48) && decide (p0 ≤ 57)
theorem gLet (r : Int) : glyph_Letter r = some (letB r) := rfl
theorem gDig (r : Int) : glyph_Digit r = some (digB r) := rfl
def badN (i : Nat) (x : T_glyph_Spot) : Bool := x.Bad || (!letB x.Rune && ((i == 0) || !digB x.Rune))
def nameOk : Nat → List T_glyph_Spot → Bool
  | _, [] => true
  | i, x :: xs => !badN i x && nameOk (i + 1) xs
def rightS (s : ByteArray) : Bool := (decide (((spots s).length : Int) ≥ 1) && decide (((spots s).length : Int) ≤ 16)) && !wordS s && nameOk 0 (spots s)
theorem foldE_name {R : Type} (fin r0 : R) : ∀ (l : List T_glyph_Spot) (i : Nat), foldE (fun i (_ : Unit) x => if badN i x = true then Sum.inr r0 else .inl ()) (fun _ => fin) i () l = if nameOk i l = true then fin else r0
  | [], i => by simp [foldE, nameOk]
  | x :: xs, i => by
    simp only [foldE, nameOk]
    by_cases hb : badN i x = true
    · simp [hb]
    · simp only [hb, if_false, Bool.false_eq_true]
      rw [foldE_name fin r0 xs (i + 1)]
      simp only [Bool.not_eq_true] at hb
      simp [hb]
theorem spots_len (s : ByteArray) (hs : Sm s) : (spots s).length ≤ 1000000 := by
  have := spotsF_len s s.size 0 1 1
  unfold spots
  unfold Sm at hs
  omega
theorem names_Right_eq (s : ByteArray) (hs : Sm s) : names_Right s = some (rightS s) := by
  have hl := spots_len s hs
  unfold names_Right
  rw [glyph_Spots_eq s hs]
  simp only [Option.bind_some]
  rw [loop_list (spots s) (fun i (_ : Unit) => (i, i)) (names_Right_s1 (spots s)) (fun i _ x => if badN i x = true then .inr (.inr false) else .inl ()) (fun _ => .inl ((spots s).length : Int)) (fun _ _ => True)
    (fun i x hx a _ => ⟨?_, fun _ _ => trivial⟩) (fun a _ => ?_) () trivial]
  · rw [foldE_name]
    unfold rightS
    cases hn : nameOk 0 (spots s)
    · simp [onSum]
    · simp only [if_true, onSum, Bool.and_true]
      rw [names_Word_eq]
      show (if (decide (((spots s).length : Int) ≥ 1) && decide (((spots s).length : Int) ≤ 16)) = true then some (wordS s) else some default).bind (fun v37 => some ((decide (((spots s).length : Int) ≥ 1) && decide (((spots s).length : Int) ≤ 16)) && (!v37))) = _
      cases decide (((spots s).length : Int) ≥ 1) <;> cases decide (((spots s).length : Int) ≤ 16) <;> cases wordS s <;> rfl
  · have hi : i ≤ 1000000 := by have := (List.getElem?_eq_some_iff.1 hx).1; omega
    simp only [names_Right_s1]
    rw [if_pos (lt_at hx), if_pos (inb_at hx), rd_at hx, gLet, wi (by omega)]
    simp only [gDig]
    have e0 : ((i : Int) == 0) = (i == 0) := by cases i <;> rfl
    simp only [e0]
    unfold badN
    cases x.Bad <;> cases letB x.Rune <;> cases (i == 0) <;> cases digB x.Rune <;> rfl
  · simp only [names_Right_s1]
    rw [if_neg (by simp)]
/-! ### Operands -/
def opdB (o : T_api_Opd) : Bool :=
  if o.Kind == 1 then ((decide (o.Reg ≥ 0) && decide (o.Reg ≤ 7)) && (o.Sym == 0)) && (o.N == 0)
  else if o.Kind == 2 then (o.Reg == 0) && (o.Sym == 0)
  else if o.Kind == 3 then (decide (o.Sym ≥ 0) && decide (o.N ≥ 0)) && (o.Reg == 0)
  else if o.Kind == 4 then ((decide (o.Sym ≥ 0) && decide (o.Reg ≥ 0)) && decide (o.Reg ≤ 7)) && (o.N == 0) else false
theorem opnd_Right_eq (o : T_api_Opd) : opnd_Right o = some (opdB o) := by
  unfold opnd_Right opdB opnd_register
  split
  · rfl
  split
  · rfl
  split
  · rfl
  split
  · cases decide (o.Sym ≥ 0) <;> simp
  · rfl
def memB (o : T_api_Opd) : Bool := (o.Kind == 3) || (o.Kind == 4)
theorem opdB_kind {o : T_api_Opd} (h : opdB o = true) : o.Kind = 1 ∨ o.Kind = 2 ∨ o.Kind = 3 ∨ o.Kind = 4 := by
  unfold opdB at h
  split at h
  · rename_i e; exact .inl (by simpa using e)
  split at h
  · rename_i e; exact .inr (.inl (by simpa using e))
  split at h
  · rename_i e; exact .inr (.inr (.inl (by simpa using e)))
  split at h
  · rename_i e; exact .inr (.inr (.inr (by simpa using e)))
  · cases h
def partOf (o : T_api_Opd) : I_opnd_Part :=
  if o.Kind == 1 then .RegPart ⟨o.Reg⟩ else if o.Kind == 2 then .NumPart ⟨o.N⟩ else if o.Kind == 3 then .AtPart ⟨o.Sym, o.N⟩ else .ByPart ⟨o.Sym, o.Reg⟩
theorem opnd_Of_eq (o : T_api_Opd) : opnd_Of o = some (if opdB o = true then (partOf o, true) else (.nil, false)) := by
  unfold opnd_Of partOf
  rw [opnd_Right_eq]
  cases opdB o
  · rfl
  · simp only [Option.bind_some, Bool.not_true, Bool.false_eq_true, if_false, if_true]
    split
    · rfl
    split
    · rfl
    split <;> rfl
theorem ins_register_eq (o : T_api_Opd) : ins_register o = some (opdB o && (o.Kind == 1)) := by
  unfold ins_register
  rw [opnd_Of_eq]
  cases h : opdB o
  · rfl
  · rcases opdB_kind h with e | e | e | e <;> simp [partOf, e]
theorem ins_memory_eq (o : T_api_Opd) : ins_memory o = some (opdB o && memB o) := by
  unfold ins_memory
  rw [opnd_Of_eq]
  cases h : opdB o
  · rfl
  · rcases opdB_kind h with e | e | e | e <;> simp [partOf, e, opnd_Memory, memB]
theorem ins_plain_eq (o : T_api_Opd) : ins_plain o = some (opdB o && !memB o) := by
  unfold ins_plain
  rw [opnd_Right_eq, ins_memory_eq]
  cases opdB o <;> simp
def zeroB (o : T_api_Opd) : Bool := (o.Kind == 0) && ((o.Reg == 0) && ((o.Sym == 0) && (o.N == 0)))
def jumpB (x : T_api_Ins) : Bool := (x.Op == 10) || (x.Op == 11)
def rowB (x : T_api_Ins) : Bool :=
  if decide (x.Op < 1) || decide (x.Op > 9) then (zeroB x.A && zeroB x.B) && !x.Lock
  else if !opdB x.A || !opdB x.B then false
  else if x.Op == 8 then (memB x.A && (x.B.Kind == 1)) && !x.Lock
  else if x.Op == 9 then (memB x.A && (x.B.Kind == 1)) && x.Lock
  else if x.A.Kind == 1 then !x.Lock
  else (memB x.A && !memB x.B) && (!x.Lock || (decide (x.Op ≥ 2) && decide (x.Op ≤ 6)))
def fitsB (x : T_api_Ins) : Bool := (decide (x.Op ≥ 1) && decide (x.Op ≤ 14)) && rowB x
theorem zeroB_eq (o : T_api_Opd) : ((o.Kind == 0) && ((o.Reg == 0) && ((o.Sym == 0) && (o.N == 0)))) = zeroB o := rfl
theorem kind_mem (o : T_api_Opd) : ((o.Kind == 1) && memB o) = false := by
  unfold memB
  by_cases h : o.Kind = 1
  · simp [h]
  · simp [h]
theorem ins_fits_j1_eq (x : T_api_Ins) : ins_fits_j1 x = some (fitsB x) := by
  unfold ins_fits_j1 ins_reckons
  simp only [ins_register_eq, ins_plain_eq, ins_memory_eq, zeroB_eq]
  unfold fitsB rowB
  have hA := kind_mem x.A
  have hB := kind_mem x.B
  generalize opdB x.A = a, opdB x.B = b, (x.A.Kind == 1) = kA, memB x.A = mA, (x.B.Kind == 1) = kB, memB x.B = mB, x.Lock = lk, zeroB x.A = zA, zeroB x.B = zB at hA hB ⊢
  generalize x.Op = op
  have h : op < 1 ∨ op = 1 ∨ op = 2 ∨ op = 3 ∨ op = 4 ∨ op = 5 ∨ op = 6 ∨ op = 7 ∨ op = 8 ∨ op = 9 ∨ op = 10 ∨ op = 11 ∨ op = 12 ∨ op = 13 ∨ op = 14 ∨ op > 14 := by omega
  have hout : op < 1 ∨ op > 14 → (op == 1) = false ∧ (op == 7) = false ∧ (decide (op ≥ 2) && decide (op ≤ 6)) = false ∧ (op == 8) = false ∧ (op == 9) = false ∧ (decide (op ≥ 10) && decide (op ≤ 14)) = false ∧ (decide (op ≥ 1) && decide (op ≤ 14)) = false := by
    intro h
    refine ⟨?_, ?_, ?_, ?_, ?_, ?_, ?_⟩ <;> simp <;> omega
  rcases h with h | rfl | rfl | rfl | rfl | rfl | rfl | rfl | rfl | rfl | rfl | rfl | rfl | rfl | rfl | h
  case inl =>
    obtain ⟨e1, e2, e3, e4, e5, e6, e7⟩ := hout (.inl h)
    simp only [e1, e2, e3, e4, e5, e6, e7]
    cases a <;> cases b <;> cases kA <;> cases mA <;> first | exact absurd hA (by decide) | (cases mB <;> cases lk <;> rfl)
  case inr.inr.inr.inr.inr.inr.inr.inr.inr.inr.inr.inr.inr.inr.inr =>
    obtain ⟨e1, e2, e3, e4, e5, e6, e7⟩ := hout (.inr h)
    simp only [e1, e2, e3, e4, e5, e6, e7]
    cases a <;> cases b <;> cases kA <;> cases mA <;> first | exact absurd hA (by decide) | (cases mB <;> cases lk <;> rfl)
  all_goals
    cases a <;> cases b <;> cases kA <;> cases mA <;> first | exact absurd hA (by decide) | (cases kB <;> cases mB <;> first | exact absurd hB (by decide) | (cases lk <;> cases zA <;> cases zB <;> rfl))
def condB (x : T_api_Ins) : Bool := if x.Op == 11 then decide (x.Cond ≥ 1) && decide (x.Cond ≤ 10) else x.Cond == 0
theorem ins_fits_eq (x : T_api_Ins) : ins_fits x = some (condB x && fitsB x) := by
  unfold ins_fits condB
  rw [ins_fits_j1_eq]
  split
  · by_cases h1 : x.Cond < 1 <;> by_cases h2 : x.Cond > 10 <;> simp [h1, h2] <;> omega
  · by_cases h1 : x.Cond = 0 <;> simp [h1]
def insN (x : T_api_Ins) : Int :=
  if condB x && fitsB x && (jumpB x || decide (x.To = ⟨#[]⟩)) then (if jumpB x && !rightS x.To then 3 else 0) else 4
theorem ins_Right_eq (x : T_api_Ins) (hs : Sm x.To) : ins_Right x = some (insN x) := by
  unfold ins_Right insN
  rw [ins_fits_eq, names_Right_eq _ hs]
  have e : ((x.Op == 10) || (x.Op == 11)) = jumpB x := rfl
  simp only [Option.bind_some, e]
  cases condB x <;> cases fitsB x <;> cases jumpB x <;> cases decide (x.To = ⟨#[]⟩) <;> cases rightS x.To <;> rfl
end Go.Vs
