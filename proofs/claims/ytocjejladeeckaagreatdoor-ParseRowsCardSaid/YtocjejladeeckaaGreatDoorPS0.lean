import Derived.Test.YtocjejladeeckaaGreatDoorPalT
import Derived.Test.YtocjejladeeckaaGreatDoorPalC
import Derived.Test.YtocjejladeeckaaGreatDoorPT1
import Derived.Lib.ItoaLen
set_option linter.all false
section
namespace Go.Vs
end Go.Vs
end
section
namespace Go.Vs
local instance tabPalShow1 : Tab := ⟨fun _ => none⟩
def zeQ {α β R : Type} (f : Nat -> β -> α -> β ⊕ R) (fin : β -> R) : Nat -> β -> List α -> R
 | _, a, [] => fin a
 | i, a, x :: xs => match f i a x with
  | .inl a' => zeQ f fin (i + 1) a' xs
  | .inr r => r
theorem zd5 {α β σ R : Type} (l : List α) (mk : Int -> β -> σ) (step : σ -> Option (σ ⊕ R)) (f : Nat -> β -> α -> β ⊕ R) (fin : β -> R) (Inv : Nat -> β -> Prop)
  (h1 : ∀ (i : Nat) (x : α), l[i]? = some x -> ∀ a, Inv i a -> (step (mk (i : Int) a) = some (match f i a x with | .inl a' => .inl (mk ((i : Int) + 1) a') | .inr r => .inr r)) /\ ∀ a', f i a x = .inl a' -> Inv (i + 1) a')
  (h2 : ∀ a, Inv l.length a -> step (mk (l.length : Int) a) = some (.inr (fin a))) (a0 : β) (h0 : Inv 0 a0) : za4 step (mk 0 a0) = some (zeQ f fin 0 a0 l) := by
 have main : ∀ (suf pre : List α) (a : β), l = pre ++ suf -> Inv pre.length a -> za4 step (mk (pre.length : Int) a) = some (zeQ f fin pre.length a suf) := by
  intro suf
  induction suf with
  | nil =>
   intro pre a e hI
   rw [List.append_nil] at e
   subst e
   exact zaI (h2 a hI)
  | cons x xs ih =>
   intro pre a e hI
   obtain ⟨e1, e2⟩ := h1 pre.length x (by rw [e]; simp) a hI
   cases hf : f pre.length a x with
   | inl a' =>
    rw [hf] at e1
    have := ih (pre ++ [x]) a' (by rw [e]; simp) (by simpa using e2 a' hf)
    rw [zbo e1]
    simp only [zeQ, hf]
    simpa using this
   | inr r =>
    rw [hf] at e1
    rw [zaI e1]
    simp only [zeQ, hf]
 exact main l [] a0 rfl h0
theorem zdG {α : Type} [Inhabited α] {l : List α} {i : Nat} {x : α} (h : l[i]? = some x) : rd l (i : Int) = x := by
 simp [rd, h]
theorem zcR {α : Type} {l : List α} {i : Nat} {x : α} (h : l[i]? = some x) : InB (i : Int) l.length := ⟨by omega, (List.getElem?_eq_some_iff.1 h).1⟩
theorem zhl {α : Type} {l : List α} {i : Nat} {x : α} (h : l[i]? = some x) : decide ((i : Int) < (l.length : Int)) = true := by have := (List.getElem?_eq_some_iff.1 h).1; simpa using this
theorem wi {n : Nat} (h : n <= 1000000000) : IntKind.wrap .i64 ((n : Int) + 1) = (n : Int) + 1 := zbA ⟨by omega, by omega⟩
def fnd (l : List ByteArray) (s : ByteArray) : Option Nat := l.findIdx? (fun x => decide (x = s))
theorem zf8 {R : Type} (l : List ByteArray) (s : ByteArray) (hl : l.length <= 1000000) (g : Int -> R) (step : Int -> Option (Int ⊕ (Unit ⊕ R)))
  (hs : ∀ i, step i = if decide (i < (l.length : Int)) = true then (if InB i l.length then (if decide ((rd l i) = s) = true then (some (.inr (.inr (g i)))) else (some (.inl (IntKind.wrap .i64 (i + 1))))) else none) else (some (.inr (.inl ())))) :
  za4 step 0 = some (match fnd l s with | some i => .inr (g (i : Int)) | none => .inl ()) := by
 unfold fnd
 have main : ∀ (suf pre : List ByteArray), l = pre ++ suf -> za4 step (pre.length : Int) = some (match suf.findIdx? (fun x => decide (x = s)) with | some i => .inr (g ((pre.length + i : Nat) : Int)) | none => .inl ()) := by
  intro suf
  induction suf with
  | nil =>
   intro pre e
   rw [List.append_nil] at e; subst e
   refine zaI ?_
   rw [hs, if_neg (by simp)]; rfl
  | cons x xs ih =>
   intro pre e
   have hx : l[pre.length]? = some x := by rw [e]; simp
   have hlen : pre.length <= 1000000 := by have := (List.getElem?_eq_some_iff.1 hx).1; omega
   have e1 := hs (pre.length : Int)
   rw [if_pos (zhl hx), if_pos (zcR hx), zdG hx] at e1
   rw [List.findIdx?_cons]
   by_cases hd : x = s
   ·rw [if_pos (by simpa using hd)] at e1
    rw [zaI e1]; simp [hd]
   ·rw [if_neg (by simpa using hd), wi (by omega)] at e1
    rw [zbo e1]
    have := ih (pre ++ [x]) (by rw [e]; simp)
    simp only [List.length_append, List.length_cons, List.length_nil, Nat.zero_add] at this
    rw [show ((pre.length : Int) + 1) = ((pre.length + 1 : Nat) : Int) by omega, this]
    simp only [hd, decide_false, Bool.false_eq_true, if_false]
    cases xs.findIdx? (fun x => decide (x = s)) with
    | none => rfl
    | some k => simp only [Option.map_some]; congr 3; omega
 have := main l [] rfl
 simpa using this
theorem zos {l : List ByteArray} {s : ByteArray} : (fnd l s).isSome = l.any (fun x => decide (x = s)) := by
 unfold fnd; rw [List.findIdx?_isSome]
theorem zh1 {l : List ByteArray} {x s : ByteArray} : fnd (x :: l) s = if x = s then some 0 else (fnd l s).map (· + 1) := by
 unfold fnd; rw [List.findIdx?_cons]; simp
theorem zej (l : List ByteArray) (s : ByteArray) (hl : l.length <= 1000000) : zaW l s = some (match fnd l s with | some i => (i : Int) | none => -1) := by
 unfold zaW
 rw [zf8 l s hl (fun i => i) (zdb l s) (fun i => rfl)]
 cases fnd l s <;> rfl
def zfB : List ByteArray := [⟨#[114, 97, 120]⟩, ⟨#[114, 98, 120]⟩, ⟨#[114, 99, 120]⟩, ⟨#[114, 100, 120]⟩, ⟨#[114, 115, 105]⟩, ⟨#[114, 100, 105]⟩, ⟨#[114, 56]⟩, ⟨#[114, 57]⟩]
def opsL : List ByteArray := [⟨#[109, 111, 118]⟩, ⟨#[97, 100, 100]⟩, ⟨#[115, 117, 98]⟩, ⟨#[97, 110, 100]⟩, ⟨#[111, 114]⟩, ⟨#[120, 111, 114]⟩, ⟨#[99, 109, 112]⟩, ⟨#[120, 99, 104, 103]⟩, ⟨#[99, 109, 112, 120, 99, 104, 103]⟩, ⟨#[106, 109, 112]⟩, ⟨#[]⟩, ⟨#[109, 102, 101, 110, 99, 101]⟩, ⟨#[110, 111, 112]⟩, ⟨#[104, 108, 116]⟩]
def zfR : List ByteArray := [⟨#[106, 101]⟩, ⟨#[106, 110, 101]⟩, ⟨#[106, 108]⟩, ⟨#[106, 108, 101]⟩, ⟨#[106, 103]⟩, ⟨#[106, 103, 101]⟩, ⟨#[106, 98]⟩, ⟨#[106, 98, 101]⟩, ⟨#[106, 97]⟩, ⟨#[106, 97, 101]⟩]
theorem zpc : zgh = some zfB := rfl
theorem zqo : zg0 = some opsL := rfl
theorem zom : zfF = some zfR := rfl
theorem zll : zdq = some zfB := rfl
theorem zmJ : zdK = some (⟨#[]⟩ :: opsL) := rfl
theorem zkd : zde = some (⟨#[]⟩ :: zfR) := rfl
def kwB (s : ByteArray) : Bool := (decide (s = (⟨#[115, 121, 109]⟩ : ByteArray)) || decide (s = (⟨#[116, 104, 114, 101, 97, 100]⟩ : ByteArray))) || decide (s = (⟨#[108, 111, 99, 107]⟩ : ByteArray))
def ze7 (s : ByteArray) : Bool := (!decide (s = ⟨#[]⟩)) && (kwB s || (fnd zfB s).isSome || (fnd opsL s).isSome || (fnd zfR s).isSome)
theorem zdX (s : ByteArray) : zd3 s = some (match fnd zfB s with | some i => ((i : Int), true) | none => (0, false)) := by
 unfold zd3
 rw [zpc]
 simp only [Option.bind_some]
 rw [zf8 zfB s (by decide) (fun i => (i, true)) (ze3 zfB s) (fun i => rfl)]
 cases fnd zfB s <;> rfl
theorem zky {l : List ByteArray} {s : ByteArray} {i : Nat} (h : fnd l s = some i) : i < l.length /\ l[i]? = some s := by
 unfold fnd at h
 rw [List.findIdx?_eq_some_iff_getElem] at h
 obtain ⟨h1, h2, _⟩ := h
 exact ⟨h1, by rw [List.getElem?_eq_getElem h1]; simpa using h2⟩
theorem zeK (s : ByteArray) : ze4 s = some (if s = ⟨#[]⟩ then (0, 0, false) else match fnd opsL s with | some i => ((i : Int) + 1, 0, true) | none => match fnd zfR s with | some i => (11, (i : Int) + 1, true) | none => (0, 0, false)) := by
 unfold ze4
 by_cases h0 : s = ⟨#[]⟩
 ·rw [if_pos (by simpa using h0), if_pos h0]
 ·rw [if_neg (by simpa using h0), if_neg h0, zqo]
  simp only [Option.bind_some]
  rw [zf8 opsL s (by decide) (fun i => (IntKind.wrap .i64 (i + 1), 0, true)) (zfH opsL s) (fun i => rfl)]
  cases ho : fnd opsL s with
  | some i =>
   have hi := (zky ho).1
   have hw := wi (n := i) (by simp [opsL] at hi; omega)
   simp only [zbU, Option.bind_some, hw]
  | none =>
   simp only [zbU, Option.bind_some, zom]
   rw [zf8 zfR s (by decide) (fun i => (11, IntKind.wrap .i64 (i + 1), true)) (zfG zfR s) (fun i => rfl)]
   cases hj : fnd zfR s with
   | some i =>
    have hi := (zky hj).1
    have hw := wi (n := i) (by simp [zfR] at hi; omega)
    simp only [zbU, Option.bind_some, hw]
   | none => rfl
theorem zdx (s : ByteArray) : zdk s = some (ze7 s) := by
 unfold zdk
 simp only [Option.bind_some]
 change (if kwB s = true then _ else _) = _
 by_cases h0 : s = ⟨#[]⟩
 ·subst h0
  rw [zdX, zeK]
  rfl
 ·unfold ze7
  simp only [h0, decide_false, Bool.not_false, Bool.true_and]
  by_cases hk : kwB s = true
  ·simp [hk]
  ·rw [if_neg hk, zdX, zeK, if_neg h0]
   simp only [Bool.not_eq_true] at hk
   rw [hk]
   simp only [Option.bind_some, Bool.false_or]
   cases fnd zfB s <;> cases fnd opsL s <;> cases fnd zfR s <;> rfl
theorem zig (s : ByteArray) : zcz s = some (ze7 s) := by
 unfold zcz
 simp only [zll, zmJ, zkd]
 by_cases h0 : s = ⟨#[]⟩
 ·subst h0; rfl
 ·have h0' : (⟨#[]⟩ : ByteArray) ≠ s := fun e => h0 e.symm
  unfold ze7
  change (if (_ && !kwB s) = true then _ else _ : Option _).bind _ = _
  simp only [h0, decide_false, Bool.not_false, Bool.true_and]
  have hk3 : ((decide (s = (⟨#[115, 121, 109]⟩ : ByteArray)) || decide (s = (⟨#[116, 104, 114, 101, 97, 100]⟩ : ByteArray))) || decide (s = (⟨#[108, 111, 99, 107]⟩ : ByteArray))) = kwB s := rfl
  rw [hk3]
  have hge : ∀ i : Nat, decide ((i : Int) ≥ 0) = true := fun i => by simp
  have hgt : ∀ i : Nat, decide (((i + 1 : Nat) : Int) > 0) = true := fun i => by simp
  have hm1 : decide ((-1 : Int) ≥ 0) = false := rfl
  have hm2 : decide ((-1 : Int) > 0) = false := rfl
  cases hk : kwB s
  ·simp only [Bool.not_false, Bool.false_or, if_true, Option.bind_some]
   rw [zej _ _ (by decide)]
   cases hr : fnd zfB s with
   | some i => simp only [Option.bind_some, hge, Bool.true_or, Bool.or_true, Bool.not_true, Bool.false_eq_true, if_false, Option.isSome_some]
   | none =>
    simp only [Option.bind_some, hm1, Bool.false_or, Bool.not_false, if_true]
    rw [zej _ _ (by decide), zh1, if_neg h0']
    cases ho : fnd opsL s with
    | some i => simp only [Option.bind_some, Option.map_some, hgt, Bool.true_or, Bool.or_true, Bool.not_true, Bool.false_eq_true, if_false, Option.isSome_some, Option.isSome_none]
    | none =>
     simp only [Option.bind_some, Option.map_none, hm2, Bool.false_or, Bool.or_false, Bool.not_false, if_true, Option.isSome_none]
     rw [zej _ _ (by decide), zh1, if_neg h0']
     cases hj : fnd zfR s with
     | some i => simp only [Option.bind_some, Option.map_some, hgt, Option.isSome_some]
     | none => rfl
  ·simp
end Go.Vs
end
section
namespace Go.Vs
local instance tabPalShow2 : Tab := ⟨fun _ => none⟩
def letB (p0 : Int) : Bool := (((decide (p0 ≥ 97) && decide (p0 <= 122)) || (decide (p0 ≥ 65) && decide (p0 <= 90))) || (p0 == 95)) || (decide (p0 ≥ 161) && decide (p0 <= 1114111))
def digB (p0 : Int) : Bool := decide (p0 ≥ 48) && decide (p0 <= 57)
theorem gLet (r : Int) : zds r = some (letB r) := rfl
theorem gDig (r : Int) : zdS r = some (digB r) := rfl
def badN (i : Nat) (x : zao) : Bool := x.Bad || (!letB x.Rune && ((i == 0) || !digB x.Rune))
def zi5 : Nat -> List zao -> Bool
 | _, [] => true
 | i, x :: xs => !badN i x && zi5 (i + 1) xs
def zln (s : ByteArray) : Bool := (decide (((zbM s).length : Int) ≥ 1) && decide (((zbM s).length : Int) <= 16)) && !ze7 s && zi5 0 (zbM s)
theorem zjd {R : Type} (fin r0 : R) : ∀ (l : List zao) (i : Nat), zeQ (fun i (_ : Unit) x => if badN i x = true then Sum.inr r0 else .inl ()) (fun _ => fin) i () l = if zi5 i l = true then fin else r0
 | [], i => by simp [zeQ, zi5]
 | x :: xs, i => by
  simp only [zeQ, zi5]
  by_cases hb : badN i x = true
  ·simp [hb]
  ·simp only [hb, if_false, Bool.false_eq_true]
   rw [zjd fin r0 xs (i + 1)]
   simp only [Bool.not_eq_true] at hb
   simp [hb]
theorem zmA (s : ByteArray) (hs : Sm s) : (zbM s).length <= 1000000 := by
 have := zge s s.size 0 1 1
 unfold zbM
 unfold Sm at hs
 omega
theorem ziP (s : ByteArray) (hs : Sm s) : zeJ s = some (zln s) := by
 have hl := zmA s hs
 unfold zeJ
 rw [zgy s hs]
 simp only [Option.bind_some]
 rw [zd5 (zbM s) (fun i (_ : Unit) => (i, i)) (zdl (zbM s)) (fun i _ x => if badN i x = true then .inr (.inr false) else .inl ()) (fun _ => .inl ((zbM s).length : Int)) (fun _ _ => True)
  (fun i x hx a _ => ⟨?_, fun _ _ => trivial⟩) (fun a _ => ?_) () trivial]
 ·rw [zjd]
  unfold zln
  cases hn : zi5 0 (zbM s)
  ·simp [zbU]
  ·simp only [if_true, zbU, Bool.and_true]
   rw [zdx]
   show (if (decide (((zbM s).length : Int) ≥ 1) && decide (((zbM s).length : Int) <= 16)) = true then some (ze7 s) else some default).bind (fun v37 => some ((decide (((zbM s).length : Int) ≥ 1) && decide (((zbM s).length : Int) <= 16)) && (!v37))) = _
   cases decide (((zbM s).length : Int) ≥ 1) <;> cases decide (((zbM s).length : Int) <= 16) <;> cases ze7 s <;> rfl
 ·have hi : i <= 1000000 := by have := (List.getElem?_eq_some_iff.1 hx).1; omega
  simp only [zdl]
  rw [if_pos (zhl hx), if_pos (zcR hx), zdG hx, gLet, wi (by omega)]
  simp only [gDig]
  have e0 : ((i : Int) == 0) = (i == 0) := by cases i <;> rfl
  simp only [e0]
  unfold badN
  cases x.Bad <;> cases letB x.Rune <;> cases (i == 0) <;> cases digB x.Rune <;> rfl
 ·simp only [zdl]
  rw [if_neg (by simp)]
def opdB (o : zar) : Bool :=
 if o.Kind == 1 then ((decide (o.Reg ≥ 0) && decide (o.Reg <= 7)) && (o.Sym == 0)) && (o.N == 0)
 else if o.Kind == 2 then (o.Reg == 0) && (o.Sym == 0)
 else if o.Kind == 3 then (decide (o.Sym ≥ 0) && decide (o.N ≥ 0)) && (o.Reg == 0)
 else if o.Kind == 4 then ((decide (o.Sym ≥ 0) && decide (o.Reg ≥ 0)) && decide (o.Reg <= 7)) && (o.N == 0) else false
theorem zgY (o : zar) : zeu o = some (opdB o) := by
 unfold zeu opdB zd2
 split
 ·rfl
 split
 ·rfl
 split
 ·rfl
 split
 ·cases decide (o.Sym ≥ 0) <;> simp
 ·rfl
theorem zii (o : zar) : zce o = some (opdB o) := by
 unfold zce opdB
 split
 ·rfl
 split
 ·rfl
 split
 ·rfl
 split
 ·rfl
 ·rfl
def memB (o : zar) : Bool := (o.Kind == 3) || (o.Kind == 4)
theorem zil {o : zar} (h : opdB o = true) : o.Kind = 1 \/ o.Kind = 2 \/ o.Kind = 3 \/ o.Kind = 4 := by
 unfold opdB at h
 split at h
 ·rename_i e; exact .inl (by simpa using e)
 split at h
 ·rename_i e; exact .inr (.inl (by simpa using e))
 split at h
 ·rename_i e; exact .inr (.inr (.inl (by simpa using e)))
 split at h
 ·rename_i e; exact .inr (.inr (.inr (by simpa using e)))
 ·cases h
def zlt (o : zar) : zcg :=
 if o.Kind == 1 then .RegPart ⟨o.Reg⟩ else if o.Kind == 2 then .NumPart ⟨o.N⟩ else if o.Kind == 3 then .AtPart ⟨o.Sym, o.N⟩ else .ByPart ⟨o.Sym, o.Reg⟩
theorem zi4 (o : zar) : zhk o = some (if opdB o = true then (zlt o, true) else (.nil, false)) := by
 unfold zhk zlt
 rw [zgY]
 cases opdB o
 ·rfl
 ·simp only [Option.bind_some, Bool.not_true, Bool.false_eq_true, if_false, if_true]
  split
  ·rfl
  split
  ·rfl
  split <;> rfl
theorem zit (o : zar) : zdY o = some (opdB o && (o.Kind == 1)) := by
 unfold zdY
 rw [zi4]
 cases h : opdB o
 ·rfl
 ·rcases zil h with e | e | e | e <;> simp [zlt, e]
theorem zg2 (o : zar) : zdz o = some (opdB o && memB o) := by
 unfold zdz
 rw [zi4]
 cases h : opdB o
 ·rfl
 ·rcases zil h with e | e | e | e <;> simp [zlt, e, zfE, memB]
theorem zkq (o : zar) : zfv o = some (opdB o && !memB o) := by
 unfold zfv
 rw [zgY, zg2]
 cases opdB o <;> simp
def zmr (o : zar) : Bool := (o.Kind == 0) && ((o.Reg == 0) && ((o.Sym == 0) && (o.N == 0)))
def znh (x : zaj) : Bool := (x.Op == 10) || (x.Op == 11)
def rowB (x : zaj) : Bool :=
 if decide (x.Op < 1) || decide (x.Op > 9) then (zmr x.A && zmr x.B) && !x.Lock
 else if !opdB x.A || !opdB x.B then false
 else if x.Op == 8 then (memB x.A && (x.B.Kind == 1)) && !x.Lock
 else if x.Op == 9 then (memB x.A && (x.B.Kind == 1)) && x.Lock
 else if x.A.Kind == 1 then !x.Lock
 else (memB x.A && !memB x.B) && (!x.Lock || (decide (x.Op ≥ 2) && decide (x.Op <= 6)))
theorem zl1 (x : zaj) : zdH x = some (rowB x) := by
 unfold zdH rowB
 simp only [zii]
 split
 ·rfl
 cases ha : opdB x.A
 ·rfl
 cases hb : opdB x.B
 ·rfl
 have hk := zil hb
 simp only [Bool.not_true, Bool.not_false, Option.bind_some, if_true, Bool.or_self, Bool.false_eq_true, if_false, Bool.or_false]
 split
 ·rfl
 split
 ·rfl
 split
 ·unfold zcI zbG
  rcases hk with e | e | e | e <;> simp [e]
 ·unfold zcI zbG zcn memB
  rcases hk with e | e | e | e <;> cases (x.A.Kind == 3) <;> cases (x.A.Kind == 4) <;> cases x.Lock <;> simp [e]
def zmf (x : zaj) : Bool := (decide (x.Op ≥ 1) && decide (x.Op <= 14)) && rowB x
theorem znS (o : zar) : ((o.Kind == 0) && ((o.Reg == 0) && ((o.Sym == 0) && (o.N == 0)))) = zmr o := rfl
theorem zlA (o : zar) : ((o.Kind == 1) && memB o) = false := by
 unfold memB
 by_cases h : o.Kind = 1
 ·simp [h]
 ·simp [h]
theorem ziS (x : zaj) : zef x = some (zmf x) := by
 unfold zef zfJ
 simp only [zit, zkq, zg2, znS]
 unfold zmf rowB
 have hA := zlA x.A
 have hB := zlA x.B
 generalize opdB x.A = a, opdB x.B = b, (x.A.Kind == 1) = kA, memB x.A = mA, (x.B.Kind == 1) = kB, memB x.B = mB, x.Lock = lk, zmr x.A = zA, zmr x.B = zB at hA hB ⊢
 generalize x.Op = op
 have h : op < 1 \/ op = 1 \/ op = 2 \/ op = 3 \/ op = 4 \/ op = 5 \/ op = 6 \/ op = 7 \/ op = 8 \/ op = 9 \/ op = 10 \/ op = 11 \/ op = 12 \/ op = 13 \/ op = 14 \/ op > 14 := by omega
 have hout : op < 1 \/ op > 14 -> (op == 1) = false /\ (op == 7) = false /\ (decide (op ≥ 2) && decide (op <= 6)) = false /\ (op == 8) = false /\ (op == 9) = false /\ (decide (op ≥ 10) && decide (op <= 14)) = false /\ (decide (op ≥ 1) && decide (op <= 14)) = false := by
  intro h
  refine ⟨?_, ?_, ?_, ?_, ?_, ?_, ?_⟩ <;> simp <;> omega
 rcases h with h | rfl | rfl | rfl | rfl | rfl | rfl | rfl | rfl | rfl | rfl | rfl | rfl | rfl | rfl | h
 case inl =>
  obtain ⟨e1, e2, e3, e4, e5, e6, e7⟩ := hout (.inl h)
  simp only [e1, e2, e3, e4, e5, e6, e7]
  cases a <;> cases b <;> cases kA <;> cases mA <;> first | exact absurd hA (by decide) | (cases mB <;> cases lk <;> rfl)
 case inr.inr.inr.inr.inr.inr.inr.inr.inr.inr.inr.inr.inr.inr.inr =>
  obtain ⟨e1, e2, e3, e4, e5, e6, e7⟩ := hout (.inr h)
  simp only [e1, e2, e3, e4, e5, e6, e7]
  cases a <;> cases b <;> cases kA <;> cases mA <;> first | exact absurd hA (by decide) | (cases mB <;> cases lk <;> rfl)
 all_goals
  cases a <;> cases b <;> cases kA <;> cases mA <;> first | exact absurd hA (by decide) | (cases kB <;> cases mB <;> first | exact absurd hB (by decide) | (cases lk <;> cases zA <;> cases zB <;> rfl))
def znD (x : zaj) : Bool := if x.Op == 11 then decide (x.Cond ≥ 1) && decide (x.Cond <= 10) else x.Cond == 0
theorem zk3 (x : zaj) : zg3 x = some (znD x && zmf x) := by
 unfold zg3 znD
 rw [ziS]
 split
 ·by_cases h1 : x.Cond < 1 <;> by_cases h2 : x.Cond > 10 <;> simp [h1, h2] <;> omega
 ·by_cases h1 : x.Cond = 0 <;> simp [h1]
def insN (x : zaj) : Int :=
 if znD x && zmf x && (znh x || decide (x.To = ⟨#[]⟩)) then (if znh x && !zln x.To then 3 else 0) else 4
theorem zks (x : zaj) (hs : Sm x.To) : zf4 x = some (insN x) := by
 unfold zf4 insN
 rw [zk3, ziP _ hs]
 have e : ((x.Op == 10) || (x.Op == 11)) = znh x := rfl
 simp only [Option.bind_some, e]
 cases znD x <;> cases zmf x <;> cases znh x <;> cases decide (x.To = ⟨#[]⟩) <;> cases zln x.To <;> rfl
end Go.Vs
end
section
namespace Go.Vs
open Go.Lib
local instance tabPalShow3 : Tab := ⟨fun _ => none⟩
def zSy (syms : List ByteArray) : Prop := ∀ s ∈ syms, s.size <= 1000000
structure zqR (x : zaj) : Prop where
 to : Sm x.To
 a : I64 x.A.N
 b : I64 x.B.N
end Go.Vs
end
section
namespace Go.Vs
open Go.Lib
local instance tabPalShow4 : Tab := ⟨fun _ => none⟩
def has (l : List ByteArray) (s : ByteArray) : Bool := l.any fun x => decide (x = s)
def seen (l : List ByteArray) : List (ByteArray × Bool) := l.map fun k => (k, true)
theorem zjL {l : List ByteArray} {s : ByteArray} : (fnd l s).isSome = has l s := zos
theorem zoo (l : List ByteArray) (s : ByteArray) (hl : l.length <= 1000000) : ∃ i, zaW l s = some i /\ decide (i ≥ 0) = has l s := by
 refine ⟨_, zej l s hl, ?_⟩
 rw [← zjL]
 cases fnd l s with
 | some i => simp
 | none => rfl
structure zqQ (x : zaj) : Prop extends zqR x where
 n : x.zLb.length <= 100
 to1 : x.To.size <= 1000
 lab : ∀ s ∈ x.zLb, s.size <= 1000
end Go.Vs
end
section
namespace Go.Vs
open Go.Lib
local instance tabPalShow5 : Tab := ⟨fun _ => none⟩
end Go.Vs
end
section
namespace Go.Vs
open Go.Lib
local instance tabPalShow6 : Tab := ⟨fun _ => none⟩
def znx (s : ByteArray) (i : Nat) (_ : Unit) (x : zaj) : Unit ⊕ (Unit ⊕ Int) := if has x.zLb s then .inr (.inr (i : Int)) else .inl ()
theorem zkz (s : ByteArray) : ∀ (xs : List zaj) (i : Nat), (zeQ (znx s) Sum.inl i () xs = .inl () /\ has (xs.flatMap (·.zLb)) s = false) \/ ∃ k : Nat, zeQ (znx s) Sum.inl i () xs = .inr (k : Int) /\ has (xs.flatMap (·.zLb)) s = true
 | [], i => .inl ⟨rfl, rfl⟩
 | x :: xs, i => by
  have hap : has ((x :: xs).flatMap (·.zLb)) s = (has x.zLb s || has (xs.flatMap (·.zLb)) s) := by unfold has; simp
  simp only [zeQ]
  unfold znx
  cases hh : has x.zLb s
  ·rcases zkz s xs (i + 1) with ⟨h1, h2⟩ | ⟨k, h1, h2⟩
   ·exact .inl ⟨h1, by rw [hap, hh, h2]; rfl⟩
   ·exact .inr ⟨k, h1, by rw [hap, hh, h2]; rfl⟩
  ·exact .inr ⟨i, rfl, by rw [hap, hh]; rfl⟩
end Go.Vs
end
