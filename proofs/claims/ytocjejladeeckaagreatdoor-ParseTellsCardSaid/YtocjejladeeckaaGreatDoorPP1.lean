import Derived.Test.YtocjejladeeckaaGreatDoorPS1
import Derived.Test.YtocjejladeeckaaGreatDoorPalK
import Derived.Test.YtocjejladeeckaaGreatDoorPT1
import Derived.Test.YtocjejladeeckaaGreatDoorPalM
import Derived.Test.YtocjejladeeckaaGreatDoorPalJ
set_option linter.all false
section
namespace Go.Vs
local instance tabPalSame : Tab := ⟨fun _ => none⟩
theorem zg2 {α : Type} [DecidableEq α] (a b : List α) (hl : a.length = b.length) (step : Int -> Option (Int ⊕ (Unit ⊕ Bool)))
  (hs : ∀ (i : Nat) x y, a[i]? = some x -> b[i]? = some y -> step (i : Int) = some (if x = y then .inl ((i : Int) + 1) else .inr (.inr false))) (he : step (a.length : Int) = some (.inr (.inl ()))) :
  zba step 0 = some (if a = b then .inl () else .inr false) := by
 have main : ∀ (n k : Nat), a.length - k = n -> k <= a.length -> zba step (k : Int) = some (if a.drop k = b.drop k then .inl () else .inr false) := by
  intro n
  induction n with
  | zero =>
   intro k h1 h2
   obtain rfl : k = a.length := by omega
   rw [List.drop_length, hl, List.drop_length, ← hl, zaO he]
   simp
  | succ n ih =>
   intro k h1 h2
   have ha : k < a.length := by omega
   have hb : k < b.length := by omega
   have e := hs k a[k] b[k] (List.getElem?_eq_getElem ha) (List.getElem?_eq_getElem hb)
   rw [List.drop_eq_getElem_cons ha, List.drop_eq_getElem_cons hb]
   by_cases hx : a[k] = b[k]
   ·rw [if_pos hx] at e
    rw [zbu e]
    have := ih (k + 1) (by omega) (by omega)
    rw [show ((k + 1 : Nat) : Int) = (k : Int) + 1 by omega] at this
    rw [this, hx]
    simp only [List.cons.injEq, true_and]
   ·rw [if_neg hx] at e
    rw [zaO e, if_neg (fun e => hx (List.cons.inj e).1)]
 exact main a.length 0 (by omega) (by omega)
theorem zhv {α β : Type} {a : List α} {b : List β} : (((a.length : Int) != (b.length : Int)) = true) ↔ a.length ≠ b.length := by
 simp; omega
theorem zjS (a b : List ByteArray) (ha : a.length <= 1000000) : zcv a b = some (decide (a = b)) := by
 unfold zcv
 by_cases hl : a.length = b.length
 ·rw [if_neg (by rw [zhv]; simpa using hl), zg2 a b hl _ (fun i x y hx hy => ?_) ?_]
  ·by_cases e : a = b <;> simp [e, zbU]
  ·simp only [zbR]
   rw [if_neg (by simp)]
  ·simp only [zbR]
   rw [if_pos (zhe hx), if_pos (zcR hx), if_pos (zcR hy), zdE hx, zdE hy, wi (by have := (List.getElem?_eq_some_iff.1 hx).1; omega)]
   by_cases e : x = y <;> simp [e]
 ·rw [if_pos (zhv.2 hl)]
  have : a ≠ b := fun e => hl (by rw [e])
  simp [this]
theorem zkH (a b : List Int) (ha : a.length <= 1000000) : zcy a b = some (decide (a = b)) := by
 unfold zcy
 by_cases hl : a.length = b.length
 ·rw [if_neg (by rw [zhv]; simpa using hl), zg2 a b hl _ (fun i x y hx hy => ?_) ?_]
  ·by_cases e : a = b <;> simp [e, zbU]
  ·simp only [zb4]
   rw [if_neg (by simp)]
  ·simp only [zb4]
   rw [if_pos (zhe hx), if_pos (zcR hx), if_pos (zcR hy), zdE hx, zdE hy, wi (by have := (List.getElem?_eq_some_iff.1 hx).1; omega)]
   by_cases e : x = y <;> simp [e]
 ·rw [if_pos (zhv.2 hl)]
  have : a ≠ b := fun e => hl (by rw [e])
  simp [this]
theorem zlL (x y : zap) (hx : x.zLb.length <= 1000000) : zcO x y = some (decide (x = y)) := by
 unfold zcO
 rw [zjS _ _ hx]
 obtain ⟨op, lk, cd, ⟨a1, a2, a3, a4⟩, ⟨b1, b2, b3, b4⟩, to, lb⟩ := x
 obtain ⟨op', lk', cd', ⟨a1', a2', a3', a4'⟩, ⟨b1', b2', b3', b4'⟩, to', lb'⟩ := y
 simp only [zap.mk.injEq, zau.mk.injEq]
 by_cases h1 : op = op' <;> by_cases h2 : lk = lk' <;> by_cases h3 : cd = cd' <;> by_cases h4 : a1 = a1' <;> by_cases h5 : a2 = a2' <;> by_cases h6 : a3 = a3' <;> simp [h1, h2, h3, h4, h5, h6]
 by_cases h7 : a4 = a4' <;> by_cases h8 : b1 = b1' <;> by_cases h9 : b2 = b2' <;> by_cases h10 : b3 = b3' <;> by_cases h11 : b4 = b4' <;> by_cases h12 : to = to' <;> simp [h7, h8, h9, h10, h11, h12]
theorem zkG (p q : zat) (hs : p.zSy.length <= 1000000) (ht : p.zTh.length <= 1000000) (hi : ∀ s ∈ p.zSy, s.Init.length <= 1000000) (hn : ∀ t ∈ p.zTh, t.Ins.length <= 1000000 /\ ∀ x ∈ t.Ins, x.zLb.length <= 1000000) :
  zcA p q = some (decide (p = q)) := by
 obtain ⟨ps, pt⟩ := p
 obtain ⟨qs, qt⟩ := q
 unfold zcA
 simp only [Option.bind_some] at *
 simp only [zat.mk.injEq]
 by_cases h1 : ps.length = qs.length
 rotate_left
 ·have e1 : ((ps.length : Int) != (qs.length : Int)) = true := zhv.2 h1
  rw [e1]
  have : ps ≠ qs := fun e => h1 (by rw [e])
  simp [this]
 by_cases h2 : pt.length = qt.length
 rotate_left
 ·have e1 : ((pt.length : Int) != (qt.length : Int)) = true := zhv.2 h2
  rw [e1]
  have : pt ≠ qt := fun e => h2 (by rw [e])
  simp [this]
 have e1 : ((ps.length : Int) != (qs.length : Int)) = false := by simp [h1]
 have e2 : ((pt.length : Int) != (qt.length : Int)) = false := by simp [h2]
 rw [e1, e2]
 simp only [Bool.or_self, Bool.false_eq_true, if_false]
 rw [zg2 ps qs h1 _ (fun i x y hx hy => ?_) ?_]
 ·by_cases es : ps = qs
  rotate_left
  ·simp [es, zbU]
  simp only [es, if_true, zbU, true_and]
  rw [zg2 pt qt h2 _ (fun i x y hx hy => ?_) ?_]
  ·by_cases et : pt = qt <;> simp [et, zbU]
  ·simp only [zb6]
   rw [if_neg (by simp)]
  ·have hxn := hn x (List.mem_of_getElem? hx)
   simp only [zb6]
   rw [if_pos (zhe hx), if_pos (zcR hx), if_pos (zcR hy), zdE hx, zdE hy]
   by_cases hl : x.Ins.length = y.Ins.length
   ·rw [if_neg (by rw [zhv]; simpa using hl), zg2 x.Ins y.Ins hl _ (fun k u v hu hv => ?_) ?_]
    ·obtain ⟨xi⟩ := x
     obtain ⟨yi⟩ := y
     simp only [zai.mk.injEq, Option.bind_some]
     rw [wi (by have := (List.getElem?_eq_some_iff.1 hx).1; omega)]
     by_cases e : xi = yi <;> simp [e, zbU]
    ·simp only [zb5]
     rw [zdE hx, if_neg (by simp)]
    ·have hun := hxn.2 u (List.mem_of_getElem? hu)
     simp only [zb5]
     rw [zdE hx, zdE hy, if_pos (zhe hu), if_pos (zcR hu), if_pos (zcR hv), zdE hu, zdE hv, zlL _ _ hun]
     simp only [Option.bind_some]
     rw [wi (by have := (List.getElem?_eq_some_iff.1 hu).1; omega)]
     by_cases e : u = v <;> simp [e]
   ·rw [if_pos (zhv.2 hl)]
    have : x ≠ y := fun e => hl (by rw [e])
    simp [this]
 ·simp only [zb7]
  rw [if_neg (by simp)]
 ·have hxn := hi x (List.mem_of_getElem? hx)
  simp only [zb7]
  rw [if_pos (zhe hx), if_pos (zcR hx), if_pos (zcR hy)]
  simp only [zdE hx, zdE hy, zcR hx, zcR hy, implies_true, if_true]
  rw [zkH _ _ hxn, wi (by have := (List.getElem?_eq_some_iff.1 hx).1; omega)]
  obtain ⟨n1, z1, i1⟩ := x
  obtain ⟨n2, z2, i2⟩ := y
  simp only [zaq.mk.injEq]
  by_cases q1 : n1 = n2 <;> by_cases q2 : z1 = z2 <;> by_cases q3 : i1 = i2 <;> simp [q1, q2, q3]
end Go.Vs
end
section
namespace Go.Vs
local instance tabPalP1 : Tab := ⟨fun _ => none⟩
def flt (c : Int) (t : zad) : zao := ⟨c, t.Line, t.Col⟩
structure zcu (T : List zad) : Prop where
 len : T.length <= 100000
 name : ∀ t ∈ T, t.Kind = 1 -> t.Text ≠ ⟨#[]⟩
 next : ∀ (i : Nat), i < T.length -> (rd T (i : Int)).Kind ≠ 4 -> i + 1 < T.length
 txt : ∀ t ∈ T, t.Text.size <= 1000000
abbrev tk (T : List zad) (i : Nat) : zad := rd T (i : Int)
theorem zaP {α : Type} {T : List α} {i : Nat} (h : i < T.length) : InB (i : Int) T.length := ⟨by omega, by simpa using h⟩
theorem zcu.size {T : List zad} (h : zcu T) {i : Nat} (hi : i < T.length) : (tk T i).Text.size <= 1000000 := by
 have : tk T i = T[i] := zdE (List.getElem?_eq_getElem hi)
 rw [this]; exact h.txt _ (List.getElem_mem hi)
theorem zcu.read {T : List zad} (h : zcu T) {i : Nat} (hi : i < T.length) : zdL (tk T i).Text = some (zc5 (tk T i).Text) := zmV (by have := h.size hi; omega)
theorem zcu.rread {T : List zad} (h : zcu T) {i : Nat} (hi : i < T.length) : zbC (tk T i).Text = some (zc5 (tk T i).Text) := ze1 _ (by have := h.size hi; omega)
theorem w1 {i : Nat} (h : i <= 2000010) : IntKind.wrap .i64 ((i : Int) + 1) = ((i + 1 : Nat) : Int) := by rw [zb1 ⟨by omega, by omega⟩]; omega
theorem w2 {i : Nat} (h : i <= 2000010) : IntKind.wrap .i64 ((i : Int) + 2) = ((i + 2 : Nat) : Int) := by rw [zb1 ⟨by omega, by omega⟩]; omega
theorem w3 {i : Nat} (h : i <= 2000010) : IntKind.wrap .i64 ((i : Int) + 3) = ((i + 3 : Nat) : Int) := by rw [zb1 ⟨by omega, by omega⟩]; omega
def zeK (syms : List zaq) : List ByteArray := syms.map (·.Name)
theorem ziS (s : ByteArray) : zdh s = some (match fnd zfz s with | some i => ((i : Int), true) | none => (0, false)) := by
 unfold zdh
 rw [zlc]
 simp only [Option.bind_some]
 rw [zei _ _ (by decide)]
 cases h : fnd zfz s with
 | none => simp
 | some i => simp
theorem zmH (s : ByteArray) : zdu s = ze3 s := by
 rw [zeJ]
 unfold zdu
 by_cases h0 : s = ⟨#[]⟩
 ·simp [h0]
 have h0' : ¬ (⟨#[]⟩ : ByteArray) = s := fun e => h0 e.symm
 rw [zmz, zj3]
 simp only [Option.bind_some, h0, decide_false, Bool.false_eq_true, if_false]
 rw [zei _ _ (by decide), zei _ _ (by decide), zhS, zhS, if_neg h0', if_neg h0']
 cases h1 : fnd opsL s with
 | some i =>
  simp
 | none =>
  simp
  cases h2 : fnd zfN s with
  | some i => simp
  | none => simp
theorem zgL (p : zat) (hn : p.zSy.length <= 1000000) : zcn p = some (zeK p.zSy) := by
 have := zh9 p hn
 exact this
theorem zl2 (l : List ByteArray) (s : ByteArray) (hl : l.length <= 1000000) : zcN l s = some (match fnd l s with | some i => (i : Int) | none => -1) := zei l s hl
theorem zip (R : zae) (s : ByteArray) (hn : R.p.zSy.length <= 1000000) : zcb R s = some (match fnd (zeK R.p.zSy) s with | some i => ((i : Int), true, R) | none => (0, false, R)) := by
 unfold zcb
 have hl : (zeK R.p.zSy).length = R.p.zSy.length := by simp [zeK]
 rw [zf5 (zeK R.p.zSy) s (by omega) (fun i => (i, true, R)) _ (fun i => ?_)]
 ·cases fnd (zeK R.p.zSy) s <;> rfl
 ·simp only [zcE, hl]
  by_cases h : InB i R.p.zSy.length
  ·have e : rd (zeK R.p.zSy) i = (rd R.p.zSy i).Name := by
    unfold zeK rd
    rw [List.getD_eq_getElem?_getD, List.getD_eq_getElem?_getD, List.getElem?_map, List.getElem?_eq_getElem h.2]; rfl
   rw [e]
  ·simp [h]
theorem zpf (R : zae) (s : ByteArray) (hn : R.p.zSy.length <= 1000000) : zdt R s = some (match fnd (zeK R.p.zSy) s with | some i => ((i : Int), true, R) | none => (0, false, R)) := zip R s hn
def sgB (T : List zad) (i : Nat) (s : ByteArray) : Bool := ((tk T i).Kind == 3) && decide ((tk T i).Text = s)
theorem zms (R : zae) (i : Nat) (s : ByteArray) (h : i < R.l.length) : zaZ R (i : Int) s = some (sgB R.l i s, R) := by
 unfold zaZ
 rw [if_pos (zaP h), if_pos (fun _ => zaP h)]; rfl
theorem zfg {l : List zad} {a : Int} {p : zat} {b : List zay} {f : zao} (i : Nat) (s : ByteArray) (h : i < l.length) : zaZ ⟨l, a, p, b, f⟩ (i : Int) s = some (sgB l i s, ⟨l, a, p, b, f⟩) := zms ⟨l, a, p, b, f⟩ i s h
end Go.Vs
end
section
namespace Go.Vs
local instance tabPalP2 : Tab := ⟨fun _ => none⟩
abbrev Res (α : Type) := zao ⊕ (α × Nat)
def idxP (T : List zad) (syms : List zaq) (k i : Nat) : Res zau :=
 if (tk T i).Kind == 2 then
  (if decide ((zc5 (tk T i).Text).1 < 0) || decide ((zc5 (tk T i).Text).1 ≥ (rd syms (k : Int)).Size) then .inl (flt 8 (tk T i)) else .inr (⟨3, 0, k, (zc5 (tk T i).Text).1⟩, i + 1))
 else match fnd zfz (tk T i).Text with
  | some r => if (tk T i).Kind == 1 then .inr (⟨4, r, k, 0⟩, i + 1) else .inl (flt 4 (tk T i))
  | none => .inl (flt 4 (tk T i))
def opdP (T : List zad) (syms : List zaq) (i : Nat) : Res zau :=
 if (tk T i).Kind == 2 then .inr (⟨2, 0, 0, (zc5 (tk T i).Text).1⟩, i + 1)
 else if (tk T i).Kind != 1 then .inl (flt 4 (tk T i))
 else match fnd zfz (tk T i).Text with
  | some r => .inr (⟨1, r, 0, 0⟩, i + 1)
  | none => if ze6 (tk T i).Text then .inl (flt 3 (tk T i)) else match fnd (zeK syms) (tk T i).Text with
   | none => .inl (flt 7 (tk T i))
   | some k => if !sgB T (i + 1) ⟨#[91]⟩ then .inl (flt 4 (tk T (i + 1))) else match idxP T syms k (i + 2) with
    | .inl f => .inl f
    | .inr (o, j) => if !sgB T j ⟨#[93]⟩ then .inl (flt 4 (tk T j)) else .inr (o, j + 1)
theorem zjr {syms : List zaq} {s : ByteArray} {k : Nat} (h : fnd (zeK syms) s = some k) : k < syms.length := by
 have := (zkr h).1
 simpa [zeK] using this
theorem zc4 {T : List zad} {i : Nat} {n : Int} (h : ((tk T i).Kind == n) = true) (hn : n ≠ 4) : (rd T (i : Int)).Kind ≠ 4 := by
 have h' : (rd T (i : Int)).Kind = n := by simpa using h
 omega
theorem zdY {T : List zad} {i : Nat} {s : ByteArray} (h : sgB T i s = true) : (tk T i).Kind ≠ 4 := by
 unfold sgB at h
 simp only [Bool.and_eq_true, beq_iff_eq] at h
 omega
theorem zin {T syms k i o j} (hT : zcu T) (hi : i < T.length) (h : idxP T syms k i = .inr (o, j)) : j = i + 1 /\ j < T.length := by
 unfold idxP at h
 split at h
 ·rename_i h2
  split at h
  ·cases h
  ·cases h
   exact ⟨rfl, hT.next i hi (zc4 h2 (by decide))⟩
 ·split at h
  ·split at h
   ·rename_i h1
    cases h
    exact ⟨rfl, hT.next i hi (zc4 h1 (by decide))⟩
   ·cases h
  ·cases h
theorem zgS {T syms i o j} (hT : zcu T) (hi : i < T.length) (h : opdP T syms i = .inr (o, j)) : i < j /\ j < T.length := by
 unfold opdP at h
 split at h
 ·rename_i h2
  cases h
  exact ⟨by omega, hT.next i hi (zc4 h2 (by decide))⟩
 ·split at h
  ·cases h
  ·rename_i h1
   have hn : i + 1 < T.length := hT.next i hi (zc4 (n := 1) (by simpa using h1) (by decide))
   split at h
   ·cases h; exact ⟨by omega, hn⟩
   ·split at h
    ·cases h
    ·split at h
     ·cases h
     ·split at h
      ·cases h
      ·rename_i hs
       have hs' : sgB T (i + 1) ⟨#[91]⟩ = true := by simpa using hs
       have hn2 : i + 2 < T.length := hT.next (i + 1) hn (zdY hs')
       split at h
       ·cases h
       ·rename_i o' j' hx
        obtain ⟨e, hj⟩ := zin hT hn2 hx
        split at h
        ·cases h
        ·rename_i hs2
         cases h
         exact ⟨by omega, hT.next j' hj (zdY (by simpa using hs2))⟩
def znv (R : zae) (ok : Bool) (R' : zae) (q : zao ⊕ Nat) : Prop := match q with
 | .inl f => ok = false /\ R'.f = f
 | .inr j => ok = true /\ R' = ⟨R.l, (j : Int), R.p, R.b, R.f⟩
def pos {α : Type} : Res α -> zao ⊕ Nat
 | .inl f => .inl f
 | .inr (_, j) => .inr j
theorem znc (R : zae) (x : zap) {i k : Nat} (hT : zcu R.l) (hi : i < R.l.length) (hk : k < R.p.zSy.length) (ha : R.at_ = (i : Int)) :
  ∃ ok R' x', zck R (k : Int) x = some (ok, R', x') /\ znv R ok R' (pos (idxP R.l R.p.zSy k i)) /\ ∀ o j, idxP R.l R.p.zSy k i = .inr (o, j) -> x' = ⟨x.Op, x.Lock, x.Cond, o, x.B, x.To, x.zLb⟩ := by
 have hl := hT.len
 unfold zck idxP
 rw [ha, if_pos (zaP hi), hT.read hi, zdV]
 simp only [Option.bind_some]
 by_cases h2 : ((tk R.l i).Kind == 2) = true
 ·rw [if_pos h2, if_pos h2, if_pos (fun _ => zaP hk)]
  split
  ·exact ⟨_, _, _, rfl, ⟨rfl, rfl⟩, fun o j e => by cases e⟩
  ·exact ⟨_, _, _, rfl, ⟨rfl, by rw [w1 (by omega)]⟩, fun o j e => by cases e; rfl⟩
 ·rw [if_neg h2, if_neg h2]
  cases hr : fnd zfz (tk R.l i).Text with
  | none =>
   simp only [Bool.not_false, Bool.or_true, if_true]
   exact ⟨_, _, _, rfl, ⟨rfl, rfl⟩, fun o j e => by cases e⟩
  | some r =>
   by_cases h1 : (tk R.l i).Kind = 1
   ·simp only [h1, bne_self_eq_false, Bool.not_true, Bool.or_self, Bool.false_eq_true, if_false, beq_self_eq_true, if_true]
    exact ⟨_, _, _, rfl, ⟨rfl, by rw [w1 (by omega)]⟩, fun o j e => by cases e; rfl⟩
   ·have e1 : ((tk R.l i).Kind != 1) = true := by simpa using h1
    have e2 : ((tk R.l i).Kind == 1) = false := by simpa using h1
    simp only [e1, e2, Bool.true_or, if_true, Bool.false_eq_true, if_false]
    exact ⟨_, _, _, rfl, ⟨rfl, rfl⟩, fun o j e => by cases e⟩
theorem znb (R : zae) (x : zap) {i k : Nat} (hT : zcu R.l) (hi : i < R.l.length) (hk : k < R.p.zSy.length) (ha : R.at_ = (i : Int)) :
  ∃ ok R' x', zcj R (k : Int) x = some (ok, R', x') /\ znv R ok R' (pos (idxP R.l R.p.zSy k i)) /\ ∀ o j, idxP R.l R.p.zSy k i = .inr (o, j) -> x' = ⟨x.Op, x.Lock, x.Cond, x.A, o, x.To, x.zLb⟩ := by
 have hl := hT.len
 unfold zcj idxP
 rw [ha, if_pos (zaP hi), hT.read hi, zdV]
 simp only [Option.bind_some]
 by_cases h2 : ((tk R.l i).Kind == 2) = true
 ·rw [if_pos h2, if_pos h2, if_pos (fun _ => zaP hk)]
  split
  ·exact ⟨_, _, _, rfl, ⟨rfl, rfl⟩, fun o j e => by cases e⟩
  ·exact ⟨_, _, _, rfl, ⟨rfl, by rw [w1 (by omega)]⟩, fun o j e => by cases e; rfl⟩
 ·rw [if_neg h2, if_neg h2]
  cases hr : fnd zfz (tk R.l i).Text with
  | none =>
   simp only [Bool.not_false, Bool.or_true, if_true]
   exact ⟨_, _, _, rfl, ⟨rfl, rfl⟩, fun o j e => by cases e⟩
  | some r =>
   by_cases h1 : (tk R.l i).Kind = 1
   ·simp only [h1, bne_self_eq_false, Bool.not_true, Bool.or_self, Bool.false_eq_true, if_false, beq_self_eq_true, if_true]
    exact ⟨_, _, _, rfl, ⟨rfl, by rw [w1 (by omega)]⟩, fun o j e => by cases e; rfl⟩
   ·have e1 : ((tk R.l i).Kind != 1) = true := by simpa using h1
    have e2 : ((tk R.l i).Kind == 1) = false := by simpa using h1
    simp only [e1, e2, Bool.true_or, if_true, Bool.false_eq_true, if_false]
    exact ⟨_, _, _, rfl, ⟨rfl, rfl⟩, fun o j e => by cases e⟩
end Go.Vs
end
section
namespace Go.Vs
local instance tabPalP3 : Tab := ⟨fun _ => none⟩
theorem zm9 (R : zae) (x : zap) {i : Nat} (hT : zcu R.l) (hi : i < R.l.length) (hs : R.p.zSy.length <= 64) (ha : R.at_ = (i : Int)) :
  ∃ ok R' x', zbQ R x = some (ok, R', x') /\ znv R ok R' (pos (opdP R.l R.p.zSy i)) /\ ∀ o j, opdP R.l R.p.zSy i = .inr (o, j) -> x' = ⟨x.Op, x.Lock, x.Cond, o, x.B, x.To, x.zLb⟩ := by
 have hl := hT.len
 unfold zbQ opdP
 rw [ha, if_pos (zaP hi), hT.read hi, zdV, zdw]
 simp only [Option.bind_some]
 by_cases h2 : ((tk R.l i).Kind == 2) = true
 ·rw [if_pos h2, if_pos h2]
  exact ⟨_, _, _, rfl, ⟨rfl, by rw [w1 (by omega)]⟩, fun o j e => by cases e; rfl⟩
 rw [if_neg h2, if_neg h2]
 by_cases h1 : ((tk R.l i).Kind != 1) = true
 ·rw [if_pos h1, if_pos h1]
  exact ⟨_, _, _, rfl, ⟨rfl, rfl⟩, fun o j e => by cases e⟩
 rw [if_neg h1, if_neg h1]
 have hn : i + 1 < R.l.length := hT.next i hi (zc4 (n := 1) (by simpa using h1) (by decide))
 cases hr : fnd zfz (tk R.l i).Text with
 | some r =>
  simp only [if_true]
  exact ⟨_, _, _, rfl, ⟨rfl, by rw [w1 (by omega)]⟩, fun o j e => by cases e; rfl⟩
 | none =>
  simp only [Bool.false_eq_true, if_false]
  cases hw : ze6 (tk R.l i).Text with
  | true =>
   simp only [if_true]
   exact ⟨_, _, _, rfl, ⟨rfl, rfl⟩, fun o j e => by cases e⟩
  | false =>
   simp only [Bool.false_eq_true, if_false]
   rw [zip _ _ (by show R.p.zSy.length <= _; omega)]
   simp only [Option.bind_some]
   cases hf : fnd (zeK R.p.zSy) (tk R.l i).Text with
   | none =>
    simp only [Bool.not_false, if_true]
    exact ⟨_, _, _, rfl, ⟨rfl, rfl⟩, fun o j e => by cases e⟩
   | some k =>
    simp only [Bool.not_true, Bool.false_eq_true, if_false, w1 (show i <= 2000010 by omega)]
    rw [zfg (i + 1) _ hn]
    simp only [Option.bind_some]
    cases hg : sgB R.l (i + 1) ⟨#[91]⟩ with
    | false =>
     simp only [Bool.not_false, if_true]
     rw [if_pos (zaP hn)]
     exact ⟨_, _, _, rfl, ⟨rfl, rfl⟩, fun o j e => by cases e⟩
    | true =>
     have hn2 : i + 2 < R.l.length := hT.next (i + 1) hn (zdY hg)
     simp only [Bool.not_true, Bool.false_eq_true, if_false]
     have hw2 : IntKind.wrap .i64 (((i + 1 : Nat) : Int) + 1) = ((i + 2 : Nat) : Int) := w1 (by omega)
     rw [hw2]
     obtain ⟨ok, R', x', e1, e2, e3⟩ := znc ⟨R.l, ((i + 2 : Nat) : Int), R.p, R.b, R.f⟩ x hT hn2 (zjr hf) rfl
     rw [e1]
     simp only [Option.bind_some]
     cases hx : idxP R.l R.p.zSy k (i + 2) with
     | inl f =>
      rw [show pos (idxP R.l R.p.zSy k (i + 2)) = .inl f by rw [hx]; rfl] at e2
      obtain ⟨rfl, e4⟩ := e2
      simp only [Bool.not_false, if_true]
      exact ⟨_, _, _, rfl, ⟨rfl, e4⟩, fun o j e => by cases e⟩
     | inr q =>
      obtain ⟨o, j⟩ := q
      rw [show pos (idxP R.l R.p.zSy k (i + 2)) = .inr j by rw [hx]; rfl] at e2
      obtain ⟨rfl, rfl⟩ := e2
      obtain ⟨_, hj⟩ := zin hT hn2 hx
      have e5 := e3 o j hx
      subst e5
      simp only [Bool.not_true, Bool.false_eq_true, if_false]
      rw [zfg j _ hj]
      simp only [Option.bind_some]
      cases hg2 : sgB R.l j ⟨#[93]⟩ with
      | false =>
       simp only [Bool.not_false, if_true]
       rw [if_pos (zaP hj)]
       exact ⟨_, _, _, rfl, ⟨rfl, rfl⟩, fun o j e => by cases e⟩
      | true =>
       simp only [Bool.not_true, Bool.false_eq_true, if_false]
       exact ⟨_, _, _, rfl, ⟨rfl, by rw [w1 (by omega)]⟩, fun o' j' e => by cases e; rfl⟩
theorem zm8 (R : zae) (x : zap) {i : Nat} (hT : zcu R.l) (hi : i < R.l.length) (hs : R.p.zSy.length <= 64) (ha : R.at_ = (i : Int)) :
  ∃ ok R' x', zbP R x = some (ok, R', x') /\ znv R ok R' (pos (opdP R.l R.p.zSy i)) /\ ∀ o j, opdP R.l R.p.zSy i = .inr (o, j) -> x' = ⟨x.Op, x.Lock, x.Cond, x.A, o, x.To, x.zLb⟩ := by
 have hl := hT.len
 unfold zbP opdP
 rw [ha, if_pos (zaP hi), hT.read hi, zdV, zdw]
 simp only [Option.bind_some]
 by_cases h2 : ((tk R.l i).Kind == 2) = true
 ·rw [if_pos h2, if_pos h2]
  exact ⟨_, _, _, rfl, ⟨rfl, by rw [w1 (by omega)]⟩, fun o j e => by cases e; rfl⟩
 rw [if_neg h2, if_neg h2]
 by_cases h1 : ((tk R.l i).Kind != 1) = true
 ·rw [if_pos h1, if_pos h1]
  exact ⟨_, _, _, rfl, ⟨rfl, rfl⟩, fun o j e => by cases e⟩
 rw [if_neg h1, if_neg h1]
 have hn : i + 1 < R.l.length := hT.next i hi (zc4 (n := 1) (by simpa using h1) (by decide))
 cases hr : fnd zfz (tk R.l i).Text with
 | some r =>
  simp only [if_true]
  exact ⟨_, _, _, rfl, ⟨rfl, by rw [w1 (by omega)]⟩, fun o j e => by cases e; rfl⟩
 | none =>
  simp only [Bool.false_eq_true, if_false]
  cases hw : ze6 (tk R.l i).Text with
  | true =>
   simp only [if_true]
   exact ⟨_, _, _, rfl, ⟨rfl, rfl⟩, fun o j e => by cases e⟩
  | false =>
   simp only [Bool.false_eq_true, if_false]
   rw [zip _ _ (by show R.p.zSy.length <= _; omega)]
   simp only [Option.bind_some]
   cases hf : fnd (zeK R.p.zSy) (tk R.l i).Text with
   | none =>
    simp only [Bool.not_false, if_true]
    exact ⟨_, _, _, rfl, ⟨rfl, rfl⟩, fun o j e => by cases e⟩
   | some k =>
    simp only [Bool.not_true, Bool.false_eq_true, if_false, w1 (show i <= 2000010 by omega)]
    rw [zfg (i + 1) _ hn]
    simp only [Option.bind_some]
    cases hg : sgB R.l (i + 1) ⟨#[91]⟩ with
    | false =>
     simp only [Bool.not_false, if_true]
     rw [if_pos (zaP hn)]
     exact ⟨_, _, _, rfl, ⟨rfl, rfl⟩, fun o j e => by cases e⟩
    | true =>
     have hn2 : i + 2 < R.l.length := hT.next (i + 1) hn (zdY hg)
     simp only [Bool.not_true, Bool.false_eq_true, if_false]
     have hw2 : IntKind.wrap .i64 (((i + 1 : Nat) : Int) + 1) = ((i + 2 : Nat) : Int) := w1 (by omega)
     rw [hw2]
     obtain ⟨ok, R', x', e1, e2, e3⟩ := znb ⟨R.l, ((i + 2 : Nat) : Int), R.p, R.b, R.f⟩ x hT hn2 (zjr hf) rfl
     rw [e1]
     simp only [Option.bind_some]
     cases hx : idxP R.l R.p.zSy k (i + 2) with
     | inl f =>
      rw [show pos (idxP R.l R.p.zSy k (i + 2)) = .inl f by rw [hx]; rfl] at e2
      obtain ⟨rfl, e4⟩ := e2
      simp only [Bool.not_false, if_true]
      exact ⟨_, _, _, rfl, ⟨rfl, e4⟩, fun o j e => by cases e⟩
     | inr q =>
      obtain ⟨o, j⟩ := q
      rw [show pos (idxP R.l R.p.zSy k (i + 2)) = .inr j by rw [hx]; rfl] at e2
      obtain ⟨rfl, rfl⟩ := e2
      obtain ⟨_, hj⟩ := zin hT hn2 hx
      have e5 := e3 o j hx
      subst e5
      simp only [Bool.not_true, Bool.false_eq_true, if_false]
      rw [zfg j _ hj]
      simp only [Option.bind_some]
      cases hg2 : sgB R.l j ⟨#[93]⟩ with
      | false =>
       simp only [Bool.not_false, if_true]
       rw [if_pos (zaP hj)]
       exact ⟨_, _, _, rfl, ⟨rfl, rfl⟩, fun o j e => by cases e⟩
      | true =>
       simp only [Bool.not_true, Bool.false_eq_true, if_false]
       exact ⟨_, _, _, rfl, ⟨rfl, by rw [w1 (by omega)]⟩, fun o' j' e => by cases e; rfl⟩
end Go.Vs
end
section
namespace Go.Vs
local instance tabPalP4 : Tab := ⟨fun _ => none⟩
def zpr (Q : zaa) (ok : Bool) (Q' : zaa) (q : zao ⊕ Nat) : Prop := match q with
 | .inl f => ok = false /\ Q'.Bad = f
 | .inr j => ok = true /\ Q' = ⟨Q.T, (j : Int), Q.P, Q.zHd, Q.First, Q.To, Q.Left, Q.All, Q.Wait, Q.Bad⟩
def zgD (T : List zad) (i : Nat) : Option zao := if (tk T i).Kind != 1 then some (flt 4 (tk T i)) else if ze6 (tk T i).Text then some (flt 3 (tk T i)) else none
theorem ziR (Q : zaa) {i : Nat} (hi : i < Q.T.length) (ha : Q.I = (i : Int)) :
  ∃ ok Q', zbn Q = some (ok, Q') /\ match zgD Q.T i with | some f => ok = false /\ Q'.Bad = f | none => ok = true /\ Q' = Q := by
 unfold zbn zgD
 rw [ha, if_pos (zaP hi), zh8]
 simp only [Option.bind_some]
 by_cases h1 : ((tk Q.T i).Kind != 1) = true
 ·rw [if_pos h1, if_pos h1]
  exact ⟨_, _, rfl, rfl, rfl⟩
 rw [if_neg h1, if_neg h1]
 cases hw : ze6 (tk Q.T i).Text with
 | true => exact ⟨_, _, rfl, rfl, rfl⟩
 | false => exact ⟨_, _, rfl, rfl, by rw [← ha]⟩
theorem zlf (Q : zaa) {i : Nat} (hi : i < Q.T.length) (ha : Q.I = (i : Int)) :
  ∃ ok Q', zbz Q = some (ok, Q') /\ match zgD Q.T i with | some f => ok = false /\ Q'.Bad = f | none => ok = true /\ Q' = Q := by
 unfold zbz zgD
 rw [ha, if_pos (zaP hi), zh8]
 simp only [Option.bind_some]
 by_cases h1 : ((tk Q.T i).Kind != 1) = true
 ·rw [if_pos h1, if_pos h1]
  exact ⟨_, _, rfl, rfl, rfl⟩
 rw [if_neg h1, if_neg h1]
 cases hw : ze6 (tk Q.T i).Text with
 | true => exact ⟨_, _, rfl, rfl, rfl⟩
 | false => exact ⟨_, _, rfl, rfl, rfl⟩
theorem zoU {T : List zad} {i : Nat} {s : ByteArray} : (((tk T i).Kind != 3) || (!decide ((tk T i).Text = s))) = !sgB T i s := by
 unfold sgB
 cases h : ((tk T i).Kind == 3) <;> simp [bne, h]
theorem zlT (v8 : Bool × zaa) (p0 : zaa) (v13 a b c : Int) {i : Nat} (hT : zcu v8.2.T) (hi : i + 3 < v8.2.T.length) (ha : v8.2.I = (i : Int)) :
  ∃ o ok Q', zaX v8 p0 v13 a b c = some (o, ok, Q') /\ (if sgB v8.2.T (i + 3) ⟨#[93]⟩ then o = ⟨a, b, v13, c⟩ /\ ok = true /\ Q' = ⟨v8.2.T, ((i + 4 : Nat) : Int), v8.2.P, v8.2.zHd, v8.2.First, v8.2.To, v8.2.Left, v8.2.All, p0.Wait, v8.2.Bad⟩ else ok = false /\ Q'.Bad = flt 4 (tk v8.2.T (i + 3))) := by
 have hl := hT.len
 have e1 : IntKind.wrap .i64 ((i : Int) + 1) = ((i + 1 : Nat) : Int) := w1 (by omega)
 have e2 : IntKind.wrap .i64 (((i + 1 : Nat) : Int) + 1) = ((i + 2 : Nat) : Int) := w1 (by omega)
 have e3 : IntKind.wrap .i64 (((i + 2 : Nat) : Int) + 1) = ((i + 3 : Nat) : Int) := w1 (by omega)
 have e4 : IntKind.wrap .i64 (((i + 3 : Nat) : Int) + 1) = ((i + 4 : Nat) : Int) := w1 (by omega)
 unfold zaX
 rw [ha, e1, e2, e3]
 simp only [Option.bind_some]
 rw [if_pos (zaP hi), if_pos (fun _ => zaP hi), zoU, e4]
 cases hg : sgB v8.2.T (i + 3) ⟨#[93]⟩ with
 | false =>
  simp only [Bool.not_false, if_true]
  rw [if_pos (zaP hi)]
  exact ⟨_, _, _, rfl, rfl, rfl⟩
 | true =>
  simp only [Bool.not_true, Bool.false_eq_true, if_false]
  exact ⟨_, _, _, rfl, rfl, rfl, rfl⟩
theorem zmC (Q : zaa) {i : Nat} (hT : zcu Q.T) (hi : i < Q.T.length) (hs : Q.P.zSy.length <= 64) (ha : Q.I = (i : Int)) :
  ∃ o ok Q', za8 Q = some (o, ok, Q') /\ zpr Q ok Q' (pos (opdP Q.T Q.P.zSy i)) /\ ∀ o' j, opdP Q.T Q.P.zSy i = .inr (o', j) -> o = o' := by
 have hl := hT.len
 unfold za8 opdP
 rw [ha, if_pos (zaP hi), hT.rread hi, ziS]
 simp only [Option.bind_some]
 by_cases h2 : ((tk Q.T i).Kind == 2) = true
 ·rw [if_pos h2, if_pos h2]
  exact ⟨_, _, _, rfl, ⟨rfl, by rw [w1 (by omega)]⟩, fun o j e => by cases e; rfl⟩
 rw [if_neg h2, if_neg h2]
 obtain ⟨ok, Q', en, hn⟩ := ziR ⟨Q.T, (i : Int), Q.P, Q.zHd, Q.First, Q.To, Q.Left, Q.All, Q.Wait, Q.Bad⟩ hi rfl
 rw [en]
 unfold zgD at hn
 by_cases h1 : ((tk Q.T i).Kind != 1) = true
 ·rw [if_pos h1]
  have h1' : ((tk Q.T i).Kind == 1) = false := by simpa [bne] using h1
  rw [if_pos h1] at hn
  obtain ⟨rfl, hb⟩ := hn
  simp only [h1', Bool.and_false, Bool.false_eq_true, if_false, Option.bind_some, Bool.not_false, if_true]
  exact ⟨_, _, _, rfl, ⟨rfl, hb⟩, fun o j e => by cases e⟩
 rw [if_neg h1]
 have h1' : ((tk Q.T i).Kind == 1) = true := by simpa [bne] using h1
 rw [if_neg h1] at hn
 have hn1 : i + 1 < Q.T.length := hT.next i hi (zc4 h1' (by decide))
 cases hr : fnd zfz (tk Q.T i).Text with
 | some r =>
  simp only [h1', Bool.and_true, if_true]
  exact ⟨_, _, _, rfl, ⟨rfl, by rw [w1 (by omega)]⟩, fun o j e => by cases e; rfl⟩
 | none =>
  simp only [Bool.false_and, Bool.false_eq_true, if_false, Option.bind_some]
  cases hw : ze6 (tk Q.T i).Text with
  | true =>
   rw [if_pos hw] at hn
   obtain ⟨rfl, hb⟩ := hn
   simp only [Bool.not_false, if_true]
   exact ⟨_, _, _, rfl, ⟨rfl, hb⟩, fun o j e => by cases e⟩
  | false =>
   rw [if_neg (by rw [hw]; decide)] at hn
   obtain ⟨rfl, rfl⟩ := hn
   simp only [Bool.not_true, Bool.false_eq_true, if_false]
   rw [zgL _ (by show Q.P.zSy.length <= _; omega)]
   simp only [Option.bind_some]
   rw [zei _ _ (by show (zeK Q.P.zSy).length <= _; simp [zeK]; omega)]
   simp only [Option.bind_some]
   cases hf : fnd (zeK Q.P.zSy) (tk Q.T i).Text with
   | none =>
    simp only [show decide ((-1 : Int) < 0) = true from rfl, if_true]
    exact ⟨_, _, _, rfl, ⟨rfl, rfl⟩, fun o j e => by cases e⟩
   | some k =>
    have hk := zjr hf
    have hk0 : decide ((k : Int) < 0) = false := by simp
    have e1 : IntKind.wrap .i64 ((i : Int) + 1) = ((i + 1 : Nat) : Int) := w1 (by omega)
    have e2 : IntKind.wrap .i64 (((i + 1 : Nat) : Int) + 1) = ((i + 2 : Nat) : Int) := w1 (by omega)
    simp only [hk0, Bool.false_eq_true, if_false, e1, e2]
    rw [if_pos (zaP hn1), if_pos (fun _ => zaP hn1)]
    rw [zoU]
    cases hg : sgB Q.T (i + 1) ⟨#[91]⟩ with
    | false =>
     simp only [Bool.not_false, if_true]
     rw [if_pos (zaP hn1)]
     exact ⟨_, _, _, rfl, ⟨rfl, rfl⟩, fun o j e => by cases e⟩
    | true =>
     have hn2 : i + 2 < Q.T.length := hT.next (i + 1) hn1 (zdY hg)
     simp only [Bool.not_true, Bool.false_eq_true, if_false]
     rw [if_pos (zaP hn2), ziS, hT.rread hn2]
     simp only [Option.bind_some]
     unfold idxP
     have join : ∀ (a b c : Int), i + 3 < Q.T.length -> ∃ o ok Q', zaX (true, ⟨Q.T, (i : Int), Q.P, Q.zHd, Q.First, Q.To, Q.Left, Q.All, Q.Wait, Q.Bad⟩) Q (k : Int) a b c = some (o, ok, Q') /\
       zpr Q ok Q' (pos (if (!sgB Q.T (i + 3) ⟨#[93]⟩) = true then (.inl (flt 4 (tk Q.T (i + 3))) : Res zau) else .inr (⟨a, b, k, c⟩, i + 4))) /\ ∀ o' j, (if (!sgB Q.T (i + 3) ⟨#[93]⟩) = true then (.inl (flt 4 (tk Q.T (i + 3))) : Res zau) else .inr (⟨a, b, k, c⟩, i + 4)) = .inr (o', j) -> o = o' := by
      intro a b c h3
      obtain ⟨o, ok, Q', j1, j2⟩ := zlT (true, ⟨Q.T, (i : Int), Q.P, Q.zHd, Q.First, Q.To, Q.Left, Q.All, Q.Wait, Q.Bad⟩) Q (k : Int) a b c hT h3 rfl
      refine ⟨o, ok, Q', j1, ?_⟩
      cases hg3 : sgB Q.T (i + 3) ⟨#[93]⟩ with
      | false =>
       rw [if_neg (by show ¬ sgB Q.T (i + 3) ⟨#[93]⟩ = true; rw [hg3]; decide)] at j2
       exact ⟨j2, fun o' j e => by cases e⟩
      | true =>
       rw [if_pos (show sgB Q.T (i + 3) ⟨#[93]⟩ = true from hg3)] at j2
       obtain ⟨rfl, rfl, rfl⟩ := j2
       exact ⟨⟨rfl, rfl⟩, fun o' j e => by cases e; rfl⟩
     by_cases u2 : ((tk Q.T (i + 2)).Kind == 2) = true
     ·rw [if_pos u2, if_pos u2, if_pos (fun _ => zaP hk)]
      have h3 : i + 3 < Q.T.length := hT.next (i + 2) hn2 (zc4 u2 (by decide))
      cases hc : (decide ((zc5 (tk Q.T (i + 2)).Text).1 < 0) || decide ((zc5 (tk Q.T (i + 2)).Text).1 ≥ (rd Q.P.zSy (k : Int)).Size)) with
      | true =>
       simp only [if_true]
       exact ⟨_, _, _, rfl, ⟨rfl, rfl⟩, fun o j e => by cases e⟩
      | false =>
       simp only [Bool.false_eq_true, if_false]
       exact join 3 0 _ h3
     ·rw [if_neg u2, if_neg u2]
      cases hr2 : fnd zfz (tk Q.T (i + 2)).Text with
      | none =>
       simp only [Bool.false_and, Bool.false_eq_true, if_false]
       exact ⟨_, _, _, rfl, ⟨rfl, rfl⟩, fun o j e => by cases e⟩
      | some r =>
       by_cases u1 : ((tk Q.T (i + 2)).Kind == 1) = true
       ·have h3 : i + 3 < Q.T.length := hT.next (i + 2) hn2 (zc4 u1 (by decide))
        simp only [u1, Bool.and_self, if_true]
        exact join 4 r 0 h3
       ·have u1' : ((tk Q.T (i + 2)).Kind == 1) = false := by simpa using u1
        simp only [u1', Bool.and_false, Bool.false_eq_true, if_false]
        exact ⟨_, _, _, rfl, ⟨rfl, rfl⟩, fun o j e => by cases e⟩
end Go.Vs
end
section
namespace Go.Vs
local instance tabPalP5 : Tab := ⟨fun _ => none⟩
def row0 (op : Int) (lk : Bool) (a b : zau) : Bool := rowB ⟨op, lk, 0, a, b, ⟨#[]⟩, []⟩
theorem zmy (x : zap) : rowB x = row0 x.Op x.Lock x.A x.B := rfl
def zjE (op : Int) (lk : Bool) (a : zau) : Bool := (a.Kind == 2) || ((a.Kind == 1) && (lk || (op == 8)))
def opsP (T : List zad) (syms : List zaq) (op : Int) (lk : Bool) (i : Nat) : Res (zau × zau) :=
 match opdP T syms i with
 | .inl f => .inl f
 | .inr (a, j) => if zjE op lk a then .inl (flt 4 (tk T i)) else if !sgB T j ⟨#[44]⟩ then .inl (flt 4 (tk T j)) else match opdP T syms (j + 1) with
  | .inl f => .inl f
  | .inr (b, k) => if !row0 op lk a b then .inl (flt 4 (tk T (j + 1))) else .inr ((a, b), k)
theorem zmR {T syms op lk i ab k} (hT : zcu T) (hi : i < T.length) (h : opsP T syms op lk i = .inr (ab, k)) : i < k /\ k < T.length := by
 unfold opsP at h
 split at h
 ·cases h
 ·rename_i a j h1
  obtain ⟨e1, e2⟩ := zgS hT hi h1
  split at h
  ·cases h
  split at h
  ·cases h
  ·rename_i hs
   have hn : j + 1 < T.length := hT.next j e2 (zdY (by simpa using hs))
   split at h
   ·cases h
   ·rename_i b k' h2
    obtain ⟨e3, e4⟩ := zgS hT hn h2
    split at h
    ·cases h
    ·cases h; exact ⟨by omega, e4⟩
theorem zn9 {x : zap} (h1 : 1 <= x.Op) (h2 : x.Op <= 9) (hc : x.Cond = 0) (ht : x.To = ⟨#[]⟩) : (insN x != 0) = !rowB x := by
 unfold insN zl6 znq zm4
 have e1 : (x.Op == 11) = false := by simp; omega
 have e2 : (x.Op == 10) = false := by simp; omega
 have e3 : decide (x.Op ≥ 1) = true := by simp; omega
 have e4 : decide (x.Op <= 14) = true := by simp; omega
 rw [e1, e2, e3, e4, hc, ht]
 cases rowB x <;> simp
theorem zk0 (k op : Int) (lk : Bool) : ((k == 2) || ((k == 1) && (!(((k == 1) && (!lk)) && (op != 8))))) = ((k == 2) || ((k == 1) && (lk || (op == 8)))) := by
 cases h : (k == 1) <;> cases lk <;> cases h2 : (op == 8) <;> simp [bne, h2]
theorem zob (R : zae) (x : zap) {i : Nat} (hT : zcu R.l) (hi : i < R.l.length) (hs : R.p.zSy.length <= 64) (ha : R.at_ = (i : Int)) (h1 : 1 <= x.Op) (h2 : x.Op <= 9) (hc : x.Cond = 0) (ht : x.To = ⟨#[]⟩) :
  ∃ ok R' x', zbt R x = some (x', ok, R') /\ znv R ok R' (pos (opsP R.l R.p.zSy x.Op x.Lock i)) /\ ∀ a b j, opsP R.l R.p.zSy x.Op x.Lock i = .inr ((a, b), j) -> x' = ⟨x.Op, x.Lock, x.Cond, a, b, x.To, x.zLb⟩ := by
 have hl := hT.len
 unfold zbt opsP
 rw [ha, if_pos (zaP hi)]
 obtain ⟨ok, R', x', e1, e2, e3⟩ := zm9 ⟨R.l, (i : Int), R.p, R.b, R.f⟩ x hT hi hs rfl
 rw [e1]
 simp only [Option.bind_some]
 cases hx : opdP R.l R.p.zSy i with
 | inl f =>
  rw [show pos (opdP R.l R.p.zSy i) = .inl f by rw [hx]; rfl] at e2
  obtain ⟨rfl, e4⟩ := e2
  simp only [Bool.not_false, if_true]
  exact ⟨_, _, _, rfl, ⟨rfl, e4⟩, fun a b j e => by cases e⟩
 | inr q =>
  obtain ⟨a, j⟩ := q
  rw [show pos (opdP R.l R.p.zSy i) = .inr j by rw [hx]; rfl] at e2
  obtain ⟨rfl, rfl⟩ := e2
  obtain ⟨_, hj⟩ := zgS hT hi hx
  have e5 := e3 a j hx
  subst e5
  simp only [Bool.not_true, Bool.false_eq_true, if_false, zk0]
  cases hb : zjE x.Op x.Lock a with
  | true =>
   have hb' : ((a.Kind == 2) || ((a.Kind == 1) && (x.Lock || (x.Op == 8)))) = true := hb
   rw [if_pos hb']
   exact ⟨_, _, _, rfl, ⟨rfl, rfl⟩, fun a b j e => by cases e⟩
  | false =>
   have hb' : ((a.Kind == 2) || ((a.Kind == 1) && (x.Lock || (x.Op == 8)))) = false := hb
   rw [if_neg (by rw [hb']; decide), zfg j _ hj]
   simp only [Option.bind_some, Bool.false_eq_true, if_false]
   cases hg : sgB R.l j ⟨#[44]⟩ with
   | false =>
    simp only [Bool.not_false, if_true]
    rw [if_pos (zaP hj)]
    exact ⟨_, _, _, rfl, ⟨rfl, rfl⟩, fun a b j e => by cases e⟩
   | true =>
    have hn : j + 1 < R.l.length := hT.next j hj (zdY hg)
    simp only [Bool.not_true, Bool.false_eq_true, if_false, w1 (show j <= 2000010 by omega)]
    rw [if_pos (zaP hn)]
    obtain ⟨ok2, R2, x2, k1, k2, k3⟩ := zm8 ⟨R.l, ((j + 1 : Nat) : Int), R.p, R.b, R.f⟩ ⟨x.Op, x.Lock, x.Cond, a, x.B, x.To, x.zLb⟩ hT hn hs rfl
    rw [k1]
    simp only [Option.bind_some]
    cases hy : opdP R.l R.p.zSy (j + 1) with
    | inl f =>
     rw [show pos (opdP R.l R.p.zSy (j + 1)) = .inl f by rw [hy]; rfl] at k2
     obtain ⟨rfl, e4⟩ := k2
     simp only [Bool.not_false, if_true]
     exact ⟨_, _, _, rfl, ⟨rfl, e4⟩, fun a b j e => by cases e⟩
    | inr q =>
     obtain ⟨b, k⟩ := q
     rw [show pos (opdP R.l R.p.zSy (j + 1)) = .inr k by rw [hy]; rfl] at k2
     obtain ⟨rfl, rfl⟩ := k2
     have e6 := k3 b k hy
     subst e6
     simp only [Bool.not_true, Bool.false_eq_true, if_false]
     rw [zkl _ (by show x.To.size <= 1000000; rw [ht]; decide)]
     simp only [Option.bind_some]
     rw [zn9 (x := ⟨x.Op, x.Lock, x.Cond, a, b, x.To, x.zLb⟩) h1 h2 hc ht, zmy]
     cases hr : row0 x.Op x.Lock a b with
     | false =>
      simp only [Bool.not_false, if_true]
      exact ⟨_, _, _, rfl, ⟨rfl, rfl⟩, fun a b j e => by cases e⟩
     | true =>
      simp only [Bool.not_true, Bool.false_eq_true, if_false]
      exact ⟨_, _, _, rfl, ⟨rfl, rfl⟩, fun a b j e => by cases e; rfl⟩
theorem zoY (Q : zaa) (x : zap) {i : Nat} (hT : zcu Q.T) (hi : i < Q.T.length) (hs : Q.P.zSy.length <= 64) (ha : Q.I = (i : Int)) :
  ∃ ok Q' x', zbm Q x = some (ok, Q', x') /\ zpr Q ok Q' (pos (opsP Q.T Q.P.zSy x.Op x.Lock i)) /\ ∀ a b j, opsP Q.T Q.P.zSy x.Op x.Lock i = .inr ((a, b), j) -> x' = ⟨x.Op, x.Lock, x.Cond, a, b, x.To, Q.Wait⟩ := by
 have hl := hT.len
 unfold zbm opsP
 rw [ha, if_pos (zaP hi)]
 obtain ⟨o, ok, Q', e1, e2, e3⟩ := zmC ⟨Q.T, (i : Int), Q.P, Q.zHd, Q.First, Q.To, Q.Left, Q.All, Q.Wait, Q.Bad⟩ hT hi hs rfl
 rw [e1]
 simp only [Option.bind_some]
 cases hx : opdP Q.T Q.P.zSy i with
 | inl f =>
  rw [show pos (opdP Q.T Q.P.zSy i) = .inl f by rw [hx]; rfl] at e2
  obtain ⟨rfl, e4⟩ := e2
  simp only [Bool.not_false, if_true]
  exact ⟨_, _, _, rfl, ⟨rfl, e4⟩, fun a b j e => by cases e⟩
 | inr q =>
  obtain ⟨a, j⟩ := q
  rw [show pos (opdP Q.T Q.P.zSy i) = .inr j by rw [hx]; rfl] at e2
  obtain ⟨rfl, rfl⟩ := e2
  obtain ⟨_, hj⟩ := zgS hT hi hx
  have e5 := e3 a j hx
  subst e5
  simp only [Bool.not_true, Bool.false_eq_true, if_false]
  cases hb : zjE x.Op x.Lock o with
  | true =>
   have hb' : ((o.Kind == 2) || ((o.Kind == 1) && (x.Lock || (x.Op == 8)))) = true := hb
   rw [if_pos hb']
   exact ⟨_, _, _, rfl, ⟨rfl, rfl⟩, fun a b j e => by cases e⟩
  | false =>
   have hb' : ((o.Kind == 2) || ((o.Kind == 1) && (x.Lock || (x.Op == 8)))) = false := hb
   rw [if_neg (by rw [hb']; decide), if_pos (zaP hj), if_pos (fun _ => zaP hj), zoU]
   simp only [Option.bind_some, Bool.false_eq_true, if_false]
   cases hg : sgB Q.T j ⟨#[44]⟩ with
   | false =>
    simp only [Bool.not_false, if_true]
    rw [if_pos (zaP hj)]
    exact ⟨_, _, _, rfl, ⟨rfl, rfl⟩, fun a b j e => by cases e⟩
   | true =>
    have hn : j + 1 < Q.T.length := hT.next j hj (zdY hg)
    simp only [Bool.not_true, Bool.false_eq_true, if_false, w1 (show j <= 2000010 by omega)]
    rw [if_pos (zaP hn)]
    obtain ⟨b, ok2, Q2, k1, k2, k3⟩ := zmC ⟨Q.T, ((j + 1 : Nat) : Int), Q.P, Q.zHd, Q.First, Q.To, Q.Left, Q.All, Q.Wait, Q.Bad⟩ hT hn hs rfl
    rw [k1]
    simp only [Option.bind_some]
    cases hy : opdP Q.T Q.P.zSy (j + 1) with
    | inl f =>
     rw [show pos (opdP Q.T Q.P.zSy (j + 1)) = .inl f by rw [hy]; rfl] at k2
     obtain ⟨rfl, e4⟩ := k2
     simp only [Bool.not_false, if_true]
     exact ⟨_, _, _, rfl, ⟨rfl, e4⟩, fun a b j e => by cases e⟩
    | inr q =>
     obtain ⟨b', k⟩ := q
     rw [show pos (opdP Q.T Q.P.zSy (j + 1)) = .inr k by rw [hy]; rfl] at k2
     obtain ⟨rfl, rfl⟩ := k2
     have e6 := k3 b' k hy
     subst e6
     simp only [Bool.not_true, Bool.false_eq_true, if_false]
     rw [zlS, zmy]
     simp only [Option.bind_some]
     cases hr : row0 x.Op x.Lock o b with
     | false =>
      simp only [Bool.not_false, if_true]
      exact ⟨_, _, _, rfl, ⟨rfl, rfl⟩, fun a b j e => by cases e⟩
     | true =>
      simp only [Bool.not_true, Bool.false_eq_true, if_false]
      exact ⟨_, _, _, rfl, ⟨rfl, rfl⟩, fun a b j e => by cases e; rfl⟩
end Go.Vs
end
