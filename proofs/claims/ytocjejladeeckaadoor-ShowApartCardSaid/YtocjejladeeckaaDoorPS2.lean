import Derived.Test.YtocjejladeeckaaDoorPS1
import Derived.Test.YtocjejladeeckaaDoorPalShow9
import Derived.Test.YtocjejladeeckaaDoorPalK
import Derived.Test.YtocjejladeeckaaDoorPalH
section
/-! Lines of a text. -/
set_option linter.unusedVariables false
set_option linter.unusedSimpArgs false
set_option linter.unusedSectionVars false
namespace Go.Vs
open Go.Lib
local instance tabPalShowG : Tab := ⟨fun _ => none⟩
def nl (b : ByteArray) : Nat := b.data.toList.count 10
end Go.Vs
end

section
/-! A text's end. -/
set_option linter.unusedVariables false
set_option linter.unusedSimpArgs false
set_option linter.unusedSectionVars false
namespace Go.Vs
open Go.Lib
local instance tabPalShowH : Tab := ⟨fun _ => none⟩
def Ends (b : ByteArray) : Prop := b.data.toList.getLast? = some 10
theorem ends_nl (a : ByteArray) : Ends (a ++ (⟨#[10]⟩ : ByteArray)) := by unfold Ends; rw [bl_append]; simp
theorem ends_app {a b : ByteArray} (h : Ends b) : Ends (a ++ b) := by
  unfold Ends at h ⊢
  rw [bl_append, List.getLast?_append, h]; rfl
theorem ends_fold {α : Type} (g : ByteArray → α → ByteArray) : ∀ (l : List α) (a : ByteArray), (∀ a x, x ∈ l → Ends a → Ends (g a x)) → Ends a → Ends (l.foldl g a)
  | [], _, _, h => h
  | x :: l, a, hg, h => ends_fold g l _ (fun a y hy => hg a y (List.mem_cons_of_mem _ hy)) (hg a x (List.mem_cons_self ..) h)
theorem ends_sym (a : ByteArray) (s : T_api_Sym) : Ends (symT a s) := ends_nl _
theorem ends_line (syms a x) : Ends (lineT syms a x) := ends_app (ends_nl _)
theorem ends_th (syms a t) : Ends (thT syms a t) := ends_fold _ _ _ (fun a x _ _ => ends_line syms a x) (ends_app (by unfold Ends; decide))
theorem ends_show (p : T_api_Prog) (hc : checkN p = 0) (s : T_api_Sym) (l : List T_api_Sym) (hs : p.Syms = s :: l) : Ends (showT p) := by
  unfold showT
  have b : (checkN p != 0) = false := by rw [hc]; rfl
  rw [b, hs]
  simp only [Bool.false_eq_true, if_false, List.foldl_cons]
  exact ends_fold _ _ _ (fun a t _ _ => ends_th _ a t) (ends_fold _ _ _ (fun a s _ _ => ends_sym a s) (ends_sym _ s))
end Go.Vs
end

section
/-! Programs held against each other: the document's way is equality. -/
set_option linter.unusedVariables false
set_option linter.unusedSimpArgs false
set_option linter.unusedSectionVars false
namespace Go.Vs
local instance tabPalSame : Tab := ⟨fun _ => none⟩
theorem cmp_loop {α : Type} [DecidableEq α] (a b : List α) (hl : a.length = b.length) (step : Int → Option (Int ⊕ (Unit ⊕ Bool)))
    (hs : ∀ (i : Nat) x y, a[i]? = some x → b[i]? = some y → step (i : Int) = some (if x = y then .inl ((i : Int) + 1) else .inr (.inr false))) (he : step (a.length : Int) = some (.inr (.inl ()))) :
    loopO step 0 = some (if a = b then .inl () else .inr false) := by
  have main : ∀ (n k : Nat), a.length - k = n → k ≤ a.length → loopO step (k : Int) = some (if a.drop k = b.drop k then .inl () else .inr false) := by
    intro n
    induction n with
    | zero =>
      intro k h1 h2
      obtain rfl : k = a.length := by omega
      rw [List.drop_length, hl, List.drop_length, ← hl, loopO_inr he]
      simp
    | succ n ih =>
      intro k h1 h2
      have ha : k < a.length := by omega
      have hb : k < b.length := by omega
      have e := hs k a[k] b[k] (List.getElem?_eq_getElem ha) (List.getElem?_eq_getElem hb)
      rw [List.drop_eq_getElem_cons ha, List.drop_eq_getElem_cons hb]
      by_cases hx : a[k] = b[k]
      · rw [if_pos hx] at e
        rw [loopO_inl e]
        have := ih (k + 1) (by omega) (by omega)
        rw [show ((k + 1 : Nat) : Int) = (k : Int) + 1 by omega] at this
        rw [this, hx]
        simp only [List.cons.injEq, true_and]
      · rw [if_neg hx] at e
        rw [loopO_inr e, if_neg (fun e => hx (List.cons.inj e).1)]
  exact main a.length 0 (by omega) (by omega)
theorem ne_len {α β : Type} {a : List α} {b : List β} : (((a.length : Int) != (b.length : Int)) = true) ↔ a.length ≠ b.length := by
  simp; omega
theorem sameTexts_eq (a b : List ByteArray) (ha : a.length ≤ 1000000) : palingref1_SameTexts a b = some (decide (a = b)) := by
  unfold palingref1_SameTexts
  by_cases hl : a.length = b.length
  · rw [if_neg (by rw [ne_len]; simpa using hl), cmp_loop a b hl _ (fun i x y hx hy => ?_) ?_]
    · by_cases e : a = b <;> simp [e, onSum]
    · simp only [palingref1_SameTexts_s1]
      rw [if_neg (by simp)]
    · simp only [palingref1_SameTexts_s1]
      rw [if_pos (lt_at hx), if_pos (inb_at hx), if_pos (inb_at hy), rd_at hx, rd_at hy, wi (by have := (List.getElem?_eq_some_iff.1 hx).1; omega)]
      by_cases e : x = y <;> simp [e]
  · rw [if_pos (ne_len.2 hl)]
    have : a ≠ b := fun e => hl (by rw [e])
    simp [this]
theorem sameInit_eq (a b : List Int) (ha : a.length ≤ 1000000) : palingref1_sameInit a b = some (decide (a = b)) := by
  unfold palingref1_sameInit
  by_cases hl : a.length = b.length
  · rw [if_neg (by rw [ne_len]; simpa using hl), cmp_loop a b hl _ (fun i x y hx hy => ?_) ?_]
    · by_cases e : a = b <;> simp [e, onSum]
    · simp only [palingref1_sameInit_s1]
      rw [if_neg (by simp)]
    · simp only [palingref1_sameInit_s1]
      rw [if_pos (lt_at hx), if_pos (inb_at hx), if_pos (inb_at hy), rd_at hx, rd_at hy, wi (by have := (List.getElem?_eq_some_iff.1 hx).1; omega)]
      by_cases e : x = y <;> simp [e]
  · rw [if_pos (ne_len.2 hl)]
    have : a ≠ b := fun e => hl (by rw [e])
    simp [this]
theorem sameIns_eq (x y : T_api_Ins) (hx : x.Labels.length ≤ 1000000) : palingref1_SameIns x y = some (decide (x = y)) := by
  unfold palingref1_SameIns
  rw [sameTexts_eq _ _ hx]
  obtain ⟨op, lk, cd, ⟨a1, a2, a3, a4⟩, ⟨b1, b2, b3, b4⟩, to, lb⟩ := x
  obtain ⟨op', lk', cd', ⟨a1', a2', a3', a4'⟩, ⟨b1', b2', b3', b4'⟩, to', lb'⟩ := y
  simp only [T_api_Ins.mk.injEq, T_api_Opd.mk.injEq]
  by_cases h1 : op = op' <;> by_cases h2 : lk = lk' <;> by_cases h3 : cd = cd' <;> by_cases h4 : a1 = a1' <;> by_cases h5 : a2 = a2' <;> by_cases h6 : a3 = a3' <;> simp [h1, h2, h3, h4, h5, h6]
  by_cases h7 : a4 = a4' <;> by_cases h8 : b1 = b1' <;> by_cases h9 : b2 = b2' <;> by_cases h10 : b3 = b3' <;> by_cases h11 : b4 = b4' <;> by_cases h12 : to = to' <;> simp [h7, h8, h9, h10, h11, h12]
theorem sameProg_eq (p q : T_api_Prog) (hs : p.Syms.length ≤ 1000000) (ht : p.Threads.length ≤ 1000000) (hi : ∀ s ∈ p.Syms, s.Init.length ≤ 1000000) (hn : ∀ t ∈ p.Threads, t.Ins.length ≤ 1000000 ∧ ∀ x ∈ t.Ins, x.Labels.length ≤ 1000000) :
    palingref1_SameProg p q = some (decide (p = q)) := by
  obtain ⟨ps, pt⟩ := p
  obtain ⟨qs, qt⟩ := q
  unfold palingref1_SameProg
  simp only [Option.bind_some] at *
  simp only [T_api_Prog.mk.injEq]
  by_cases h1 : ps.length = qs.length
  rotate_left
  · have e1 : ((ps.length : Int) != (qs.length : Int)) = true := ne_len.2 h1
    rw [e1]
    have : ps ≠ qs := fun e => h1 (by rw [e])
    simp [this]
  by_cases h2 : pt.length = qt.length
  rotate_left
  · have e1 : ((pt.length : Int) != (qt.length : Int)) = true := ne_len.2 h2
    rw [e1]
    have : pt ≠ qt := fun e => h2 (by rw [e])
    simp [this]
  have e1 : ((ps.length : Int) != (qs.length : Int)) = false := by simp [h1]
  have e2 : ((pt.length : Int) != (qt.length : Int)) = false := by simp [h2]
  rw [e1, e2]
  simp only [Bool.or_self, Bool.false_eq_true, if_false]
  rw [cmp_loop ps qs h1 _ (fun i x y hx hy => ?_) ?_]
  · by_cases es : ps = qs
    rotate_left
    · simp [es, onSum]
    simp only [es, if_true, onSum, true_and]
    rw [cmp_loop pt qt h2 _ (fun i x y hx hy => ?_) ?_]
    · by_cases et : pt = qt <;> simp [et, onSum]
    · simp only [palingref1_SameProg_s2]
      rw [if_neg (by simp)]
    · have hxn := hn x (List.mem_of_getElem? hx)
      simp only [palingref1_SameProg_s2]
      rw [if_pos (lt_at hx), if_pos (inb_at hx), if_pos (inb_at hy), rd_at hx, rd_at hy]
      by_cases hl : x.Ins.length = y.Ins.length
      · rw [if_neg (by rw [ne_len]; simpa using hl), cmp_loop x.Ins y.Ins hl _ (fun k u v hu hv => ?_) ?_]
        · obtain ⟨xi⟩ := x
          obtain ⟨yi⟩ := y
          simp only [T_api_Thread.mk.injEq, Option.bind_some]
          rw [wi (by have := (List.getElem?_eq_some_iff.1 hx).1; omega)]
          by_cases e : xi = yi <;> simp [e, onSum]
        · simp only [palingref1_SameProg_s3]
          rw [rd_at hx, if_neg (by simp)]
        · have hun := hxn.2 u (List.mem_of_getElem? hu)
          simp only [palingref1_SameProg_s3]
          rw [rd_at hx, rd_at hy, if_pos (lt_at hu), if_pos (inb_at hu), if_pos (inb_at hv), rd_at hu, rd_at hv, sameIns_eq _ _ hun]
          simp only [Option.bind_some]
          rw [wi (by have := (List.getElem?_eq_some_iff.1 hu).1; omega)]
          by_cases e : u = v <;> simp [e]
      · rw [if_pos (ne_len.2 hl)]
        have : x ≠ y := fun e => hl (by rw [e])
        simp [this]
  · simp only [palingref1_SameProg_s1]
    rw [if_neg (by simp)]
  · have hxn := hi x (List.mem_of_getElem? hx)
    simp only [palingref1_SameProg_s1]
    rw [if_pos (lt_at hx), if_pos (inb_at hx), if_pos (inb_at hy)]
    simp only [rd_at hx, rd_at hy, inb_at hx, inb_at hy, implies_true, if_true]
    rw [sameInit_eq _ _ hxn, wi (by have := (List.getElem?_eq_some_iff.1 hx).1; omega)]
    obtain ⟨n1, z1, i1⟩ := x
    obtain ⟨n2, z2, i2⟩ := y
    simp only [T_api_Sym.mk.injEq]
    by_cases q1 : n1 = n2 <;> by_cases q2 : z1 = z2 <;> by_cases q3 : i1 = i2 <;> simp [q1, q2, q3]
end Go.Vs
end

section
/-! Instructions that are right have one text just if they are one; ShowApart. -/
set_option linter.unusedVariables false
set_option linter.unusedSimpArgs false
set_option linter.unusedSectionVars false
namespace Go.Vs
open Go.Lib
local instance tabPalApart : Tab := ⟨fun _ => none⟩
theorem split_at {α : Type} {c : α} : ∀ {u v s t : List α}, c ∉ u → c ∉ v → u ++ c :: s = v ++ c :: t → u = v ∧ s = t
  | [], [], s, t, _, _, h => ⟨rfl, (List.cons.inj h).2⟩
  | [], b :: v, s, t, _, hv, h => by
    have := (List.cons.inj h).1
    subst this; exact absurd (List.mem_cons_self ..) hv
  | a :: u, [], s, t, hu, _, h => by
    have := (List.cons.inj h).1
    subst this; exact absurd (List.mem_cons_self ..) hu
  | a :: u, b :: v, s, t, hu, hv, h => by
    obtain ⟨h1, h2⟩ := List.cons.inj h
    subst h1
    obtain ⟨h3, h4⟩ := split_at (fun hm => hu (List.mem_cons_of_mem _ hm)) (fun hm => hv (List.mem_cons_of_mem _ hm)) h2
    exact ⟨by rw [h3], h4⟩
abbrev by' (b : ByteArray) : List UInt8 := b.data.toList
theorem by_inj {a b : ByteArray} (h : by' a = by' b) : a = b := bext h
theorem itoa_not (n : Int) (c : UInt8) (hc : c = 32 ∨ c = 44 ∨ c = 91 ∨ c = 93 ∨ c = 114) : c ∉ by' (itoaB n) := by
  unfold itoaB by'
  rw [bl_bs]
  intro h
  have hd : ∀ u : Nat, ¬ c ∈ decDigits u := fun u hm => by
    have h1 := (decDigits_facts u).2.1
    have := (List.all_eq_true.1 h1) c hm
    rcases hc with rfl | rfl | rfl | rfl | rfl <;> exact absurd this (by decide)
  rcases Int.lt_or_le n 0 with h0 | h0
  · obtain ⟨u, rfl⟩ : ∃ u : Nat, n = -(u : Int) := ⟨n.natAbs, by omega⟩
    rw [itoa_neg u (by omega)] at h
    rcases List.mem_cons.1 h with e | e
    · rcases hc with rfl | rfl | rfl | rfl | rfl <;> exact absurd e (by decide)
    · exact hd u e
  · obtain ⟨u, rfl⟩ : ∃ u : Nat, n = (u : Int) := ⟨n.toNat, by omega⟩
    rw [itoa_nonneg] at h
    exact hd u h
theorem itoaB_inj {a b : Int} (ha : I64 a) (hb : I64 b) (h : itoaB a = itoaB b) : a = b := by
  unfold itoaB at h
  have := congrArg readL (bs_inj h)
  rw [readL_itoa ha, readL_itoa hb] at this
  exact Option.some.inj this
theorem reg_all : ((List.range 8).all fun r => (by' (regT (r : Int))).head? == some 114 && !(by' (regT (r : Int))).contains 32 && !(by' (regT (r : Int))).contains 44 && !(by' (regT (r : Int))).contains 91 && !(by' (regT (r : Int))).contains 93 &&
    (List.range 8).all fun q => decide (r = q) || !decide (regT (r : Int) = regT (q : Int))) = true := by decide +kernel
theorem reg_facts {r : Int} (h0 : 0 ≤ r) (h1 : r ≤ 7) : (114 : UInt8) ∈ by' (regT r) ∧ (32 : UInt8) ∉ by' (regT r) ∧ (44 : UInt8) ∉ by' (regT r) ∧ (91 : UInt8) ∉ by' (regT r) ∧ (93 : UInt8) ∉ by' (regT r) ∧ ∀ q : Int, 0 ≤ q → q ≤ 7 → regT r = regT q → r = q := by
  obtain ⟨n, rfl⟩ : ∃ n : Nat, r = (n : Int) := ⟨r.toNat, by omega⟩
  have := (List.all_eq_true.1 reg_all) n (by simp; omega)
  simp only [Bool.and_eq_true, Bool.not_eq_true', beq_iff_eq] at this
  obtain ⟨⟨⟨⟨⟨h2, h3⟩, h4⟩, h5⟩, h6⟩, h7⟩ := this
  refine ⟨List.mem_of_mem_head? h2, by simpa using h3, by simpa using h4, by simpa using h5, by simpa using h6, fun q q0 q1 e => ?_⟩
  obtain ⟨m, rfl⟩ : ∃ m : Nat, q = (m : Int) := ⟨q.toNat, by omega⟩
  have := (List.all_eq_true.1 h7) m (by simp; omega)
  simp only [Bool.or_eq_true, decide_eq_true_eq, Bool.not_eq_true', decide_eq_false_iff_not] at this
  rcases this with h | h
  · rw [h]
  · exact absurd e h
def xyz : List ByteArray := [⟨#[120]⟩, ⟨#[121]⟩, ⟨#[122]⟩]
theorem xyz_all : ((List.range 3).all fun r => !(by' (rd xyz (r : Int))).contains 32 && !(by' (rd xyz (r : Int))).contains 44 && !(by' (rd xyz (r : Int))).contains 91 &&
    (List.range 3).all fun q => decide (r = q) || !decide (rd xyz (r : Int) = rd xyz (q : Int))) = true := by decide +kernel
theorem xyz_facts {r : Int} (h0 : 0 ≤ r) (h1 : r ≤ 2) : (32 : UInt8) ∉ by' (rd xyz r) ∧ (44 : UInt8) ∉ by' (rd xyz r) ∧ (91 : UInt8) ∉ by' (rd xyz r) ∧ ∀ q : Int, 0 ≤ q → q ≤ 2 → rd xyz r = rd xyz q → r = q := by
  obtain ⟨n, rfl⟩ : ∃ n : Nat, r = (n : Int) := ⟨r.toNat, by omega⟩
  have := (List.all_eq_true.1 xyz_all) n (by simp; omega)
  simp only [Bool.and_eq_true, Bool.not_eq_true', beq_iff_eq] at this
  obtain ⟨⟨⟨h3, h4⟩, h5⟩, h7⟩ := this
  refine ⟨by simpa using h3, by simpa using h4, by simpa using h5, fun q q0 q1 e => ?_⟩
  obtain ⟨m, rfl⟩ : ∃ m : Nat, q = (m : Int) := ⟨q.toNat, by omega⟩
  have := (List.all_eq_true.1 h7) m (by simp; omega)
  simp only [Bool.or_eq_true, decide_eq_true_eq, Bool.not_eq_true', decide_eq_false_iff_not] at this
  rcases this with h | h
  · rw [h]
  · exact absurd e h
structure Opd1 (o : T_api_Opd) : Prop where
  b : opdB o = true
  n : I64 o.N
  s : memB o = true → o.Sym ≤ 2
theorem opdT_kinds {o : T_api_Opd} (h : Opd1 o) : (o.Kind = 1 ∧ 0 ≤ o.Reg ∧ o.Reg ≤ 7 ∧ o.Sym = 0 ∧ o.N = 0 ∧ opdT o xyz = regT o.Reg) ∨ (o.Kind = 2 ∧ o.Reg = 0 ∧ o.Sym = 0 ∧ opdT o xyz = itoaB o.N) ∨
    (o.Kind = 3 ∧ 0 ≤ o.Sym ∧ o.Sym ≤ 2 ∧ o.Reg = 0 ∧ opdT o xyz = ((rd xyz o.Sym ++ ⟨#[91]⟩) ++ itoaB o.N) ++ ⟨#[93]⟩) ∨ (o.Kind = 4 ∧ 0 ≤ o.Sym ∧ o.Sym ≤ 2 ∧ 0 ≤ o.Reg ∧ o.Reg ≤ 7 ∧ o.N = 0 ∧ opdT o xyz = ((rd xyz o.Sym ++ ⟨#[91]⟩) ++ regT o.Reg) ++ ⟨#[93]⟩) := by
  have hb := h.b
  rcases opdB_kind h.b with e | e | e | e
  · left
    have h2 := h.b
    unfold opdB at h2
    simp [e] at h2
    refine ⟨e, h2.1.1.1, h2.1.1.2, h2.1.2, h2.2, ?_⟩
    unfold opdT; rw [hb]; simp [e]
  · right; left
    have h2 := h.b
    unfold opdB at h2
    simp [e] at h2
    refine ⟨e, h2.1, h2.2, ?_⟩
    unfold opdT; rw [hb]; simp [e]
  · right; right; left
    have h2 := h.b
    unfold opdB at h2
    simp [e] at h2
    have hs := h.s (by unfold memB; simp [e])
    refine ⟨e, h2.1.1, hs, h2.2, ?_⟩
    have h3 : ¬ o.Sym ≥ ((xyz.length : Nat) : Int) := by show ¬ o.Sym ≥ 3; omega
    unfold opdT; rw [hb]; simp [e, h3]
  · right; right; right
    have h2 := h.b
    unfold opdB at h2
    simp [e] at h2
    have hs := h.s (by unfold memB; simp [e])
    refine ⟨e, h2.1.1.1, hs, h2.1.1.2, h2.1.2, h2.2, ?_⟩
    have h3 : ¬ o.Sym ≥ ((xyz.length : Nat) : Int) := by show ¬ o.Sym ≥ 3; omega
    unfold opdT; rw [hb]; simp [e, h3]
theorem by_mem (s : ByteArray) (m : ByteArray) : by' (((s ++ ⟨#[91]⟩) ++ m) ++ ⟨#[93]⟩) = by' s ++ 91 :: (by' m ++ [93]) := by
  unfold by'; simp [bl_append]
theorem opdT_no44 {o : T_api_Opd} (h : Opd1 o) : (44 : UInt8) ∉ by' (opdT o xyz) ∧ (32 : UInt8) ∉ by' (opdT o xyz) := by
  rcases opdT_kinds h with ⟨_, h1, h2, _, _, e⟩ | ⟨_, _, _, e⟩ | ⟨_, h1, h2, _, e⟩ | ⟨_, h1, h2, h3, h4, _, e⟩
  · rw [e]; have := reg_facts h1 h2; exact ⟨this.2.2.1, this.2.1⟩
  · rw [e]; exact ⟨itoa_not _ _ (by simp), itoa_not _ _ (by simp)⟩
  · rw [e, by_mem]
    have f := xyz_facts h1 h2
    have i1 := itoa_not o.N 44 (by simp)
    have i2 := itoa_not o.N 32 (by simp)
    exact ⟨by simp [f.2.1, i1], by simp [f.1, i2]⟩
  · rw [e, by_mem]
    have f := xyz_facts h1 h2
    have g := reg_facts h3 h4
    exact ⟨by simp [f.2.1, g.2.2.1], by simp [f.1, g.2.1]⟩
theorem opdT_inj {o q : T_api_Opd} (ho : Opd1 o) (hq : Opd1 q) (e : opdT o xyz = opdT q xyz) : o = q := by
  have no91 : ∀ {r : Int}, 0 ≤ r → r ≤ 7 → (91 : UInt8) ∉ by' (regT r) := fun h1 h2 => (reg_facts h1 h2).2.2.2.1
  have has91 : ∀ (s m : ByteArray), (91 : UInt8) ∈ by' (((s ++ ⟨#[91]⟩) ++ m) ++ ⟨#[93]⟩) := fun s m => by rw [by_mem]; simp
  have ext : ∀ {o q : T_api_Opd}, o.Kind = q.Kind → o.Reg = q.Reg → o.Sym = q.Sym → o.N = q.N → o = q := fun {o q} h1 h2 h3 h4 => by cases o; cases q; simp_all
  have cut : ∀ {s s' m m' : ByteArray}, (91 : UInt8) ∉ by' s → (91 : UInt8) ∉ by' s' → ((s ++ ⟨#[91]⟩) ++ m) ++ ⟨#[93]⟩ = ((s' ++ ⟨#[91]⟩) ++ m') ++ ⟨#[93]⟩ → s = s' ∧ m = m' := fun {s s' m m'} h1 h2 h => by
    have := congrArg by' h
    rw [by_mem, by_mem] at this
    obtain ⟨h3, h4⟩ := split_at h1 h2 this
    exact ⟨by_inj h3, by_inj (List.append_cancel_right h4)⟩
  rcases opdT_kinds ho with ⟨k, h1, h2, h3, h4, t⟩ | ⟨k, h1, h2, t⟩ | ⟨k, h1, h2, h3, t⟩ | ⟨k, h1, h2, h3, h4, h5, t⟩ <;>
  rcases opdT_kinds hq with ⟨k', h1', h2', h3', h4', t'⟩ | ⟨k', h1', h2', t'⟩ | ⟨k', h1', h2', h3', t'⟩ | ⟨k', h1', h2', h3', h4', h5', t'⟩ <;> rw [t, t'] at e
  · exact ext (by omega) ((reg_facts h1 h2).2.2.2.2.2 _ h1' h2' e) (by omega) (by omega)
  · exact absurd (e ▸ (reg_facts h1 h2).1) (itoa_not _ _ (by simp))
  · exact absurd (e ▸ has91 _ _) (no91 h1 h2)
  · exact absurd (e ▸ has91 _ _) (no91 h1 h2)
  · exact absurd (e ▸ (reg_facts h1' h2').1) (itoa_not _ _ (by simp))
  · exact ext (by omega) (by omega) (by omega) (itoaB_inj ho.n hq.n e)
  · exact absurd (e ▸ has91 _ _) (itoa_not _ _ (by simp))
  · exact absurd (e ▸ has91 _ _) (itoa_not _ _ (by simp))
  · exact absurd (e ▸ has91 _ _) (no91 h1' h2')
  · exact absurd (e ▸ has91 _ _) (itoa_not _ _ (by simp))
  · obtain ⟨e1, e2⟩ := cut (xyz_facts h1 h2).2.2.1 (xyz_facts h1' h2').2.2.1 e
    exact ext (by omega) (by omega) ((xyz_facts h1 h2).2.2.2 _ h1' h2' e1) (itoaB_inj ho.n hq.n e2)
  · obtain ⟨e1, e2⟩ := cut (xyz_facts h1 h2).2.2.1 (xyz_facts h1' h2').2.2.1 e
    exact absurd (e2 ▸ (reg_facts h3' h4').1) (itoa_not _ _ (by simp))
  · exact absurd (e ▸ has91 _ _) (no91 h1' h2')
  · exact absurd (e ▸ has91 _ _) (itoa_not _ _ (by simp))
  · obtain ⟨e1, e2⟩ := cut (xyz_facts h1 h2).2.2.1 (xyz_facts h1' h2').2.2.1 e
    exact absurd (e2 ▸ (reg_facts h3 h4).1) (itoa_not _ _ (by simp))
  · obtain ⟨e1, e2⟩ := cut (xyz_facts h1 h2).2.2.1 (xyz_facts h1' h2').2.2.1 e
    exact ext (by omega) ((reg_facts h3 h4).2.2.2.2.2 _ h3' h4' e2) ((xyz_facts h1 h2).2.2.2 _ h1' h2' e1) (by omega)
end Go.Vs
end

section
/-! The text of an instruction that is right tells it. -/
set_option linter.unusedVariables false
set_option linter.unusedSimpArgs false
set_option linter.unusedSectionVars false
namespace Go.Vs
open Go.Lib
local instance tabPalApart2 : Tab := ⟨fun _ => none⟩
def validB (op cond : Nat) : Bool := decide (1 ≤ op) && (if op == 11 then decide (1 ≤ cond) else cond == 0)
def lock4 : List UInt8 := [108, 111, 99, 107]
theorem opT_all : ((List.range 15).all fun o => (List.range 11).all fun c => !validB o c || (!(by' (opT (o : Int) (c : Int))).contains 32 && !(by' (opT (o : Int) (c : Int)) == lock4) &&
    (List.range 15).all fun o' => (List.range 11).all fun c' => !validB o' c' || (decide (o = o') && decide (c = c')) || !(by' (opT (o : Int) (c : Int)) == by' (opT (o' : Int) (c' : Int))))) = true := by decide +kernel
structure Valid (op cond : Int) : Prop where
  o1 : 1 ≤ op
  o2 : op ≤ 14
  c : op = 11 → 1 ≤ cond ∧ cond ≤ 10
  n : op ≠ 11 → cond = 0
theorem Valid.nat {op cond : Int} (h : Valid op cond) : ∃ o c : Nat, op = (o : Int) ∧ cond = (c : Int) ∧ o < 15 ∧ c < 11 ∧ validB o c = true := by
  have hc : 0 ≤ cond ∧ cond ≤ 10 := by
    by_cases e : op = 11
    · have := h.c e; omega
    · have := h.n e; omega
  refine ⟨op.toNat, cond.toNat, by have := h.o1; omega, by omega, by have := h.o2; omega, by omega, ?_⟩
  have := h.o1
  unfold validB
  by_cases e : op = 11
  · have h2 := h.c e
    subst e
    simp; omega
  · have h2 := h.n e
    subst h2
    have : op.toNat ≠ 11 := by omega
    simp [this]; omega
theorem opT_facts {op cond : Int} (h : Valid op cond) : (32 : UInt8) ∉ by' (opT op cond) ∧ by' (opT op cond) ≠ lock4 ∧ ∀ op' cond', Valid op' cond' → by' (opT op cond) = by' (opT op' cond') → op = op' ∧ cond = cond' := by
  obtain ⟨o, c, rfl, rfl, h1, h2, h3⟩ := h.nat
  have := (List.all_eq_true.1 ((List.all_eq_true.1 opT_all) o (by simpa using h1))) c (by simpa using h2)
  rw [h3] at this
  simp only [Bool.not_true, Bool.false_or, Bool.and_eq_true, Bool.not_eq_true'] at this
  obtain ⟨⟨h4, h5⟩, h6⟩ := this
  refine ⟨by simpa using h4, fun e => by rw [e] at h5; simp at h5, fun op' cond' hv e => ?_⟩
  obtain ⟨o', c', rfl, rfl, k1, k2, k3⟩ := hv.nat
  have := (List.all_eq_true.1 ((List.all_eq_true.1 h6) o' (by simpa using k1))) c' (by simpa using k2)
  rw [k3, e] at this
  simp at this
  omega
structure Ins1 (x : T_api_Ins) : Prop where
  z : insN x = 0
  a : I64 x.A.N
  b : I64 x.B.N
  sa : memB x.A = true → x.A.Sym ≤ 2
  sb : memB x.B = true → x.B.Sym ≤ 2
theorem Ins1.valid {x : T_api_Ins} (h : Ins1 x) : Valid x.Op x.Cond := by
  obtain ⟨h1, h2, h3, h4, _⟩ := insN_zero h.z
  unfold condB at h2
  refine ⟨h3, h4, fun e => ?_, fun e => ?_⟩
  · rw [e] at h2; simp at h2; exact h2
  · have : (x.Op == 11) = false := by simpa using e
    rw [this] at h2; simpa using h2
def tailB (x : T_api_Ins) : List UInt8 := if jumpB x = true then 32 :: by' x.To else if x.Op > 9 then [] else 32 :: (by' (opdT x.A xyz) ++ 44 :: 32 :: by' (opdT x.B xyz))
def headB (x : T_api_Ins) : List UInt8 := if x.Lock = true then lock4 ++ [32] else []
theorem insT_by {x : T_api_Ins} (h : Ins1 x) : by' (insT x xyz) = headB x ++ (by' (opT x.Op x.Cond) ++ tailB x) := by
  have hz : (insN x != 0) = false := by rw [h.z]; rfl
  have hm : (memB x.A && decide (x.A.Sym ≥ ((xyz.length : Nat) : Int)) || memB x.B && decide (x.B.Sym ≥ ((xyz.length : Nat) : Int))) = false := by
    have e : ((xyz.length : Nat) : Int) = 3 := rfl
    rw [e]
    have h1 := h.sa
    have h2 := h.sb
    cases ha : memB x.A <;> cases hb : memB x.B <;> simp_all <;> omega
  unfold insT headB tailB
  rw [hz, hm]
  simp only [Bool.false_eq_true, if_false]
  cases hl : x.Lock <;> cases hj : jumpB x <;> by_cases h9 : x.Op > 9 <;> simp [h9, by', bl_append, lock4]
theorem zero_opd {o q : T_api_Opd} (h1 : zeroB o = true) (h2 : zeroB q = true) : o = q := by
  unfold zeroB at h1 h2
  obtain ⟨a, b, c, d⟩ := o
  obtain ⟨a', b', c', d'⟩ := q
  simp at h1 h2
  obtain ⟨rfl, rfl, rfl, rfl⟩ := h1
  obtain ⟨rfl, rfl, rfl, rfl⟩ := h2
  rfl
theorem Ins1.zero {x : T_api_Ins} (h : Ins1 x) (h9 : x.Op > 9) : zeroB x.A = true ∧ zeroB x.B = true := by
  obtain ⟨h1, _⟩ := insN_zero h.z
  unfold rowB at h1
  have : (decide (x.Op < 1) || decide (x.Op > 9)) = true := by simp; omega
  rw [this] at h1
  simp only [if_true, Bool.and_eq_true] at h1
  exact h1.1
theorem Ins1.opds {x : T_api_Ins} (h : Ins1 x) (h9 : ¬ x.Op > 9) : Opd1 x.A ∧ Opd1 x.B := by
  obtain ⟨h1, _, h3, _⟩ := insN_zero h.z
  unfold rowB at h1
  have : (decide (x.Op < 1) || decide (x.Op > 9)) = false := by simp; omega
  rw [this] at h1
  simp only [Bool.false_eq_true, if_false] at h1
  split at h1
  · cases h1
  · rename_i h2
    simp at h2
    exact ⟨⟨h2.1, h.a, h.sa⟩, ⟨h2.2, h.b, h.sb⟩⟩
theorem Ins1.noto {x : T_api_Ins} (h : Ins1 x) (hj : jumpB x = false) : x.To = ⟨#[]⟩ := by
  have hz := h.z
  unfold insN at hz
  rw [hj] at hz
  split at hz
  · rename_i hc
    simp at hc; exact hc.2
  · cases hz
theorem insT_inj {x y : T_api_Ins} (hx : Ins1 x) (hy : Ins1 y) (hl : x.Labels = y.Labels) (e : insT x xyz = insT y xyz) : x = y := by
  have e' := congrArg by' e
  rw [insT_by hx, insT_by hy] at e'
  have fx := opT_facts hx.valid
  have fy := opT_facts hy.valid
  have tail : ∀ x : T_api_Ins, tailB x = [] ∨ ∃ s, tailB x = 32 :: s := fun x => by
    unfold tailB
    split
    · exact .inr ⟨_, rfl⟩
    · split
      · exact .inl rfl
      · exact .inr ⟨_, rfl⟩
  -- the lock
  have mixed : ∀ {x y : T_api_Ins}, Ins1 y → lock4 ++ [32] ++ (by' (opT x.Op x.Cond) ++ tailB x) = by' (opT y.Op y.Cond) ++ tailB y → False := by
    intro x y hy h
    have fy := opT_facts hy.valid
    rw [List.append_assoc, List.singleton_append] at h
    rcases tail y with ht | ⟨s, ht⟩
    · rw [ht, List.append_nil] at h
      exact fy.1 (h ▸ by simp)
    · rw [ht] at h
      exact fy.2.1 (split_at (by decide) fy.1 h).1.symm
  have hlk : x.Lock = y.Lock := by
    unfold headB at e'
    cases h1 : x.Lock <;> cases h2 : y.Lock <;> rw [h1, h2] at e'
    · simp only [Bool.false_eq_true, if_false, if_true, List.nil_append] at e'
      exact (mixed hx e'.symm).elim
    · simp only [Bool.false_eq_true, if_false, if_true, List.nil_append] at e'
      exact (mixed hy e').elim
  have e2 : by' (opT x.Op x.Cond) ++ tailB x = by' (opT y.Op y.Cond) ++ tailB y := by
    unfold headB at e'
    rw [hlk] at e'
    exact List.append_cancel_left e'
  obtain ⟨e3, e4⟩ : by' (opT x.Op x.Cond) = by' (opT y.Op y.Cond) ∧ tailB x = tailB y := by
    rcases tail x with h1 | ⟨s, h1⟩ <;> rcases tail y with h2 | ⟨u, h2⟩ <;> rw [h1, h2] at e2 ⊢
    · exact ⟨by simpa using e2, rfl⟩
    · exact absurd (show (32 : UInt8) ∈ by' (opT x.Op x.Cond) by rw [List.append_nil] at e2; rw [e2]; simp) fx.1
    · exact absurd (show (32 : UInt8) ∈ by' (opT y.Op y.Cond) by rw [List.append_nil] at e2; rw [← e2]; simp) fy.1
    · obtain ⟨a, b⟩ := split_at fx.1 fy.1 e2
      exact ⟨a, by rw [b]⟩
  obtain ⟨hop, hcd⟩ := fx.2.2 _ _ hy.valid e3
  have hj : jumpB x = jumpB y := by unfold jumpB; rw [hop]
  have key : x.A = y.A ∧ x.B = y.B ∧ x.To = y.To := by
    by_cases h9 : x.Op > 9
    · have h9' : y.Op > 9 := by omega
      refine ⟨zero_opd (hx.zero h9).1 (hy.zero h9').1, zero_opd (hx.zero h9).2 (hy.zero h9').2, ?_⟩
      cases h1 : jumpB x
      · rw [hx.noto h1, hy.noto (hj ▸ h1)]
      · unfold tailB at e4
        rw [← hj, h1] at e4
        simp only [if_true] at e4
        exact by_inj (List.cons.inj e4).2
    · have h9' : ¬ y.Op > 9 := by omega
      have hnj : jumpB x = false := by unfold jumpB; simp; omega
      obtain ⟨a1, b1⟩ := hx.opds h9
      obtain ⟨a2, b2⟩ := hy.opds h9'
      unfold tailB at e4
      rw [← hj, hnj, if_neg h9, if_neg h9'] at e4
      simp only [Bool.false_eq_true, if_false] at e4
      obtain ⟨e5, e6⟩ := split_at (opdT_no44 a1).1 (opdT_no44 a2).1 (List.cons.inj e4).2
      have e7 := (List.cons.inj e6).2
      exact ⟨opdT_inj a1 a2 (by_inj e5), opdT_inj b1 b2 (by_inj e7), by rw [hx.noto hnj, hy.noto (hj ▸ hnj)]⟩
  obtain ⟨op, lk, cd, A, B, to, lb⟩ := x
  obtain ⟨op', lk', cd', A', B', to', lb'⟩ := y
  simp only at hlk hop hcd key hl
  obtain ⟨rfl, rfl, rfl⟩ := key
  subst hlk; subst hop; subst hcd; subst hl
  rfl
end Go.Vs
end

section
/-! ShowApart: the plain law. -/
set_option linter.unusedVariables false
set_option linter.unusedSimpArgs false
set_option linter.unusedSectionVars false
namespace Go.Vs
open Go.Lib
local instance tabPalApart3 : Tab := ⟨fun _ => none⟩
/-! ### Texts are put together -/
theorem foldl_app {α : Type} {g : ByteArray → α → ByteArray} (hg : ∀ a x, g a x = a ++ g ⟨#[]⟩ x) : ∀ (l : List α) (a : ByteArray), l.foldl g a = a ++ l.foldl g ⟨#[]⟩
  | [], a => by simp only [List.foldl_nil]; exact bext (by rw [bl_append]; simp)
  | x :: l, a => by
    simp only [List.foldl_cons]
    rw [foldl_app hg l (g a x), foldl_app hg l (g ⟨#[]⟩ x), hg a x]
    exact app_assoc _ _ _
theorem labT_app (a s : ByteArray) : labT a s = a ++ labT ⟨#[]⟩ s := by unfold labT; rw [nil_app]
theorem lineT_app (syms : List ByteArray) (a : ByteArray) (x : T_api_Ins) : lineT syms a x = a ++ lineT syms ⟨#[]⟩ x := by
  unfold lineT
  rw [foldl_app labT_app x.Labels a, app_assoc]
theorem thT_app (syms : List ByteArray) (a : ByteArray) (t : T_api_Thread) : thT syms a t = a ++ thT syms ⟨#[]⟩ t := by
  unfold thT
  rw [foldl_app (lineT_app syms) t.Ins (a ++ _), foldl_app (lineT_app syms) t.Ins (⟨#[]⟩ ++ _), nil_app, app_assoc]
theorem cancel_mid {a x y b : ByteArray} (h : (a ++ x) ++ b = (a ++ y) ++ b) : x = y := by
  have := congrArg by' h
  unfold by' at this
  rw [bl_append, bl_append, bl_append, bl_append] at this
  exact by_inj (List.append_cancel_left (List.append_cancel_right this))
theorem foldl_mid {α : Type} {g : ByteArray → α → ByteArray} (hg : ∀ a x, g a x = a ++ g ⟨#[]⟩ x) (l : List α) (k : Nat) (x y : α) (a : ByteArray) (hk : l[k]? = some x) (h : l.foldl g a = (l.set k y).foldl g a) : g ⟨#[]⟩ x = g ⟨#[]⟩ y := by
  have hlt : k < l.length := (List.getElem?_eq_some_iff.1 hk).1
  have hself : l = l.set k x := by
    have : l[k] = x := (List.getElem?_eq_some_iff.1 hk).2
    rw [← this, List.set_getElem_self]
  rw [hself, List.set_set] at h
  rw [List.set_eq_take_append_cons_drop, if_pos hlt, List.set_eq_take_append_cons_drop, if_pos hlt] at h
  simp only [List.foldl_append, List.foldl_cons] at h
  rw [foldl_app hg _ (g _ x), foldl_app hg _ (g _ y), hg _ x, hg _ y] at h
  exact cancel_mid h
theorem check_zero (ts : List T_api_Thread) (hn : ts.length ≤ 60) (hz : ∀ t ∈ ts, threadN ⟨bookSyms, ts⟩ t = 0) : checkN ⟨bookSyms, ts⟩ = 0 := by
  unfold checkN
  have d : (decide (((bookSyms.length : Nat) : Int) > 64) || decide ((ts.length : Int) > 64)) = false := by
    have : decide ((ts.length : Int) > 64) = false := by simp; omega
    rw [this]; rfl
  simp only [d, Bool.false_eq_true, if_false, sym_zero]
  rw [th_zero ⟨bookSyms, ts⟩ ts 0 hz]
theorem show_mid {p q : T_api_Prog} (hp : p.Syms = bookSyms) (hq : q.Syms = bookSyms) (cp : checkN p = 0) (cq : checkN q = 0) {v k : Nat} {t : T_api_Thread} {x z : T_api_Ins} (ht : p.Threads[v]? = some t) (hx : t.Ins[k]? = some x)
    (he : q.Threads = p.Threads.set v ⟨t.Ins.set k z⟩) (h1 : Ins1 x) (h2 : Ins1 z) (hl : x.Labels = z.Labels) (h : showT p = showT q) : x = z := by
  have b : ∀ r : T_api_Prog, checkN r = 0 → (checkN r != 0) = false := fun r hr => by rw [hr]; rfl
  have n1 : symNames p = xyz := by unfold symNames; rw [hp]; rfl
  have n2 : symNames q = xyz := by unfold symNames; rw [hq]; rfl
  unfold showT at h
  rw [b p cp, b q cq, n1, n2, hp, hq, he] at h
  simp only [Bool.false_eq_true, if_false] at h
  have h3 := foldl_mid (thT_app xyz) _ v t _ _ ht h
  unfold thT at h3
  have h4 := foldl_mid (lineT_app xyz) t.Ins k x z _ hx h3
  unfold lineT at h4
  rw [hl] at h4
  have h5 := congrArg by' h4
  unfold by' at h5
  simp only [bl_append] at h5
  have h6 := List.append_cancel_left h5
  exact insT_inj h1 h2 hl (by_inj (List.append_cancel_left (List.append_cancel_right h6)))
theorem bookR_ins1 {n : Nat} {y : T_api_Ins} (h : BookR n y) (m : Nat → Bool) (k : Nat) : Ins1 (putL m k y) :=
  ⟨by rw [insN_putL]; exact h.z, h.a, h.b, fun e => (by
    have := h.pA e
    unfold memChk at this
    simp only [Bool.and_eq_true, decide_eq_true_eq] at this
    exact this.2.2.1), fun e => (by
    have := h.pB e
    unfold memChk at this
    simp only [Bool.and_eq_true, decide_eq_true_eq] at this
    exact this.2.2.1)⟩
theorem set_rdself {α : Type} [Inhabited α] {l : List α} {k : Nat} {x : α} (h : l[k]? = some x) : l.set k x = l := by
  have : l[k]'((List.getElem?_eq_some_iff.1 h).1) = x := (List.getElem?_eq_some_iff.1 h).2
  rw [← this, List.set_getElem_self]
theorem ShowApart_true (l : List (List T_palingbook_Act)) (hw : ∀ x ∈ l, ∀ y ∈ x, W_palingbook_Act y) (p1 p2 : Int) (h1 : I64 p1) (h2 : I64 p2) (a : T_palingbook_Act) (ha : W_palingbook_Act a) : palinglaw9_ShowApart l p1 p2 a = some true := by
  obtain ⟨p, e1, hok⟩ := book_Prog l hw 2 5 (by omega) (by omega)
  obtain ⟨p', e1', hsy, hth, hlen, hck⟩ := book_zero l hw 2 5 (by omega) (by omega)
  rw [e1] at e1'
  obtain rfl := Option.some.inj e1'
  have e1' : palingbook_Prog l 2 5 = some p := e1
  have hne : ∀ r : T_api_Prog, r.Syms = bookSyms → checkN r = 0 → decide (showT r = (⟨#[]⟩ : ByteArray)) = false := fun r hr hc => by
    have he := ends_show r hc _ _ hr
    simp only [decide_eq_false_iff_not]
    intro e
    unfold Ends at he
    rw [e] at he
    cases he
  have hpp : (T_api_Prog.mk p.Syms p.Threads) = p := rfl
  have same : ∀ q : T_api_Prog, palingref1_SameProg p q = some (decide (p = q)) := fun q =>
    sameProg_eq p q (by have := hok.ns; omega) (by have := hok.nt; omega) (fun s hs => by have := (hok.sym s hs).n; omega) fun t ht => ⟨by have := (hok.th t ht).n; omega, fun x hx => by have := ((hok.th t ht).ins x hx).n; omega⟩
  unfold palinglaw9_ShowApart
  rw [e1']
  simp only [Option.bind_some, hpp]
  by_cases h0 : p.Threads.length = 0
  · rw [if_pos (by simp [h0]), show_Prog_eq p hok]
    simp only [Option.bind_some]
    rw [alive9_true]
    simp
  rw [if_neg (by simp [h0])]
  obtain ⟨v, ev, hv⟩ := pick_i h1 (p.Threads.length : Int) (by omega) (by omega)
  rw [ev]
  simp only [Option.bind_some]
  have hvl : v < p.Threads.length := by omega
  obtain ⟨t, ht⟩ : ∃ t, p.Threads[v]? = some t := ⟨_, List.getElem?_eq_getElem hvl⟩
  rw [if_pos (inb_at ht), rd_at ht]
  have htm := List.mem_of_getElem? ht
  have htok := hok.th t htm
  obtain ⟨r, n, m, q1, q2, q3, q4, rfl⟩ := hth t htm
  have hll : (withL (r ++ [hltI]) m).length = n + 1 := by rw [withL_len]; simp [q1]
  obtain ⟨k, ek, hk⟩ := pick_i h2 ((withL (r ++ [hltI]) m).length : Int) (by rw [hll]; omega) (by rw [hll]; omega)
  show (palingbook_Pick p2 ((withL (r ++ [hltI]) m).length : Int)).bind _ = _
  rw [ek]
  simp only [Option.bind_some]
  have hkl : k < n + 1 := by omega
  obtain ⟨c, hc⟩ : ∃ c, (r ++ [hltI])[k]? = some c := ⟨_, List.getElem?_eq_getElem (by simp; omega)⟩
  have hx := withL_get (m := m) hc
  obtain ⟨y, ey, hy⟩ := book_right ha (n := 1) (by omega) (by omega)
  have ey' : palingbook_Ins a 1 = some y := ey
  rw [ey']
  simp only [Option.bind_some]
  -- the join
  have join : ∀ q : T_api_Prog, q.Syms = p.Syms → ProgOk q → checkN q = 0 → (showT p = showT q → p = q) → palinglaw9_ShowApart_j1 p p q.Threads = some true := by
    intro q hqs hqo hqc hqe
    have eq : (T_api_Prog.mk p.Syms q.Threads) = q := by rw [← hqs]
    unfold palinglaw9_ShowApart_j1
    rw [hpp, eq, show_Prog_eq p hok, show_Prog_eq q hqo]
    simp only [Option.bind_some]
    rw [same q]
    simp only [Option.bind_some]
    have hb : (decide (showT p = showT q) == decide (p = q)) = true := by
      by_cases h : showT p = showT q
      · simp [h, hqe h]
      · have : p ≠ q := fun e => h (by rw [e])
        simp [h, this]
    rw [hb]
    simp only [if_true, Option.bind_some]
    rw [hne q (by rw [hqs, hsy]) hqc, alive9_true]
    simp
  have hset : p.Threads.set v ⟨withL (r ++ [hltI]) m⟩ = p.Threads := set_rdself ht
  have w1 : IntKind.wrap .i64 ((k : Int) + 1) = (k : Int) + 1 := wi (by omega)
  cases hcond : (decide ((IntKind.wrap .i64 ((k : Int) + 1)) < ((withL (r ++ [hltI]) m).length : Int)) && decide (y.To = (⟨#[]⟩ : ByteArray)))
  · simp only [hcond, Bool.false_eq_true, if_false, Int.toNat_natCast]
    have := join p rfl hok hck (fun _ => rfl)
    rw [show (p.Threads.set v (T_api_Thread.mk (withL (r ++ [hltI]) m))) = p.Threads from hset]
    exact this
  · simp only [Bool.and_eq_true, decide_eq_true_eq] at hcond
    obtain ⟨hc1, hc2⟩ := hcond
    rw [w1, hll] at hc1
    have hkn : k < n := by omega
    have hcd : (decide ((IntKind.wrap .i64 ((k : Int) + 1)) < ((withL (r ++ [hltI]) m).length : Int)) && decide (y.To = (⟨#[]⟩ : ByteArray))) = true := by
      rw [w1, hll]; simp [hc2]; omega
    simp only [hcd, if_true]
    rw [if_pos (inb_at hx), if_pos (inb_at hx)]
    simp only [Option.bind_some, Int.toNat_natCast, rd_at hx]
    have hcr : r[k]? = some c := by rw [List.getElem?_append_left (by omega)] at hc; exact hc
    have hz : (T_api_Ins.mk y.Op y.Lock y.Cond y.A y.B y.To (putL m k c).Labels) = putL m k y := rfl
    rw [hz]
    have hwl : (withL (r ++ [hltI]) m).set k (putL m k y) = withL ((r.set k y) ++ [hltI]) m := by
      apply List.ext_getElem?
      intro j
      rw [List.getElem?_set]
      by_cases hj : k = j
      · subst hj
        have : ((r.set k y) ++ [hltI])[k]? = some y := by
          rw [List.getElem?_append_left (by simp; omega), List.getElem?_set_self (by omega)]
        rw [if_pos rfl, if_pos (by omega), withL_get this]
      · rw [if_neg hj]
        have hsame : ((r.set k y) ++ [hltI])[j]? = (r ++ [hltI])[j]? := by
          by_cases hjr : j < r.length
          · rw [List.getElem?_append_left (by simp; omega), List.getElem?_append_left hjr, List.getElem?_set_ne hj]
          · rw [List.getElem?_append_right (by simp; omega), List.getElem?_append_right (by omega)]; simp
        cases hg : (r ++ [hltI])[j]? with
        | none =>
          have a1 : (withL (r ++ [hltI]) m)[j]? = none := List.getElem?_eq_none_iff.2 (by rw [withL_len]; exact List.getElem?_eq_none_iff.1 hg)
          have a2 : (withL ((r.set k y) ++ [hltI]) m)[j]? = none := List.getElem?_eq_none_iff.2 (by rw [withL_len]; exact List.getElem?_eq_none_iff.1 (hsame.trans hg))
          rw [a1, a2]
        | some u => rw [withL_get hg, withL_get (hsame.trans hg)]
    have hny : jumpB y = false := by
      cases hj : jumpB y
      · rfl
      · obtain ⟨q, _, hto⟩ := hy.j hj
        rw [hc2] at hto
        exact absurd hto.symm (label_ne q)
    have hyn : BookR (n + 1) y := ⟨hy.toBookIns, hy.z, hy.pA, hy.pB, fun h => (by rw [hny] at h; cases h), hy.nj⟩
    have hr' : ∀ u ∈ r.set k y, BookR (n + 1) u := set_all q3 hyn
    -- the program with the other instruction
    have hlab : LabOk (putL m k y) := by
      have hxl := htok.ins _ (List.mem_of_getElem? hx)
      exact ⟨⟨by unfold Sm; have := hy.to; show y.To.size ≤ _; omega, hy.a, hy.b⟩, hxl.n, by have := hy.to; show y.To.size ≤ _; omega, hxl.lab⟩
    have hto' : ThOk ⟨(withL (r ++ [hltI]) m).set k (putL m k y)⟩ := ⟨by show ((withL (r ++ [hltI]) m).set k (putL m k y)).length ≤ 100; rw [List.length_set]; exact htok.n, set_all (P := LabOk) htok.ins hlab⟩
    have hqo : ProgOk ⟨p.Syms, p.Threads.set v ⟨(withL (r ++ [hltI]) m).set k (putL m k y)⟩⟩ := ⟨hok.ns, by show (p.Threads.set v _).length ≤ 100; rw [List.length_set]; exact hok.nt, hok.sym, set_all (P := ThOk) hok.th hto'⟩
    have hqc : checkN ⟨p.Syms, p.Threads.set v ⟨(withL (r ++ [hltI]) m).set k (putL m k y)⟩⟩ = 0 := by
      rw [hsy]
      refine check_zero _ (by rw [List.length_set]; omega) fun u hu => ?_
      rcases List.mem_or_eq_of_mem_set hu with hu | rfl
      · obtain ⟨r', n', m', k1, k2, k3, k4, rfl⟩ := hth u hu
        exact thread_zero _ rfl r' n' k1 k2 k3 m' fun q hq => (k4 q hq).2
      · rw [hwl]
        refine thread_zero _ rfl (r.set k y) n (by rw [List.length_set]; exact q1) q2 hr' m fun q hq ⟨i, u, i1, i2, i3, i4⟩ => ?_
        refine (q4 q hq).2 ⟨i, u, i1, i2, ?_, i4⟩
        by_cases hik : k = i
        · subst hik
          rw [List.getElem?_append_left (by simp; omega), List.getElem?_set_self (by omega)] at i3
          obtain rfl := Option.some.inj i3
          rw [hc2] at i4
          exact absurd i4.symm (label_ne q)
        · rw [List.getElem?_append_left (by simp; omega), List.getElem?_set_ne hik] at i3
          rw [List.getElem?_append_left (by omega)]; exact i3
    refine join ⟨p.Syms, p.Threads.set v ⟨(withL (r ++ [hltI]) m).set k (putL m k y)⟩⟩ rfl hqo hqc fun he => ?_
    have hxz := show_mid hsy (by rw [← hsy]) hck hqc ht hx rfl (bookR_ins1 (q3 c (List.mem_of_getElem? hcr)) m k) (bookR_ins1 hyn m k) rfl he
    rw [← hxz, set_rdself hx, hset]
end Go.Vs
end
