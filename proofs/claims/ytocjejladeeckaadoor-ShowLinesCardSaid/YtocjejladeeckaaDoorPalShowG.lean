import Derived.Test.YtocjejladeeckaaDoorPalShowF
/-! Lines of a text. -/
set_option linter.unusedVariables false
set_option linter.unusedSimpArgs false
set_option linter.unusedSectionVars false
namespace Go.Vs
open Go.Lib
local instance tabPalShowG : Tab := ⟨fun _ => none⟩
def nl (b : ByteArray) : Nat := b.data.toList.count 10
theorem nl_app (a b : ByteArray) : nl (a ++ b) = nl a + nl b := by unfold nl; rw [bl_append, List.count_append]
theorem nl_itoa (n : Int) : nl (itoaB n) = 0 := by
  unfold nl itoaB
  rw [bl_bs, List.count_eq_zero]
  intro h
  have hd : ∀ u : Nat, ¬ (10 : UInt8) ∈ decDigits u := fun u hm => by
    have h1 := (decDigits_facts u).2.1
    have := (List.all_eq_true.1 h1) 10 hm
    exact absurd this (by decide)
  rcases Int.lt_or_le n 0 with h0 | h0
  · obtain ⟨u, rfl⟩ : ∃ u : Nat, n = -(u : Int) := ⟨n.natAbs, by omega⟩
    rw [itoa_neg u (by omega)] at h
    rcases List.mem_cons.1 h with e | e
    · exact absurd e (by decide)
    · exact hd u e
  · obtain ⟨u, rfl⟩ : ∃ u : Nat, n = (u : Int) := ⟨n.toNat, by omega⟩
    rw [itoa_nonneg] at h
    exact hd u h
theorem nl_rd {l : List ByteArray} (h : l.all (fun s => nl s == 0) = true) (i : Int) : nl (rd l i) = 0 := by
  unfold rd
  rw [List.getD_eq_getElem?_getD]
  cases e : l[i.toNat]? with
  | none => rfl
  | some s => simpa using (List.all_eq_true.1 h) s (List.mem_of_getElem? e)
theorem nl_reg (r : Int) : nl (regT r) = 0 := by
  unfold regT
  split
  · exact nl_rd (by decide) r
  · rfl
theorem nl_op (op cond : Int) : nl (opT op cond) = 0 := by
  unfold opT
  split
  · exact nl_rd (by decide) _
  split
  · exact nl_rd (by decide) _
  · rfl
theorem nl_opd (o : T_api_Opd) (syms : List ByteArray) (h : syms.all (fun s => nl s == 0) = true) : nl (opdT o syms) = 0 := by
  have a : nl (⟨#[91]⟩ : ByteArray) = 0 := by decide
  have b : nl (⟨#[93]⟩ : ByteArray) = 0 := by decide
  unfold opdT
  split
  · rfl
  split
  · exact nl_reg _
  split
  · exact nl_itoa _
  split
  · rfl
  split <;> simp only [nl_app, nl_rd h, nl_itoa, nl_reg, a, b]
theorem nl_ins (x : T_api_Ins) (syms : List ByteArray) (h : syms.all (fun s => nl s == 0) = true) (ht : nl x.To = 0) : nl (insT x syms) = 0 := by
  have a : nl (⟨#[108, 111, 99, 107, 32]⟩ : ByteArray) = 0 := by decide
  have b : nl (⟨#[32]⟩ : ByteArray) = 0 := by decide
  have c : nl (⟨#[44, 32]⟩ : ByteArray) = 0 := by decide
  unfold insT
  split
  · rfl
  · simp only
    have hS : nl (if x.Lock = true then (⟨#[108, 111, 99, 107, 32]⟩ : ByteArray) ++ opT x.Op x.Cond else opT x.Op x.Cond) = 0 := by
      split <;> simp only [nl_app, nl_op, a]
    split
    · simp only [nl_app, hS, b, ht]
    split
    · exact hS
    split
    · rfl
    · simp only [nl_app, hS, b, c, nl_opd _ _ h]
theorem nl_fold {α : Type} (g : ByteArray → α → ByteArray) (c : α → Nat) : ∀ (l : List α) (a : ByteArray), (∀ a x, x ∈ l → nl (g a x) = nl a + c x) → nl (l.foldl g a) = nl a + (l.map c).sum
  | [], a, _ => by simp
  | x :: l, a, h => by
    simp only [List.foldl_cons, List.map_cons, List.sum_cons]
    rw [nl_fold g c l (g a x) (fun a y hy => h a y (List.mem_cons_of_mem _ hy)), h a x (List.mem_cons_self ..)]
    omega
theorem sum_zero {α : Type} : ∀ l : List α, (l.map fun _ => 0).sum = 0
  | [] => rfl
  | _ :: l => by simp only [List.map_cons, List.sum_cons, sum_zero l]
theorem sum_one {α : Type} : ∀ l : List α, (l.map fun _ => 1).sum = l.length
  | [] => rfl
  | _ :: l => by simp only [List.map_cons, List.sum_cons, sum_one l, List.length_cons]; omega
theorem nl_sym (a : ByteArray) (s : T_api_Sym) (h : nl s.Name = 0) : nl (symT a s) = nl a + 1 := by
  have e1 : nl (⟨#[32]⟩ : ByteArray) = 0 := by decide
  have e2 : nl (⟨#[10]⟩ : ByteArray) = 1 := by decide
  have e3 : nl (⟨#[115, 121, 109, 32]⟩ : ByteArray) = 0 := by decide
  unfold symT
  rw [nl_app, nl_fold initT (fun _ => 0) s.Init _ (fun a v _ => by unfold initT; simp only [nl_app, e1, nl_itoa]), sum_zero, e2]
  unfold symHead
  simp only [nl_app, e1, e3, h, nl_itoa]
theorem nl_line (syms : List ByteArray) (hs : syms.all (fun s => nl s == 0) = true) (a : ByteArray) (x : T_api_Ins) (h : nl x.To = 0) (hl : ∀ s ∈ x.Labels, nl s = 0) : nl (lineT syms a x) = nl a + (1 + x.Labels.length) := by
  have e2 : nl (⟨#[10]⟩ : ByteArray) = 1 := by decide
  have e4 : nl (⟨#[58, 10]⟩ : ByteArray) = 1 := by decide
  have e5 : nl (⟨#[9]⟩ : ByteArray) = 0 := by decide
  unfold lineT
  rw [nl_app, nl_fold labT (fun _ => 1) x.Labels _ (fun a s hm => by unfold labT; simp only [nl_app, e4, hl s hm]), sum_one]
  simp only [nl_app, e2, e5, nl_ins x syms hs h]
  omega
theorem nl_label_all : ((List.range 100).all fun k => nl (labelB (k : Int)) == 0) = true := by decide +kernel
theorem nl_label {k : Nat} (h : k < 100) : nl (labelB (k : Int)) = 0 := by simpa using (List.all_eq_true.1 nl_label_all) k (by simpa using h)
theorem nl_th (syms : List ByteArray) (hs : syms.all (fun s => nl s == 0) = true) (a : ByteArray) (t : T_api_Thread) (h : ∀ x ∈ t.Ins, nl x.To = 0 ∧ ∀ s ∈ x.Labels, nl s = 0) : nl (thT syms a t) = nl a + (1 + (t.Ins.map fun x => 1 + x.Labels.length).sum) := by
  have e6 : nl (⟨#[116, 104, 114, 101, 97, 100, 10]⟩ : ByteArray) = 1 := by decide
  unfold thT
  rw [nl_fold (lineT syms) (fun x => 1 + x.Labels.length) t.Ins _ (fun a x hx => nl_line syms hs a x (h x hx).1 (h x hx).2), nl_app, e6]
  omega
theorem nl_show (p : T_api_Prog) (hc : checkN p = 0) (hn : ∀ s ∈ p.Syms, nl s.Name = 0) (h : ∀ t ∈ p.Threads, ∀ x ∈ t.Ins, nl x.To = 0 ∧ ∀ s ∈ x.Labels, nl s = 0) :
    nl (showT p) = p.Syms.length + (p.Threads.map fun t => 1 + (t.Ins.map fun x => 1 + x.Labels.length).sum).sum := by
  have hs : (symNames p).all (fun s => nl s == 0) = true := by
    rw [List.all_eq_true]
    intro s hm
    obtain ⟨y, hy, rfl⟩ := List.mem_map.1 hm
    simpa using hn y hy
  have z : nl (⟨#[]⟩ : ByteArray) = 0 := by decide
  unfold showT
  have b : (checkN p != 0) = false := by rw [hc]; rfl
  rw [b]
  simp only [Bool.false_eq_true, if_false]
  rw [nl_fold (thT (symNames p)) (fun t => 1 + (t.Ins.map fun x => 1 + x.Labels.length).sum) p.Threads _ (fun a t ht => nl_th _ hs a t (h t ht)), nl_fold symT (fun _ => 1) p.Syms _ (fun a s hm => nl_sym a s (hn s hm)), sum_one, z]
  omega
end Go.Vs
