import Derived.Test.YtocjejladeeckaaDoorPalShowH
import Derived.Test.YtocjejladeeckaaDoorPalEb
/-! ShowLines: the plain law. -/
set_option linter.unusedVariables false
set_option linter.unusedSimpArgs false
set_option linter.unusedSectionVars false
namespace Go.Vs
open Go.Lib
local instance tabPalShowI : Tab := ⟨fun _ => none⟩
theorem bt_at {s : ByteArray} {i : Nat} {x : UInt8} (h : s.data.toList[i]? = some x) : bt s (i : Int) = (x.toNat : Int) := by
  unfold bt
  rw [Int.toNat_natCast, List.getD_eq_getElem?_getD, h]; rfl
theorem foldl_count (l : List UInt8) : ∀ n : Nat, l.foldl (fun (n : Nat) (x : UInt8) => if x = 10 then n + 1 else n) n = n + l.count 10 := by
  induction l with
  | nil => intro n; rfl
  | cons x l ih =>
    intro n
    simp only [List.foldl_cons]
    rw [ih, List.count_cons]
    by_cases h : x = 10
    · simp [h]; omega
    · simp [h]
theorem lines_s3 (s : ByteArray) (h : s.size ≤ 2000000000) : loopO (palinglaw9_ShowLines_s3 s) (0, 0) = some ((nl s : Nat) : Int) := by
  have hl : s.size = s.data.toList.length := bl_size s
  have := loop_foldl s.data.toList (fun i (n : Nat) => ((n : Int), i)) (palinglaw9_ShowLines_s3 s) (fun (n : Nat) (x : UInt8) => if x = 10 then n + 1 else n) (fun n => (n : Int)) (fun n => n) 0 1 0 (Nat.le_refl _)
    (fun a x _ => by split <;> omega)
    (fun i x hx a ha => ?_) (fun a => ?_)
  · rw [foldl_count] at this
    simpa [nl] using this
  · have hi := (List.getElem?_eq_some_iff.1 hx).1
    have hin : InB (i : Int) s.size := ⟨by omega, by rw [hl]; exact hi⟩
    simp only [palinglaw9_ShowLines_s3]
    rw [if_pos (decide_eq_true (by omega)), if_pos hin, bt_at hx]
    unfold palinglaw9_ShowLines_j1
    have e1 : IntKind.wrap .i64 ((i : Int) + 1) = (i : Int) + 1 := wi64_id ⟨by omega, by omega⟩
    have e2 : IntKind.wrap .i64 ((a : Int) + 1) = (a : Int) + 1 := wi64_id ⟨by omega, by omega⟩
    by_cases hc : x = 10
    · subst hc
      simp [e1, e2]
    · have : ¬ ((x.toNat : Int) = 10) := fun e => hc (by
        have : x.toNat = 10 := by omega
        exact UInt8.toNat_inj.1 this)
      simp [this, hc, e1]
  · simp only [palinglaw9_ShowLines_s3]
    rw [if_neg (by rw [hl]; simp)]
theorem foldl_sum {α : Type} (c : α → Nat) : ∀ (l : List α) (n : Nat), l.foldl (fun n x => n + c x) n = n + (l.map c).sum
  | [], n => by simp
  | x :: l, n => by
    simp only [List.foldl_cons, List.map_cons, List.sum_cons]
    rw [foldl_sum c l]; omega
theorem sum_le {α : Type} (c : α → Nat) (C : Nat) : ∀ (l : List α), (∀ x ∈ l, c x ≤ C) → (l.map c).sum ≤ l.length * C
  | [], _ => by simp
  | x :: l, h => by
    have h1 := sum_le c C l fun y hy => h y (List.mem_cons_of_mem _ hy)
    have h2 := h x (List.mem_cons_self ..)
    simp only [List.map_cons, List.sum_cons, List.length_cons, Nat.add_mul]; omega
def insC (x : T_api_Ins) : Nat := 1 + x.Labels.length
def thC (t : T_api_Thread) : Nat := (t.Ins.map insC).sum
theorem thC_le {t : T_api_Thread} (h : ThOk t) : thC t ≤ 10100 := by
  have := sum_le insC 101 t.Ins fun x hx => by have := (h.ins x hx).n; unfold insC; omega
  have := h.n
  unfold thC
  have h3 : t.Ins.length * 101 ≤ 100 * 101 := Nat.mul_le_mul_right _ (by omega)
  omega
theorem lines_s2 (p : T_api_Prog) (i : Nat) (t : T_api_Thread) (ht : p.Threads[i]? = some t) (hk : ThOk t) (a0 : Nat) (ha0 : a0 ≤ 10000000) :
    loopO (palinglaw9_ShowLines_s2 (i : Int) p) ((a0 : Int), 0) = some ((a0 + thC t : Nat) : Int) := by
  have := loop_foldl t.Ins (fun k (n : Nat) => ((n : Int), k)) (palinglaw9_ShowLines_s2 (i : Int) p) (fun (n : Nat) x => n + insC x) (fun n => (n : Int)) (fun n => n) 10000000 101 a0 ha0
    (fun a x hx => by have := (hk.ins x hx).n; simp only [insC]; omega)
    (fun k x hx a ha => ?_) (fun a => ?_)
  · rw [foldl_sum] at this
    exact this
  · have hi := (List.getElem?_eq_some_iff.1 hx).1
    have hn := hk.n
    have hlab := (hk.ins x (List.mem_of_getElem? hx)).n
    simp only [palinglaw9_ShowLines_s2]
    rw [if_pos (inb_at ht), rd_at ht, if_pos (by simp; omega), if_pos (inb_at ht), if_pos (inb_at hx), rd_at hx]
    simp only [Option.bind_some]
    have hka : k * 101 ≤ 100 * 101 := Nat.mul_le_mul_right _ (by omega)
    have e0 : IntKind.wrap .i64 (1 + (x.Labels.length : Int)) = 1 + (x.Labels.length : Int) := wi64_id ⟨by omega, by omega⟩
    have e1 : IntKind.wrap .i64 ((a : Int) + (1 + (x.Labels.length : Int))) = ((a + insC x : Nat) : Int) := by
      rw [wi64_id ⟨by omega, by omega⟩]; unfold insC; omega
    rw [e0, e1, wi (by omega)]
  · simp only [palinglaw9_ShowLines_s2]
    rw [if_pos (inb_at ht), rd_at ht, if_neg (by simp)]
theorem lines_s1 (p : T_api_Prog) (hp : ProgOk p) (a0 : Nat) (ha0 : a0 ≤ 1000000) :
    loopO (palinglaw9_ShowLines_s1 p) ((a0 : Int), 0) = some ((a0 + (p.Threads.map thC).sum : Nat) : Int) := by
  have := loop_foldl p.Threads (fun k (n : Nat) => ((n : Int), k)) (palinglaw9_ShowLines_s1 p) (fun (n : Nat) x => n + thC x) (fun n => (n : Int)) (fun n => n) 1000000 10100 a0 ha0
    (fun a x hx => by have := thC_le (hp.th x hx); omega)
    (fun k x hx a ha => ?_) (fun a => ?_)
  · rw [foldl_sum] at this
    exact this
  · have hi := (List.getElem?_eq_some_iff.1 hx).1
    have hn := hp.nt
    have hka : k * 10100 ≤ 100 * 10100 := Nat.mul_le_mul_right _ (by omega)
    simp only [palinglaw9_ShowLines_s1]
    rw [if_pos (by simp; omega), lines_s2 p k x hx (hp.th x (List.mem_of_getElem? hx)) a (by omega)]
    simp only [Option.bind_some]
    rw [wi (by omega)]
  · simp only [palinglaw9_ShowLines_s1]
    rw [if_neg (by simp)]
theorem showT_size {p : T_api_Prog} (hp : ProgOk p) : (showT p).size ≤ 1200000000 := by
  unfold showT
  split
  · decide
  · have h1 := foldl_size symT 3300 p.Syms (fun a x hx => symT_size (hp.sym x hx) a) (⟨#[]⟩ : ByteArray)
    have h2 := foldl_size (thT (symNames p)) 10241000 p.Threads (fun a x hx => thT_size (symNames_ok hp) (hp.th x hx) a) (p.Syms.foldl symT ⟨#[]⟩)
    have h3 : p.Syms.length * 3300 ≤ 100 * 3300 := Nat.mul_le_mul_right _ hp.ns
    have h4 : p.Threads.length * 10241000 ≤ 100 * 10241000 := Nat.mul_le_mul_right _ hp.nt
    have h5 : (⟨#[]⟩ : ByteArray).size = 0 := rfl
    omega
theorem bookSyms_nl : ∀ s ∈ bookSyms, nl s.Name = 0 := by decide
theorem bookT_nl {t : T_api_Thread} (h : BookT t) : ∀ x ∈ t.Ins, nl x.To = 0 ∧ ∀ s ∈ x.Labels, nl s = 0 := by
  obtain ⟨r, n, m, h1, h2, h3, h4, rfl⟩ := h
  intro x hx
  obtain ⟨k, hk, hk2⟩ := List.getElem_of_mem hx
  have hkl : k < (r ++ [hltI]).length := by
    have h9 := withL_len (o := r ++ [hltI]) (m := m)
    have h10 : k < (withL (r ++ [hltI]) m).length := hk
    omega
  have hg : (r ++ [hltI])[k]? = some ((r ++ [hltI])[k]'hkl) := List.getElem?_eq_getElem hkl
  have hw := withL_get (m := m) hg
  have hx2 : (withL (r ++ [hltI]) m)[k]? = some x := by rw [List.getElem?_eq_getElem hk]; exact congrArg some hk2
  rw [hw] at hx2
  obtain rfl := Option.some.inj hx2
  have hlen : (r ++ [hltI]).length = n + 1 := by simp [h1]
  refine ⟨?_, ?_⟩
  · show nl ((r ++ [hltI])[k]'hkl).To = 0
    have hmem : (r ++ [hltI])[k]'hkl ∈ r ++ [hltI] := List.getElem_mem _
    rcases List.mem_append.1 hmem with h | h
    · have hb := h3 _ h
      by_cases hj : jumpB ((r ++ [hltI])[k]'hkl) = true
      · obtain ⟨q, hq, hq2⟩ := hb.j hj
        rw [hq2]; exact nl_label (by omega)
      · have := hb.nj (by simpa using hj)
        rw [this]; decide
    · rw [List.mem_singleton.1 h]; decide
  · intro s hs
    have hs' : s ∈ (if m k then [labelB (k : Int)] else []) := hs
    split at hs'
    · rw [List.mem_singleton.1 hs']; exact nl_label (by omega)
    · cases hs'
theorem ShowLines_true (l : List (List T_palingbook_Act)) (hw : ∀ x ∈ l, ∀ y ∈ x, W_palingbook_Act y) : palinglaw9_ShowLines l = some true := by
  obtain ⟨p, e1, e2⟩ := book_Prog l hw 3 8 (by omega) (by omega)
  obtain ⟨p', e1', e3, e4, e5, e6⟩ := book_zero l hw 3 8 (by omega) (by omega)
  rw [e1] at e1'
  obtain rfl := Option.some.inj e1'
  have e1' : palingbook_Prog l 3 8 = some p := e1
  have hsz := showT_size e2
  have hn := nl_show p e6 (by rw [e3]; exact bookSyms_nl) (fun t ht => bookT_nl (e4 t ht))
  have he := ends_show p e6 _ _ e3
  have hpos : 0 < (showT p).size := by
    rw [bl_size]
    unfold Ends at he
    cases h : (showT p).data.toList with
    | nil => rw [h] at he; cases he
    | cons a b => simp
  unfold palinglaw9_ShowLines
  rw [e1', alive9_true]
  simp only [Option.bind_some]
  rw [show_Prog_eq p e2]
  simp only [Option.bind_some]
  have hns := e2.ns
  have hnt := e2.nt
  have w1 : IntKind.wrap .i64 ((p.Syms.length : Int) + (p.Threads.length : Int)) = ((p.Syms.length + p.Threads.length : Nat) : Int) := by
    rw [wi64_id ⟨by omega, by omega⟩]; omega
  rw [w1, lines_s1 p e2 _ (by omega)]
  simp only [Option.bind_some]
  have z0 : loopO (palinglaw9_ShowLines_s3 (showT p)) (0, 0) = some ((nl (showT p) : Nat) : Int) := lines_s3 _ (by omega)
  rw [z0]
  simp only [Option.bind_some]
  have hsum : (p.Threads.map fun t => 1 + (t.Ins.map fun x => 1 + x.Labels.length).sum).sum = p.Threads.length + (p.Threads.map thC).sum := by
    generalize p.Threads = ts
    induction ts with
    | nil => rfl
    | cons t ts ih =>
      simp only [List.map_cons, List.sum_cons, List.length_cons, ih]
      unfold thC insC
      omega
  rw [hn, hsum]
  have w2 : IntKind.wrap .i64 (((showT p).size : Int) - 1) = (((showT p).size - 1 : Nat) : Int) := by
    rw [wi64_id ⟨by omega, by omega⟩]; omega
  rw [w2]
  have hlast : (showT p).data.toList[(showT p).size - 1]? = some 10 := by
    unfold Ends at he
    rw [List.getLast?_eq_getElem?] at he
    rw [bl_size]; exact he
  have hin : InB (((showT p).size - 1 : Nat) : Int) (showT p).size := ⟨by omega, by simp; omega⟩
  rw [bt_at hlast]
  have a1 : (((p.Syms.length + (p.Threads.length + (p.Threads.map thC).sum) : Nat) : Int) == ((p.Syms.length + p.Threads.length + (p.Threads.map thC).sum : Nat) : Int)) = true := by simp; omega
  have a2 : decide (((showT p).size : Int) > 0) = true := by simp; omega
  rw [a1, a2]
  simp [hin]
end Go.Vs
