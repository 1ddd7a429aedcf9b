import Derived.Test.YtlolkehjlkmcbaaDoorPalSt3
/-! A state's text is read in one way. -/
set_option linter.unusedVariables false
set_option linter.unusedSimpArgs false
set_option linter.unusedSectionVars false
namespace Go.Vs
open Go.Lib
local instance tabPalSt5 : Tab := ⟨fun _ => none⟩
theorem span_eq {P : UInt8 → Bool} : ∀ {x y r s : List UInt8}, x.all P = true → y.all P = true → (∀ c, r.head? = some c → P c = false) → (∀ c, s.head? = some c → P c = false) → x ++ r = y ++ s → x = y ∧ r = s
  | [], [], r, s, _, _, _, _, h => ⟨rfl, h⟩
  | [], b :: y, r, s, _, hy, hr, _, h => by
    simp only [List.nil_append, List.cons_append] at h
    subst h
    have := hr b rfl
    simp only [List.all_cons, Bool.and_eq_true] at hy
    rw [hy.1] at this; cases this
  | a :: x, [], r, s, hx, _, _, hs, h => by
    simp only [List.nil_append, List.cons_append] at h
    subst h
    have := hs a rfl
    simp only [List.all_cons, Bool.and_eq_true] at hx
    rw [hx.1] at this; cases this
  | a :: x, b :: y, r, s, hx, hy, hr, hs, h => by
    simp only [List.cons_append, List.cons.injEq] at h
    simp only [List.all_cons, Bool.and_eq_true] at hx hy
    obtain ⟨e1, e2⟩ := span_eq hx.2 hy.2 hr hs h.2
    exact ⟨by rw [h.1, e1], e2⟩
def numB (c : UInt8) : Bool := isDig c || c == 45
theorem itoa_numB (n : Int) : (itoa n).all numB = true := by
  have h : ∀ u, (decDigits u).all numB = true := fun u => by
    have := (decDigits_facts u).2.1
    rw [List.all_eq_true] at this ⊢
    intro c hc
    unfold numB
    rw [this c hc]; rfl
  unfold itoa
  split
  · rw [List.all_cons, h]; rfl
  · exact h _
theorem itoa_ne (n : Int) : itoa n ≠ [] := by
  unfold itoa
  split
  · simp
  · exact (decDigits_facts _).2.2.1
theorem itoa_inj {n m : Int} (hn : I64 n) (hm : I64 m) (h : itoa n = itoa m) : n = m := by
  have h1 := readL_itoa hn
  rw [h, readL_itoa hm] at h1
  exact (Option.some.inj h1).symm
def Stop (r : List UInt8) : Prop := ∀ c, r.head? = some c → numB c = false
theorem num_read {n m : Int} {r s : List UInt8} (hn : I64 n) (hm : I64 m) (hr : Stop r) (hs : Stop s) (h : itoa n ++ r = itoa m ++ s) : n = m ∧ r = s := by
  obtain ⟨e1, e2⟩ := span_eq (itoa_numB n) (itoa_numB m) hr hs h
  exact ⟨itoa_inj hn hm e1, e2⟩
theorem stop_cons {c : UInt8} {r : List UInt8} (h : numB c = false) : Stop (c :: r) := fun d hd => by
  obtain rfl : c = d := by simpa using hd
  exact h
/-! ### Lists -/
def tailL {α : Type} (t : α → List UInt8) (l : List α) : List UInt8 := l.flatMap fun y => 44 :: t y
def listL {α : Type} (t : α → List UInt8) : List α → List UInt8
  | [] => []
  | x :: l => t x ++ tailL t l
theorem bl_sepG {α : Type} (t : α → ByteArray) : ∀ (l : List α) (i : Nat) (s : ByteArray), (sepG t (i + 1) s l).data.toList = s.data.toList ++ tailL (fun x => (t x).data.toList) l
  | [], i, s => by simp [sepG, tailL]
  | x :: l, i, s => by
    simp only [sepG]
    rw [bl_sepG t l (i + 1)]
    simp only [sepS, if_pos (Nat.succ_pos i), bl_append, tailL, List.flatMap_cons]
    simp
theorem bl_sep0 {α : Type} (t : α → ByteArray) (l : List α) : (sepG t 0 ⟨#[]⟩ l).data.toList = listL (fun x => (t x).data.toList) l := by
  cases l with
  | nil => rfl
  | cons x l =>
    simp only [sepG]
    rw [bl_sepG t l 0]
    simp [sepS, bl_append, listL]
theorem tail_read {α : Type} {t : α → List UInt8} {W : α → Prop} (ht : ∀ x y r s, W x → W y → Stop r → Stop s → t x ++ r = t y ++ s → x = y ∧ r = s) :
    ∀ {l l' : List α} {r s : List UInt8}, (∀ x ∈ l, W x) → (∀ x ∈ l', W x) → Stop r → Stop s → r.head? ≠ some 44 → s.head? ≠ some 44 → tailL t l ++ r = tailL t l' ++ s → l = l' ∧ r = s
  | [], [], r, s, _, _, _, _, _, _, h => ⟨rfl, by simpa [tailL] using h⟩
  | [], y :: l', r, s, _, _, _, _, h1, _, h => by
    exfalso; apply h1
    simp only [tailL, List.flatMap_nil, List.nil_append, List.flatMap_cons] at h
    rw [h]; rfl
  | x :: l, [], r, s, _, _, _, _, _, h2, h => by
    exfalso; apply h2
    simp only [tailL, List.flatMap_nil, List.nil_append, List.flatMap_cons] at h
    rw [← h]; rfl
  | x :: l, y :: l', r, s, hl, hl', hr, hs, h1, h2, h => by
    have st : ∀ (l : List α) (r : List UInt8), Stop r → Stop (tailL t l ++ r) := fun l r hr => by
      cases l with
      | nil => simpa [tailL] using hr
      | cons z l => exact stop_cons (by decide)
    have e : (44 : UInt8) :: (t x ++ (tailL t l ++ r)) = 44 :: (t y ++ (tailL t l' ++ s)) := by simpa [tailL, List.flatMap_cons] using h
    obtain ⟨e1, e2⟩ := ht x y _ _ (hl x (List.mem_cons_self ..)) (hl' y (List.mem_cons_self ..)) (st l r hr) (st l' s hs) (List.cons.inj e).2
    obtain ⟨e3, e4⟩ := tail_read ht (fun z hz => hl z (List.mem_cons_of_mem _ hz)) (fun z hz => hl' z (List.mem_cons_of_mem _ hz)) hr hs h1 h2 e2
    exact ⟨by rw [e1, e3], e4⟩
theorem list_read {α : Type} {t : α → List UInt8} {W : α → Prop} (ht : ∀ x y r s, W x → W y → Stop r → Stop s → t x ++ r = t y ++ s → x = y ∧ r = s) (h0 : ∀ x, ∃ c q, t x = c :: q ∧ numB c = true)
    {l l' : List α} {r s : List UInt8} (hl : ∀ x ∈ l, W x) (hl' : ∀ x ∈ l', W x) (hr : Stop r) (hs : Stop s) (h1 : r.head? ≠ some 44) (h2 : s.head? ≠ some 44) (h : listL t l ++ r = listL t l' ++ s) : l = l' ∧ r = s := by
  have st : ∀ (l : List α) (r : List UInt8), Stop r → Stop (tailL t l ++ r) := fun l r hr => by
    cases l with
    | nil => simpa [tailL] using hr
    | cons z l => exact stop_cons (by decide)
  cases l with
  | nil => cases l' with
    | nil => exact ⟨rfl, h⟩
    | cons y l' =>
      obtain ⟨c, q, e, hc⟩ := h0 y
      simp only [listL, e, List.nil_append, List.cons_append] at h
      have := hr c (by rw [h]; rfl)
      rw [hc] at this; cases this
  | cons x l => cases l' with
    | nil =>
      obtain ⟨c, q, e, hc⟩ := h0 x
      simp only [listL, e, List.nil_append, List.cons_append] at h
      have := hs c (by rw [← h]; rfl)
      rw [hc] at this; cases this
    | cons y l' =>
      simp only [listL, List.append_assoc] at h
      obtain ⟨e1, e2⟩ := ht x y _ _ (hl x (List.mem_cons_self ..)) (hl' y (List.mem_cons_self ..)) (st l r hr) (st l' s hs) h
      obtain ⟨e3, e4⟩ := tail_read ht (fun z hz => hl z (List.mem_cons_of_mem _ hz)) (fun z hz => hl' z (List.mem_cons_of_mem _ hz)) hr hs h1 h2 e2
      exact ⟨by rw [e1, e3], e4⟩
end Go.Vs
