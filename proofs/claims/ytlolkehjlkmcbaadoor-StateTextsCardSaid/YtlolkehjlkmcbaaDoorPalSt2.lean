import Derived.Test.YtlolkehjlkmcbaaDoorPalSt1
/-! The text of a state. -/
set_option linter.unusedVariables false
set_option linter.unusedSimpArgs false
set_option linter.unusedSectionVars false
namespace Go.Vs
open Go.Lib
local instance tabPalSt2 : Tab := ⟨fun _ => none⟩
theorem itoaB_size {n : Int} (h : I64 n) : (itoaB n).size ≤ 21 := by unfold itoaB; rw [bs_size]; exact itoa_length_le n h.1 h.2
theorem l1 (a : UInt8) : (⟨#[a]⟩ : ByteArray).size = 1 := rfl
theorem l0 : (⟨#[]⟩ : ByteArray).size = 0 := rfl
theorem num_Text_eq {n : Int} (h : I64 n) : num_Text n = some (itoaB n) := by rw [num_Text, if_pos h]
def sepS {α : Type} (t : α → ByteArray) (i : Nat) (s : ByteArray) (x : α) : ByteArray := (if 0 < i then s ++ (⟨#[44]⟩ : ByteArray) else s) ++ t x
def sepG {α : Type} (t : α → ByteArray) : Nat → ByteArray → List α → ByteArray
  | _, s, [] => s
  | i, s, x :: l => sepG t (i + 1) (sepS t i s x) l
theorem foldE_sep {α R : Type} (t : α → ByteArray) (fin : ByteArray → R) : ∀ (l : List α) (i : Nat) (s : ByteArray), foldE (fun i s x => .inl (sepS t i s x)) fin i s l = fin (sepG t i s l)
  | [], _, _ => rfl
  | x :: l, i, s => foldE_sep t fin l (i + 1) _
theorem sepG_append {α : Type} (t : α → ByteArray) : ∀ (l : List α) (i : Nat) (s u : ByteArray), sepG t i (s ++ u) l = s ++ sepG t i u l
  | [], _, _, _ => rfl
  | x :: l, i, s, u => by
    have e : sepS t i (s ++ u) x = s ++ sepS t i u x := by
      unfold sepS; split <;> simp only [ByteArray.append_assoc]
    simp only [sepG, e]
    exact sepG_append t l (i + 1) s _
theorem sepG_empty {α : Type} (t : α → ByteArray) (l : List α) (s : ByteArray) : sepG t 0 s l = s ++ sepG t 0 ⟨#[]⟩ l := by
  have := sepG_append t l 0 s ⟨#[]⟩
  rw [show s ++ (⟨#[]⟩ : ByteArray) = s from ByteArray.append_empty] at this
  exact this
theorem sepS_size {α : Type} (t : α → ByteArray) (C : Nat) (i : Nat) (s : ByteArray) (x : α) (h : (t x).size ≤ C) : (sepS t i s x).size ≤ s.size + (C + 1) := by
  unfold sepS; split <;> simp only [ByteArray.size_append, l1] <;> omega
theorem sepG_size {α : Type} (t : α → ByteArray) (C : Nat) : ∀ (l : List α) (i : Nat) (s : ByteArray), (∀ x ∈ l, (t x).size ≤ C) → (sepG t i s l).size ≤ s.size + l.length * (C + 1)
  | [], _, _, _ => by simp [sepG]
  | x :: l, i, s, h => by
    have := sepG_size t C l (i + 1) (sepS t i s x) (fun y hy => h y (List.mem_cons_of_mem _ hy))
    have h2 := sepS_size t C i s x (h x (List.mem_cons_self ..))
    simp only [sepG, List.length_cons, Nat.add_mul, Nat.one_mul] at this ⊢
    omega
theorem loop_sep {α σ R : Type} (t : α → ByteArray) (C B : Nat) (l : List α) (hC : ∀ x ∈ l, (t x).size ≤ C) (mk : Int → ByteArray → σ) (step : σ → Option (σ ⊕ R)) (fin : ByteArray → R) (s0 : ByteArray) (hs : s0.size ≤ B)
    (h1 : ∀ (i : Nat) x, l[i]? = some x → ∀ s : ByteArray, s.size ≤ B + i * (C + 1) → step (mk (i : Int) s) = some (.inl (mk ((i : Int) + 1) (sepS t i s x)))) (h2 : ∀ s, step (mk (l.length : Int) s) = some (.inr (fin s))) :
    loopO step (mk 0 s0) = some (fin (sepG t 0 s0 l)) := by
  have := loop_list l mk step (fun i s x => .inl (sepS t i s x)) fin (fun i s => s.size ≤ B + i * (C + 1)) (fun i x hx s hi => ⟨h1 i x hx s hi, fun a' e => by
    obtain rfl := Sum.inl.inj e
    have := sepS_size t C i s x (hC x (List.mem_of_getElem? hx))
    rw [Nat.add_mul]; omega⟩) (fun s _ => h2 s) s0 (by omega)
  rw [this, foldE_sep]
def catG {α : Type} (t : α → ByteArray) : ByteArray → List α → ByteArray
  | s, [] => s
  | s, x :: l => catG t (s ++ t x) l
theorem catG_size {α : Type} (t : α → ByteArray) (C : Nat) : ∀ (l : List α) (s : ByteArray), (∀ x ∈ l, (t x).size ≤ C) → (catG t s l).size ≤ s.size + l.length * C
  | [], _, _ => by simp [catG]
  | x :: l, s, h => by
    have := catG_size t C l (s ++ t x) (fun y hy => h y (List.mem_cons_of_mem _ hy))
    have h2 := h x (List.mem_cons_self ..)
    simp only [catG, List.length_cons, Nat.add_mul, Nat.one_mul, ByteArray.size_append] at this ⊢
    omega
theorem loop_cat {α σ R : Type} (t : α → ByteArray) (C B : Nat) (l : List α) (hC : ∀ x ∈ l, (t x).size ≤ C) (mk : Int → ByteArray → σ) (step : σ → Option (σ ⊕ R)) (fin : ByteArray → R) (s0 : ByteArray) (hs : s0.size ≤ B)
    (h1 : ∀ (i : Nat) x, l[i]? = some x → ∀ s : ByteArray, s.size ≤ B + i * C → step (mk (i : Int) s) = some (.inl (mk ((i : Int) + 1) (s ++ t x)))) (h2 : ∀ s, step (mk (l.length : Int) s) = some (.inr (fin s))) :
    loopO step (mk 0 s0) = some (fin (catG t s0 l)) := by
  have := loop_list l mk step (fun i s x => .inl (s ++ t x)) fin (fun i s => s.size ≤ B + i * C) (fun i x hx s hi => ⟨h1 i x hx s hi, fun a' e => by
    obtain rfl := Sum.inl.inj e
    have := hC x (List.mem_of_getElem? hx)
    rw [Nat.add_mul, ByteArray.size_append]; omega⟩) (fun s _ => h2 s) s0 (by omega)
  rw [this]
  congr 1
  generalize (0 : Nat) = k
  clear this h1 h2 hs
  induction l generalizing s0 k with
  | nil => rfl
  | cons x l ih => exact ih (fun y hy => hC y (List.mem_cons_of_mem _ hy)) _ _
/-! ### Numbers -/
def nums (l : List Int) : ByteArray := sepG itoaB 0 ⟨#[]⟩ l
theorem nums_size {l : List Int} (h : ∀ x ∈ l, I64 x) : (nums l).size ≤ l.length * 22 := by
  have := sepG_size itoaB 21 l 0 ⟨#[]⟩ (fun x hx => itoaB_size (h x hx))
  simpa [nums, l0] using this
theorem numbers_eq (s : ByteArray) (l : List Int) (hs : s.size ≤ 1000000) (hl : l.length ≤ 1000) (h : ∀ x ∈ l, I64 x) : state_numbers s l = some (s ++ nums l) := by
  unfold state_numbers nums
  rw [if_pos (by unfold Fits; omega)]
  have := loop_sep itoaB 21 1000000 l (fun x hx => itoaB_size (h x hx)) (fun i s => (i.toNat, s)) (numbersS l) (fun s => s) s hs (fun i x hx s hs => by
    have hi : i < l.length := (List.getElem?_eq_some_iff.1 hx).1
    have hz := itoaB_size (h x (List.mem_of_getElem? hx))
    simp only [numbersS, Int.toNat_natCast]
    rw [if_pos hi, if_pos (by unfold Fits; (try simp only [ByteArray.size_append, l1, l0]); omega)]
    simp only [rd_at hx, num_Text_eq (h x (List.mem_of_getElem? hx)), Option.bind_some]
    rw [if_pos (by unfold Fits; split <;> (try simp only [ByteArray.size_append, l1]) <;> omega)]
    rfl) (fun s => by
    simp only [numbersS, Int.toNat_natCast]
    rw [if_neg (by omega), if_pos trivial])
  rw [sepG_empty] at this
  exact this
/-! ### Flags -/
def bitB (b : Bool) : ByteArray := if b = true then ⟨#[49]⟩ else ⟨#[48]⟩
theorem bitB_size (b : Bool) : (bitB b).size = 1 := by cases b <;> rfl
def flB (f : T_api_Flags) : ByteArray := bitB f.Z ++ bitB f.S ++ bitB f.C ++ bitB f.O
theorem flags_eq (f : T_api_Flags) : state_flags f = some (flB f) := by
  unfold state_flags
  simp only [Option.bind_some]
  have := loop_cat bitB 1 0 [f.Z, f.S, f.C, f.O] (fun x _ => by rw [bitB_size]; omega) (fun i s => (s, i)) (state_flags_s1 f [f.Z, f.S, f.C, f.O]) (fun s => s) ⟨#[]⟩ (by rw [l0]; omega) (fun i x hx s hs => by
    have hi : i < 4 := (List.getElem?_eq_some_iff.1 hx).1
    simp only [state_flags_s1]
    rw [if_pos (lt_at hx), if_pos (inb_at hx), rd_at hx, wi (by omega)]
    unfold bitB
    cases x
    · rw [if_neg (by simp), if_pos (by unfold CatOk; (try simp only [ByteArray.size_append, l1, l0]); omega), if_neg (by simp)]
    · rw [if_pos rfl, if_pos (by unfold CatOk; (try simp only [ByteArray.size_append, l1, l0]); omega), if_pos rfl]) (fun s => by
    simp only [state_flags_s1]
    rw [if_neg (by simp)])
  rw [this]
  rfl
end Go.Vs
