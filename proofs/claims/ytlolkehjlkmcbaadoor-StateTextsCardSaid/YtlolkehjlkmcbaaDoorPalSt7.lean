import Derived.Test.YtlolkehjlkmcbaaDoorPalSt4
import Derived.Test.YtlolkehjlkmcbaaDoorPalG
/-! Copies of states; StateCopies. -/
set_option linter.unusedVariables false
set_option linter.unusedSimpArgs false
set_option linter.unusedSectionVars false
set_option maxRecDepth 10000
namespace Go.Vs
open Go.Lib
local instance tabPalSt7 : Tab := ⟨fun _ => none⟩
theorem fits_le {n : Nat} (h : n ≤ 1000000) : Fits n := by unfold Fits; omega
theorem foldE_app {α R : Type} (fin : List α → R) : ∀ (l : List α) (i : Nat) (a : List α), foldE (fun _ (a : List α) x => (.inl (a ++ [x]) : List α ⊕ R)) fin i a l = fin (a ++ l)
  | [], _, a => by simp [foldE]
  | x :: l, i, a => by
    simp only [foldE]
    rw [foldE_app fin l (i + 1) (a ++ [x])]
    simp
theorem ref_Copy_eq (s : T_api_State) (h : Small s) : palingref2_Copy s = some s := by
  obtain ⟨h1, h2, h3, h4⟩ := h
  unfold palingref2_Copy
  rw [if_pos (fits_le (by omega)), if_pos (fits_le (by omega))]
  have L := loop_list s.Bufs (fun i (b : List (List T_api_Entry)) => (i, b)) (palingref2_Copy_s1 s) (fun _ (a : List (List T_api_Entry)) x => (.inl (a ++ [x]) : List (List T_api_Entry) ⊕ List (List T_api_Entry))) id (fun i a => a.length = i)
    (fun i x hx a ha => ⟨by
      have hi := (List.getElem?_eq_some_iff.1 hx).1
      simp only [palingref2_Copy_s1]
      rw [if_pos (lt_at hx), if_pos (inb_at hx), rd_at hx, if_pos (fits_le (by have := h4 x (List.mem_of_getElem? hx); omega)), if_pos (fits_le (by omega)), Option.bind_some, wi (by omega)], fun a' ha' => by
      obtain rfl := Sum.inl.inj ha'
      simp [ha]⟩)
    (fun a ha => by
      simp only [palingref2_Copy_s1]
      rw [if_neg (by simp)]; rfl) [] rfl
  rw [L, foldE_app, Option.bind_some]
  simp
theorem inb_n {i n : Nat} (h : i < n) : InB (i : Int) n := ⟨by omega, by simpa using h⟩
end Go.Vs
