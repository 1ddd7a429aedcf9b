import Derived.Test.YtocjejladeeckaaDoorPalShowG
/-! A text's end. -/
set_option linter.unusedVariables false
set_option linter.unusedSimpArgs false
set_option linter.unusedSectionVars false
namespace Go.Vs
open Go.Lib
local instance tabPalShowH : Tab := ⟨fun _ => none⟩
def Ends (b : ByteArray) : Prop := b.data.toList.getLast? = some 10
theorem ends_nl (a : ByteArray) : Ends (a ++ (⟨#[10]⟩ : ByteArray)) := by unfold Ends; rw [bl_append]; simp
theorem ends_app {a b : ByteArray} (h : Ends b) : Ends (a ++ b) := by
  unfold Ends at h ⊢
  rw [bl_append, List.getLast?_append, h]; rfl
theorem ends_fold {α : Type} (g : ByteArray → α → ByteArray) : ∀ (l : List α) (a : ByteArray), (∀ a x, x ∈ l → Ends a → Ends (g a x)) → Ends a → Ends (l.foldl g a)
  | [], _, _, h => h
  | x :: l, a, hg, h => ends_fold g l _ (fun a y hy => hg a y (List.mem_cons_of_mem _ hy)) (hg a x (List.mem_cons_self ..) h)
theorem ends_sym (a : ByteArray) (s : T_api_Sym) : Ends (symT a s) := ends_nl _
theorem ends_line (syms a x) : Ends (lineT syms a x) := ends_app (ends_nl _)
theorem ends_th (syms a t) : Ends (thT syms a t) := ends_fold _ _ _ (fun a x _ _ => ends_line syms a x) (ends_app (by unfold Ends; decide))
theorem ends_show (p : T_api_Prog) (hc : checkN p = 0) (s : T_api_Sym) (l : List T_api_Sym) (hs : p.Syms = s :: l) : Ends (showT p) := by
  unfold showT
  have b : (checkN p != 0) = false := by rw [hc]; rfl
  rw [b, hs]
  simp only [Bool.false_eq_true, if_false, List.foldl_cons]
  exact ends_fold _ _ _ (fun a t _ _ => ends_th _ a t) (ends_fold _ _ _ (fun a s _ _ => ends_sym a s) (ends_sym _ s))
end Go.Vs
