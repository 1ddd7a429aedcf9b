import Derived.Test.YtlolkehjlkmcbaaDoorWSame
import Derived.Test.YtlolkehjlkmcbaaDoorHas
import Derived.Test.YtlolkehjlkmcbaaDoorPalSt4
/-! StateSame, as a walk. -/
set_option linter.unusedVariables false
set_option linter.unusedSimpArgs false
set_option linter.unusedSectionVars false
set_option maxRecDepth 100000
namespace Go.Proofs.YtlolkehjlkmcbaaDoor
open Go.Vs
theorem stateSame_law [TabP] (x0 : List AV) (t0 : HasT Tryd.prog 12 26 x0) (x1 : List AV) (t1 : HasT Tryd.prog 12 26 x1) (x2 : List AV) (t2 : HasT Tryd.prog 12 26 x2) : PureF Tryd.prog 5 [pk Tryd.prog 26 x0, pk Tryd.prog 26 x1, pk Tryd.prog 26 x2] (.bool true) := by
  obtain ⟨a, rfl, wa⟩ := has26 (n := 7) t0
  obtain ⟨b, rfl, wb⟩ := has26 (n := 7) t1
  obtain ⟨c, rfl, wc⟩ := has26 (n := 7) t2
  rw [pk26, pk26, pk26]
  obtain ⟨ga, ea, ha⟩ := great_eq a
  obtain ⟨gb, eb, hb⟩ := great_eq b
  obtain ⟨gc, ec, hc⟩ := great_eq c
  cases ga with
  | true => exact ss_great0 ea alive13_true
  | false =>
  cases gb with
  | true => exact ss_great1 ea eb alive13_true
  | false =>
  cases gc with
  | true => exact ss_great2 ea eb ec alive13_true
  | false =>
  have qa := ha rfl
  have qb := hb rfl
  have e00 : state_Same a a = some true := by rw [st_Same_eq a a qa]; simp
  by_cases h1 : a = b
  · subst h1
    by_cases h2 : a = c
    · subst h2
      exact ss_tt ea ea ea e00 e00 e00 e00 e00 alive13_true
    · have e12 : state_Same a c = some false := by rw [st_Same_eq a c qa]; simp [h2]
      exact ss_tf ea ea ec e00 e00 e00 e12 alive13_true
  · have e01 : state_Same a b = some false := by rw [st_Same_eq a b qa]; simp [h1]
    have e10 : state_Same b a = some false := by rw [st_Same_eq b a qb]; simp [Ne.symm h1]
    exact ss_f ea eb ec e00 e01 e10 alive13_true
end Go.Proofs.YtlolkehjlkmcbaaDoor
