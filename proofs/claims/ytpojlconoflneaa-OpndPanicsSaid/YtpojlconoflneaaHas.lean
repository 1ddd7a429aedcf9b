import Derived.Test.YtpojlconoflneaaVFacts
import Derived.Test.YtpojlconoflneaaPalWf
import Derived.Test.YtpojlconoflneaaVu3
set_option linter.unusedVariables false
set_option linter.unusedSimpArgs false
set_option maxRecDepth 100000
set_option linter.unusedSectionVars false
namespace Go.Proofs.Ytpojlconoflneaa
open Go.Vs
theorem has3 {n : Nat} {xs : List AV} (h : HasT Try.prog (n + 1) 3 xs) : ∃ x : Int, xs = eInt .i64 x ∧ Wi .i64 x := by
  simp only [HasT, Try.underlying3] at h
  obtain ⟨i, rfl, hw⟩ := h
  simp only [Lit.wf, Bool.and_eq_true, decide_eq_true_eq] at hw
  exact ⟨i, rfl, hw⟩
theorem pk3 (x : Int) : pk Try.prog 3 (eInt .i64 x) = (eInt .i64 x).headD .undef := by unfold pk; rw [if_neg (by intro h; revert h; simp [aggOf, Try.underlying3])]
theorem has2 {n : Nat} {xs : List AV} (h : HasT Try.prog (n + 1) 2 xs) : ∃ x : Int, xs = eInt .i64 x ∧ Wi .i64 x := by
  simp only [HasT, Try.underlying2] at h
  obtain ⟨i, rfl, hw⟩ := h
  simp only [Lit.wf, Bool.and_eq_true, decide_eq_true_eq] at hw
  exact ⟨i, rfl, hw⟩
theorem pk2 (x : Int) : pk Try.prog 2 (eInt .i64 x) = (eInt .i64 x).headD .undef := by unfold pk; rw [if_neg (by intro h; revert h; simp [aggOf, Try.underlying2])]
end Go.Proofs.Ytpojlconoflneaa
