import Derived.Test.YtocjejladeeckaaGreatDoorVFacts
import Derived.Test.YtocjejladeeckaaGreatDoorPS1
import Derived.Test.YtocjejladeeckaaGreatDoorVu4
set_option linter.all false
set_option maxRecDepth 100000
namespace Go.Proofs.YtocjejladeeckaaGreatDoor
open Go.Vs
theorem zkQ {α : Type} {n t : Nat} {f : α -> List AV} {W : α -> Prop} (h : ∀ xs, HasT Tryz.prog n t xs -> ∃ x, xs = f x /\ W x) : ∀ (rows : List (List AV)), (∀ r ∈ rows, HasT Tryz.prog n t r) -> ∃ l : List α, rows = l.map f /\ ∀ x ∈ l, W x
 | [], _ => ⟨[], rfl, by simp⟩
 | r :: rows, hr => by
  obtain ⟨x, e1, e2⟩ := h r (hr r (List.mem_cons_self ..))
  obtain ⟨l, e3, e4⟩ := zkQ h rows (fun r hm => hr r (List.mem_cons_of_mem _ hm))
  exact ⟨x :: l, by rw [e1, e3]; rfl, fun y hy => (List.mem_cons.1 hy).elim (fun e => e ▸ e2) (e4 y)⟩
theorem hasL {P : Program} {n : Nat} {t e : TypeId} {xs : List AV} (hu : P.underlying t = some (.slice e)) (h : HasT P (n + 1) t xs) : ∃ rows, xs = [.sl rows] /\ rows.length <= maxLen /\ ∀ r ∈ rows, HasT P n e r := by
 simp only [HasT, hu] at h
 exact h
theorem has3 {n : Nat} {xs : List AV} (h : HasT Tryz.prog (n + 1) 3 xs) : ∃ x : Int, xs = eInt .i64 x /\ Wi .i64 x := by
 simp only [HasT, Tryz.underlying3] at h
 obtain ⟨i, rfl, hw⟩ := h
 simp only [Lit.wf, Bool.and_eq_true, decide_eq_true_eq] at hw
 exact ⟨i, rfl, hw⟩
theorem ztl {n : Nat} {xs : List AV} (h : HasT Tryz.prog (n + 2) 50 xs) : ∃ x : (List Int), xs = eSl (eInt .i64) x /\ x.length <= maxLen /\ ∀ yx ∈ x, Wi .i64 yx := by
 obtain ⟨rows, rfl, hl, hr⟩ := hasL (n := n + 1) Tryz.underlying50 h
 obtain ⟨l, rfl, hw⟩ := zkQ (n := n + 1) (f := eInt .i64) (W := fun x : Int => Wi .i64 x) (fun xs h => has3 (n := n + 0) h) rows hr
 exact ⟨l, rfl, by simpa using hl, hw⟩
theorem ztm {n : Nat} {xs : List AV} (h : HasT Tryz.prog (n + 3) 49 xs) : ∃ x : (List (List Int)), xs = eSl (eSl (eInt .i64)) x /\ x.length <= maxLen /\ ∀ yx ∈ x, yx.length <= maxLen /\ ∀ yyx ∈ yx, Wi .i64 yyx := by
 obtain ⟨rows, rfl, hl, hr⟩ := hasL (n := n + 2) Tryz.underlying49 h
 obtain ⟨l, rfl, hw⟩ := zkQ (n := n + 2) (f := eSl (eInt .i64)) (W := fun x : (List Int) => x.length <= maxLen /\ ∀ yx ∈ x, Wi .i64 yx) (fun xs h => ztl (n := n + 0) h) rows hr
 exact ⟨l, rfl, by simpa using hl, hw⟩
theorem pk49 (x : (List (List Int))) : pk Tryz.prog 49 (eSl (eSl (eInt .i64)) x) = (eSl (eSl (eInt .i64)) x).headD .undef := by unfold pk; rw [if_neg (by intro h; revert h; simp [zbY, Tryz.underlying49])]
end Go.Proofs.YtocjejladeeckaaGreatDoor
