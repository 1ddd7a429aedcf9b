import Derived.Test.YtpdjmghnimimgaaWordLaws
/-! Chapter 1: more laws. -/
set_option maxRecDepth 100000
set_option linter.unusedSimpArgs false
set_option linter.unusedVariables false
namespace Go.Proofs.Ytpdjmghnimimgaa
open Go.Vs
def pickN (n m : Int) : Int := if n.tmod m < 0 then IntKind.i64.wrap (n.tmod m + m) else n.tmod m
theorem Pick_pf (n m : Int) (hm : ¬ m = 0) : PureF Try.prog 22 [.int .i64 n, .int .i64 m] (.int .i64 (pickN n m)) := by
  refine PureF.of Try.func22 rfl Try.ntmps22 (Nat.le_of_ble_eq_true rfl) ?_
  simp -implicitDefEqProofs -dsimp only [go_sem, ↓reduceIte, Nat.reduceAdd, Nat.reduceMul, Nat.reduceEqDiff, Nat.reduceLeDiff, reduceCtorEq, beq_self_eq_true, Bool.not_true, Bool.not_false, *]
  repeat' (first
    | (with_reducible refine W.seq ?_)
    | ((with_reducible refine W.region_ ?_); refine ⟨by rfl, ?_⟩; simp -implicitDefEqProofs -dsimp only [go_sem, ↓reduceIte, Nat.reduceAdd, Nat.reduceMul, Nat.reduceEqDiff, Nat.reduceLeDiff, reduceCtorEq, beq_self_eq_true, Bool.not_true, Bool.not_false, *])
    | ((with_reducible refine W.regionD_ ?_); refine ⟨v_mixed, by rfl, by kernel_rfl, by kernel_rfl, ?_⟩; simp -implicitDefEqProofs -dsimp only [go_sem, ↓reduceIte, Nat.reduceAdd, Nat.reduceMul, Nat.reduceEqDiff, Nat.reduceLeDiff, reduceCtorEq, beq_self_eq_true, Bool.not_true, Bool.not_false, *])
    | (with_reducible refine W.block ?_)
    | ((with_reducible refine W.skip ?_); try simp -implicitDefEqProofs -dsimp only [go_sem, ↓reduceIte, Nat.reduceAdd, Nat.reduceMul, Nat.reduceEqDiff, Nat.reduceLeDiff, reduceCtorEq, beq_self_eq_true, Bool.not_true, Bool.not_false, *])
    | ((with_reducible refine W.exit ?_); try simp -implicitDefEqProofs -dsimp only [go_sem, ↓reduceIte, Nat.reduceAdd, Nat.reduceMul, Nat.reduceEqDiff, Nat.reduceLeDiff, reduceCtorEq, beq_self_eq_true, Bool.not_true, Bool.not_false, *])
    | ((with_reducible refine W.ret ?_); try simp -implicitDefEqProofs -dsimp only [go_sem, ↓reduceIte, Nat.reduceAdd, Nat.reduceMul, Nat.reduceEqDiff, Nat.reduceLeDiff, reduceCtorEq, beq_self_eq_true, Bool.not_true, Bool.not_false, *])
    | ((refine W.condN _ (by simp -implicitDefEqProofs -dsimp only [go_sem, ↓reduceIte, Nat.reduceAdd, Nat.reduceMul, Nat.reduceEqDiff, Nat.reduceLeDiff, reduceCtorEq, beq_self_eq_true, Bool.not_true, Bool.not_false, *]; rfl) (fun _ => ?_) (fun _ => ?_)) <;> try contradiction)
    | ((refine W.cond _ (by simp -implicitDefEqProofs -dsimp only [go_sem, ↓reduceIte, Nat.reduceAdd, Nat.reduceMul, Nat.reduceEqDiff, Nat.reduceLeDiff, reduceCtorEq, beq_self_eq_true, Bool.not_true, Bool.not_false, *]; rfl) (fun _ => ?_) (fun _ => ?_)) <;> try contradiction)
    | ((with_reducible refine onG_splitN (fun _ => ?_) (fun _ => ?_)) <;> simp -implicitDefEqProofs -dsimp only [go_sem, ↓reduceIte, Nat.reduceAdd, Nat.reduceMul, Nat.reduceEqDiff, Nat.reduceLeDiff, reduceCtorEq, beq_self_eq_true, Bool.not_true, Bool.not_false, *])
    | ((with_reducible refine onG_split (fun _ => ?_) (fun _ => ?_)) <;> simp -implicitDefEqProofs -dsimp only [go_sem, ↓reduceIte, Nat.reduceAdd, Nat.reduceMul, Nat.reduceEqDiff, Nat.reduceLeDiff, reduceCtorEq, beq_self_eq_true, Bool.not_true, Bool.not_false, *]))
  all_goals
    refine EndsF.ret ?_
    simp -implicitDefEqProofs -dsimp only [go_sem, ↓reduceIte, Nat.reduceAdd, Nat.reduceMul, Nat.reduceEqDiff, Nat.reduceLeDiff, reduceCtorEq, beq_self_eq_true, Bool.not_true, Bool.not_false, *]
    exact FR.eq (by simp -implicitDefEqProofs -dsimp only [go_sem, ↓reduceIte, Nat.reduceAdd, Nat.reduceMul, Nat.reduceEqDiff, Nat.reduceLeDiff, reduceCtorEq, beq_self_eq_true, Bool.not_true, Bool.not_false, *]) (by simp only [pickN]; split <;> first | rfl | (exfalso; simp at *; omega))
theorem pick_range (n : Int) : 1 ≤ IntKind.i64.wrap (1 + pickN n 10) ∧ IntKind.i64.wrap (1 + pickN n 10) ≤ 10 := by
  have h1 := Int.tmod_lt_of_pos n (b := 10) (by decide)
  have h2 : -10 < n.tmod 10 := by have := Int.lt_tmod_of_pos n (b := 10) (by decide); omega
  unfold pickN
  simp only [wi]
  split <;> omega
theorem turn_all : ∀ c : Int, 1 ≤ c → c ≤ 10 → ∀ z s cf o : Bool, (holdN c z s cf o != holdN (turnN c) z s cf o) = true ∧ (turnN (turnN c) == c) = true ∧ (turnN c != c) = true := by
  intro c h1 h2 z s cf o
  have : c = 1 ∨ c = 2 ∨ c = 3 ∨ c = 4 ∨ c = 5 ∨ c = 6 ∨ c = 7 ∨ c = 8 ∨ c = 9 ∨ c = 10 := by omega
  rcases this with h | h | h | h | h | h | h | h | h | h <;> subst h <;> revert z s cf o <;> decide
theorem wordTurns_law (x0 : List AV) (t0 : HasT Try.prog 12 3 x0) (x1 : List AV) (t1 : HasT Try.prog 12 23 x1) :
    PureF Try.prog 6 [pk Try.prog 3 x0, pk Try.prog 23 x1] (.bool true) := by
  obtain ⟨n, e0, _⟩ := i64 Try.underlying3 t0
  obtain ⟨z, s, cf, o, e1⟩ := flags_ty t1
  rw [e0, e1]
  obtain ⟨q1, q2, q3⟩ := turn_all _ (pick_range n).1 (pick_range n).2 z s cf o
  refine PureF.of Try.func6 rfl Try.ntmps6 (Nat.le_of_ble_eq_true rfl) ?_
  simp -implicitDefEqProofs -dsimp only [go_sem, ↓reduceIte, Nat.reduceAdd, Nat.reduceMul, Nat.reduceEqDiff, Nat.reduceLeDiff, reduceCtorEq, beq_self_eq_true, Bool.not_true, Bool.not_false, *]
  repeat' (first
    | (with_reducible refine W.seq ?_)
    | ((with_reducible refine W.region_ ?_); refine ⟨by rfl, ?_⟩; simp -implicitDefEqProofs -dsimp only [go_sem, ↓reduceIte, Nat.reduceAdd, Nat.reduceMul, Nat.reduceEqDiff, Nat.reduceLeDiff, reduceCtorEq, beq_self_eq_true, Bool.not_true, Bool.not_false, *])
    | ((with_reducible refine W.regionD_ ?_); refine ⟨v_mixed, by rfl, by kernel_rfl, by kernel_rfl, ?_⟩; simp -implicitDefEqProofs -dsimp only [go_sem, ↓reduceIte, Nat.reduceAdd, Nat.reduceMul, Nat.reduceEqDiff, Nat.reduceLeDiff, reduceCtorEq, beq_self_eq_true, Bool.not_true, Bool.not_false, *])
    | (with_reducible refine W.block ?_)
    | ((with_reducible refine W.skip ?_); try simp -implicitDefEqProofs -dsimp only [go_sem, ↓reduceIte, Nat.reduceAdd, Nat.reduceMul, Nat.reduceEqDiff, Nat.reduceLeDiff, reduceCtorEq, beq_self_eq_true, Bool.not_true, Bool.not_false, *])
    | ((with_reducible refine W.exit ?_); try simp -implicitDefEqProofs -dsimp only [go_sem, ↓reduceIte, Nat.reduceAdd, Nat.reduceMul, Nat.reduceEqDiff, Nat.reduceLeDiff, reduceCtorEq, beq_self_eq_true, Bool.not_true, Bool.not_false, *])
    | ((with_reducible refine W.ret ?_); try simp -implicitDefEqProofs -dsimp only [go_sem, ↓reduceIte, Nat.reduceAdd, Nat.reduceMul, Nat.reduceEqDiff, Nat.reduceLeDiff, reduceCtorEq, beq_self_eq_true, Bool.not_true, Bool.not_false, *])
    | ((refine W.condN _ (by simp -implicitDefEqProofs -dsimp only [go_sem, ↓reduceIte, Nat.reduceAdd, Nat.reduceMul, Nat.reduceEqDiff, Nat.reduceLeDiff, reduceCtorEq, beq_self_eq_true, Bool.not_true, Bool.not_false, *]; rfl) (fun _ => ?_) (fun _ => ?_)) <;> try contradiction)
    | ((refine W.cond _ (by simp -implicitDefEqProofs -dsimp only [go_sem, ↓reduceIte, Nat.reduceAdd, Nat.reduceMul, Nat.reduceEqDiff, Nat.reduceLeDiff, reduceCtorEq, beq_self_eq_true, Bool.not_true, Bool.not_false, *]; rfl) (fun _ => ?_) (fun _ => ?_)) <;> try contradiction)
    | ((with_reducible refine onG_splitN (fun _ => ?_) (fun _ => ?_)) <;> simp -implicitDefEqProofs -dsimp only [go_sem, ↓reduceIte, Nat.reduceAdd, Nat.reduceMul, Nat.reduceEqDiff, Nat.reduceLeDiff, reduceCtorEq, beq_self_eq_true, Bool.not_true, Bool.not_false, *])
    | ((with_reducible refine onG_split (fun _ => ?_) (fun _ => ?_)) <;> simp -implicitDefEqProofs -dsimp only [go_sem, ↓reduceIte, Nat.reduceAdd, Nat.reduceMul, Nat.reduceEqDiff, Nat.reduceLeDiff, reduceCtorEq, beq_self_eq_true, Bool.not_true, Bool.not_false, *])
    | ((with_reducible refine exP.mk _ (Pick_pf _ _ (by decide)) ?_); simp -implicitDefEqProofs -dsimp only [go_sem, ↓reduceIte, Nat.reduceAdd, Nat.reduceMul, Nat.reduceEqDiff, Nat.reduceLeDiff, reduceCtorEq, beq_self_eq_true, Bool.not_true, Bool.not_false, *])
    | ((with_reducible refine exP.mk _ (Holds_pf _ _ _ _ _) ?_); simp -implicitDefEqProofs -dsimp only [go_sem, ↓reduceIte, Nat.reduceAdd, Nat.reduceMul, Nat.reduceEqDiff, Nat.reduceLeDiff, reduceCtorEq, beq_self_eq_true, Bool.not_true, Bool.not_false, *])
    | ((with_reducible refine exP.mk _ (Turned_pf _) ?_); simp -implicitDefEqProofs -dsimp only [go_sem, ↓reduceIte, Nat.reduceAdd, Nat.reduceMul, Nat.reduceEqDiff, Nat.reduceLeDiff, reduceCtorEq, beq_self_eq_true, Bool.not_true, Bool.not_false, *])
    | ((with_reducible refine exP.mk _ (alive_pf) ?_); simp -implicitDefEqProofs -dsimp only [go_sem, ↓reduceIte, Nat.reduceAdd, Nat.reduceMul, Nat.reduceEqDiff, Nat.reduceLeDiff, reduceCtorEq, beq_self_eq_true, Bool.not_true, Bool.not_false, *]))
  all_goals
    refine EndsF.ret ?_
    simp -implicitDefEqProofs -dsimp only [go_sem, ↓reduceIte, Nat.reduceAdd, Nat.reduceMul, Nat.reduceEqDiff, Nat.reduceLeDiff, reduceCtorEq, beq_self_eq_true, Bool.not_true, Bool.not_false, *]
    exact FR.eq (by simp -implicitDefEqProofs -dsimp only [go_sem, ↓reduceIte, Nat.reduceAdd, Nat.reduceMul, Nat.reduceEqDiff, Nat.reduceLeDiff, reduceCtorEq, beq_self_eq_true, Bool.not_true, Bool.not_false, *]) rfl
end Go.Proofs.Ytpdjmghnimimgaa
