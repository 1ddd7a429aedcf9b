import Derived.Test.YtpdjmghnimimgaaWordLaws2
/-! Chapter 1: more laws. -/
set_option maxRecDepth 100000
set_option linter.unusedSimpArgs false
set_option linter.unusedVariables false
namespace Go.Proofs.Ytpdjmghnimimgaa
open Go.Vs
theorem bne_i (x : Int) : (x != x) = false := bne_self_eq_false x
theorem bne_b (x : Bool) : (x != x) = false := bne_self_eq_false x
theorem wrap_up (i : Nat) (h : i ≤ 4611686018427387904) : IntKind.i64.wrap ((i : Int) + 1) = ((i + 1 : Nat) : Int) := by rw [wi]; omega
theorem wordEach_law (x0 : List AV) (t0 : HasT Try.prog 12 2 x0) (x1 : List AV) (t1 : HasT Try.prog 12 2 x1) : PureF Try.prog 4 [pk Try.prog 2 x0, pk Try.prog 2 x1] (.bool true) := by
  obtain ⟨a, e0, ha⟩ := i64 Try.underlying2 t0
  obtain ⟨b, e1, hb⟩ := i64 Try.underlying2 t1
  rw [e0, e1]
  refine PureF.of Try.func4 rfl Try.ntmps4 (Nat.le_of_ble_eq_true rfl) ?_
  simp -implicitDefEqProofs -dsimp only [go_sem, rowOk, List.range_zero, List.append_eq, List.cons_append, List.nil_append, ↓reduceIte, Nat.reduceAdd, Nat.reduceMul, Nat.reduceEqDiff, Nat.reduceLeDiff, reduceCtorEq, beq_self_eq_true, Bool.not_true, Bool.not_false, *]
  repeat' (first
    | (with_reducible refine W.seq ?_)
    | ((with_reducible refine W.region_ ?_); refine ⟨by rfl, ?_⟩; simp -implicitDefEqProofs -dsimp only [go_sem, rowOk, List.range_zero, List.append_eq, List.cons_append, List.nil_append, ↓reduceIte, Nat.reduceAdd, Nat.reduceMul, Nat.reduceEqDiff, Nat.reduceLeDiff, reduceCtorEq, beq_self_eq_true, Bool.not_true, Bool.not_false, *])
    | ((with_reducible refine W.regionD_ ?_); refine ⟨v_mixed, by rfl, by kernel_rfl, by kernel_rfl, ?_⟩; simp -implicitDefEqProofs -dsimp only [go_sem, rowOk, List.range_zero, List.append_eq, List.cons_append, List.nil_append, ↓reduceIte, Nat.reduceAdd, Nat.reduceMul, Nat.reduceEqDiff, Nat.reduceLeDiff, reduceCtorEq, beq_self_eq_true, Bool.not_true, Bool.not_false, *])
    | (with_reducible refine W.block ?_)
    | ((with_reducible refine W.skip ?_); try simp -implicitDefEqProofs -dsimp only [go_sem, rowOk, List.range_zero, List.append_eq, List.cons_append, List.nil_append, ↓reduceIte, Nat.reduceAdd, Nat.reduceMul, Nat.reduceEqDiff, Nat.reduceLeDiff, reduceCtorEq, beq_self_eq_true, Bool.not_true, Bool.not_false, *])
    | ((with_reducible refine W.exit ?_); try simp -implicitDefEqProofs -dsimp only [go_sem, rowOk, List.range_zero, List.append_eq, List.cons_append, List.nil_append, ↓reduceIte, Nat.reduceAdd, Nat.reduceMul, Nat.reduceEqDiff, Nat.reduceLeDiff, reduceCtorEq, beq_self_eq_true, Bool.not_true, Bool.not_false, *])
    | ((with_reducible refine W.ret ?_); try simp -implicitDefEqProofs -dsimp only [go_sem, rowOk, List.range_zero, List.append_eq, List.cons_append, List.nil_append, ↓reduceIte, Nat.reduceAdd, Nat.reduceMul, Nat.reduceEqDiff, Nat.reduceLeDiff, reduceCtorEq, beq_self_eq_true, Bool.not_true, Bool.not_false, *])
    | ((refine W.condN _ (by simp -implicitDefEqProofs -dsimp only [go_sem, rowOk, List.range_zero, List.append_eq, List.cons_append, List.nil_append, ↓reduceIte, Nat.reduceAdd, Nat.reduceMul, Nat.reduceEqDiff, Nat.reduceLeDiff, reduceCtorEq, beq_self_eq_true, Bool.not_true, Bool.not_false, *]; rfl) (fun _ => ?_) (fun _ => ?_)) <;> try contradiction)
    | ((refine W.cond _ (by simp -implicitDefEqProofs -dsimp only [go_sem, rowOk, List.range_zero, List.append_eq, List.cons_append, List.nil_append, ↓reduceIte, Nat.reduceAdd, Nat.reduceMul, Nat.reduceEqDiff, Nat.reduceLeDiff, reduceCtorEq, beq_self_eq_true, Bool.not_true, Bool.not_false, *]; rfl) (fun _ => ?_) (fun _ => ?_)) <;> try contradiction)
    | ((with_reducible refine onG_splitN (fun _ => ?_) (fun _ => ?_)) <;> simp -implicitDefEqProofs -dsimp only [go_sem, rowOk, List.range_zero, List.append_eq, List.cons_append, List.nil_append, ↓reduceIte, Nat.reduceAdd, Nat.reduceMul, Nat.reduceEqDiff, Nat.reduceLeDiff, reduceCtorEq, beq_self_eq_true, Bool.not_true, Bool.not_false, *])
    | ((with_reducible refine onG_split (fun _ => ?_) (fun _ => ?_)) <;> simp -implicitDefEqProofs -dsimp only [go_sem, rowOk, List.range_zero, List.append_eq, List.cons_append, List.nil_append, ↓reduceIte, Nat.reduceAdd, Nat.reduceMul, Nat.reduceEqDiff, Nat.reduceLeDiff, reduceCtorEq, beq_self_eq_true, Bool.not_true, Bool.not_false, *])
    | ((with_reducible refine exP.mk _ (Do_pf _ _ _) ?_); simp -implicitDefEqProofs -dsimp only [go_sem, rowOk, List.range_zero, List.append_eq, List.cons_append, List.nil_append, ↓reduceIte, Nat.reduceAdd, Nat.reduceMul, Nat.reduceEqDiff, Nat.reduceLeDiff, reduceCtorEq, beq_self_eq_true, Bool.not_true, Bool.not_false, *])
    | ((with_reducible refine exP.mk _ (refDo_pf _ _ _) ?_); simp -implicitDefEqProofs -dsimp only [go_sem, rowOk, List.range_zero, List.append_eq, List.cons_append, List.nil_append, ↓reduceIte, Nat.reduceAdd, Nat.reduceMul, Nat.reduceEqDiff, Nat.reduceLeDiff, reduceCtorEq, beq_self_eq_true, Bool.not_true, Bool.not_false, *])
    | ((with_reducible refine exP.mk _ (alive_pf) ?_); simp -implicitDefEqProofs -dsimp only [go_sem, rowOk, List.range_zero, List.append_eq, List.cons_append, List.nil_append, ↓reduceIte, Nat.reduceAdd, Nat.reduceMul, Nat.reduceEqDiff, Nat.reduceLeDiff, reduceCtorEq, beq_self_eq_true, Bool.not_true, Bool.not_false, *]))
  refine W.loop (α := Nat) (fun i => ([(5, .int .i64 i), (4, .bool false), (0, .int .i64 a), (1, .int .i64 b)], [])) (fun i => 15 - i) 0 (fun i => i ≤ 15) (by omega) (Forget.mk' (by simp -implicitDefEqProofs -dsimp only [go_sem, rowOk, List.range_zero, List.append_eq, List.cons_append, List.nil_append, ↓reduceIte, Nat.reduceAdd, Nat.reduceMul, Nat.reduceEqDiff, Nat.reduceLeDiff, reduceCtorEq, beq_self_eq_true, Bool.not_true, Bool.not_false, *]; rfl)) ?_
  intro i hi
  have q1 := bne_i
  have q2 := bne_b
  simp -implicitDefEqProofs -dsimp only [go_sem, rowOk, List.range_zero, List.append_eq, List.cons_append, List.nil_append, ↓reduceIte, Nat.reduceAdd, Nat.reduceMul, Nat.reduceEqDiff, Nat.reduceLeDiff, reduceCtorEq, beq_self_eq_true, Bool.not_true, Bool.not_false, *]
  repeat' (first
    | (with_reducible refine W.seq ?_)
    | ((with_reducible refine W.region_ ?_); refine ⟨by rfl, ?_⟩; simp -implicitDefEqProofs -dsimp only [go_sem, rowOk, List.range_zero, List.append_eq, List.cons_append, List.nil_append, ↓reduceIte, Nat.reduceAdd, Nat.reduceMul, Nat.reduceEqDiff, Nat.reduceLeDiff, reduceCtorEq, beq_self_eq_true, Bool.not_true, Bool.not_false, *])
    | ((with_reducible refine W.regionD_ ?_); refine ⟨v_mixed, by rfl, by kernel_rfl, by kernel_rfl, ?_⟩; simp -implicitDefEqProofs -dsimp only [go_sem, rowOk, List.range_zero, List.append_eq, List.cons_append, List.nil_append, ↓reduceIte, Nat.reduceAdd, Nat.reduceMul, Nat.reduceEqDiff, Nat.reduceLeDiff, reduceCtorEq, beq_self_eq_true, Bool.not_true, Bool.not_false, *])
    | (with_reducible refine W.block ?_)
    | ((with_reducible refine W.skip ?_); try simp -implicitDefEqProofs -dsimp only [go_sem, rowOk, List.range_zero, List.append_eq, List.cons_append, List.nil_append, ↓reduceIte, Nat.reduceAdd, Nat.reduceMul, Nat.reduceEqDiff, Nat.reduceLeDiff, reduceCtorEq, beq_self_eq_true, Bool.not_true, Bool.not_false, *])
    | ((with_reducible refine W.exit ?_); try simp -implicitDefEqProofs -dsimp only [go_sem, rowOk, List.range_zero, List.append_eq, List.cons_append, List.nil_append, ↓reduceIte, Nat.reduceAdd, Nat.reduceMul, Nat.reduceEqDiff, Nat.reduceLeDiff, reduceCtorEq, beq_self_eq_true, Bool.not_true, Bool.not_false, *])
    | ((with_reducible refine W.ret ?_); try simp -implicitDefEqProofs -dsimp only [go_sem, rowOk, List.range_zero, List.append_eq, List.cons_append, List.nil_append, ↓reduceIte, Nat.reduceAdd, Nat.reduceMul, Nat.reduceEqDiff, Nat.reduceLeDiff, reduceCtorEq, beq_self_eq_true, Bool.not_true, Bool.not_false, *])
    | ((refine W.condN _ (by simp -implicitDefEqProofs -dsimp only [go_sem, rowOk, List.range_zero, List.append_eq, List.cons_append, List.nil_append, ↓reduceIte, Nat.reduceAdd, Nat.reduceMul, Nat.reduceEqDiff, Nat.reduceLeDiff, reduceCtorEq, beq_self_eq_true, Bool.not_true, Bool.not_false, *]; rfl) (fun _ => ?_) (fun _ => ?_)) <;> try contradiction)
    | ((refine W.cond _ (by simp -implicitDefEqProofs -dsimp only [go_sem, rowOk, List.range_zero, List.append_eq, List.cons_append, List.nil_append, ↓reduceIte, Nat.reduceAdd, Nat.reduceMul, Nat.reduceEqDiff, Nat.reduceLeDiff, reduceCtorEq, beq_self_eq_true, Bool.not_true, Bool.not_false, *]; rfl) (fun _ => ?_) (fun _ => ?_)) <;> try contradiction)
    | ((with_reducible refine onG_splitN (fun _ => ?_) (fun _ => ?_)) <;> simp -implicitDefEqProofs -dsimp only [go_sem, rowOk, List.range_zero, List.append_eq, List.cons_append, List.nil_append, ↓reduceIte, Nat.reduceAdd, Nat.reduceMul, Nat.reduceEqDiff, Nat.reduceLeDiff, reduceCtorEq, beq_self_eq_true, Bool.not_true, Bool.not_false, *])
    | ((with_reducible refine onG_split (fun _ => ?_) (fun _ => ?_)) <;> simp -implicitDefEqProofs -dsimp only [go_sem, rowOk, List.range_zero, List.append_eq, List.cons_append, List.nil_append, ↓reduceIte, Nat.reduceAdd, Nat.reduceMul, Nat.reduceEqDiff, Nat.reduceLeDiff, reduceCtorEq, beq_self_eq_true, Bool.not_true, Bool.not_false, *])
    | ((with_reducible refine exP.mk _ (Do_pf _ _ _) ?_); simp -implicitDefEqProofs -dsimp only [go_sem, rowOk, List.range_zero, List.append_eq, List.cons_append, List.nil_append, ↓reduceIte, Nat.reduceAdd, Nat.reduceMul, Nat.reduceEqDiff, Nat.reduceLeDiff, reduceCtorEq, beq_self_eq_true, Bool.not_true, Bool.not_false, *])
    | ((with_reducible refine exP.mk _ (refDo_pf _ _ _) ?_); simp -implicitDefEqProofs -dsimp only [go_sem, rowOk, List.range_zero, List.append_eq, List.cons_append, List.nil_append, ↓reduceIte, Nat.reduceAdd, Nat.reduceMul, Nat.reduceEqDiff, Nat.reduceLeDiff, reduceCtorEq, beq_self_eq_true, Bool.not_true, Bool.not_false, *])
    | ((with_reducible refine exP.mk _ (alive_pf) ?_); simp -implicitDefEqProofs -dsimp only [go_sem, rowOk, List.range_zero, List.append_eq, List.cons_append, List.nil_append, ↓reduceIte, Nat.reduceAdd, Nat.reduceMul, Nat.reduceEqDiff, Nat.reduceLeDiff, reduceCtorEq, beq_self_eq_true, Bool.not_true, Bool.not_false, *]))
  · have hi' : (i : Int) ≤ 14 := of_decide_eq_true ‹_›
    refine ⟨i + 1, by omega, by omega, Forget.mk' ?_⟩
    rw [wrap_up i (by omega)]
    simp -implicitDefEqProofs -dsimp only [go_sem, rowOk, List.range_zero, List.append_eq, List.cons_append, List.nil_append, ↓reduceIte, Nat.reduceAdd, Nat.reduceMul, Nat.reduceEqDiff, Nat.reduceLeDiff, reduceCtorEq, beq_self_eq_true, Bool.not_true, Bool.not_false, *]
  · refine EndsF.ret ?_
    simp -implicitDefEqProofs -dsimp only [go_sem, rowOk, List.range_zero, List.append_eq, List.cons_append, List.nil_append, ↓reduceIte, Nat.reduceAdd, Nat.reduceMul, Nat.reduceEqDiff, Nat.reduceLeDiff, reduceCtorEq, beq_self_eq_true, Bool.not_true, Bool.not_false, *]
    exact FR.eq (by simp -implicitDefEqProofs -dsimp only [go_sem, rowOk, List.range_zero, List.append_eq, List.cons_append, List.nil_append, ↓reduceIte, Nat.reduceAdd, Nat.reduceMul, Nat.reduceEqDiff, Nat.reduceLeDiff, reduceCtorEq, beq_self_eq_true, Bool.not_true, Bool.not_false, *]) rfl
theorem small_all (a b : Int) (ha : -2147483648 ≤ a ∧ a ≤ 2147483647) (hb : -2147483648 ≤ b ∧ b ≤ 2147483647) :
    ((doN 2 a b).1 == a + b) = true ∧ ((doN 3 a b).1 == a - b) = true ∧ (doN 2 a b).2.2.2.2.1 = false ∧ (doN 3 a b).2.2.2.2.1 = false
    ∧ ((doN 2 a b).2.2.1 == decide (a + b < 0)) = true ∧ ((doN 3 a b).2.2.1 == decide (a - b < 0)) = true
    ∧ ((doN 2 a b).2.1 == (a + b == 0)) = true ∧ ((doN 3 a b).2.1 == (a - b == 0)) = true
    ∧ ((doN 3 a b).2.2.2.1 == decide (IntKind.u64.wrap a < IntKind.u64.wrap b)) = true ∧ (doN 2 a b).2.2.2.2.2 = true ∧ (doN 3 a b).2.2.2.2.2 = true := by
  have hd : doN 3 a b = (IntKind.i64.wrap (a - b), IntKind.i64.wrap (a - b) == 0, decide (IntKind.i64.wrap (a - b) < 0), decide (IntKind.u64.wrap a < IntKind.u64.wrap b),
    (decide (a < 0) != decide (b < 0)) && (decide (IntKind.i64.wrap (a - b) < 0) != decide (a < 0)), true) := rfl
  have he : doN 2 a b = (IntKind.i64.wrap (a + b), IntKind.i64.wrap (a + b) == 0, decide (IntKind.i64.wrap (a + b) < 0), decide (IntKind.u64.wrap (IntKind.i64.wrap (a + b)) < IntKind.u64.wrap a),
    !(decide (a < 0) != decide (b < 0)) && (decide (IntKind.i64.wrap (a + b) < 0) != decide (a < 0)), true) := rfl
  have w1 : IntKind.i64.wrap (a + b) = a + b := by rw [wi]; omega
  have w2 : IntKind.i64.wrap (a - b) = a - b := by rw [wi]; omega
  rw [hd, he, w1, w2]
  refine ⟨beq_self_eq_true _, beq_self_eq_true _, ?_, ?_, beq_self_eq_true _, beq_self_eq_true _, beq_self_eq_true _, beq_self_eq_true _, beq_self_eq_true _, rfl, rfl⟩
  · by_cases h1 : a < 0 <;> by_cases h2 : b < 0 <;> by_cases h3 : a + b < 0 <;> simp [h1, h2, h3] <;> omega
  · by_cases h1 : a < 0 <;> by_cases h2 : b < 0 <;> by_cases h3 : a - b < 0 <;> simp [h1, h2, h3] <;> omega
theorem wordSmall_law (x0 : List AV) (t0 : HasT Try.prog 12 21 x0) (x1 : List AV) (t1 : HasT Try.prog 12 21 x1) : PureF Try.prog 9 [pk Try.prog 21 x0, pk Try.prog 21 x1] (.bool true) := by
  obtain ⟨a, e0, ha⟩ := i32 Try.underlying21 t0
  obtain ⟨b, e1, hb⟩ := i32 Try.underlying21 t1
  rw [e0, e1]
  obtain ⟨c1, c2, c3, c4, c5, c6, c7, c8, c9, c10, c11⟩ := small_all a b ha hb
  have wa : IntKind.i64.wrap a = a := by rw [wi]; omega
  have wb : IntKind.i64.wrap b = b := by rw [wi]; omega
  have ws : IntKind.i64.wrap (a + b) = a + b := by rw [wi]; omega
  have wd : IntKind.i64.wrap (a - b) = a - b := by rw [wi]; omega
  refine PureF.of Try.func9 rfl Try.ntmps9 (Nat.le_of_ble_eq_true rfl) ?_
  simp -implicitDefEqProofs -dsimp only [go_sem, rowOk, List.range_zero, List.append_eq, List.cons_append, List.nil_append, ↓reduceIte, Nat.reduceAdd, Nat.reduceMul, Nat.reduceEqDiff, Nat.reduceLeDiff, reduceCtorEq, beq_self_eq_true, Bool.not_true, Bool.not_false, *]
  repeat' (first
    | (with_reducible refine W.seq ?_)
    | ((with_reducible refine W.region_ ?_); refine ⟨by rfl, ?_⟩; simp -implicitDefEqProofs -dsimp only [go_sem, rowOk, List.range_zero, List.append_eq, List.cons_append, List.nil_append, ↓reduceIte, Nat.reduceAdd, Nat.reduceMul, Nat.reduceEqDiff, Nat.reduceLeDiff, reduceCtorEq, beq_self_eq_true, Bool.not_true, Bool.not_false, *])
    | ((with_reducible refine W.regionD_ ?_); refine ⟨v_mixed, by rfl, by kernel_rfl, by kernel_rfl, ?_⟩; simp -implicitDefEqProofs -dsimp only [go_sem, rowOk, List.range_zero, List.append_eq, List.cons_append, List.nil_append, ↓reduceIte, Nat.reduceAdd, Nat.reduceMul, Nat.reduceEqDiff, Nat.reduceLeDiff, reduceCtorEq, beq_self_eq_true, Bool.not_true, Bool.not_false, *])
    | (with_reducible refine W.block ?_)
    | ((with_reducible refine W.skip ?_); try simp -implicitDefEqProofs -dsimp only [go_sem, rowOk, List.range_zero, List.append_eq, List.cons_append, List.nil_append, ↓reduceIte, Nat.reduceAdd, Nat.reduceMul, Nat.reduceEqDiff, Nat.reduceLeDiff, reduceCtorEq, beq_self_eq_true, Bool.not_true, Bool.not_false, *])
    | ((with_reducible refine W.exit ?_); try simp -implicitDefEqProofs -dsimp only [go_sem, rowOk, List.range_zero, List.append_eq, List.cons_append, List.nil_append, ↓reduceIte, Nat.reduceAdd, Nat.reduceMul, Nat.reduceEqDiff, Nat.reduceLeDiff, reduceCtorEq, beq_self_eq_true, Bool.not_true, Bool.not_false, *])
    | ((with_reducible refine W.ret ?_); try simp -implicitDefEqProofs -dsimp only [go_sem, rowOk, List.range_zero, List.append_eq, List.cons_append, List.nil_append, ↓reduceIte, Nat.reduceAdd, Nat.reduceMul, Nat.reduceEqDiff, Nat.reduceLeDiff, reduceCtorEq, beq_self_eq_true, Bool.not_true, Bool.not_false, *])
    | ((refine W.condN _ (by simp -implicitDefEqProofs -dsimp only [go_sem, rowOk, List.range_zero, List.append_eq, List.cons_append, List.nil_append, ↓reduceIte, Nat.reduceAdd, Nat.reduceMul, Nat.reduceEqDiff, Nat.reduceLeDiff, reduceCtorEq, beq_self_eq_true, Bool.not_true, Bool.not_false, *]; rfl) (fun _ => ?_) (fun _ => ?_)) <;> try contradiction)
    | ((refine W.cond _ (by simp -implicitDefEqProofs -dsimp only [go_sem, rowOk, List.range_zero, List.append_eq, List.cons_append, List.nil_append, ↓reduceIte, Nat.reduceAdd, Nat.reduceMul, Nat.reduceEqDiff, Nat.reduceLeDiff, reduceCtorEq, beq_self_eq_true, Bool.not_true, Bool.not_false, *]; rfl) (fun _ => ?_) (fun _ => ?_)) <;> try contradiction)
    | ((with_reducible refine onG_splitN (fun _ => ?_) (fun _ => ?_)) <;> simp -implicitDefEqProofs -dsimp only [go_sem, rowOk, List.range_zero, List.append_eq, List.cons_append, List.nil_append, ↓reduceIte, Nat.reduceAdd, Nat.reduceMul, Nat.reduceEqDiff, Nat.reduceLeDiff, reduceCtorEq, beq_self_eq_true, Bool.not_true, Bool.not_false, *])
    | ((with_reducible refine onG_split (fun _ => ?_) (fun _ => ?_)) <;> simp -implicitDefEqProofs -dsimp only [go_sem, rowOk, List.range_zero, List.append_eq, List.cons_append, List.nil_append, ↓reduceIte, Nat.reduceAdd, Nat.reduceMul, Nat.reduceEqDiff, Nat.reduceLeDiff, reduceCtorEq, beq_self_eq_true, Bool.not_true, Bool.not_false, *])
    | ((with_reducible refine exP.mk _ (Do_pf _ _ _) ?_); simp -implicitDefEqProofs -dsimp only [go_sem, rowOk, List.range_zero, List.append_eq, List.cons_append, List.nil_append, ↓reduceIte, Nat.reduceAdd, Nat.reduceMul, Nat.reduceEqDiff, Nat.reduceLeDiff, reduceCtorEq, beq_self_eq_true, Bool.not_true, Bool.not_false, *])
    | ((with_reducible refine exP.mk _ (alive_pf) ?_); simp -implicitDefEqProofs -dsimp only [go_sem, rowOk, List.range_zero, List.append_eq, List.cons_append, List.nil_append, ↓reduceIte, Nat.reduceAdd, Nat.reduceMul, Nat.reduceEqDiff, Nat.reduceLeDiff, reduceCtorEq, beq_self_eq_true, Bool.not_true, Bool.not_false, *]))
  all_goals
    refine EndsF.ret ?_
    simp -implicitDefEqProofs -dsimp only [go_sem, rowOk, List.range_zero, List.append_eq, List.cons_append, List.nil_append, ↓reduceIte, Nat.reduceAdd, Nat.reduceMul, Nat.reduceEqDiff, Nat.reduceLeDiff, reduceCtorEq, beq_self_eq_true, Bool.not_true, Bool.not_false, *]
    exact FR.eq (by simp -implicitDefEqProofs -dsimp only [go_sem, rowOk, List.range_zero, List.append_eq, List.cons_append, List.nil_append, ↓reduceIte, Nat.reduceAdd, Nat.reduceMul, Nat.reduceEqDiff, Nat.reduceLeDiff, reduceCtorEq, beq_self_eq_true, Bool.not_true, Bool.not_false, *]) rfl
theorem z_eq (a b : Int) (ha : -9223372036854775808 ≤ a ∧ a ≤ 9223372036854775807) (hb : -9223372036854775808 ≤ b ∧ b ≤ 9223372036854775807) : (IntKind.i64.wrap (a - b) == 0) = (a == b) := by
  rw [Bool.eq_iff_iff]; simp only [beq_iff_eq, wi]; omega
theorem l_eq (a b : Int) (ha : -9223372036854775808 ≤ a ∧ a ≤ 9223372036854775807) (hb : -9223372036854775808 ≤ b ∧ b ≤ 9223372036854775807) :
    (decide (IntKind.i64.wrap (a - b) < 0) != ((decide (a < 0) != decide (b < 0)) && (decide (IntKind.i64.wrap (a - b) < 0) != decide (a < 0)))) = decide (a < b) := by
  by_cases h1 : a < 0 <;> by_cases h2 : b < 0 <;> by_cases h3 : IntKind.i64.wrap (a - b) < 0 <;> by_cases h4 : a < b <;> simp [h1, h2, h3, h4] <;> (rw [wi] at h3; omega)
theorem cmp_all (a b : Int) (ha : -9223372036854775808 ≤ a ∧ a ≤ 9223372036854775807) (hb : -9223372036854775808 ≤ b ∧ b ≤ 9223372036854775807) :
    (holdN 1 (doN 7 a b).2.1 (doN 7 a b).2.2.1 (doN 7 a b).2.2.2.1 (doN 7 a b).2.2.2.2.1 != (a == b)) = false ∧ (holdN 2 (doN 7 a b).2.1 (doN 7 a b).2.2.1 (doN 7 a b).2.2.2.1 (doN 7 a b).2.2.2.2.1 != (a != b)) = false
    ∧ (holdN 3 (doN 7 a b).2.1 (doN 7 a b).2.2.1 (doN 7 a b).2.2.2.1 (doN 7 a b).2.2.2.2.1 != decide (a < b)) = false ∧ (holdN 4 (doN 7 a b).2.1 (doN 7 a b).2.2.1 (doN 7 a b).2.2.2.1 (doN 7 a b).2.2.2.2.1 != decide (a ≤ b)) = false
    ∧ (holdN 5 (doN 7 a b).2.1 (doN 7 a b).2.2.1 (doN 7 a b).2.2.2.1 (doN 7 a b).2.2.2.2.1 != decide (a > b)) = false ∧ (holdN 6 (doN 7 a b).2.1 (doN 7 a b).2.2.1 (doN 7 a b).2.2.2.1 (doN 7 a b).2.2.2.2.1 != decide (a ≥ b)) = false
    ∧ (holdN 7 (doN 7 a b).2.1 (doN 7 a b).2.2.1 (doN 7 a b).2.2.2.1 (doN 7 a b).2.2.2.2.1 != decide (IntKind.u64.wrap a < IntKind.u64.wrap b)) = false ∧ (holdN 8 (doN 7 a b).2.1 (doN 7 a b).2.2.1 (doN 7 a b).2.2.2.1 (doN 7 a b).2.2.2.2.1 != decide (IntKind.u64.wrap a ≤ IntKind.u64.wrap b)) = false
    ∧ (holdN 9 (doN 7 a b).2.1 (doN 7 a b).2.2.1 (doN 7 a b).2.2.2.1 (doN 7 a b).2.2.2.2.1 != decide (IntKind.u64.wrap a > IntKind.u64.wrap b)) = false ∧ (holdN 10 (doN 7 a b).2.1 (doN 7 a b).2.2.1 (doN 7 a b).2.2.2.1 (doN 7 a b).2.2.2.2.1 != decide (IntKind.u64.wrap a ≥ IntKind.u64.wrap b)) = false
    ∧ ((doN 7 a b).1 == a) = true ∧ (doN 7 a b).2.2.2.2.2 = true := by
  have hd : doN 7 a b = (a, IntKind.i64.wrap (a - b) == 0, decide (IntKind.i64.wrap (a - b) < 0), decide (IntKind.u64.wrap a < IntKind.u64.wrap b),
    (decide (a < 0) != decide (b < 0)) && (decide (IntKind.i64.wrap (a - b) < 0) != decide (a < 0)), true) := rfl
  rw [hd, z_eq a b ha hb]
  have hl := l_eq a b ha hb
  generalize decide (IntKind.i64.wrap (a - b) < 0) = s at *
  generalize ((decide (a < 0) != decide (b < 0)) && (s != decide (a < 0))) = o at *
  have e1 : (a != b) = !(a == b) := rfl
  have e2 : decide (a ≤ b) = (decide (a < b) || (a == b)) := by rw [Bool.eq_iff_iff]; simp; omega
  have e3 : decide (a > b) = (!decide (a < b) && !(a == b)) := by rw [Bool.eq_iff_iff]; simp; omega
  have e4 : decide (a ≥ b) = !decide (a < b) := by rw [Bool.eq_iff_iff]; simp
  have e5 : decide (IntKind.u64.wrap a ≤ IntKind.u64.wrap b) = (decide (IntKind.u64.wrap a < IntKind.u64.wrap b) || (a == b)) := by
    rw [Bool.eq_iff_iff]; simp [wu]; omega
  have e6 : decide (IntKind.u64.wrap a > IntKind.u64.wrap b) = (!decide (IntKind.u64.wrap a < IntKind.u64.wrap b) && !(a == b)) := by
    rw [Bool.eq_iff_iff]; simp [wu]; omega
  have e7 : decide (IntKind.u64.wrap a ≥ IntKind.u64.wrap b) = !decide (IntKind.u64.wrap a < IntKind.u64.wrap b) := by
    rw [Bool.eq_iff_iff]; simp
  rw [e1, e2, e3, e4, e5, e6, e7, ← hl]
  generalize decide (IntKind.u64.wrap a < IntKind.u64.wrap b) = c
  generalize (a == b) = z
  refine ⟨?_, ?_, ?_, ?_, ?_, ?_, ?_, ?_, ?_, ?_, beq_self_eq_true a, rfl⟩ <;> (clear hl hd e1 e2 e3 e4 e5 e6 e7 ha hb; dsimp only; revert s o c z; decide)
theorem wordCompares_law (x0 : List AV) (t0 : HasT Try.prog 12 2 x0) (x1 : List AV) (t1 : HasT Try.prog 12 2 x1) : PureF Try.prog 7 [pk Try.prog 2 x0, pk Try.prog 2 x1] (.bool true) := by
  obtain ⟨a, e0, ha⟩ := i64 Try.underlying2 t0
  obtain ⟨b, e1, hb⟩ := i64 Try.underlying2 t1
  rw [e0, e1]
  obtain ⟨c1, c2, c3, c4, c5, c6, c7, c8, c9, c10, c11, c12⟩ := cmp_all a b ha hb
  refine PureF.of Try.func7 rfl Try.ntmps7 (Nat.le_of_ble_eq_true rfl) ?_
  simp -implicitDefEqProofs -dsimp only [go_sem, rowOk, List.range_zero, List.append_eq, List.cons_append, List.nil_append, ↓reduceIte, Nat.reduceAdd, Nat.reduceMul, Nat.reduceEqDiff, Nat.reduceLeDiff, reduceCtorEq, beq_self_eq_true, Bool.not_true, Bool.not_false, *]
  repeat' (first
    | (with_reducible refine W.seq ?_)
    | ((with_reducible refine W.region_ ?_); refine ⟨by rfl, ?_⟩; simp -implicitDefEqProofs -dsimp only [go_sem, rowOk, List.range_zero, List.append_eq, List.cons_append, List.nil_append, ↓reduceIte, Nat.reduceAdd, Nat.reduceMul, Nat.reduceEqDiff, Nat.reduceLeDiff, reduceCtorEq, beq_self_eq_true, Bool.not_true, Bool.not_false, *])
    | ((with_reducible refine W.regionD_ ?_); refine ⟨v_mixed, by rfl, by kernel_rfl, by kernel_rfl, ?_⟩; simp -implicitDefEqProofs -dsimp only [go_sem, rowOk, List.range_zero, List.append_eq, List.cons_append, List.nil_append, ↓reduceIte, Nat.reduceAdd, Nat.reduceMul, Nat.reduceEqDiff, Nat.reduceLeDiff, reduceCtorEq, beq_self_eq_true, Bool.not_true, Bool.not_false, *])
    | (with_reducible refine W.block ?_)
    | ((with_reducible refine W.skip ?_); try simp -implicitDefEqProofs -dsimp only [go_sem, rowOk, List.range_zero, List.append_eq, List.cons_append, List.nil_append, ↓reduceIte, Nat.reduceAdd, Nat.reduceMul, Nat.reduceEqDiff, Nat.reduceLeDiff, reduceCtorEq, beq_self_eq_true, Bool.not_true, Bool.not_false, *])
    | ((with_reducible refine W.exit ?_); try simp -implicitDefEqProofs -dsimp only [go_sem, rowOk, List.range_zero, List.append_eq, List.cons_append, List.nil_append, ↓reduceIte, Nat.reduceAdd, Nat.reduceMul, Nat.reduceEqDiff, Nat.reduceLeDiff, reduceCtorEq, beq_self_eq_true, Bool.not_true, Bool.not_false, *])
    | ((with_reducible refine W.ret ?_); try simp -implicitDefEqProofs -dsimp only [go_sem, rowOk, List.range_zero, List.append_eq, List.cons_append, List.nil_append, ↓reduceIte, Nat.reduceAdd, Nat.reduceMul, Nat.reduceEqDiff, Nat.reduceLeDiff, reduceCtorEq, beq_self_eq_true, Bool.not_true, Bool.not_false, *])
    | ((refine W.condN _ (by simp -implicitDefEqProofs -dsimp only [go_sem, rowOk, List.range_zero, List.append_eq, List.cons_append, List.nil_append, ↓reduceIte, Nat.reduceAdd, Nat.reduceMul, Nat.reduceEqDiff, Nat.reduceLeDiff, reduceCtorEq, beq_self_eq_true, Bool.not_true, Bool.not_false, *]; rfl) (fun _ => ?_) (fun _ => ?_)) <;> try contradiction)
    | ((refine W.cond _ (by simp -implicitDefEqProofs -dsimp only [go_sem, rowOk, List.range_zero, List.append_eq, List.cons_append, List.nil_append, ↓reduceIte, Nat.reduceAdd, Nat.reduceMul, Nat.reduceEqDiff, Nat.reduceLeDiff, reduceCtorEq, beq_self_eq_true, Bool.not_true, Bool.not_false, *]; rfl) (fun _ => ?_) (fun _ => ?_)) <;> try contradiction)
    | ((with_reducible refine onG_splitN (fun _ => ?_) (fun _ => ?_)) <;> simp -implicitDefEqProofs -dsimp only [go_sem, rowOk, List.range_zero, List.append_eq, List.cons_append, List.nil_append, ↓reduceIte, Nat.reduceAdd, Nat.reduceMul, Nat.reduceEqDiff, Nat.reduceLeDiff, reduceCtorEq, beq_self_eq_true, Bool.not_true, Bool.not_false, *])
    | ((with_reducible refine onG_split (fun _ => ?_) (fun _ => ?_)) <;> simp -implicitDefEqProofs -dsimp only [go_sem, rowOk, List.range_zero, List.append_eq, List.cons_append, List.nil_append, ↓reduceIte, Nat.reduceAdd, Nat.reduceMul, Nat.reduceEqDiff, Nat.reduceLeDiff, reduceCtorEq, beq_self_eq_true, Bool.not_true, Bool.not_false, *])
    | ((with_reducible refine exP.mk _ (Do_pf _ _ _) ?_); simp -implicitDefEqProofs -dsimp only [go_sem, rowOk, List.range_zero, List.append_eq, List.cons_append, List.nil_append, ↓reduceIte, Nat.reduceAdd, Nat.reduceMul, Nat.reduceEqDiff, Nat.reduceLeDiff, reduceCtorEq, beq_self_eq_true, Bool.not_true, Bool.not_false, *])
    | ((with_reducible refine exP.mk _ (alive_pf) ?_); simp -implicitDefEqProofs -dsimp only [go_sem, rowOk, List.range_zero, List.append_eq, List.cons_append, List.nil_append, ↓reduceIte, Nat.reduceAdd, Nat.reduceMul, Nat.reduceEqDiff, Nat.reduceLeDiff, reduceCtorEq, beq_self_eq_true, Bool.not_true, Bool.not_false, *]))
  refine W.loop (α := Nat) (fun i => ([(11, .int .i64 i), (10, .sl [[.bool (a == b)], [.bool (a != b)], [.bool (decide (a < b))], [.bool (decide (a ≤ b))], [.bool (decide (a > b))], [.bool (decide (a ≥ b))], [.bool (decide (IntKind.u64.wrap a < IntKind.u64.wrap b))], [.bool (decide (IntKind.u64.wrap a ≤ IntKind.u64.wrap b))], [.bool (decide (IntKind.u64.wrap a > IntKind.u64.wrap b))], [.bool (decide (IntKind.u64.wrap a ≥ IntKind.u64.wrap b))]]), (7, .bool true), (5, .int .i64 (doN 7 a b).1), (6, .ptr 0 0 0), (4, .bool false), (0, .int .i64 a), (1, .int .i64 b)],
    [.cells [.bool (doN 7 a b).2.1, .bool (doN 7 a b).2.2.1, .bool (doN 7 a b).2.2.2.1, .bool (doN 7 a b).2.2.2.2.1] 0 23])) (fun i => 10 - i) 0 (fun i => i ≤ 10) (by omega) ?_ ?_
  · refine Forget.mk' ?_
    simp -implicitDefEqProofs -dsimp only [go_sem, rowOk, List.range_zero, List.append_eq, List.cons_append, List.nil_append, ↓reduceIte, Nat.reduceAdd, Nat.reduceMul, Nat.reduceEqDiff, Nat.reduceLeDiff, reduceCtorEq, beq_self_eq_true, Bool.not_true, Bool.not_false, *]
    exact ⟨rfl, rfl⟩
  intro i hi
  have q2 := bne_b
  rcases Nat.lt_or_ge i 10 with hlt | hge
  · have hd : decide ((i : Int) < 10) = true := by simp; omega
    have hu := wrap_up i (by omega)
    have hc : ∃ x : Bool, ([[.bool (a == b)], [.bool (a != b)], [.bool (decide (a < b))], [.bool (decide (a ≤ b))], [.bool (decide (a > b))], [.bool (decide (a ≥ b))], [.bool (decide (IntKind.u64.wrap a < IntKind.u64.wrap b))], [.bool (decide (IntKind.u64.wrap a ≤ IntKind.u64.wrap b))], [.bool (decide (IntKind.u64.wrap a > IntKind.u64.wrap b))], [.bool (decide (IntKind.u64.wrap a ≥ IntKind.u64.wrap b))]] : List (List AV))[i]? = some [.bool x]
        ∧ holdN ((i + 1 : Nat) : Int) (doN 7 a b).2.1 (doN 7 a b).2.2.1 (doN 7 a b).2.2.2.1 (doN 7 a b).2.2.2.2.1 = x := by
      have : i = 0 ∨ i = 1 ∨ i = 2 ∨ i = 3 ∨ i = 4 ∨ i = 5 ∨ i = 6 ∨ i = 7 ∨ i = 8 ∨ i = 9 := by omega
      rcases this with h | h | h | h | h | h | h | h | h | h <;> subst h <;> refine ⟨_, rfl, ?_⟩
      · simpa using c1
      · simpa using c2
      · simpa using c3
      · simpa using c4
      · simpa using c5
      · simpa using c6
      · simpa using c7
      · simpa using c8
      · simpa using c9
      · simpa using c10
    obtain ⟨x, hx, hh⟩ := hc
    have h0 : (0 : Int) ≤ i := by omega
    have ht : (i : Int).toNat = i := rfl
    simp -implicitDefEqProofs -dsimp only [go_sem, rowOk, List.range_zero, List.append_eq, List.cons_append, List.nil_append, ↓reduceIte, Nat.reduceAdd, Nat.reduceMul, Nat.reduceEqDiff, Nat.reduceLeDiff, reduceCtorEq, beq_self_eq_true, Bool.not_true, Bool.not_false, *]
    repeat' (first
    | (with_reducible refine W.seq ?_)
    | ((with_reducible refine W.region_ ?_); refine ⟨by rfl, ?_⟩; simp -implicitDefEqProofs -dsimp only [go_sem, rowOk, List.range_zero, List.append_eq, List.cons_append, List.nil_append, ↓reduceIte, Nat.reduceAdd, Nat.reduceMul, Nat.reduceEqDiff, Nat.reduceLeDiff, reduceCtorEq, beq_self_eq_true, Bool.not_true, Bool.not_false, *])
    | ((with_reducible refine W.regionD_ ?_); refine ⟨v_mixed, by rfl, by kernel_rfl, by kernel_rfl, ?_⟩; simp -implicitDefEqProofs -dsimp only [go_sem, rowOk, List.range_zero, List.append_eq, List.cons_append, List.nil_append, ↓reduceIte, Nat.reduceAdd, Nat.reduceMul, Nat.reduceEqDiff, Nat.reduceLeDiff, reduceCtorEq, beq_self_eq_true, Bool.not_true, Bool.not_false, *])
    | (with_reducible refine W.block ?_)
    | ((with_reducible refine W.skip ?_); try simp -implicitDefEqProofs -dsimp only [go_sem, rowOk, List.range_zero, List.append_eq, List.cons_append, List.nil_append, ↓reduceIte, Nat.reduceAdd, Nat.reduceMul, Nat.reduceEqDiff, Nat.reduceLeDiff, reduceCtorEq, beq_self_eq_true, Bool.not_true, Bool.not_false, *])
    | ((with_reducible refine W.exit ?_); try simp -implicitDefEqProofs -dsimp only [go_sem, rowOk, List.range_zero, List.append_eq, List.cons_append, List.nil_append, ↓reduceIte, Nat.reduceAdd, Nat.reduceMul, Nat.reduceEqDiff, Nat.reduceLeDiff, reduceCtorEq, beq_self_eq_true, Bool.not_true, Bool.not_false, *])
    | ((with_reducible refine W.ret ?_); try simp -implicitDefEqProofs -dsimp only [go_sem, rowOk, List.range_zero, List.append_eq, List.cons_append, List.nil_append, ↓reduceIte, Nat.reduceAdd, Nat.reduceMul, Nat.reduceEqDiff, Nat.reduceLeDiff, reduceCtorEq, beq_self_eq_true, Bool.not_true, Bool.not_false, *])
    | ((refine W.condN _ (by simp -implicitDefEqProofs -dsimp only [go_sem, rowOk, List.range_zero, List.append_eq, List.cons_append, List.nil_append, ↓reduceIte, Nat.reduceAdd, Nat.reduceMul, Nat.reduceEqDiff, Nat.reduceLeDiff, reduceCtorEq, beq_self_eq_true, Bool.not_true, Bool.not_false, *]; rfl) (fun _ => ?_) (fun _ => ?_)) <;> try contradiction)
    | ((refine W.cond _ (by simp -implicitDefEqProofs -dsimp only [go_sem, rowOk, List.range_zero, List.append_eq, List.cons_append, List.nil_append, ↓reduceIte, Nat.reduceAdd, Nat.reduceMul, Nat.reduceEqDiff, Nat.reduceLeDiff, reduceCtorEq, beq_self_eq_true, Bool.not_true, Bool.not_false, *]; rfl) (fun _ => ?_) (fun _ => ?_)) <;> try contradiction)
    | ((with_reducible refine onG_splitN (fun _ => ?_) (fun _ => ?_)) <;> simp -implicitDefEqProofs -dsimp only [go_sem, rowOk, List.range_zero, List.append_eq, List.cons_append, List.nil_append, ↓reduceIte, Nat.reduceAdd, Nat.reduceMul, Nat.reduceEqDiff, Nat.reduceLeDiff, reduceCtorEq, beq_self_eq_true, Bool.not_true, Bool.not_false, *])
    | ((with_reducible refine onG_split (fun _ => ?_) (fun _ => ?_)) <;> simp -implicitDefEqProofs -dsimp only [go_sem, rowOk, List.range_zero, List.append_eq, List.cons_append, List.nil_append, ↓reduceIte, Nat.reduceAdd, Nat.reduceMul, Nat.reduceEqDiff, Nat.reduceLeDiff, reduceCtorEq, beq_self_eq_true, Bool.not_true, Bool.not_false, *])
    | ((with_reducible refine exP.mk _ (Holds_pf _ _ _ _ _) ?_); simp -implicitDefEqProofs -dsimp only [go_sem, rowOk, List.range_zero, List.append_eq, List.cons_append, List.nil_append, ↓reduceIte, Nat.reduceAdd, Nat.reduceMul, Nat.reduceEqDiff, Nat.reduceLeDiff, reduceCtorEq, beq_self_eq_true, Bool.not_true, Bool.not_false, *])
    | ((with_reducible refine exP.mk _ (alive_pf) ?_); simp -implicitDefEqProofs -dsimp only [go_sem, rowOk, List.range_zero, List.append_eq, List.cons_append, List.nil_append, ↓reduceIte, Nat.reduceAdd, Nat.reduceMul, Nat.reduceEqDiff, Nat.reduceLeDiff, reduceCtorEq, beq_self_eq_true, Bool.not_true, Bool.not_false, *]))
    refine ⟨i + 1, by omega, by omega, Forget.mk' ?_⟩
    simp -implicitDefEqProofs -dsimp only [go_sem, rowOk, List.range_zero, List.append_eq, List.cons_append, List.nil_append, ↓reduceIte, Nat.reduceAdd, Nat.reduceMul, Nat.reduceEqDiff, Nat.reduceLeDiff, reduceCtorEq, beq_self_eq_true, Bool.not_true, Bool.not_false, *]
    rfl
  · have hd : decide ((i : Int) < 10) = false := by simp; omega
    simp -implicitDefEqProofs -dsimp only [go_sem, rowOk, List.range_zero, List.append_eq, List.cons_append, List.nil_append, ↓reduceIte, Nat.reduceAdd, Nat.reduceMul, Nat.reduceEqDiff, Nat.reduceLeDiff, reduceCtorEq, beq_self_eq_true, Bool.not_true, Bool.not_false, *]
    repeat' (first
    | (with_reducible refine W.seq ?_)
    | ((with_reducible refine W.region_ ?_); refine ⟨by rfl, ?_⟩; simp -implicitDefEqProofs -dsimp only [go_sem, rowOk, List.range_zero, List.append_eq, List.cons_append, List.nil_append, ↓reduceIte, Nat.reduceAdd, Nat.reduceMul, Nat.reduceEqDiff, Nat.reduceLeDiff, reduceCtorEq, beq_self_eq_true, Bool.not_true, Bool.not_false, *])
    | ((with_reducible refine W.regionD_ ?_); refine ⟨v_mixed, by rfl, by kernel_rfl, by kernel_rfl, ?_⟩; simp -implicitDefEqProofs -dsimp only [go_sem, rowOk, List.range_zero, List.append_eq, List.cons_append, List.nil_append, ↓reduceIte, Nat.reduceAdd, Nat.reduceMul, Nat.reduceEqDiff, Nat.reduceLeDiff, reduceCtorEq, beq_self_eq_true, Bool.not_true, Bool.not_false, *])
    | (with_reducible refine W.block ?_)
    | ((with_reducible refine W.skip ?_); try simp -implicitDefEqProofs -dsimp only [go_sem, rowOk, List.range_zero, List.append_eq, List.cons_append, List.nil_append, ↓reduceIte, Nat.reduceAdd, Nat.reduceMul, Nat.reduceEqDiff, Nat.reduceLeDiff, reduceCtorEq, beq_self_eq_true, Bool.not_true, Bool.not_false, *])
    | ((with_reducible refine W.exit ?_); try simp -implicitDefEqProofs -dsimp only [go_sem, rowOk, List.range_zero, List.append_eq, List.cons_append, List.nil_append, ↓reduceIte, Nat.reduceAdd, Nat.reduceMul, Nat.reduceEqDiff, Nat.reduceLeDiff, reduceCtorEq, beq_self_eq_true, Bool.not_true, Bool.not_false, *])
    | ((with_reducible refine W.ret ?_); try simp -implicitDefEqProofs -dsimp only [go_sem, rowOk, List.range_zero, List.append_eq, List.cons_append, List.nil_append, ↓reduceIte, Nat.reduceAdd, Nat.reduceMul, Nat.reduceEqDiff, Nat.reduceLeDiff, reduceCtorEq, beq_self_eq_true, Bool.not_true, Bool.not_false, *])
    | ((refine W.condN _ (by simp -implicitDefEqProofs -dsimp only [go_sem, rowOk, List.range_zero, List.append_eq, List.cons_append, List.nil_append, ↓reduceIte, Nat.reduceAdd, Nat.reduceMul, Nat.reduceEqDiff, Nat.reduceLeDiff, reduceCtorEq, beq_self_eq_true, Bool.not_true, Bool.not_false, *]; rfl) (fun _ => ?_) (fun _ => ?_)) <;> try contradiction)
    | ((refine W.cond _ (by simp -implicitDefEqProofs -dsimp only [go_sem, rowOk, List.range_zero, List.append_eq, List.cons_append, List.nil_append, ↓reduceIte, Nat.reduceAdd, Nat.reduceMul, Nat.reduceEqDiff, Nat.reduceLeDiff, reduceCtorEq, beq_self_eq_true, Bool.not_true, Bool.not_false, *]; rfl) (fun _ => ?_) (fun _ => ?_)) <;> try contradiction)
    | ((with_reducible refine onG_splitN (fun _ => ?_) (fun _ => ?_)) <;> simp -implicitDefEqProofs -dsimp only [go_sem, rowOk, List.range_zero, List.append_eq, List.cons_append, List.nil_append, ↓reduceIte, Nat.reduceAdd, Nat.reduceMul, Nat.reduceEqDiff, Nat.reduceLeDiff, reduceCtorEq, beq_self_eq_true, Bool.not_true, Bool.not_false, *])
    | ((with_reducible refine onG_split (fun _ => ?_) (fun _ => ?_)) <;> simp -implicitDefEqProofs -dsimp only [go_sem, rowOk, List.range_zero, List.append_eq, List.cons_append, List.nil_append, ↓reduceIte, Nat.reduceAdd, Nat.reduceMul, Nat.reduceEqDiff, Nat.reduceLeDiff, reduceCtorEq, beq_self_eq_true, Bool.not_true, Bool.not_false, *])
    | ((with_reducible refine exP.mk _ (Holds_pf _ _ _ _ _) ?_); simp -implicitDefEqProofs -dsimp only [go_sem, rowOk, List.range_zero, List.append_eq, List.cons_append, List.nil_append, ↓reduceIte, Nat.reduceAdd, Nat.reduceMul, Nat.reduceEqDiff, Nat.reduceLeDiff, reduceCtorEq, beq_self_eq_true, Bool.not_true, Bool.not_false, *])
    | ((with_reducible refine exP.mk _ (alive_pf) ?_); simp -implicitDefEqProofs -dsimp only [go_sem, rowOk, List.range_zero, List.append_eq, List.cons_append, List.nil_append, ↓reduceIte, Nat.reduceAdd, Nat.reduceMul, Nat.reduceEqDiff, Nat.reduceLeDiff, reduceCtorEq, beq_self_eq_true, Bool.not_true, Bool.not_false, *]))
    all_goals
      refine EndsF.ret ?_
      simp -implicitDefEqProofs -dsimp only [go_sem, rowOk, List.range_zero, List.append_eq, List.cons_append, List.nil_append, ↓reduceIte, Nat.reduceAdd, Nat.reduceMul, Nat.reduceEqDiff, Nat.reduceLeDiff, reduceCtorEq, beq_self_eq_true, Bool.not_true, Bool.not_false, *]
      exact FR.eq (by simp -implicitDefEqProofs -dsimp only [go_sem, rowOk, List.range_zero, List.append_eq, List.cons_append, List.nil_append, ↓reduceIte, Nat.reduceAdd, Nat.reduceMul, Nat.reduceEqDiff, Nat.reduceLeDiff, reduceCtorEq, beq_self_eq_true, Bool.not_true, Bool.not_false, *]) rfl
end Go.Proofs.Ytpdjmghnimimgaa
