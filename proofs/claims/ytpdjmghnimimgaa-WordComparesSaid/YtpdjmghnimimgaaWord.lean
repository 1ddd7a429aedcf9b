import Derived.Test.YtpdjmghnimimgaaVFacts
/-! Chapter 1: what the functions of word, and of the reference, tell. -/
set_option maxRecDepth 100000
set_option linter.unusedSimpArgs false
set_option linter.unusedVariables false
namespace Go.Proofs.Ytpdjmghnimimgaa
open Go.Vs
theorem wu (n : Int) : IntKind.u64.wrap n = n % 18446744073709551616 := by simp [IntKind.wrap, IntKind.bits, IntKind.signed]
theorem wi (n : Int) : IntKind.i64.wrap n = (n + 9223372036854775808) % 18446744073709551616 - 9223372036854775808 := by
  simp only [IntKind.wrap, IntKind.bits, IntKind.signed, Bool.true_and, decide_eq_true_eq, ge_iff_le]
  split <;> omega
theorem wr_add (x y : Int) : IntKind.i64.wrap (IntKind.u64.wrap (IntKind.u64.wrap x + IntKind.u64.wrap y)) = IntKind.i64.wrap (x + y) := by
  simp only [wu, wi]; omega
theorem wr_sub (x y : Int) : IntKind.i64.wrap (IntKind.u64.wrap (IntKind.u64.wrap x - IntKind.u64.wrap y)) = IntKind.i64.wrap (x - y) := by
  simp only [wu, wi]; omega
theorem wr_u (x y : Int) : IntKind.u64.wrap (IntKind.u64.wrap x + IntKind.u64.wrap y) = IntKind.u64.wrap (IntKind.i64.wrap (x + y)) := by
  simp only [wu, wi]; omega
theorem wr_iu (n : Int) : IntKind.i64.wrap (IntKind.u64.wrap (IntKind.i64.wrap n)) = IntKind.i64.wrap n := by
  simp only [wu, wi]; omega
theorem wr_iu2 (n : Int) : IntKind.i64.wrap (IntKind.u64.wrap n) = IntKind.i64.wrap n := by
  simp only [wu, wi]; omega
theorem beq_bne (x y : Bool) : (x == y) = !(x != y) := by cases x <;> cases y <;> rfl
theorem FR.eq {h : Hp} {r r' : AV} (hp : pureB r = true) (e : r = r') : FR h r r' := e ▸ FR.pure hp

/-- What is reckoned: the number, Z, S, C, O, whether there is such an op. -/
def doN (op a b : Int) : Int × Bool × Bool × Bool × Bool × Bool :=
  bif op == 2 then (IntKind.i64.wrap (a + b), IntKind.i64.wrap (a + b) == 0, decide (IntKind.i64.wrap (a + b) < 0), decide (IntKind.u64.wrap (IntKind.i64.wrap (a + b)) < IntKind.u64.wrap a),
    !(decide (a < 0) != decide (b < 0)) && (decide (IntKind.i64.wrap (a + b) < 0) != decide (a < 0)), true)
  else bif op == 3 || op == 7 then ((bif op == 7 then a else IntKind.i64.wrap (a - b)), IntKind.i64.wrap (a - b) == 0, decide (IntKind.i64.wrap (a - b) < 0), decide (IntKind.u64.wrap a < IntKind.u64.wrap b),
    (decide (a < 0) != decide (b < 0)) && (decide (IntKind.i64.wrap (a - b) < 0) != decide (a < 0)), true)
  else bif op == 4 then (Go.bits .and .i64 a b, Go.bits .and .i64 a b == 0, decide (Go.bits .and .i64 a b < 0), false, false, true)
  else bif op == 5 then (Go.bits .or .i64 a b, Go.bits .or .i64 a b == 0, decide (Go.bits .or .i64 a b < 0), false, false, true)
  else bif op == 6 then (Go.bits .xor .i64 a b, Go.bits .xor .i64 a b == 0, decide (Go.bits .xor .i64 a b < 0), false, false, true)
  else (0, false, false, false, false, false)
abbrev doR (q : Int × Bool × Bool × Bool × Bool × Bool) : AV := .tuple [.int .i64 q.1, .agg [.bool q.2.1, .bool q.2.2.1, .bool q.2.2.2.1, .bool q.2.2.2.2.1], .bool q.2.2.2.2.2]

theorem flags_pf (r : Int) (c o : Bool) : PureF Try.prog 36 [.int .i64 r, .bool c, .bool o] (.agg [.bool (r == 0), .bool (decide (r < 0)), .bool c, .bool o]) := by
  refine PureF.of Try.func36 rfl Try.ntmps36 (Nat.le_of_ble_eq_true rfl) ?_
  simp -implicitDefEqProofs -dsimp only [go_sem, ↓reduceIte, Nat.reduceAdd, Nat.reduceMul, Nat.reduceEqDiff, Nat.reduceLeDiff, reduceCtorEq, beq_self_eq_true, Bool.not_true, Bool.not_false, *]
  repeat' (first
    | (with_reducible refine W.seq ?_)
    | ((with_reducible refine W.region_ ?_); refine ⟨by rfl, ?_⟩; simp -implicitDefEqProofs -dsimp only [go_sem, ↓reduceIte, Nat.reduceAdd, Nat.reduceMul, Nat.reduceEqDiff, Nat.reduceLeDiff, reduceCtorEq, beq_self_eq_true, Bool.not_true, Bool.not_false, *])
    | ((with_reducible refine W.regionD_ ?_); refine ⟨v_mixed, by rfl, by kernel_rfl, by kernel_rfl, ?_⟩; simp -implicitDefEqProofs -dsimp only [go_sem, ↓reduceIte, Nat.reduceAdd, Nat.reduceMul, Nat.reduceEqDiff, Nat.reduceLeDiff, reduceCtorEq, beq_self_eq_true, Bool.not_true, Bool.not_false, *])
    | (with_reducible refine W.block ?_)
    | ((with_reducible refine W.skip ?_); try simp -implicitDefEqProofs -dsimp only [go_sem, ↓reduceIte, Nat.reduceAdd, Nat.reduceMul, Nat.reduceEqDiff, Nat.reduceLeDiff, reduceCtorEq, beq_self_eq_true, Bool.not_true, Bool.not_false, *])
    | ((with_reducible refine W.exit ?_); try simp -implicitDefEqProofs -dsimp only [go_sem, ↓reduceIte, Nat.reduceAdd, Nat.reduceMul, Nat.reduceEqDiff, Nat.reduceLeDiff, reduceCtorEq, beq_self_eq_true, Bool.not_true, Bool.not_false, *])
    | ((with_reducible refine W.ret ?_); try simp -implicitDefEqProofs -dsimp only [go_sem, ↓reduceIte, Nat.reduceAdd, Nat.reduceMul, Nat.reduceEqDiff, Nat.reduceLeDiff, reduceCtorEq, beq_self_eq_true, Bool.not_true, Bool.not_false, *])
    | ((refine W.condN _ (by simp -implicitDefEqProofs -dsimp only [go_sem, ↓reduceIte, Nat.reduceAdd, Nat.reduceMul, Nat.reduceEqDiff, Nat.reduceLeDiff, reduceCtorEq, beq_self_eq_true, Bool.not_true, Bool.not_false, *]; rfl) (fun _ => ?_) (fun _ => ?_)) <;> try contradiction)
    | ((refine W.cond _ (by simp -implicitDefEqProofs -dsimp only [go_sem, ↓reduceIte, Nat.reduceAdd, Nat.reduceMul, Nat.reduceEqDiff, Nat.reduceLeDiff, reduceCtorEq, beq_self_eq_true, Bool.not_true, Bool.not_false, *]; rfl) (fun _ => ?_) (fun _ => ?_)) <;> try contradiction)
    | ((with_reducible refine onG_splitN (fun _ => ?_) (fun _ => ?_)) <;> simp -implicitDefEqProofs -dsimp only [go_sem, ↓reduceIte, Nat.reduceAdd, Nat.reduceMul, Nat.reduceEqDiff, Nat.reduceLeDiff, reduceCtorEq, beq_self_eq_true, Bool.not_true, Bool.not_false, *])
    | ((with_reducible refine onG_split (fun _ => ?_) (fun _ => ?_)) <;> simp -implicitDefEqProofs -dsimp only [go_sem, ↓reduceIte, Nat.reduceAdd, Nat.reduceMul, Nat.reduceEqDiff, Nat.reduceLeDiff, reduceCtorEq, beq_self_eq_true, Bool.not_true, Bool.not_false, *]))
  refine EndsF.ret ?_
  simp -implicitDefEqProofs -dsimp only [go_sem, ↓reduceIte, Nat.reduceAdd, Nat.reduceMul, Nat.reduceEqDiff, Nat.reduceLeDiff, reduceCtorEq, beq_self_eq_true, Bool.not_true, Bool.not_false, *]
  exact FR.pure (by simp -implicitDefEqProofs -dsimp only [go_sem, ↓reduceIte, Nat.reduceAdd, Nat.reduceMul, Nat.reduceEqDiff, Nat.reduceLeDiff, reduceCtorEq, beq_self_eq_true, Bool.not_true, Bool.not_false, *])
theorem Do_pf (op a b : Int) : PureF Try.prog 15 [.int .i64 op, .int .i64 a, .int .i64 b] (doR (doN op a b)) := by
  refine PureF.of Try.func15 rfl Try.ntmps15 (Nat.le_of_ble_eq_true rfl) ?_
  simp -implicitDefEqProofs -dsimp only [go_sem, ↓reduceIte, Nat.reduceAdd, Nat.reduceMul, Nat.reduceEqDiff, Nat.reduceLeDiff, reduceCtorEq, beq_self_eq_true, Bool.not_true, Bool.not_false, *]
  repeat' (first
    | (with_reducible refine W.seq ?_)
    | ((with_reducible refine W.region_ ?_); refine ⟨by rfl, ?_⟩; simp -implicitDefEqProofs -dsimp only [go_sem, ↓reduceIte, Nat.reduceAdd, Nat.reduceMul, Nat.reduceEqDiff, Nat.reduceLeDiff, reduceCtorEq, beq_self_eq_true, Bool.not_true, Bool.not_false, *])
    | ((with_reducible refine W.regionD_ ?_); refine ⟨v_mixed, by rfl, by kernel_rfl, by kernel_rfl, ?_⟩; simp -implicitDefEqProofs -dsimp only [go_sem, ↓reduceIte, Nat.reduceAdd, Nat.reduceMul, Nat.reduceEqDiff, Nat.reduceLeDiff, reduceCtorEq, beq_self_eq_true, Bool.not_true, Bool.not_false, *])
    | (with_reducible refine W.block ?_)
    | ((with_reducible refine W.skip ?_); try simp -implicitDefEqProofs -dsimp only [go_sem, ↓reduceIte, Nat.reduceAdd, Nat.reduceMul, Nat.reduceEqDiff, Nat.reduceLeDiff, reduceCtorEq, beq_self_eq_true, Bool.not_true, Bool.not_false, *])
    | ((with_reducible refine W.exit ?_); try simp -implicitDefEqProofs -dsimp only [go_sem, ↓reduceIte, Nat.reduceAdd, Nat.reduceMul, Nat.reduceEqDiff, Nat.reduceLeDiff, reduceCtorEq, beq_self_eq_true, Bool.not_true, Bool.not_false, *])
    | ((with_reducible refine W.ret ?_); try simp -implicitDefEqProofs -dsimp only [go_sem, ↓reduceIte, Nat.reduceAdd, Nat.reduceMul, Nat.reduceEqDiff, Nat.reduceLeDiff, reduceCtorEq, beq_self_eq_true, Bool.not_true, Bool.not_false, *])
    | ((refine W.condN _ (by simp -implicitDefEqProofs -dsimp only [go_sem, ↓reduceIte, Nat.reduceAdd, Nat.reduceMul, Nat.reduceEqDiff, Nat.reduceLeDiff, reduceCtorEq, beq_self_eq_true, Bool.not_true, Bool.not_false, *]; rfl) (fun _ => ?_) (fun _ => ?_)) <;> try contradiction)
    | ((refine W.cond _ (by simp -implicitDefEqProofs -dsimp only [go_sem, ↓reduceIte, Nat.reduceAdd, Nat.reduceMul, Nat.reduceEqDiff, Nat.reduceLeDiff, reduceCtorEq, beq_self_eq_true, Bool.not_true, Bool.not_false, *]; rfl) (fun _ => ?_) (fun _ => ?_)) <;> try contradiction)
    | ((with_reducible refine onG_splitN (fun _ => ?_) (fun _ => ?_)) <;> simp -implicitDefEqProofs -dsimp only [go_sem, ↓reduceIte, Nat.reduceAdd, Nat.reduceMul, Nat.reduceEqDiff, Nat.reduceLeDiff, reduceCtorEq, beq_self_eq_true, Bool.not_true, Bool.not_false, *])
    | ((with_reducible refine onG_split (fun _ => ?_) (fun _ => ?_)) <;> simp -implicitDefEqProofs -dsimp only [go_sem, ↓reduceIte, Nat.reduceAdd, Nat.reduceMul, Nat.reduceEqDiff, Nat.reduceLeDiff, reduceCtorEq, beq_self_eq_true, Bool.not_true, Bool.not_false, *])
    | ((with_reducible refine exP.mk _ (flags_pf _ _ _) ?_); simp -implicitDefEqProofs -dsimp only [go_sem, ↓reduceIte, Nat.reduceAdd, Nat.reduceMul, Nat.reduceEqDiff, Nat.reduceLeDiff, reduceCtorEq, beq_self_eq_true, Bool.not_true, Bool.not_false, *]))
  all_goals
    refine EndsF.ret ?_
    simp -implicitDefEqProofs -dsimp only [go_sem, ↓reduceIte, Nat.reduceAdd, Nat.reduceMul, Nat.reduceEqDiff, Nat.reduceLeDiff, reduceCtorEq, beq_self_eq_true, Bool.not_true, Bool.not_false, *]
    refine FR.eq (by simp -implicitDefEqProofs -dsimp only [go_sem, ↓reduceIte, Nat.reduceAdd, Nat.reduceMul, Nat.reduceEqDiff, Nat.reduceLeDiff, reduceCtorEq, beq_self_eq_true, Bool.not_true, Bool.not_false, *]) ?_
    simp only [doN, doR, *, cond_true, cond_false, Bool.true_or, Bool.or_true, Bool.or_false, Bool.false_or, Bool.true_and, Bool.false_and, Bool.and_true, Bool.and_false, Bool.not_true, Bool.not_false, wr_add, wr_sub, wr_u, wr_iu]
theorem refDo_pf (op a b : Int) : PureF Try.prog 16 [.int .i64 op, .int .i64 a, .int .i64 b] (doR (doN op a b)) := by
  refine PureF.of Try.func16 rfl Try.ntmps16 (Nat.le_of_ble_eq_true rfl) ?_
  simp -implicitDefEqProofs -dsimp only [go_sem, ↓reduceIte, Nat.reduceAdd, Nat.reduceMul, Nat.reduceEqDiff, Nat.reduceLeDiff, reduceCtorEq, beq_self_eq_true, Bool.not_true, Bool.not_false, *]
  repeat' (first
    | (with_reducible refine W.seq ?_)
    | ((with_reducible refine W.region_ ?_); refine ⟨by rfl, ?_⟩; simp -implicitDefEqProofs -dsimp only [go_sem, ↓reduceIte, Nat.reduceAdd, Nat.reduceMul, Nat.reduceEqDiff, Nat.reduceLeDiff, reduceCtorEq, beq_self_eq_true, Bool.not_true, Bool.not_false, *])
    | ((with_reducible refine W.regionD_ ?_); refine ⟨v_mixed, by rfl, by kernel_rfl, by kernel_rfl, ?_⟩; simp -implicitDefEqProofs -dsimp only [go_sem, ↓reduceIte, Nat.reduceAdd, Nat.reduceMul, Nat.reduceEqDiff, Nat.reduceLeDiff, reduceCtorEq, beq_self_eq_true, Bool.not_true, Bool.not_false, *])
    | (with_reducible refine W.block ?_)
    | ((with_reducible refine W.skip ?_); try simp -implicitDefEqProofs -dsimp only [go_sem, ↓reduceIte, Nat.reduceAdd, Nat.reduceMul, Nat.reduceEqDiff, Nat.reduceLeDiff, reduceCtorEq, beq_self_eq_true, Bool.not_true, Bool.not_false, *])
    | ((with_reducible refine W.exit ?_); try simp -implicitDefEqProofs -dsimp only [go_sem, ↓reduceIte, Nat.reduceAdd, Nat.reduceMul, Nat.reduceEqDiff, Nat.reduceLeDiff, reduceCtorEq, beq_self_eq_true, Bool.not_true, Bool.not_false, *])
    | ((with_reducible refine W.ret ?_); try simp -implicitDefEqProofs -dsimp only [go_sem, ↓reduceIte, Nat.reduceAdd, Nat.reduceMul, Nat.reduceEqDiff, Nat.reduceLeDiff, reduceCtorEq, beq_self_eq_true, Bool.not_true, Bool.not_false, *])
    | ((refine W.condN _ (by simp -implicitDefEqProofs -dsimp only [go_sem, ↓reduceIte, Nat.reduceAdd, Nat.reduceMul, Nat.reduceEqDiff, Nat.reduceLeDiff, reduceCtorEq, beq_self_eq_true, Bool.not_true, Bool.not_false, *]; rfl) (fun _ => ?_) (fun _ => ?_)) <;> try contradiction)
    | ((refine W.cond _ (by simp -implicitDefEqProofs -dsimp only [go_sem, ↓reduceIte, Nat.reduceAdd, Nat.reduceMul, Nat.reduceEqDiff, Nat.reduceLeDiff, reduceCtorEq, beq_self_eq_true, Bool.not_true, Bool.not_false, *]; rfl) (fun _ => ?_) (fun _ => ?_)) <;> try contradiction)
    | ((with_reducible refine onG_splitN (fun _ => ?_) (fun _ => ?_)) <;> simp -implicitDefEqProofs -dsimp only [go_sem, ↓reduceIte, Nat.reduceAdd, Nat.reduceMul, Nat.reduceEqDiff, Nat.reduceLeDiff, reduceCtorEq, beq_self_eq_true, Bool.not_true, Bool.not_false, *])
    | ((with_reducible refine onG_split (fun _ => ?_) (fun _ => ?_)) <;> simp -implicitDefEqProofs -dsimp only [go_sem, ↓reduceIte, Nat.reduceAdd, Nat.reduceMul, Nat.reduceEqDiff, Nat.reduceLeDiff, reduceCtorEq, beq_self_eq_true, Bool.not_true, Bool.not_false, *]))
  all_goals
    refine EndsF.ret ?_
    simp -implicitDefEqProofs -dsimp only [go_sem, ↓reduceIte, Nat.reduceAdd, Nat.reduceMul, Nat.reduceEqDiff, Nat.reduceLeDiff, reduceCtorEq, beq_self_eq_true, Bool.not_true, Bool.not_false, *]
    refine FR.eq (by simp -implicitDefEqProofs -dsimp only [go_sem, ↓reduceIte, Nat.reduceAdd, Nat.reduceMul, Nat.reduceEqDiff, Nat.reduceLeDiff, reduceCtorEq, beq_self_eq_true, Bool.not_true, Bool.not_false, *]) ?_
    try simp only [beq_bne] at *
    first
    | (simp only [doN, doR, *, cond_true, cond_false, Bool.true_or, Bool.or_true, Bool.or_false, Bool.false_or, Bool.true_and, Bool.false_and, Bool.and_true, Bool.and_false, Bool.not_true, Bool.not_false]; done)
    | (exfalso; simp only [beq_iff_eq] at *; omega)

def holdN (c : Int) (z s cf o : Bool) : Bool :=
  bif c == 1 then z else bif c == 2 then !z else bif c == 3 then s != o else bif c == 4 then (s != o) || z else bif c == 5 then !(s != o) && !z else bif c == 6 then !(s != o)
  else bif c == 7 then cf else bif c == 8 then cf || z else bif c == 9 then !cf && !z else bif c == 10 then !cf else false
def turnN (c : Int) : Int :=
  bif c == 1 then 2 else bif c == 2 then 1 else bif c == 3 then 6 else bif c == 4 then 5 else bif c == 5 then 4 else bif c == 6 then 3 else bif c == 7 then 10 else bif c == 8 then 9 else bif c == 9 then 8 else bif c == 10 then 7 else 0
theorem Holds_pf (c : Int) (z s cf o : Bool) : PureF Try.prog 18 [.int .i64 c, .agg [.bool z, .bool s, .bool cf, .bool o]] (.bool (holdN c z s cf o)) := by
  refine PureF.of Try.func18 rfl Try.ntmps18 (Nat.le_of_ble_eq_true rfl) ?_
  simp -implicitDefEqProofs -dsimp only [go_sem, ↓reduceIte, Nat.reduceAdd, Nat.reduceMul, Nat.reduceEqDiff, Nat.reduceLeDiff, reduceCtorEq, beq_self_eq_true, Bool.not_true, Bool.not_false, *]
  repeat' (first
    | (with_reducible refine W.seq ?_)
    | ((with_reducible refine W.region_ ?_); refine ⟨by rfl, ?_⟩; simp -implicitDefEqProofs -dsimp only [go_sem, ↓reduceIte, Nat.reduceAdd, Nat.reduceMul, Nat.reduceEqDiff, Nat.reduceLeDiff, reduceCtorEq, beq_self_eq_true, Bool.not_true, Bool.not_false, *])
    | ((with_reducible refine W.regionD_ ?_); refine ⟨v_mixed, by rfl, by kernel_rfl, by kernel_rfl, ?_⟩; simp -implicitDefEqProofs -dsimp only [go_sem, ↓reduceIte, Nat.reduceAdd, Nat.reduceMul, Nat.reduceEqDiff, Nat.reduceLeDiff, reduceCtorEq, beq_self_eq_true, Bool.not_true, Bool.not_false, *])
    | (with_reducible refine W.block ?_)
    | ((with_reducible refine W.skip ?_); try simp -implicitDefEqProofs -dsimp only [go_sem, ↓reduceIte, Nat.reduceAdd, Nat.reduceMul, Nat.reduceEqDiff, Nat.reduceLeDiff, reduceCtorEq, beq_self_eq_true, Bool.not_true, Bool.not_false, *])
    | ((with_reducible refine W.exit ?_); try simp -implicitDefEqProofs -dsimp only [go_sem, ↓reduceIte, Nat.reduceAdd, Nat.reduceMul, Nat.reduceEqDiff, Nat.reduceLeDiff, reduceCtorEq, beq_self_eq_true, Bool.not_true, Bool.not_false, *])
    | ((with_reducible refine W.ret ?_); try simp -implicitDefEqProofs -dsimp only [go_sem, ↓reduceIte, Nat.reduceAdd, Nat.reduceMul, Nat.reduceEqDiff, Nat.reduceLeDiff, reduceCtorEq, beq_self_eq_true, Bool.not_true, Bool.not_false, *])
    | ((refine W.condN _ (by simp -implicitDefEqProofs -dsimp only [go_sem, ↓reduceIte, Nat.reduceAdd, Nat.reduceMul, Nat.reduceEqDiff, Nat.reduceLeDiff, reduceCtorEq, beq_self_eq_true, Bool.not_true, Bool.not_false, *]; rfl) (fun _ => ?_) (fun _ => ?_)) <;> try contradiction)
    | ((refine W.cond _ (by simp -implicitDefEqProofs -dsimp only [go_sem, ↓reduceIte, Nat.reduceAdd, Nat.reduceMul, Nat.reduceEqDiff, Nat.reduceLeDiff, reduceCtorEq, beq_self_eq_true, Bool.not_true, Bool.not_false, *]; rfl) (fun _ => ?_) (fun _ => ?_)) <;> try contradiction)
    | ((with_reducible refine onG_splitN (fun _ => ?_) (fun _ => ?_)) <;> simp -implicitDefEqProofs -dsimp only [go_sem, ↓reduceIte, Nat.reduceAdd, Nat.reduceMul, Nat.reduceEqDiff, Nat.reduceLeDiff, reduceCtorEq, beq_self_eq_true, Bool.not_true, Bool.not_false, *])
    | ((with_reducible refine onG_split (fun _ => ?_) (fun _ => ?_)) <;> simp -implicitDefEqProofs -dsimp only [go_sem, ↓reduceIte, Nat.reduceAdd, Nat.reduceMul, Nat.reduceEqDiff, Nat.reduceLeDiff, reduceCtorEq, beq_self_eq_true, Bool.not_true, Bool.not_false, *]))
  all_goals
    refine EndsF.ret ?_
    simp -implicitDefEqProofs -dsimp only [go_sem, ↓reduceIte, Nat.reduceAdd, Nat.reduceMul, Nat.reduceEqDiff, Nat.reduceLeDiff, reduceCtorEq, beq_self_eq_true, Bool.not_true, Bool.not_false, *]
    refine FR.eq (by simp -implicitDefEqProofs -dsimp only [go_sem, ↓reduceIte, Nat.reduceAdd, Nat.reduceMul, Nat.reduceEqDiff, Nat.reduceLeDiff, reduceCtorEq, beq_self_eq_true, Bool.not_true, Bool.not_false, *]) ?_
    simp only [holdN, *, cond_true, cond_false, Bool.true_or, Bool.or_true, Bool.or_false, Bool.false_or, Bool.true_and, Bool.false_and, Bool.and_true, Bool.and_false, Bool.not_true, Bool.not_false]
theorem refHolds_pf (c : Int) (z s cf o : Bool) : PureF Try.prog 19 [.int .i64 c, .agg [.bool z, .bool s, .bool cf, .bool o]] (.bool (holdN c z s cf o)) := by
  refine PureF.of Try.func19 rfl Try.ntmps19 (Nat.le_of_ble_eq_true rfl) ?_
  simp -implicitDefEqProofs -dsimp only [go_sem, ↓reduceIte, Nat.reduceAdd, Nat.reduceMul, Nat.reduceEqDiff, Nat.reduceLeDiff, reduceCtorEq, beq_self_eq_true, Bool.not_true, Bool.not_false, *]
  repeat' (first
    | (with_reducible refine W.seq ?_)
    | ((with_reducible refine W.region_ ?_); refine ⟨by rfl, ?_⟩; simp -implicitDefEqProofs -dsimp only [go_sem, ↓reduceIte, Nat.reduceAdd, Nat.reduceMul, Nat.reduceEqDiff, Nat.reduceLeDiff, reduceCtorEq, beq_self_eq_true, Bool.not_true, Bool.not_false, *])
    | ((with_reducible refine W.regionD_ ?_); refine ⟨v_mixed, by rfl, by kernel_rfl, by kernel_rfl, ?_⟩; simp -implicitDefEqProofs -dsimp only [go_sem, ↓reduceIte, Nat.reduceAdd, Nat.reduceMul, Nat.reduceEqDiff, Nat.reduceLeDiff, reduceCtorEq, beq_self_eq_true, Bool.not_true, Bool.not_false, *])
    | (with_reducible refine W.block ?_)
    | ((with_reducible refine W.skip ?_); try simp -implicitDefEqProofs -dsimp only [go_sem, ↓reduceIte, Nat.reduceAdd, Nat.reduceMul, Nat.reduceEqDiff, Nat.reduceLeDiff, reduceCtorEq, beq_self_eq_true, Bool.not_true, Bool.not_false, *])
    | ((with_reducible refine W.exit ?_); try simp -implicitDefEqProofs -dsimp only [go_sem, ↓reduceIte, Nat.reduceAdd, Nat.reduceMul, Nat.reduceEqDiff, Nat.reduceLeDiff, reduceCtorEq, beq_self_eq_true, Bool.not_true, Bool.not_false, *])
    | ((with_reducible refine W.ret ?_); try simp -implicitDefEqProofs -dsimp only [go_sem, ↓reduceIte, Nat.reduceAdd, Nat.reduceMul, Nat.reduceEqDiff, Nat.reduceLeDiff, reduceCtorEq, beq_self_eq_true, Bool.not_true, Bool.not_false, *])
    | ((refine W.condN _ (by simp -implicitDefEqProofs -dsimp only [go_sem, ↓reduceIte, Nat.reduceAdd, Nat.reduceMul, Nat.reduceEqDiff, Nat.reduceLeDiff, reduceCtorEq, beq_self_eq_true, Bool.not_true, Bool.not_false, *]; rfl) (fun _ => ?_) (fun _ => ?_)) <;> try contradiction)
    | ((refine W.cond _ (by simp -implicitDefEqProofs -dsimp only [go_sem, ↓reduceIte, Nat.reduceAdd, Nat.reduceMul, Nat.reduceEqDiff, Nat.reduceLeDiff, reduceCtorEq, beq_self_eq_true, Bool.not_true, Bool.not_false, *]; rfl) (fun _ => ?_) (fun _ => ?_)) <;> try contradiction)
    | ((with_reducible refine onG_splitN (fun _ => ?_) (fun _ => ?_)) <;> simp -implicitDefEqProofs -dsimp only [go_sem, ↓reduceIte, Nat.reduceAdd, Nat.reduceMul, Nat.reduceEqDiff, Nat.reduceLeDiff, reduceCtorEq, beq_self_eq_true, Bool.not_true, Bool.not_false, *])
    | ((with_reducible refine onG_split (fun _ => ?_) (fun _ => ?_)) <;> simp -implicitDefEqProofs -dsimp only [go_sem, ↓reduceIte, Nat.reduceAdd, Nat.reduceMul, Nat.reduceEqDiff, Nat.reduceLeDiff, reduceCtorEq, beq_self_eq_true, Bool.not_true, Bool.not_false, *]))
  all_goals
    refine EndsF.ret ?_
    simp -implicitDefEqProofs -dsimp only [go_sem, ↓reduceIte, Nat.reduceAdd, Nat.reduceMul, Nat.reduceEqDiff, Nat.reduceLeDiff, reduceCtorEq, beq_self_eq_true, Bool.not_true, Bool.not_false, *]
    refine FR.eq (by simp -implicitDefEqProofs -dsimp only [go_sem, ↓reduceIte, Nat.reduceAdd, Nat.reduceMul, Nat.reduceEqDiff, Nat.reduceLeDiff, reduceCtorEq, beq_self_eq_true, Bool.not_true, Bool.not_false, *]) ?_
    simp only [holdN, *, cond_true, cond_false, Bool.true_or, Bool.or_true, Bool.or_false, Bool.false_or, Bool.true_and, Bool.false_and, Bool.and_true, Bool.and_false, Bool.not_true, Bool.not_false]
theorem Turned_pf (c : Int) : PureF Try.prog 20 [.int .i64 c] (.int .i64 (turnN c)) := by
  refine PureF.of Try.func20 rfl Try.ntmps20 (Nat.le_of_ble_eq_true rfl) ?_
  simp -implicitDefEqProofs -dsimp only [go_sem, ↓reduceIte, Nat.reduceAdd, Nat.reduceMul, Nat.reduceEqDiff, Nat.reduceLeDiff, reduceCtorEq, beq_self_eq_true, Bool.not_true, Bool.not_false, *]
  repeat' (first
    | (with_reducible refine W.seq ?_)
    | ((with_reducible refine W.region_ ?_); refine ⟨by rfl, ?_⟩; simp -implicitDefEqProofs -dsimp only [go_sem, ↓reduceIte, Nat.reduceAdd, Nat.reduceMul, Nat.reduceEqDiff, Nat.reduceLeDiff, reduceCtorEq, beq_self_eq_true, Bool.not_true, Bool.not_false, *])
    | ((with_reducible refine W.regionD_ ?_); refine ⟨v_mixed, by rfl, by kernel_rfl, by kernel_rfl, ?_⟩; simp -implicitDefEqProofs -dsimp only [go_sem, ↓reduceIte, Nat.reduceAdd, Nat.reduceMul, Nat.reduceEqDiff, Nat.reduceLeDiff, reduceCtorEq, beq_self_eq_true, Bool.not_true, Bool.not_false, *])
    | (with_reducible refine W.block ?_)
    | ((with_reducible refine W.skip ?_); try simp -implicitDefEqProofs -dsimp only [go_sem, ↓reduceIte, Nat.reduceAdd, Nat.reduceMul, Nat.reduceEqDiff, Nat.reduceLeDiff, reduceCtorEq, beq_self_eq_true, Bool.not_true, Bool.not_false, *])
    | ((with_reducible refine W.exit ?_); try simp -implicitDefEqProofs -dsimp only [go_sem, ↓reduceIte, Nat.reduceAdd, Nat.reduceMul, Nat.reduceEqDiff, Nat.reduceLeDiff, reduceCtorEq, beq_self_eq_true, Bool.not_true, Bool.not_false, *])
    | ((with_reducible refine W.ret ?_); try simp -implicitDefEqProofs -dsimp only [go_sem, ↓reduceIte, Nat.reduceAdd, Nat.reduceMul, Nat.reduceEqDiff, Nat.reduceLeDiff, reduceCtorEq, beq_self_eq_true, Bool.not_true, Bool.not_false, *])
    | ((refine W.condN _ (by simp -implicitDefEqProofs -dsimp only [go_sem, ↓reduceIte, Nat.reduceAdd, Nat.reduceMul, Nat.reduceEqDiff, Nat.reduceLeDiff, reduceCtorEq, beq_self_eq_true, Bool.not_true, Bool.not_false, *]; rfl) (fun _ => ?_) (fun _ => ?_)) <;> try contradiction)
    | ((refine W.cond _ (by simp -implicitDefEqProofs -dsimp only [go_sem, ↓reduceIte, Nat.reduceAdd, Nat.reduceMul, Nat.reduceEqDiff, Nat.reduceLeDiff, reduceCtorEq, beq_self_eq_true, Bool.not_true, Bool.not_false, *]; rfl) (fun _ => ?_) (fun _ => ?_)) <;> try contradiction)
    | ((with_reducible refine onG_splitN (fun _ => ?_) (fun _ => ?_)) <;> simp -implicitDefEqProofs -dsimp only [go_sem, ↓reduceIte, Nat.reduceAdd, Nat.reduceMul, Nat.reduceEqDiff, Nat.reduceLeDiff, reduceCtorEq, beq_self_eq_true, Bool.not_true, Bool.not_false, *])
    | ((with_reducible refine onG_split (fun _ => ?_) (fun _ => ?_)) <;> simp -implicitDefEqProofs -dsimp only [go_sem, ↓reduceIte, Nat.reduceAdd, Nat.reduceMul, Nat.reduceEqDiff, Nat.reduceLeDiff, reduceCtorEq, beq_self_eq_true, Bool.not_true, Bool.not_false, *]))
  all_goals
    refine EndsF.ret ?_
    simp -implicitDefEqProofs -dsimp only [go_sem, ↓reduceIte, Nat.reduceAdd, Nat.reduceMul, Nat.reduceEqDiff, Nat.reduceLeDiff, reduceCtorEq, beq_self_eq_true, Bool.not_true, Bool.not_false, *]
    refine FR.eq (by simp -implicitDefEqProofs -dsimp only [go_sem, ↓reduceIte, Nat.reduceAdd, Nat.reduceMul, Nat.reduceEqDiff, Nat.reduceLeDiff, reduceCtorEq, beq_self_eq_true, Bool.not_true, Bool.not_false, *]) ?_
    first
    | (simp only [turnN, *, cond_true, cond_false]; done)
    | (simp only [beq_iff_eq] at *; subst_vars; rfl)
theorem refTurned_pf (c : Int) : PureF Try.prog 21 [.int .i64 c] (.int .i64 (turnN c)) := by
  refine PureF.of Try.func21 rfl Try.ntmps21 (Nat.le_of_ble_eq_true rfl) ?_
  simp -implicitDefEqProofs -dsimp only [go_sem, ↓reduceIte, Nat.reduceAdd, Nat.reduceMul, Nat.reduceEqDiff, Nat.reduceLeDiff, reduceCtorEq, beq_self_eq_true, Bool.not_true, Bool.not_false, *]
  repeat' (first
    | (with_reducible refine W.seq ?_)
    | ((with_reducible refine W.region_ ?_); refine ⟨by rfl, ?_⟩; simp -implicitDefEqProofs -dsimp only [go_sem, ↓reduceIte, Nat.reduceAdd, Nat.reduceMul, Nat.reduceEqDiff, Nat.reduceLeDiff, reduceCtorEq, beq_self_eq_true, Bool.not_true, Bool.not_false, *])
    | ((with_reducible refine W.regionD_ ?_); refine ⟨v_mixed, by rfl, by kernel_rfl, by kernel_rfl, ?_⟩; simp -implicitDefEqProofs -dsimp only [go_sem, ↓reduceIte, Nat.reduceAdd, Nat.reduceMul, Nat.reduceEqDiff, Nat.reduceLeDiff, reduceCtorEq, beq_self_eq_true, Bool.not_true, Bool.not_false, *])
    | (with_reducible refine W.block ?_)
    | ((with_reducible refine W.skip ?_); try simp -implicitDefEqProofs -dsimp only [go_sem, ↓reduceIte, Nat.reduceAdd, Nat.reduceMul, Nat.reduceEqDiff, Nat.reduceLeDiff, reduceCtorEq, beq_self_eq_true, Bool.not_true, Bool.not_false, *])
    | ((with_reducible refine W.exit ?_); try simp -implicitDefEqProofs -dsimp only [go_sem, ↓reduceIte, Nat.reduceAdd, Nat.reduceMul, Nat.reduceEqDiff, Nat.reduceLeDiff, reduceCtorEq, beq_self_eq_true, Bool.not_true, Bool.not_false, *])
    | ((with_reducible refine W.ret ?_); try simp -implicitDefEqProofs -dsimp only [go_sem, ↓reduceIte, Nat.reduceAdd, Nat.reduceMul, Nat.reduceEqDiff, Nat.reduceLeDiff, reduceCtorEq, beq_self_eq_true, Bool.not_true, Bool.not_false, *])
    | ((refine W.condN _ (by simp -implicitDefEqProofs -dsimp only [go_sem, ↓reduceIte, Nat.reduceAdd, Nat.reduceMul, Nat.reduceEqDiff, Nat.reduceLeDiff, reduceCtorEq, beq_self_eq_true, Bool.not_true, Bool.not_false, *]; rfl) (fun _ => ?_) (fun _ => ?_)) <;> try contradiction)
    | ((refine W.cond _ (by simp -implicitDefEqProofs -dsimp only [go_sem, ↓reduceIte, Nat.reduceAdd, Nat.reduceMul, Nat.reduceEqDiff, Nat.reduceLeDiff, reduceCtorEq, beq_self_eq_true, Bool.not_true, Bool.not_false, *]; rfl) (fun _ => ?_) (fun _ => ?_)) <;> try contradiction)
    | ((with_reducible refine onG_splitN (fun _ => ?_) (fun _ => ?_)) <;> simp -implicitDefEqProofs -dsimp only [go_sem, ↓reduceIte, Nat.reduceAdd, Nat.reduceMul, Nat.reduceEqDiff, Nat.reduceLeDiff, reduceCtorEq, beq_self_eq_true, Bool.not_true, Bool.not_false, *])
    | ((with_reducible refine onG_split (fun _ => ?_) (fun _ => ?_)) <;> simp -implicitDefEqProofs -dsimp only [go_sem, ↓reduceIte, Nat.reduceAdd, Nat.reduceMul, Nat.reduceEqDiff, Nat.reduceLeDiff, reduceCtorEq, beq_self_eq_true, Bool.not_true, Bool.not_false, *]))
  all_goals
    refine EndsF.ret ?_
    simp -implicitDefEqProofs -dsimp only [go_sem, ↓reduceIte, Nat.reduceAdd, Nat.reduceMul, Nat.reduceEqDiff, Nat.reduceLeDiff, reduceCtorEq, beq_self_eq_true, Bool.not_true, Bool.not_false, *]
    refine FR.eq (by simp -implicitDefEqProofs -dsimp only [go_sem, ↓reduceIte, Nat.reduceAdd, Nat.reduceMul, Nat.reduceEqDiff, Nat.reduceLeDiff, reduceCtorEq, beq_self_eq_true, Bool.not_true, Bool.not_false, *]) ?_
    first
    | (simp only [turnN, *, cond_true, cond_false]; done)
    | (simp only [beq_iff_eq] at *; subst_vars; rfl)
theorem alive_do : PureF Try.prog 15 [.int .i64 2, .int .i64 9223372036854775807, .int .i64 1] (.tuple [.int .i64 (-9223372036854775808), .agg [.bool false, .bool true, .bool false, .bool true], .bool true]) := Do_pf 2 9223372036854775807 1
theorem alive_hold : PureF Try.prog 18 [.int .i64 1, .agg [.bool true, .bool false, .bool false, .bool false]] (.bool true) := Holds_pf 1 true false false false
theorem alive_turn : PureF Try.prog 20 [.int .i64 3] (.int .i64 6) := Turned_pf 3
theorem alive_pf : PureF Try.prog 17 [] (.bool true) := by
  refine PureF.of Try.func17 rfl Try.ntmps17 (Nat.le_of_ble_eq_true rfl) ?_
  simp -implicitDefEqProofs -dsimp only [go_sem, ↓reduceIte, Nat.reduceAdd, Nat.reduceMul, Nat.reduceEqDiff, Nat.reduceLeDiff, reduceCtorEq, beq_self_eq_true, Bool.not_true, Bool.not_false, *]
  repeat' (first
    | (with_reducible refine W.seq ?_)
    | ((with_reducible refine W.region_ ?_); refine ⟨by rfl, ?_⟩; simp -implicitDefEqProofs -dsimp only [go_sem, ↓reduceIte, Nat.reduceAdd, Nat.reduceMul, Nat.reduceEqDiff, Nat.reduceLeDiff, reduceCtorEq, beq_self_eq_true, Bool.not_true, Bool.not_false, *])
    | ((with_reducible refine W.regionD_ ?_); refine ⟨v_mixed, by rfl, by kernel_rfl, by kernel_rfl, ?_⟩; simp -implicitDefEqProofs -dsimp only [go_sem, ↓reduceIte, Nat.reduceAdd, Nat.reduceMul, Nat.reduceEqDiff, Nat.reduceLeDiff, reduceCtorEq, beq_self_eq_true, Bool.not_true, Bool.not_false, *])
    | (with_reducible refine W.block ?_)
    | ((with_reducible refine W.skip ?_); try simp -implicitDefEqProofs -dsimp only [go_sem, ↓reduceIte, Nat.reduceAdd, Nat.reduceMul, Nat.reduceEqDiff, Nat.reduceLeDiff, reduceCtorEq, beq_self_eq_true, Bool.not_true, Bool.not_false, *])
    | ((with_reducible refine W.exit ?_); try simp -implicitDefEqProofs -dsimp only [go_sem, ↓reduceIte, Nat.reduceAdd, Nat.reduceMul, Nat.reduceEqDiff, Nat.reduceLeDiff, reduceCtorEq, beq_self_eq_true, Bool.not_true, Bool.not_false, *])
    | ((with_reducible refine W.ret ?_); try simp -implicitDefEqProofs -dsimp only [go_sem, ↓reduceIte, Nat.reduceAdd, Nat.reduceMul, Nat.reduceEqDiff, Nat.reduceLeDiff, reduceCtorEq, beq_self_eq_true, Bool.not_true, Bool.not_false, *])
    | ((refine W.condN _ (by simp -implicitDefEqProofs -dsimp only [go_sem, ↓reduceIte, Nat.reduceAdd, Nat.reduceMul, Nat.reduceEqDiff, Nat.reduceLeDiff, reduceCtorEq, beq_self_eq_true, Bool.not_true, Bool.not_false, *]; rfl) (fun _ => ?_) (fun _ => ?_)) <;> try contradiction)
    | ((refine W.cond _ (by simp -implicitDefEqProofs -dsimp only [go_sem, ↓reduceIte, Nat.reduceAdd, Nat.reduceMul, Nat.reduceEqDiff, Nat.reduceLeDiff, reduceCtorEq, beq_self_eq_true, Bool.not_true, Bool.not_false, *]; rfl) (fun _ => ?_) (fun _ => ?_)) <;> try contradiction)
    | ((with_reducible refine onG_splitN (fun _ => ?_) (fun _ => ?_)) <;> simp -implicitDefEqProofs -dsimp only [go_sem, ↓reduceIte, Nat.reduceAdd, Nat.reduceMul, Nat.reduceEqDiff, Nat.reduceLeDiff, reduceCtorEq, beq_self_eq_true, Bool.not_true, Bool.not_false, *])
    | ((with_reducible refine onG_split (fun _ => ?_) (fun _ => ?_)) <;> simp -implicitDefEqProofs -dsimp only [go_sem, ↓reduceIte, Nat.reduceAdd, Nat.reduceMul, Nat.reduceEqDiff, Nat.reduceLeDiff, reduceCtorEq, beq_self_eq_true, Bool.not_true, Bool.not_false, *])
    | ((with_reducible refine exP.mk _ (alive_do) ?_); simp -implicitDefEqProofs -dsimp only [go_sem, ↓reduceIte, Nat.reduceAdd, Nat.reduceMul, Nat.reduceEqDiff, Nat.reduceLeDiff, reduceCtorEq, beq_self_eq_true, Bool.not_true, Bool.not_false, *])
    | ((with_reducible refine exP.mk _ (alive_hold) ?_); simp -implicitDefEqProofs -dsimp only [go_sem, ↓reduceIte, Nat.reduceAdd, Nat.reduceMul, Nat.reduceEqDiff, Nat.reduceLeDiff, reduceCtorEq, beq_self_eq_true, Bool.not_true, Bool.not_false, *])
    | ((with_reducible refine exP.mk _ (alive_turn) ?_); simp -implicitDefEqProofs -dsimp only [go_sem, ↓reduceIte, Nat.reduceAdd, Nat.reduceMul, Nat.reduceEqDiff, Nat.reduceLeDiff, reduceCtorEq, beq_self_eq_true, Bool.not_true, Bool.not_false, *]))
  all_goals
    refine EndsF.ret ?_
    simp -implicitDefEqProofs -dsimp only [go_sem, ↓reduceIte, Nat.reduceAdd, Nat.reduceMul, Nat.reduceEqDiff, Nat.reduceLeDiff, reduceCtorEq, beq_self_eq_true, Bool.not_true, Bool.not_false, *]
    refine FR.eq (by simp -implicitDefEqProofs -dsimp only [go_sem, ↓reduceIte, Nat.reduceAdd, Nat.reduceMul, Nat.reduceEqDiff, Nat.reduceLeDiff, reduceCtorEq, beq_self_eq_true, Bool.not_true, Bool.not_false, *]) ?_
    rfl
end Go.Proofs.Ytpdjmghnimimgaa
