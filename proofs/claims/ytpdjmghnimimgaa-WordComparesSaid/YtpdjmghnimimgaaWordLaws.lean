import Derived.Test.YtpdjmghnimimgaaWord
import Derived.Test.YtpdjmghnimimgaaVsR
/-! Chapter 1: the laws. -/
set_option maxRecDepth 100000
set_option linter.unusedSimpArgs false
set_option linter.unusedVariables false
namespace Go.Proofs.Ytpdjmghnimimgaa
open Go.Vs
theorem i64 {P : Program} {t : TypeId} {xs : List AV} (hu : P.underlying t = some (.int .i64)) (h : HasT P 12 t xs) : ∃ i, pk P t xs = .int .i64 i ∧ -9223372036854775808 ≤ i ∧ i ≤ 9223372036854775807 := by
  obtain ⟨i, h1, h2⟩ := HasT.int_ hu h
  exact ⟨i, h1, by simpa [IntKind.min, IntKind.max, IntKind.signed, IntKind.bits] using h2⟩
theorem i32 {P : Program} {t : TypeId} {xs : List AV} (hu : P.underlying t = some (.int .i32)) (h : HasT P 12 t xs) : ∃ i, pk P t xs = .int .i32 i ∧ -2147483648 ≤ i ∧ i ≤ 2147483647 := by
  obtain ⟨i, h1, h2⟩ := HasT.int_ hu h
  exact ⟨i, h1, by simpa [IntKind.min, IntKind.max, IntKind.signed, IntKind.bits] using h2⟩
theorem flags_ty {xs : List AV} (h : HasT Try.prog 12 23 xs) : ∃ z s c o, pk Try.prog 23 xs = .agg [.bool z, .bool s, .bool c, .bool o] := by
  simp only [HasT, HasT.HasF, Try.underlying23, Try.underlying4] at h
  obtain ⟨_, _, rfl, ⟨z, rfl⟩, _, _, rfl, ⟨s, rfl⟩, _, _, rfl, ⟨c, rfl⟩, _, _, rfl, ⟨o, rfl⟩, rfl⟩ := h
  exact ⟨z, s, c, o, by simp [pk, v_agg23]⟩
theorem wordDoes_law (x0 : List AV) (t0 : HasT Try.prog 12 3 x0) (x1 : List AV) (t1 : HasT Try.prog 12 2 x1) (x2 : List AV) (t2 : HasT Try.prog 12 2 x2) :
    PureF Try.prog 3 [pk Try.prog 3 x0, pk Try.prog 2 x1, pk Try.prog 2 x2] (.bool true) := by
  obtain ⟨op, e0, _⟩ := i64 Try.underlying3 t0
  obtain ⟨a, e1, _⟩ := i64 Try.underlying2 t1
  obtain ⟨b, e2, _⟩ := i64 Try.underlying2 t2
  rw [e0, e1, e2]
  refine PureF.of Try.func3 rfl Try.ntmps3 (Nat.le_of_ble_eq_true rfl) ?_
  simp -implicitDefEqProofs -dsimp only [go_sem, ↓reduceIte, Nat.reduceAdd, Nat.reduceMul, Nat.reduceEqDiff, Nat.reduceLeDiff, reduceCtorEq, beq_self_eq_true, Bool.not_true, Bool.not_false, *]
  repeat' (first
    | (with_reducible refine W.seq ?_)
    | ((with_reducible refine W.region_ ?_); refine ⟨by rfl, ?_⟩; simp -implicitDefEqProofs -dsimp only [go_sem, ↓reduceIte, Nat.reduceAdd, Nat.reduceMul, Nat.reduceEqDiff, Nat.reduceLeDiff, reduceCtorEq, beq_self_eq_true, Bool.not_true, Bool.not_false, *])
    | ((with_reducible refine W.regionD_ ?_); refine ⟨v_mixed, by rfl, by kernel_rfl, by kernel_rfl, ?_⟩; simp -implicitDefEqProofs -dsimp only [go_sem, ↓reduceIte, Nat.reduceAdd, Nat.reduceMul, Nat.reduceEqDiff, Nat.reduceLeDiff, reduceCtorEq, beq_self_eq_true, Bool.not_true, Bool.not_false, *])
    | (with_reducible refine W.block ?_)
    | ((with_reducible refine W.skip ?_); try simp -implicitDefEqProofs -dsimp only [go_sem, ↓reduceIte, Nat.reduceAdd, Nat.reduceMul, Nat.reduceEqDiff, Nat.reduceLeDiff, reduceCtorEq, beq_self_eq_true, Bool.not_true, Bool.not_false, *])
    | ((with_reducible refine W.exit ?_); try simp -implicitDefEqProofs -dsimp only [go_sem, ↓reduceIte, Nat.reduceAdd, Nat.reduceMul, Nat.reduceEqDiff, Nat.reduceLeDiff, reduceCtorEq, beq_self_eq_true, Bool.not_true, Bool.not_false, *])
    | ((with_reducible refine W.ret ?_); try simp -implicitDefEqProofs -dsimp only [go_sem, ↓reduceIte, Nat.reduceAdd, Nat.reduceMul, Nat.reduceEqDiff, Nat.reduceLeDiff, reduceCtorEq, beq_self_eq_true, Bool.not_true, Bool.not_false, *])
    | ((refine W.condN _ (by simp -implicitDefEqProofs -dsimp only [go_sem, ↓reduceIte, Nat.reduceAdd, Nat.reduceMul, Nat.reduceEqDiff, Nat.reduceLeDiff, reduceCtorEq, beq_self_eq_true, Bool.not_true, Bool.not_false, *]; rfl) (fun _ => ?_) (fun _ => ?_)) <;> try contradiction)
    | ((refine W.cond _ (by simp -implicitDefEqProofs -dsimp only [go_sem, ↓reduceIte, Nat.reduceAdd, Nat.reduceMul, Nat.reduceEqDiff, Nat.reduceLeDiff, reduceCtorEq, beq_self_eq_true, Bool.not_true, Bool.not_false, *]; rfl) (fun _ => ?_) (fun _ => ?_)) <;> try contradiction)
    | ((with_reducible refine onG_splitN (fun _ => ?_) (fun _ => ?_)) <;> simp -implicitDefEqProofs -dsimp only [go_sem, ↓reduceIte, Nat.reduceAdd, Nat.reduceMul, Nat.reduceEqDiff, Nat.reduceLeDiff, reduceCtorEq, beq_self_eq_true, Bool.not_true, Bool.not_false, *])
    | ((with_reducible refine onG_split (fun _ => ?_) (fun _ => ?_)) <;> simp -implicitDefEqProofs -dsimp only [go_sem, ↓reduceIte, Nat.reduceAdd, Nat.reduceMul, Nat.reduceEqDiff, Nat.reduceLeDiff, reduceCtorEq, beq_self_eq_true, Bool.not_true, Bool.not_false, *])
    | ((with_reducible refine exP.mk _ (Do_pf _ _ _) ?_); simp -implicitDefEqProofs -dsimp only [go_sem, ↓reduceIte, Nat.reduceAdd, Nat.reduceMul, Nat.reduceEqDiff, Nat.reduceLeDiff, reduceCtorEq, beq_self_eq_true, Bool.not_true, Bool.not_false, *])
    | ((with_reducible refine exP.mk _ (refDo_pf _ _ _) ?_); simp -implicitDefEqProofs -dsimp only [go_sem, ↓reduceIte, Nat.reduceAdd, Nat.reduceMul, Nat.reduceEqDiff, Nat.reduceLeDiff, reduceCtorEq, beq_self_eq_true, Bool.not_true, Bool.not_false, *])
    | ((with_reducible refine exP.mk _ (alive_pf) ?_); simp -implicitDefEqProofs -dsimp only [go_sem, ↓reduceIte, Nat.reduceAdd, Nat.reduceMul, Nat.reduceEqDiff, Nat.reduceLeDiff, reduceCtorEq, beq_self_eq_true, Bool.not_true, Bool.not_false, *]))
  all_goals
    refine EndsF.ret ?_
    simp -implicitDefEqProofs -dsimp only [go_sem, ↓reduceIte, Nat.reduceAdd, Nat.reduceMul, Nat.reduceEqDiff, Nat.reduceLeDiff, reduceCtorEq, beq_self_eq_true, Bool.not_true, Bool.not_false, *]
    exact FR.eq (by simp -implicitDefEqProofs -dsimp only [go_sem, ↓reduceIte, Nat.reduceAdd, Nat.reduceMul, Nat.reduceEqDiff, Nat.reduceLeDiff, reduceCtorEq, beq_self_eq_true, Bool.not_true, Bool.not_false, *]) rfl
theorem wordHolds_law (x0 : List AV) (t0 : HasT Try.prog 12 3 x0) (x1 : List AV) (t1 : HasT Try.prog 12 23 x1) :
    PureF Try.prog 5 [pk Try.prog 3 x0, pk Try.prog 23 x1] (.bool true) := by
  obtain ⟨c, e0, _⟩ := i64 Try.underlying3 t0
  obtain ⟨z, s, cf, o, e1⟩ := flags_ty t1
  rw [e0, e1]
  refine PureF.of Try.func5 rfl Try.ntmps5 (Nat.le_of_ble_eq_true rfl) ?_
  simp -implicitDefEqProofs -dsimp only [go_sem, ↓reduceIte, Nat.reduceAdd, Nat.reduceMul, Nat.reduceEqDiff, Nat.reduceLeDiff, reduceCtorEq, beq_self_eq_true, Bool.not_true, Bool.not_false, *]
  repeat' (first
    | (with_reducible refine W.seq ?_)
    | ((with_reducible refine W.region_ ?_); refine ⟨by rfl, ?_⟩; simp -implicitDefEqProofs -dsimp only [go_sem, ↓reduceIte, Nat.reduceAdd, Nat.reduceMul, Nat.reduceEqDiff, Nat.reduceLeDiff, reduceCtorEq, beq_self_eq_true, Bool.not_true, Bool.not_false, *])
    | ((with_reducible refine W.regionD_ ?_); refine ⟨v_mixed, by rfl, by kernel_rfl, by kernel_rfl, ?_⟩; simp -implicitDefEqProofs -dsimp only [go_sem, ↓reduceIte, Nat.reduceAdd, Nat.reduceMul, Nat.reduceEqDiff, Nat.reduceLeDiff, reduceCtorEq, beq_self_eq_true, Bool.not_true, Bool.not_false, *])
    | (with_reducible refine W.block ?_)
    | ((with_reducible refine W.skip ?_); try simp -implicitDefEqProofs -dsimp only [go_sem, ↓reduceIte, Nat.reduceAdd, Nat.reduceMul, Nat.reduceEqDiff, Nat.reduceLeDiff, reduceCtorEq, beq_self_eq_true, Bool.not_true, Bool.not_false, *])
    | ((with_reducible refine W.exit ?_); try simp -implicitDefEqProofs -dsimp only [go_sem, ↓reduceIte, Nat.reduceAdd, Nat.reduceMul, Nat.reduceEqDiff, Nat.reduceLeDiff, reduceCtorEq, beq_self_eq_true, Bool.not_true, Bool.not_false, *])
    | ((with_reducible refine W.ret ?_); try simp -implicitDefEqProofs -dsimp only [go_sem, ↓reduceIte, Nat.reduceAdd, Nat.reduceMul, Nat.reduceEqDiff, Nat.reduceLeDiff, reduceCtorEq, beq_self_eq_true, Bool.not_true, Bool.not_false, *])
    | ((refine W.condN _ (by simp -implicitDefEqProofs -dsimp only [go_sem, ↓reduceIte, Nat.reduceAdd, Nat.reduceMul, Nat.reduceEqDiff, Nat.reduceLeDiff, reduceCtorEq, beq_self_eq_true, Bool.not_true, Bool.not_false, *]; rfl) (fun _ => ?_) (fun _ => ?_)) <;> try contradiction)
    | ((refine W.cond _ (by simp -implicitDefEqProofs -dsimp only [go_sem, ↓reduceIte, Nat.reduceAdd, Nat.reduceMul, Nat.reduceEqDiff, Nat.reduceLeDiff, reduceCtorEq, beq_self_eq_true, Bool.not_true, Bool.not_false, *]; rfl) (fun _ => ?_) (fun _ => ?_)) <;> try contradiction)
    | ((with_reducible refine onG_splitN (fun _ => ?_) (fun _ => ?_)) <;> simp -implicitDefEqProofs -dsimp only [go_sem, ↓reduceIte, Nat.reduceAdd, Nat.reduceMul, Nat.reduceEqDiff, Nat.reduceLeDiff, reduceCtorEq, beq_self_eq_true, Bool.not_true, Bool.not_false, *])
    | ((with_reducible refine onG_split (fun _ => ?_) (fun _ => ?_)) <;> simp -implicitDefEqProofs -dsimp only [go_sem, ↓reduceIte, Nat.reduceAdd, Nat.reduceMul, Nat.reduceEqDiff, Nat.reduceLeDiff, reduceCtorEq, beq_self_eq_true, Bool.not_true, Bool.not_false, *])
    | ((with_reducible refine exP.mk _ (Holds_pf _ _ _ _ _) ?_); simp -implicitDefEqProofs -dsimp only [go_sem, ↓reduceIte, Nat.reduceAdd, Nat.reduceMul, Nat.reduceEqDiff, Nat.reduceLeDiff, reduceCtorEq, beq_self_eq_true, Bool.not_true, Bool.not_false, *])
    | ((with_reducible refine exP.mk _ (refHolds_pf _ _ _ _ _) ?_); simp -implicitDefEqProofs -dsimp only [go_sem, ↓reduceIte, Nat.reduceAdd, Nat.reduceMul, Nat.reduceEqDiff, Nat.reduceLeDiff, reduceCtorEq, beq_self_eq_true, Bool.not_true, Bool.not_false, *])
    | ((with_reducible refine exP.mk _ (Turned_pf _) ?_); simp -implicitDefEqProofs -dsimp only [go_sem, ↓reduceIte, Nat.reduceAdd, Nat.reduceMul, Nat.reduceEqDiff, Nat.reduceLeDiff, reduceCtorEq, beq_self_eq_true, Bool.not_true, Bool.not_false, *])
    | ((with_reducible refine exP.mk _ (refTurned_pf _) ?_); simp -implicitDefEqProofs -dsimp only [go_sem, ↓reduceIte, Nat.reduceAdd, Nat.reduceMul, Nat.reduceEqDiff, Nat.reduceLeDiff, reduceCtorEq, beq_self_eq_true, Bool.not_true, Bool.not_false, *])
    | ((with_reducible refine exP.mk _ (alive_pf) ?_); simp -implicitDefEqProofs -dsimp only [go_sem, ↓reduceIte, Nat.reduceAdd, Nat.reduceMul, Nat.reduceEqDiff, Nat.reduceLeDiff, reduceCtorEq, beq_self_eq_true, Bool.not_true, Bool.not_false, *]))
  all_goals
    refine EndsF.ret ?_
    simp -implicitDefEqProofs -dsimp only [go_sem, ↓reduceIte, Nat.reduceAdd, Nat.reduceMul, Nat.reduceEqDiff, Nat.reduceLeDiff, reduceCtorEq, beq_self_eq_true, Bool.not_true, Bool.not_false, *]
    exact FR.eq (by simp -implicitDefEqProofs -dsimp only [go_sem, ↓reduceIte, Nat.reduceAdd, Nat.reduceMul, Nat.reduceEqDiff, Nat.reduceLeDiff, reduceCtorEq, beq_self_eq_true, Bool.not_true, Bool.not_false, *]) rfl
theorem add_range (a b : Int) (ha : -9223372036854775808 ≤ a ∧ a ≤ 9223372036854775807) : IntKind.i64.wrap (IntKind.i64.wrap (a + b) - b) = a := by
  simp only [wi]; omega
theorem nat_and_or (n : Nat) : ∀ a b : Nat, a < 2 ^ n → b < 2 ^ n → (a &&& b) + (a ||| b) = a + b := by
  induction n with
  | zero =>
    intro a b ha hb
    obtain rfl : a = 0 := by omega
    obtain rfl : b = 0 := by omega
    rfl
  | succ n ih =>
    intro a b ha hb
    have h := ih (a / 2) (b / 2) (by omega) (by omega)
    have h1 : (a &&& b) / 2 = a / 2 &&& b / 2 := Nat.and_div_two
    have h2 : (a ||| b) / 2 = a / 2 ||| b / 2 := Nat.or_div_two
    have h3 : (a &&& b) % 2 = 1 ↔ a % 2 = 1 ∧ b % 2 = 1 := Nat.and_mod_two_eq_one
    have h4 : (a ||| b) % 2 = 1 ↔ a % 2 = 1 ∨ b % 2 = 1 := Nat.or_mod_two_eq_one
    omega
theorem bv_and_or (a b : BitVec 64) : (a &&& b) + (a ||| b) = a + b := by
  apply BitVec.eq_of_toNat_eq
  rw [BitVec.toNat_add, BitVec.toNat_add, BitVec.toNat_and, BitVec.toNat_or, nat_and_or 64 _ _ a.isLt b.isLt]
theorem wrap_toInt (x : BitVec 64) : IntKind.i64.wrap (x.toNat : Int) = x.toInt := by
  rw [BitVec.toInt_eq_toNat_cond, wi]; have := x.isLt; split <;> omega
theorem bits_and (a b : Int) : Go.bits .and .i64 a b = ((BitVec.ofInt 64 a) &&& (BitVec.ofInt 64 b)).toInt := by
  show IntKind.i64.wrap _ = _; rw [← wrap_toInt]; rfl
theorem bits_or (a b : Int) : Go.bits .or .i64 a b = ((BitVec.ofInt 64 a) ||| (BitVec.ofInt 64 b)).toInt := by
  show IntKind.i64.wrap _ = _; rw [← wrap_toInt]; rfl
theorem bits_xor (a b : Int) : Go.bits .xor .i64 a b = ((BitVec.ofInt 64 a) ^^^ (BitVec.ofInt 64 b)).toInt := by
  show IntKind.i64.wrap _ = _; rw [← wrap_toInt]; rfl
theorem ofInt_wrap (n : Int) : IntKind.i64.wrap n = (BitVec.ofInt 64 n).toInt := by
  rw [BitVec.toInt_ofInt, Int.bmod_def, wi]; simp only [Nat.reducePow]; split <;> omega
theorem id_wrap (a : Int) (ha : -9223372036854775808 ≤ a ∧ a ≤ 9223372036854775807) : (BitVec.ofInt 64 a).toInt = a := by
  rw [← ofInt_wrap, wi]; omega
theorem xor_back (a b : Int) (ha : -9223372036854775808 ≤ a ∧ a ≤ 9223372036854775807) : Go.bits .xor .i64 (Go.bits .xor .i64 a b) b = a := by
  rw [bits_xor (Go.bits .xor .i64 a b), bits_xor a b, BitVec.ofInt_toInt, BitVec.xor_assoc, BitVec.xor_self, BitVec.xor_zero, id_wrap a ha]
theorem and_or_sum (a b : Int) : IntKind.i64.wrap (Go.bits .and .i64 a b + Go.bits .or .i64 a b) = IntKind.i64.wrap (a + b) := by
  rw [ofInt_wrap, ofInt_wrap (a + b), bits_and, bits_or]
  congr 1
  rw [BitVec.ofInt_add, BitVec.ofInt_add, BitVec.ofInt_toInt, BitVec.ofInt_toInt]
  exact bv_and_or _ _
theorem wordBack_law (x0 : List AV) (t0 : HasT Try.prog 12 2 x0) (x1 : List AV) (t1 : HasT Try.prog 12 2 x1) : PureF Try.prog 8 [pk Try.prog 2 x0, pk Try.prog 2 x1] (.bool true) := by
  obtain ⟨a, e0, ha⟩ := i64 Try.underlying2 t0
  obtain ⟨b, e1, hb⟩ := i64 Try.underlying2 t1
  rw [e0, e1]
  have q1 : ((doN 3 (doN 2 a b).1 b).1 == a) = true := by rw [beq_iff_eq]; exact add_range a b ha
  have q2 : ((doN 6 (doN 6 a b).1 b).1 == a) = true := by rw [beq_iff_eq]; exact xor_back a b ha
  have q3 : ((doN 2 (doN 4 a b).1 (doN 5 a b).1).1 == (doN 2 a b).1) = true := by rw [beq_iff_eq]; exact and_or_sum a b
  refine PureF.of Try.func8 rfl Try.ntmps8 (Nat.le_of_ble_eq_true rfl) ?_
  simp -implicitDefEqProofs -dsimp only [go_sem, ↓reduceIte, Nat.reduceAdd, Nat.reduceMul, Nat.reduceEqDiff, Nat.reduceLeDiff, reduceCtorEq, beq_self_eq_true, Bool.not_true, Bool.not_false, *]
  repeat' (first
    | (with_reducible refine W.seq ?_)
    | ((with_reducible refine W.region_ ?_); refine ⟨by rfl, ?_⟩; simp -implicitDefEqProofs -dsimp only [go_sem, ↓reduceIte, Nat.reduceAdd, Nat.reduceMul, Nat.reduceEqDiff, Nat.reduceLeDiff, reduceCtorEq, beq_self_eq_true, Bool.not_true, Bool.not_false, *])
    | ((with_reducible refine W.regionD_ ?_); refine ⟨v_mixed, by rfl, by kernel_rfl, by kernel_rfl, ?_⟩; simp -implicitDefEqProofs -dsimp only [go_sem, ↓reduceIte, Nat.reduceAdd, Nat.reduceMul, Nat.reduceEqDiff, Nat.reduceLeDiff, reduceCtorEq, beq_self_eq_true, Bool.not_true, Bool.not_false, *])
    | (with_reducible refine W.block ?_)
    | ((with_reducible refine W.skip ?_); try simp -implicitDefEqProofs -dsimp only [go_sem, ↓reduceIte, Nat.reduceAdd, Nat.reduceMul, Nat.reduceEqDiff, Nat.reduceLeDiff, reduceCtorEq, beq_self_eq_true, Bool.not_true, Bool.not_false, *])
    | ((with_reducible refine W.exit ?_); try simp -implicitDefEqProofs -dsimp only [go_sem, ↓reduceIte, Nat.reduceAdd, Nat.reduceMul, Nat.reduceEqDiff, Nat.reduceLeDiff, reduceCtorEq, beq_self_eq_true, Bool.not_true, Bool.not_false, *])
    | ((with_reducible refine W.ret ?_); try simp -implicitDefEqProofs -dsimp only [go_sem, ↓reduceIte, Nat.reduceAdd, Nat.reduceMul, Nat.reduceEqDiff, Nat.reduceLeDiff, reduceCtorEq, beq_self_eq_true, Bool.not_true, Bool.not_false, *])
    | ((refine W.condN _ (by simp -implicitDefEqProofs -dsimp only [go_sem, ↓reduceIte, Nat.reduceAdd, Nat.reduceMul, Nat.reduceEqDiff, Nat.reduceLeDiff, reduceCtorEq, beq_self_eq_true, Bool.not_true, Bool.not_false, *]; rfl) (fun _ => ?_) (fun _ => ?_)) <;> try contradiction)
    | ((refine W.cond _ (by simp -implicitDefEqProofs -dsimp only [go_sem, ↓reduceIte, Nat.reduceAdd, Nat.reduceMul, Nat.reduceEqDiff, Nat.reduceLeDiff, reduceCtorEq, beq_self_eq_true, Bool.not_true, Bool.not_false, *]; rfl) (fun _ => ?_) (fun _ => ?_)) <;> try contradiction)
    | ((with_reducible refine onG_splitN (fun _ => ?_) (fun _ => ?_)) <;> simp -implicitDefEqProofs -dsimp only [go_sem, ↓reduceIte, Nat.reduceAdd, Nat.reduceMul, Nat.reduceEqDiff, Nat.reduceLeDiff, reduceCtorEq, beq_self_eq_true, Bool.not_true, Bool.not_false, *])
    | ((with_reducible refine onG_split (fun _ => ?_) (fun _ => ?_)) <;> simp -implicitDefEqProofs -dsimp only [go_sem, ↓reduceIte, Nat.reduceAdd, Nat.reduceMul, Nat.reduceEqDiff, Nat.reduceLeDiff, reduceCtorEq, beq_self_eq_true, Bool.not_true, Bool.not_false, *])
    | ((with_reducible refine exP.mk _ (Do_pf _ _ _) ?_); simp -implicitDefEqProofs -dsimp only [go_sem, ↓reduceIte, Nat.reduceAdd, Nat.reduceMul, Nat.reduceEqDiff, Nat.reduceLeDiff, reduceCtorEq, beq_self_eq_true, Bool.not_true, Bool.not_false, *])
    | ((with_reducible refine exP.mk _ (alive_pf) ?_); simp -implicitDefEqProofs -dsimp only [go_sem, ↓reduceIte, Nat.reduceAdd, Nat.reduceMul, Nat.reduceEqDiff, Nat.reduceLeDiff, reduceCtorEq, beq_self_eq_true, Bool.not_true, Bool.not_false, *]))
  all_goals
    refine EndsF.ret ?_
    simp -implicitDefEqProofs -dsimp only [go_sem, ↓reduceIte, Nat.reduceAdd, Nat.reduceMul, Nat.reduceEqDiff, Nat.reduceLeDiff, reduceCtorEq, beq_self_eq_true, Bool.not_true, Bool.not_false, *]
    exact FR.eq (by simp -implicitDefEqProofs -dsimp only [go_sem, ↓reduceIte, Nat.reduceAdd, Nat.reduceMul, Nat.reduceEqDiff, Nat.reduceLeDiff, reduceCtorEq, beq_self_eq_true, Bool.not_true, Bool.not_false, *]) rfl
end Go.Proofs.Ytpdjmghnimimgaa
