import Derived.Test.YtocjejladeeckaaDoorVFacts
import Derived.Test.YtocjejladeeckaaDoorPalA
set_option maxRecDepth 100000
set_option linter.unusedSimpArgs false
set_option linter.unusedVariables false
set_option linter.unusedSectionVars false
namespace Go.Proofs.YtocjejladeeckaaDoor
open Go.Vs
variable [Tab]
theorem palingbook_Short_ok {p0 : ByteArray} {p1 : Int} {r : ByteArray} (hm : palingbook_Short p0 p1 = some r) : PureF Tryd.prog 15 [.str p0, .int .i64 p1] (.str r) := by
  rw [palingbook_Short] at hm
  refine PureF.of Tryd.func15 rfl Tryd.ntmps15 (Nat.le_of_ble_eq_true rfl) ?_
  have e0 : argS 0 [.str p0, .int .i64 p1] = [(0, .str p0), (1, .int .i64 p1)] := rfl
  rw [e0]
  refine W.seqR [] [(0, .str p0), (1, .int .i64 p1)] [] (by rfl) ?_ ?_
  · try simp -implicitDefEqProofs -dsimp only [go_sem, ↓reduceIte, Nat.reduceAdd, Nat.reduceMul, Nat.reduceSub, Nat.reduceEqDiff, Nat.reduceLeDiff, Nat.reduceLT, Nat.reduceBEq, Int.reduceEq, reduceCtorEq]
  obtain ⟨h1, hm⟩ := of_ite hm
  obtain ⟨s2, h3, hm⟩ := of_bind hm
  replace h3 := Option.some.inj h3
  refine W.seqR [] [(4, .str s2)] [] (by rfl) ?_ ?_
  · try simp -implicitDefEqProofs -dsimp only [go_sem, ↓reduceIte, Nat.reduceAdd, Nat.reduceMul, Nat.reduceSub, Nat.reduceEqDiff, Nat.reduceLeDiff, Nat.reduceLT, Nat.reduceBEq, Int.reduceEq, reduceCtorEq, h1, ← h3]
  obtain rfl := Option.some.inj hm
  refine W.ret ?_
  try simp only [thenQ_normal, thenQ_exit, thenQ_ret, blockQ_normal, blockQ_here, blockQ_ret, blockQ_exit, ↓reduceIte, Nat.reduceEqDiff]
  refine EndsF.retW [] ?_
  simp -implicitDefEqProofs -dsimp only [go_sem, ↓reduceIte, Nat.reduceAdd, Nat.reduceMul, Nat.reduceSub, Nat.reduceEqDiff, Nat.reduceLeDiff, Nat.reduceLT, Nat.reduceBEq, Int.reduceEq, reduceCtorEq, h1]

theorem palingbook_Pick_ok {p0 : Int} {p1 : Int} {r : Int} (hm : palingbook_Pick p0 p1 = some r) : PureF Tryd.prog 22 [.int .i64 p0, .int .i64 p1] (.int .i64 r) := by
  rw [palingbook_Pick] at hm
  refine PureF.of Tryd.func22 rfl Tryd.ntmps22 (Nat.le_of_ble_eq_true rfl) ?_
  have e0 : argS 0 [.int .i64 p0, .int .i64 p1] = [(0, .int .i64 p0), (1, .int .i64 p1)] := rfl
  rw [e0]
  refine W.seqR [] [(0, .int .i64 p0), (1, .int .i64 p1)] [] (by rfl) ?_ ?_
  · try simp -implicitDefEqProofs -dsimp only [go_sem, ↓reduceIte, Nat.reduceAdd, Nat.reduceMul, Nat.reduceSub, Nat.reduceEqDiff, Nat.reduceLeDiff, Nat.reduceLT, Nat.reduceBEq, Int.reduceEq, reduceCtorEq]
  obtain ⟨h1, hm⟩ := of_ite hm
  refine W.seqR [] [(0, .int .i64 (Int.tmod p0 p1)), (1, .int .i64 p1)] [] (by rfl) ?_ ?_
  · try simp -implicitDefEqProofs -dsimp only [go_sem, ↓reduceIte, Nat.reduceAdd, Nat.reduceMul, Nat.reduceSub, Nat.reduceEqDiff, Nat.reduceLeDiff, Nat.reduceLT, Nat.reduceBEq, Int.reduceEq, reduceCtorEq, h1]
  refine W.seq ?_
  refine W.seqR [] [(0, .int .i64 (Int.tmod p0 p1)), (1, .int .i64 p1), (9, .bool (decide ((Int.tmod p0 p1) < 0)))] [] (by rfl) ?_ ?_
  · try simp -implicitDefEqProofs -dsimp only [go_sem, ↓reduceIte, Nat.reduceAdd, Nat.reduceMul, Nat.reduceSub, Nat.reduceEqDiff, Nat.reduceLeDiff, Nat.reduceLT, Nat.reduceBEq, Int.reduceEq, reduceCtorEq, h1]
  refine W.cond (decide ((Int.tmod p0 p1) < 0)) (by simp only [ev_tmp, get_cons, ↓reduceIte, Nat.reduceEqDiff]) (fun hb2 => ?_) (fun hb2 => ?_)
  · have hm := of_true hb2 hm
    refine W.regL [] [(0, .int .i64 (IntKind.wrap .i64 ((Int.tmod p0 p1) + p1)))] [] (by rfl) ?_ ?_
    · try simp -implicitDefEqProofs -dsimp only [go_sem, ↓reduceIte, Nat.reduceAdd, Nat.reduceMul, Nat.reduceSub, Nat.reduceEqDiff, Nat.reduceLeDiff, Nat.reduceLT, Nat.reduceBEq, Int.reduceEq, reduceCtorEq, h1, hb2]
    try simp only [thenQ_normal, thenQ_exit, thenQ_ret, blockQ_normal, blockQ_here, blockQ_ret, blockQ_exit, ↓reduceIte, Nat.reduceEqDiff]
    refine W.seqR [] [(4, .int .i64 (IntKind.wrap .i64 ((Int.tmod p0 p1) + p1)))] [] (by rfl) ?_ ?_
    · try simp -implicitDefEqProofs -dsimp only [go_sem, ↓reduceIte, Nat.reduceAdd, Nat.reduceMul, Nat.reduceSub, Nat.reduceEqDiff, Nat.reduceLeDiff, Nat.reduceLT, Nat.reduceBEq, Int.reduceEq, reduceCtorEq, h1, hb2]
    obtain rfl := Option.some.inj hm
    refine W.ret ?_
    try simp only [thenQ_normal, thenQ_exit, thenQ_ret, blockQ_normal, blockQ_here, blockQ_ret, blockQ_exit, ↓reduceIte, Nat.reduceEqDiff]
    refine EndsF.retW [] ?_
    simp -implicitDefEqProofs -dsimp only [go_sem, ↓reduceIte, Nat.reduceAdd, Nat.reduceMul, Nat.reduceSub, Nat.reduceEqDiff, Nat.reduceLeDiff, Nat.reduceLT, Nat.reduceBEq, Int.reduceEq, reduceCtorEq, h1, hb2]
  · have hm := of_false hb2 hm
    refine W.skip ?_
    try simp only [thenQ_normal, thenQ_exit, thenQ_ret, blockQ_normal, blockQ_here, blockQ_ret, blockQ_exit, ↓reduceIte, Nat.reduceEqDiff]
    refine W.seqR [] [(4, .int .i64 (Int.tmod p0 p1))] [] (by rfl) ?_ ?_
    · try simp -implicitDefEqProofs -dsimp only [go_sem, ↓reduceIte, Nat.reduceAdd, Nat.reduceMul, Nat.reduceSub, Nat.reduceEqDiff, Nat.reduceLeDiff, Nat.reduceLT, Nat.reduceBEq, Int.reduceEq, reduceCtorEq, h1, hb2]
    obtain rfl := Option.some.inj hm
    refine W.ret ?_
    try simp only [thenQ_normal, thenQ_exit, thenQ_ret, blockQ_normal, blockQ_here, blockQ_ret, blockQ_exit, ↓reduceIte, Nat.reduceEqDiff]
    refine EndsF.retW [] ?_
    simp -implicitDefEqProofs -dsimp only [go_sem, ↓reduceIte, Nat.reduceAdd, Nat.reduceMul, Nat.reduceSub, Nat.reduceEqDiff, Nat.reduceLeDiff, Nat.reduceLT, Nat.reduceBEq, Int.reduceEq, reduceCtorEq, h1, hb2]

theorem palingref1_Text_ok {p0 : Int} {r : ByteArray} (hm : palingref1_Text p0 = some r) : PureF Tryd.prog 34 [.int .i64 p0] (.str r) := by
  rw [palingref1_Text] at hm
  refine PureF.of Tryd.func34 rfl Tryd.ntmps34 (Nat.le_of_ble_eq_true rfl) ?_
  have e0 : argS 0 [.int .i64 p0] = [(0, .int .i64 p0)] := rfl
  rw [e0]
  refine W.seqR [] [(0, .int .i64 p0)] [] (by rfl) ?_ ?_
  · try simp -implicitDefEqProofs -dsimp only [go_sem, ↓reduceIte, Nat.reduceAdd, Nat.reduceMul, Nat.reduceSub, Nat.reduceEqDiff, Nat.reduceLeDiff, Nat.reduceLT, Nat.reduceBEq, Int.reduceEq, reduceCtorEq]
  refine W.seqR [] [(0, .int .i64 p0), (3, .int .u64 (IntKind.wrap .u64 p0))] [] (by rfl) ?_ ?_
  · try simp -implicitDefEqProofs -dsimp only [go_sem, ↓reduceIte, Nat.reduceAdd, Nat.reduceMul, Nat.reduceSub, Nat.reduceEqDiff, Nat.reduceLeDiff, Nat.reduceLT, Nat.reduceBEq, Int.reduceEq, reduceCtorEq]
  refine W.cut (fun s h => ∃ (v : Int) (w : Unit) (F : List Nat), palingref1_Text_j1 p0 v = some r ∧ AT 0 F [(0, .int .i64 p0), (3, .int .u64 v)] [] s h) ?_ ?_
  · refine W.seqR [] [(0, .int .i64 p0), (3, .int .u64 (IntKind.wrap .u64 p0)), (8, .bool (decide (p0 < 0)))] [] (by rfl) ?_ ?_
    · try simp -implicitDefEqProofs -dsimp only [go_sem, ↓reduceIte, Nat.reduceAdd, Nat.reduceMul, Nat.reduceSub, Nat.reduceEqDiff, Nat.reduceLeDiff, Nat.reduceLT, Nat.reduceBEq, Int.reduceEq, reduceCtorEq]
    refine W.cond (decide (p0 < 0)) (by simp only [ev_tmp, get_cons, ↓reduceIte, Nat.reduceEqDiff]) (fun hb27 => ?_) (fun hb27 => ?_)
    · have hm := of_true hb27 hm
      refine W.regL [] [(0, .int .i64 p0), (3, .int .u64 (IntKind.wrap .u64 (0 - (IntKind.wrap .u64 p0))))] [] (by rfl) ?_ ?_
      · try simp -implicitDefEqProofs -dsimp only [go_sem, ↓reduceIte, Nat.reduceAdd, Nat.reduceMul, Nat.reduceSub, Nat.reduceEqDiff, Nat.reduceLeDiff, Nat.reduceLT, Nat.reduceBEq, Int.reduceEq, reduceCtorEq, hb27]
      try simp only [thenQ_normal, thenQ_exit, thenQ_ret, blockQ_normal, blockQ_here, blockQ_ret, blockQ_exit, ↓reduceIte, Nat.reduceEqDiff]
      exact ⟨(IntKind.wrap .u64 (0 - (IntKind.wrap .u64 p0))), (), [], hm, (show AT 0 [] [(0, .int .i64 p0), (3, .int .u64 (IntKind.wrap .u64 (0 - (IntKind.wrap .u64 p0))))] [] _ _ from by simp -implicitDefEqProofs -dsimp only [go_sem, ↓reduceIte, Nat.reduceAdd, Nat.reduceMul, Nat.reduceSub, Nat.reduceEqDiff, Nat.reduceLeDiff, Nat.reduceLT, Nat.reduceBEq, Int.reduceEq, reduceCtorEq, hb27])⟩
    · have hm := of_false hb27 hm
      refine W.skip ?_
      try simp only [thenQ_normal, thenQ_exit, thenQ_ret, blockQ_normal, blockQ_here, blockQ_ret, blockQ_exit, ↓reduceIte, Nat.reduceEqDiff]
      exact ⟨(IntKind.wrap .u64 p0), (), [], hm, (show AT 0 [] [(0, .int .i64 p0), (3, .int .u64 (IntKind.wrap .u64 p0))] [] _ _ from by simp -implicitDefEqProofs -dsimp only [go_sem, ↓reduceIte, Nat.reduceAdd, Nat.reduceMul, Nat.reduceSub, Nat.reduceEqDiff, Nat.reduceLeDiff, Nat.reduceLT, Nat.reduceBEq, Int.reduceEq, reduceCtorEq, hb27])⟩
  · rintro s h ⟨i1, _, F, hm, hat⟩
    refine W.weak F hat ?_
    show WK _ _ _ _ _ [(0, .int .i64 p0), (3, .int .u64 i1)] []
    rw [palingref1_Text_j1] at hm
    refine W.seqR [] [(0, .int .i64 p0), (3, .int .u64 i1), (4, .str (⟨#[]⟩ : ByteArray))] [] (by rfl) ?_ ?_
    · try simp -implicitDefEqProofs -dsimp only [go_sem, ↓reduceIte, Nat.reduceAdd, Nat.reduceMul, Nat.reduceSub, Nat.reduceEqDiff, Nat.reduceLeDiff, Nat.reduceLT, Nat.reduceBEq, Int.reduceEq, reduceCtorEq]
    refine W.seq ?_
    refine W.block ?_
    obtain ⟨r19, hlr19, hm⟩ := of_bind hm
    refine W.mono (Q := fun e0 s0 h0 => e0 = .exit 0 ∧ ∃ w : Unit, s0 = [(0, .int .i64 p0), (4, .str r19)] ∧ h0 = []) (W.loopM (step := palingref1_Text_s1) (a0 := (i1, (⟨#[]⟩ : ByteArray))) (fun (a : Int × ByteArray) (v : Unit) => ([(0, .int .i64 p0), (3, .int .u64 a.1), (4, .str a.2)], [])) () hlr19 [] (show AT 0 [] [(0, .int .i64 p0), (3, .int .u64 i1), (4, .str (⟨#[]⟩ : ByteArray))] [] _ _ from by simp -implicitDefEqProofs -dsimp only [go_sem, ↓reduceIte, Nat.reduceAdd, Nat.reduceMul, Nat.reduceSub, Nat.reduceEqDiff, Nat.reduceLeDiff, Nat.reduceLT, Nat.reduceBEq, Int.reduceEq, reduceCtorEq]) ?_) ?_
    · rintro ⟨i12, s13⟩ _ x hm hx
      rw [palingref1_Text_s1] at hm
      show WK _ _ _ _ _ [(0, .int .i64 p0), (3, .int .u64 i12), (4, .str s13)] []
      refine W.seq ?_
      refine W.seqR [] [(0, .int .i64 p0), (3, .int .u64 i12), (4, .str s13), (16, .bool (decide (i12 > 0) || decide (s13 = (⟨#[]⟩ : ByteArray))))] [] (by rfl) ?_ ?_
      · try simp -implicitDefEqProofs -dsimp only [go_sem, ↓reduceIte, Nat.reduceAdd, Nat.reduceMul, Nat.reduceSub, Nat.reduceEqDiff, Nat.reduceLeDiff, Nat.reduceLT, Nat.reduceBEq, Int.reduceEq, reduceCtorEq]
        refine onG_splitN (fun hg20 => ?_) (fun hg20 => ?_)
        · try simp -implicitDefEqProofs -dsimp only [go_sem, ↓reduceIte, Nat.reduceAdd, Nat.reduceMul, Nat.reduceSub, Nat.reduceEqDiff, Nat.reduceLeDiff, Nat.reduceLT, Nat.reduceBEq, Int.reduceEq, reduceCtorEq, hg20]
        · try simp -implicitDefEqProofs -dsimp only [go_sem, ↓reduceIte, Nat.reduceAdd, Nat.reduceMul, Nat.reduceSub, Nat.reduceEqDiff, Nat.reduceLeDiff, Nat.reduceLT, Nat.reduceBEq, Int.reduceEq, reduceCtorEq, hg20]
      refine W.cond (decide (i12 > 0) || decide (s13 = (⟨#[]⟩ : ByteArray))) (by simp only [ev_tmp, get_cons, ↓reduceIte, Nat.reduceEqDiff]) (fun hb21 => ?_) (fun hb21 => ?_)
      · have hm := of_true hb21 hm
        refine W.skip ?_
        try simp only [thenQ_normal, thenQ_exit, thenQ_ret, blockQ_normal, blockQ_here, blockQ_ret, blockQ_exit, ↓reduceIte, Nat.reduceEqDiff]
        refine W.block ?_
        obtain ⟨h22, hm⟩ := of_ite hm
        obtain ⟨s23, h24, hm⟩ := of_bind hm
        replace h24 := Option.some.inj h24
        refine W.seqR [] [(0, .int .i64 p0), (3, .int .u64 i12), (4, .str s23)] [] (by rfl) ?_ ?_
        · try simp -implicitDefEqProofs -dsimp only [go_sem, ↓reduceIte, Nat.reduceAdd, Nat.reduceMul, Nat.reduceSub, Nat.reduceEqDiff, Nat.reduceLeDiff, Nat.reduceLT, Nat.reduceBEq, Int.reduceEq, reduceCtorEq, hb21, h22, ← h24]
          with_reducible refine exB false ?_
          try simp -implicitDefEqProofs -dsimp only [go_sem, ↓reduceIte, Nat.reduceAdd, Nat.reduceMul, Nat.reduceSub, Nat.reduceEqDiff, Nat.reduceLeDiff, Nat.reduceLT, Nat.reduceBEq, Int.reduceEq, reduceCtorEq, hb21, h22, ← h24]
        refine W.regL [] [(0, .int .i64 p0), (3, .int .u64 (IntKind.wrap .u64 (Int.tdiv i12 10))), (4, .str s23)] [] (by rfl) ?_ ?_
        · try simp -implicitDefEqProofs -dsimp only [go_sem, ↓reduceIte, Nat.reduceAdd, Nat.reduceMul, Nat.reduceSub, Nat.reduceEqDiff, Nat.reduceLeDiff, Nat.reduceLT, Nat.reduceBEq, Int.reduceEq, reduceCtorEq, hb21, h22]
        try simp only [thenQ_normal, thenQ_exit, thenQ_ret, blockQ_normal, blockQ_here, blockQ_ret, blockQ_exit, ↓reduceIte, Nat.reduceEqDiff]
        obtain rfl := Option.some.inj hm
        exact ⟨((IntKind.wrap .u64 (Int.tdiv i12 10)), s23), (), [], rfl, (show AT 0 [] [(0, .int .i64 p0), (3, .int .u64 (IntKind.wrap .u64 (Int.tdiv i12 10))), (4, .str s23)] [] _ _ from by simp -implicitDefEqProofs -dsimp only [go_sem, ↓reduceIte, Nat.reduceAdd, Nat.reduceMul, Nat.reduceSub, Nat.reduceEqDiff, Nat.reduceLeDiff, Nat.reduceLT, Nat.reduceBEq, Int.reduceEq, reduceCtorEq, hb21, h22])⟩
      · have hm := of_false hb21 hm
        obtain rfl := Option.some.inj hm
        obtain rfl := hx _ rfl
        refine W.weak [] (show AT 0 [] [(0, .int .i64 p0), (4, .str s13)] [] _ _ from by simp -implicitDefEqProofs -dsimp only [go_sem, ↓reduceIte, Nat.reduceAdd, Nat.reduceMul, Nat.reduceSub, Nat.reduceEqDiff, Nat.reduceLeDiff, Nat.reduceLT, Nat.reduceBEq, Int.reduceEq, reduceCtorEq, hb21]) (W.exit (show _ ∧ _ from ⟨rfl, (), rfl, rfl⟩))
    · rintro e0 s0 h0 ⟨rfl, _, rfl, rfl⟩
      try simp only [thenQ_normal, thenQ_exit, thenQ_ret, blockQ_normal, blockQ_here, blockQ_ret, blockQ_exit, ↓reduceIte, Nat.reduceEqDiff]
      show WK _ _ _ _ _ [(0, .int .i64 p0), (4, .str r19)] []
      try simp only [thenQ_normal, thenQ_exit, thenQ_ret, blockQ_normal, blockQ_here, blockQ_ret, blockQ_exit, ↓reduceIte, Nat.reduceEqDiff]
      refine W.seq ?_
      refine W.seqR [] [(4, .str r19), (28, .bool (decide (p0 < 0)))] [] (by rfl) ?_ ?_
      · try simp -implicitDefEqProofs -dsimp only [go_sem, ↓reduceIte, Nat.reduceAdd, Nat.reduceMul, Nat.reduceSub, Nat.reduceEqDiff, Nat.reduceLeDiff, Nat.reduceLT, Nat.reduceBEq, Int.reduceEq, reduceCtorEq]
      refine W.cond (decide (p0 < 0)) (by simp only [ev_tmp, get_cons, ↓reduceIte, Nat.reduceEqDiff]) (fun hb25 => ?_) (fun hb25 => ?_)
      · have hm := of_true hb25 hm
        obtain ⟨h26, hm⟩ := of_ite hm
        refine W.seqR [] [(2, .str ((⟨#[45]⟩ : ByteArray) ++ r19))] [] (by rfl) ?_ ?_
        · try simp -implicitDefEqProofs -dsimp only [go_sem, ↓reduceIte, Nat.reduceAdd, Nat.reduceMul, Nat.reduceSub, Nat.reduceEqDiff, Nat.reduceLeDiff, Nat.reduceLT, Nat.reduceBEq, Int.reduceEq, reduceCtorEq, hb25, h26]
        obtain rfl := Option.some.inj hm
        refine W.ret ?_
        try simp only [thenQ_normal, thenQ_exit, thenQ_ret, blockQ_normal, blockQ_here, blockQ_ret, blockQ_exit, ↓reduceIte, Nat.reduceEqDiff]
        refine EndsF.retW [] ?_
        simp -implicitDefEqProofs -dsimp only [go_sem, ↓reduceIte, Nat.reduceAdd, Nat.reduceMul, Nat.reduceSub, Nat.reduceEqDiff, Nat.reduceLeDiff, Nat.reduceLT, Nat.reduceBEq, Int.reduceEq, reduceCtorEq, hb25, h26]
      · have hm := of_false hb25 hm
        refine W.skip ?_
        try simp only [thenQ_normal, thenQ_exit, thenQ_ret, blockQ_normal, blockQ_here, blockQ_ret, blockQ_exit, ↓reduceIte, Nat.reduceEqDiff]
        refine W.seqR [] [(2, .str r19)] [] (by rfl) ?_ ?_
        · try simp -implicitDefEqProofs -dsimp only [go_sem, ↓reduceIte, Nat.reduceAdd, Nat.reduceMul, Nat.reduceSub, Nat.reduceEqDiff, Nat.reduceLeDiff, Nat.reduceLT, Nat.reduceBEq, Int.reduceEq, reduceCtorEq, hb25]
        obtain rfl := Option.some.inj hm
        refine W.ret ?_
        try simp only [thenQ_normal, thenQ_exit, thenQ_ret, blockQ_normal, blockQ_here, blockQ_ret, blockQ_exit, ↓reduceIte, Nat.reduceEqDiff]
        refine EndsF.retW [] ?_
        simp -implicitDefEqProofs -dsimp only [go_sem, ↓reduceIte, Nat.reduceAdd, Nat.reduceMul, Nat.reduceSub, Nat.reduceEqDiff, Nat.reduceLeDiff, Nat.reduceLT, Nat.reduceBEq, Int.reduceEq, reduceCtorEq, hb25]

theorem palingref1_Read_ok {p0 : ByteArray} {r : Int × Bool} (hm : palingref1_Read p0 = some r) : PureF Tryd.prog 44 [.str p0] (.tuple [.int .i64 r.1, .bool r.2]) := by
  rw [palingref1_Read] at hm
  refine PureF.of Tryd.func44 rfl Tryd.ntmps44 (Nat.le_of_ble_eq_true rfl) ?_
  have e0 : argS 0 [.str p0] = [(0, .str p0)] := rfl
  rw [e0]
  refine W.seqR [] [(0, .str p0)] [] (by rfl) ?_ ?_
  · try simp -implicitDefEqProofs -dsimp only [go_sem, ↓reduceIte, Nat.reduceAdd, Nat.reduceMul, Nat.reduceSub, Nat.reduceEqDiff, Nat.reduceLeDiff, Nat.reduceLT, Nat.reduceBEq, Int.reduceEq, reduceCtorEq]
  obtain ⟨h1, hm⟩ := of_ite hm
  refine W.seqR [] [(0, .str p0), (4, .bool (decide ((p0.size : Int) > 0) && ((bt p0 0) == 45)))] [] (by rfl) ?_ ?_
  · try simp -implicitDefEqProofs -dsimp only [go_sem, ↓reduceIte, Nat.reduceAdd, Nat.reduceMul, Nat.reduceSub, Nat.reduceEqDiff, Nat.reduceLeDiff, Nat.reduceLT, Nat.reduceBEq, Int.reduceEq, reduceCtorEq, h1]
    refine onG_split (fun hg2 => ?_) (fun hg2 => ?_)
    · try simp -implicitDefEqProofs -dsimp only [go_sem, ↓reduceIte, Nat.reduceAdd, Nat.reduceMul, Nat.reduceSub, Nat.reduceEqDiff, Nat.reduceLeDiff, Nat.reduceLT, Nat.reduceBEq, Int.reduceEq, reduceCtorEq, h1, hg2]
    · try simp -implicitDefEqProofs -dsimp only [go_sem, ↓reduceIte, Nat.reduceAdd, Nat.reduceMul, Nat.reduceSub, Nat.reduceEqDiff, Nat.reduceLeDiff, Nat.reduceLT, Nat.reduceBEq, Int.reduceEq, reduceCtorEq, h1, hg2]
  refine W.cut (fun s h => ∃ (v : ByteArray) (w : Unit) (F : List Nat), palingref1_Read_j1 p0 v = some r ∧ AT 0 F [(0, .str v), (4, .bool (decide ((p0.size : Int) > 0) && ((bt p0 0) == 45)))] [] s h) ?_ ?_
  · refine W.seqR [] [(0, .str p0), (4, .bool (decide ((p0.size : Int) > 0) && ((bt p0 0) == 45))), (15, .bool (decide ((p0.size : Int) > 0) && ((bt p0 0) == 45)))] [] (by rfl) ?_ ?_
    · try simp -implicitDefEqProofs -dsimp only [go_sem, ↓reduceIte, Nat.reduceAdd, Nat.reduceMul, Nat.reduceSub, Nat.reduceEqDiff, Nat.reduceLeDiff, Nat.reduceLT, Nat.reduceBEq, Int.reduceEq, reduceCtorEq, h1]
    refine W.cond (decide ((p0.size : Int) > 0) && ((bt p0 0) == 45)) (by simp only [ev_tmp, get_cons, ↓reduceIte, Nat.reduceEqDiff]) (fun hb50 => ?_) (fun hb50 => ?_)
    · have hm := of_true hb50 hm
      obtain ⟨h51, hm⟩ := of_ite hm
      refine W.regL [] [(0, .str (p0.extract (Int.toNat 1) p0.size)), (4, .bool (decide ((p0.size : Int) > 0) && ((bt p0 0) == 45)))] [] (by rfl) ?_ ?_
      · try simp -implicitDefEqProofs -dsimp only [go_sem, ↓reduceIte, Nat.reduceAdd, Nat.reduceMul, Nat.reduceSub, Nat.reduceEqDiff, Nat.reduceLeDiff, Nat.reduceLT, Nat.reduceBEq, Int.reduceEq, reduceCtorEq, h1, hb50, h51]
      try simp only [thenQ_normal, thenQ_exit, thenQ_ret, blockQ_normal, blockQ_here, blockQ_ret, blockQ_exit, ↓reduceIte, Nat.reduceEqDiff]
      exact ⟨(p0.extract (Int.toNat 1) p0.size), (), [], hm, (show AT 0 [] [(0, .str (p0.extract (Int.toNat 1) p0.size)), (4, .bool (decide ((p0.size : Int) > 0) && ((bt p0 0) == 45)))] [] _ _ from by simp -implicitDefEqProofs -dsimp only [go_sem, ↓reduceIte, Nat.reduceAdd, Nat.reduceMul, Nat.reduceSub, Nat.reduceEqDiff, Nat.reduceLeDiff, Nat.reduceLT, Nat.reduceBEq, Int.reduceEq, reduceCtorEq, h1, hb50, h51])⟩
    · have hm := of_false hb50 hm
      refine W.skip ?_
      try simp only [thenQ_normal, thenQ_exit, thenQ_ret, blockQ_normal, blockQ_here, blockQ_ret, blockQ_exit, ↓reduceIte, Nat.reduceEqDiff]
      exact ⟨p0, (), [], hm, (show AT 0 [] [(0, .str p0), (4, .bool (decide ((p0.size : Int) > 0) && ((bt p0 0) == 45)))] [] _ _ from by simp -implicitDefEqProofs -dsimp only [go_sem, ↓reduceIte, Nat.reduceAdd, Nat.reduceMul, Nat.reduceSub, Nat.reduceEqDiff, Nat.reduceLeDiff, Nat.reduceLT, Nat.reduceBEq, Int.reduceEq, reduceCtorEq, h1, hb50])⟩
  · rintro s h ⟨s3, _, F, hm, hat⟩
    refine W.weak F hat ?_
    show WK _ _ _ _ _ [(0, .str s3), (4, .bool (decide ((p0.size : Int) > 0) && ((bt p0 0) == 45)))] []
    rw [palingref1_Read_j1] at hm
    refine W.seq ?_
    obtain ⟨h4, hm⟩ := of_ite hm
    obtain ⟨b5, h6, hm⟩ := of_bind hm
    replace h6 := Option.some.inj h6
    refine W.seqR [] [(0, .str s3), (4, .bool (decide ((p0.size : Int) > 0) && ((bt p0 0) == 45))), (37, .bool b5)] [] (by rfl) ?_ ?_
    · try simp -implicitDefEqProofs -dsimp only [go_sem, ↓reduceIte, Nat.reduceAdd, Nat.reduceMul, Nat.reduceSub, Nat.reduceEqDiff, Nat.reduceLeDiff, Nat.reduceLT, Nat.reduceBEq, Int.reduceEq, reduceCtorEq, h1, h4, ← h6]
      refine onG_splitN (fun hg7 => ?_) (fun hg7 => ?_)
      · try simp -implicitDefEqProofs -dsimp only [go_sem, ↓reduceIte, Nat.reduceAdd, Nat.reduceMul, Nat.reduceSub, Nat.reduceEqDiff, Nat.reduceLeDiff, Nat.reduceLT, Nat.reduceBEq, Int.reduceEq, reduceCtorEq, h1, h4, hg7, ← h6]
        refine onG_splitN (fun hg8 => ?_) (fun hg8 => ?_)
        · try simp -implicitDefEqProofs -dsimp only [go_sem, ↓reduceIte, Nat.reduceAdd, Nat.reduceMul, Nat.reduceSub, Nat.reduceEqDiff, Nat.reduceLeDiff, Nat.reduceLT, Nat.reduceBEq, Int.reduceEq, reduceCtorEq, h1, h4, hg7, hg8, ← h6]
          refine onG_split (fun hg9 => ?_) (fun hg9 => ?_)
          · try simp -implicitDefEqProofs -dsimp only [go_sem, ↓reduceIte, Nat.reduceAdd, Nat.reduceMul, Nat.reduceSub, Nat.reduceEqDiff, Nat.reduceLeDiff, Nat.reduceLT, Nat.reduceBEq, Int.reduceEq, reduceCtorEq, h1, h4, hg7, hg8, hg9, ← h6]
            refine onG_splitN (fun hg10 => ?_) (fun hg10 => ?_)
            · try simp -implicitDefEqProofs -dsimp only [go_sem, ↓reduceIte, Nat.reduceAdd, Nat.reduceMul, Nat.reduceSub, Nat.reduceEqDiff, Nat.reduceLeDiff, Nat.reduceLT, Nat.reduceBEq, Int.reduceEq, reduceCtorEq, h1, h4, hg7, hg8, hg9, hg10, ← h6]
            · try simp -implicitDefEqProofs -dsimp only [go_sem, ↓reduceIte, Nat.reduceAdd, Nat.reduceMul, Nat.reduceSub, Nat.reduceEqDiff, Nat.reduceLeDiff, Nat.reduceLT, Nat.reduceBEq, Int.reduceEq, reduceCtorEq, h1, h4, hg7, hg8, hg9, hg10, ← h6]
          · try simp -implicitDefEqProofs -dsimp only [go_sem, ↓reduceIte, Nat.reduceAdd, Nat.reduceMul, Nat.reduceSub, Nat.reduceEqDiff, Nat.reduceLeDiff, Nat.reduceLT, Nat.reduceBEq, Int.reduceEq, reduceCtorEq, h1, h4, hg7, hg8, hg9, ← h6]
        · try simp -implicitDefEqProofs -dsimp only [go_sem, ↓reduceIte, Nat.reduceAdd, Nat.reduceMul, Nat.reduceSub, Nat.reduceEqDiff, Nat.reduceLeDiff, Nat.reduceLT, Nat.reduceBEq, Int.reduceEq, reduceCtorEq, h1, h4, hg7, hg8, ← h6]
      · try simp -implicitDefEqProofs -dsimp only [go_sem, ↓reduceIte, Nat.reduceAdd, Nat.reduceMul, Nat.reduceSub, Nat.reduceEqDiff, Nat.reduceLeDiff, Nat.reduceLT, Nat.reduceBEq, Int.reduceEq, reduceCtorEq, h1, h4, hg7, ← h6]
    refine W.cond b5 (by simp only [ev_tmp, get_cons, ↓reduceIte, Nat.reduceEqDiff]) (fun hb11 => ?_) (fun hb11 => ?_)
    · have hm := of_true hb11 hm
      refine W.seqR [] [(2, .int .i64 0), (3, .bool false)] [] (by rfl) ?_ ?_
      · try simp -implicitDefEqProofs -dsimp only [go_sem, ↓reduceIte, Nat.reduceAdd, Nat.reduceMul, Nat.reduceSub, Nat.reduceEqDiff, Nat.reduceLeDiff, Nat.reduceLT, Nat.reduceBEq, Int.reduceEq, reduceCtorEq, h1, h4, hb11]
      obtain rfl := Option.some.inj hm
      refine W.ret ?_
      try simp only [thenQ_normal, thenQ_exit, thenQ_ret, blockQ_normal, blockQ_here, blockQ_ret, blockQ_exit, ↓reduceIte, Nat.reduceEqDiff]
      refine EndsF.retW [] ?_
      simp -implicitDefEqProofs -dsimp only [go_sem, ↓reduceIte, Nat.reduceAdd, Nat.reduceMul, Nat.reduceSub, Nat.reduceEqDiff, Nat.reduceLeDiff, Nat.reduceLT, Nat.reduceBEq, Int.reduceEq, reduceCtorEq, h1, h4, hb11]
    · have hm := of_false hb11 hm
      refine W.skip ?_
      try simp only [thenQ_normal, thenQ_exit, thenQ_ret, blockQ_normal, blockQ_here, blockQ_ret, blockQ_exit, ↓reduceIte, Nat.reduceEqDiff]
      refine W.seqR [] [(0, .str s3), (4, .bool (decide ((p0.size : Int) > 0) && ((bt p0 0) == 45))), (5, .int .u64 0)] [] (by rfl) ?_ ?_
      · try simp -implicitDefEqProofs -dsimp only [go_sem, ↓reduceIte, Nat.reduceAdd, Nat.reduceMul, Nat.reduceSub, Nat.reduceEqDiff, Nat.reduceLeDiff, Nat.reduceLT, Nat.reduceBEq, Int.reduceEq, reduceCtorEq, h1, h4, hb11]
      refine W.seq ?_
      refine W.seqR [] [(0, .str s3), (4, .bool (decide ((p0.size : Int) > 0) && ((bt p0 0) == 45))), (5, .int .u64 0), (6, .int .i64 0)] [] (by rfl) ?_ ?_
      · try simp -implicitDefEqProofs -dsimp only [go_sem, ↓reduceIte, Nat.reduceAdd, Nat.reduceMul, Nat.reduceSub, Nat.reduceEqDiff, Nat.reduceLeDiff, Nat.reduceLT, Nat.reduceBEq, Int.reduceEq, reduceCtorEq, h1, h4, hb11]
      refine W.block ?_
      obtain ⟨r38, hlr38, hm⟩ := of_bind hm
      refine W.mono (Q := fun e0 s0 h0 => match r38 with | .inl e => e0 = .exit 0 ∧ ∃ w : Unit, s0 = [(4, .bool (decide ((p0.size : Int) > 0) && ((bt p0 0) == 45))), (5, .int .u64 e)] ∧ h0 = [] | .inr q => e0 = .ret ∧ s0 = [(2, .int .i64 q.1), (3, .bool q.2)] ∧ h0 = []) (W.loopM (step := palingref1_Read_s1 s3) (a0 := (0, 0)) (fun (a : Int × Int) (v : Unit) => ([(0, .str s3), (4, .bool (decide ((p0.size : Int) > 0) && ((bt p0 0) == 45))), (5, .int .u64 a.1), (6, .int .i64 a.2)], [])) () hlr38 [] (show AT 0 [] [(0, .str s3), (4, .bool (decide ((p0.size : Int) > 0) && ((bt p0 0) == 45))), (5, .int .u64 0), (6, .int .i64 0)] [] _ _ from by simp -implicitDefEqProofs -dsimp only [go_sem, ↓reduceIte, Nat.reduceAdd, Nat.reduceMul, Nat.reduceSub, Nat.reduceEqDiff, Nat.reduceLeDiff, Nat.reduceLT, Nat.reduceBEq, Int.reduceEq, reduceCtorEq, h1, h4, hb11]) ?_) ?_
      · rintro ⟨i28, i29⟩ _ x hm hx
        rw [palingref1_Read_s1] at hm
        show WK _ _ _ _ _ [(0, .str s3), (4, .bool (decide ((p0.size : Int) > 0) && ((bt p0 0) == 45))), (5, .int .u64 i28), (6, .int .i64 i29)] []
        refine W.seq ?_
        refine W.seqR [] [(0, .str s3), (4, .bool (decide ((p0.size : Int) > 0) && ((bt p0 0) == 45))), (5, .int .u64 i28), (6, .int .i64 i29), (41, .bool (decide (i29 < (s3.size : Int))))] [] (by rfl) ?_ ?_
        · try simp -implicitDefEqProofs -dsimp only [go_sem, ↓reduceIte, Nat.reduceAdd, Nat.reduceMul, Nat.reduceSub, Nat.reduceEqDiff, Nat.reduceLeDiff, Nat.reduceLT, Nat.reduceBEq, Int.reduceEq, reduceCtorEq, h1, h4, hb11]
        refine W.cond (decide (i29 < (s3.size : Int))) (by simp only [ev_tmp, get_cons, ↓reduceIte, Nat.reduceEqDiff]) (fun hb39 => ?_) (fun hb39 => ?_)
        · have hm := of_true hb39 hm
          refine W.skip ?_
          try simp only [thenQ_normal, thenQ_exit, thenQ_ret, blockQ_normal, blockQ_here, blockQ_ret, blockQ_exit, ↓reduceIte, Nat.reduceEqDiff]
          refine W.seq ?_
          refine W.block ?_
          refine W.seq ?_
          obtain ⟨h40, hm⟩ := of_ite hm
          obtain ⟨h41, hm⟩ := of_ite hm
          refine W.seqR [] [(0, .str s3), (4, .bool (decide ((p0.size : Int) > 0) && ((bt p0 0) == 45))), (5, .int .u64 i28), (6, .int .i64 i29), (53, .bool (decide ((bt s3 i29) < 48) || decide ((bt s3 i29) > 57)))] [] (by rfl) ?_ ?_
          · try simp -implicitDefEqProofs -dsimp only [go_sem, ↓reduceIte, Nat.reduceAdd, Nat.reduceMul, Nat.reduceSub, Nat.reduceEqDiff, Nat.reduceLeDiff, Nat.reduceLT, Nat.reduceBEq, Int.reduceEq, reduceCtorEq, h1, h4, hb11, hb39, h40, h41]
            refine onG_splitN (fun hg42 => ?_) (fun hg42 => ?_)
            · try simp -implicitDefEqProofs -dsimp only [go_sem, ↓reduceIte, Nat.reduceAdd, Nat.reduceMul, Nat.reduceSub, Nat.reduceEqDiff, Nat.reduceLeDiff, Nat.reduceLT, Nat.reduceBEq, Int.reduceEq, reduceCtorEq, h1, h4, hb11, hb39, h40, h41, hg42]
            · try simp -implicitDefEqProofs -dsimp only [go_sem, ↓reduceIte, Nat.reduceAdd, Nat.reduceMul, Nat.reduceSub, Nat.reduceEqDiff, Nat.reduceLeDiff, Nat.reduceLT, Nat.reduceBEq, Int.reduceEq, reduceCtorEq, h1, h4, hb11, hb39, h40, h41, hg42]
          refine W.cond (decide ((bt s3 i29) < 48) || decide ((bt s3 i29) > 57)) (by simp only [ev_tmp, get_cons, ↓reduceIte, Nat.reduceEqDiff]) (fun hb43 => ?_) (fun hb43 => ?_)
          · have hm := of_true hb43 hm
            refine W.seqR [] [(2, .int .i64 0), (3, .bool false)] [] (by rfl) ?_ ?_
            · try simp -implicitDefEqProofs -dsimp only [go_sem, ↓reduceIte, Nat.reduceAdd, Nat.reduceMul, Nat.reduceSub, Nat.reduceEqDiff, Nat.reduceLeDiff, Nat.reduceLT, Nat.reduceBEq, Int.reduceEq, reduceCtorEq, h1, h4, hb11, hb39, h40, h41, hb43]
            obtain rfl := Option.some.inj hm
            obtain rfl := hx _ rfl
            refine W.weak [] (show AT 0 [] [(2, .int .i64 0), (3, .bool false)] [] _ _ from by simp -implicitDefEqProofs -dsimp only [go_sem, ↓reduceIte, Nat.reduceAdd, Nat.reduceMul, Nat.reduceSub, Nat.reduceEqDiff, Nat.reduceLeDiff, Nat.reduceLT, Nat.reduceBEq, Int.reduceEq, reduceCtorEq, h1, h4, hb11, hb39, h40, h41, hb43]) (W.ret (show _ ∧ _ from ⟨rfl, rfl, rfl⟩))
          · have hm := of_false hb43 hm
            refine W.skip ?_
            try simp only [thenQ_normal, thenQ_exit, thenQ_ret, blockQ_normal, blockQ_here, blockQ_ret, blockQ_exit, ↓reduceIte, Nat.reduceEqDiff]
            obtain ⟨h44, hm⟩ := of_ite hm
            obtain ⟨n45, h46, hm⟩ := of_bind hm
            replace h46 := Option.some.inj h46
            refine W.regL [] [(0, .str s3), (4, .bool (decide ((p0.size : Int) > 0) && ((bt p0 0) == 45))), (5, .int .u64 n45), (6, .int .i64 i29)] [] (by rfl) ?_ ?_
            · try simp -implicitDefEqProofs -dsimp only [go_sem, ↓reduceIte, Nat.reduceAdd, Nat.reduceMul, Nat.reduceSub, Nat.reduceEqDiff, Nat.reduceLeDiff, Nat.reduceLT, Nat.reduceBEq, Int.reduceEq, reduceCtorEq, h1, h4, hb11, hb39, h40, h41, hb43, h44, ← h46]
            try simp only [thenQ_normal, thenQ_exit, thenQ_ret, blockQ_normal, blockQ_here, blockQ_ret, blockQ_exit, ↓reduceIte, Nat.reduceEqDiff]
            refine W.regL [] [(0, .str s3), (4, .bool (decide ((p0.size : Int) > 0) && ((bt p0 0) == 45))), (5, .int .u64 n45), (6, .int .i64 (IntKind.wrap .i64 (i29 + 1)))] [] (by rfl) ?_ ?_
            · try simp -implicitDefEqProofs -dsimp only [go_sem, ↓reduceIte, Nat.reduceAdd, Nat.reduceMul, Nat.reduceSub, Nat.reduceEqDiff, Nat.reduceLeDiff, Nat.reduceLT, Nat.reduceBEq, Int.reduceEq, reduceCtorEq, h1, h4, hb11, hb39, h40, h41, hb43, h44]
            try simp only [thenQ_normal, thenQ_exit, thenQ_ret, blockQ_normal, blockQ_here, blockQ_ret, blockQ_exit, ↓reduceIte, Nat.reduceEqDiff]
            obtain rfl := Option.some.inj hm
            exact ⟨(n45, (IntKind.wrap .i64 (i29 + 1))), (), [], rfl, (show AT 0 [] [(0, .str s3), (4, .bool (decide ((p0.size : Int) > 0) && ((bt p0 0) == 45))), (5, .int .u64 n45), (6, .int .i64 (IntKind.wrap .i64 (i29 + 1)))] [] _ _ from by simp -implicitDefEqProofs -dsimp only [go_sem, ↓reduceIte, Nat.reduceAdd, Nat.reduceMul, Nat.reduceSub, Nat.reduceEqDiff, Nat.reduceLeDiff, Nat.reduceLT, Nat.reduceBEq, Int.reduceEq, reduceCtorEq, h1, h4, hb11, hb39, h40, h41, hb43, h44])⟩
        · have hm := of_false hb39 hm
          obtain rfl := Option.some.inj hm
          obtain rfl := hx _ rfl
          refine W.weak [] (show AT 0 [] [(4, .bool (decide ((p0.size : Int) > 0) && ((bt p0 0) == 45))), (5, .int .u64 i28)] [] _ _ from by simp -implicitDefEqProofs -dsimp only [go_sem, ↓reduceIte, Nat.reduceAdd, Nat.reduceMul, Nat.reduceSub, Nat.reduceEqDiff, Nat.reduceLeDiff, Nat.reduceLT, Nat.reduceBEq, Int.reduceEq, reduceCtorEq, h1, h4, hb11, hb39]) (W.exit (show _ ∧ _ from ⟨rfl, (), rfl, rfl⟩))
      · intro e0 s0 h0 hq
        rcases r38 with er38 | qr38
        · obtain ⟨rfl, _, rfl, rfl⟩ := hq
          have hm := of_inl hm
          try simp only [thenQ_normal, thenQ_exit, thenQ_ret, blockQ_normal, blockQ_here, blockQ_ret, blockQ_exit, ↓reduceIte, Nat.reduceEqDiff]
          show WK _ _ _ _ _ [(4, .bool (decide ((p0.size : Int) > 0) && ((bt p0 0) == 45))), (5, .int .u64 er38)] []
          try simp only [thenQ_normal, thenQ_exit, thenQ_ret, blockQ_normal, blockQ_here, blockQ_ret, blockQ_exit, ↓reduceIte, Nat.reduceEqDiff]
          refine W.seq ?_
          refine W.seqR [] [(5, .int .u64 er38), (62, .bool (decide ((p0.size : Int) > 0) && ((bt p0 0) == 45)))] [] (by rfl) ?_ ?_
          · try simp -implicitDefEqProofs -dsimp only [go_sem, ↓reduceIte, Nat.reduceAdd, Nat.reduceMul, Nat.reduceSub, Nat.reduceEqDiff, Nat.reduceLeDiff, Nat.reduceLT, Nat.reduceBEq, Int.reduceEq, reduceCtorEq, h1, h4, hb11]
          refine W.cond (decide ((p0.size : Int) > 0) && ((bt p0 0) == 45)) (by simp only [ev_tmp, get_cons, ↓reduceIte, Nat.reduceEqDiff]) (fun hb47 => ?_) (fun hb47 => ?_)
          · have hm := of_true hb47 hm
            refine W.seq ?_
            refine W.seqR [] [(5, .int .u64 er38), (64, .bool (decide (er38 > 9223372036854775808)))] [] (by rfl) ?_ ?_
            · try simp -implicitDefEqProofs -dsimp only [go_sem, ↓reduceIte, Nat.reduceAdd, Nat.reduceMul, Nat.reduceSub, Nat.reduceEqDiff, Nat.reduceLeDiff, Nat.reduceLT, Nat.reduceBEq, Int.reduceEq, reduceCtorEq, h1, h4, hb11, hb47]
            refine W.cond (decide (er38 > 9223372036854775808)) (by simp only [ev_tmp, get_cons, ↓reduceIte, Nat.reduceEqDiff]) (fun hb48 => ?_) (fun hb48 => ?_)
            · have hm := of_true hb48 hm
              refine W.seqR [] [(2, .int .i64 0), (3, .bool false)] [] (by rfl) ?_ ?_
              · try simp -implicitDefEqProofs -dsimp only [go_sem, ↓reduceIte, Nat.reduceAdd, Nat.reduceMul, Nat.reduceSub, Nat.reduceEqDiff, Nat.reduceLeDiff, Nat.reduceLT, Nat.reduceBEq, Int.reduceEq, reduceCtorEq, h1, h4, hb11, hb47, hb48]
              obtain rfl := Option.some.inj hm
              refine W.ret ?_
              try simp only [thenQ_normal, thenQ_exit, thenQ_ret, blockQ_normal, blockQ_here, blockQ_ret, blockQ_exit, ↓reduceIte, Nat.reduceEqDiff]
              refine EndsF.retW [] ?_
              simp -implicitDefEqProofs -dsimp only [go_sem, ↓reduceIte, Nat.reduceAdd, Nat.reduceMul, Nat.reduceSub, Nat.reduceEqDiff, Nat.reduceLeDiff, Nat.reduceLT, Nat.reduceBEq, Int.reduceEq, reduceCtorEq, h1, h4, hb11, hb47, hb48]
            · have hm := of_false hb48 hm
              refine W.skip ?_
              try simp only [thenQ_normal, thenQ_exit, thenQ_ret, blockQ_normal, blockQ_here, blockQ_ret, blockQ_exit, ↓reduceIte, Nat.reduceEqDiff]
              refine W.seqR [] [(2, .int .i64 (IntKind.wrap .i64 (IntKind.wrap .u64 (0 - er38)))), (3, .bool true)] [] (by rfl) ?_ ?_
              · try simp -implicitDefEqProofs -dsimp only [go_sem, ↓reduceIte, Nat.reduceAdd, Nat.reduceMul, Nat.reduceSub, Nat.reduceEqDiff, Nat.reduceLeDiff, Nat.reduceLT, Nat.reduceBEq, Int.reduceEq, reduceCtorEq, h1, h4, hb11, hb47, hb48]
              obtain rfl := Option.some.inj hm
              refine W.ret ?_
              try simp only [thenQ_normal, thenQ_exit, thenQ_ret, blockQ_normal, blockQ_here, blockQ_ret, blockQ_exit, ↓reduceIte, Nat.reduceEqDiff]
              refine EndsF.retW [] ?_
              simp -implicitDefEqProofs -dsimp only [go_sem, ↓reduceIte, Nat.reduceAdd, Nat.reduceMul, Nat.reduceSub, Nat.reduceEqDiff, Nat.reduceLeDiff, Nat.reduceLT, Nat.reduceBEq, Int.reduceEq, reduceCtorEq, h1, h4, hb11, hb47, hb48]
          · have hm := of_false hb47 hm
            refine W.skip ?_
            try simp only [thenQ_normal, thenQ_exit, thenQ_ret, blockQ_normal, blockQ_here, blockQ_ret, blockQ_exit, ↓reduceIte, Nat.reduceEqDiff]
            refine W.seq ?_
            refine W.seqR [] [(5, .int .u64 er38), (69, .bool (decide (er38 ≥ 9223372036854775808)))] [] (by rfl) ?_ ?_
            · try simp -implicitDefEqProofs -dsimp only [go_sem, ↓reduceIte, Nat.reduceAdd, Nat.reduceMul, Nat.reduceSub, Nat.reduceEqDiff, Nat.reduceLeDiff, Nat.reduceLT, Nat.reduceBEq, Int.reduceEq, reduceCtorEq, h1, h4, hb11, hb47]
            refine W.cond (decide (er38 ≥ 9223372036854775808)) (by simp only [ev_tmp, get_cons, ↓reduceIte, Nat.reduceEqDiff]) (fun hb49 => ?_) (fun hb49 => ?_)
            · have hm := of_true hb49 hm
              refine W.seqR [] [(2, .int .i64 0), (3, .bool false)] [] (by rfl) ?_ ?_
              · try simp -implicitDefEqProofs -dsimp only [go_sem, ↓reduceIte, Nat.reduceAdd, Nat.reduceMul, Nat.reduceSub, Nat.reduceEqDiff, Nat.reduceLeDiff, Nat.reduceLT, Nat.reduceBEq, Int.reduceEq, reduceCtorEq, h1, h4, hb11, hb47, hb49]
              obtain rfl := Option.some.inj hm
              refine W.ret ?_
              try simp only [thenQ_normal, thenQ_exit, thenQ_ret, blockQ_normal, blockQ_here, blockQ_ret, blockQ_exit, ↓reduceIte, Nat.reduceEqDiff]
              refine EndsF.retW [] ?_
              simp -implicitDefEqProofs -dsimp only [go_sem, ↓reduceIte, Nat.reduceAdd, Nat.reduceMul, Nat.reduceSub, Nat.reduceEqDiff, Nat.reduceLeDiff, Nat.reduceLT, Nat.reduceBEq, Int.reduceEq, reduceCtorEq, h1, h4, hb11, hb47, hb49]
            · have hm := of_false hb49 hm
              refine W.skip ?_
              try simp only [thenQ_normal, thenQ_exit, thenQ_ret, blockQ_normal, blockQ_here, blockQ_ret, blockQ_exit, ↓reduceIte, Nat.reduceEqDiff]
              refine W.seqR [] [(2, .int .i64 (IntKind.wrap .i64 er38)), (3, .bool true)] [] (by rfl) ?_ ?_
              · try simp -implicitDefEqProofs -dsimp only [go_sem, ↓reduceIte, Nat.reduceAdd, Nat.reduceMul, Nat.reduceSub, Nat.reduceEqDiff, Nat.reduceLeDiff, Nat.reduceLT, Nat.reduceBEq, Int.reduceEq, reduceCtorEq, h1, h4, hb11, hb47, hb49]
              obtain rfl := Option.some.inj hm
              refine W.ret ?_
              try simp only [thenQ_normal, thenQ_exit, thenQ_ret, blockQ_normal, blockQ_here, blockQ_ret, blockQ_exit, ↓reduceIte, Nat.reduceEqDiff]
              refine EndsF.retW [] ?_
              simp -implicitDefEqProofs -dsimp only [go_sem, ↓reduceIte, Nat.reduceAdd, Nat.reduceMul, Nat.reduceSub, Nat.reduceEqDiff, Nat.reduceLeDiff, Nat.reduceLT, Nat.reduceBEq, Int.reduceEq, reduceCtorEq, h1, h4, hb11, hb47, hb49]
        · obtain ⟨rfl, rfl, rfl⟩ := hq
          have hm := of_inr hm
          obtain rfl := Option.some.inj hm
          try simp only [thenQ_normal, thenQ_exit, thenQ_ret, blockQ_normal, blockQ_here, blockQ_ret, blockQ_exit, ↓reduceIte, Nat.reduceEqDiff]
          refine EndsF.retW [] ?_
          simp -implicitDefEqProofs -dsimp only [go_sem, ↓reduceIte, Nat.reduceAdd, Nat.reduceMul, Nat.reduceSub, Nat.reduceEqDiff, Nat.reduceLeDiff, Nat.reduceLT, Nat.reduceBEq, Int.reduceEq, reduceCtorEq, h1, h4, hb11]

theorem glyph_step_ok {p0 : Int} {p1 : Int} {p2 : Int} {r : Int × Int} (hm : glyph_step p0 p1 p2 = some r) : PureF Tryd.prog 73 [.int .i64 p0, .int .i64 p1, .int .i32 p2] (.tuple [.int .i64 r.1, .int .i64 r.2]) := by
  rw [glyph_step] at hm
  refine PureF.of Tryd.func73 rfl Tryd.ntmps73 (Nat.le_of_ble_eq_true rfl) ?_
  have e0 : argS 0 [.int .i64 p0, .int .i64 p1, .int .i32 p2] = [(0, .int .i64 p0), (1, .int .i64 p1), (2, .int .i32 p2)] := rfl
  rw [e0]
  refine W.seqR [] [(0, .int .i64 p0), (1, .int .i64 p1), (2, .int .i32 p2)] [] (by rfl) ?_ ?_
  · try simp -implicitDefEqProofs -dsimp only [go_sem, ↓reduceIte, Nat.reduceAdd, Nat.reduceMul, Nat.reduceSub, Nat.reduceEqDiff, Nat.reduceLeDiff, Nat.reduceLT, Nat.reduceBEq, Int.reduceEq, reduceCtorEq]
  refine W.seq ?_
  refine W.seqR [] [(0, .int .i64 p0), (1, .int .i64 p1), (9, .bool (p2 == 10))] [] (by rfl) ?_ ?_
  · try simp -implicitDefEqProofs -dsimp only [go_sem, ↓reduceIte, Nat.reduceAdd, Nat.reduceMul, Nat.reduceSub, Nat.reduceEqDiff, Nat.reduceLeDiff, Nat.reduceLT, Nat.reduceBEq, Int.reduceEq, reduceCtorEq]
  refine W.cond (p2 == 10) (by simp only [ev_tmp, get_cons, ↓reduceIte, Nat.reduceEqDiff]) (fun hb1 => ?_) (fun hb1 => ?_)
  · have hm := of_true hb1 hm
    refine W.seqR [] [(6, .int .i64 (IntKind.wrap .i64 (p0 + 1))), (7, .int .i64 1)] [] (by rfl) ?_ ?_
    · try simp -implicitDefEqProofs -dsimp only [go_sem, ↓reduceIte, Nat.reduceAdd, Nat.reduceMul, Nat.reduceSub, Nat.reduceEqDiff, Nat.reduceLeDiff, Nat.reduceLT, Nat.reduceBEq, Int.reduceEq, reduceCtorEq, hb1]
    obtain rfl := Option.some.inj hm
    refine W.ret ?_
    try simp only [thenQ_normal, thenQ_exit, thenQ_ret, blockQ_normal, blockQ_here, blockQ_ret, blockQ_exit, ↓reduceIte, Nat.reduceEqDiff]
    refine EndsF.retW [] ?_
    simp -implicitDefEqProofs -dsimp only [go_sem, ↓reduceIte, Nat.reduceAdd, Nat.reduceMul, Nat.reduceSub, Nat.reduceEqDiff, Nat.reduceLeDiff, Nat.reduceLT, Nat.reduceBEq, Int.reduceEq, reduceCtorEq, hb1]
  · have hm := of_false hb1 hm
    refine W.skip ?_
    try simp only [thenQ_normal, thenQ_exit, thenQ_ret, blockQ_normal, blockQ_here, blockQ_ret, blockQ_exit, ↓reduceIte, Nat.reduceEqDiff]
    refine W.seqR [] [(6, .int .i64 p0), (7, .int .i64 (IntKind.wrap .i64 (p1 + 1)))] [] (by rfl) ?_ ?_
    · try simp -implicitDefEqProofs -dsimp only [go_sem, ↓reduceIte, Nat.reduceAdd, Nat.reduceMul, Nat.reduceSub, Nat.reduceEqDiff, Nat.reduceLeDiff, Nat.reduceLT, Nat.reduceBEq, Int.reduceEq, reduceCtorEq, hb1]
    obtain rfl := Option.some.inj hm
    refine W.ret ?_
    try simp only [thenQ_normal, thenQ_exit, thenQ_ret, blockQ_normal, blockQ_here, blockQ_ret, blockQ_exit, ↓reduceIte, Nat.reduceEqDiff]
    refine EndsF.retW [] ?_
    simp -implicitDefEqProofs -dsimp only [go_sem, ↓reduceIte, Nat.reduceAdd, Nat.reduceMul, Nat.reduceSub, Nat.reduceEqDiff, Nat.reduceLeDiff, Nat.reduceLT, Nat.reduceBEq, Int.reduceEq, reduceCtorEq, hb1]

theorem glyph_Letter_ok {p0 : Int} {r : Bool} (hm : glyph_Letter p0 = some r) : PureF Tryd.prog 74 [.int .i32 p0] (.bool r) := by
  rw [glyph_Letter] at hm
  refine PureF.of Tryd.func74 rfl Tryd.ntmps74 (Nat.le_of_ble_eq_true rfl) ?_
  have e0 : argS 0 [.int .i32 p0] = [(0, .int .i32 p0)] := rfl
  rw [e0]
  refine W.seqR [] [(0, .int .i32 p0)] [] (by rfl) ?_ ?_
  · try simp -implicitDefEqProofs -dsimp only [go_sem, ↓reduceIte, Nat.reduceAdd, Nat.reduceMul, Nat.reduceSub, Nat.reduceEqDiff, Nat.reduceLeDiff, Nat.reduceLT, Nat.reduceBEq, Int.reduceEq, reduceCtorEq]
  obtain ⟨b1, h2, hm⟩ := of_bind hm
  replace h2 := Option.some.inj h2
  refine W.seqR [] [(2, .bool b1)] [] (by rfl) ?_ ?_
  · try simp -implicitDefEqProofs -dsimp only [go_sem, ↓reduceIte, Nat.reduceAdd, Nat.reduceMul, Nat.reduceSub, Nat.reduceEqDiff, Nat.reduceLeDiff, Nat.reduceLT, Nat.reduceBEq, Int.reduceEq, reduceCtorEq, ← h2]
    refine onG_split (fun hg3 => ?_) (fun hg3 => ?_)
    · try simp -implicitDefEqProofs -dsimp only [go_sem, ↓reduceIte, Nat.reduceAdd, Nat.reduceMul, Nat.reduceSub, Nat.reduceEqDiff, Nat.reduceLeDiff, Nat.reduceLT, Nat.reduceBEq, Int.reduceEq, reduceCtorEq, hg3, ← h2]
      refine onG_splitN (fun hg4 => ?_) (fun hg4 => ?_)
      · try simp -implicitDefEqProofs -dsimp only [go_sem, ↓reduceIte, Nat.reduceAdd, Nat.reduceMul, Nat.reduceSub, Nat.reduceEqDiff, Nat.reduceLeDiff, Nat.reduceLT, Nat.reduceBEq, Int.reduceEq, reduceCtorEq, hg3, hg4, ← h2]
        refine onG_split (fun hg5 => ?_) (fun hg5 => ?_)
        · try simp -implicitDefEqProofs -dsimp only [go_sem, ↓reduceIte, Nat.reduceAdd, Nat.reduceMul, Nat.reduceSub, Nat.reduceEqDiff, Nat.reduceLeDiff, Nat.reduceLT, Nat.reduceBEq, Int.reduceEq, reduceCtorEq, hg3, hg4, hg5, ← h2]
          refine onG_splitN (fun hg6 => ?_) (fun hg6 => ?_)
          · try simp -implicitDefEqProofs -dsimp only [go_sem, ↓reduceIte, Nat.reduceAdd, Nat.reduceMul, Nat.reduceSub, Nat.reduceEqDiff, Nat.reduceLeDiff, Nat.reduceLT, Nat.reduceBEq, Int.reduceEq, reduceCtorEq, hg3, hg4, hg5, hg6, ← h2]
            refine onG_splitN (fun hg7 => ?_) (fun hg7 => ?_)
            · try simp -implicitDefEqProofs -dsimp only [go_sem, ↓reduceIte, Nat.reduceAdd, Nat.reduceMul, Nat.reduceSub, Nat.reduceEqDiff, Nat.reduceLeDiff, Nat.reduceLT, Nat.reduceBEq, Int.reduceEq, reduceCtorEq, hg3, hg4, hg5, hg6, hg7, ← h2]
              refine onG_split (fun hg8 => ?_) (fun hg8 => ?_)
              · try simp -implicitDefEqProofs -dsimp only [go_sem, ↓reduceIte, Nat.reduceAdd, Nat.reduceMul, Nat.reduceSub, Nat.reduceEqDiff, Nat.reduceLeDiff, Nat.reduceLT, Nat.reduceBEq, Int.reduceEq, reduceCtorEq, hg3, hg4, hg5, hg6, hg7, hg8, ← h2]
              · try simp -implicitDefEqProofs -dsimp only [go_sem, ↓reduceIte, Nat.reduceAdd, Nat.reduceMul, Nat.reduceSub, Nat.reduceEqDiff, Nat.reduceLeDiff, Nat.reduceLT, Nat.reduceBEq, Int.reduceEq, reduceCtorEq, hg3, hg4, hg5, hg6, hg7, hg8, ← h2]
            · try simp -implicitDefEqProofs -dsimp only [go_sem, ↓reduceIte, Nat.reduceAdd, Nat.reduceMul, Nat.reduceSub, Nat.reduceEqDiff, Nat.reduceLeDiff, Nat.reduceLT, Nat.reduceBEq, Int.reduceEq, reduceCtorEq, hg3, hg4, hg5, hg6, hg7, ← h2]
          · try simp -implicitDefEqProofs -dsimp only [go_sem, ↓reduceIte, Nat.reduceAdd, Nat.reduceMul, Nat.reduceSub, Nat.reduceEqDiff, Nat.reduceLeDiff, Nat.reduceLT, Nat.reduceBEq, Int.reduceEq, reduceCtorEq, hg3, hg4, hg5, hg6, ← h2]
        · try simp -implicitDefEqProofs -dsimp only [go_sem, ↓reduceIte, Nat.reduceAdd, Nat.reduceMul, Nat.reduceSub, Nat.reduceEqDiff, Nat.reduceLeDiff, Nat.reduceLT, Nat.reduceBEq, Int.reduceEq, reduceCtorEq, hg3, hg4, hg5, ← h2]
          refine onG_splitN (fun hg9 => ?_) (fun hg9 => ?_)
          · try simp -implicitDefEqProofs -dsimp only [go_sem, ↓reduceIte, Nat.reduceAdd, Nat.reduceMul, Nat.reduceSub, Nat.reduceEqDiff, Nat.reduceLeDiff, Nat.reduceLT, Nat.reduceBEq, Int.reduceEq, reduceCtorEq, hg3, hg4, hg5, hg9, ← h2]
            refine onG_split (fun hg10 => ?_) (fun hg10 => ?_)
            · try simp -implicitDefEqProofs -dsimp only [go_sem, ↓reduceIte, Nat.reduceAdd, Nat.reduceMul, Nat.reduceSub, Nat.reduceEqDiff, Nat.reduceLeDiff, Nat.reduceLT, Nat.reduceBEq, Int.reduceEq, reduceCtorEq, hg3, hg4, hg5, hg9, hg10, ← h2]
            · try simp -implicitDefEqProofs -dsimp only [go_sem, ↓reduceIte, Nat.reduceAdd, Nat.reduceMul, Nat.reduceSub, Nat.reduceEqDiff, Nat.reduceLeDiff, Nat.reduceLT, Nat.reduceBEq, Int.reduceEq, reduceCtorEq, hg3, hg4, hg5, hg9, hg10, ← h2]
          · try simp -implicitDefEqProofs -dsimp only [go_sem, ↓reduceIte, Nat.reduceAdd, Nat.reduceMul, Nat.reduceSub, Nat.reduceEqDiff, Nat.reduceLeDiff, Nat.reduceLT, Nat.reduceBEq, Int.reduceEq, reduceCtorEq, hg3, hg4, hg5, hg9, ← h2]
      · try simp -implicitDefEqProofs -dsimp only [go_sem, ↓reduceIte, Nat.reduceAdd, Nat.reduceMul, Nat.reduceSub, Nat.reduceEqDiff, Nat.reduceLeDiff, Nat.reduceLT, Nat.reduceBEq, Int.reduceEq, reduceCtorEq, hg3, hg4, ← h2]
    · try simp -implicitDefEqProofs -dsimp only [go_sem, ↓reduceIte, Nat.reduceAdd, Nat.reduceMul, Nat.reduceSub, Nat.reduceEqDiff, Nat.reduceLeDiff, Nat.reduceLT, Nat.reduceBEq, Int.reduceEq, reduceCtorEq, hg3, ← h2]
      refine onG_split (fun hg11 => ?_) (fun hg11 => ?_)
      · try simp -implicitDefEqProofs -dsimp only [go_sem, ↓reduceIte, Nat.reduceAdd, Nat.reduceMul, Nat.reduceSub, Nat.reduceEqDiff, Nat.reduceLeDiff, Nat.reduceLT, Nat.reduceBEq, Int.reduceEq, reduceCtorEq, hg3, hg11, ← h2]
        refine onG_splitN (fun hg12 => ?_) (fun hg12 => ?_)
        · try simp -implicitDefEqProofs -dsimp only [go_sem, ↓reduceIte, Nat.reduceAdd, Nat.reduceMul, Nat.reduceSub, Nat.reduceEqDiff, Nat.reduceLeDiff, Nat.reduceLT, Nat.reduceBEq, Int.reduceEq, reduceCtorEq, hg3, hg11, hg12, ← h2]
          refine onG_splitN (fun hg13 => ?_) (fun hg13 => ?_)
          · try simp -implicitDefEqProofs -dsimp only [go_sem, ↓reduceIte, Nat.reduceAdd, Nat.reduceMul, Nat.reduceSub, Nat.reduceEqDiff, Nat.reduceLeDiff, Nat.reduceLT, Nat.reduceBEq, Int.reduceEq, reduceCtorEq, hg3, hg11, hg12, hg13, ← h2]
            refine onG_split (fun hg14 => ?_) (fun hg14 => ?_)
            · try simp -implicitDefEqProofs -dsimp only [go_sem, ↓reduceIte, Nat.reduceAdd, Nat.reduceMul, Nat.reduceSub, Nat.reduceEqDiff, Nat.reduceLeDiff, Nat.reduceLT, Nat.reduceBEq, Int.reduceEq, reduceCtorEq, hg3, hg11, hg12, hg13, hg14, ← h2]
            · try simp -implicitDefEqProofs -dsimp only [go_sem, ↓reduceIte, Nat.reduceAdd, Nat.reduceMul, Nat.reduceSub, Nat.reduceEqDiff, Nat.reduceLeDiff, Nat.reduceLT, Nat.reduceBEq, Int.reduceEq, reduceCtorEq, hg3, hg11, hg12, hg13, hg14, ← h2]
          · try simp -implicitDefEqProofs -dsimp only [go_sem, ↓reduceIte, Nat.reduceAdd, Nat.reduceMul, Nat.reduceSub, Nat.reduceEqDiff, Nat.reduceLeDiff, Nat.reduceLT, Nat.reduceBEq, Int.reduceEq, reduceCtorEq, hg3, hg11, hg12, hg13, ← h2]
        · try simp -implicitDefEqProofs -dsimp only [go_sem, ↓reduceIte, Nat.reduceAdd, Nat.reduceMul, Nat.reduceSub, Nat.reduceEqDiff, Nat.reduceLeDiff, Nat.reduceLT, Nat.reduceBEq, Int.reduceEq, reduceCtorEq, hg3, hg11, hg12, ← h2]
      · try simp -implicitDefEqProofs -dsimp only [go_sem, ↓reduceIte, Nat.reduceAdd, Nat.reduceMul, Nat.reduceSub, Nat.reduceEqDiff, Nat.reduceLeDiff, Nat.reduceLT, Nat.reduceBEq, Int.reduceEq, reduceCtorEq, hg3, hg11, ← h2]
        refine onG_splitN (fun hg15 => ?_) (fun hg15 => ?_)
        · try simp -implicitDefEqProofs -dsimp only [go_sem, ↓reduceIte, Nat.reduceAdd, Nat.reduceMul, Nat.reduceSub, Nat.reduceEqDiff, Nat.reduceLeDiff, Nat.reduceLT, Nat.reduceBEq, Int.reduceEq, reduceCtorEq, hg3, hg11, hg15, ← h2]
          refine onG_split (fun hg16 => ?_) (fun hg16 => ?_)
          · try simp -implicitDefEqProofs -dsimp only [go_sem, ↓reduceIte, Nat.reduceAdd, Nat.reduceMul, Nat.reduceSub, Nat.reduceEqDiff, Nat.reduceLeDiff, Nat.reduceLT, Nat.reduceBEq, Int.reduceEq, reduceCtorEq, hg3, hg11, hg15, hg16, ← h2]
          · try simp -implicitDefEqProofs -dsimp only [go_sem, ↓reduceIte, Nat.reduceAdd, Nat.reduceMul, Nat.reduceSub, Nat.reduceEqDiff, Nat.reduceLeDiff, Nat.reduceLT, Nat.reduceBEq, Int.reduceEq, reduceCtorEq, hg3, hg11, hg15, hg16, ← h2]
        · try simp -implicitDefEqProofs -dsimp only [go_sem, ↓reduceIte, Nat.reduceAdd, Nat.reduceMul, Nat.reduceSub, Nat.reduceEqDiff, Nat.reduceLeDiff, Nat.reduceLT, Nat.reduceBEq, Int.reduceEq, reduceCtorEq, hg3, hg11, hg15, ← h2]
  obtain rfl := Option.some.inj hm
  refine W.ret ?_
  try simp only [thenQ_normal, thenQ_exit, thenQ_ret, blockQ_normal, blockQ_here, blockQ_ret, blockQ_exit, ↓reduceIte, Nat.reduceEqDiff]
  refine EndsF.retW [] ?_
  simp -implicitDefEqProofs -dsimp only [go_sem, ↓reduceIte, Nat.reduceAdd, Nat.reduceMul, Nat.reduceSub, Nat.reduceEqDiff, Nat.reduceLeDiff, Nat.reduceLT, Nat.reduceBEq, Int.reduceEq, reduceCtorEq]

theorem glyph_Digit_ok {p0 : Int} {r : Bool} (hm : glyph_Digit p0 = some r) : PureF Tryd.prog 75 [.int .i32 p0] (.bool r) := by
  rw [glyph_Digit] at hm
  refine PureF.of Tryd.func75 rfl Tryd.ntmps75 (Nat.le_of_ble_eq_true rfl) ?_
  have e0 : argS 0 [.int .i32 p0] = [(0, .int .i32 p0)] := rfl
  rw [e0]
  refine W.seqR [] [(0, .int .i32 p0)] [] (by rfl) ?_ ?_
  · try simp -implicitDefEqProofs -dsimp only [go_sem, ↓reduceIte, Nat.reduceAdd, Nat.reduceMul, Nat.reduceSub, Nat.reduceEqDiff, Nat.reduceLeDiff, Nat.reduceLT, Nat.reduceBEq, Int.reduceEq, reduceCtorEq]
  refine W.seqR [] [(2, .bool (decide (p0 ≥ 48) && decide (p0 ≤ 57)))] [] (by rfl) ?_ ?_
  · try simp -implicitDefEqProofs -dsimp only [go_sem, ↓reduceIte, Nat.reduceAdd, Nat.reduceMul, Nat.reduceSub, Nat.reduceEqDiff, Nat.reduceLeDiff, Nat.reduceLT, Nat.reduceBEq, Int.reduceEq, reduceCtorEq]
    refine onG_split (fun hg1 => ?_) (fun hg1 => ?_)
    · try simp -implicitDefEqProofs -dsimp only [go_sem, ↓reduceIte, Nat.reduceAdd, Nat.reduceMul, Nat.reduceSub, Nat.reduceEqDiff, Nat.reduceLeDiff, Nat.reduceLT, Nat.reduceBEq, Int.reduceEq, reduceCtorEq, hg1]
    · try simp -implicitDefEqProofs -dsimp only [go_sem, ↓reduceIte, Nat.reduceAdd, Nat.reduceMul, Nat.reduceSub, Nat.reduceEqDiff, Nat.reduceLeDiff, Nat.reduceLT, Nat.reduceBEq, Int.reduceEq, reduceCtorEq, hg1]
  obtain rfl := Option.some.inj hm
  refine W.ret ?_
  try simp only [thenQ_normal, thenQ_exit, thenQ_ret, blockQ_normal, blockQ_here, blockQ_ret, blockQ_exit, ↓reduceIte, Nat.reduceEqDiff]
  refine EndsF.retW [] ?_
  simp -implicitDefEqProofs -dsimp only [go_sem, ↓reduceIte, Nat.reduceAdd, Nat.reduceMul, Nat.reduceSub, Nat.reduceEqDiff, Nat.reduceLeDiff, Nat.reduceLT, Nat.reduceBEq, Int.reduceEq, reduceCtorEq]

theorem glyph_Blank_ok {p0 : Int} {r : Bool} (hm : glyph_Blank p0 = some r) : PureF Tryd.prog 37 [.int .i32 p0] (.bool r) := by
  rw [glyph_Blank] at hm
  refine PureF.of Tryd.func37 rfl Tryd.ntmps37 (Nat.le_of_ble_eq_true rfl) ?_
  have e0 : argS 0 [.int .i32 p0] = [(0, .int .i32 p0)] := rfl
  rw [e0]
  refine W.seqR [] [(0, .int .i32 p0)] [] (by rfl) ?_ ?_
  · try simp -implicitDefEqProofs -dsimp only [go_sem, ↓reduceIte, Nat.reduceAdd, Nat.reduceMul, Nat.reduceSub, Nat.reduceEqDiff, Nat.reduceLeDiff, Nat.reduceLT, Nat.reduceBEq, Int.reduceEq, reduceCtorEq]
  refine W.seqR [] [(2, .bool ((p0 == 32) || (p0 == 9)))] [] (by rfl) ?_ ?_
  · try simp -implicitDefEqProofs -dsimp only [go_sem, ↓reduceIte, Nat.reduceAdd, Nat.reduceMul, Nat.reduceSub, Nat.reduceEqDiff, Nat.reduceLeDiff, Nat.reduceLT, Nat.reduceBEq, Int.reduceEq, reduceCtorEq]
    refine onG_splitN (fun hg1 => ?_) (fun hg1 => ?_)
    · try simp -implicitDefEqProofs -dsimp only [go_sem, ↓reduceIte, Nat.reduceAdd, Nat.reduceMul, Nat.reduceSub, Nat.reduceEqDiff, Nat.reduceLeDiff, Nat.reduceLT, Nat.reduceBEq, Int.reduceEq, reduceCtorEq, hg1]
    · try simp -implicitDefEqProofs -dsimp only [go_sem, ↓reduceIte, Nat.reduceAdd, Nat.reduceMul, Nat.reduceSub, Nat.reduceEqDiff, Nat.reduceLeDiff, Nat.reduceLT, Nat.reduceBEq, Int.reduceEq, reduceCtorEq, hg1]
  obtain rfl := Option.some.inj hm
  refine W.ret ?_
  try simp only [thenQ_normal, thenQ_exit, thenQ_ret, blockQ_normal, blockQ_here, blockQ_ret, blockQ_exit, ↓reduceIte, Nat.reduceEqDiff]
  refine EndsF.retW [] ?_
  simp -implicitDefEqProofs -dsimp only [go_sem, ↓reduceIte, Nat.reduceAdd, Nat.reduceMul, Nat.reduceSub, Nat.reduceEqDiff, Nat.reduceLeDiff, Nat.reduceLT, Nat.reduceBEq, Int.reduceEq, reduceCtorEq]

theorem palingref1_Letter_ok {p0 : Int} {r : Bool} (hm : palingref1_Letter p0 = some r) : PureF Tryd.prog 42 [.int .i32 p0] (.bool r) := by
  rw [palingref1_Letter] at hm
  refine PureF.of Tryd.func42 rfl Tryd.ntmps42 (Nat.le_of_ble_eq_true rfl) ?_
  have e0 : argS 0 [.int .i32 p0] = [(0, .int .i32 p0)] := rfl
  rw [e0]
  refine W.seqR [] [(0, .int .i32 p0)] [] (by rfl) ?_ ?_
  · try simp -implicitDefEqProofs -dsimp only [go_sem, ↓reduceIte, Nat.reduceAdd, Nat.reduceMul, Nat.reduceSub, Nat.reduceEqDiff, Nat.reduceLeDiff, Nat.reduceLT, Nat.reduceBEq, Int.reduceEq, reduceCtorEq]
  obtain ⟨b1, h2, hm⟩ := of_bind hm
  replace h2 := Option.some.inj h2
  refine W.seqR [] [(2, .bool b1)] [] (by rfl) ?_ ?_
  · try simp -implicitDefEqProofs -dsimp only [go_sem, ↓reduceIte, Nat.reduceAdd, Nat.reduceMul, Nat.reduceSub, Nat.reduceEqDiff, Nat.reduceLeDiff, Nat.reduceLT, Nat.reduceBEq, Int.reduceEq, reduceCtorEq, ← h2]
    refine onG_split (fun hg3 => ?_) (fun hg3 => ?_)
    · try simp -implicitDefEqProofs -dsimp only [go_sem, ↓reduceIte, Nat.reduceAdd, Nat.reduceMul, Nat.reduceSub, Nat.reduceEqDiff, Nat.reduceLeDiff, Nat.reduceLT, Nat.reduceBEq, Int.reduceEq, reduceCtorEq, hg3, ← h2]
      refine onG_splitN (fun hg4 => ?_) (fun hg4 => ?_)
      · try simp -implicitDefEqProofs -dsimp only [go_sem, ↓reduceIte, Nat.reduceAdd, Nat.reduceMul, Nat.reduceSub, Nat.reduceEqDiff, Nat.reduceLeDiff, Nat.reduceLT, Nat.reduceBEq, Int.reduceEq, reduceCtorEq, hg3, hg4, ← h2]
        refine onG_split (fun hg5 => ?_) (fun hg5 => ?_)
        · try simp -implicitDefEqProofs -dsimp only [go_sem, ↓reduceIte, Nat.reduceAdd, Nat.reduceMul, Nat.reduceSub, Nat.reduceEqDiff, Nat.reduceLeDiff, Nat.reduceLT, Nat.reduceBEq, Int.reduceEq, reduceCtorEq, hg3, hg4, hg5, ← h2]
          refine onG_splitN (fun hg6 => ?_) (fun hg6 => ?_)
          · try simp -implicitDefEqProofs -dsimp only [go_sem, ↓reduceIte, Nat.reduceAdd, Nat.reduceMul, Nat.reduceSub, Nat.reduceEqDiff, Nat.reduceLeDiff, Nat.reduceLT, Nat.reduceBEq, Int.reduceEq, reduceCtorEq, hg3, hg4, hg5, hg6, ← h2]
            refine onG_splitN (fun hg7 => ?_) (fun hg7 => ?_)
            · try simp -implicitDefEqProofs -dsimp only [go_sem, ↓reduceIte, Nat.reduceAdd, Nat.reduceMul, Nat.reduceSub, Nat.reduceEqDiff, Nat.reduceLeDiff, Nat.reduceLT, Nat.reduceBEq, Int.reduceEq, reduceCtorEq, hg3, hg4, hg5, hg6, hg7, ← h2]
              refine onG_split (fun hg8 => ?_) (fun hg8 => ?_)
              · try simp -implicitDefEqProofs -dsimp only [go_sem, ↓reduceIte, Nat.reduceAdd, Nat.reduceMul, Nat.reduceSub, Nat.reduceEqDiff, Nat.reduceLeDiff, Nat.reduceLT, Nat.reduceBEq, Int.reduceEq, reduceCtorEq, hg3, hg4, hg5, hg6, hg7, hg8, ← h2]
              · try simp -implicitDefEqProofs -dsimp only [go_sem, ↓reduceIte, Nat.reduceAdd, Nat.reduceMul, Nat.reduceSub, Nat.reduceEqDiff, Nat.reduceLeDiff, Nat.reduceLT, Nat.reduceBEq, Int.reduceEq, reduceCtorEq, hg3, hg4, hg5, hg6, hg7, hg8, ← h2]
            · try simp -implicitDefEqProofs -dsimp only [go_sem, ↓reduceIte, Nat.reduceAdd, Nat.reduceMul, Nat.reduceSub, Nat.reduceEqDiff, Nat.reduceLeDiff, Nat.reduceLT, Nat.reduceBEq, Int.reduceEq, reduceCtorEq, hg3, hg4, hg5, hg6, hg7, ← h2]
          · try simp -implicitDefEqProofs -dsimp only [go_sem, ↓reduceIte, Nat.reduceAdd, Nat.reduceMul, Nat.reduceSub, Nat.reduceEqDiff, Nat.reduceLeDiff, Nat.reduceLT, Nat.reduceBEq, Int.reduceEq, reduceCtorEq, hg3, hg4, hg5, hg6, ← h2]
        · try simp -implicitDefEqProofs -dsimp only [go_sem, ↓reduceIte, Nat.reduceAdd, Nat.reduceMul, Nat.reduceSub, Nat.reduceEqDiff, Nat.reduceLeDiff, Nat.reduceLT, Nat.reduceBEq, Int.reduceEq, reduceCtorEq, hg3, hg4, hg5, ← h2]
          refine onG_splitN (fun hg9 => ?_) (fun hg9 => ?_)
          · try simp -implicitDefEqProofs -dsimp only [go_sem, ↓reduceIte, Nat.reduceAdd, Nat.reduceMul, Nat.reduceSub, Nat.reduceEqDiff, Nat.reduceLeDiff, Nat.reduceLT, Nat.reduceBEq, Int.reduceEq, reduceCtorEq, hg3, hg4, hg5, hg9, ← h2]
            refine onG_split (fun hg10 => ?_) (fun hg10 => ?_)
            · try simp -implicitDefEqProofs -dsimp only [go_sem, ↓reduceIte, Nat.reduceAdd, Nat.reduceMul, Nat.reduceSub, Nat.reduceEqDiff, Nat.reduceLeDiff, Nat.reduceLT, Nat.reduceBEq, Int.reduceEq, reduceCtorEq, hg3, hg4, hg5, hg9, hg10, ← h2]
            · try simp -implicitDefEqProofs -dsimp only [go_sem, ↓reduceIte, Nat.reduceAdd, Nat.reduceMul, Nat.reduceSub, Nat.reduceEqDiff, Nat.reduceLeDiff, Nat.reduceLT, Nat.reduceBEq, Int.reduceEq, reduceCtorEq, hg3, hg4, hg5, hg9, hg10, ← h2]
          · try simp -implicitDefEqProofs -dsimp only [go_sem, ↓reduceIte, Nat.reduceAdd, Nat.reduceMul, Nat.reduceSub, Nat.reduceEqDiff, Nat.reduceLeDiff, Nat.reduceLT, Nat.reduceBEq, Int.reduceEq, reduceCtorEq, hg3, hg4, hg5, hg9, ← h2]
      · try simp -implicitDefEqProofs -dsimp only [go_sem, ↓reduceIte, Nat.reduceAdd, Nat.reduceMul, Nat.reduceSub, Nat.reduceEqDiff, Nat.reduceLeDiff, Nat.reduceLT, Nat.reduceBEq, Int.reduceEq, reduceCtorEq, hg3, hg4, ← h2]
    · try simp -implicitDefEqProofs -dsimp only [go_sem, ↓reduceIte, Nat.reduceAdd, Nat.reduceMul, Nat.reduceSub, Nat.reduceEqDiff, Nat.reduceLeDiff, Nat.reduceLT, Nat.reduceBEq, Int.reduceEq, reduceCtorEq, hg3, ← h2]
      refine onG_split (fun hg11 => ?_) (fun hg11 => ?_)
      · try simp -implicitDefEqProofs -dsimp only [go_sem, ↓reduceIte, Nat.reduceAdd, Nat.reduceMul, Nat.reduceSub, Nat.reduceEqDiff, Nat.reduceLeDiff, Nat.reduceLT, Nat.reduceBEq, Int.reduceEq, reduceCtorEq, hg3, hg11, ← h2]
        refine onG_splitN (fun hg12 => ?_) (fun hg12 => ?_)
        · try simp -implicitDefEqProofs -dsimp only [go_sem, ↓reduceIte, Nat.reduceAdd, Nat.reduceMul, Nat.reduceSub, Nat.reduceEqDiff, Nat.reduceLeDiff, Nat.reduceLT, Nat.reduceBEq, Int.reduceEq, reduceCtorEq, hg3, hg11, hg12, ← h2]
          refine onG_splitN (fun hg13 => ?_) (fun hg13 => ?_)
          · try simp -implicitDefEqProofs -dsimp only [go_sem, ↓reduceIte, Nat.reduceAdd, Nat.reduceMul, Nat.reduceSub, Nat.reduceEqDiff, Nat.reduceLeDiff, Nat.reduceLT, Nat.reduceBEq, Int.reduceEq, reduceCtorEq, hg3, hg11, hg12, hg13, ← h2]
            refine onG_split (fun hg14 => ?_) (fun hg14 => ?_)
            · try simp -implicitDefEqProofs -dsimp only [go_sem, ↓reduceIte, Nat.reduceAdd, Nat.reduceMul, Nat.reduceSub, Nat.reduceEqDiff, Nat.reduceLeDiff, Nat.reduceLT, Nat.reduceBEq, Int.reduceEq, reduceCtorEq, hg3, hg11, hg12, hg13, hg14, ← h2]
            · try simp -implicitDefEqProofs -dsimp only [go_sem, ↓reduceIte, Nat.reduceAdd, Nat.reduceMul, Nat.reduceSub, Nat.reduceEqDiff, Nat.reduceLeDiff, Nat.reduceLT, Nat.reduceBEq, Int.reduceEq, reduceCtorEq, hg3, hg11, hg12, hg13, hg14, ← h2]
          · try simp -implicitDefEqProofs -dsimp only [go_sem, ↓reduceIte, Nat.reduceAdd, Nat.reduceMul, Nat.reduceSub, Nat.reduceEqDiff, Nat.reduceLeDiff, Nat.reduceLT, Nat.reduceBEq, Int.reduceEq, reduceCtorEq, hg3, hg11, hg12, hg13, ← h2]
        · try simp -implicitDefEqProofs -dsimp only [go_sem, ↓reduceIte, Nat.reduceAdd, Nat.reduceMul, Nat.reduceSub, Nat.reduceEqDiff, Nat.reduceLeDiff, Nat.reduceLT, Nat.reduceBEq, Int.reduceEq, reduceCtorEq, hg3, hg11, hg12, ← h2]
      · try simp -implicitDefEqProofs -dsimp only [go_sem, ↓reduceIte, Nat.reduceAdd, Nat.reduceMul, Nat.reduceSub, Nat.reduceEqDiff, Nat.reduceLeDiff, Nat.reduceLT, Nat.reduceBEq, Int.reduceEq, reduceCtorEq, hg3, hg11, ← h2]
        refine onG_splitN (fun hg15 => ?_) (fun hg15 => ?_)
        · try simp -implicitDefEqProofs -dsimp only [go_sem, ↓reduceIte, Nat.reduceAdd, Nat.reduceMul, Nat.reduceSub, Nat.reduceEqDiff, Nat.reduceLeDiff, Nat.reduceLT, Nat.reduceBEq, Int.reduceEq, reduceCtorEq, hg3, hg11, hg15, ← h2]
          refine onG_split (fun hg16 => ?_) (fun hg16 => ?_)
          · try simp -implicitDefEqProofs -dsimp only [go_sem, ↓reduceIte, Nat.reduceAdd, Nat.reduceMul, Nat.reduceSub, Nat.reduceEqDiff, Nat.reduceLeDiff, Nat.reduceLT, Nat.reduceBEq, Int.reduceEq, reduceCtorEq, hg3, hg11, hg15, hg16, ← h2]
          · try simp -implicitDefEqProofs -dsimp only [go_sem, ↓reduceIte, Nat.reduceAdd, Nat.reduceMul, Nat.reduceSub, Nat.reduceEqDiff, Nat.reduceLeDiff, Nat.reduceLT, Nat.reduceBEq, Int.reduceEq, reduceCtorEq, hg3, hg11, hg15, hg16, ← h2]
        · try simp -implicitDefEqProofs -dsimp only [go_sem, ↓reduceIte, Nat.reduceAdd, Nat.reduceMul, Nat.reduceSub, Nat.reduceEqDiff, Nat.reduceLeDiff, Nat.reduceLT, Nat.reduceBEq, Int.reduceEq, reduceCtorEq, hg3, hg11, hg15, ← h2]
  obtain rfl := Option.some.inj hm
  refine W.ret ?_
  try simp only [thenQ_normal, thenQ_exit, thenQ_ret, blockQ_normal, blockQ_here, blockQ_ret, blockQ_exit, ↓reduceIte, Nat.reduceEqDiff]
  refine EndsF.retW [] ?_
  simp -implicitDefEqProofs -dsimp only [go_sem, ↓reduceIte, Nat.reduceAdd, Nat.reduceMul, Nat.reduceSub, Nat.reduceEqDiff, Nat.reduceLeDiff, Nat.reduceLT, Nat.reduceBEq, Int.reduceEq, reduceCtorEq]

theorem palingref1_Digit_ok {p0 : Int} {r : Bool} (hm : palingref1_Digit p0 = some r) : PureF Tryd.prog 43 [.int .i32 p0] (.bool r) := by
  rw [palingref1_Digit] at hm
  refine PureF.of Tryd.func43 rfl Tryd.ntmps43 (Nat.le_of_ble_eq_true rfl) ?_
  have e0 : argS 0 [.int .i32 p0] = [(0, .int .i32 p0)] := rfl
  rw [e0]
  refine W.seqR [] [(0, .int .i32 p0)] [] (by rfl) ?_ ?_
  · try simp -implicitDefEqProofs -dsimp only [go_sem, ↓reduceIte, Nat.reduceAdd, Nat.reduceMul, Nat.reduceSub, Nat.reduceEqDiff, Nat.reduceLeDiff, Nat.reduceLT, Nat.reduceBEq, Int.reduceEq, reduceCtorEq]
  refine W.seqR [] [(2, .bool (decide (p0 ≥ 48) && decide (p0 ≤ 57)))] [] (by rfl) ?_ ?_
  · try simp -implicitDefEqProofs -dsimp only [go_sem, ↓reduceIte, Nat.reduceAdd, Nat.reduceMul, Nat.reduceSub, Nat.reduceEqDiff, Nat.reduceLeDiff, Nat.reduceLT, Nat.reduceBEq, Int.reduceEq, reduceCtorEq]
    refine onG_split (fun hg1 => ?_) (fun hg1 => ?_)
    · try simp -implicitDefEqProofs -dsimp only [go_sem, ↓reduceIte, Nat.reduceAdd, Nat.reduceMul, Nat.reduceSub, Nat.reduceEqDiff, Nat.reduceLeDiff, Nat.reduceLT, Nat.reduceBEq, Int.reduceEq, reduceCtorEq, hg1]
    · try simp -implicitDefEqProofs -dsimp only [go_sem, ↓reduceIte, Nat.reduceAdd, Nat.reduceMul, Nat.reduceSub, Nat.reduceEqDiff, Nat.reduceLeDiff, Nat.reduceLT, Nat.reduceBEq, Int.reduceEq, reduceCtorEq, hg1]
  obtain rfl := Option.some.inj hm
  refine W.ret ?_
  try simp only [thenQ_normal, thenQ_exit, thenQ_ret, blockQ_normal, blockQ_here, blockQ_ret, blockQ_exit, ↓reduceIte, Nat.reduceEqDiff]
  refine EndsF.retW [] ?_
  simp -implicitDefEqProofs -dsimp only [go_sem, ↓reduceIte, Nat.reduceAdd, Nat.reduceMul, Nat.reduceSub, Nat.reduceEqDiff, Nat.reduceLeDiff, Nat.reduceLT, Nat.reduceBEq, Int.reduceEq, reduceCtorEq]

theorem palingref1_Blank_ok {p0 : Int} {r : Bool} (hm : palingref1_Blank p0 = some r) : PureF Tryd.prog 41 [.int .i32 p0] (.bool r) := by
  rw [palingref1_Blank] at hm
  refine PureF.of Tryd.func41 rfl Tryd.ntmps41 (Nat.le_of_ble_eq_true rfl) ?_
  have e0 : argS 0 [.int .i32 p0] = [(0, .int .i32 p0)] := rfl
  rw [e0]
  refine W.seqR [] [(0, .int .i32 p0)] [] (by rfl) ?_ ?_
  · try simp -implicitDefEqProofs -dsimp only [go_sem, ↓reduceIte, Nat.reduceAdd, Nat.reduceMul, Nat.reduceSub, Nat.reduceEqDiff, Nat.reduceLeDiff, Nat.reduceLT, Nat.reduceBEq, Int.reduceEq, reduceCtorEq]
  refine W.seqR [] [(2, .bool ((p0 == 32) || (p0 == 9)))] [] (by rfl) ?_ ?_
  · try simp -implicitDefEqProofs -dsimp only [go_sem, ↓reduceIte, Nat.reduceAdd, Nat.reduceMul, Nat.reduceSub, Nat.reduceEqDiff, Nat.reduceLeDiff, Nat.reduceLT, Nat.reduceBEq, Int.reduceEq, reduceCtorEq]
    refine onG_splitN (fun hg1 => ?_) (fun hg1 => ?_)
    · try simp -implicitDefEqProofs -dsimp only [go_sem, ↓reduceIte, Nat.reduceAdd, Nat.reduceMul, Nat.reduceSub, Nat.reduceEqDiff, Nat.reduceLeDiff, Nat.reduceLT, Nat.reduceBEq, Int.reduceEq, reduceCtorEq, hg1]
    · try simp -implicitDefEqProofs -dsimp only [go_sem, ↓reduceIte, Nat.reduceAdd, Nat.reduceMul, Nat.reduceSub, Nat.reduceEqDiff, Nat.reduceLeDiff, Nat.reduceLT, Nat.reduceBEq, Int.reduceEq, reduceCtorEq, hg1]
  obtain rfl := Option.some.inj hm
  refine W.ret ?_
  try simp only [thenQ_normal, thenQ_exit, thenQ_ret, blockQ_normal, blockQ_here, blockQ_ret, blockQ_exit, ↓reduceIte, Nat.reduceEqDiff]
  refine EndsF.retW [] ?_
  simp -implicitDefEqProofs -dsimp only [go_sem, ↓reduceIte, Nat.reduceAdd, Nat.reduceMul, Nat.reduceSub, Nat.reduceEqDiff, Nat.reduceLeDiff, Nat.reduceLT, Nat.reduceBEq, Int.reduceEq, reduceCtorEq]

theorem lex_fault_ok {p0 : Int} {p1 : T_glyph_Spot} {r : T_api_Fault} (hm : lex_fault p0 p1 = some r) : PureF Tryd.prog 36 [.int .i64 p0, .agg [.int .i32 p1.Rune, .int .i64 p1.At, .int .i64 p1.Size, .int .i64 p1.Line, .int .i64 p1.Col, .bool p1.Bad]] (.agg [.int .i64 r.Code, .int .i64 r.Line, .int .i64 r.Col]) := by
  rw [lex_fault] at hm
  refine PureF.of Tryd.func36 rfl Tryd.ntmps36 (Nat.le_of_ble_eq_true rfl) ?_
  have e0 : argS 0 [.int .i64 p0, .agg [.int .i32 p1.Rune, .int .i64 p1.At, .int .i64 p1.Size, .int .i64 p1.Line, .int .i64 p1.Col, .bool p1.Bad]] = [(0, .int .i64 p0), (1, .agg [.int .i32 p1.Rune, .int .i64 p1.At, .int .i64 p1.Size, .int .i64 p1.Line, .int .i64 p1.Col, .bool p1.Bad])] := rfl
  rw [e0]
  refine W.seqR [] [(0, .int .i64 p0), (3, .ptr 0 0 0), (4, .ptr 1 0 0)] [.cells [.int .i32 p1.Rune, .int .i64 p1.At, .int .i64 p1.Size, .int .i64 p1.Line, .int .i64 p1.Col, .bool p1.Bad] 0 74, .cells [.int .i64 0, .int .i64 0, .int .i64 0] 0 26] (by rfl) ?_ ?_
  · try simp -implicitDefEqProofs -dsimp only [go_sem, ↓reduceIte, Nat.reduceAdd, Nat.reduceMul, Nat.reduceSub, Nat.reduceEqDiff, Nat.reduceLeDiff, Nat.reduceLT, Nat.reduceBEq, Int.reduceEq, reduceCtorEq]
  refine W.seqR [] [(4, .ptr 1 0 0)] [.dead, .cells [.int .i64 p0, .int .i64 p1.Line, .int .i64 p1.Col] 0 26] (by rfl) ?_ ?_
  · try simp -implicitDefEqProofs -dsimp only [go_sem, ↓reduceIte, Nat.reduceAdd, Nat.reduceMul, Nat.reduceSub, Nat.reduceEqDiff, Nat.reduceLeDiff, Nat.reduceLT, Nat.reduceBEq, Int.reduceEq, reduceCtorEq]
  obtain rfl := Option.some.inj hm
  refine W.ret ?_
  try simp only [thenQ_normal, thenQ_exit, thenQ_ret, blockQ_normal, blockQ_here, blockQ_ret, blockQ_exit, ↓reduceIte, Nat.reduceEqDiff]
  refine EndsF.retW [] ?_
  simp -implicitDefEqProofs -dsimp only [go_sem, ↓reduceIte, Nat.reduceAdd, Nat.reduceMul, Nat.reduceSub, Nat.reduceEqDiff, Nat.reduceLeDiff, Nat.reduceLT, Nat.reduceBEq, Int.reduceEq, reduceCtorEq]

theorem lex_run_ok {p0 : (List T_glyph_Spot)} {p1 : Int} {r : Int × Int} (hm : lex_run p0 p1 = some r) : PureF Tryd.prog 38 [.sl (p0.map e_glyph_Spot), .int .i64 p1] (.tuple [.int .i64 r.1, .int .i64 r.2]) := by
  rw [lex_run] at hm
  refine PureF.of Tryd.func38 rfl Tryd.ntmps38 (Nat.le_of_ble_eq_true rfl) ?_
  have e0 : argS 0 [.sl (p0.map e_glyph_Spot), .int .i64 p1] = [(0, .sl (p0.map e_glyph_Spot)), (1, .int .i64 p1)] := rfl
  rw [e0]
  refine W.seqR [] [(0, .sl (p0.map e_glyph_Spot)), (1, .int .i64 p1)] [] (by rfl) ?_ ?_
  · try simp -implicitDefEqProofs -dsimp only [go_sem, ↓reduceIte, Nat.reduceAdd, Nat.reduceMul, Nat.reduceSub, Nat.reduceEqDiff, Nat.reduceLeDiff, Nat.reduceLT, Nat.reduceBEq, Int.reduceEq, reduceCtorEq]
  refine W.seqR [] [(0, .sl (p0.map e_glyph_Spot)), (1, .int .i64 p1)] [] (by rfl) ?_ ?_
  · try simp -implicitDefEqProofs -dsimp only [go_sem, ↓reduceIte, Nat.reduceAdd, Nat.reduceMul, Nat.reduceSub, Nat.reduceEqDiff, Nat.reduceLeDiff, Nat.reduceLT, Nat.reduceBEq, Int.reduceEq, reduceCtorEq]
  refine W.cut (fun s h => ∃ (v : Int) (w : Unit) (F : List Nat), lex_run_j1 p0 p1 v = some r ∧ AT 0 F [(0, .sl (p0.map e_glyph_Spot)), (1, .int .i64 p1), (6, .int .i64 v)] [] s h) ?_ ?_
  · obtain ⟨h43, hm⟩ := of_ite hm
    refine W.seqR [] [(0, .sl (p0.map e_glyph_Spot)), (1, .int .i64 p1), (7, .int .i32 ((rd p0 p1).Rune))] [] (by rfl) ?_ ?_
    · try simp -implicitDefEqProofs -dsimp only [go_sem, ↓reduceIte, Nat.reduceAdd, Nat.reduceMul, Nat.reduceSub, Nat.reduceEqDiff, Nat.reduceLeDiff, Nat.reduceLT, Nat.reduceBEq, Int.reduceEq, reduceCtorEq, h43]
    refine W.block ?_
    refine W.seqR [] [(0, .sl (p0.map e_glyph_Spot)), (1, .int .i64 p1), (7, .int .i32 ((rd p0 p1).Rune)), (15, .bool ((rd p0 p1).Rune == 10))] [] (by rfl) ?_ ?_
    · try simp -implicitDefEqProofs -dsimp only [go_sem, ↓reduceIte, Nat.reduceAdd, Nat.reduceMul, Nat.reduceSub, Nat.reduceEqDiff, Nat.reduceLeDiff, Nat.reduceLT, Nat.reduceBEq, Int.reduceEq, reduceCtorEq, h43]
    refine W.cond ((rd p0 p1).Rune == 10) (by simp only [ev_tmp, get_cons, ↓reduceIte, Nat.reduceEqDiff]) (fun hb44 => ?_) (fun hb44 => ?_)
    · have hm := of_true hb44 hm
      refine W.seqR [] [(4, .int .i64 (IntKind.wrap .i64 (p1 + 1))), (5, .int .i64 4)] [] (by rfl) ?_ ?_
      · try simp -implicitDefEqProofs -dsimp only [go_sem, ↓reduceIte, Nat.reduceAdd, Nat.reduceMul, Nat.reduceSub, Nat.reduceEqDiff, Nat.reduceLeDiff, Nat.reduceLT, Nat.reduceBEq, Int.reduceEq, reduceCtorEq, h43, hb44]
      obtain rfl := Option.some.inj hm
      refine W.ret ?_
      try simp only [thenQ_normal, thenQ_exit, thenQ_ret, blockQ_normal, blockQ_here, blockQ_ret, blockQ_exit, ↓reduceIte, Nat.reduceEqDiff]
      refine EndsF.retW [] ?_
      simp -implicitDefEqProofs -dsimp only [go_sem, ↓reduceIte, Nat.reduceAdd, Nat.reduceMul, Nat.reduceSub, Nat.reduceEqDiff, Nat.reduceLeDiff, Nat.reduceLT, Nat.reduceBEq, Int.reduceEq, reduceCtorEq, h43, hb44]
    · have hm := of_false hb44 hm
      obtain ⟨b45, h46, hm⟩ := of_bind hm
      replace h46 := Option.some.inj h46
      refine W.seqR [] [(0, .sl (p0.map e_glyph_Spot)), (1, .int .i64 p1), (7, .int .i32 ((rd p0 p1).Rune)), (20, .bool b45)] [] (by rfl) ?_ ?_
      · try simp -implicitDefEqProofs -dsimp only [go_sem, ↓reduceIte, Nat.reduceAdd, Nat.reduceMul, Nat.reduceSub, Nat.reduceEqDiff, Nat.reduceLeDiff, Nat.reduceLT, Nat.reduceBEq, Int.reduceEq, reduceCtorEq, h43, hb44, ← h46]
        refine onG_splitN (fun hg47 => ?_) (fun hg47 => ?_)
        · try simp -implicitDefEqProofs -dsimp only [go_sem, ↓reduceIte, Nat.reduceAdd, Nat.reduceMul, Nat.reduceSub, Nat.reduceEqDiff, Nat.reduceLeDiff, Nat.reduceLT, Nat.reduceBEq, Int.reduceEq, reduceCtorEq, h43, hb44, hg47, ← h46]
          refine onG_splitN (fun hg48 => ?_) (fun hg48 => ?_)
          · try simp -implicitDefEqProofs -dsimp only [go_sem, ↓reduceIte, Nat.reduceAdd, Nat.reduceMul, Nat.reduceSub, Nat.reduceEqDiff, Nat.reduceLeDiff, Nat.reduceLT, Nat.reduceBEq, Int.reduceEq, reduceCtorEq, h43, hb44, hg47, hg48, ← h46]
            refine onG_splitN (fun hg49 => ?_) (fun hg49 => ?_)
            · try simp -implicitDefEqProofs -dsimp only [go_sem, ↓reduceIte, Nat.reduceAdd, Nat.reduceMul, Nat.reduceSub, Nat.reduceEqDiff, Nat.reduceLeDiff, Nat.reduceLT, Nat.reduceBEq, Int.reduceEq, reduceCtorEq, h43, hb44, hg47, hg48, hg49, ← h46]
            · try simp -implicitDefEqProofs -dsimp only [go_sem, ↓reduceIte, Nat.reduceAdd, Nat.reduceMul, Nat.reduceSub, Nat.reduceEqDiff, Nat.reduceLeDiff, Nat.reduceLT, Nat.reduceBEq, Int.reduceEq, reduceCtorEq, h43, hb44, hg47, hg48, hg49, ← h46]
          · try simp -implicitDefEqProofs -dsimp only [go_sem, ↓reduceIte, Nat.reduceAdd, Nat.reduceMul, Nat.reduceSub, Nat.reduceEqDiff, Nat.reduceLeDiff, Nat.reduceLT, Nat.reduceBEq, Int.reduceEq, reduceCtorEq, h43, hb44, hg47, hg48, ← h46]
        · try simp -implicitDefEqProofs -dsimp only [go_sem, ↓reduceIte, Nat.reduceAdd, Nat.reduceMul, Nat.reduceSub, Nat.reduceEqDiff, Nat.reduceLeDiff, Nat.reduceLT, Nat.reduceBEq, Int.reduceEq, reduceCtorEq, h43, hb44, hg47, ← h46]
      refine W.cond b45 (by simp only [ev_tmp, get_cons, ↓reduceIte, Nat.reduceEqDiff]) (fun hb50 => ?_) (fun hb50 => ?_)
      · have hm := of_true hb50 hm
        refine W.seqR [] [(4, .int .i64 (IntKind.wrap .i64 (p1 + 1))), (5, .int .i64 3)] [] (by rfl) ?_ ?_
        · try simp -implicitDefEqProofs -dsimp only [go_sem, ↓reduceIte, Nat.reduceAdd, Nat.reduceMul, Nat.reduceSub, Nat.reduceEqDiff, Nat.reduceLeDiff, Nat.reduceLT, Nat.reduceBEq, Int.reduceEq, reduceCtorEq, h43, hb44, hb50]
        obtain rfl := Option.some.inj hm
        refine W.ret ?_
        try simp only [thenQ_normal, thenQ_exit, thenQ_ret, blockQ_normal, blockQ_here, blockQ_ret, blockQ_exit, ↓reduceIte, Nat.reduceEqDiff]
        refine EndsF.retW [] ?_
        simp -implicitDefEqProofs -dsimp only [go_sem, ↓reduceIte, Nat.reduceAdd, Nat.reduceMul, Nat.reduceSub, Nat.reduceEqDiff, Nat.reduceLeDiff, Nat.reduceLT, Nat.reduceBEq, Int.reduceEq, reduceCtorEq, h43, hb44, hb50]
      · have hm := of_false hb50 hm
        obtain ⟨v51, h52, hm⟩ := of_bind hm
        refine W.seqR [] [(0, .sl (p0.map e_glyph_Spot)), (1, .int .i64 p1), (7, .int .i32 ((rd p0 p1).Rune)), (37, .bool v51)] [] (by rfl) ?_ ?_
        · try simp -implicitDefEqProofs -dsimp only [go_sem, ↓reduceIte, Nat.reduceAdd, Nat.reduceMul, Nat.reduceSub, Nat.reduceEqDiff, Nat.reduceLeDiff, Nat.reduceLT, Nat.reduceBEq, Int.reduceEq, reduceCtorEq, h43, hb44, hb50]
          with_reducible refine exP.mk _ (callP.plain (by simp -implicitDefEqProofs -dsimp only [go_sem, ↓reduceIte, Nat.reduceAdd, Nat.reduceMul, Nat.reduceSub, Nat.reduceEqDiff, Nat.reduceLeDiff, Nat.reduceLT, Nat.reduceBEq, Int.reduceEq, reduceCtorEq, h43, hb44, hb50]) (glyph_Letter_ok h52)) ?_
          try simp -implicitDefEqProofs -dsimp only [go_sem, ↓reduceIte, Nat.reduceAdd, Nat.reduceMul, Nat.reduceSub, Nat.reduceEqDiff, Nat.reduceLeDiff, Nat.reduceLT, Nat.reduceBEq, Int.reduceEq, reduceCtorEq, h43, hb44, hb50]
        refine W.cond v51 (by simp only [ev_tmp, get_cons, ↓reduceIte, Nat.reduceEqDiff]) (fun hb53 => ?_) (fun hb53 => ?_)
        · have hm := of_true hb53 hm
          refine W.regL [] [(0, .sl (p0.map e_glyph_Spot)), (1, .int .i64 p1), (6, .int .i64 1)] [] (by rfl) ?_ ?_
          · try simp -implicitDefEqProofs -dsimp only [go_sem, ↓reduceIte, Nat.reduceAdd, Nat.reduceMul, Nat.reduceSub, Nat.reduceEqDiff, Nat.reduceLeDiff, Nat.reduceLT, Nat.reduceBEq, Int.reduceEq, reduceCtorEq, h43, hb44, hb50, hb53]
          try simp only [thenQ_normal, thenQ_exit, thenQ_ret, blockQ_normal, blockQ_here, blockQ_ret, blockQ_exit, ↓reduceIte, Nat.reduceEqDiff]
          exact ⟨1, (), [], hm, (show AT 0 [] [(0, .sl (p0.map e_glyph_Spot)), (1, .int .i64 p1), (6, .int .i64 1)] [] _ _ from by simp -implicitDefEqProofs -dsimp only [go_sem, ↓reduceIte, Nat.reduceAdd, Nat.reduceMul, Nat.reduceSub, Nat.reduceEqDiff, Nat.reduceLeDiff, Nat.reduceLT, Nat.reduceBEq, Int.reduceEq, reduceCtorEq, h43, hb44, hb50, hb53])⟩
        · have hm := of_false hb53 hm
          obtain ⟨v54, h55, hm⟩ := of_bind hm
          refine W.seqR [] [(0, .sl (p0.map e_glyph_Spot)), (1, .int .i64 p1), (40, .bool (v54 || ((rd p0 p1).Rune == 45)))] [] (by rfl) ?_ ?_
          · try simp -implicitDefEqProofs -dsimp only [go_sem, ↓reduceIte, Nat.reduceAdd, Nat.reduceMul, Nat.reduceSub, Nat.reduceEqDiff, Nat.reduceLeDiff, Nat.reduceLT, Nat.reduceBEq, Int.reduceEq, reduceCtorEq, h43, hb44, hb50, hb53]
            with_reducible refine exP.mk _ (callP.plain (by simp -implicitDefEqProofs -dsimp only [go_sem, ↓reduceIte, Nat.reduceAdd, Nat.reduceMul, Nat.reduceSub, Nat.reduceEqDiff, Nat.reduceLeDiff, Nat.reduceLT, Nat.reduceBEq, Int.reduceEq, reduceCtorEq, h43, hb44, hb50, hb53]) (glyph_Digit_ok h55)) ?_
            try simp -implicitDefEqProofs -dsimp only [go_sem, ↓reduceIte, Nat.reduceAdd, Nat.reduceMul, Nat.reduceSub, Nat.reduceEqDiff, Nat.reduceLeDiff, Nat.reduceLT, Nat.reduceBEq, Int.reduceEq, reduceCtorEq, h43, hb44, hb50, hb53]
            refine onG_splitN (fun hg56 => ?_) (fun hg56 => ?_)
            · try simp -implicitDefEqProofs -dsimp only [go_sem, ↓reduceIte, Nat.reduceAdd, Nat.reduceMul, Nat.reduceSub, Nat.reduceEqDiff, Nat.reduceLeDiff, Nat.reduceLT, Nat.reduceBEq, Int.reduceEq, reduceCtorEq, h43, hb44, hb50, hb53, hg56]
            · try simp -implicitDefEqProofs -dsimp only [go_sem, ↓reduceIte, Nat.reduceAdd, Nat.reduceMul, Nat.reduceSub, Nat.reduceEqDiff, Nat.reduceLeDiff, Nat.reduceLT, Nat.reduceBEq, Int.reduceEq, reduceCtorEq, h43, hb44, hb50, hb53, hg56]
          refine W.cond (v54 || ((rd p0 p1).Rune == 45)) (by simp only [ev_tmp, get_cons, ↓reduceIte, Nat.reduceEqDiff]) (fun hb57 => ?_) (fun hb57 => ?_)
          · have hm := of_true hb57 hm
            refine W.regL [] [(0, .sl (p0.map e_glyph_Spot)), (1, .int .i64 p1), (6, .int .i64 2)] [] (by rfl) ?_ ?_
            · try simp -implicitDefEqProofs -dsimp only [go_sem, ↓reduceIte, Nat.reduceAdd, Nat.reduceMul, Nat.reduceSub, Nat.reduceEqDiff, Nat.reduceLeDiff, Nat.reduceLT, Nat.reduceBEq, Int.reduceEq, reduceCtorEq, h43, hb44, hb50, hb53, hb57]
            try simp only [thenQ_normal, thenQ_exit, thenQ_ret, blockQ_normal, blockQ_here, blockQ_ret, blockQ_exit, ↓reduceIte, Nat.reduceEqDiff]
            exact ⟨2, (), [], hm, (show AT 0 [] [(0, .sl (p0.map e_glyph_Spot)), (1, .int .i64 p1), (6, .int .i64 2)] [] _ _ from by simp -implicitDefEqProofs -dsimp only [go_sem, ↓reduceIte, Nat.reduceAdd, Nat.reduceMul, Nat.reduceSub, Nat.reduceEqDiff, Nat.reduceLeDiff, Nat.reduceLT, Nat.reduceBEq, Int.reduceEq, reduceCtorEq, h43, hb44, hb50, hb53, hb57])⟩
          · have hm := of_false hb57 hm
            refine W.seqR [] [(4, .int .i64 p1), (5, .int .i64 0)] [] (by rfl) ?_ ?_
            · try simp -implicitDefEqProofs -dsimp only [go_sem, ↓reduceIte, Nat.reduceAdd, Nat.reduceMul, Nat.reduceSub, Nat.reduceEqDiff, Nat.reduceLeDiff, Nat.reduceLT, Nat.reduceBEq, Int.reduceEq, reduceCtorEq, h43, hb44, hb50, hb53, hb57]
            obtain rfl := Option.some.inj hm
            refine W.ret ?_
            try simp only [thenQ_normal, thenQ_exit, thenQ_ret, blockQ_normal, blockQ_here, blockQ_ret, blockQ_exit, ↓reduceIte, Nat.reduceEqDiff]
            refine EndsF.retW [] ?_
            simp -implicitDefEqProofs -dsimp only [go_sem, ↓reduceIte, Nat.reduceAdd, Nat.reduceMul, Nat.reduceSub, Nat.reduceEqDiff, Nat.reduceLeDiff, Nat.reduceLT, Nat.reduceBEq, Int.reduceEq, reduceCtorEq, h43, hb44, hb50, hb53, hb57]
  · rintro s h ⟨i1, _, F, hm, hat⟩
    refine W.weak F hat ?_
    show WK _ _ _ _ _ [(0, .sl (p0.map e_glyph_Spot)), (1, .int .i64 p1), (6, .int .i64 i1)] []
    rw [lex_run_j1] at hm
    refine W.seqR [] [(0, .sl (p0.map e_glyph_Spot)), (6, .int .i64 i1), (8, .int .i64 (IntKind.wrap .i64 (p1 + 1)))] [] (by rfl) ?_ ?_
    · try simp -implicitDefEqProofs -dsimp only [go_sem, ↓reduceIte, Nat.reduceAdd, Nat.reduceMul, Nat.reduceSub, Nat.reduceEqDiff, Nat.reduceLeDiff, Nat.reduceLT, Nat.reduceBEq, Int.reduceEq, reduceCtorEq]
    refine W.seq ?_
    refine W.block ?_
    obtain ⟨r31, hlr31, hm⟩ := of_bind hm
    refine W.mono (Q := fun e0 s0 h0 => e0 = .exit 1 ∧ ∃ w : Unit, s0 = [(6, .int .i64 i1), (8, .int .i64 r31)] ∧ h0 = []) (W.loopM (step := lex_run_s1 p0) (a0 := (IntKind.wrap .i64 (p1 + 1))) (fun (a : Int) (v : Unit) => ([(0, .sl (p0.map e_glyph_Spot)), (6, .int .i64 i1), (8, .int .i64 a)], [])) () hlr31 [] (show AT 0 [] [(0, .sl (p0.map e_glyph_Spot)), (6, .int .i64 i1), (8, .int .i64 (IntKind.wrap .i64 (p1 + 1)))] [] _ _ from by simp -implicitDefEqProofs -dsimp only [go_sem, ↓reduceIte, Nat.reduceAdd, Nat.reduceMul, Nat.reduceSub, Nat.reduceEqDiff, Nat.reduceLeDiff, Nat.reduceLT, Nat.reduceBEq, Int.reduceEq, reduceCtorEq]) ?_) ?_
    · rintro i21 _ x hm hx
      rw [lex_run_s1] at hm
      show WK _ _ _ _ _ [(0, .sl (p0.map e_glyph_Spot)), (6, .int .i64 i1), (8, .int .i64 i21)] []
      refine W.seq ?_
      obtain ⟨h32, hm⟩ := of_ite hm
      obtain ⟨h33, hm⟩ := of_ite hm
      obtain ⟨v34, h35, hm⟩ := of_bind hm
      obtain ⟨h36, hm⟩ := of_ite hm
      obtain ⟨v37, h38, hm⟩ := of_bind hm
      refine W.seqR [] [(0, .sl (p0.map e_glyph_Spot)), (6, .int .i64 i1), (8, .int .i64 i21), (76, .bool ((decide (i21 < (p0.length : Int)) && (!(rd p0 i21).Bad)) && (v34 || v37)))] [] (by rfl) ?_ ?_
      · try simp -implicitDefEqProofs -dsimp only [go_sem, ↓reduceIte, Nat.reduceAdd, Nat.reduceMul, Nat.reduceSub, Nat.reduceEqDiff, Nat.reduceLeDiff, Nat.reduceLT, Nat.reduceBEq, Int.reduceEq, reduceCtorEq, h32, h33, h36]
        refine onG_split (fun hg39 => ?_) (fun hg39 => ?_)
        · try simp -implicitDefEqProofs -dsimp only [go_sem, ↓reduceIte, Nat.reduceAdd, Nat.reduceMul, Nat.reduceSub, Nat.reduceEqDiff, Nat.reduceLeDiff, Nat.reduceLT, Nat.reduceBEq, Int.reduceEq, reduceCtorEq, h32, h33, h36, hg39]
          refine onG_splitN (fun hg40 => ?_) (fun hg40 => ?_)
          · try simp -implicitDefEqProofs -dsimp only [go_sem, ↓reduceIte, Nat.reduceAdd, Nat.reduceMul, Nat.reduceSub, Nat.reduceEqDiff, Nat.reduceLeDiff, Nat.reduceLT, Nat.reduceBEq, Int.reduceEq, reduceCtorEq, h32, h33, h36, hg39, hg40]
            with_reducible refine exP.mk _ (callP.plain (by simp -implicitDefEqProofs -dsimp only [go_sem, ↓reduceIte, Nat.reduceAdd, Nat.reduceMul, Nat.reduceSub, Nat.reduceEqDiff, Nat.reduceLeDiff, Nat.reduceLT, Nat.reduceBEq, Int.reduceEq, reduceCtorEq, h32, h33, h36, hg39, hg40]) (glyph_Letter_ok (of_true (by simp -implicitDefEqProofs -dsimp only [go_sem, ↓reduceIte, Nat.reduceAdd, Nat.reduceMul, Nat.reduceSub, Nat.reduceEqDiff, Nat.reduceLeDiff, Nat.reduceLT, Nat.reduceBEq, Int.reduceEq, reduceCtorEq, h32, h33, h36, hg39, hg40]) h35))) ?_
            try simp -implicitDefEqProofs -dsimp only [go_sem, ↓reduceIte, Nat.reduceAdd, Nat.reduceMul, Nat.reduceSub, Nat.reduceEqDiff, Nat.reduceLeDiff, Nat.reduceLT, Nat.reduceBEq, Int.reduceEq, reduceCtorEq, h32, h33, h36, hg39, hg40]
            refine onG_splitN (fun hg41 => ?_) (fun hg41 => ?_)
            · try simp -implicitDefEqProofs -dsimp only [go_sem, ↓reduceIte, Nat.reduceAdd, Nat.reduceMul, Nat.reduceSub, Nat.reduceEqDiff, Nat.reduceLeDiff, Nat.reduceLT, Nat.reduceBEq, Int.reduceEq, reduceCtorEq, h32, h33, h36, hg39, hg40, hg41]
              with_reducible refine exP.mk _ (callP.plain (by simp -implicitDefEqProofs -dsimp only [go_sem, ↓reduceIte, Nat.reduceAdd, Nat.reduceMul, Nat.reduceSub, Nat.reduceEqDiff, Nat.reduceLeDiff, Nat.reduceLT, Nat.reduceBEq, Int.reduceEq, reduceCtorEq, h32, h33, h36, hg39, hg40, hg41]) (glyph_Digit_ok (of_true (by simp -implicitDefEqProofs -dsimp only [go_sem, ↓reduceIte, Nat.reduceAdd, Nat.reduceMul, Nat.reduceSub, Nat.reduceEqDiff, Nat.reduceLeDiff, Nat.reduceLT, Nat.reduceBEq, Int.reduceEq, reduceCtorEq, h32, h33, h36, hg39, hg40, hg41]) h38))) ?_
              try simp -implicitDefEqProofs -dsimp only [go_sem, ↓reduceIte, Nat.reduceAdd, Nat.reduceMul, Nat.reduceSub, Nat.reduceEqDiff, Nat.reduceLeDiff, Nat.reduceLT, Nat.reduceBEq, Int.reduceEq, reduceCtorEq, h32, h33, h36, hg39, hg40, hg41]
            · try simp -implicitDefEqProofs -dsimp only [go_sem, ↓reduceIte, Nat.reduceAdd, Nat.reduceMul, Nat.reduceSub, Nat.reduceEqDiff, Nat.reduceLeDiff, Nat.reduceLT, Nat.reduceBEq, Int.reduceEq, reduceCtorEq, h32, h33, h36, hg39, hg40, hg41]
          · try simp -implicitDefEqProofs -dsimp only [go_sem, ↓reduceIte, Nat.reduceAdd, Nat.reduceMul, Nat.reduceSub, Nat.reduceEqDiff, Nat.reduceLeDiff, Nat.reduceLT, Nat.reduceBEq, Int.reduceEq, reduceCtorEq, h32, h33, h36, hg39, hg40]
        · try simp -implicitDefEqProofs -dsimp only [go_sem, ↓reduceIte, Nat.reduceAdd, Nat.reduceMul, Nat.reduceSub, Nat.reduceEqDiff, Nat.reduceLeDiff, Nat.reduceLT, Nat.reduceBEq, Int.reduceEq, reduceCtorEq, h32, h33, h36, hg39]
      refine W.cond ((decide (i21 < (p0.length : Int)) && (!(rd p0 i21).Bad)) && (v34 || v37)) (by simp only [ev_tmp, get_cons, ↓reduceIte, Nat.reduceEqDiff]) (fun hb42 => ?_) (fun hb42 => ?_)
      · have hm := of_true hb42 hm
        refine W.skip ?_
        try simp only [thenQ_normal, thenQ_exit, thenQ_ret, blockQ_normal, blockQ_here, blockQ_ret, blockQ_exit, ↓reduceIte, Nat.reduceEqDiff]
        refine W.block ?_
        refine W.regL [] [(0, .sl (p0.map e_glyph_Spot)), (6, .int .i64 i1), (8, .int .i64 (IntKind.wrap .i64 (i21 + 1)))] [] (by rfl) ?_ ?_
        · try simp -implicitDefEqProofs -dsimp only [go_sem, ↓reduceIte, Nat.reduceAdd, Nat.reduceMul, Nat.reduceSub, Nat.reduceEqDiff, Nat.reduceLeDiff, Nat.reduceLT, Nat.reduceBEq, Int.reduceEq, reduceCtorEq, h32, h33, h36, hb42]
        try simp only [thenQ_normal, thenQ_exit, thenQ_ret, blockQ_normal, blockQ_here, blockQ_ret, blockQ_exit, ↓reduceIte, Nat.reduceEqDiff]
        obtain rfl := Option.some.inj hm
        exact ⟨(IntKind.wrap .i64 (i21 + 1)), (), [], rfl, (show AT 0 [] [(0, .sl (p0.map e_glyph_Spot)), (6, .int .i64 i1), (8, .int .i64 (IntKind.wrap .i64 (i21 + 1)))] [] _ _ from by simp -implicitDefEqProofs -dsimp only [go_sem, ↓reduceIte, Nat.reduceAdd, Nat.reduceMul, Nat.reduceSub, Nat.reduceEqDiff, Nat.reduceLeDiff, Nat.reduceLT, Nat.reduceBEq, Int.reduceEq, reduceCtorEq, h32, h33, h36, hb42])⟩
      · have hm := of_false hb42 hm
        obtain rfl := Option.some.inj hm
        obtain rfl := hx _ rfl
        refine W.weak [] (show AT 0 [] [(6, .int .i64 i1), (8, .int .i64 i21)] [] _ _ from by simp -implicitDefEqProofs -dsimp only [go_sem, ↓reduceIte, Nat.reduceAdd, Nat.reduceMul, Nat.reduceSub, Nat.reduceEqDiff, Nat.reduceLeDiff, Nat.reduceLT, Nat.reduceBEq, Int.reduceEq, reduceCtorEq, h32, h33, h36, hb42]) (W.exit (show _ ∧ _ from ⟨rfl, (), rfl, rfl⟩))
    · rintro e0 s0 h0 ⟨rfl, _, rfl, rfl⟩
      try simp only [thenQ_normal, thenQ_exit, thenQ_ret, blockQ_normal, blockQ_here, blockQ_ret, blockQ_exit, ↓reduceIte, Nat.reduceEqDiff]
      show WK _ _ _ _ _ [(6, .int .i64 i1), (8, .int .i64 r31)] []
      try simp only [thenQ_normal, thenQ_exit, thenQ_ret, blockQ_normal, blockQ_here, blockQ_ret, blockQ_exit, ↓reduceIte, Nat.reduceEqDiff]
      refine W.seqR [] [(4, .int .i64 r31), (5, .int .i64 i1)] [] (by rfl) ?_ ?_
      · try simp -implicitDefEqProofs -dsimp only [go_sem, ↓reduceIte, Nat.reduceAdd, Nat.reduceMul, Nat.reduceSub, Nat.reduceEqDiff, Nat.reduceLeDiff, Nat.reduceLT, Nat.reduceBEq, Int.reduceEq, reduceCtorEq]
      obtain rfl := Option.some.inj hm
      refine W.ret ?_
      try simp only [thenQ_normal, thenQ_exit, thenQ_ret, blockQ_normal, blockQ_here, blockQ_ret, blockQ_exit, ↓reduceIte, Nat.reduceEqDiff]
      refine EndsF.retW [] ?_
      simp -implicitDefEqProofs -dsimp only [go_sem, ↓reduceIte, Nat.reduceAdd, Nat.reduceMul, Nat.reduceSub, Nat.reduceEqDiff, Nat.reduceLeDiff, Nat.reduceLT, Nat.reduceBEq, Int.reduceEq, reduceCtorEq]

theorem glyph_End_ok {p0 : ByteArray} {r : Int × Int} (hm : glyph_End p0 = some r) : PureF Tryd.prog 40 [.str p0] (.tuple [.int .i64 r.1, .int .i64 r.2]) := by
  rw [glyph_End] at hm
  refine PureF.of Tryd.func40 rfl Tryd.ntmps40 (Nat.le_of_ble_eq_true rfl) ?_
  have e0 : argS 0 [.str p0] = [(0, .str p0)] := rfl
  rw [e0]
  refine W.seqR [] [(0, .str p0)] [] (by rfl) ?_ ?_
  · try simp -implicitDefEqProofs -dsimp only [go_sem, ↓reduceIte, Nat.reduceAdd, Nat.reduceMul, Nat.reduceSub, Nat.reduceEqDiff, Nat.reduceLeDiff, Nat.reduceLT, Nat.reduceBEq, Int.reduceEq, reduceCtorEq]
  refine W.seqR [] [(0, .str p0), (4, .int .i64 1), (5, .int .i64 1)] [] (by rfl) ?_ ?_
  · try simp -implicitDefEqProofs -dsimp only [go_sem, ↓reduceIte, Nat.reduceAdd, Nat.reduceMul, Nat.reduceSub, Nat.reduceEqDiff, Nat.reduceLeDiff, Nat.reduceLT, Nat.reduceBEq, Int.reduceEq, reduceCtorEq]
  refine W.seq ?_
  refine W.seqR [] [(4, .int .i64 1), (5, .int .i64 1), (9, .ptr 0 0 0)] [.siter p0 0] (by rfl) ?_ ?_
  · try simp -implicitDefEqProofs -dsimp only [go_sem, ↓reduceIte, Nat.reduceAdd, Nat.reduceMul, Nat.reduceSub, Nat.reduceEqDiff, Nat.reduceLeDiff, Nat.reduceLT, Nat.reduceBEq, Int.reduceEq, reduceCtorEq]
  refine W.block ?_
  obtain ⟨r18, hlr18, hm⟩ := of_bind hm
  refine W.mono (Q := fun e0 s0 h0 => e0 = .exit 0 ∧ ∃ w : Unit, s0 = [(4, .int .i64 r18.1), (5, .int .i64 r18.2)] ∧ h0 = []) (W.loopM (step := glyph_End_s1 p0) (a0 := (1, 1, 0)) (fun (a : Int × Int × Nat) (v : Unit) => ([(4, .int .i64 a.1), (5, .int .i64 a.2.1), (9, .ptr 0 0 0)], [.siter p0 a.2.2])) () hlr18 [] (show AT 0 [] [(4, .int .i64 1), (5, .int .i64 1), (9, .ptr 0 0 0)] [.siter p0 0] _ _ from by simp -implicitDefEqProofs -dsimp only [go_sem, ↓reduceIte, Nat.reduceAdd, Nat.reduceMul, Nat.reduceSub, Nat.reduceEqDiff, Nat.reduceLeDiff, Nat.reduceLT, Nat.reduceBEq, Int.reduceEq, reduceCtorEq]) ?_) ?_
  · rintro ⟨i10, i11, n12⟩ _ x hm hx
    rw [glyph_End_s1] at hm
    show WK _ _ _ _ _ [(4, .int .i64 i10), (5, .int .i64 i11), (9, .ptr 0 0 0)] [.siter p0 n12]
    by_cases hb19 : n12 < p0.size
    · rw [if_pos hb19] at hm
      refine W.seqR [] [(4, .int .i64 i10), (5, .int .i64 i11), (9, .ptr 0 0 0), (10, .tuple [.bool true, .int .i64 (n12 : Int), .int .i32 ((Utf8.decode p0 n12).1)]), (11, .bool true)] [.siter p0 (n12 + (Utf8.decode p0 n12).2)] (by rfl) ?_ ?_
      · try simp -implicitDefEqProofs -dsimp only [go_sem, ↓reduceIte, Nat.reduceAdd, Nat.reduceMul, Nat.reduceSub, Nat.reduceEqDiff, Nat.reduceLeDiff, Nat.reduceLT, Nat.reduceBEq, Int.reduceEq, reduceCtorEq, hb19]
      refine W.seq ?_
      refine W.cond true (by simp -implicitDefEqProofs -dsimp only [go_sem, ↓reduceIte, Nat.reduceAdd, Nat.reduceMul, Nat.reduceSub, Nat.reduceEqDiff, Nat.reduceLeDiff, Nat.reduceLT, Nat.reduceBEq, Int.reduceEq, reduceCtorEq, hb19]) (fun _ => ?_) (fun hx => by cases hx)
      refine W.skip ?_
      try simp only [thenQ_normal, thenQ_exit, thenQ_ret, blockQ_normal, blockQ_here, blockQ_ret, blockQ_exit, ↓reduceIte, Nat.reduceEqDiff]
      refine W.block ?_
      refine W.seqR [] [(4, .int .i64 i10), (5, .int .i64 i11), (7, .int .i32 ((Utf8.decode p0 n12).1)), (9, .ptr 0 0 0)] [.siter p0 (n12 + (Utf8.decode p0 n12).2)] (by rfl) ?_ ?_
      · try simp -implicitDefEqProofs -dsimp only [go_sem, ↓reduceIte, Nat.reduceAdd, Nat.reduceMul, Nat.reduceSub, Nat.reduceEqDiff, Nat.reduceLeDiff, Nat.reduceLT, Nat.reduceBEq, Int.reduceEq, reduceCtorEq, hb19]
      obtain ⟨v20, h21, hm⟩ := of_bind hm
      refine W.regL [] [(4, .int .i64 v20.1), (5, .int .i64 v20.2), (9, .ptr 0 0 0)] [.siter p0 (n12 + (Utf8.decode p0 n12).2)] (by rfl) ?_ ?_
      · try simp -implicitDefEqProofs -dsimp only [go_sem, ↓reduceIte, Nat.reduceAdd, Nat.reduceMul, Nat.reduceSub, Nat.reduceEqDiff, Nat.reduceLeDiff, Nat.reduceLT, Nat.reduceBEq, Int.reduceEq, reduceCtorEq, hb19]
        with_reducible refine exP.mk _ (callP.plain (by simp -implicitDefEqProofs -dsimp only [go_sem, ↓reduceIte, Nat.reduceAdd, Nat.reduceMul, Nat.reduceSub, Nat.reduceEqDiff, Nat.reduceLeDiff, Nat.reduceLT, Nat.reduceBEq, Int.reduceEq, reduceCtorEq, hb19]) (glyph_step_ok h21)) ?_
        try simp -implicitDefEqProofs -dsimp only [go_sem, ↓reduceIte, Nat.reduceAdd, Nat.reduceMul, Nat.reduceSub, Nat.reduceEqDiff, Nat.reduceLeDiff, Nat.reduceLT, Nat.reduceBEq, Int.reduceEq, reduceCtorEq, hb19]
      try simp only [thenQ_normal, thenQ_exit, thenQ_ret, blockQ_normal, blockQ_here, blockQ_ret, blockQ_exit, ↓reduceIte, Nat.reduceEqDiff]
      obtain rfl := Option.some.inj hm
      exact ⟨(v20.1, v20.2, (n12 + (Utf8.decode p0 n12).2)), (), [], rfl, (show AT 0 [] [(4, .int .i64 v20.1), (5, .int .i64 v20.2), (9, .ptr 0 0 0)] [.siter p0 (n12 + (Utf8.decode p0 n12).2)] _ _ from by simp -implicitDefEqProofs -dsimp only [go_sem, ↓reduceIte, Nat.reduceAdd, Nat.reduceMul, Nat.reduceSub, Nat.reduceEqDiff, Nat.reduceLeDiff, Nat.reduceLT, Nat.reduceBEq, Int.reduceEq, reduceCtorEq, hb19])⟩
    · rw [if_neg hb19] at hm
      refine W.seqR [] [(4, .int .i64 i10), (5, .int .i64 i11), (9, .ptr 0 0 0), (10, .tuple [.bool false]), (11, .bool false)] [.siter p0 n12] (by rfl) ?_ ?_
      · try simp -implicitDefEqProofs -dsimp only [go_sem, ↓reduceIte, Nat.reduceAdd, Nat.reduceMul, Nat.reduceSub, Nat.reduceEqDiff, Nat.reduceLeDiff, Nat.reduceLT, Nat.reduceBEq, Int.reduceEq, reduceCtorEq, hb19]
      refine W.seq ?_
      refine W.cond false (by simp -implicitDefEqProofs -dsimp only [go_sem, ↓reduceIte, Nat.reduceAdd, Nat.reduceMul, Nat.reduceSub, Nat.reduceEqDiff, Nat.reduceLeDiff, Nat.reduceLT, Nat.reduceBEq, Int.reduceEq, reduceCtorEq, hb19]) (fun hx => by cases hx) (fun _ => ?_)
      obtain rfl := Option.some.inj hm
      obtain rfl := hx _ rfl
      refine W.weak [] (show AT 0 [] [(4, .int .i64 i10), (5, .int .i64 i11)] [] _ _ from by simp -implicitDefEqProofs -dsimp only [go_sem, ↓reduceIte, Nat.reduceAdd, Nat.reduceMul, Nat.reduceSub, Nat.reduceEqDiff, Nat.reduceLeDiff, Nat.reduceLT, Nat.reduceBEq, Int.reduceEq, reduceCtorEq, hb19]) (W.exit (show _ ∧ _ from ⟨rfl, (), rfl, rfl⟩))
  · rintro e0 s0 h0 ⟨rfl, _, rfl, rfl⟩
    try simp only [thenQ_normal, thenQ_exit, thenQ_ret, blockQ_normal, blockQ_here, blockQ_ret, blockQ_exit, ↓reduceIte, Nat.reduceEqDiff]
    show WK _ _ _ _ _ [(4, .int .i64 r18.1), (5, .int .i64 r18.2)] []
    try simp only [thenQ_normal, thenQ_exit, thenQ_ret, blockQ_normal, blockQ_here, blockQ_ret, blockQ_exit, ↓reduceIte, Nat.reduceEqDiff]
    refine W.seqR [] [(2, .int .i64 r18.1), (3, .int .i64 r18.2)] [] (by rfl) ?_ ?_
    · try simp -implicitDefEqProofs -dsimp only [go_sem, ↓reduceIte, Nat.reduceAdd, Nat.reduceMul, Nat.reduceSub, Nat.reduceEqDiff, Nat.reduceLeDiff, Nat.reduceLT, Nat.reduceBEq, Int.reduceEq, reduceCtorEq]
    obtain rfl := Option.some.inj hm
    refine W.ret ?_
    try simp only [thenQ_normal, thenQ_exit, thenQ_ret, blockQ_normal, blockQ_here, blockQ_ret, blockQ_exit, ↓reduceIte, Nat.reduceEqDiff]
    refine EndsF.retW [] ?_
    simp -implicitDefEqProofs -dsimp only [go_sem, ↓reduceIte, Nat.reduceAdd, Nat.reduceMul, Nat.reduceSub, Nat.reduceEqDiff, Nat.reduceLeDiff, Nat.reduceLT, Nat.reduceBEq, Int.reduceEq, reduceCtorEq]

end Go.Proofs.YtocjejladeeckaaDoor
