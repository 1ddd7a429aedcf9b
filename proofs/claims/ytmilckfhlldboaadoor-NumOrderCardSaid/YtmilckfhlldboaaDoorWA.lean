import Derived.Test.YtmilckfhlldboaaDoorVFacts
import Derived.Test.YtmilckfhlldboaaDoorPalA
set_option maxRecDepth 100000
set_option linter.unusedSimpArgs false
set_option linter.unusedVariables false
set_option linter.unusedSectionVars false
namespace Go.Proofs.YtmilckfhlldboaaDoor
open Go.Vs
variable [Tab]
theorem palingbook_Short_ok {p0 : ByteArray} {p1 : Int} {r : ByteArray} (hm : palingbook_Short p0 p1 = some r) : PureF Tryd.prog 23 [.str p0, .int .i64 p1] (.str r) := by
  rw [palingbook_Short] at hm
  refine PureF.of Tryd.func23 rfl Tryd.ntmps23 (Nat.le_of_ble_eq_true rfl) ?_
  have e0 : argS 0 [.str p0, .int .i64 p1] = [(0, .str p0), (1, .int .i64 p1)] := rfl
  rw [e0]
  refine W.seqR [] [(0, .str p0), (1, .int .i64 p1)] [] (by rfl) ?_ ?_
  · try simp -implicitDefEqProofs -dsimp only [go_sem, ↓reduceIte, Nat.reduceAdd, Nat.reduceMul, Nat.reduceSub, Nat.reduceEqDiff, Nat.reduceLeDiff, Nat.reduceLT, Nat.reduceBEq, Int.reduceEq, reduceCtorEq]
  obtain ⟨h1, hm⟩ := of_ite hm
  obtain ⟨s2, h3, hm⟩ := of_bind hm
  replace h3 := Option.some.inj h3
  refine W.seqR [] [(4, .str s2)] [] (by rfl) ?_ ?_
  · try simp -implicitDefEqProofs -dsimp only [go_sem, ↓reduceIte, Nat.reduceAdd, Nat.reduceMul, Nat.reduceSub, Nat.reduceEqDiff, Nat.reduceLeDiff, Nat.reduceLT, Nat.reduceBEq, Int.reduceEq, reduceCtorEq, h1, ← h3]
  obtain rfl := Option.some.inj hm
  refine W.ret ?_
  try simp only [thenQ_normal, thenQ_exit, thenQ_ret, blockQ_normal, blockQ_here, blockQ_ret, blockQ_exit, ↓reduceIte, Nat.reduceEqDiff]
  refine EndsF.retW [] ?_
  simp -implicitDefEqProofs -dsimp only [go_sem, ↓reduceIte, Nat.reduceAdd, Nat.reduceMul, Nat.reduceSub, Nat.reduceEqDiff, Nat.reduceLeDiff, Nat.reduceLT, Nat.reduceBEq, Int.reduceEq, reduceCtorEq, h1]

theorem state_row_int64_ok {p0 : (List Int)} {p1 : (List Int)} {r : Bool} (hm : state_row_int64 p0 p1 = some r) : PureF Tryd.prog 30 [.sl (p0.map (eInt .i64)), .sl (p1.map (eInt .i64))] (.bool r) := by
  rw [state_row_int64] at hm
  refine PureF.of Tryd.func30 rfl Tryd.ntmps30 (Nat.le_of_ble_eq_true rfl) ?_
  have e0 : argS 0 [.sl (p0.map (eInt .i64)), .sl (p1.map (eInt .i64))] = [(0, .sl (p0.map (eInt .i64))), (1, .sl (p1.map (eInt .i64)))] := rfl
  rw [e0]
  refine W.seqR [] [(0, .sl (p0.map (eInt .i64))), (1, .sl (p1.map (eInt .i64)))] [] (by rfl) ?_ ?_
  · try simp -implicitDefEqProofs -dsimp only [go_sem, ↓reduceIte, Nat.reduceAdd, Nat.reduceMul, Nat.reduceSub, Nat.reduceEqDiff, Nat.reduceLeDiff, Nat.reduceLT, Nat.reduceBEq, Int.reduceEq, reduceCtorEq]
  refine W.seq ?_
  refine W.seqR [] [(0, .sl (p0.map (eInt .i64))), (1, .sl (p1.map (eInt .i64))), (11, .bool ((p0.length : Int) != (p1.length : Int)))] [] (by rfl) ?_ ?_
  · try simp -implicitDefEqProofs -dsimp only [go_sem, ↓reduceIte, Nat.reduceAdd, Nat.reduceMul, Nat.reduceSub, Nat.reduceEqDiff, Nat.reduceLeDiff, Nat.reduceLT, Nat.reduceBEq, Int.reduceEq, reduceCtorEq]
  refine W.cond ((p0.length : Int) != (p1.length : Int)) (by simp only [ev_tmp, get_cons, ↓reduceIte, Nat.reduceEqDiff]) (fun hb1 => ?_) (fun hb1 => ?_)
  · have hm := of_true hb1 hm
    refine W.seqR [] [(4, .bool false)] [] (by rfl) ?_ ?_
    · try simp -implicitDefEqProofs -dsimp only [go_sem, ↓reduceIte, Nat.reduceAdd, Nat.reduceMul, Nat.reduceSub, Nat.reduceEqDiff, Nat.reduceLeDiff, Nat.reduceLT, Nat.reduceBEq, Int.reduceEq, reduceCtorEq, hb1]
    obtain rfl := Option.some.inj hm
    refine W.ret ?_
    try simp only [thenQ_normal, thenQ_exit, thenQ_ret, blockQ_normal, blockQ_here, blockQ_ret, blockQ_exit, ↓reduceIte, Nat.reduceEqDiff]
    refine EndsF.retW [] ?_
    simp -implicitDefEqProofs -dsimp only [go_sem, ↓reduceIte, Nat.reduceAdd, Nat.reduceMul, Nat.reduceSub, Nat.reduceEqDiff, Nat.reduceLeDiff, Nat.reduceLT, Nat.reduceBEq, Int.reduceEq, reduceCtorEq, hb1]
  · have hm := of_false hb1 hm
    refine W.skip ?_
    try simp only [thenQ_normal, thenQ_exit, thenQ_ret, blockQ_normal, blockQ_here, blockQ_ret, blockQ_exit, ↓reduceIte, Nat.reduceEqDiff]
    refine W.seq ?_
    refine W.seqR [] [(1, .sl (p1.map (eInt .i64))), (12, .sl (p0.map (eInt .i64))), (13, .int .i64 (p0.length : Int)), (14, .int .i64 0)] [] (by rfl) ?_ ?_
    · try simp -implicitDefEqProofs -dsimp only [go_sem, ↓reduceIte, Nat.reduceAdd, Nat.reduceMul, Nat.reduceSub, Nat.reduceEqDiff, Nat.reduceLeDiff, Nat.reduceLT, Nat.reduceBEq, Int.reduceEq, reduceCtorEq, hb1]
    refine W.block ?_
    obtain ⟨r16, hlr16, hm⟩ := of_bind hm
    refine W.mono (Q := fun e0 s0 h0 => match r16 with | .inl e => e0 = .exit 0 ∧ ∃ w : Unit, s0 = [] ∧ h0 = [] | .inr q => e0 = .ret ∧ s0 = [(4, .bool q)] ∧ h0 = []) (W.loopM (step := state_row_int64_s1 p0 p1) (a0 := 0) (fun (a : Int) (v : Unit) => ([(1, .sl (p1.map (eInt .i64))), (12, .sl (p0.map (eInt .i64))), (13, .int .i64 (p0.length : Int)), (14, .int .i64 a)], [])) () hlr16 [] (show AT 0 [] [(1, .sl (p1.map (eInt .i64))), (12, .sl (p0.map (eInt .i64))), (13, .int .i64 (p0.length : Int)), (14, .int .i64 0)] [] _ _ from by simp -implicitDefEqProofs -dsimp only [go_sem, ↓reduceIte, Nat.reduceAdd, Nat.reduceMul, Nat.reduceSub, Nat.reduceEqDiff, Nat.reduceLeDiff, Nat.reduceLT, Nat.reduceBEq, Int.reduceEq, reduceCtorEq, hb1]) ?_) ?_
    · rintro i11 _ x hm hx
      rw [state_row_int64_s1] at hm
      show WK _ _ _ _ _ [(1, .sl (p1.map (eInt .i64))), (12, .sl (p0.map (eInt .i64))), (13, .int .i64 (p0.length : Int)), (14, .int .i64 i11)] []
      refine W.seqR [] [(1, .sl (p1.map (eInt .i64))), (12, .sl (p0.map (eInt .i64))), (13, .int .i64 (p0.length : Int)), (14, .int .i64 i11), (15, .bool (decide (i11 < (p0.length : Int))))] [] (by rfl) ?_ ?_
      · try simp -implicitDefEqProofs -dsimp only [go_sem, ↓reduceIte, Nat.reduceAdd, Nat.reduceMul, Nat.reduceSub, Nat.reduceEqDiff, Nat.reduceLeDiff, Nat.reduceLT, Nat.reduceBEq, Int.reduceEq, reduceCtorEq, hb1]
      refine W.seq ?_
      refine W.cond (decide (i11 < (p0.length : Int))) (by simp only [ev_tmp, get_cons, ↓reduceIte, Nat.reduceEqDiff]) (fun hb17 => ?_) (fun hb17 => ?_)
      · have hm := of_true hb17 hm
        refine W.skip ?_
        try simp only [thenQ_normal, thenQ_exit, thenQ_ret, blockQ_normal, blockQ_here, blockQ_ret, blockQ_exit, ↓reduceIte, Nat.reduceEqDiff]
        refine W.seq ?_
        refine W.block ?_
        obtain ⟨h18, hm⟩ := of_ite hm
        refine W.seqR [] [(1, .sl (p1.map (eInt .i64))), (5, .int .i64 i11), (6, .int .i64 (rd p0 i11)), (12, .sl (p0.map (eInt .i64))), (13, .int .i64 (p0.length : Int)), (14, .int .i64 i11)] [] (by rfl) ?_ ?_
        · try simp -implicitDefEqProofs -dsimp only [go_sem, ↓reduceIte, Nat.reduceAdd, Nat.reduceMul, Nat.reduceSub, Nat.reduceEqDiff, Nat.reduceLeDiff, Nat.reduceLT, Nat.reduceBEq, Int.reduceEq, reduceCtorEq, hb1, hb17, h18]
        obtain ⟨h19, hm⟩ := of_ite hm
        refine W.seqR [] [(1, .sl (p1.map (eInt .i64))), (12, .sl (p0.map (eInt .i64))), (13, .int .i64 (p0.length : Int)), (14, .int .i64 i11), (24, .bool ((rd p0 i11) != (rd p1 i11)))] [] (by rfl) ?_ ?_
        · try simp -implicitDefEqProofs -dsimp only [go_sem, ↓reduceIte, Nat.reduceAdd, Nat.reduceMul, Nat.reduceSub, Nat.reduceEqDiff, Nat.reduceLeDiff, Nat.reduceLT, Nat.reduceBEq, Int.reduceEq, reduceCtorEq, hb1, hb17, h18, h19]
        refine W.cond ((rd p0 i11) != (rd p1 i11)) (by simp only [ev_tmp, get_cons, ↓reduceIte, Nat.reduceEqDiff]) (fun hb20 => ?_) (fun hb20 => ?_)
        · have hm := of_true hb20 hm
          refine W.seqR [] [(4, .bool false)] [] (by rfl) ?_ ?_
          · try simp -implicitDefEqProofs -dsimp only [go_sem, ↓reduceIte, Nat.reduceAdd, Nat.reduceMul, Nat.reduceSub, Nat.reduceEqDiff, Nat.reduceLeDiff, Nat.reduceLT, Nat.reduceBEq, Int.reduceEq, reduceCtorEq, hb1, hb17, h18, h19, hb20]
          obtain rfl := Option.some.inj hm
          obtain rfl := hx _ rfl
          refine W.weak [] (show AT 0 [] [(4, .bool false)] [] _ _ from by simp -implicitDefEqProofs -dsimp only [go_sem, ↓reduceIte, Nat.reduceAdd, Nat.reduceMul, Nat.reduceSub, Nat.reduceEqDiff, Nat.reduceLeDiff, Nat.reduceLT, Nat.reduceBEq, Int.reduceEq, reduceCtorEq, hb1, hb17, h18, h19, hb20]) (W.ret (show _ ∧ _ from ⟨rfl, rfl, rfl⟩))
        · have hm := of_false hb20 hm
          refine W.skip ?_
          try simp only [thenQ_normal, thenQ_exit, thenQ_ret, blockQ_normal, blockQ_here, blockQ_ret, blockQ_exit, ↓reduceIte, Nat.reduceEqDiff]
          refine W.regL [] [(1, .sl (p1.map (eInt .i64))), (12, .sl (p0.map (eInt .i64))), (13, .int .i64 (p0.length : Int)), (14, .int .i64 (IntKind.wrap .i64 (i11 + 1)))] [] (by rfl) ?_ ?_
          · try simp -implicitDefEqProofs -dsimp only [go_sem, ↓reduceIte, Nat.reduceAdd, Nat.reduceMul, Nat.reduceSub, Nat.reduceEqDiff, Nat.reduceLeDiff, Nat.reduceLT, Nat.reduceBEq, Int.reduceEq, reduceCtorEq, hb1, hb17, h18, h19, hb20]
          try simp only [thenQ_normal, thenQ_exit, thenQ_ret, blockQ_normal, blockQ_here, blockQ_ret, blockQ_exit, ↓reduceIte, Nat.reduceEqDiff]
          obtain rfl := Option.some.inj hm
          exact ⟨(IntKind.wrap .i64 (i11 + 1)), (), [], rfl, (show AT 0 [] [(1, .sl (p1.map (eInt .i64))), (12, .sl (p0.map (eInt .i64))), (13, .int .i64 (p0.length : Int)), (14, .int .i64 (IntKind.wrap .i64 (i11 + 1)))] [] _ _ from by simp -implicitDefEqProofs -dsimp only [go_sem, ↓reduceIte, Nat.reduceAdd, Nat.reduceMul, Nat.reduceSub, Nat.reduceEqDiff, Nat.reduceLeDiff, Nat.reduceLT, Nat.reduceBEq, Int.reduceEq, reduceCtorEq, hb1, hb17, h18, h19, hb20])⟩
      · have hm := of_false hb17 hm
        obtain rfl := Option.some.inj hm
        obtain rfl := hx _ rfl
        refine W.weak [] (show AT 0 [] [] [] _ _ from by simp -implicitDefEqProofs -dsimp only [go_sem, ↓reduceIte, Nat.reduceAdd, Nat.reduceMul, Nat.reduceSub, Nat.reduceEqDiff, Nat.reduceLeDiff, Nat.reduceLT, Nat.reduceBEq, Int.reduceEq, reduceCtorEq, hb1, hb17]) (W.exit (show _ ∧ _ from ⟨rfl, (), rfl, rfl⟩))
    · intro e0 s0 h0 hq
      rcases r16 with er16 | qr16
      · obtain ⟨rfl, _, rfl, rfl⟩ := hq
        have hm := of_inl hm
        try simp only [thenQ_normal, thenQ_exit, thenQ_ret, blockQ_normal, blockQ_here, blockQ_ret, blockQ_exit, ↓reduceIte, Nat.reduceEqDiff]
        show WK _ _ _ _ _ [] []
        try simp only [thenQ_normal, thenQ_exit, thenQ_ret, blockQ_normal, blockQ_here, blockQ_ret, blockQ_exit, ↓reduceIte, Nat.reduceEqDiff]
        refine W.seqR [] [(4, .bool true)] [] (by rfl) ?_ ?_
        · try simp -implicitDefEqProofs -dsimp only [go_sem, ↓reduceIte, Nat.reduceAdd, Nat.reduceMul, Nat.reduceSub, Nat.reduceEqDiff, Nat.reduceLeDiff, Nat.reduceLT, Nat.reduceBEq, Int.reduceEq, reduceCtorEq, hb1]
        obtain rfl := Option.some.inj hm
        refine W.ret ?_
        try simp only [thenQ_normal, thenQ_exit, thenQ_ret, blockQ_normal, blockQ_here, blockQ_ret, blockQ_exit, ↓reduceIte, Nat.reduceEqDiff]
        refine EndsF.retW [] ?_
        simp -implicitDefEqProofs -dsimp only [go_sem, ↓reduceIte, Nat.reduceAdd, Nat.reduceMul, Nat.reduceSub, Nat.reduceEqDiff, Nat.reduceLeDiff, Nat.reduceLT, Nat.reduceBEq, Int.reduceEq, reduceCtorEq, hb1]
      · obtain ⟨rfl, rfl, rfl⟩ := hq
        have hm := of_inr hm
        obtain rfl := Option.some.inj hm
        try simp only [thenQ_normal, thenQ_exit, thenQ_ret, blockQ_normal, blockQ_here, blockQ_ret, blockQ_exit, ↓reduceIte, Nat.reduceEqDiff]
        refine EndsF.retW [] ?_
        simp -implicitDefEqProofs -dsimp only [go_sem, ↓reduceIte, Nat.reduceAdd, Nat.reduceMul, Nat.reduceSub, Nat.reduceEqDiff, Nat.reduceLeDiff, Nat.reduceLT, Nat.reduceBEq, Int.reduceEq, reduceCtorEq, hb1]

theorem palingref1_Text_ok {p0 : Int} {r : ByteArray} (hm : palingref1_Text p0 = some r) : PureF Tryd.prog 27 [.int .i64 p0] (.str r) := by
  rw [palingref1_Text] at hm
  refine PureF.of Tryd.func27 rfl Tryd.ntmps27 (Nat.le_of_ble_eq_true rfl) ?_
  have e0 : argS 0 [.int .i64 p0] = [(0, .int .i64 p0)] := rfl
  rw [e0]
  refine W.seqR [] [(0, .int .i64 p0)] [] (by rfl) ?_ ?_
  · try simp -implicitDefEqProofs -dsimp only [go_sem, ↓reduceIte, Nat.reduceAdd, Nat.reduceMul, Nat.reduceSub, Nat.reduceEqDiff, Nat.reduceLeDiff, Nat.reduceLT, Nat.reduceBEq, Int.reduceEq, reduceCtorEq]
  refine W.seqR [] [(0, .int .i64 p0), (3, .int .u64 (IntKind.wrap .u64 p0))] [] (by rfl) ?_ ?_
  · try simp -implicitDefEqProofs -dsimp only [go_sem, ↓reduceIte, Nat.reduceAdd, Nat.reduceMul, Nat.reduceSub, Nat.reduceEqDiff, Nat.reduceLeDiff, Nat.reduceLT, Nat.reduceBEq, Int.reduceEq, reduceCtorEq]
  refine W.cut (fun s h => ∃ (v : Int) (w : Unit) (F : List Nat), palingref1_Text_j1 p0 v = some r ∧ AT 0 F [(0, .int .i64 p0), (3, .int .u64 v)] [] s h) ?_ ?_
  · refine W.seqR [] [(0, .int .i64 p0), (3, .int .u64 (IntKind.wrap .u64 p0)), (8, .bool (decide (p0 < 0)))] [] (by rfl) ?_ ?_
    · try simp -implicitDefEqProofs -dsimp only [go_sem, ↓reduceIte, Nat.reduceAdd, Nat.reduceMul, Nat.reduceSub, Nat.reduceEqDiff, Nat.reduceLeDiff, Nat.reduceLT, Nat.reduceBEq, Int.reduceEq, reduceCtorEq]
    refine W.cond (decide (p0 < 0)) (by simp only [ev_tmp, get_cons, ↓reduceIte, Nat.reduceEqDiff]) (fun hb27 => ?_) (fun hb27 => ?_)
    · have hm := of_true hb27 hm
      refine W.regL [] [(0, .int .i64 p0), (3, .int .u64 (IntKind.wrap .u64 (0 - (IntKind.wrap .u64 p0))))] [] (by rfl) ?_ ?_
      · try simp -implicitDefEqProofs -dsimp only [go_sem, ↓reduceIte, Nat.reduceAdd, Nat.reduceMul, Nat.reduceSub, Nat.reduceEqDiff, Nat.reduceLeDiff, Nat.reduceLT, Nat.reduceBEq, Int.reduceEq, reduceCtorEq, hb27]
      try simp only [thenQ_normal, thenQ_exit, thenQ_ret, blockQ_normal, blockQ_here, blockQ_ret, blockQ_exit, ↓reduceIte, Nat.reduceEqDiff]
      exact ⟨(IntKind.wrap .u64 (0 - (IntKind.wrap .u64 p0))), (), [], hm, (show AT 0 [] [(0, .int .i64 p0), (3, .int .u64 (IntKind.wrap .u64 (0 - (IntKind.wrap .u64 p0))))] [] _ _ from by simp -implicitDefEqProofs -dsimp only [go_sem, ↓reduceIte, Nat.reduceAdd, Nat.reduceMul, Nat.reduceSub, Nat.reduceEqDiff, Nat.reduceLeDiff, Nat.reduceLT, Nat.reduceBEq, Int.reduceEq, reduceCtorEq, hb27])⟩
    · have hm := of_false hb27 hm
      refine W.skip ?_
      try simp only [thenQ_normal, thenQ_exit, thenQ_ret, blockQ_normal, blockQ_here, blockQ_ret, blockQ_exit, ↓reduceIte, Nat.reduceEqDiff]
      exact ⟨(IntKind.wrap .u64 p0), (), [], hm, (show AT 0 [] [(0, .int .i64 p0), (3, .int .u64 (IntKind.wrap .u64 p0))] [] _ _ from by simp -implicitDefEqProofs -dsimp only [go_sem, ↓reduceIte, Nat.reduceAdd, Nat.reduceMul, Nat.reduceSub, Nat.reduceEqDiff, Nat.reduceLeDiff, Nat.reduceLT, Nat.reduceBEq, Int.reduceEq, reduceCtorEq, hb27])⟩
  · rintro s h ⟨i1, _, F, hm, hat⟩
    refine W.weak F hat ?_
    show WK _ _ _ _ _ [(0, .int .i64 p0), (3, .int .u64 i1)] []
    rw [palingref1_Text_j1] at hm
    refine W.seqR [] [(0, .int .i64 p0), (3, .int .u64 i1), (4, .str (⟨#[]⟩ : ByteArray))] [] (by rfl) ?_ ?_
    · try simp -implicitDefEqProofs -dsimp only [go_sem, ↓reduceIte, Nat.reduceAdd, Nat.reduceMul, Nat.reduceSub, Nat.reduceEqDiff, Nat.reduceLeDiff, Nat.reduceLT, Nat.reduceBEq, Int.reduceEq, reduceCtorEq]
    refine W.seq ?_
    refine W.block ?_
    obtain ⟨r19, hlr19, hm⟩ := of_bind hm
    refine W.mono (Q := fun e0 s0 h0 => e0 = .exit 0 ∧ ∃ w : Unit, s0 = [(0, .int .i64 p0), (4, .str r19)] ∧ h0 = []) (W.loopM (step := palingref1_Text_s1) (a0 := (i1, (⟨#[]⟩ : ByteArray))) (fun (a : Int × ByteArray) (v : Unit) => ([(0, .int .i64 p0), (3, .int .u64 a.1), (4, .str a.2)], [])) () hlr19 [] (show AT 0 [] [(0, .int .i64 p0), (3, .int .u64 i1), (4, .str (⟨#[]⟩ : ByteArray))] [] _ _ from by simp -implicitDefEqProofs -dsimp only [go_sem, ↓reduceIte, Nat.reduceAdd, Nat.reduceMul, Nat.reduceSub, Nat.reduceEqDiff, Nat.reduceLeDiff, Nat.reduceLT, Nat.reduceBEq, Int.reduceEq, reduceCtorEq]) ?_) ?_
    · rintro ⟨i12, s13⟩ _ x hm hx
      rw [palingref1_Text_s1] at hm
      show WK _ _ _ _ _ [(0, .int .i64 p0), (3, .int .u64 i12), (4, .str s13)] []
      refine W.seq ?_
      refine W.seqR [] [(0, .int .i64 p0), (3, .int .u64 i12), (4, .str s13), (16, .bool (decide (i12 > 0) || decide (s13 = (⟨#[]⟩ : ByteArray))))] [] (by rfl) ?_ ?_
      · try simp -implicitDefEqProofs -dsimp only [go_sem, ↓reduceIte, Nat.reduceAdd, Nat.reduceMul, Nat.reduceSub, Nat.reduceEqDiff, Nat.reduceLeDiff, Nat.reduceLT, Nat.reduceBEq, Int.reduceEq, reduceCtorEq]
        refine onG_splitN (fun hg20 => ?_) (fun hg20 => ?_)
        · try simp -implicitDefEqProofs -dsimp only [go_sem, ↓reduceIte, Nat.reduceAdd, Nat.reduceMul, Nat.reduceSub, Nat.reduceEqDiff, Nat.reduceLeDiff, Nat.reduceLT, Nat.reduceBEq, Int.reduceEq, reduceCtorEq, hg20]
        · try simp -implicitDefEqProofs -dsimp only [go_sem, ↓reduceIte, Nat.reduceAdd, Nat.reduceMul, Nat.reduceSub, Nat.reduceEqDiff, Nat.reduceLeDiff, Nat.reduceLT, Nat.reduceBEq, Int.reduceEq, reduceCtorEq, hg20]
      refine W.cond (decide (i12 > 0) || decide (s13 = (⟨#[]⟩ : ByteArray))) (by simp only [ev_tmp, get_cons, ↓reduceIte, Nat.reduceEqDiff]) (fun hb21 => ?_) (fun hb21 => ?_)
      · have hm := of_true hb21 hm
        refine W.skip ?_
        try simp only [thenQ_normal, thenQ_exit, thenQ_ret, blockQ_normal, blockQ_here, blockQ_ret, blockQ_exit, ↓reduceIte, Nat.reduceEqDiff]
        refine W.block ?_
        obtain ⟨h22, hm⟩ := of_ite hm
        obtain ⟨s23, h24, hm⟩ := of_bind hm
        replace h24 := Option.some.inj h24
        refine W.seqR [] [(0, .int .i64 p0), (3, .int .u64 i12), (4, .str s23)] [] (by rfl) ?_ ?_
        · try simp -implicitDefEqProofs -dsimp only [go_sem, ↓reduceIte, Nat.reduceAdd, Nat.reduceMul, Nat.reduceSub, Nat.reduceEqDiff, Nat.reduceLeDiff, Nat.reduceLT, Nat.reduceBEq, Int.reduceEq, reduceCtorEq, hb21, h22, ← h24]
          with_reducible refine exB false ?_
          try simp -implicitDefEqProofs -dsimp only [go_sem, ↓reduceIte, Nat.reduceAdd, Nat.reduceMul, Nat.reduceSub, Nat.reduceEqDiff, Nat.reduceLeDiff, Nat.reduceLT, Nat.reduceBEq, Int.reduceEq, reduceCtorEq, hb21, h22, ← h24]
        refine W.regL [] [(0, .int .i64 p0), (3, .int .u64 (IntKind.wrap .u64 (Int.tdiv i12 10))), (4, .str s23)] [] (by rfl) ?_ ?_
        · try simp -implicitDefEqProofs -dsimp only [go_sem, ↓reduceIte, Nat.reduceAdd, Nat.reduceMul, Nat.reduceSub, Nat.reduceEqDiff, Nat.reduceLeDiff, Nat.reduceLT, Nat.reduceBEq, Int.reduceEq, reduceCtorEq, hb21, h22]
        try simp only [thenQ_normal, thenQ_exit, thenQ_ret, blockQ_normal, blockQ_here, blockQ_ret, blockQ_exit, ↓reduceIte, Nat.reduceEqDiff]
        obtain rfl := Option.some.inj hm
        exact ⟨((IntKind.wrap .u64 (Int.tdiv i12 10)), s23), (), [], rfl, (show AT 0 [] [(0, .int .i64 p0), (3, .int .u64 (IntKind.wrap .u64 (Int.tdiv i12 10))), (4, .str s23)] [] _ _ from by simp -implicitDefEqProofs -dsimp only [go_sem, ↓reduceIte, Nat.reduceAdd, Nat.reduceMul, Nat.reduceSub, Nat.reduceEqDiff, Nat.reduceLeDiff, Nat.reduceLT, Nat.reduceBEq, Int.reduceEq, reduceCtorEq, hb21, h22])⟩
      · have hm := of_false hb21 hm
        obtain rfl := Option.some.inj hm
        obtain rfl := hx _ rfl
        refine W.weak [] (show AT 0 [] [(0, .int .i64 p0), (4, .str s13)] [] _ _ from by simp -implicitDefEqProofs -dsimp only [go_sem, ↓reduceIte, Nat.reduceAdd, Nat.reduceMul, Nat.reduceSub, Nat.reduceEqDiff, Nat.reduceLeDiff, Nat.reduceLT, Nat.reduceBEq, Int.reduceEq, reduceCtorEq, hb21]) (W.exit (show _ ∧ _ from ⟨rfl, (), rfl, rfl⟩))
    · rintro e0 s0 h0 ⟨rfl, _, rfl, rfl⟩
      try simp only [thenQ_normal, thenQ_exit, thenQ_ret, blockQ_normal, blockQ_here, blockQ_ret, blockQ_exit, ↓reduceIte, Nat.reduceEqDiff]
      show WK _ _ _ _ _ [(0, .int .i64 p0), (4, .str r19)] []
      try simp only [thenQ_normal, thenQ_exit, thenQ_ret, blockQ_normal, blockQ_here, blockQ_ret, blockQ_exit, ↓reduceIte, Nat.reduceEqDiff]
      refine W.seq ?_
      refine W.seqR [] [(4, .str r19), (28, .bool (decide (p0 < 0)))] [] (by rfl) ?_ ?_
      · try simp -implicitDefEqProofs -dsimp only [go_sem, ↓reduceIte, Nat.reduceAdd, Nat.reduceMul, Nat.reduceSub, Nat.reduceEqDiff, Nat.reduceLeDiff, Nat.reduceLT, Nat.reduceBEq, Int.reduceEq, reduceCtorEq]
      refine W.cond (decide (p0 < 0)) (by simp only [ev_tmp, get_cons, ↓reduceIte, Nat.reduceEqDiff]) (fun hb25 => ?_) (fun hb25 => ?_)
      · have hm := of_true hb25 hm
        obtain ⟨h26, hm⟩ := of_ite hm
        refine W.seqR [] [(2, .str ((⟨#[45]⟩ : ByteArray) ++ r19))] [] (by rfl) ?_ ?_
        · try simp -implicitDefEqProofs -dsimp only [go_sem, ↓reduceIte, Nat.reduceAdd, Nat.reduceMul, Nat.reduceSub, Nat.reduceEqDiff, Nat.reduceLeDiff, Nat.reduceLT, Nat.reduceBEq, Int.reduceEq, reduceCtorEq, hb25, h26]
        obtain rfl := Option.some.inj hm
        refine W.ret ?_
        try simp only [thenQ_normal, thenQ_exit, thenQ_ret, blockQ_normal, blockQ_here, blockQ_ret, blockQ_exit, ↓reduceIte, Nat.reduceEqDiff]
        refine EndsF.retW [] ?_
        simp -implicitDefEqProofs -dsimp only [go_sem, ↓reduceIte, Nat.reduceAdd, Nat.reduceMul, Nat.reduceSub, Nat.reduceEqDiff, Nat.reduceLeDiff, Nat.reduceLT, Nat.reduceBEq, Int.reduceEq, reduceCtorEq, hb25, h26]
      · have hm := of_false hb25 hm
        refine W.skip ?_
        try simp only [thenQ_normal, thenQ_exit, thenQ_ret, blockQ_normal, blockQ_here, blockQ_ret, blockQ_exit, ↓reduceIte, Nat.reduceEqDiff]
        refine W.seqR [] [(2, .str r19)] [] (by rfl) ?_ ?_
        · try simp -implicitDefEqProofs -dsimp only [go_sem, ↓reduceIte, Nat.reduceAdd, Nat.reduceMul, Nat.reduceSub, Nat.reduceEqDiff, Nat.reduceLeDiff, Nat.reduceLT, Nat.reduceBEq, Int.reduceEq, reduceCtorEq, hb25]
        obtain rfl := Option.some.inj hm
        refine W.ret ?_
        try simp only [thenQ_normal, thenQ_exit, thenQ_ret, blockQ_normal, blockQ_here, blockQ_ret, blockQ_exit, ↓reduceIte, Nat.reduceEqDiff]
        refine EndsF.retW [] ?_
        simp -implicitDefEqProofs -dsimp only [go_sem, ↓reduceIte, Nat.reduceAdd, Nat.reduceMul, Nat.reduceSub, Nat.reduceEqDiff, Nat.reduceLeDiff, Nat.reduceLT, Nat.reduceBEq, Int.reduceEq, reduceCtorEq, hb25]

theorem palingbook_Pick_ok {p0 : Int} {p1 : Int} {r : Int} (hm : palingbook_Pick p0 p1 = some r) : PureF Tryd.prog 29 [.int .i64 p0, .int .i64 p1] (.int .i64 r) := by
  rw [palingbook_Pick] at hm
  refine PureF.of Tryd.func29 rfl Tryd.ntmps29 (Nat.le_of_ble_eq_true rfl) ?_
  have e0 : argS 0 [.int .i64 p0, .int .i64 p1] = [(0, .int .i64 p0), (1, .int .i64 p1)] := rfl
  rw [e0]
  refine W.seqR [] [(0, .int .i64 p0), (1, .int .i64 p1)] [] (by rfl) ?_ ?_
  · try simp -implicitDefEqProofs -dsimp only [go_sem, ↓reduceIte, Nat.reduceAdd, Nat.reduceMul, Nat.reduceSub, Nat.reduceEqDiff, Nat.reduceLeDiff, Nat.reduceLT, Nat.reduceBEq, Int.reduceEq, reduceCtorEq]
  obtain ⟨h1, hm⟩ := of_ite hm
  refine W.seqR [] [(0, .int .i64 (Int.tmod p0 p1)), (1, .int .i64 p1)] [] (by rfl) ?_ ?_
  · try simp -implicitDefEqProofs -dsimp only [go_sem, ↓reduceIte, Nat.reduceAdd, Nat.reduceMul, Nat.reduceSub, Nat.reduceEqDiff, Nat.reduceLeDiff, Nat.reduceLT, Nat.reduceBEq, Int.reduceEq, reduceCtorEq, h1]
  refine W.seq ?_
  refine W.seqR [] [(0, .int .i64 (Int.tmod p0 p1)), (1, .int .i64 p1), (9, .bool (decide ((Int.tmod p0 p1) < 0)))] [] (by rfl) ?_ ?_
  · try simp -implicitDefEqProofs -dsimp only [go_sem, ↓reduceIte, Nat.reduceAdd, Nat.reduceMul, Nat.reduceSub, Nat.reduceEqDiff, Nat.reduceLeDiff, Nat.reduceLT, Nat.reduceBEq, Int.reduceEq, reduceCtorEq, h1]
  refine W.cond (decide ((Int.tmod p0 p1) < 0)) (by simp only [ev_tmp, get_cons, ↓reduceIte, Nat.reduceEqDiff]) (fun hb2 => ?_) (fun hb2 => ?_)
  · have hm := of_true hb2 hm
    refine W.regL [] [(0, .int .i64 (IntKind.wrap .i64 ((Int.tmod p0 p1) + p1)))] [] (by rfl) ?_ ?_
    · try simp -implicitDefEqProofs -dsimp only [go_sem, ↓reduceIte, Nat.reduceAdd, Nat.reduceMul, Nat.reduceSub, Nat.reduceEqDiff, Nat.reduceLeDiff, Nat.reduceLT, Nat.reduceBEq, Int.reduceEq, reduceCtorEq, h1, hb2]
    try simp only [thenQ_normal, thenQ_exit, thenQ_ret, blockQ_normal, blockQ_here, blockQ_ret, blockQ_exit, ↓reduceIte, Nat.reduceEqDiff]
    refine W.seqR [] [(4, .int .i64 (IntKind.wrap .i64 ((Int.tmod p0 p1) + p1)))] [] (by rfl) ?_ ?_
    · try simp -implicitDefEqProofs -dsimp only [go_sem, ↓reduceIte, Nat.reduceAdd, Nat.reduceMul, Nat.reduceSub, Nat.reduceEqDiff, Nat.reduceLeDiff, Nat.reduceLT, Nat.reduceBEq, Int.reduceEq, reduceCtorEq, h1, hb2]
    obtain rfl := Option.some.inj hm
    refine W.ret ?_
    try simp only [thenQ_normal, thenQ_exit, thenQ_ret, blockQ_normal, blockQ_here, blockQ_ret, blockQ_exit, ↓reduceIte, Nat.reduceEqDiff]
    refine EndsF.retW [] ?_
    simp -implicitDefEqProofs -dsimp only [go_sem, ↓reduceIte, Nat.reduceAdd, Nat.reduceMul, Nat.reduceSub, Nat.reduceEqDiff, Nat.reduceLeDiff, Nat.reduceLT, Nat.reduceBEq, Int.reduceEq, reduceCtorEq, h1, hb2]
  · have hm := of_false hb2 hm
    refine W.skip ?_
    try simp only [thenQ_normal, thenQ_exit, thenQ_ret, blockQ_normal, blockQ_here, blockQ_ret, blockQ_exit, ↓reduceIte, Nat.reduceEqDiff]
    refine W.seqR [] [(4, .int .i64 (Int.tmod p0 p1))] [] (by rfl) ?_ ?_
    · try simp -implicitDefEqProofs -dsimp only [go_sem, ↓reduceIte, Nat.reduceAdd, Nat.reduceMul, Nat.reduceSub, Nat.reduceEqDiff, Nat.reduceLeDiff, Nat.reduceLT, Nat.reduceBEq, Int.reduceEq, reduceCtorEq, h1, hb2]
    obtain rfl := Option.some.inj hm
    refine W.ret ?_
    try simp only [thenQ_normal, thenQ_exit, thenQ_ret, blockQ_normal, blockQ_here, blockQ_ret, blockQ_exit, ↓reduceIte, Nat.reduceEqDiff]
    refine EndsF.retW [] ?_
    simp -implicitDefEqProofs -dsimp only [go_sem, ↓reduceIte, Nat.reduceAdd, Nat.reduceMul, Nat.reduceSub, Nat.reduceEqDiff, Nat.reduceLeDiff, Nat.reduceLT, Nat.reduceBEq, Int.reduceEq, reduceCtorEq, h1, hb2]

end Go.Proofs.YtmilckfhlldboaaDoor
