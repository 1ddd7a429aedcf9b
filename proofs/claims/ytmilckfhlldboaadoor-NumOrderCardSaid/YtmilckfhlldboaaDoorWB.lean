import Derived.Test.YtmilckfhlldboaaDoorVFacts
import Derived.Test.YtmilckfhlldboaaDoorPalB
import Derived.Test.YtmilckfhlldboaaDoorWA
set_option maxRecDepth 100000
set_option linter.unusedSimpArgs false
set_option linter.unusedVariables false
set_option linter.unusedSectionVars false
namespace Go.Proofs.YtmilckfhlldboaaDoor
open Go.Vs
variable [Tab]
theorem palingbook_GreatState_ok {p0 : T_api_State} {r : Bool} (hm : palingbook_GreatState p0 = some r) : PureF Tryd.prog 12 [.agg [.sl (p0.Mem.map (eInt .i64)), .sl (p0.Thr.map e_api_Thr), .sl (p0.Bufs.map (eSl e_api_Entry)), .int .i64 p0.Lock]] (.bool r) := by
  rw [palingbook_GreatState] at hm
  refine PureF.of Tryd.func12 rfl Tryd.ntmps12 (Nat.le_of_ble_eq_true rfl) ?_
  have e0 : argS 0 [.agg [.sl (p0.Mem.map (eInt .i64)), .sl (p0.Thr.map e_api_Thr), .sl (p0.Bufs.map (eSl e_api_Entry)), .int .i64 p0.Lock]] = [(0, .agg [.sl (p0.Mem.map (eInt .i64)), .sl (p0.Thr.map e_api_Thr), .sl (p0.Bufs.map (eSl e_api_Entry)), .int .i64 p0.Lock])] := rfl
  rw [e0]
  refine W.seqR [] [(1, .ptr 0 0 0)] [.cells [.sl (p0.Mem.map (eInt .i64)), .sl (p0.Thr.map e_api_Thr), .sl (p0.Bufs.map (eSl e_api_Entry)), .int .i64 p0.Lock] 0 26] (by rfl) ?_ ?_
  · try simp -implicitDefEqProofs -dsimp only [go_sem, ↓reduceIte, Nat.reduceAdd, Nat.reduceMul, Nat.reduceSub, Nat.reduceEqDiff, Nat.reduceLeDiff, Nat.reduceLT, Nat.reduceBEq, Int.reduceEq, reduceCtorEq]
  refine W.seq ?_
  obtain ⟨b1, h2, hm⟩ := of_bind hm
  replace h2 := Option.some.inj h2
  refine W.seqR [] [(1, .ptr 0 0 0), (19, .bool b1)] [.cells [.sl (p0.Mem.map (eInt .i64)), .sl (p0.Thr.map e_api_Thr), .sl (p0.Bufs.map (eSl e_api_Entry)), .int .i64 p0.Lock] 0 26] (by rfl) ?_ ?_
  · try simp -implicitDefEqProofs -dsimp only [go_sem, ↓reduceIte, Nat.reduceAdd, Nat.reduceMul, Nat.reduceSub, Nat.reduceEqDiff, Nat.reduceLeDiff, Nat.reduceLT, Nat.reduceBEq, Int.reduceEq, reduceCtorEq, ← h2]
    refine onG_splitN (fun hg3 => ?_) (fun hg3 => ?_)
    · try simp -implicitDefEqProofs -dsimp only [go_sem, ↓reduceIte, Nat.reduceAdd, Nat.reduceMul, Nat.reduceSub, Nat.reduceEqDiff, Nat.reduceLeDiff, Nat.reduceLT, Nat.reduceBEq, Int.reduceEq, reduceCtorEq, hg3, ← h2]
      refine onG_splitN (fun hg4 => ?_) (fun hg4 => ?_)
      · try simp -implicitDefEqProofs -dsimp only [go_sem, ↓reduceIte, Nat.reduceAdd, Nat.reduceMul, Nat.reduceSub, Nat.reduceEqDiff, Nat.reduceLeDiff, Nat.reduceLT, Nat.reduceBEq, Int.reduceEq, reduceCtorEq, hg3, hg4, ← h2]
      · try simp -implicitDefEqProofs -dsimp only [go_sem, ↓reduceIte, Nat.reduceAdd, Nat.reduceMul, Nat.reduceSub, Nat.reduceEqDiff, Nat.reduceLeDiff, Nat.reduceLT, Nat.reduceBEq, Int.reduceEq, reduceCtorEq, hg3, hg4, ← h2]
    · try simp -implicitDefEqProofs -dsimp only [go_sem, ↓reduceIte, Nat.reduceAdd, Nat.reduceMul, Nat.reduceSub, Nat.reduceEqDiff, Nat.reduceLeDiff, Nat.reduceLT, Nat.reduceBEq, Int.reduceEq, reduceCtorEq, hg3, ← h2]
  refine W.cond b1 (by simp only [ev_tmp, get_cons, ↓reduceIte, Nat.reduceEqDiff]) (fun hb5 => ?_) (fun hb5 => ?_)
  · have hm := of_true hb5 hm
    refine W.seqR [] [(2, .bool true)] [] (by rfl) ?_ ?_
    · try simp -implicitDefEqProofs -dsimp only [go_sem, ↓reduceIte, Nat.reduceAdd, Nat.reduceMul, Nat.reduceSub, Nat.reduceEqDiff, Nat.reduceLeDiff, Nat.reduceLT, Nat.reduceBEq, Int.reduceEq, reduceCtorEq, hb5]
    obtain rfl := Option.some.inj hm
    refine W.ret ?_
    try simp only [thenQ_normal, thenQ_exit, thenQ_ret, blockQ_normal, blockQ_here, blockQ_ret, blockQ_exit, ↓reduceIte, Nat.reduceEqDiff]
    refine EndsF.retW [] ?_
    simp -implicitDefEqProofs -dsimp only [go_sem, ↓reduceIte, Nat.reduceAdd, Nat.reduceMul, Nat.reduceSub, Nat.reduceEqDiff, Nat.reduceLeDiff, Nat.reduceLT, Nat.reduceBEq, Int.reduceEq, reduceCtorEq, hb5]
  · have hm := of_false hb5 hm
    refine W.skip ?_
    try simp only [thenQ_normal, thenQ_exit, thenQ_ret, blockQ_normal, blockQ_here, blockQ_ret, blockQ_exit, ↓reduceIte, Nat.reduceEqDiff]
    refine W.seq ?_
    refine W.seqR [] [(1, .ptr 0 0 0), (3, .int .i64 0)] [.cells [.sl (p0.Mem.map (eInt .i64)), .sl (p0.Thr.map e_api_Thr), .sl (p0.Bufs.map (eSl e_api_Entry)), .int .i64 p0.Lock] 0 26] (by rfl) ?_ ?_
    · try simp -implicitDefEqProofs -dsimp only [go_sem, ↓reduceIte, Nat.reduceAdd, Nat.reduceMul, Nat.reduceSub, Nat.reduceEqDiff, Nat.reduceLeDiff, Nat.reduceLT, Nat.reduceBEq, Int.reduceEq, reduceCtorEq, hb5]
    refine W.block ?_
    obtain ⟨r17, hlr17, hm⟩ := of_bind hm
    refine W.mono (Q := fun e0 s0 h0 => match r17 with | .inl e => e0 = .exit 0 ∧ ∃ w : Unit, s0 = [] ∧ h0 = [] | .inr q => e0 = .ret ∧ s0 = [(2, .bool q)] ∧ h0 = []) (W.loopM (step := palingbook_GreatState_s1 p0) (a0 := 0) (fun (a : Int) (v : Unit) => ([(1, .ptr 0 0 0), (3, .int .i64 a)], [.cells [.sl (p0.Mem.map (eInt .i64)), .sl (p0.Thr.map e_api_Thr), .sl (p0.Bufs.map (eSl e_api_Entry)), .int .i64 p0.Lock] 0 26])) () hlr17 [] (show AT 0 [] [(1, .ptr 0 0 0), (3, .int .i64 0)] [.cells [.sl (p0.Mem.map (eInt .i64)), .sl (p0.Thr.map e_api_Thr), .sl (p0.Bufs.map (eSl e_api_Entry)), .int .i64 p0.Lock] 0 26] _ _ from by simp -implicitDefEqProofs -dsimp only [go_sem, ↓reduceIte, Nat.reduceAdd, Nat.reduceMul, Nat.reduceSub, Nat.reduceEqDiff, Nat.reduceLeDiff, Nat.reduceLT, Nat.reduceBEq, Int.reduceEq, reduceCtorEq, hb5]) ?_) ?_
    · rintro i13 _ x hm hx
      rw [palingbook_GreatState_s1] at hm
      show WK _ _ _ _ _ [(1, .ptr 0 0 0), (3, .int .i64 i13)] [.cells [.sl (p0.Mem.map (eInt .i64)), .sl (p0.Thr.map e_api_Thr), .sl (p0.Bufs.map (eSl e_api_Entry)), .int .i64 p0.Lock] 0 26]
      refine W.seq ?_
      refine W.seqR [] [(1, .ptr 0 0 0), (3, .int .i64 i13), (24, .bool (decide (i13 < (p0.Bufs.length : Int))))] [.cells [.sl (p0.Mem.map (eInt .i64)), .sl (p0.Thr.map e_api_Thr), .sl (p0.Bufs.map (eSl e_api_Entry)), .int .i64 p0.Lock] 0 26] (by rfl) ?_ ?_
      · try simp -implicitDefEqProofs -dsimp only [go_sem, ↓reduceIte, Nat.reduceAdd, Nat.reduceMul, Nat.reduceSub, Nat.reduceEqDiff, Nat.reduceLeDiff, Nat.reduceLT, Nat.reduceBEq, Int.reduceEq, reduceCtorEq, hb5]
      refine W.cond (decide (i13 < (p0.Bufs.length : Int))) (by simp only [ev_tmp, get_cons, ↓reduceIte, Nat.reduceEqDiff]) (fun hb18 => ?_) (fun hb18 => ?_)
      · have hm := of_true hb18 hm
        refine W.skip ?_
        try simp only [thenQ_normal, thenQ_exit, thenQ_ret, blockQ_normal, blockQ_here, blockQ_ret, blockQ_exit, ↓reduceIte, Nat.reduceEqDiff]
        refine W.seq ?_
        refine W.block ?_
        obtain ⟨h19, hm⟩ := of_ite hm
        refine W.seqR [] [(1, .ptr 0 0 0), (3, .int .i64 i13), (33, .bool (decide (((rd p0.Bufs i13).length : Int) > 12)))] [.cells [.sl (p0.Mem.map (eInt .i64)), .sl (p0.Thr.map e_api_Thr), .sl (p0.Bufs.map (eSl e_api_Entry)), .int .i64 p0.Lock] 0 26] (by rfl) ?_ ?_
        · try simp -implicitDefEqProofs -dsimp only [go_sem, ↓reduceIte, Nat.reduceAdd, Nat.reduceMul, Nat.reduceSub, Nat.reduceEqDiff, Nat.reduceLeDiff, Nat.reduceLT, Nat.reduceBEq, Int.reduceEq, reduceCtorEq, hb5, hb18, h19]
        refine W.cond (decide (((rd p0.Bufs i13).length : Int) > 12)) (by simp only [ev_tmp, get_cons, ↓reduceIte, Nat.reduceEqDiff]) (fun hb20 => ?_) (fun hb20 => ?_)
        · have hm := of_true hb20 hm
          refine W.seqR [] [(2, .bool true)] [] (by rfl) ?_ ?_
          · try simp -implicitDefEqProofs -dsimp only [go_sem, ↓reduceIte, Nat.reduceAdd, Nat.reduceMul, Nat.reduceSub, Nat.reduceEqDiff, Nat.reduceLeDiff, Nat.reduceLT, Nat.reduceBEq, Int.reduceEq, reduceCtorEq, hb5, hb18, h19, hb20]
          obtain rfl := Option.some.inj hm
          obtain rfl := hx _ rfl
          refine W.weak [] (show AT 0 [] [(2, .bool true)] [] _ _ from by simp -implicitDefEqProofs -dsimp only [go_sem, ↓reduceIte, Nat.reduceAdd, Nat.reduceMul, Nat.reduceSub, Nat.reduceEqDiff, Nat.reduceLeDiff, Nat.reduceLT, Nat.reduceBEq, Int.reduceEq, reduceCtorEq, hb5, hb18, h19, hb20]) (W.ret (show _ ∧ _ from ⟨rfl, rfl, rfl⟩))
        · have hm := of_false hb20 hm
          refine W.skip ?_
          try simp only [thenQ_normal, thenQ_exit, thenQ_ret, blockQ_normal, blockQ_here, blockQ_ret, blockQ_exit, ↓reduceIte, Nat.reduceEqDiff]
          refine W.regL [] [(1, .ptr 0 0 0), (3, .int .i64 (IntKind.wrap .i64 (i13 + 1)))] [.cells [.sl (p0.Mem.map (eInt .i64)), .sl (p0.Thr.map e_api_Thr), .sl (p0.Bufs.map (eSl e_api_Entry)), .int .i64 p0.Lock] 0 26] (by rfl) ?_ ?_
          · try simp -implicitDefEqProofs -dsimp only [go_sem, ↓reduceIte, Nat.reduceAdd, Nat.reduceMul, Nat.reduceSub, Nat.reduceEqDiff, Nat.reduceLeDiff, Nat.reduceLT, Nat.reduceBEq, Int.reduceEq, reduceCtorEq, hb5, hb18, h19, hb20]
          try simp only [thenQ_normal, thenQ_exit, thenQ_ret, blockQ_normal, blockQ_here, blockQ_ret, blockQ_exit, ↓reduceIte, Nat.reduceEqDiff]
          obtain rfl := Option.some.inj hm
          exact ⟨(IntKind.wrap .i64 (i13 + 1)), (), [], rfl, (show AT 0 [] [(1, .ptr 0 0 0), (3, .int .i64 (IntKind.wrap .i64 (i13 + 1)))] [.cells [.sl (p0.Mem.map (eInt .i64)), .sl (p0.Thr.map e_api_Thr), .sl (p0.Bufs.map (eSl e_api_Entry)), .int .i64 p0.Lock] 0 26] _ _ from by simp -implicitDefEqProofs -dsimp only [go_sem, ↓reduceIte, Nat.reduceAdd, Nat.reduceMul, Nat.reduceSub, Nat.reduceEqDiff, Nat.reduceLeDiff, Nat.reduceLT, Nat.reduceBEq, Int.reduceEq, reduceCtorEq, hb5, hb18, h19, hb20])⟩
      · have hm := of_false hb18 hm
        obtain rfl := Option.some.inj hm
        obtain rfl := hx _ rfl
        refine W.weak [] (show AT 0 [] [] [] _ _ from by simp -implicitDefEqProofs -dsimp only [go_sem, ↓reduceIte, Nat.reduceAdd, Nat.reduceMul, Nat.reduceSub, Nat.reduceEqDiff, Nat.reduceLeDiff, Nat.reduceLT, Nat.reduceBEq, Int.reduceEq, reduceCtorEq, hb5, hb18]) (W.exit (show _ ∧ _ from ⟨rfl, (), rfl, rfl⟩))
    · intro e0 s0 h0 hq
      rcases r17 with er17 | qr17
      · obtain ⟨rfl, _, rfl, rfl⟩ := hq
        have hm := of_inl hm
        try simp only [thenQ_normal, thenQ_exit, thenQ_ret, blockQ_normal, blockQ_here, blockQ_ret, blockQ_exit, ↓reduceIte, Nat.reduceEqDiff]
        show WK _ _ _ _ _ [] []
        try simp only [thenQ_normal, thenQ_exit, thenQ_ret, blockQ_normal, blockQ_here, blockQ_ret, blockQ_exit, ↓reduceIte, Nat.reduceEqDiff]
        refine W.seqR [] [(2, .bool false)] [] (by rfl) ?_ ?_
        · try simp -implicitDefEqProofs -dsimp only [go_sem, ↓reduceIte, Nat.reduceAdd, Nat.reduceMul, Nat.reduceSub, Nat.reduceEqDiff, Nat.reduceLeDiff, Nat.reduceLT, Nat.reduceBEq, Int.reduceEq, reduceCtorEq, hb5]
        obtain rfl := Option.some.inj hm
        refine W.ret ?_
        try simp only [thenQ_normal, thenQ_exit, thenQ_ret, blockQ_normal, blockQ_here, blockQ_ret, blockQ_exit, ↓reduceIte, Nat.reduceEqDiff]
        refine EndsF.retW [] ?_
        simp -implicitDefEqProofs -dsimp only [go_sem, ↓reduceIte, Nat.reduceAdd, Nat.reduceMul, Nat.reduceSub, Nat.reduceEqDiff, Nat.reduceLeDiff, Nat.reduceLT, Nat.reduceBEq, Int.reduceEq, reduceCtorEq, hb5]
      · obtain ⟨rfl, rfl, rfl⟩ := hq
        have hm := of_inr hm
        obtain rfl := Option.some.inj hm
        try simp only [thenQ_normal, thenQ_exit, thenQ_ret, blockQ_normal, blockQ_here, blockQ_ret, blockQ_exit, ↓reduceIte, Nat.reduceEqDiff]
        refine EndsF.retW [] ?_
        simp -implicitDefEqProofs -dsimp only [go_sem, ↓reduceIte, Nat.reduceAdd, Nat.reduceMul, Nat.reduceSub, Nat.reduceEqDiff, Nat.reduceLeDiff, Nat.reduceLT, Nat.reduceBEq, Int.reduceEq, reduceCtorEq, hb5]

theorem state_row_api_Entry_ok {p0 : (List T_api_Entry)} {p1 : (List T_api_Entry)} {r : Bool} (hm : state_row_api_Entry p0 p1 = some r) : PureF Tryd.prog 32 [.sl (p0.map e_api_Entry), .sl (p1.map e_api_Entry)] (.bool r) := by
  rw [state_row_api_Entry] at hm
  refine PureF.of Tryd.func32 rfl Tryd.ntmps32 (Nat.le_of_ble_eq_true rfl) ?_
  have e0 : argS 0 [.sl (p0.map e_api_Entry), .sl (p1.map e_api_Entry)] = [(0, .sl (p0.map e_api_Entry)), (1, .sl (p1.map e_api_Entry))] := rfl
  rw [e0]
  refine W.seqR [] [(0, .sl (p0.map e_api_Entry)), (1, .sl (p1.map e_api_Entry))] [] (by rfl) ?_ ?_
  · try simp -implicitDefEqProofs -dsimp only [go_sem, ↓reduceIte, Nat.reduceAdd, Nat.reduceMul, Nat.reduceSub, Nat.reduceEqDiff, Nat.reduceLeDiff, Nat.reduceLT, Nat.reduceBEq, Int.reduceEq, reduceCtorEq]
  refine W.seq ?_
  refine W.seqR [] [(0, .sl (p0.map e_api_Entry)), (1, .sl (p1.map e_api_Entry)), (11, .bool ((p0.length : Int) != (p1.length : Int)))] [] (by rfl) ?_ ?_
  · try simp -implicitDefEqProofs -dsimp only [go_sem, ↓reduceIte, Nat.reduceAdd, Nat.reduceMul, Nat.reduceSub, Nat.reduceEqDiff, Nat.reduceLeDiff, Nat.reduceLT, Nat.reduceBEq, Int.reduceEq, reduceCtorEq]
  refine W.cond ((p0.length : Int) != (p1.length : Int)) (by simp only [ev_tmp, get_cons, ↓reduceIte, Nat.reduceEqDiff]) (fun hb1 => ?_) (fun hb1 => ?_)
  · have hm := of_true hb1 hm
    refine W.seqR [] [(4, .bool false)] [] (by rfl) ?_ ?_
    · try simp -implicitDefEqProofs -dsimp only [go_sem, ↓reduceIte, Nat.reduceAdd, Nat.reduceMul, Nat.reduceSub, Nat.reduceEqDiff, Nat.reduceLeDiff, Nat.reduceLT, Nat.reduceBEq, Int.reduceEq, reduceCtorEq, hb1]
    obtain rfl := Option.some.inj hm
    refine W.ret ?_
    try simp only [thenQ_normal, thenQ_exit, thenQ_ret, blockQ_normal, blockQ_here, blockQ_ret, blockQ_exit, ↓reduceIte, Nat.reduceEqDiff]
    refine EndsF.retW [] ?_
    simp -implicitDefEqProofs -dsimp only [go_sem, ↓reduceIte, Nat.reduceAdd, Nat.reduceMul, Nat.reduceSub, Nat.reduceEqDiff, Nat.reduceLeDiff, Nat.reduceLT, Nat.reduceBEq, Int.reduceEq, reduceCtorEq, hb1]
  · have hm := of_false hb1 hm
    refine W.skip ?_
    try simp only [thenQ_normal, thenQ_exit, thenQ_ret, blockQ_normal, blockQ_here, blockQ_ret, blockQ_exit, ↓reduceIte, Nat.reduceEqDiff]
    refine W.seq ?_
    refine W.seqR [] [(1, .sl (p1.map e_api_Entry)), (12, .sl (p0.map e_api_Entry)), (13, .int .i64 (p0.length : Int)), (14, .int .i64 0)] [] (by rfl) ?_ ?_
    · try simp -implicitDefEqProofs -dsimp only [go_sem, ↓reduceIte, Nat.reduceAdd, Nat.reduceMul, Nat.reduceSub, Nat.reduceEqDiff, Nat.reduceLeDiff, Nat.reduceLT, Nat.reduceBEq, Int.reduceEq, reduceCtorEq, hb1]
    refine W.block ?_
    obtain ⟨r16, hlr16, hm⟩ := of_bind hm
    refine W.mono (Q := fun e0 s0 h0 => match r16 with | .inl e => e0 = .exit 0 ∧ ∃ w : Unit, s0 = [] ∧ h0 = [] | .inr q => e0 = .ret ∧ s0 = [(4, .bool q)] ∧ h0 = []) (W.loopM (step := state_row_api_Entry_s1 p0 p1) (a0 := 0) (fun (a : Int) (v : Unit) => ([(1, .sl (p1.map e_api_Entry)), (12, .sl (p0.map e_api_Entry)), (13, .int .i64 (p0.length : Int)), (14, .int .i64 a)], [])) () hlr16 [] (show AT 0 [] [(1, .sl (p1.map e_api_Entry)), (12, .sl (p0.map e_api_Entry)), (13, .int .i64 (p0.length : Int)), (14, .int .i64 0)] [] _ _ from by simp -implicitDefEqProofs -dsimp only [go_sem, ↓reduceIte, Nat.reduceAdd, Nat.reduceMul, Nat.reduceSub, Nat.reduceEqDiff, Nat.reduceLeDiff, Nat.reduceLT, Nat.reduceBEq, Int.reduceEq, reduceCtorEq, hb1]) ?_) ?_
    · rintro i11 _ x hm hx
      rw [state_row_api_Entry_s1] at hm
      show WK _ _ _ _ _ [(1, .sl (p1.map e_api_Entry)), (12, .sl (p0.map e_api_Entry)), (13, .int .i64 (p0.length : Int)), (14, .int .i64 i11)] []
      refine W.seqR [] [(1, .sl (p1.map e_api_Entry)), (12, .sl (p0.map e_api_Entry)), (13, .int .i64 (p0.length : Int)), (14, .int .i64 i11), (15, .bool (decide (i11 < (p0.length : Int))))] [] (by rfl) ?_ ?_
      · try simp -implicitDefEqProofs -dsimp only [go_sem, ↓reduceIte, Nat.reduceAdd, Nat.reduceMul, Nat.reduceSub, Nat.reduceEqDiff, Nat.reduceLeDiff, Nat.reduceLT, Nat.reduceBEq, Int.reduceEq, reduceCtorEq, hb1]
      refine W.seq ?_
      refine W.cond (decide (i11 < (p0.length : Int))) (by simp only [ev_tmp, get_cons, ↓reduceIte, Nat.reduceEqDiff]) (fun hb17 => ?_) (fun hb17 => ?_)
      · have hm := of_true hb17 hm
        refine W.skip ?_
        try simp only [thenQ_normal, thenQ_exit, thenQ_ret, blockQ_normal, blockQ_here, blockQ_ret, blockQ_exit, ↓reduceIte, Nat.reduceEqDiff]
        refine W.seq ?_
        refine W.block ?_
        obtain ⟨h18, hm⟩ := of_ite hm
        refine W.seqR [] [(1, .sl (p1.map e_api_Entry)), (5, .int .i64 i11), (6, .ptr 0 0 0), (12, .sl (p0.map e_api_Entry)), (13, .int .i64 (p0.length : Int)), (14, .int .i64 i11)] [.cells [.int .i64 ((rd p0 i11).Addr), .int .i64 ((rd p0 i11).Val)] 0 42] (by rfl) ?_ ?_
        · try simp -implicitDefEqProofs -dsimp only [go_sem, ↓reduceIte, Nat.reduceAdd, Nat.reduceMul, Nat.reduceSub, Nat.reduceEqDiff, Nat.reduceLeDiff, Nat.reduceLT, Nat.reduceBEq, Int.reduceEq, reduceCtorEq, hb1, hb17, h18]
        obtain ⟨h19, hm⟩ := of_ite hm
        refine W.seqD [] [] [(1, .sl (p1.map e_api_Entry)), (12, .sl (p0.map e_api_Entry)), (13, .int .i64 (p0.length : Int)), (14, .int .i64 i11), (24, .bool (!(((rd p0 i11).Addr == (rd p1 i11).Addr) && ((rd p0 i11).Val == (rd p1 i11).Val))))] [] v_mixed (by rfl) (by kernel_rfl) (by kernel_rfl) ?_ ?_
        · try simp -implicitDefEqProofs -dsimp only [go_sem, ↓reduceIte, Nat.reduceAdd, Nat.reduceMul, Nat.reduceSub, Nat.reduceEqDiff, Nat.reduceLeDiff, Nat.reduceLT, Nat.reduceBEq, Int.reduceEq, reduceCtorEq, hb1, hb17, h18, h19]
        refine W.cond (!(((rd p0 i11).Addr == (rd p1 i11).Addr) && ((rd p0 i11).Val == (rd p1 i11).Val))) (by simp only [ev_tmp, get_cons, ↓reduceIte, Nat.reduceEqDiff]) (fun hb20 => ?_) (fun hb20 => ?_)
        · have hm := of_true hb20 hm
          refine W.seqR [] [(4, .bool false)] [] (by rfl) ?_ ?_
          · try simp -implicitDefEqProofs -dsimp only [go_sem, ↓reduceIte, Nat.reduceAdd, Nat.reduceMul, Nat.reduceSub, Nat.reduceEqDiff, Nat.reduceLeDiff, Nat.reduceLT, Nat.reduceBEq, Int.reduceEq, reduceCtorEq, hb1, hb17, h18, h19, hb20]
          obtain rfl := Option.some.inj hm
          obtain rfl := hx _ rfl
          refine W.weak [] (show AT 0 [] [(4, .bool false)] [] _ _ from by simp -implicitDefEqProofs -dsimp only [go_sem, ↓reduceIte, Nat.reduceAdd, Nat.reduceMul, Nat.reduceSub, Nat.reduceEqDiff, Nat.reduceLeDiff, Nat.reduceLT, Nat.reduceBEq, Int.reduceEq, reduceCtorEq, hb1, hb17, h18, h19, hb20]) (W.ret (show _ ∧ _ from ⟨rfl, rfl, rfl⟩))
        · have hm := of_false hb20 hm
          refine W.skip ?_
          try simp only [thenQ_normal, thenQ_exit, thenQ_ret, blockQ_normal, blockQ_here, blockQ_ret, blockQ_exit, ↓reduceIte, Nat.reduceEqDiff]
          refine W.regL [] [(1, .sl (p1.map e_api_Entry)), (12, .sl (p0.map e_api_Entry)), (13, .int .i64 (p0.length : Int)), (14, .int .i64 (IntKind.wrap .i64 (i11 + 1)))] [] (by rfl) ?_ ?_
          · try simp -implicitDefEqProofs -dsimp only [go_sem, ↓reduceIte, Nat.reduceAdd, Nat.reduceMul, Nat.reduceSub, Nat.reduceEqDiff, Nat.reduceLeDiff, Nat.reduceLT, Nat.reduceBEq, Int.reduceEq, reduceCtorEq, hb1, hb17, h18, h19, hb20]
          try simp only [thenQ_normal, thenQ_exit, thenQ_ret, blockQ_normal, blockQ_here, blockQ_ret, blockQ_exit, ↓reduceIte, Nat.reduceEqDiff]
          obtain rfl := Option.some.inj hm
          exact ⟨(IntKind.wrap .i64 (i11 + 1)), (), [], rfl, (show AT 0 [] [(1, .sl (p1.map e_api_Entry)), (12, .sl (p0.map e_api_Entry)), (13, .int .i64 (p0.length : Int)), (14, .int .i64 (IntKind.wrap .i64 (i11 + 1)))] [] _ _ from by simp -implicitDefEqProofs -dsimp only [go_sem, ↓reduceIte, Nat.reduceAdd, Nat.reduceMul, Nat.reduceSub, Nat.reduceEqDiff, Nat.reduceLeDiff, Nat.reduceLT, Nat.reduceBEq, Int.reduceEq, reduceCtorEq, hb1, hb17, h18, h19, hb20])⟩
      · have hm := of_false hb17 hm
        obtain rfl := Option.some.inj hm
        obtain rfl := hx _ rfl
        refine W.weak [] (show AT 0 [] [] [] _ _ from by simp -implicitDefEqProofs -dsimp only [go_sem, ↓reduceIte, Nat.reduceAdd, Nat.reduceMul, Nat.reduceSub, Nat.reduceEqDiff, Nat.reduceLeDiff, Nat.reduceLT, Nat.reduceBEq, Int.reduceEq, reduceCtorEq, hb1, hb17]) (W.exit (show _ ∧ _ from ⟨rfl, (), rfl, rfl⟩))
    · intro e0 s0 h0 hq
      rcases r16 with er16 | qr16
      · obtain ⟨rfl, _, rfl, rfl⟩ := hq
        have hm := of_inl hm
        try simp only [thenQ_normal, thenQ_exit, thenQ_ret, blockQ_normal, blockQ_here, blockQ_ret, blockQ_exit, ↓reduceIte, Nat.reduceEqDiff]
        show WK _ _ _ _ _ [] []
        try simp only [thenQ_normal, thenQ_exit, thenQ_ret, blockQ_normal, blockQ_here, blockQ_ret, blockQ_exit, ↓reduceIte, Nat.reduceEqDiff]
        refine W.seqR [] [(4, .bool true)] [] (by rfl) ?_ ?_
        · try simp -implicitDefEqProofs -dsimp only [go_sem, ↓reduceIte, Nat.reduceAdd, Nat.reduceMul, Nat.reduceSub, Nat.reduceEqDiff, Nat.reduceLeDiff, Nat.reduceLT, Nat.reduceBEq, Int.reduceEq, reduceCtorEq, hb1]
        obtain rfl := Option.some.inj hm
        refine W.ret ?_
        try simp only [thenQ_normal, thenQ_exit, thenQ_ret, blockQ_normal, blockQ_here, blockQ_ret, blockQ_exit, ↓reduceIte, Nat.reduceEqDiff]
        refine EndsF.retW [] ?_
        simp -implicitDefEqProofs -dsimp only [go_sem, ↓reduceIte, Nat.reduceAdd, Nat.reduceMul, Nat.reduceSub, Nat.reduceEqDiff, Nat.reduceLeDiff, Nat.reduceLT, Nat.reduceBEq, Int.reduceEq, reduceCtorEq, hb1]
      · obtain ⟨rfl, rfl, rfl⟩ := hq
        have hm := of_inr hm
        obtain rfl := Option.some.inj hm
        try simp only [thenQ_normal, thenQ_exit, thenQ_ret, blockQ_normal, blockQ_here, blockQ_ret, blockQ_exit, ↓reduceIte, Nat.reduceEqDiff]
        refine EndsF.retW [] ?_
        simp -implicitDefEqProofs -dsimp only [go_sem, ↓reduceIte, Nat.reduceAdd, Nat.reduceMul, Nat.reduceSub, Nat.reduceEqDiff, Nat.reduceLeDiff, Nat.reduceLT, Nat.reduceBEq, Int.reduceEq, reduceCtorEq, hb1]

theorem palingref2_sameInts_ok {p0 : (List Int)} {p1 : (List Int)} {r : Bool} (hm : palingref2_sameInts p0 p1 = some r) : PureF Tryd.prog 33 [.sl (p0.map (eInt .i64)), .sl (p1.map (eInt .i64))] (.bool r) := by
  rw [palingref2_sameInts] at hm
  refine PureF.of Tryd.func33 rfl Tryd.ntmps33 (Nat.le_of_ble_eq_true rfl) ?_
  have e0 : argS 0 [.sl (p0.map (eInt .i64)), .sl (p1.map (eInt .i64))] = [(0, .sl (p0.map (eInt .i64))), (1, .sl (p1.map (eInt .i64)))] := rfl
  rw [e0]
  refine W.seqR [] [(0, .sl (p0.map (eInt .i64))), (1, .sl (p1.map (eInt .i64)))] [] (by rfl) ?_ ?_
  · try simp -implicitDefEqProofs -dsimp only [go_sem, ↓reduceIte, Nat.reduceAdd, Nat.reduceMul, Nat.reduceSub, Nat.reduceEqDiff, Nat.reduceLeDiff, Nat.reduceLT, Nat.reduceBEq, Int.reduceEq, reduceCtorEq]
  refine W.seq ?_
  refine W.seqR [] [(0, .sl (p0.map (eInt .i64))), (1, .sl (p1.map (eInt .i64))), (10, .bool ((p0.length : Int) != (p1.length : Int)))] [] (by rfl) ?_ ?_
  · try simp -implicitDefEqProofs -dsimp only [go_sem, ↓reduceIte, Nat.reduceAdd, Nat.reduceMul, Nat.reduceSub, Nat.reduceEqDiff, Nat.reduceLeDiff, Nat.reduceLT, Nat.reduceBEq, Int.reduceEq, reduceCtorEq]
  refine W.cond ((p0.length : Int) != (p1.length : Int)) (by simp only [ev_tmp, get_cons, ↓reduceIte, Nat.reduceEqDiff]) (fun hb1 => ?_) (fun hb1 => ?_)
  · have hm := of_true hb1 hm
    refine W.seqR [] [(4, .bool false)] [] (by rfl) ?_ ?_
    · try simp -implicitDefEqProofs -dsimp only [go_sem, ↓reduceIte, Nat.reduceAdd, Nat.reduceMul, Nat.reduceSub, Nat.reduceEqDiff, Nat.reduceLeDiff, Nat.reduceLT, Nat.reduceBEq, Int.reduceEq, reduceCtorEq, hb1]
    obtain rfl := Option.some.inj hm
    refine W.ret ?_
    try simp only [thenQ_normal, thenQ_exit, thenQ_ret, blockQ_normal, blockQ_here, blockQ_ret, blockQ_exit, ↓reduceIte, Nat.reduceEqDiff]
    refine EndsF.retW [] ?_
    simp -implicitDefEqProofs -dsimp only [go_sem, ↓reduceIte, Nat.reduceAdd, Nat.reduceMul, Nat.reduceSub, Nat.reduceEqDiff, Nat.reduceLeDiff, Nat.reduceLT, Nat.reduceBEq, Int.reduceEq, reduceCtorEq, hb1]
  · have hm := of_false hb1 hm
    refine W.skip ?_
    try simp only [thenQ_normal, thenQ_exit, thenQ_ret, blockQ_normal, blockQ_here, blockQ_ret, blockQ_exit, ↓reduceIte, Nat.reduceEqDiff]
    refine W.seq ?_
    refine W.seqR [] [(0, .sl (p0.map (eInt .i64))), (1, .sl (p1.map (eInt .i64))), (5, .int .i64 0)] [] (by rfl) ?_ ?_
    · try simp -implicitDefEqProofs -dsimp only [go_sem, ↓reduceIte, Nat.reduceAdd, Nat.reduceMul, Nat.reduceSub, Nat.reduceEqDiff, Nat.reduceLeDiff, Nat.reduceLT, Nat.reduceBEq, Int.reduceEq, reduceCtorEq, hb1]
    refine W.block ?_
    obtain ⟨r16, hlr16, hm⟩ := of_bind hm
    refine W.mono (Q := fun e0 s0 h0 => match r16 with | .inl e => e0 = .exit 0 ∧ ∃ w : Unit, s0 = [] ∧ h0 = [] | .inr q => e0 = .ret ∧ s0 = [(4, .bool q)] ∧ h0 = []) (W.loopM (step := palingref2_sameInts_s1 p0 p1) (a0 := 0) (fun (a : Int) (v : Unit) => ([(0, .sl (p0.map (eInt .i64))), (1, .sl (p1.map (eInt .i64))), (5, .int .i64 a)], [])) () hlr16 [] (show AT 0 [] [(0, .sl (p0.map (eInt .i64))), (1, .sl (p1.map (eInt .i64))), (5, .int .i64 0)] [] _ _ from by simp -implicitDefEqProofs -dsimp only [go_sem, ↓reduceIte, Nat.reduceAdd, Nat.reduceMul, Nat.reduceSub, Nat.reduceEqDiff, Nat.reduceLeDiff, Nat.reduceLT, Nat.reduceBEq, Int.reduceEq, reduceCtorEq, hb1]) ?_) ?_
    · rintro i11 _ x hm hx
      rw [palingref2_sameInts_s1] at hm
      show WK _ _ _ _ _ [(0, .sl (p0.map (eInt .i64))), (1, .sl (p1.map (eInt .i64))), (5, .int .i64 i11)] []
      refine W.seq ?_
      refine W.seqR [] [(0, .sl (p0.map (eInt .i64))), (1, .sl (p1.map (eInt .i64))), (5, .int .i64 i11), (14, .bool (decide (i11 < (p0.length : Int))))] [] (by rfl) ?_ ?_
      · try simp -implicitDefEqProofs -dsimp only [go_sem, ↓reduceIte, Nat.reduceAdd, Nat.reduceMul, Nat.reduceSub, Nat.reduceEqDiff, Nat.reduceLeDiff, Nat.reduceLT, Nat.reduceBEq, Int.reduceEq, reduceCtorEq, hb1]
      refine W.cond (decide (i11 < (p0.length : Int))) (by simp only [ev_tmp, get_cons, ↓reduceIte, Nat.reduceEqDiff]) (fun hb17 => ?_) (fun hb17 => ?_)
      · have hm := of_true hb17 hm
        refine W.skip ?_
        try simp only [thenQ_normal, thenQ_exit, thenQ_ret, blockQ_normal, blockQ_here, blockQ_ret, blockQ_exit, ↓reduceIte, Nat.reduceEqDiff]
        refine W.seq ?_
        refine W.block ?_
        obtain ⟨h18, hm⟩ := of_ite hm
        obtain ⟨h19, hm⟩ := of_ite hm
        refine W.seqD [] [] [(0, .sl (p0.map (eInt .i64))), (1, .sl (p1.map (eInt .i64))), (5, .int .i64 i11), (25, .bool ((rd p0 i11) != (rd p1 i11)))] [] v_mixed (by rfl) (by kernel_rfl) (by kernel_rfl) ?_ ?_
        · try simp -implicitDefEqProofs -dsimp only [go_sem, ↓reduceIte, Nat.reduceAdd, Nat.reduceMul, Nat.reduceSub, Nat.reduceEqDiff, Nat.reduceLeDiff, Nat.reduceLT, Nat.reduceBEq, Int.reduceEq, reduceCtorEq, hb1, hb17, h18, h19]
        refine W.cond ((rd p0 i11) != (rd p1 i11)) (by simp only [ev_tmp, get_cons, ↓reduceIte, Nat.reduceEqDiff]) (fun hb20 => ?_) (fun hb20 => ?_)
        · have hm := of_true hb20 hm
          refine W.seqR [] [(4, .bool false)] [] (by rfl) ?_ ?_
          · try simp -implicitDefEqProofs -dsimp only [go_sem, ↓reduceIte, Nat.reduceAdd, Nat.reduceMul, Nat.reduceSub, Nat.reduceEqDiff, Nat.reduceLeDiff, Nat.reduceLT, Nat.reduceBEq, Int.reduceEq, reduceCtorEq, hb1, hb17, h18, h19, hb20]
          obtain rfl := Option.some.inj hm
          obtain rfl := hx _ rfl
          refine W.weak [] (show AT 0 [] [(4, .bool false)] [] _ _ from by simp -implicitDefEqProofs -dsimp only [go_sem, ↓reduceIte, Nat.reduceAdd, Nat.reduceMul, Nat.reduceSub, Nat.reduceEqDiff, Nat.reduceLeDiff, Nat.reduceLT, Nat.reduceBEq, Int.reduceEq, reduceCtorEq, hb1, hb17, h18, h19, hb20]) (W.ret (show _ ∧ _ from ⟨rfl, rfl, rfl⟩))
        · have hm := of_false hb20 hm
          refine W.skip ?_
          try simp only [thenQ_normal, thenQ_exit, thenQ_ret, blockQ_normal, blockQ_here, blockQ_ret, blockQ_exit, ↓reduceIte, Nat.reduceEqDiff]
          refine W.regL [] [(0, .sl (p0.map (eInt .i64))), (1, .sl (p1.map (eInt .i64))), (5, .int .i64 (IntKind.wrap .i64 (i11 + 1)))] [] (by rfl) ?_ ?_
          · try simp -implicitDefEqProofs -dsimp only [go_sem, ↓reduceIte, Nat.reduceAdd, Nat.reduceMul, Nat.reduceSub, Nat.reduceEqDiff, Nat.reduceLeDiff, Nat.reduceLT, Nat.reduceBEq, Int.reduceEq, reduceCtorEq, hb1, hb17, h18, h19, hb20]
          try simp only [thenQ_normal, thenQ_exit, thenQ_ret, blockQ_normal, blockQ_here, blockQ_ret, blockQ_exit, ↓reduceIte, Nat.reduceEqDiff]
          obtain rfl := Option.some.inj hm
          exact ⟨(IntKind.wrap .i64 (i11 + 1)), (), [], rfl, (show AT 0 [] [(0, .sl (p0.map (eInt .i64))), (1, .sl (p1.map (eInt .i64))), (5, .int .i64 (IntKind.wrap .i64 (i11 + 1)))] [] _ _ from by simp -implicitDefEqProofs -dsimp only [go_sem, ↓reduceIte, Nat.reduceAdd, Nat.reduceMul, Nat.reduceSub, Nat.reduceEqDiff, Nat.reduceLeDiff, Nat.reduceLT, Nat.reduceBEq, Int.reduceEq, reduceCtorEq, hb1, hb17, h18, h19, hb20])⟩
      · have hm := of_false hb17 hm
        obtain rfl := Option.some.inj hm
        obtain rfl := hx _ rfl
        refine W.weak [] (show AT 0 [] [] [] _ _ from by simp -implicitDefEqProofs -dsimp only [go_sem, ↓reduceIte, Nat.reduceAdd, Nat.reduceMul, Nat.reduceSub, Nat.reduceEqDiff, Nat.reduceLeDiff, Nat.reduceLT, Nat.reduceBEq, Int.reduceEq, reduceCtorEq, hb1, hb17]) (W.exit (show _ ∧ _ from ⟨rfl, (), rfl, rfl⟩))
    · intro e0 s0 h0 hq
      rcases r16 with er16 | qr16
      · obtain ⟨rfl, _, rfl, rfl⟩ := hq
        have hm := of_inl hm
        try simp only [thenQ_normal, thenQ_exit, thenQ_ret, blockQ_normal, blockQ_here, blockQ_ret, blockQ_exit, ↓reduceIte, Nat.reduceEqDiff]
        show WK _ _ _ _ _ [] []
        try simp only [thenQ_normal, thenQ_exit, thenQ_ret, blockQ_normal, blockQ_here, blockQ_ret, blockQ_exit, ↓reduceIte, Nat.reduceEqDiff]
        refine W.seqR [] [(4, .bool true)] [] (by rfl) ?_ ?_
        · try simp -implicitDefEqProofs -dsimp only [go_sem, ↓reduceIte, Nat.reduceAdd, Nat.reduceMul, Nat.reduceSub, Nat.reduceEqDiff, Nat.reduceLeDiff, Nat.reduceLT, Nat.reduceBEq, Int.reduceEq, reduceCtorEq, hb1]
        obtain rfl := Option.some.inj hm
        refine W.ret ?_
        try simp only [thenQ_normal, thenQ_exit, thenQ_ret, blockQ_normal, blockQ_here, blockQ_ret, blockQ_exit, ↓reduceIte, Nat.reduceEqDiff]
        refine EndsF.retW [] ?_
        simp -implicitDefEqProofs -dsimp only [go_sem, ↓reduceIte, Nat.reduceAdd, Nat.reduceMul, Nat.reduceSub, Nat.reduceEqDiff, Nat.reduceLeDiff, Nat.reduceLT, Nat.reduceBEq, Int.reduceEq, reduceCtorEq, hb1]
      · obtain ⟨rfl, rfl, rfl⟩ := hq
        have hm := of_inr hm
        obtain rfl := Option.some.inj hm
        try simp only [thenQ_normal, thenQ_exit, thenQ_ret, blockQ_normal, blockQ_here, blockQ_ret, blockQ_exit, ↓reduceIte, Nat.reduceEqDiff]
        refine EndsF.retW [] ?_
        simp -implicitDefEqProofs -dsimp only [go_sem, ↓reduceIte, Nat.reduceAdd, Nat.reduceMul, Nat.reduceSub, Nat.reduceEqDiff, Nat.reduceLeDiff, Nat.reduceLT, Nat.reduceBEq, Int.reduceEq, reduceCtorEq, hb1]

theorem palingref2_SameEntries_ok {p0 : (List T_api_Entry)} {p1 : (List T_api_Entry)} {r : Bool} (hm : palingref2_SameEntries p0 p1 = some r) : PureF Tryd.prog 34 [.sl (p0.map e_api_Entry), .sl (p1.map e_api_Entry)] (.bool r) := by
  rw [palingref2_SameEntries] at hm
  refine PureF.of Tryd.func34 rfl Tryd.ntmps34 (Nat.le_of_ble_eq_true rfl) ?_
  have e0 : argS 0 [.sl (p0.map e_api_Entry), .sl (p1.map e_api_Entry)] = [(0, .sl (p0.map e_api_Entry)), (1, .sl (p1.map e_api_Entry))] := rfl
  rw [e0]
  refine W.seqR [] [(0, .sl (p0.map e_api_Entry)), (1, .sl (p1.map e_api_Entry))] [] (by rfl) ?_ ?_
  · try simp -implicitDefEqProofs -dsimp only [go_sem, ↓reduceIte, Nat.reduceAdd, Nat.reduceMul, Nat.reduceSub, Nat.reduceEqDiff, Nat.reduceLeDiff, Nat.reduceLT, Nat.reduceBEq, Int.reduceEq, reduceCtorEq]
  refine W.seq ?_
  refine W.seqR [] [(0, .sl (p0.map e_api_Entry)), (1, .sl (p1.map e_api_Entry)), (10, .bool ((p0.length : Int) != (p1.length : Int)))] [] (by rfl) ?_ ?_
  · try simp -implicitDefEqProofs -dsimp only [go_sem, ↓reduceIte, Nat.reduceAdd, Nat.reduceMul, Nat.reduceSub, Nat.reduceEqDiff, Nat.reduceLeDiff, Nat.reduceLT, Nat.reduceBEq, Int.reduceEq, reduceCtorEq]
  refine W.cond ((p0.length : Int) != (p1.length : Int)) (by simp only [ev_tmp, get_cons, ↓reduceIte, Nat.reduceEqDiff]) (fun hb1 => ?_) (fun hb1 => ?_)
  · have hm := of_true hb1 hm
    refine W.seqR [] [(4, .bool false)] [] (by rfl) ?_ ?_
    · try simp -implicitDefEqProofs -dsimp only [go_sem, ↓reduceIte, Nat.reduceAdd, Nat.reduceMul, Nat.reduceSub, Nat.reduceEqDiff, Nat.reduceLeDiff, Nat.reduceLT, Nat.reduceBEq, Int.reduceEq, reduceCtorEq, hb1]
    obtain rfl := Option.some.inj hm
    refine W.ret ?_
    try simp only [thenQ_normal, thenQ_exit, thenQ_ret, blockQ_normal, blockQ_here, blockQ_ret, blockQ_exit, ↓reduceIte, Nat.reduceEqDiff]
    refine EndsF.retW [] ?_
    simp -implicitDefEqProofs -dsimp only [go_sem, ↓reduceIte, Nat.reduceAdd, Nat.reduceMul, Nat.reduceSub, Nat.reduceEqDiff, Nat.reduceLeDiff, Nat.reduceLT, Nat.reduceBEq, Int.reduceEq, reduceCtorEq, hb1]
  · have hm := of_false hb1 hm
    refine W.skip ?_
    try simp only [thenQ_normal, thenQ_exit, thenQ_ret, blockQ_normal, blockQ_here, blockQ_ret, blockQ_exit, ↓reduceIte, Nat.reduceEqDiff]
    refine W.seq ?_
    refine W.seqR [] [(0, .sl (p0.map e_api_Entry)), (1, .sl (p1.map e_api_Entry)), (5, .int .i64 0)] [] (by rfl) ?_ ?_
    · try simp -implicitDefEqProofs -dsimp only [go_sem, ↓reduceIte, Nat.reduceAdd, Nat.reduceMul, Nat.reduceSub, Nat.reduceEqDiff, Nat.reduceLeDiff, Nat.reduceLT, Nat.reduceBEq, Int.reduceEq, reduceCtorEq, hb1]
    refine W.block ?_
    obtain ⟨r16, hlr16, hm⟩ := of_bind hm
    refine W.mono (Q := fun e0 s0 h0 => match r16 with | .inl e => e0 = .exit 0 ∧ ∃ w : Unit, s0 = [] ∧ h0 = [] | .inr q => e0 = .ret ∧ s0 = [(4, .bool q)] ∧ h0 = []) (W.loopM (step := palingref2_SameEntries_s1 p0 p1) (a0 := 0) (fun (a : Int) (v : Unit) => ([(0, .sl (p0.map e_api_Entry)), (1, .sl (p1.map e_api_Entry)), (5, .int .i64 a)], [])) () hlr16 [] (show AT 0 [] [(0, .sl (p0.map e_api_Entry)), (1, .sl (p1.map e_api_Entry)), (5, .int .i64 0)] [] _ _ from by simp -implicitDefEqProofs -dsimp only [go_sem, ↓reduceIte, Nat.reduceAdd, Nat.reduceMul, Nat.reduceSub, Nat.reduceEqDiff, Nat.reduceLeDiff, Nat.reduceLT, Nat.reduceBEq, Int.reduceEq, reduceCtorEq, hb1]) ?_) ?_
    · rintro i11 _ x hm hx
      rw [palingref2_SameEntries_s1] at hm
      show WK _ _ _ _ _ [(0, .sl (p0.map e_api_Entry)), (1, .sl (p1.map e_api_Entry)), (5, .int .i64 i11)] []
      refine W.seq ?_
      refine W.seqR [] [(0, .sl (p0.map e_api_Entry)), (1, .sl (p1.map e_api_Entry)), (5, .int .i64 i11), (14, .bool (decide (i11 < (p0.length : Int))))] [] (by rfl) ?_ ?_
      · try simp -implicitDefEqProofs -dsimp only [go_sem, ↓reduceIte, Nat.reduceAdd, Nat.reduceMul, Nat.reduceSub, Nat.reduceEqDiff, Nat.reduceLeDiff, Nat.reduceLT, Nat.reduceBEq, Int.reduceEq, reduceCtorEq, hb1]
      refine W.cond (decide (i11 < (p0.length : Int))) (by simp only [ev_tmp, get_cons, ↓reduceIte, Nat.reduceEqDiff]) (fun hb17 => ?_) (fun hb17 => ?_)
      · have hm := of_true hb17 hm
        refine W.skip ?_
        try simp only [thenQ_normal, thenQ_exit, thenQ_ret, blockQ_normal, blockQ_here, blockQ_ret, blockQ_exit, ↓reduceIte, Nat.reduceEqDiff]
        refine W.seq ?_
        refine W.block ?_
        obtain ⟨h18, hm⟩ := of_ite hm
        obtain ⟨h19, hm⟩ := of_ite hm
        refine W.seqD [] [] [(0, .sl (p0.map e_api_Entry)), (1, .sl (p1.map e_api_Entry)), (5, .int .i64 i11), (25, .bool (!(((rd p0 i11).Addr == (rd p1 i11).Addr) && ((rd p0 i11).Val == (rd p1 i11).Val))))] [] v_mixed (by rfl) (by kernel_rfl) (by kernel_rfl) ?_ ?_
        · try simp -implicitDefEqProofs -dsimp only [go_sem, ↓reduceIte, Nat.reduceAdd, Nat.reduceMul, Nat.reduceSub, Nat.reduceEqDiff, Nat.reduceLeDiff, Nat.reduceLT, Nat.reduceBEq, Int.reduceEq, reduceCtorEq, hb1, hb17, h18, h19]
        refine W.cond (!(((rd p0 i11).Addr == (rd p1 i11).Addr) && ((rd p0 i11).Val == (rd p1 i11).Val))) (by simp only [ev_tmp, get_cons, ↓reduceIte, Nat.reduceEqDiff]) (fun hb20 => ?_) (fun hb20 => ?_)
        · have hm := of_true hb20 hm
          refine W.seqR [] [(4, .bool false)] [] (by rfl) ?_ ?_
          · try simp -implicitDefEqProofs -dsimp only [go_sem, ↓reduceIte, Nat.reduceAdd, Nat.reduceMul, Nat.reduceSub, Nat.reduceEqDiff, Nat.reduceLeDiff, Nat.reduceLT, Nat.reduceBEq, Int.reduceEq, reduceCtorEq, hb1, hb17, h18, h19, hb20]
          obtain rfl := Option.some.inj hm
          obtain rfl := hx _ rfl
          refine W.weak [] (show AT 0 [] [(4, .bool false)] [] _ _ from by simp -implicitDefEqProofs -dsimp only [go_sem, ↓reduceIte, Nat.reduceAdd, Nat.reduceMul, Nat.reduceSub, Nat.reduceEqDiff, Nat.reduceLeDiff, Nat.reduceLT, Nat.reduceBEq, Int.reduceEq, reduceCtorEq, hb1, hb17, h18, h19, hb20]) (W.ret (show _ ∧ _ from ⟨rfl, rfl, rfl⟩))
        · have hm := of_false hb20 hm
          refine W.skip ?_
          try simp only [thenQ_normal, thenQ_exit, thenQ_ret, blockQ_normal, blockQ_here, blockQ_ret, blockQ_exit, ↓reduceIte, Nat.reduceEqDiff]
          refine W.regL [] [(0, .sl (p0.map e_api_Entry)), (1, .sl (p1.map e_api_Entry)), (5, .int .i64 (IntKind.wrap .i64 (i11 + 1)))] [] (by rfl) ?_ ?_
          · try simp -implicitDefEqProofs -dsimp only [go_sem, ↓reduceIte, Nat.reduceAdd, Nat.reduceMul, Nat.reduceSub, Nat.reduceEqDiff, Nat.reduceLeDiff, Nat.reduceLT, Nat.reduceBEq, Int.reduceEq, reduceCtorEq, hb1, hb17, h18, h19, hb20]
          try simp only [thenQ_normal, thenQ_exit, thenQ_ret, blockQ_normal, blockQ_here, blockQ_ret, blockQ_exit, ↓reduceIte, Nat.reduceEqDiff]
          obtain rfl := Option.some.inj hm
          exact ⟨(IntKind.wrap .i64 (i11 + 1)), (), [], rfl, (show AT 0 [] [(0, .sl (p0.map e_api_Entry)), (1, .sl (p1.map e_api_Entry)), (5, .int .i64 (IntKind.wrap .i64 (i11 + 1)))] [] _ _ from by simp -implicitDefEqProofs -dsimp only [go_sem, ↓reduceIte, Nat.reduceAdd, Nat.reduceMul, Nat.reduceSub, Nat.reduceEqDiff, Nat.reduceLeDiff, Nat.reduceLT, Nat.reduceBEq, Int.reduceEq, reduceCtorEq, hb1, hb17, h18, h19, hb20])⟩
      · have hm := of_false hb17 hm
        obtain rfl := Option.some.inj hm
        obtain rfl := hx _ rfl
        refine W.weak [] (show AT 0 [] [] [] _ _ from by simp -implicitDefEqProofs -dsimp only [go_sem, ↓reduceIte, Nat.reduceAdd, Nat.reduceMul, Nat.reduceSub, Nat.reduceEqDiff, Nat.reduceLeDiff, Nat.reduceLT, Nat.reduceBEq, Int.reduceEq, reduceCtorEq, hb1, hb17]) (W.exit (show _ ∧ _ from ⟨rfl, (), rfl, rfl⟩))
    · intro e0 s0 h0 hq
      rcases r16 with er16 | qr16
      · obtain ⟨rfl, _, rfl, rfl⟩ := hq
        have hm := of_inl hm
        try simp only [thenQ_normal, thenQ_exit, thenQ_ret, blockQ_normal, blockQ_here, blockQ_ret, blockQ_exit, ↓reduceIte, Nat.reduceEqDiff]
        show WK _ _ _ _ _ [] []
        try simp only [thenQ_normal, thenQ_exit, thenQ_ret, blockQ_normal, blockQ_here, blockQ_ret, blockQ_exit, ↓reduceIte, Nat.reduceEqDiff]
        refine W.seqR [] [(4, .bool true)] [] (by rfl) ?_ ?_
        · try simp -implicitDefEqProofs -dsimp only [go_sem, ↓reduceIte, Nat.reduceAdd, Nat.reduceMul, Nat.reduceSub, Nat.reduceEqDiff, Nat.reduceLeDiff, Nat.reduceLT, Nat.reduceBEq, Int.reduceEq, reduceCtorEq, hb1]
        obtain rfl := Option.some.inj hm
        refine W.ret ?_
        try simp only [thenQ_normal, thenQ_exit, thenQ_ret, blockQ_normal, blockQ_here, blockQ_ret, blockQ_exit, ↓reduceIte, Nat.reduceEqDiff]
        refine EndsF.retW [] ?_
        simp -implicitDefEqProofs -dsimp only [go_sem, ↓reduceIte, Nat.reduceAdd, Nat.reduceMul, Nat.reduceSub, Nat.reduceEqDiff, Nat.reduceLeDiff, Nat.reduceLT, Nat.reduceBEq, Int.reduceEq, reduceCtorEq, hb1]
      · obtain ⟨rfl, rfl, rfl⟩ := hq
        have hm := of_inr hm
        obtain rfl := Option.some.inj hm
        try simp only [thenQ_normal, thenQ_exit, thenQ_ret, blockQ_normal, blockQ_here, blockQ_ret, blockQ_exit, ↓reduceIte, Nat.reduceEqDiff]
        refine EndsF.retW [] ?_
        simp -implicitDefEqProofs -dsimp only [go_sem, ↓reduceIte, Nat.reduceAdd, Nat.reduceMul, Nat.reduceSub, Nat.reduceEqDiff, Nat.reduceLeDiff, Nat.reduceLT, Nat.reduceBEq, Int.reduceEq, reduceCtorEq, hb1]

theorem palingref2_row_ok {p0 : (List Int)} {r : ByteArray} (hm : palingref2_row p0 = some r) : PureF Tryd.prog 39 [.sl (p0.map (eInt .i64))] (.str r) := by
  rw [palingref2_row] at hm
  refine PureF.of Tryd.func39 rfl Tryd.ntmps39 (Nat.le_of_ble_eq_true rfl) ?_
  have e0 : argS 0 [.sl (p0.map (eInt .i64))] = [(0, .sl (p0.map (eInt .i64)))] := rfl
  rw [e0]
  refine W.seqR [] [(0, .sl (p0.map (eInt .i64)))] [] (by rfl) ?_ ?_
  · try simp -implicitDefEqProofs -dsimp only [go_sem, ↓reduceIte, Nat.reduceAdd, Nat.reduceMul, Nat.reduceSub, Nat.reduceEqDiff, Nat.reduceLeDiff, Nat.reduceLT, Nat.reduceBEq, Int.reduceEq, reduceCtorEq]
  refine W.seqR [] [(0, .sl (p0.map (eInt .i64))), (3, .str (⟨#[]⟩ : ByteArray))] [] (by rfl) ?_ ?_
  · try simp -implicitDefEqProofs -dsimp only [go_sem, ↓reduceIte, Nat.reduceAdd, Nat.reduceMul, Nat.reduceSub, Nat.reduceEqDiff, Nat.reduceLeDiff, Nat.reduceLT, Nat.reduceBEq, Int.reduceEq, reduceCtorEq]
  refine W.seq ?_
  refine W.seqR [] [(0, .sl (p0.map (eInt .i64))), (3, .str (⟨#[]⟩ : ByteArray)), (4, .int .i64 0)] [] (by rfl) ?_ ?_
  · try simp -implicitDefEqProofs -dsimp only [go_sem, ↓reduceIte, Nat.reduceAdd, Nat.reduceMul, Nat.reduceSub, Nat.reduceEqDiff, Nat.reduceLeDiff, Nat.reduceLT, Nat.reduceBEq, Int.reduceEq, reduceCtorEq]
  refine W.block ?_
  obtain ⟨r30, hlr30, hm⟩ := of_bind hm
  refine W.mono (Q := fun e0 s0 h0 => e0 = .exit 0 ∧ ∃ w : Unit, s0 = [(3, .str r30)] ∧ h0 = []) (W.loopM (step := palingref2_row_s1 p0) (a0 := ((⟨#[]⟩ : ByteArray), 0)) (fun (a : ByteArray × Int) (v : Unit) => ([(0, .sl (p0.map (eInt .i64))), (3, .str a.1), (4, .int .i64 a.2)], [])) () hlr30 [] (show AT 0 [] [(0, .sl (p0.map (eInt .i64))), (3, .str (⟨#[]⟩ : ByteArray)), (4, .int .i64 0)] [] _ _ from by simp -implicitDefEqProofs -dsimp only [go_sem, ↓reduceIte, Nat.reduceAdd, Nat.reduceMul, Nat.reduceSub, Nat.reduceEqDiff, Nat.reduceLeDiff, Nat.reduceLT, Nat.reduceBEq, Int.reduceEq, reduceCtorEq]) ?_) ?_
  · rintro ⟨s19, i20⟩ _ x hm hx
    rw [palingref2_row_s1] at hm
    show WK _ _ _ _ _ [(0, .sl (p0.map (eInt .i64))), (3, .str s19), (4, .int .i64 i20)] []
    refine W.seq ?_
    refine W.seqR [] [(0, .sl (p0.map (eInt .i64))), (3, .str s19), (4, .int .i64 i20), (8, .bool (decide (i20 < (p0.length : Int))))] [] (by rfl) ?_ ?_
    · try simp -implicitDefEqProofs -dsimp only [go_sem, ↓reduceIte, Nat.reduceAdd, Nat.reduceMul, Nat.reduceSub, Nat.reduceEqDiff, Nat.reduceLeDiff, Nat.reduceLT, Nat.reduceBEq, Int.reduceEq, reduceCtorEq]
    refine W.cond (decide (i20 < (p0.length : Int))) (by simp only [ev_tmp, get_cons, ↓reduceIte, Nat.reduceEqDiff]) (fun hb31 => ?_) (fun hb31 => ?_)
    · have hm := of_true hb31 hm
      refine W.skip ?_
      try simp only [thenQ_normal, thenQ_exit, thenQ_ret, blockQ_normal, blockQ_here, blockQ_ret, blockQ_exit, ↓reduceIte, Nat.reduceEqDiff]
      refine W.seq ?_
      refine W.block ?_
      refine W.cut (fun s h => ∃ (v : ByteArray) (w : Unit) (F : List Nat), palingref2_row_j1 i20 p0 v = some x ∧ AT 0 F [(0, .sl (p0.map (eInt .i64))), (3, .str v), (4, .int .i64 i20)] [] s h) ?_ ?_
      · refine W.seqR [] [(0, .sl (p0.map (eInt .i64))), (3, .str s19), (4, .int .i64 i20), (12, .bool (decide (i20 > 0)))] [] (by rfl) ?_ ?_
        · try simp -implicitDefEqProofs -dsimp only [go_sem, ↓reduceIte, Nat.reduceAdd, Nat.reduceMul, Nat.reduceSub, Nat.reduceEqDiff, Nat.reduceLeDiff, Nat.reduceLT, Nat.reduceBEq, Int.reduceEq, reduceCtorEq, hb31]
        refine W.cond (decide (i20 > 0)) (by simp only [ev_tmp, get_cons, ↓reduceIte, Nat.reduceEqDiff]) (fun hb37 => ?_) (fun hb37 => ?_)
        · have hm := of_true hb37 hm
          obtain ⟨h38, hm⟩ := of_ite hm
          refine W.regL [] [(0, .sl (p0.map (eInt .i64))), (3, .str (s19 ++ (⟨#[44]⟩ : ByteArray))), (4, .int .i64 i20)] [] (by rfl) ?_ ?_
          · try simp -implicitDefEqProofs -dsimp only [go_sem, ↓reduceIte, Nat.reduceAdd, Nat.reduceMul, Nat.reduceSub, Nat.reduceEqDiff, Nat.reduceLeDiff, Nat.reduceLT, Nat.reduceBEq, Int.reduceEq, reduceCtorEq, hb31, hb37, h38]
          try simp only [thenQ_normal, thenQ_exit, thenQ_ret, blockQ_normal, blockQ_here, blockQ_ret, blockQ_exit, ↓reduceIte, Nat.reduceEqDiff]
          exact ⟨(s19 ++ (⟨#[44]⟩ : ByteArray)), (), [], hm, (show AT 0 [] [(0, .sl (p0.map (eInt .i64))), (3, .str (s19 ++ (⟨#[44]⟩ : ByteArray))), (4, .int .i64 i20)] [] _ _ from by simp -implicitDefEqProofs -dsimp only [go_sem, ↓reduceIte, Nat.reduceAdd, Nat.reduceMul, Nat.reduceSub, Nat.reduceEqDiff, Nat.reduceLeDiff, Nat.reduceLT, Nat.reduceBEq, Int.reduceEq, reduceCtorEq, hb31, hb37, h38])⟩
        · have hm := of_false hb37 hm
          refine W.skip ?_
          try simp only [thenQ_normal, thenQ_exit, thenQ_ret, blockQ_normal, blockQ_here, blockQ_ret, blockQ_exit, ↓reduceIte, Nat.reduceEqDiff]
          exact ⟨s19, (), [], hm, (show AT 0 [] [(0, .sl (p0.map (eInt .i64))), (3, .str s19), (4, .int .i64 i20)] [] _ _ from by simp -implicitDefEqProofs -dsimp only [go_sem, ↓reduceIte, Nat.reduceAdd, Nat.reduceMul, Nat.reduceSub, Nat.reduceEqDiff, Nat.reduceLeDiff, Nat.reduceLT, Nat.reduceBEq, Int.reduceEq, reduceCtorEq, hb31, hb37])⟩
      · rintro s h ⟨s32, _, F, hm, hat⟩
        refine W.weak F hat ?_
        show WK _ _ _ _ _ [(0, .sl (p0.map (eInt .i64))), (3, .str s32), (4, .int .i64 i20)] []
        rw [palingref2_row_j1] at hm
        obtain ⟨h33, hm⟩ := of_ite hm
        obtain ⟨v34, h35, hm⟩ := of_bind hm
        obtain ⟨h36, hm⟩ := of_ite hm
        refine W.regL [] [(0, .sl (p0.map (eInt .i64))), (3, .str (s32 ++ v34)), (4, .int .i64 i20)] [] (by rfl) ?_ ?_
        · try simp -implicitDefEqProofs -dsimp only [go_sem, ↓reduceIte, Nat.reduceAdd, Nat.reduceMul, Nat.reduceSub, Nat.reduceEqDiff, Nat.reduceLeDiff, Nat.reduceLT, Nat.reduceBEq, Int.reduceEq, reduceCtorEq, hb31, h33, h36]
          with_reducible refine exP.mk _ (callP.plain (by simp -implicitDefEqProofs -dsimp only [go_sem, ↓reduceIte, Nat.reduceAdd, Nat.reduceMul, Nat.reduceSub, Nat.reduceEqDiff, Nat.reduceLeDiff, Nat.reduceLT, Nat.reduceBEq, Int.reduceEq, reduceCtorEq, hb31, h33, h36]) (palingref1_Text_ok h35)) ?_
          try simp -implicitDefEqProofs -dsimp only [go_sem, ↓reduceIte, Nat.reduceAdd, Nat.reduceMul, Nat.reduceSub, Nat.reduceEqDiff, Nat.reduceLeDiff, Nat.reduceLT, Nat.reduceBEq, Int.reduceEq, reduceCtorEq, hb31, h33, h36]
        try simp only [thenQ_normal, thenQ_exit, thenQ_ret, blockQ_normal, blockQ_here, blockQ_ret, blockQ_exit, ↓reduceIte, Nat.reduceEqDiff]
        refine W.regL [] [(0, .sl (p0.map (eInt .i64))), (3, .str (s32 ++ v34)), (4, .int .i64 (IntKind.wrap .i64 (i20 + 1)))] [] (by rfl) ?_ ?_
        · try simp -implicitDefEqProofs -dsimp only [go_sem, ↓reduceIte, Nat.reduceAdd, Nat.reduceMul, Nat.reduceSub, Nat.reduceEqDiff, Nat.reduceLeDiff, Nat.reduceLT, Nat.reduceBEq, Int.reduceEq, reduceCtorEq, hb31, h33, h36]
        try simp only [thenQ_normal, thenQ_exit, thenQ_ret, blockQ_normal, blockQ_here, blockQ_ret, blockQ_exit, ↓reduceIte, Nat.reduceEqDiff]
        obtain rfl := Option.some.inj hm
        exact ⟨((s32 ++ v34), (IntKind.wrap .i64 (i20 + 1))), (), [], rfl, (show AT 0 [] [(0, .sl (p0.map (eInt .i64))), (3, .str (s32 ++ v34)), (4, .int .i64 (IntKind.wrap .i64 (i20 + 1)))] [] _ _ from by simp -implicitDefEqProofs -dsimp only [go_sem, ↓reduceIte, Nat.reduceAdd, Nat.reduceMul, Nat.reduceSub, Nat.reduceEqDiff, Nat.reduceLeDiff, Nat.reduceLT, Nat.reduceBEq, Int.reduceEq, reduceCtorEq, hb31, h33, h36])⟩
    · have hm := of_false hb31 hm
      obtain rfl := Option.some.inj hm
      obtain rfl := hx _ rfl
      refine W.weak [] (show AT 0 [] [(3, .str s19)] [] _ _ from by simp -implicitDefEqProofs -dsimp only [go_sem, ↓reduceIte, Nat.reduceAdd, Nat.reduceMul, Nat.reduceSub, Nat.reduceEqDiff, Nat.reduceLeDiff, Nat.reduceLT, Nat.reduceBEq, Int.reduceEq, reduceCtorEq, hb31]) (W.exit (show _ ∧ _ from ⟨rfl, (), rfl, rfl⟩))
  · rintro e0 s0 h0 ⟨rfl, _, rfl, rfl⟩
    try simp only [thenQ_normal, thenQ_exit, thenQ_ret, blockQ_normal, blockQ_here, blockQ_ret, blockQ_exit, ↓reduceIte, Nat.reduceEqDiff]
    show WK _ _ _ _ _ [(3, .str r30)] []
    try simp only [thenQ_normal, thenQ_exit, thenQ_ret, blockQ_normal, blockQ_here, blockQ_ret, blockQ_exit, ↓reduceIte, Nat.reduceEqDiff]
    refine W.seqR [] [(2, .str r30)] [] (by rfl) ?_ ?_
    · try simp -implicitDefEqProofs -dsimp only [go_sem, ↓reduceIte, Nat.reduceAdd, Nat.reduceMul, Nat.reduceSub, Nat.reduceEqDiff, Nat.reduceLeDiff, Nat.reduceLT, Nat.reduceBEq, Int.reduceEq, reduceCtorEq]
    obtain rfl := Option.some.inj hm
    refine W.ret ?_
    try simp only [thenQ_normal, thenQ_exit, thenQ_ret, blockQ_normal, blockQ_here, blockQ_ret, blockQ_exit, ↓reduceIte, Nat.reduceEqDiff]
    refine EndsF.retW [] ?_
    simp -implicitDefEqProofs -dsimp only [go_sem, ↓reduceIte, Nat.reduceAdd, Nat.reduceMul, Nat.reduceSub, Nat.reduceEqDiff, Nat.reduceLeDiff, Nat.reduceLT, Nat.reduceBEq, Int.reduceEq, reduceCtorEq]

theorem palingref2_bit_ok {p0 : Bool} {r : ByteArray} (hm : palingref2_bit p0 = some r) : PureF Tryd.prog 40 [.bool p0] (.str r) := by
  rw [palingref2_bit] at hm
  refine PureF.of Tryd.func40 rfl Tryd.ntmps40 (Nat.le_of_ble_eq_true rfl) ?_
  have e0 : argS 0 [.bool p0] = [(0, .bool p0)] := rfl
  rw [e0]
  refine W.seqR [] [(0, .bool p0)] [] (by rfl) ?_ ?_
  · try simp -implicitDefEqProofs -dsimp only [go_sem, ↓reduceIte, Nat.reduceAdd, Nat.reduceMul, Nat.reduceSub, Nat.reduceEqDiff, Nat.reduceLeDiff, Nat.reduceLT, Nat.reduceBEq, Int.reduceEq, reduceCtorEq]
  refine W.seq ?_
  refine W.seqR [] [(3, .bool p0)] [] (by rfl) ?_ ?_
  · try simp -implicitDefEqProofs -dsimp only [go_sem, ↓reduceIte, Nat.reduceAdd, Nat.reduceMul, Nat.reduceSub, Nat.reduceEqDiff, Nat.reduceLeDiff, Nat.reduceLT, Nat.reduceBEq, Int.reduceEq, reduceCtorEq]
  refine W.cond p0 (by simp only [ev_tmp, get_cons, ↓reduceIte, Nat.reduceEqDiff]) (fun hb1 => ?_) (fun hb1 => ?_)
  · have hm := of_true hb1 hm
    refine W.seqR [] [(2, .str (⟨#[49]⟩ : ByteArray))] [] (by rfl) ?_ ?_
    · try simp -implicitDefEqProofs -dsimp only [go_sem, ↓reduceIte, Nat.reduceAdd, Nat.reduceMul, Nat.reduceSub, Nat.reduceEqDiff, Nat.reduceLeDiff, Nat.reduceLT, Nat.reduceBEq, Int.reduceEq, reduceCtorEq, hb1]
    obtain rfl := Option.some.inj hm
    refine W.ret ?_
    try simp only [thenQ_normal, thenQ_exit, thenQ_ret, blockQ_normal, blockQ_here, blockQ_ret, blockQ_exit, ↓reduceIte, Nat.reduceEqDiff]
    refine EndsF.retW [] ?_
    simp -implicitDefEqProofs -dsimp only [go_sem, ↓reduceIte, Nat.reduceAdd, Nat.reduceMul, Nat.reduceSub, Nat.reduceEqDiff, Nat.reduceLeDiff, Nat.reduceLT, Nat.reduceBEq, Int.reduceEq, reduceCtorEq, hb1]
  · have hm := of_false hb1 hm
    refine W.skip ?_
    try simp only [thenQ_normal, thenQ_exit, thenQ_ret, blockQ_normal, blockQ_here, blockQ_ret, blockQ_exit, ↓reduceIte, Nat.reduceEqDiff]
    refine W.seqR [] [(2, .str (⟨#[48]⟩ : ByteArray))] [] (by rfl) ?_ ?_
    · try simp -implicitDefEqProofs -dsimp only [go_sem, ↓reduceIte, Nat.reduceAdd, Nat.reduceMul, Nat.reduceSub, Nat.reduceEqDiff, Nat.reduceLeDiff, Nat.reduceLT, Nat.reduceBEq, Int.reduceEq, reduceCtorEq, hb1]
    obtain rfl := Option.some.inj hm
    refine W.ret ?_
    try simp only [thenQ_normal, thenQ_exit, thenQ_ret, blockQ_normal, blockQ_here, blockQ_ret, blockQ_exit, ↓reduceIte, Nat.reduceEqDiff]
    refine EndsF.retW [] ?_
    simp -implicitDefEqProofs -dsimp only [go_sem, ↓reduceIte, Nat.reduceAdd, Nat.reduceMul, Nat.reduceSub, Nat.reduceEqDiff, Nat.reduceLeDiff, Nat.reduceLT, Nat.reduceBEq, Int.reduceEq, reduceCtorEq, hb1]

theorem palingref1_Read_ok {p0 : ByteArray} {r : Int × Bool} (hm : palingref1_Read p0 = some r) : PureF Tryd.prog 25 [.str p0] (.tuple [.int .i64 r.1, .bool r.2]) := by
  rw [palingref1_Read] at hm
  refine PureF.of Tryd.func25 rfl Tryd.ntmps25 (Nat.le_of_ble_eq_true rfl) ?_
  have e0 : argS 0 [.str p0] = [(0, .str p0)] := rfl
  rw [e0]
  refine W.seqR [] [(0, .str p0)] [] (by rfl) ?_ ?_
  · try simp -implicitDefEqProofs -dsimp only [go_sem, ↓reduceIte, Nat.reduceAdd, Nat.reduceMul, Nat.reduceSub, Nat.reduceEqDiff, Nat.reduceLeDiff, Nat.reduceLT, Nat.reduceBEq, Int.reduceEq, reduceCtorEq]
  obtain ⟨h1, hm⟩ := of_ite hm
  refine W.seqR [] [(0, .str p0), (4, .bool (decide ((p0.size : Int) > 0) && ((bt p0 0) == 45)))] [] (by rfl) ?_ ?_
  · try simp -implicitDefEqProofs -dsimp only [go_sem, ↓reduceIte, Nat.reduceAdd, Nat.reduceMul, Nat.reduceSub, Nat.reduceEqDiff, Nat.reduceLeDiff, Nat.reduceLT, Nat.reduceBEq, Int.reduceEq, reduceCtorEq, h1]
    refine onG_split (fun hg2 => ?_) (fun hg2 => ?_)
    · try simp -implicitDefEqProofs -dsimp only [go_sem, ↓reduceIte, Nat.reduceAdd, Nat.reduceMul, Nat.reduceSub, Nat.reduceEqDiff, Nat.reduceLeDiff, Nat.reduceLT, Nat.reduceBEq, Int.reduceEq, reduceCtorEq, h1, hg2]
    · try simp -implicitDefEqProofs -dsimp only [go_sem, ↓reduceIte, Nat.reduceAdd, Nat.reduceMul, Nat.reduceSub, Nat.reduceEqDiff, Nat.reduceLeDiff, Nat.reduceLT, Nat.reduceBEq, Int.reduceEq, reduceCtorEq, h1, hg2]
  refine W.cut (fun s h => ∃ (v : ByteArray) (w : Unit) (F : List Nat), palingref1_Read_j1 p0 v = some r ∧ AT 0 F [(0, .str v), (4, .bool (decide ((p0.size : Int) > 0) && ((bt p0 0) == 45)))] [] s h) ?_ ?_
  · refine W.seqR [] [(0, .str p0), (4, .bool (decide ((p0.size : Int) > 0) && ((bt p0 0) == 45))), (15, .bool (decide ((p0.size : Int) > 0) && ((bt p0 0) == 45)))] [] (by rfl) ?_ ?_
    · try simp -implicitDefEqProofs -dsimp only [go_sem, ↓reduceIte, Nat.reduceAdd, Nat.reduceMul, Nat.reduceSub, Nat.reduceEqDiff, Nat.reduceLeDiff, Nat.reduceLT, Nat.reduceBEq, Int.reduceEq, reduceCtorEq, h1]
    refine W.cond (decide ((p0.size : Int) > 0) && ((bt p0 0) == 45)) (by simp only [ev_tmp, get_cons, ↓reduceIte, Nat.reduceEqDiff]) (fun hb50 => ?_) (fun hb50 => ?_)
    · have hm := of_true hb50 hm
      obtain ⟨h51, hm⟩ := of_ite hm
      refine W.regL [] [(0, .str (p0.extract (Int.toNat 1) p0.size)), (4, .bool (decide ((p0.size : Int) > 0) && ((bt p0 0) == 45)))] [] (by rfl) ?_ ?_
      · try simp -implicitDefEqProofs -dsimp only [go_sem, ↓reduceIte, Nat.reduceAdd, Nat.reduceMul, Nat.reduceSub, Nat.reduceEqDiff, Nat.reduceLeDiff, Nat.reduceLT, Nat.reduceBEq, Int.reduceEq, reduceCtorEq, h1, hb50, h51]
      try simp only [thenQ_normal, thenQ_exit, thenQ_ret, blockQ_normal, blockQ_here, blockQ_ret, blockQ_exit, ↓reduceIte, Nat.reduceEqDiff]
      exact ⟨(p0.extract (Int.toNat 1) p0.size), (), [], hm, (show AT 0 [] [(0, .str (p0.extract (Int.toNat 1) p0.size)), (4, .bool (decide ((p0.size : Int) > 0) && ((bt p0 0) == 45)))] [] _ _ from by simp -implicitDefEqProofs -dsimp only [go_sem, ↓reduceIte, Nat.reduceAdd, Nat.reduceMul, Nat.reduceSub, Nat.reduceEqDiff, Nat.reduceLeDiff, Nat.reduceLT, Nat.reduceBEq, Int.reduceEq, reduceCtorEq, h1, hb50, h51])⟩
    · have hm := of_false hb50 hm
      refine W.skip ?_
      try simp only [thenQ_normal, thenQ_exit, thenQ_ret, blockQ_normal, blockQ_here, blockQ_ret, blockQ_exit, ↓reduceIte, Nat.reduceEqDiff]
      exact ⟨p0, (), [], hm, (show AT 0 [] [(0, .str p0), (4, .bool (decide ((p0.size : Int) > 0) && ((bt p0 0) == 45)))] [] _ _ from by simp -implicitDefEqProofs -dsimp only [go_sem, ↓reduceIte, Nat.reduceAdd, Nat.reduceMul, Nat.reduceSub, Nat.reduceEqDiff, Nat.reduceLeDiff, Nat.reduceLT, Nat.reduceBEq, Int.reduceEq, reduceCtorEq, h1, hb50])⟩
  · rintro s h ⟨s3, _, F, hm, hat⟩
    refine W.weak F hat ?_
    show WK _ _ _ _ _ [(0, .str s3), (4, .bool (decide ((p0.size : Int) > 0) && ((bt p0 0) == 45)))] []
    rw [palingref1_Read_j1] at hm
    refine W.seq ?_
    obtain ⟨h4, hm⟩ := of_ite hm
    obtain ⟨b5, h6, hm⟩ := of_bind hm
    replace h6 := Option.some.inj h6
    refine W.seqR [] [(0, .str s3), (4, .bool (decide ((p0.size : Int) > 0) && ((bt p0 0) == 45))), (37, .bool b5)] [] (by rfl) ?_ ?_
    · try simp -implicitDefEqProofs -dsimp only [go_sem, ↓reduceIte, Nat.reduceAdd, Nat.reduceMul, Nat.reduceSub, Nat.reduceEqDiff, Nat.reduceLeDiff, Nat.reduceLT, Nat.reduceBEq, Int.reduceEq, reduceCtorEq, h1, h4, ← h6]
      refine onG_splitN (fun hg7 => ?_) (fun hg7 => ?_)
      · try simp -implicitDefEqProofs -dsimp only [go_sem, ↓reduceIte, Nat.reduceAdd, Nat.reduceMul, Nat.reduceSub, Nat.reduceEqDiff, Nat.reduceLeDiff, Nat.reduceLT, Nat.reduceBEq, Int.reduceEq, reduceCtorEq, h1, h4, hg7, ← h6]
        refine onG_splitN (fun hg8 => ?_) (fun hg8 => ?_)
        · try simp -implicitDefEqProofs -dsimp only [go_sem, ↓reduceIte, Nat.reduceAdd, Nat.reduceMul, Nat.reduceSub, Nat.reduceEqDiff, Nat.reduceLeDiff, Nat.reduceLT, Nat.reduceBEq, Int.reduceEq, reduceCtorEq, h1, h4, hg7, hg8, ← h6]
          refine onG_split (fun hg9 => ?_) (fun hg9 => ?_)
          · try simp -implicitDefEqProofs -dsimp only [go_sem, ↓reduceIte, Nat.reduceAdd, Nat.reduceMul, Nat.reduceSub, Nat.reduceEqDiff, Nat.reduceLeDiff, Nat.reduceLT, Nat.reduceBEq, Int.reduceEq, reduceCtorEq, h1, h4, hg7, hg8, hg9, ← h6]
            refine onG_splitN (fun hg10 => ?_) (fun hg10 => ?_)
            · try simp -implicitDefEqProofs -dsimp only [go_sem, ↓reduceIte, Nat.reduceAdd, Nat.reduceMul, Nat.reduceSub, Nat.reduceEqDiff, Nat.reduceLeDiff, Nat.reduceLT, Nat.reduceBEq, Int.reduceEq, reduceCtorEq, h1, h4, hg7, hg8, hg9, hg10, ← h6]
            · try simp -implicitDefEqProofs -dsimp only [go_sem, ↓reduceIte, Nat.reduceAdd, Nat.reduceMul, Nat.reduceSub, Nat.reduceEqDiff, Nat.reduceLeDiff, Nat.reduceLT, Nat.reduceBEq, Int.reduceEq, reduceCtorEq, h1, h4, hg7, hg8, hg9, hg10, ← h6]
          · try simp -implicitDefEqProofs -dsimp only [go_sem, ↓reduceIte, Nat.reduceAdd, Nat.reduceMul, Nat.reduceSub, Nat.reduceEqDiff, Nat.reduceLeDiff, Nat.reduceLT, Nat.reduceBEq, Int.reduceEq, reduceCtorEq, h1, h4, hg7, hg8, hg9, ← h6]
        · try simp -implicitDefEqProofs -dsimp only [go_sem, ↓reduceIte, Nat.reduceAdd, Nat.reduceMul, Nat.reduceSub, Nat.reduceEqDiff, Nat.reduceLeDiff, Nat.reduceLT, Nat.reduceBEq, Int.reduceEq, reduceCtorEq, h1, h4, hg7, hg8, ← h6]
      · try simp -implicitDefEqProofs -dsimp only [go_sem, ↓reduceIte, Nat.reduceAdd, Nat.reduceMul, Nat.reduceSub, Nat.reduceEqDiff, Nat.reduceLeDiff, Nat.reduceLT, Nat.reduceBEq, Int.reduceEq, reduceCtorEq, h1, h4, hg7, ← h6]
    refine W.cond b5 (by simp only [ev_tmp, get_cons, ↓reduceIte, Nat.reduceEqDiff]) (fun hb11 => ?_) (fun hb11 => ?_)
    · have hm := of_true hb11 hm
      refine W.seqR [] [(2, .int .i64 0), (3, .bool false)] [] (by rfl) ?_ ?_
      · try simp -implicitDefEqProofs -dsimp only [go_sem, ↓reduceIte, Nat.reduceAdd, Nat.reduceMul, Nat.reduceSub, Nat.reduceEqDiff, Nat.reduceLeDiff, Nat.reduceLT, Nat.reduceBEq, Int.reduceEq, reduceCtorEq, h1, h4, hb11]
      obtain rfl := Option.some.inj hm
      refine W.ret ?_
      try simp only [thenQ_normal, thenQ_exit, thenQ_ret, blockQ_normal, blockQ_here, blockQ_ret, blockQ_exit, ↓reduceIte, Nat.reduceEqDiff]
      refine EndsF.retW [] ?_
      simp -implicitDefEqProofs -dsimp only [go_sem, ↓reduceIte, Nat.reduceAdd, Nat.reduceMul, Nat.reduceSub, Nat.reduceEqDiff, Nat.reduceLeDiff, Nat.reduceLT, Nat.reduceBEq, Int.reduceEq, reduceCtorEq, h1, h4, hb11]
    · have hm := of_false hb11 hm
      refine W.skip ?_
      try simp only [thenQ_normal, thenQ_exit, thenQ_ret, blockQ_normal, blockQ_here, blockQ_ret, blockQ_exit, ↓reduceIte, Nat.reduceEqDiff]
      refine W.seqR [] [(0, .str s3), (4, .bool (decide ((p0.size : Int) > 0) && ((bt p0 0) == 45))), (5, .int .u64 0)] [] (by rfl) ?_ ?_
      · try simp -implicitDefEqProofs -dsimp only [go_sem, ↓reduceIte, Nat.reduceAdd, Nat.reduceMul, Nat.reduceSub, Nat.reduceEqDiff, Nat.reduceLeDiff, Nat.reduceLT, Nat.reduceBEq, Int.reduceEq, reduceCtorEq, h1, h4, hb11]
      refine W.seq ?_
      refine W.seqR [] [(0, .str s3), (4, .bool (decide ((p0.size : Int) > 0) && ((bt p0 0) == 45))), (5, .int .u64 0), (6, .int .i64 0)] [] (by rfl) ?_ ?_
      · try simp -implicitDefEqProofs -dsimp only [go_sem, ↓reduceIte, Nat.reduceAdd, Nat.reduceMul, Nat.reduceSub, Nat.reduceEqDiff, Nat.reduceLeDiff, Nat.reduceLT, Nat.reduceBEq, Int.reduceEq, reduceCtorEq, h1, h4, hb11]
      refine W.block ?_
      obtain ⟨r38, hlr38, hm⟩ := of_bind hm
      refine W.mono (Q := fun e0 s0 h0 => match r38 with | .inl e => e0 = .exit 0 ∧ ∃ w : Unit, s0 = [(4, .bool (decide ((p0.size : Int) > 0) && ((bt p0 0) == 45))), (5, .int .u64 e)] ∧ h0 = [] | .inr q => e0 = .ret ∧ s0 = [(2, .int .i64 q.1), (3, .bool q.2)] ∧ h0 = []) (W.loopM (step := palingref1_Read_s1 s3) (a0 := (0, 0)) (fun (a : Int × Int) (v : Unit) => ([(0, .str s3), (4, .bool (decide ((p0.size : Int) > 0) && ((bt p0 0) == 45))), (5, .int .u64 a.1), (6, .int .i64 a.2)], [])) () hlr38 [] (show AT 0 [] [(0, .str s3), (4, .bool (decide ((p0.size : Int) > 0) && ((bt p0 0) == 45))), (5, .int .u64 0), (6, .int .i64 0)] [] _ _ from by simp -implicitDefEqProofs -dsimp only [go_sem, ↓reduceIte, Nat.reduceAdd, Nat.reduceMul, Nat.reduceSub, Nat.reduceEqDiff, Nat.reduceLeDiff, Nat.reduceLT, Nat.reduceBEq, Int.reduceEq, reduceCtorEq, h1, h4, hb11]) ?_) ?_
      · rintro ⟨i28, i29⟩ _ x hm hx
        rw [palingref1_Read_s1] at hm
        show WK _ _ _ _ _ [(0, .str s3), (4, .bool (decide ((p0.size : Int) > 0) && ((bt p0 0) == 45))), (5, .int .u64 i28), (6, .int .i64 i29)] []
        refine W.seq ?_
        refine W.seqR [] [(0, .str s3), (4, .bool (decide ((p0.size : Int) > 0) && ((bt p0 0) == 45))), (5, .int .u64 i28), (6, .int .i64 i29), (41, .bool (decide (i29 < (s3.size : Int))))] [] (by rfl) ?_ ?_
        · try simp -implicitDefEqProofs -dsimp only [go_sem, ↓reduceIte, Nat.reduceAdd, Nat.reduceMul, Nat.reduceSub, Nat.reduceEqDiff, Nat.reduceLeDiff, Nat.reduceLT, Nat.reduceBEq, Int.reduceEq, reduceCtorEq, h1, h4, hb11]
        refine W.cond (decide (i29 < (s3.size : Int))) (by simp only [ev_tmp, get_cons, ↓reduceIte, Nat.reduceEqDiff]) (fun hb39 => ?_) (fun hb39 => ?_)
        · have hm := of_true hb39 hm
          refine W.skip ?_
          try simp only [thenQ_normal, thenQ_exit, thenQ_ret, blockQ_normal, blockQ_here, blockQ_ret, blockQ_exit, ↓reduceIte, Nat.reduceEqDiff]
          refine W.seq ?_
          refine W.block ?_
          refine W.seq ?_
          obtain ⟨h40, hm⟩ := of_ite hm
          obtain ⟨h41, hm⟩ := of_ite hm
          refine W.seqR [] [(0, .str s3), (4, .bool (decide ((p0.size : Int) > 0) && ((bt p0 0) == 45))), (5, .int .u64 i28), (6, .int .i64 i29), (53, .bool (decide ((bt s3 i29) < 48) || decide ((bt s3 i29) > 57)))] [] (by rfl) ?_ ?_
          · try simp -implicitDefEqProofs -dsimp only [go_sem, ↓reduceIte, Nat.reduceAdd, Nat.reduceMul, Nat.reduceSub, Nat.reduceEqDiff, Nat.reduceLeDiff, Nat.reduceLT, Nat.reduceBEq, Int.reduceEq, reduceCtorEq, h1, h4, hb11, hb39, h40, h41]
            refine onG_splitN (fun hg42 => ?_) (fun hg42 => ?_)
            · try simp -implicitDefEqProofs -dsimp only [go_sem, ↓reduceIte, Nat.reduceAdd, Nat.reduceMul, Nat.reduceSub, Nat.reduceEqDiff, Nat.reduceLeDiff, Nat.reduceLT, Nat.reduceBEq, Int.reduceEq, reduceCtorEq, h1, h4, hb11, hb39, h40, h41, hg42]
            · try simp -implicitDefEqProofs -dsimp only [go_sem, ↓reduceIte, Nat.reduceAdd, Nat.reduceMul, Nat.reduceSub, Nat.reduceEqDiff, Nat.reduceLeDiff, Nat.reduceLT, Nat.reduceBEq, Int.reduceEq, reduceCtorEq, h1, h4, hb11, hb39, h40, h41, hg42]
          refine W.cond (decide ((bt s3 i29) < 48) || decide ((bt s3 i29) > 57)) (by simp only [ev_tmp, get_cons, ↓reduceIte, Nat.reduceEqDiff]) (fun hb43 => ?_) (fun hb43 => ?_)
          · have hm := of_true hb43 hm
            refine W.seqR [] [(2, .int .i64 0), (3, .bool false)] [] (by rfl) ?_ ?_
            · try simp -implicitDefEqProofs -dsimp only [go_sem, ↓reduceIte, Nat.reduceAdd, Nat.reduceMul, Nat.reduceSub, Nat.reduceEqDiff, Nat.reduceLeDiff, Nat.reduceLT, Nat.reduceBEq, Int.reduceEq, reduceCtorEq, h1, h4, hb11, hb39, h40, h41, hb43]
            obtain rfl := Option.some.inj hm
            obtain rfl := hx _ rfl
            refine W.weak [] (show AT 0 [] [(2, .int .i64 0), (3, .bool false)] [] _ _ from by simp -implicitDefEqProofs -dsimp only [go_sem, ↓reduceIte, Nat.reduceAdd, Nat.reduceMul, Nat.reduceSub, Nat.reduceEqDiff, Nat.reduceLeDiff, Nat.reduceLT, Nat.reduceBEq, Int.reduceEq, reduceCtorEq, h1, h4, hb11, hb39, h40, h41, hb43]) (W.ret (show _ ∧ _ from ⟨rfl, rfl, rfl⟩))
          · have hm := of_false hb43 hm
            refine W.skip ?_
            try simp only [thenQ_normal, thenQ_exit, thenQ_ret, blockQ_normal, blockQ_here, blockQ_ret, blockQ_exit, ↓reduceIte, Nat.reduceEqDiff]
            obtain ⟨h44, hm⟩ := of_ite hm
            obtain ⟨n45, h46, hm⟩ := of_bind hm
            replace h46 := Option.some.inj h46
            refine W.regL [] [(0, .str s3), (4, .bool (decide ((p0.size : Int) > 0) && ((bt p0 0) == 45))), (5, .int .u64 n45), (6, .int .i64 i29)] [] (by rfl) ?_ ?_
            · try simp -implicitDefEqProofs -dsimp only [go_sem, ↓reduceIte, Nat.reduceAdd, Nat.reduceMul, Nat.reduceSub, Nat.reduceEqDiff, Nat.reduceLeDiff, Nat.reduceLT, Nat.reduceBEq, Int.reduceEq, reduceCtorEq, h1, h4, hb11, hb39, h40, h41, hb43, h44, ← h46]
            try simp only [thenQ_normal, thenQ_exit, thenQ_ret, blockQ_normal, blockQ_here, blockQ_ret, blockQ_exit, ↓reduceIte, Nat.reduceEqDiff]
            refine W.regL [] [(0, .str s3), (4, .bool (decide ((p0.size : Int) > 0) && ((bt p0 0) == 45))), (5, .int .u64 n45), (6, .int .i64 (IntKind.wrap .i64 (i29 + 1)))] [] (by rfl) ?_ ?_
            · try simp -implicitDefEqProofs -dsimp only [go_sem, ↓reduceIte, Nat.reduceAdd, Nat.reduceMul, Nat.reduceSub, Nat.reduceEqDiff, Nat.reduceLeDiff, Nat.reduceLT, Nat.reduceBEq, Int.reduceEq, reduceCtorEq, h1, h4, hb11, hb39, h40, h41, hb43, h44]
            try simp only [thenQ_normal, thenQ_exit, thenQ_ret, blockQ_normal, blockQ_here, blockQ_ret, blockQ_exit, ↓reduceIte, Nat.reduceEqDiff]
            obtain rfl := Option.some.inj hm
            exact ⟨(n45, (IntKind.wrap .i64 (i29 + 1))), (), [], rfl, (show AT 0 [] [(0, .str s3), (4, .bool (decide ((p0.size : Int) > 0) && ((bt p0 0) == 45))), (5, .int .u64 n45), (6, .int .i64 (IntKind.wrap .i64 (i29 + 1)))] [] _ _ from by simp -implicitDefEqProofs -dsimp only [go_sem, ↓reduceIte, Nat.reduceAdd, Nat.reduceMul, Nat.reduceSub, Nat.reduceEqDiff, Nat.reduceLeDiff, Nat.reduceLT, Nat.reduceBEq, Int.reduceEq, reduceCtorEq, h1, h4, hb11, hb39, h40, h41, hb43, h44])⟩
        · have hm := of_false hb39 hm
          obtain rfl := Option.some.inj hm
          obtain rfl := hx _ rfl
          refine W.weak [] (show AT 0 [] [(4, .bool (decide ((p0.size : Int) > 0) && ((bt p0 0) == 45))), (5, .int .u64 i28)] [] _ _ from by simp -implicitDefEqProofs -dsimp only [go_sem, ↓reduceIte, Nat.reduceAdd, Nat.reduceMul, Nat.reduceSub, Nat.reduceEqDiff, Nat.reduceLeDiff, Nat.reduceLT, Nat.reduceBEq, Int.reduceEq, reduceCtorEq, h1, h4, hb11, hb39]) (W.exit (show _ ∧ _ from ⟨rfl, (), rfl, rfl⟩))
      · intro e0 s0 h0 hq
        rcases r38 with er38 | qr38
        · obtain ⟨rfl, _, rfl, rfl⟩ := hq
          have hm := of_inl hm
          try simp only [thenQ_normal, thenQ_exit, thenQ_ret, blockQ_normal, blockQ_here, blockQ_ret, blockQ_exit, ↓reduceIte, Nat.reduceEqDiff]
          show WK _ _ _ _ _ [(4, .bool (decide ((p0.size : Int) > 0) && ((bt p0 0) == 45))), (5, .int .u64 er38)] []
          try simp only [thenQ_normal, thenQ_exit, thenQ_ret, blockQ_normal, blockQ_here, blockQ_ret, blockQ_exit, ↓reduceIte, Nat.reduceEqDiff]
          refine W.seq ?_
          refine W.seqR [] [(5, .int .u64 er38), (62, .bool (decide ((p0.size : Int) > 0) && ((bt p0 0) == 45)))] [] (by rfl) ?_ ?_
          · try simp -implicitDefEqProofs -dsimp only [go_sem, ↓reduceIte, Nat.reduceAdd, Nat.reduceMul, Nat.reduceSub, Nat.reduceEqDiff, Nat.reduceLeDiff, Nat.reduceLT, Nat.reduceBEq, Int.reduceEq, reduceCtorEq, h1, h4, hb11]
          refine W.cond (decide ((p0.size : Int) > 0) && ((bt p0 0) == 45)) (by simp only [ev_tmp, get_cons, ↓reduceIte, Nat.reduceEqDiff]) (fun hb47 => ?_) (fun hb47 => ?_)
          · have hm := of_true hb47 hm
            refine W.seq ?_
            refine W.seqR [] [(5, .int .u64 er38), (64, .bool (decide (er38 > 9223372036854775808)))] [] (by rfl) ?_ ?_
            · try simp -implicitDefEqProofs -dsimp only [go_sem, ↓reduceIte, Nat.reduceAdd, Nat.reduceMul, Nat.reduceSub, Nat.reduceEqDiff, Nat.reduceLeDiff, Nat.reduceLT, Nat.reduceBEq, Int.reduceEq, reduceCtorEq, h1, h4, hb11, hb47]
            refine W.cond (decide (er38 > 9223372036854775808)) (by simp only [ev_tmp, get_cons, ↓reduceIte, Nat.reduceEqDiff]) (fun hb48 => ?_) (fun hb48 => ?_)
            · have hm := of_true hb48 hm
              refine W.seqR [] [(2, .int .i64 0), (3, .bool false)] [] (by rfl) ?_ ?_
              · try simp -implicitDefEqProofs -dsimp only [go_sem, ↓reduceIte, Nat.reduceAdd, Nat.reduceMul, Nat.reduceSub, Nat.reduceEqDiff, Nat.reduceLeDiff, Nat.reduceLT, Nat.reduceBEq, Int.reduceEq, reduceCtorEq, h1, h4, hb11, hb47, hb48]
              obtain rfl := Option.some.inj hm
              refine W.ret ?_
              try simp only [thenQ_normal, thenQ_exit, thenQ_ret, blockQ_normal, blockQ_here, blockQ_ret, blockQ_exit, ↓reduceIte, Nat.reduceEqDiff]
              refine EndsF.retW [] ?_
              simp -implicitDefEqProofs -dsimp only [go_sem, ↓reduceIte, Nat.reduceAdd, Nat.reduceMul, Nat.reduceSub, Nat.reduceEqDiff, Nat.reduceLeDiff, Nat.reduceLT, Nat.reduceBEq, Int.reduceEq, reduceCtorEq, h1, h4, hb11, hb47, hb48]
            · have hm := of_false hb48 hm
              refine W.skip ?_
              try simp only [thenQ_normal, thenQ_exit, thenQ_ret, blockQ_normal, blockQ_here, blockQ_ret, blockQ_exit, ↓reduceIte, Nat.reduceEqDiff]
              refine W.seqR [] [(2, .int .i64 (IntKind.wrap .i64 (IntKind.wrap .u64 (0 - er38)))), (3, .bool true)] [] (by rfl) ?_ ?_
              · try simp -implicitDefEqProofs -dsimp only [go_sem, ↓reduceIte, Nat.reduceAdd, Nat.reduceMul, Nat.reduceSub, Nat.reduceEqDiff, Nat.reduceLeDiff, Nat.reduceLT, Nat.reduceBEq, Int.reduceEq, reduceCtorEq, h1, h4, hb11, hb47, hb48]
              obtain rfl := Option.some.inj hm
              refine W.ret ?_
              try simp only [thenQ_normal, thenQ_exit, thenQ_ret, blockQ_normal, blockQ_here, blockQ_ret, blockQ_exit, ↓reduceIte, Nat.reduceEqDiff]
              refine EndsF.retW [] ?_
              simp -implicitDefEqProofs -dsimp only [go_sem, ↓reduceIte, Nat.reduceAdd, Nat.reduceMul, Nat.reduceSub, Nat.reduceEqDiff, Nat.reduceLeDiff, Nat.reduceLT, Nat.reduceBEq, Int.reduceEq, reduceCtorEq, h1, h4, hb11, hb47, hb48]
          · have hm := of_false hb47 hm
            refine W.skip ?_
            try simp only [thenQ_normal, thenQ_exit, thenQ_ret, blockQ_normal, blockQ_here, blockQ_ret, blockQ_exit, ↓reduceIte, Nat.reduceEqDiff]
            refine W.seq ?_
            refine W.seqR [] [(5, .int .u64 er38), (69, .bool (decide (er38 ≥ 9223372036854775808)))] [] (by rfl) ?_ ?_
            · try simp -implicitDefEqProofs -dsimp only [go_sem, ↓reduceIte, Nat.reduceAdd, Nat.reduceMul, Nat.reduceSub, Nat.reduceEqDiff, Nat.reduceLeDiff, Nat.reduceLT, Nat.reduceBEq, Int.reduceEq, reduceCtorEq, h1, h4, hb11, hb47]
            refine W.cond (decide (er38 ≥ 9223372036854775808)) (by simp only [ev_tmp, get_cons, ↓reduceIte, Nat.reduceEqDiff]) (fun hb49 => ?_) (fun hb49 => ?_)
            · have hm := of_true hb49 hm
              refine W.seqR [] [(2, .int .i64 0), (3, .bool false)] [] (by rfl) ?_ ?_
              · try simp -implicitDefEqProofs -dsimp only [go_sem, ↓reduceIte, Nat.reduceAdd, Nat.reduceMul, Nat.reduceSub, Nat.reduceEqDiff, Nat.reduceLeDiff, Nat.reduceLT, Nat.reduceBEq, Int.reduceEq, reduceCtorEq, h1, h4, hb11, hb47, hb49]
              obtain rfl := Option.some.inj hm
              refine W.ret ?_
              try simp only [thenQ_normal, thenQ_exit, thenQ_ret, blockQ_normal, blockQ_here, blockQ_ret, blockQ_exit, ↓reduceIte, Nat.reduceEqDiff]
              refine EndsF.retW [] ?_
              simp -implicitDefEqProofs -dsimp only [go_sem, ↓reduceIte, Nat.reduceAdd, Nat.reduceMul, Nat.reduceSub, Nat.reduceEqDiff, Nat.reduceLeDiff, Nat.reduceLT, Nat.reduceBEq, Int.reduceEq, reduceCtorEq, h1, h4, hb11, hb47, hb49]
            · have hm := of_false hb49 hm
              refine W.skip ?_
              try simp only [thenQ_normal, thenQ_exit, thenQ_ret, blockQ_normal, blockQ_here, blockQ_ret, blockQ_exit, ↓reduceIte, Nat.reduceEqDiff]
              refine W.seqR [] [(2, .int .i64 (IntKind.wrap .i64 er38)), (3, .bool true)] [] (by rfl) ?_ ?_
              · try simp -implicitDefEqProofs -dsimp only [go_sem, ↓reduceIte, Nat.reduceAdd, Nat.reduceMul, Nat.reduceSub, Nat.reduceEqDiff, Nat.reduceLeDiff, Nat.reduceLT, Nat.reduceBEq, Int.reduceEq, reduceCtorEq, h1, h4, hb11, hb47, hb49]
              obtain rfl := Option.some.inj hm
              refine W.ret ?_
              try simp only [thenQ_normal, thenQ_exit, thenQ_ret, blockQ_normal, blockQ_here, blockQ_ret, blockQ_exit, ↓reduceIte, Nat.reduceEqDiff]
              refine EndsF.retW [] ?_
              simp -implicitDefEqProofs -dsimp only [go_sem, ↓reduceIte, Nat.reduceAdd, Nat.reduceMul, Nat.reduceSub, Nat.reduceEqDiff, Nat.reduceLeDiff, Nat.reduceLT, Nat.reduceBEq, Int.reduceEq, reduceCtorEq, h1, h4, hb11, hb47, hb49]
        · obtain ⟨rfl, rfl, rfl⟩ := hq
          have hm := of_inr hm
          obtain rfl := Option.some.inj hm
          try simp only [thenQ_normal, thenQ_exit, thenQ_ret, blockQ_normal, blockQ_here, blockQ_ret, blockQ_exit, ↓reduceIte, Nat.reduceEqDiff]
          refine EndsF.retW [] ?_
          simp -implicitDefEqProofs -dsimp only [go_sem, ↓reduceIte, Nat.reduceAdd, Nat.reduceMul, Nat.reduceSub, Nat.reduceEqDiff, Nat.reduceLeDiff, Nat.reduceLT, Nat.reduceBEq, Int.reduceEq, reduceCtorEq, h1, h4, hb11]

end Go.Proofs.YtmilckfhlldboaaDoor
