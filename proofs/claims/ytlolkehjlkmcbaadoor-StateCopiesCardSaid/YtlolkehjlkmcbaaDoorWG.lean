import Derived.Test.YtlolkehjlkmcbaaDoorVFacts
import Derived.Test.YtlolkehjlkmcbaaDoorPalG
import Derived.Test.YtlolkehjlkmcbaaDoorWA
import Derived.Test.YtlolkehjlkmcbaaDoorWB
import Derived.Test.YtlolkehjlkmcbaaDoorWC
import Derived.Test.YtlolkehjlkmcbaaDoorWD
import Derived.Test.YtlolkehjlkmcbaaDoorWF
import Derived.Test.YtlolkehjlkmcbaaDoorWNum
import Derived.Test.YtlolkehjlkmcbaaDoorWNb
set_option maxRecDepth 100000
set_option maxHeartbeats 4000000
set_option linter.unusedSimpArgs false
set_option linter.unusedVariables false
set_option linter.unusedSectionVars false
namespace Go.Proofs.YtlolkehjlkmcbaaDoor
open Go.Vs
variable [TabP]
theorem palinglaw13_StateCopies_ok {p0 : T_api_State} {r : Bool} (hm : palinglaw13_StateCopies p0 = some r) : PureF Tryd.prog 6 [.agg [.sl (p0.Mem.map (eInt .i64)), .sl (p0.Thr.map e_api_Thr), .sl (p0.Bufs.map (eSl e_api_Entry)), .int .i64 p0.Lock]] (.bool r) := by
  rw [palinglaw13_StateCopies] at hm
  refine PureF.of Tryd.func6 rfl Tryd.ntmps6 (Nat.le_of_ble_eq_true rfl) ?_
  have e0 : argS 0 [.agg [.sl (p0.Mem.map (eInt .i64)), .sl (p0.Thr.map e_api_Thr), .sl (p0.Bufs.map (eSl e_api_Entry)), .int .i64 p0.Lock]] = [(0, .agg [.sl (p0.Mem.map (eInt .i64)), .sl (p0.Thr.map e_api_Thr), .sl (p0.Bufs.map (eSl e_api_Entry)), .int .i64 p0.Lock])] := rfl
  rw [e0]
  refine W.sq [] [(1, .ptr 0 0 0)] [.cells (e_api_State p0) 0 26] ?_
  refine W.seq ?_
  replace hm := of_bind hm
  obtain ⟨v1, h2, hm⟩ := hm
  have kh2 := palingbook_GreatState_ok h2
  refine W.sq [] [(1, .ptr 0 0 0), (10, .bool v1)] [.cells (e_api_State p0) 0 26] ?_
  refine W.cnd v1 (fun hb3 => ?_) (fun hb3 => ?_)
  · replace hm := of_true hb3 hm
    replace hm := of_bind hm
    obtain ⟨v4, h5, hm⟩ := hm
    have kh5 := palinglaw13_alive_ok h5
    try simp only [hb3] at kh5
    refine W.sq [] [(2, .bool v4)] [] ?_
    obtain rfl := Option.some.inj hm
    exact W.ret (EndsF.retW [] RO)
  · replace hm := of_false hb3 hm
    refine W.skip ?_
    replace hm := of_bind hm
    obtain ⟨v6, h7, hm⟩ := hm
    replace hm := of_bind hm
    obtain ⟨v8, h9, hm⟩ := hm
    refine W.weak ⟨[], [.res, .res, .res, .res, .res, .res, .res, .res, .res, .res, .res, .res, .res, .res, .res, .res, .res, .res]⟩ (show AT _ ⟨[], [.res, .res, .res, .res, .res, .res, .res, .res, .res, .res, .res, .res, .res, .res, .res, .res, .res, .res]⟩ [(1, .ptr 0 0 0), (10, .bool v1)] [.cells (e_api_State p0) 0 26, .hole, .hole, .hole, .hole, .hole, .hole, .hole, .hole, .hole, .hole, .hole, .hole, .hole, .hole, .hole, .hole, .hole, .hole] _ _ from RO) ?_
    refine W.sqLG [.light, .callh, .light, .callh, .here 17, .here 18, .store, .store] [([0], []), ([1, 2, 3, 4, 5, 6, 7, 8], [1, 2, 3, 4, 5, 6, 7, 8]), ([0], []), ([9, 10, 11, 12, 13, 14, 15, 16], [9, 10, 11, 12, 13, 14, 15, 16]), ([17], [17]), ([18], [18]), ([17], [17]), ([18], [18])] [] [.fol 17 0 0, .fol 17 0 1, .fol 17 0 2, .fol 18 0 0, .fol 18 0 1, .fol 18 0 2] [(1, .ptr 0 0 0), (3, .ptr 17 0 0), (4, .ptr 18 0 0)] [.cells (e_api_State p0) 0 26, .dead, .dead, .dead, .dead, .dead, .dead, .dead, .dead, .dead, .dead, .dead, .dead, .dead, .dead, .dead, .dead, .cells (o_api_State v6) 0 26, .cells (o_api_State v8) 0 26] v_mixed ?_ (hrun := ?_)
    rotate_left
    · try simp -implicitDefEqProofs -dsimp only [go_sem, ↓reduceIte, Nat.reduceAdd, Nat.reduceMul, Nat.reduceSub, Nat.reduceEqDiff, Nat.reduceLeDiff, Nat.reduceLT, Nat.reduceBEq, Int.reduceEq, reduceCtorEq, hb3]
      with_reducible refine exP.mk ⟨[], [1, 2, 3, 4, 5, 6, 7, 8], [.agg [.sl (p0.Mem.map (eInt .i64)), .sl (p0.Thr.map e_api_Thr), .sl (p0.Bufs.map (eSl e_api_Entry)), .int .i64 p0.Lock]], [.hole, .hole, .hole, .hole, .hole, .hole, .hole, .hole], .agg [.msl 5 1 0 1 v6.Mem.length v6.Mem.length, .msl 6 1 0 16 v6.Thr.length v6.Thr.length, .msl 7 1 0 1 v6.Bufs.length v6.Bufs.length, .int .i64 v6.Lock], [.dead, .dead, .dead, .dead, .dead, .rows (v6.Mem.map (eInt .i64)) 1 1 2, .rows (v6.Thr.map e_api_Thr) 16 1 39, .rows (v6.Bufs.map (oSl 2 42 e_api_Entry)) 1 1 40]⟩ (callL.of (by simp -implicitDefEqProofs -dsimp only [go_sem, ↓reduceIte, Nat.reduceAdd, Nat.reduceMul, Nat.reduceSub, Nat.reduceEqDiff, Nat.reduceLeDiff, Nat.reduceLT, Nat.reduceBEq, Int.reduceEq, reduceCtorEq, hb3]) (HF.holesOf (by simp -implicitDefEqProofs -dsimp only [go_sem, ↓reduceIte, Nat.reduceAdd, Nat.reduceMul, Nat.reduceSub, Nat.reduceEqDiff, Nat.reduceLeDiff, Nat.reduceLT, Nat.reduceBEq, Int.reduceEq, reduceCtorEq, hb3]) (palingref2_Copy_own h7))) ?_
      try simp -implicitDefEqProofs -dsimp only [go_sem, ↓reduceIte, Nat.reduceAdd, Nat.reduceMul, Nat.reduceSub, Nat.reduceEqDiff, Nat.reduceLeDiff, Nat.reduceLT, Nat.reduceBEq, Int.reduceEq, reduceCtorEq, hb3]
      with_reducible refine exP.mk ⟨[], [9, 10, 11, 12, 13, 14, 15, 16], [.agg [.sl (p0.Mem.map (eInt .i64)), .sl (p0.Thr.map e_api_Thr), .sl (p0.Bufs.map (eSl e_api_Entry)), .int .i64 p0.Lock]], [.hole, .hole, .hole, .hole, .hole, .hole, .hole, .hole], .agg [.msl 5 1 0 1 v8.Mem.length v8.Mem.length, .msl 6 1 0 16 v8.Thr.length v8.Thr.length, .msl 7 1 0 1 v8.Bufs.length v8.Bufs.length, .int .i64 v8.Lock], [.dead, .dead, .dead, .dead, .dead, .rows (v8.Mem.map (eInt .i64)) 1 1 2, .rows (v8.Thr.map e_api_Thr) 16 1 39, .rows (v8.Bufs.map (oSl 2 42 e_api_Entry)) 1 1 40]⟩ (callL.of (by simp -implicitDefEqProofs -dsimp only [go_sem, ↓reduceIte, Nat.reduceAdd, Nat.reduceMul, Nat.reduceSub, Nat.reduceEqDiff, Nat.reduceLeDiff, Nat.reduceLT, Nat.reduceBEq, Int.reduceEq, reduceCtorEq, hb3]) (HF.holesOf (by simp -implicitDefEqProofs -dsimp only [go_sem, ↓reduceIte, Nat.reduceAdd, Nat.reduceMul, Nat.reduceSub, Nat.reduceEqDiff, Nat.reduceLeDiff, Nat.reduceLT, Nat.reduceBEq, Int.reduceEq, reduceCtorEq, hb3]) (state_Copy_own h9))) ?_
      try simp -implicitDefEqProofs -dsimp only [go_sem, ↓reduceIte, Nat.reduceAdd, Nat.reduceMul, Nat.reduceSub, Nat.reduceEqDiff, Nat.reduceLeDiff, Nat.reduceLT, Nat.reduceBEq, Int.reduceEq, reduceCtorEq, hb3]
    refine W.seq ?_
    replace hm := of_bind hm
    obtain ⟨v10, h11, hm⟩ := hm
    refine W.weak ⟨[], [.foc 18 0 0, .foc 18 0 1, .foc 18 0 2]⟩ (show AT _ ⟨[], [.foc 18 0 0, .foc 18 0 1, .foc 18 0 2]⟩ [(1, .ptr 0 0 0), (3, .ptr 17 0 0), (4, .ptr 18 0 0)] [.cells (e_api_State p0) 0 26, .dead, .dead, .dead, .dead, .dead, .dead, .dead, .dead, .dead, .dead, .dead, .dead, .dead, .dead, .dead, .dead, .cells (o_api_State v6) 0 26, .cells [.msl 19 1 0 1 v8.Mem.length v8.Mem.length, .msl 20 1 0 16 v8.Thr.length v8.Thr.length, .msl 21 1 0 1 v8.Bufs.length v8.Bufs.length, .int .i64 v8.Lock] 0 26, .rows (v8.Mem.map (eInt .i64)) 1 1 2, .rows (v8.Thr.map e_api_Thr) 16 1 39, .rows (v8.Bufs.map (oSl 2 42 e_api_Entry)) 1 1 40] _ _ from RO) ?_
    refine W.sqG [] [.fol 18 0 0, .fol 18 0 1, .fol 18 0 2] [(1, .ptr 0 0 0), (3, .ptr 17 0 0), (4, .ptr 18 0 0), (19, .bool (!v10))] [.cells (e_api_State p0) 0 26, .dead, .dead, .dead, .dead, .dead, .dead, .dead, .dead, .dead, .dead, .dead, .dead, .dead, .dead, .dead, .dead, .cells (o_api_State v6) 0 26, .cells (o_api_State v8) 0 26] ?_ (hrun := ?_)
    rotate_left
    · try simp -implicitDefEqProofs -dsimp only [go_sem, ↓reduceIte, Nat.reduceAdd, Nat.reduceMul, Nat.reduceSub, Nat.reduceEqDiff, Nat.reduceLeDiff, Nat.reduceLT, Nat.reduceBEq, Int.reduceEq, reduceCtorEq, hb3]
      with_reducible refine exP.mk (.pure ⟨[19, 20, 21], true, [.agg [.sl (p0.Mem.map (eInt .i64)), .sl (p0.Thr.map e_api_Thr), .sl (p0.Bufs.map (eSl e_api_Entry)), .int .i64 p0.Lock], .agg [.sl (((T_api_State.mk v8.Mem v8.Thr v8.Bufs v8.Lock).Mem).map (eInt .i64)), .sl (((T_api_State.mk v8.Mem v8.Thr v8.Bufs v8.Lock).Thr).map e_api_Thr), .sl (((T_api_State.mk v8.Mem v8.Thr v8.Bufs v8.Lock).Bufs).map (eSl e_api_Entry)), .int .i64 ((T_api_State.mk v8.Mem v8.Thr v8.Bufs v8.Lock).Lock)]], .bool v10⟩) (callQ.of (by simp -implicitDefEqProofs -dsimp only [go_sem, ↓reduceIte, Nat.reduceAdd, Nat.reduceMul, Nat.reduceSub, Nat.reduceEqDiff, Nat.reduceLeDiff, Nat.reduceLT, Nat.reduceBEq, Int.reduceEq, reduceCtorEq, hb3]) (by simp -implicitDefEqProofs -dsimp only [go_sem, ↓reduceIte, Nat.reduceAdd, Nat.reduceMul, Nat.reduceSub, Nat.reduceEqDiff, Nat.reduceLeDiff, Nat.reduceLT, Nat.reduceBEq, Int.reduceEq, reduceCtorEq, hb3]) (by simp -implicitDefEqProofs -dsimp only [go_sem, ↓reduceIte, Nat.reduceAdd, Nat.reduceMul, Nat.reduceSub, Nat.reduceEqDiff, Nat.reduceLeDiff, Nat.reduceLT, Nat.reduceBEq, Int.reduceEq, reduceCtorEq, hb3]) (fun _ => by simp -implicitDefEqProofs -dsimp only [go_sem, ↓reduceIte, Nat.reduceAdd, Nat.reduceMul, Nat.reduceSub, Nat.reduceEqDiff, Nat.reduceLeDiff, Nat.reduceLT, Nat.reduceBEq, Int.reduceEq, reduceCtorEq, hb3]) (palingref2_Same_ok h11)) ?_
      try simp -implicitDefEqProofs -dsimp only [go_sem, ↓reduceIte, Nat.reduceAdd, Nat.reduceMul, Nat.reduceSub, Nat.reduceEqDiff, Nat.reduceLeDiff, Nat.reduceLT, Nat.reduceBEq, Int.reduceEq, reduceCtorEq, hb3]
    refine W.cnd (!v10) (fun hb12 => ?_) (fun hb12 => ?_)
    · replace hm := of_true hb12 hm
      refine W.sq [] [(2, .bool false)] [] ?_
      obtain rfl := Option.some.inj hm
      exact W.ret (EndsF.retW [] RO)
    · replace hm := of_false hb12 hm
      refine W.skip ?_
      refine W.seq ?_
      refine W.sq [] [(1, .ptr 0 0 0), (3, .ptr 17 0 0), (4, .ptr 18 0 0), (5, .int .i64 0)] [.cells (e_api_State p0) 0 26, .dead, .dead, .dead, .dead, .dead, .dead, .dead, .dead, .dead, .dead, .dead, .dead, .dead, .dead, .dead, .dead, .cells (o_api_State v6) 0 26, .cells (o_api_State v8) 0 26] ?_
      refine W.block ?_
      replace hm := of_bind hm
      obtain ⟨r30, hlr30, hm⟩ := hm
      refine W.mono (Q := fun e0 s0 h0 => e0 = .exit 0 ∧ ∃ w : Unit, s0 = [(1, .ptr 0 0 0), (3, .ptr 17 0 0), (4, .ptr 18 0 0)] ∧ h0 = [.cells (e_api_State p0) 0 26, .dead, .dead, .dead, .dead, .dead, .dead, .dead, .dead, .dead, .dead, .dead, .dead, .dead, .dead, .dead, .dead, .cells (o_api_State v6) 0 26, .cells [.boxsl (r30.map (eInt .i64)) 1 2, .boxsl (v8.Thr.map e_api_Thr) 16 39, .boxsl (v8.Bufs.map (oSl 2 42 e_api_Entry)) 1 40, .int .i64 v8.Lock] 0 26]) (W.loopM (step := palinglaw13_StateCopies_s1) (a0 := (0, v8.Mem)) (fun (a : Int × (List Int)) (v : Unit) => ([(1, .ptr 0 0 0), (3, .ptr 17 0 0), (4, .ptr 18 0 0), (5, .int .i64 a.1)], [.cells (e_api_State p0) 0 26, .dead, .dead, .dead, .dead, .dead, .dead, .dead, .dead, .dead, .dead, .dead, .dead, .dead, .dead, .dead, .dead, .cells (o_api_State v6) 0 26, .cells [.boxsl (a.2.map (eInt .i64)) 1 2, .boxsl (v8.Thr.map e_api_Thr) 16 39, .boxsl (v8.Bufs.map (oSl 2 42 e_api_Entry)) 1 40, .int .i64 v8.Lock] 0 26])) () hlr30 ⟨[], []⟩ RO ?_) ?_
      · rintro ⟨i23, l24⟩ _ x hm hx
        rw [palinglaw13_StateCopies_s1] at hm
        show WK _ _ _ _ _ [(1, .ptr 0 0 0), (3, .ptr 17 0 0), (4, .ptr 18 0 0), (5, .int .i64 i23)] [.cells (e_api_State p0) 0 26, .dead, .dead, .dead, .dead, .dead, .dead, .dead, .dead, .dead, .dead, .dead, .dead, .dead, .dead, .dead, .dead, .cells (o_api_State v6) 0 26, .cells [.boxsl (l24.map (eInt .i64)) 1 2, .boxsl (v8.Thr.map e_api_Thr) 16 39, .boxsl (v8.Bufs.map (oSl 2 42 e_api_Entry)) 1 40, .int .i64 v8.Lock] 0 26]
        refine W.seq ?_
        refine W.weak ⟨[], [.foc 18 0 0]⟩ (show AT _ ⟨[], [.foc 18 0 0]⟩ [(1, .ptr 0 0 0), (3, .ptr 17 0 0), (4, .ptr 18 0 0), (5, .int .i64 i23)] [.cells (e_api_State p0) 0 26, .dead, .dead, .dead, .dead, .dead, .dead, .dead, .dead, .dead, .dead, .dead, .dead, .dead, .dead, .dead, .dead, .cells (o_api_State v6) 0 26, .cells [.msl 19 1 0 1 l24.length l24.length, .boxsl (v8.Thr.map e_api_Thr) 16 39, .boxsl (v8.Bufs.map (oSl 2 42 e_api_Entry)) 1 40, .int .i64 v8.Lock] 0 26, .rows (l24.map (eInt .i64)) 1 1 2] _ _ from RO) ?_
        refine W.sqG [] [.fol 18 0 0] [(1, .ptr 0 0 0), (3, .ptr 17 0 0), (4, .ptr 18 0 0), (5, .int .i64 i23), (24, .bool (decide (i23 < (l24.length : Int))))] [.cells (e_api_State p0) 0 26, .dead, .dead, .dead, .dead, .dead, .dead, .dead, .dead, .dead, .dead, .dead, .dead, .dead, .dead, .dead, .dead, .cells (o_api_State v6) 0 26, .cells [.boxsl (l24.map (eInt .i64)) 1 2, .boxsl (v8.Thr.map e_api_Thr) 16 39, .boxsl (v8.Bufs.map (oSl 2 42 e_api_Entry)) 1 40, .int .i64 v8.Lock] 0 26] ?_
        refine W.cnd (decide (i23 < (l24.length : Int))) (fun hb31 => ?_) (fun hb31 => ?_)
        · replace hm := of_true hb31 hm
          refine W.skip ?_
          refine W.seq ?_
          refine W.block ?_
          replace hm := of_ite hm
          obtain ⟨h32, hm⟩ := hm
          replace hm := of_let hm
          obtain ⟨l33, h34, hm⟩ := hm
          refine W.weak ⟨[], [.foc 18 0 0]⟩ (show AT _ ⟨[], [.foc 18 0 0]⟩ [(1, .ptr 0 0 0), (3, .ptr 17 0 0), (4, .ptr 18 0 0), (5, .int .i64 i23), (24, .bool (decide (i23 < (l24.length : Int))))] [.cells (e_api_State p0) 0 26, .dead, .dead, .dead, .dead, .dead, .dead, .dead, .dead, .dead, .dead, .dead, .dead, .dead, .dead, .dead, .dead, .cells (o_api_State v6) 0 26, .cells [.msl 19 1 0 1 l24.length l24.length, .boxsl (v8.Thr.map e_api_Thr) 16 39, .boxsl (v8.Bufs.map (oSl 2 42 e_api_Entry)) 1 40, .int .i64 v8.Lock] 0 26, .rows (l24.map (eInt .i64)) 1 1 2] _ _ from RO) ?_
          refine W.rgG [] [.fol 18 0 0] [(1, .ptr 0 0 0), (3, .ptr 17 0 0), (4, .ptr 18 0 0), (5, .int .i64 i23)] [.cells (e_api_State p0) 0 26, .dead, .dead, .dead, .dead, .dead, .dead, .dead, .dead, .dead, .dead, .dead, .dead, .dead, .dead, .dead, .dead, .cells (o_api_State v6) 0 26, .cells [.boxsl (l33.map (eInt .i64)) 1 2, .boxsl (v8.Thr.map e_api_Thr) 16 39, .boxsl (v8.Bufs.map (oSl 2 42 e_api_Entry)) 1 40, .int .i64 v8.Lock] 0 26] ?_
          clear h34
          refine W.rg [] [(1, .ptr 0 0 0), (3, .ptr 17 0 0), (4, .ptr 18 0 0), (5, .int .i64 (IntKind.wrap .i64 (i23 + 1)))] [.cells (e_api_State p0) 0 26, .dead, .dead, .dead, .dead, .dead, .dead, .dead, .dead, .dead, .dead, .dead, .dead, .dead, .dead, .dead, .dead, .cells (o_api_State v6) 0 26, .cells [.boxsl (l33.map (eInt .i64)) 1 2, .boxsl (v8.Thr.map e_api_Thr) 16 39, .boxsl (v8.Bufs.map (oSl 2 42 e_api_Entry)) 1 40, .int .i64 v8.Lock] 0 26] ?_
          obtain rfl := Option.some.inj hm
          exact ⟨((IntKind.wrap .i64 (i23 + 1)), l33), (), ⟨[], []⟩, rfl, RO⟩
        · replace hm := of_false hb31 hm
          obtain rfl := Option.some.inj hm
          obtain rfl := hx _ rfl
          exact W.weak ⟨[], []⟩ (show AT _ ⟨[], []⟩ [(1, .ptr 0 0 0), (3, .ptr 17 0 0), (4, .ptr 18 0 0)] [.cells (e_api_State p0) 0 26, .dead, .dead, .dead, .dead, .dead, .dead, .dead, .dead, .dead, .dead, .dead, .dead, .dead, .dead, .dead, .dead, .cells (o_api_State v6) 0 26, .cells [.boxsl (l24.map (eInt .i64)) 1 2, .boxsl (v8.Thr.map e_api_Thr) 16 39, .boxsl (v8.Bufs.map (oSl 2 42 e_api_Entry)) 1 40, .int .i64 v8.Lock] 0 26] _ _ from RO) (W.exit (show _ ∧ _ from ⟨rfl, (), rfl, rfl⟩))
      · rintro e0 s0 h0 ⟨rfl, _, rfl, rfl⟩
        show WK _ _ _ _ _ [(1, .ptr 0 0 0), (3, .ptr 17 0 0), (4, .ptr 18 0 0)] [.cells (e_api_State p0) 0 26, .dead, .dead, .dead, .dead, .dead, .dead, .dead, .dead, .dead, .dead, .dead, .dead, .dead, .dead, .dead, .dead, .cells (o_api_State v6) 0 26, .cells [.boxsl (r30.map (eInt .i64)) 1 2, .boxsl (v8.Thr.map e_api_Thr) 16 39, .boxsl (v8.Bufs.map (oSl 2 42 e_api_Entry)) 1 40, .int .i64 v8.Lock] 0 26]
        refine W.seq ?_
        refine W.sq [] [(1, .ptr 0 0 0), (3, .ptr 17 0 0), (4, .ptr 18 0 0), (6, .int .i64 0)] [.cells (e_api_State p0) 0 26, .dead, .dead, .dead, .dead, .dead, .dead, .dead, .dead, .dead, .dead, .dead, .dead, .dead, .dead, .dead, .dead, .cells (o_api_State v6) 0 26, .cells [.boxsl (r30.map (eInt .i64)) 1 2, .boxsl (v8.Thr.map e_api_Thr) 16 39, .boxsl (v8.Bufs.map (oSl 2 42 e_api_Entry)) 1 40, .int .i64 v8.Lock] 0 26] ?_
        refine W.block ?_
        replace hm := of_bind hm
        obtain ⟨r52, hlr52, hm⟩ := hm
        refine W.mono (Q := fun e0 s0 h0 => e0 = .exit 2 ∧ ∃ w : Unit, s0 = [(1, .ptr 0 0 0), (3, .ptr 17 0 0), (4, .ptr 18 0 0)] ∧ h0 = [.cells (e_api_State p0) 0 26, .dead, .dead, .dead, .dead, .dead, .dead, .dead, .dead, .dead, .dead, .dead, .dead, .dead, .dead, .dead, .dead, .cells (o_api_State v6) 0 26, .cells [.boxsl (r30.map (eInt .i64)) 1 2, .boxsl (r52.map e_api_Thr) 16 39, .boxsl (v8.Bufs.map (oSl 2 42 e_api_Entry)) 1 40, .int .i64 v8.Lock] 0 26]) (W.loopM (step := palinglaw13_StateCopies_s2) (a0 := (0, v8.Thr)) (fun (a : Int × (List T_api_Thr)) (v : Unit) => ([(1, .ptr 0 0 0), (3, .ptr 17 0 0), (4, .ptr 18 0 0), (6, .int .i64 a.1)], [.cells (e_api_State p0) 0 26, .dead, .dead, .dead, .dead, .dead, .dead, .dead, .dead, .dead, .dead, .dead, .dead, .dead, .dead, .dead, .dead, .cells (o_api_State v6) 0 26, .cells [.boxsl (r30.map (eInt .i64)) 1 2, .boxsl (a.2.map e_api_Thr) 16 39, .boxsl (v8.Bufs.map (oSl 2 42 e_api_Entry)) 1 40, .int .i64 v8.Lock] 0 26])) () hlr52 ⟨[], []⟩ RO ?_) ?_
        · rintro ⟨i45, l46⟩ _ x hm hx
          rw [palinglaw13_StateCopies_s2] at hm
          show WK _ _ _ _ _ [(1, .ptr 0 0 0), (3, .ptr 17 0 0), (4, .ptr 18 0 0), (6, .int .i64 i45)] [.cells (e_api_State p0) 0 26, .dead, .dead, .dead, .dead, .dead, .dead, .dead, .dead, .dead, .dead, .dead, .dead, .dead, .dead, .dead, .dead, .cells (o_api_State v6) 0 26, .cells [.boxsl (r30.map (eInt .i64)) 1 2, .boxsl (l46.map e_api_Thr) 16 39, .boxsl (v8.Bufs.map (oSl 2 42 e_api_Entry)) 1 40, .int .i64 v8.Lock] 0 26]
          refine W.seq ?_
          refine W.weak ⟨[], [.foc 18 0 1]⟩ (show AT _ ⟨[], [.foc 18 0 1]⟩ [(1, .ptr 0 0 0), (3, .ptr 17 0 0), (4, .ptr 18 0 0), (6, .int .i64 i45)] [.cells (e_api_State p0) 0 26, .dead, .dead, .dead, .dead, .dead, .dead, .dead, .dead, .dead, .dead, .dead, .dead, .dead, .dead, .dead, .dead, .cells (o_api_State v6) 0 26, .cells [.boxsl (r30.map (eInt .i64)) 1 2, .msl 19 1 0 16 l46.length l46.length, .boxsl (v8.Bufs.map (oSl 2 42 e_api_Entry)) 1 40, .int .i64 v8.Lock] 0 26, .rows (l46.map e_api_Thr) 16 1 39] _ _ from RO) ?_
          refine W.sqG [] [.fol 18 0 1] [(1, .ptr 0 0 0), (3, .ptr 17 0 0), (4, .ptr 18 0 0), (6, .int .i64 i45), (35, .bool (decide (i45 < (l46.length : Int))))] [.cells (e_api_State p0) 0 26, .dead, .dead, .dead, .dead, .dead, .dead, .dead, .dead, .dead, .dead, .dead, .dead, .dead, .dead, .dead, .dead, .cells (o_api_State v6) 0 26, .cells [.boxsl (r30.map (eInt .i64)) 1 2, .boxsl (l46.map e_api_Thr) 16 39, .boxsl (v8.Bufs.map (oSl 2 42 e_api_Entry)) 1 40, .int .i64 v8.Lock] 0 26] ?_
          refine W.cnd (decide (i45 < (l46.length : Int))) (fun hb53 => ?_) (fun hb53 => ?_)
          · replace hm := of_true hb53 hm
            refine W.skip ?_
            refine W.seq ?_
            refine W.block ?_
            replace hm := of_ite hm
            obtain ⟨h54, hm⟩ := hm
            replace hm := of_let hm
            obtain ⟨l55, h56, hm⟩ := hm
            refine W.weak ⟨[], [.foc 18 0 1]⟩ (show AT _ ⟨[], [.foc 18 0 1]⟩ [(1, .ptr 0 0 0), (3, .ptr 17 0 0), (4, .ptr 18 0 0), (6, .int .i64 i45), (35, .bool (decide (i45 < (l46.length : Int))))] [.cells (e_api_State p0) 0 26, .dead, .dead, .dead, .dead, .dead, .dead, .dead, .dead, .dead, .dead, .dead, .dead, .dead, .dead, .dead, .dead, .cells (o_api_State v6) 0 26, .cells [.boxsl (r30.map (eInt .i64)) 1 2, .msl 19 1 0 16 l46.length l46.length, .boxsl (v8.Bufs.map (oSl 2 42 e_api_Entry)) 1 40, .int .i64 v8.Lock] 0 26, .rows (l46.map e_api_Thr) 16 1 39] _ _ from RO) ?_
            refine W.rgG [] [.fol 18 0 1] [(1, .ptr 0 0 0), (3, .ptr 17 0 0), (4, .ptr 18 0 0), (6, .int .i64 i45)] [.cells (e_api_State p0) 0 26, .dead, .dead, .dead, .dead, .dead, .dead, .dead, .dead, .dead, .dead, .dead, .dead, .dead, .dead, .dead, .dead, .cells (o_api_State v6) 0 26, .cells [.boxsl (r30.map (eInt .i64)) 1 2, .boxsl (l55.map e_api_Thr) 16 39, .boxsl (v8.Bufs.map (oSl 2 42 e_api_Entry)) 1 40, .int .i64 v8.Lock] 0 26] ?_
            clear h56
            refine W.rg [] [(1, .ptr 0 0 0), (3, .ptr 17 0 0), (4, .ptr 18 0 0), (6, .int .i64 (IntKind.wrap .i64 (i45 + 1)))] [.cells (e_api_State p0) 0 26, .dead, .dead, .dead, .dead, .dead, .dead, .dead, .dead, .dead, .dead, .dead, .dead, .dead, .dead, .dead, .dead, .cells (o_api_State v6) 0 26, .cells [.boxsl (r30.map (eInt .i64)) 1 2, .boxsl (l55.map e_api_Thr) 16 39, .boxsl (v8.Bufs.map (oSl 2 42 e_api_Entry)) 1 40, .int .i64 v8.Lock] 0 26] ?_
            obtain rfl := Option.some.inj hm
            exact ⟨((IntKind.wrap .i64 (i45 + 1)), l55), (), ⟨[], []⟩, rfl, RO⟩
          · replace hm := of_false hb53 hm
            obtain rfl := Option.some.inj hm
            obtain rfl := hx _ rfl
            exact W.weak ⟨[], []⟩ (show AT _ ⟨[], []⟩ [(1, .ptr 0 0 0), (3, .ptr 17 0 0), (4, .ptr 18 0 0)] [.cells (e_api_State p0) 0 26, .dead, .dead, .dead, .dead, .dead, .dead, .dead, .dead, .dead, .dead, .dead, .dead, .dead, .dead, .dead, .dead, .cells (o_api_State v6) 0 26, .cells [.boxsl (r30.map (eInt .i64)) 1 2, .boxsl (l46.map e_api_Thr) 16 39, .boxsl (v8.Bufs.map (oSl 2 42 e_api_Entry)) 1 40, .int .i64 v8.Lock] 0 26] _ _ from RO) (W.exit (show _ ∧ _ from ⟨rfl, (), rfl, rfl⟩))
        · rintro e0 s0 h0 ⟨rfl, _, rfl, rfl⟩
          show WK _ _ _ _ _ [(1, .ptr 0 0 0), (3, .ptr 17 0 0), (4, .ptr 18 0 0)] [.cells (e_api_State p0) 0 26, .dead, .dead, .dead, .dead, .dead, .dead, .dead, .dead, .dead, .dead, .dead, .dead, .dead, .dead, .dead, .dead, .cells (o_api_State v6) 0 26, .cells [.boxsl (r30.map (eInt .i64)) 1 2, .boxsl (r52.map e_api_Thr) 16 39, .boxsl (v8.Bufs.map (oSl 2 42 e_api_Entry)) 1 40, .int .i64 v8.Lock] 0 26]
          refine W.seq ?_
          refine W.sq [] [(1, .ptr 0 0 0), (3, .ptr 17 0 0), (4, .ptr 18 0 0), (7, .int .i64 0)] [.cells (e_api_State p0) 0 26, .dead, .dead, .dead, .dead, .dead, .dead, .dead, .dead, .dead, .dead, .dead, .dead, .dead, .dead, .dead, .dead, .cells (o_api_State v6) 0 26, .cells [.boxsl (r30.map (eInt .i64)) 1 2, .boxsl (r52.map e_api_Thr) 16 39, .boxsl (v8.Bufs.map (oSl 2 42 e_api_Entry)) 1 40, .int .i64 v8.Lock] 0 26] ?_
          refine W.block ?_
          replace hm := of_bind hm
          obtain ⟨r145, hlr145, hm⟩ := hm
          refine W.mono (Q := fun e0 s0 h0 => e0 = .exit 4 ∧ ∃ w : Unit, s0 = [(1, .ptr 0 0 0), (3, .ptr 17 0 0)] ∧ h0 = [.cells (e_api_State p0) 0 26, .dead, .dead, .dead, .dead, .dead, .dead, .dead, .dead, .dead, .dead, .dead, .dead, .dead, .dead, .dead, .dead, .cells (o_api_State v6) 0 26]) (W.loopM (step := palinglaw13_StateCopies_s3) (a0 := (0, v8.Bufs)) (fun (a : Int × (List (List T_api_Entry))) (v : Unit) => ([(1, .ptr 0 0 0), (3, .ptr 17 0 0), (4, .ptr 18 0 0), (7, .int .i64 a.1)], [.cells (e_api_State p0) 0 26, .dead, .dead, .dead, .dead, .dead, .dead, .dead, .dead, .dead, .dead, .dead, .dead, .dead, .dead, .dead, .dead, .cells (o_api_State v6) 0 26, .cells [.boxsl (r30.map (eInt .i64)) 1 2, .boxsl (r52.map e_api_Thr) 16 39, .boxsl (a.2.map (oSl 2 42 e_api_Entry)) 1 40, .int .i64 v8.Lock] 0 26])) () hlr145 ⟨[], []⟩ RO ?_) ?_
          · rintro ⟨i115, l116⟩ _ x hm hx
            rw [palinglaw13_StateCopies_s3] at hm
            show WK _ _ _ _ _ [(1, .ptr 0 0 0), (3, .ptr 17 0 0), (4, .ptr 18 0 0), (7, .int .i64 i115)] [.cells (e_api_State p0) 0 26, .dead, .dead, .dead, .dead, .dead, .dead, .dead, .dead, .dead, .dead, .dead, .dead, .dead, .dead, .dead, .dead, .cells (o_api_State v6) 0 26, .cells [.boxsl (r30.map (eInt .i64)) 1 2, .boxsl (r52.map e_api_Thr) 16 39, .boxsl (l116.map (oSl 2 42 e_api_Entry)) 1 40, .int .i64 v8.Lock] 0 26]
            refine W.seq ?_
            refine W.weak ⟨[], [.foc 18 0 2]⟩ (show AT _ ⟨[], [.foc 18 0 2]⟩ [(1, .ptr 0 0 0), (3, .ptr 17 0 0), (4, .ptr 18 0 0), (7, .int .i64 i115)] [.cells (e_api_State p0) 0 26, .dead, .dead, .dead, .dead, .dead, .dead, .dead, .dead, .dead, .dead, .dead, .dead, .dead, .dead, .dead, .dead, .cells (o_api_State v6) 0 26, .cells [.boxsl (r30.map (eInt .i64)) 1 2, .boxsl (r52.map e_api_Thr) 16 39, .msl 19 1 0 1 l116.length l116.length, .int .i64 v8.Lock] 0 26, .rows (l116.map (oSl 2 42 e_api_Entry)) 1 1 40] _ _ from RO) ?_
            refine W.sqG [] [.fol 18 0 2] [(1, .ptr 0 0 0), (3, .ptr 17 0 0), (4, .ptr 18 0 0), (7, .int .i64 i115), (47, .bool (decide (i115 < (l116.length : Int))))] [.cells (e_api_State p0) 0 26, .dead, .dead, .dead, .dead, .dead, .dead, .dead, .dead, .dead, .dead, .dead, .dead, .dead, .dead, .dead, .dead, .cells (o_api_State v6) 0 26, .cells [.boxsl (r30.map (eInt .i64)) 1 2, .boxsl (r52.map e_api_Thr) 16 39, .boxsl (l116.map (oSl 2 42 e_api_Entry)) 1 40, .int .i64 v8.Lock] 0 26] ?_
            refine W.cnd (decide (i115 < (l116.length : Int))) (fun hb146 => ?_) (fun hb146 => ?_)
            · replace hm := of_true hb146 hm
              refine W.skip ?_
              refine W.seq ?_
              refine W.block ?_
              refine W.sq [] [(1, .ptr 0 0 0), (3, .ptr 17 0 0), (4, .ptr 18 0 0), (7, .int .i64 i115), (8, .int .i64 0)] [.cells (e_api_State p0) 0 26, .dead, .dead, .dead, .dead, .dead, .dead, .dead, .dead, .dead, .dead, .dead, .dead, .dead, .dead, .dead, .dead, .cells (o_api_State v6) 0 26, .cells [.boxsl (r30.map (eInt .i64)) 1 2, .boxsl (r52.map e_api_Thr) 16 39, .boxsl (l116.map (oSl 2 42 e_api_Entry)) 1 40, .int .i64 v8.Lock] 0 26] ?_
              refine W.block ?_
              replace hm := of_bind hm
              obtain ⟨r173, hlr173, hm⟩ := hm
              refine W.mono (Q := fun e0 s0 h0 => e0 = .exit 6 ∧ ∃ w : Unit, s0 = [(1, .ptr 0 0 0), (3, .ptr 17 0 0), (4, .ptr 18 0 0), (7, .int .i64 i115)] ∧ h0 = [.cells (e_api_State p0) 0 26, .dead, .dead, .dead, .dead, .dead, .dead, .dead, .dead, .dead, .dead, .dead, .dead, .dead, .dead, .dead, .dead, .cells (o_api_State v6) 0 26, .cells [.boxsl (r30.map (eInt .i64)) 1 2, .boxsl (r52.map e_api_Thr) 16 39, .boxsl (r173.map (oSl 2 42 e_api_Entry)) 1 40, .int .i64 v8.Lock] 0 26]) (W.loopM (step := palinglaw13_StateCopies_s4 i115) (a0 := (0, l116)) (fun (a : Int × (List (List T_api_Entry))) (v : Unit) => ([(1, .ptr 0 0 0), (3, .ptr 17 0 0), (4, .ptr 18 0 0), (7, .int .i64 i115), (8, .int .i64 a.1)], [.cells (e_api_State p0) 0 26, .dead, .dead, .dead, .dead, .dead, .dead, .dead, .dead, .dead, .dead, .dead, .dead, .dead, .dead, .dead, .dead, .cells (o_api_State v6) 0 26, .cells [.boxsl (r30.map (eInt .i64)) 1 2, .boxsl (r52.map e_api_Thr) 16 39, .boxsl (a.2.map (oSl 2 42 e_api_Entry)) 1 40, .int .i64 v8.Lock] 0 26])) () hlr173 ⟨[], []⟩ RO ?_) ?_
              · rintro ⟨i163, l164⟩ _ x hm hx
                rw [palinglaw13_StateCopies_s4] at hm
                show WK _ _ _ _ _ [(1, .ptr 0 0 0), (3, .ptr 17 0 0), (4, .ptr 18 0 0), (7, .int .i64 i115), (8, .int .i64 i163)] [.cells (e_api_State p0) 0 26, .dead, .dead, .dead, .dead, .dead, .dead, .dead, .dead, .dead, .dead, .dead, .dead, .dead, .dead, .dead, .dead, .cells (o_api_State v6) 0 26, .cells [.boxsl (r30.map (eInt .i64)) 1 2, .boxsl (r52.map e_api_Thr) 16 39, .boxsl (l164.map (oSl 2 42 e_api_Entry)) 1 40, .int .i64 v8.Lock] 0 26]
                refine W.seq ?_
                replace hm := of_ite hm
                obtain ⟨h174, hm⟩ := hm
                refine W.weak ⟨[], [.foc 18 0 2, .foc 19 i115.toNat 0]⟩ (show AT _ ⟨[], [.foc 18 0 2, .foc 19 i115.toNat 0]⟩ [(1, .ptr 0 0 0), (3, .ptr 17 0 0), (4, .ptr 18 0 0), (7, .int .i64 i115), (8, .int .i64 i163)] [.cells (e_api_State p0) 0 26, .dead, .dead, .dead, .dead, .dead, .dead, .dead, .dead, .dead, .dead, .dead, .dead, .dead, .dead, .dead, .dead, .cells (o_api_State v6) 0 26, .cells [.boxsl (r30.map (eInt .i64)) 1 2, .boxsl (r52.map e_api_Thr) 16 39, .msl 19 1 0 1 l164.length l164.length, .int .i64 v8.Lock] 0 26, .rows ((l164.map (oSl 2 42 e_api_Entry)).set i115.toNat [.msl 20 1 0 2 ((rd l164 i115).length) ((rd l164 i115).length)]) 1 1 40, .rows ((rd l164 i115).map e_api_Entry) 2 1 42] _ _ from RO) ?_
                refine W.sqG [] [.fol 19 i115.toNat 0, .fol 18 0 2] [(1, .ptr 0 0 0), (3, .ptr 17 0 0), (4, .ptr 18 0 0), (7, .int .i64 i115), (8, .int .i64 i163), (57, .bool (decide (i163 < ((rd l164 i115).length : Int))))] [.cells (e_api_State p0) 0 26, .dead, .dead, .dead, .dead, .dead, .dead, .dead, .dead, .dead, .dead, .dead, .dead, .dead, .dead, .dead, .dead, .cells (o_api_State v6) 0 26, .cells [.boxsl (r30.map (eInt .i64)) 1 2, .boxsl (r52.map e_api_Thr) 16 39, .boxsl (l164.map (oSl 2 42 e_api_Entry)) 1 40, .int .i64 v8.Lock] 0 26] ?_
                refine W.cnd (decide (i163 < ((rd l164 i115).length : Int))) (fun hb175 => ?_) (fun hb175 => ?_)
                · replace hm := of_true hb175 hm
                  refine W.skip ?_
                  refine W.seq ?_
                  refine W.block ?_
                  replace hm := of_ite hm
                  obtain ⟨h176, hm⟩ := hm
                  replace hm := of_ite hm
                  obtain ⟨h177, hm⟩ := hm
                  replace hm := of_ite hm
                  obtain ⟨h178, hm⟩ := hm
                  replace hm := of_let hm
                  obtain ⟨l179, h180, hm⟩ := hm
                  refine W.weak ⟨[], [.foc 18 0 2, .foc 19 i115.toNat 0]⟩ (show AT _ ⟨[], [.foc 18 0 2, .foc 19 i115.toNat 0]⟩ [(1, .ptr 0 0 0), (3, .ptr 17 0 0), (4, .ptr 18 0 0), (7, .int .i64 i115), (8, .int .i64 i163), (57, .bool (decide (i163 < ((rd l164 i115).length : Int))))] [.cells (e_api_State p0) 0 26, .dead, .dead, .dead, .dead, .dead, .dead, .dead, .dead, .dead, .dead, .dead, .dead, .dead, .dead, .dead, .dead, .cells (o_api_State v6) 0 26, .cells [.boxsl (r30.map (eInt .i64)) 1 2, .boxsl (r52.map e_api_Thr) 16 39, .msl 19 1 0 1 l164.length l164.length, .int .i64 v8.Lock] 0 26, .rows ((l164.map (oSl 2 42 e_api_Entry)).set i115.toNat [.msl 20 1 0 2 ((rd l164 i115).length) ((rd l164 i115).length)]) 1 1 40, .rows ((rd l164 i115).map e_api_Entry) 2 1 42] _ _ from RO) ?_
                  refine W.rgG [] [.fol 19 i115.toNat 0, .fol 18 0 2] [(1, .ptr 0 0 0), (3, .ptr 17 0 0), (4, .ptr 18 0 0), (7, .int .i64 i115), (8, .int .i64 i163)] [.cells (e_api_State p0) 0 26, .dead, .dead, .dead, .dead, .dead, .dead, .dead, .dead, .dead, .dead, .dead, .dead, .dead, .dead, .dead, .dead, .cells (o_api_State v6) 0 26, .cells [.boxsl (r30.map (eInt .i64)) 1 2, .boxsl (r52.map e_api_Thr) 16 39, .boxsl (l179.map (oSl 2 42 e_api_Entry)) 1 40, .int .i64 v8.Lock] 0 26] ?_
                  clear h180
                  refine W.rg [] [(1, .ptr 0 0 0), (3, .ptr 17 0 0), (4, .ptr 18 0 0), (7, .int .i64 i115), (8, .int .i64 (IntKind.wrap .i64 (i163 + 1)))] [.cells (e_api_State p0) 0 26, .dead, .dead, .dead, .dead, .dead, .dead, .dead, .dead, .dead, .dead, .dead, .dead, .dead, .dead, .dead, .dead, .cells (o_api_State v6) 0 26, .cells [.boxsl (r30.map (eInt .i64)) 1 2, .boxsl (r52.map e_api_Thr) 16 39, .boxsl (l179.map (oSl 2 42 e_api_Entry)) 1 40, .int .i64 v8.Lock] 0 26] ?_
                  obtain rfl := Option.some.inj hm
                  exact ⟨((IntKind.wrap .i64 (i163 + 1)), l179), (), ⟨[], []⟩, rfl, RO⟩
                · replace hm := of_false hb175 hm
                  obtain rfl := Option.some.inj hm
                  obtain rfl := hx _ rfl
                  exact W.weak ⟨[], []⟩ (show AT _ ⟨[], []⟩ [(1, .ptr 0 0 0), (3, .ptr 17 0 0), (4, .ptr 18 0 0), (7, .int .i64 i115)] [.cells (e_api_State p0) 0 26, .dead, .dead, .dead, .dead, .dead, .dead, .dead, .dead, .dead, .dead, .dead, .dead, .dead, .dead, .dead, .dead, .cells (o_api_State v6) 0 26, .cells [.boxsl (r30.map (eInt .i64)) 1 2, .boxsl (r52.map e_api_Thr) 16 39, .boxsl (l164.map (oSl 2 42 e_api_Entry)) 1 40, .int .i64 v8.Lock] 0 26] _ _ from RO) (W.exit (show _ ∧ _ from ⟨rfl, (), rfl, rfl⟩))
              · rintro e0 s0 h0 ⟨rfl, _, rfl, rfl⟩
                show WK _ _ _ _ _ [(1, .ptr 0 0 0), (3, .ptr 17 0 0), (4, .ptr 18 0 0), (7, .int .i64 i115)] [.cells (e_api_State p0) 0 26, .dead, .dead, .dead, .dead, .dead, .dead, .dead, .dead, .dead, .dead, .dead, .dead, .dead, .dead, .dead, .dead, .cells (o_api_State v6) 0 26, .cells [.boxsl (r30.map (eInt .i64)) 1 2, .boxsl (r52.map e_api_Thr) 16 39, .boxsl (r173.map (oSl 2 42 e_api_Entry)) 1 40, .int .i64 v8.Lock] 0 26]
                refine W.rg [] [(1, .ptr 0 0 0), (3, .ptr 17 0 0), (4, .ptr 18 0 0), (7, .int .i64 (IntKind.wrap .i64 (i115 + 1)))] [.cells (e_api_State p0) 0 26, .dead, .dead, .dead, .dead, .dead, .dead, .dead, .dead, .dead, .dead, .dead, .dead, .dead, .dead, .dead, .dead, .cells (o_api_State v6) 0 26, .cells [.boxsl (r30.map (eInt .i64)) 1 2, .boxsl (r52.map e_api_Thr) 16 39, .boxsl (r173.map (oSl 2 42 e_api_Entry)) 1 40, .int .i64 v8.Lock] 0 26] ?_
                obtain rfl := Option.some.inj hm
                exact ⟨((IntKind.wrap .i64 (i115 + 1)), r173), (), ⟨[], []⟩, rfl, RO⟩
            · replace hm := of_false hb146 hm
              obtain rfl := Option.some.inj hm
              obtain rfl := hx _ rfl
              exact W.weak ⟨[], []⟩ (show AT _ ⟨[], []⟩ [(1, .ptr 0 0 0), (3, .ptr 17 0 0)] [.cells (e_api_State p0) 0 26, .dead, .dead, .dead, .dead, .dead, .dead, .dead, .dead, .dead, .dead, .dead, .dead, .dead, .dead, .dead, .dead, .cells (o_api_State v6) 0 26] _ _ from RO) (W.exit (show _ ∧ _ from ⟨rfl, (), rfl, rfl⟩))
          · rintro e0 s0 h0 ⟨rfl, _, rfl, rfl⟩
            show WK _ _ _ _ _ [(1, .ptr 0 0 0), (3, .ptr 17 0 0)] [.cells (e_api_State p0) 0 26, .dead, .dead, .dead, .dead, .dead, .dead, .dead, .dead, .dead, .dead, .dead, .dead, .dead, .dead, .dead, .dead, .cells (o_api_State v6) 0 26]
            replace hm := of_bind hm
            obtain ⟨v181, h182, hm⟩ := hm
            replace hm := of_bind hm
            obtain ⟨v183, h184, hm⟩ := hm
            refine W.weak ⟨[], [.foc 17 0 0, .foc 17 0 1, .foc 17 0 2]⟩ (show AT _ ⟨[], [.foc 17 0 0, .foc 17 0 1, .foc 17 0 2]⟩ [(1, .ptr 0 0 0), (3, .ptr 17 0 0)] [.cells (e_api_State p0) 0 26, .dead, .dead, .dead, .dead, .dead, .dead, .dead, .dead, .dead, .dead, .dead, .dead, .dead, .dead, .dead, .dead, .cells [.msl 18 1 0 1 v6.Mem.length v6.Mem.length, .msl 19 1 0 16 v6.Thr.length v6.Thr.length, .msl 20 1 0 1 v6.Bufs.length v6.Bufs.length, .int .i64 v6.Lock] 0 26, .rows (v6.Mem.map (eInt .i64)) 1 1 2, .rows (v6.Thr.map e_api_Thr) 16 1 39, .rows (v6.Bufs.map (oSl 2 42 e_api_Entry)) 1 1 40] _ _ from RO) ?_
            refine W.sq [] [(2, .bool (v181 && v183))] [] ?_ (hrun := ?_)
            rotate_left
            · try simp -implicitDefEqProofs -dsimp only [go_sem, ↓reduceIte, Nat.reduceAdd, Nat.reduceMul, Nat.reduceSub, Nat.reduceEqDiff, Nat.reduceLeDiff, Nat.reduceLT, Nat.reduceBEq, Int.reduceEq, reduceCtorEq, hb3, hb12]
              with_reducible refine exP.mk (.pure ⟨[18, 19, 20], true, [.agg [.sl (p0.Mem.map (eInt .i64)), .sl (p0.Thr.map e_api_Thr), .sl (p0.Bufs.map (eSl e_api_Entry)), .int .i64 p0.Lock], .agg [.sl (((T_api_State.mk v6.Mem v6.Thr v6.Bufs v6.Lock).Mem).map (eInt .i64)), .sl (((T_api_State.mk v6.Mem v6.Thr v6.Bufs v6.Lock).Thr).map e_api_Thr), .sl (((T_api_State.mk v6.Mem v6.Thr v6.Bufs v6.Lock).Bufs).map (eSl e_api_Entry)), .int .i64 ((T_api_State.mk v6.Mem v6.Thr v6.Bufs v6.Lock).Lock)]], .bool v181⟩) (callQ.of (by simp -implicitDefEqProofs -dsimp only [go_sem, ↓reduceIte, Nat.reduceAdd, Nat.reduceMul, Nat.reduceSub, Nat.reduceEqDiff, Nat.reduceLeDiff, Nat.reduceLT, Nat.reduceBEq, Int.reduceEq, reduceCtorEq, hb3, hb12]) (by simp -implicitDefEqProofs -dsimp only [go_sem, ↓reduceIte, Nat.reduceAdd, Nat.reduceMul, Nat.reduceSub, Nat.reduceEqDiff, Nat.reduceLeDiff, Nat.reduceLT, Nat.reduceBEq, Int.reduceEq, reduceCtorEq, hb3, hb12]) (by simp -implicitDefEqProofs -dsimp only [go_sem, ↓reduceIte, Nat.reduceAdd, Nat.reduceMul, Nat.reduceSub, Nat.reduceEqDiff, Nat.reduceLeDiff, Nat.reduceLT, Nat.reduceBEq, Int.reduceEq, reduceCtorEq, hb3, hb12]) (fun _ => by simp -implicitDefEqProofs -dsimp only [go_sem, ↓reduceIte, Nat.reduceAdd, Nat.reduceMul, Nat.reduceSub, Nat.reduceEqDiff, Nat.reduceLeDiff, Nat.reduceLT, Nat.reduceBEq, Int.reduceEq, reduceCtorEq, hb3, hb12]) (palingref2_Same_ok h182)) ?_
              try simp -implicitDefEqProofs -dsimp only [go_sem, ↓reduceIte, Nat.reduceAdd, Nat.reduceMul, Nat.reduceSub, Nat.reduceEqDiff, Nat.reduceLeDiff, Nat.reduceLT, Nat.reduceBEq, Int.reduceEq, reduceCtorEq, hb3, hb12]
              refine onG_split (fun hg185 => ?_) (fun hg185 => ?_)
              · try simp -implicitDefEqProofs -dsimp only [go_sem, ↓reduceIte, Nat.reduceAdd, Nat.reduceMul, Nat.reduceSub, Nat.reduceEqDiff, Nat.reduceLeDiff, Nat.reduceLT, Nat.reduceBEq, Int.reduceEq, reduceCtorEq, hb3, hb12, hg185]
                with_reducible refine exP.mk _ (callQ.plain (by simp -implicitDefEqProofs -dsimp only [go_sem, ↓reduceIte, Nat.reduceAdd, Nat.reduceMul, Nat.reduceSub, Nat.reduceEqDiff, Nat.reduceLeDiff, Nat.reduceLT, Nat.reduceBEq, Int.reduceEq, reduceCtorEq, hb3, hb12, hg185]) (by have hk := palinglaw13_alive_ok (of_true (by simp -implicitDefEqProofs -dsimp only [go_sem, ↓reduceIte, Nat.reduceAdd, Nat.reduceMul, Nat.reduceSub, Nat.reduceEqDiff, Nat.reduceLeDiff, Nat.reduceLT, Nat.reduceBEq, Int.reduceEq, reduceCtorEq, hb3, hb12, hg185]) h184); (try simp only [hb3, hb12] at hk); (try simp only [List.map_cons, List.map_nil, eStr, eInt] at hk); exact hk)) ?_
                try simp -implicitDefEqProofs -dsimp only [go_sem, ↓reduceIte, Nat.reduceAdd, Nat.reduceMul, Nat.reduceSub, Nat.reduceEqDiff, Nat.reduceLeDiff, Nat.reduceLT, Nat.reduceBEq, Int.reduceEq, reduceCtorEq, hb3, hb12, hg185]
              · try simp -implicitDefEqProofs -dsimp only [go_sem, ↓reduceIte, Nat.reduceAdd, Nat.reduceMul, Nat.reduceSub, Nat.reduceEqDiff, Nat.reduceLeDiff, Nat.reduceLT, Nat.reduceBEq, Int.reduceEq, reduceCtorEq, hb3, hb12, hg185]
            obtain rfl := Option.some.inj hm
            exact W.ret (EndsF.retW [] RO)


end Go.Proofs.YtlolkehjlkmcbaaDoor
