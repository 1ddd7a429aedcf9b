import Derived.Test.YtlolkehjlkmcbaaDoorVFacts
import Derived.Test.YtlolkehjlkmcbaaDoorPalD
import Derived.Test.YtlolkehjlkmcbaaDoorWA
import Derived.Test.YtlolkehjlkmcbaaDoorWB
import Derived.Test.YtlolkehjlkmcbaaDoorWC
import Derived.Test.YtlolkehjlkmcbaaDoorWNum
import Derived.Test.YtlolkehjlkmcbaaDoorWNb
set_option maxRecDepth 100000
set_option maxHeartbeats 4000000
set_option linter.unusedSimpArgs false
set_option linter.unusedVariables false
set_option linter.unusedSectionVars false
namespace Go.Proofs.YtlolkehjlkmcbaaDoor
open Go.Vs
variable [TabP]
theorem palinglaw13_alive_ok {r : Bool} (hm : palinglaw13_alive  = some r) : PureF Tryd.prog 8 [] (.bool r) := by
  rw [palinglaw13_alive] at hm
  refine PureF.of Tryd.func8 rfl Tryd.ntmps8 (Nat.le_of_ble_eq_true rfl) ?_
  have e0 : argS 0 [] = [] := rfl
  rw [e0]
  refine W.sq [] [] [] ?_
  replace hm := of_let hm
  obtain ⟨l1, h2, hm⟩ := hm
  replace hm := of_let hm
  obtain ⟨l3, h4, hm⟩ := hm
  refine W.sq [] [(1, .ptr 0 0 0)] [.cells [.sl (l1.map (eInt .i64)), .nils, .sl (l3.map (eSl e_api_Entry)), .int .i64 0] 0 26] ?_
  clear h2 h4
  replace hm := of_bind hm
  obtain ⟨v5, h6, hm⟩ := hm
  replace hm := of_bind hm
  obtain ⟨v7, h8, hm⟩ := hm
  replace hm := of_bind hm
  obtain ⟨v9, h10, hm⟩ := hm
  replace hm := of_bind hm
  obtain ⟨v11, h12, hm⟩ := hm
  replace hm := of_bind hm
  obtain ⟨v13, h14, hm⟩ := hm
  replace hm := of_let hm
  obtain ⟨b15, h16, hm⟩ := hm
  refine W.sq [] [(0, .bool b15)] [] ?_ (hrun := ?_)
  rotate_left
  · try simp -implicitDefEqProofs -dsimp only [go_sem, ↓reduceIte, Nat.reduceAdd, Nat.reduceMul, Nat.reduceSub, Nat.reduceEqDiff, Nat.reduceLeDiff, Nat.reduceLT, Nat.reduceBEq, Int.reduceEq, reduceCtorEq, h16]
    with_reducible refine exP.mk (.pure ⟨[], true, [.agg [.sl (((T_api_State.mk l1 ([]) l3 0).Mem).map (eInt .i64)), .sl (((T_api_State.mk l1 ([]) l3 0).Thr).map e_api_Thr), .sl (((T_api_State.mk l1 ([]) l3 0).Bufs).map (eSl e_api_Entry)), .int .i64 ((T_api_State.mk l1 ([]) l3 0).Lock)]], .str v5⟩) (callQ.of (by simp -implicitDefEqProofs -dsimp only [go_sem, ↓reduceIte, Nat.reduceAdd, Nat.reduceMul, Nat.reduceSub, Nat.reduceEqDiff, Nat.reduceLeDiff, Nat.reduceLT, Nat.reduceBEq, Int.reduceEq, reduceCtorEq, h16]) (by simp -implicitDefEqProofs -dsimp only [go_sem, ↓reduceIte, Nat.reduceAdd, Nat.reduceMul, Nat.reduceSub, Nat.reduceEqDiff, Nat.reduceLeDiff, Nat.reduceLT, Nat.reduceBEq, Int.reduceEq, reduceCtorEq, h16]) (by simp -implicitDefEqProofs -dsimp only [go_sem, ↓reduceIte, Nat.reduceAdd, Nat.reduceMul, Nat.reduceSub, Nat.reduceEqDiff, Nat.reduceLeDiff, Nat.reduceLT, Nat.reduceBEq, Int.reduceEq, reduceCtorEq, h16]) (fun _ => by simp -implicitDefEqProofs -dsimp only [go_sem, ↓reduceIte, Nat.reduceAdd, Nat.reduceMul, Nat.reduceSub, Nat.reduceEqDiff, Nat.reduceLeDiff, Nat.reduceLT, Nat.reduceBEq, Int.reduceEq, reduceCtorEq, h16]) (state_Text_ok h6)) ?_
    try simp -implicitDefEqProofs -dsimp only [go_sem, ↓reduceIte, Nat.reduceAdd, Nat.reduceMul, Nat.reduceSub, Nat.reduceEqDiff, Nat.reduceLeDiff, Nat.reduceLT, Nat.reduceBEq, Int.reduceEq, reduceCtorEq, h16]
    refine onG_split (fun hg17 => ?_) (fun hg17 => ?_)
    · try simp -implicitDefEqProofs -dsimp only [go_sem, ↓reduceIte, Nat.reduceAdd, Nat.reduceMul, Nat.reduceSub, Nat.reduceEqDiff, Nat.reduceLeDiff, Nat.reduceLT, Nat.reduceBEq, Int.reduceEq, reduceCtorEq, hg17, h16]
      with_reducible refine exP.mk (.pure ⟨[], true, [.agg [.sl (((T_api_State.mk l1 ([]) l3 0).Mem).map (eInt .i64)), .sl (((T_api_State.mk l1 ([]) l3 0).Thr).map e_api_Thr), .sl (((T_api_State.mk l1 ([]) l3 0).Bufs).map (eSl e_api_Entry)), .int .i64 ((T_api_State.mk l1 ([]) l3 0).Lock)]], .bool v7⟩) (callQ.of (by simp -implicitDefEqProofs -dsimp only [go_sem, ↓reduceIte, Nat.reduceAdd, Nat.reduceMul, Nat.reduceSub, Nat.reduceEqDiff, Nat.reduceLeDiff, Nat.reduceLT, Nat.reduceBEq, Int.reduceEq, reduceCtorEq, hg17, h16]) (by simp -implicitDefEqProofs -dsimp only [go_sem, ↓reduceIte, Nat.reduceAdd, Nat.reduceMul, Nat.reduceSub, Nat.reduceEqDiff, Nat.reduceLeDiff, Nat.reduceLT, Nat.reduceBEq, Int.reduceEq, reduceCtorEq, hg17, h16]) (by simp -implicitDefEqProofs -dsimp only [go_sem, ↓reduceIte, Nat.reduceAdd, Nat.reduceMul, Nat.reduceSub, Nat.reduceEqDiff, Nat.reduceLeDiff, Nat.reduceLT, Nat.reduceBEq, Int.reduceEq, reduceCtorEq, hg17, h16]) (fun _ => by simp -implicitDefEqProofs -dsimp only [go_sem, ↓reduceIte, Nat.reduceAdd, Nat.reduceMul, Nat.reduceSub, Nat.reduceEqDiff, Nat.reduceLeDiff, Nat.reduceLT, Nat.reduceBEq, Int.reduceEq, reduceCtorEq, hg17, h16]) (state_Drained_ok (of_true (by simp -implicitDefEqProofs -dsimp only [go_sem, ↓reduceIte, Nat.reduceAdd, Nat.reduceMul, Nat.reduceSub, Nat.reduceEqDiff, Nat.reduceLeDiff, Nat.reduceLT, Nat.reduceBEq, Int.reduceEq, reduceCtorEq, hg17, h16]) h8))) ?_
      try simp -implicitDefEqProofs -dsimp only [go_sem, ↓reduceIte, Nat.reduceAdd, Nat.reduceMul, Nat.reduceSub, Nat.reduceEqDiff, Nat.reduceLeDiff, Nat.reduceLT, Nat.reduceBEq, Int.reduceEq, reduceCtorEq, hg17, h16]
      refine onG_splitN (fun hg18 => ?_) (fun hg18 => ?_)
      · try simp only [Bool.not_not] at hg18
        try simp -implicitDefEqProofs -dsimp only [go_sem, ↓reduceIte, Nat.reduceAdd, Nat.reduceMul, Nat.reduceSub, Nat.reduceEqDiff, Nat.reduceLeDiff, Nat.reduceLT, Nat.reduceBEq, Int.reduceEq, reduceCtorEq, hg17, hg18, h16]
        with_reducible refine exP.mk (.pure ⟨[], true, [.agg [.sl (((T_api_State.mk ([]) ([]) ([]) 0).Mem).map (eInt .i64)), .sl (((T_api_State.mk ([]) ([]) ([]) 0).Thr).map e_api_Thr), .sl (((T_api_State.mk ([]) ([]) ([]) 0).Bufs).map (eSl e_api_Entry)), .int .i64 ((T_api_State.mk ([]) ([]) ([]) 0).Lock)]], .bool v9⟩) (callQ.of (by simp -implicitDefEqProofs -dsimp only [go_sem, ↓reduceIte, Nat.reduceAdd, Nat.reduceMul, Nat.reduceSub, Nat.reduceEqDiff, Nat.reduceLeDiff, Nat.reduceLT, Nat.reduceBEq, Int.reduceEq, reduceCtorEq, hg17, hg18, h16]) (by simp -implicitDefEqProofs -dsimp only [go_sem, ↓reduceIte, Nat.reduceAdd, Nat.reduceMul, Nat.reduceSub, Nat.reduceEqDiff, Nat.reduceLeDiff, Nat.reduceLT, Nat.reduceBEq, Int.reduceEq, reduceCtorEq, hg17, hg18, h16]) (by simp -implicitDefEqProofs -dsimp only [go_sem, ↓reduceIte, Nat.reduceAdd, Nat.reduceMul, Nat.reduceSub, Nat.reduceEqDiff, Nat.reduceLeDiff, Nat.reduceLT, Nat.reduceBEq, Int.reduceEq, reduceCtorEq, hg17, hg18, h16]) (fun _ => by simp -implicitDefEqProofs -dsimp only [go_sem, ↓reduceIte, Nat.reduceAdd, Nat.reduceMul, Nat.reduceSub, Nat.reduceEqDiff, Nat.reduceLeDiff, Nat.reduceLT, Nat.reduceBEq, Int.reduceEq, reduceCtorEq, hg17, hg18, h16]) (state_Drained_ok (of_true (by simp -implicitDefEqProofs -dsimp only [go_sem, ↓reduceIte, Nat.reduceAdd, Nat.reduceMul, Nat.reduceSub, Nat.reduceEqDiff, Nat.reduceLeDiff, Nat.reduceLT, Nat.reduceBEq, Int.reduceEq, reduceCtorEq, hg17, hg18, h16]) h10))) ?_
        try simp -implicitDefEqProofs -dsimp only [go_sem, ↓reduceIte, Nat.reduceAdd, Nat.reduceMul, Nat.reduceSub, Nat.reduceEqDiff, Nat.reduceLeDiff, Nat.reduceLT, Nat.reduceBEq, Int.reduceEq, reduceCtorEq, hg17, hg18, h16]
        refine onG_split (fun hg19 => ?_) (fun hg19 => ?_)
        · try simp only [Bool.not_not] at hg19
          try simp -implicitDefEqProofs -dsimp only [go_sem, ↓reduceIte, Nat.reduceAdd, Nat.reduceMul, Nat.reduceSub, Nat.reduceEqDiff, Nat.reduceLeDiff, Nat.reduceLT, Nat.reduceBEq, Int.reduceEq, reduceCtorEq, hg17, hg18, hg19, h16]
          with_reducible refine exP.mk (.pure ⟨[], true, [.agg [.sl (((T_api_State.mk l1 ([]) l3 0).Mem).map (eInt .i64)), .sl (((T_api_State.mk l1 ([]) l3 0).Thr).map e_api_Thr), .sl (((T_api_State.mk l1 ([]) l3 0).Bufs).map (eSl e_api_Entry)), .int .i64 ((T_api_State.mk l1 ([]) l3 0).Lock)], .agg [.sl (((T_api_State.mk l1 ([]) l3 0).Mem).map (eInt .i64)), .sl (((T_api_State.mk l1 ([]) l3 0).Thr).map e_api_Thr), .sl (((T_api_State.mk l1 ([]) l3 0).Bufs).map (eSl e_api_Entry)), .int .i64 ((T_api_State.mk l1 ([]) l3 0).Lock)]], .bool v11⟩) (callQ.of (by simp -implicitDefEqProofs -dsimp only [go_sem, ↓reduceIte, Nat.reduceAdd, Nat.reduceMul, Nat.reduceSub, Nat.reduceEqDiff, Nat.reduceLeDiff, Nat.reduceLT, Nat.reduceBEq, Int.reduceEq, reduceCtorEq, hg17, hg18, hg19, h16]) (by simp -implicitDefEqProofs -dsimp only [go_sem, ↓reduceIte, Nat.reduceAdd, Nat.reduceMul, Nat.reduceSub, Nat.reduceEqDiff, Nat.reduceLeDiff, Nat.reduceLT, Nat.reduceBEq, Int.reduceEq, reduceCtorEq, hg17, hg18, hg19, h16]) (by simp -implicitDefEqProofs -dsimp only [go_sem, ↓reduceIte, Nat.reduceAdd, Nat.reduceMul, Nat.reduceSub, Nat.reduceEqDiff, Nat.reduceLeDiff, Nat.reduceLT, Nat.reduceBEq, Int.reduceEq, reduceCtorEq, hg17, hg18, hg19, h16]) (fun _ => by simp -implicitDefEqProofs -dsimp only [go_sem, ↓reduceIte, Nat.reduceAdd, Nat.reduceMul, Nat.reduceSub, Nat.reduceEqDiff, Nat.reduceLeDiff, Nat.reduceLT, Nat.reduceBEq, Int.reduceEq, reduceCtorEq, hg17, hg18, hg19, h16]) (state_Same_ok (of_true (by simp -implicitDefEqProofs -dsimp only [go_sem, ↓reduceIte, Nat.reduceAdd, Nat.reduceMul, Nat.reduceSub, Nat.reduceEqDiff, Nat.reduceLeDiff, Nat.reduceLT, Nat.reduceBEq, Int.reduceEq, reduceCtorEq, hg17, hg18, hg19, h16]) h12))) ?_
          try simp -implicitDefEqProofs -dsimp only [go_sem, ↓reduceIte, Nat.reduceAdd, Nat.reduceMul, Nat.reduceSub, Nat.reduceEqDiff, Nat.reduceLeDiff, Nat.reduceLT, Nat.reduceBEq, Int.reduceEq, reduceCtorEq, hg17, hg18, hg19, h16]
          refine onG_split (fun hg20 => ?_) (fun hg20 => ?_)
          · try simp only [Bool.not_not] at hg20
            try simp -implicitDefEqProofs -dsimp only [go_sem, ↓reduceIte, Nat.reduceAdd, Nat.reduceMul, Nat.reduceSub, Nat.reduceEqDiff, Nat.reduceLeDiff, Nat.reduceLT, Nat.reduceBEq, Int.reduceEq, reduceCtorEq, hg17, hg18, hg19, hg20, h16]
            with_reducible refine exP.mk (.pure ⟨[], true, [.agg [.sl (((T_api_State.mk l1 ([]) l3 0).Mem).map (eInt .i64)), .sl (((T_api_State.mk l1 ([]) l3 0).Thr).map e_api_Thr), .sl (((T_api_State.mk l1 ([]) l3 0).Bufs).map (eSl e_api_Entry)), .int .i64 ((T_api_State.mk l1 ([]) l3 0).Lock)], .agg [.sl (((T_api_State.mk ([]) ([]) ([]) 0).Mem).map (eInt .i64)), .sl (((T_api_State.mk ([]) ([]) ([]) 0).Thr).map e_api_Thr), .sl (((T_api_State.mk ([]) ([]) ([]) 0).Bufs).map (eSl e_api_Entry)), .int .i64 ((T_api_State.mk ([]) ([]) ([]) 0).Lock)]], .bool v13⟩) (callQ.of (by simp -implicitDefEqProofs -dsimp only [go_sem, ↓reduceIte, Nat.reduceAdd, Nat.reduceMul, Nat.reduceSub, Nat.reduceEqDiff, Nat.reduceLeDiff, Nat.reduceLT, Nat.reduceBEq, Int.reduceEq, reduceCtorEq, hg17, hg18, hg19, hg20, h16]) (by simp -implicitDefEqProofs -dsimp only [go_sem, ↓reduceIte, Nat.reduceAdd, Nat.reduceMul, Nat.reduceSub, Nat.reduceEqDiff, Nat.reduceLeDiff, Nat.reduceLT, Nat.reduceBEq, Int.reduceEq, reduceCtorEq, hg17, hg18, hg19, hg20, h16]) (by simp -implicitDefEqProofs -dsimp only [go_sem, ↓reduceIte, Nat.reduceAdd, Nat.reduceMul, Nat.reduceSub, Nat.reduceEqDiff, Nat.reduceLeDiff, Nat.reduceLT, Nat.reduceBEq, Int.reduceEq, reduceCtorEq, hg17, hg18, hg19, hg20, h16]) (fun _ => by simp -implicitDefEqProofs -dsimp only [go_sem, ↓reduceIte, Nat.reduceAdd, Nat.reduceMul, Nat.reduceSub, Nat.reduceEqDiff, Nat.reduceLeDiff, Nat.reduceLT, Nat.reduceBEq, Int.reduceEq, reduceCtorEq, hg17, hg18, hg19, hg20, h16]) (state_Same_ok (of_true (by simp -implicitDefEqProofs -dsimp only [go_sem, ↓reduceIte, Nat.reduceAdd, Nat.reduceMul, Nat.reduceSub, Nat.reduceEqDiff, Nat.reduceLeDiff, Nat.reduceLT, Nat.reduceBEq, Int.reduceEq, reduceCtorEq, hg17, hg18, hg19, hg20, h16]) h14))) ?_
            try simp -implicitDefEqProofs -dsimp only [go_sem, ↓reduceIte, Nat.reduceAdd, Nat.reduceMul, Nat.reduceSub, Nat.reduceEqDiff, Nat.reduceLeDiff, Nat.reduceLT, Nat.reduceBEq, Int.reduceEq, reduceCtorEq, hg17, hg18, hg19, hg20, h16]
          · try simp only [Bool.not_not] at hg20
            try simp -implicitDefEqProofs -dsimp only [go_sem, ↓reduceIte, Nat.reduceAdd, Nat.reduceMul, Nat.reduceSub, Nat.reduceEqDiff, Nat.reduceLeDiff, Nat.reduceLT, Nat.reduceBEq, Int.reduceEq, reduceCtorEq, hg17, hg18, hg19, hg20, h16]
        · try simp only [Bool.not_not] at hg19
          try simp -implicitDefEqProofs -dsimp only [go_sem, ↓reduceIte, Nat.reduceAdd, Nat.reduceMul, Nat.reduceSub, Nat.reduceEqDiff, Nat.reduceLeDiff, Nat.reduceLT, Nat.reduceBEq, Int.reduceEq, reduceCtorEq, hg17, hg18, hg19, h16]
      · try simp only [Bool.not_not] at hg18
        try simp -implicitDefEqProofs -dsimp only [go_sem, ↓reduceIte, Nat.reduceAdd, Nat.reduceMul, Nat.reduceSub, Nat.reduceEqDiff, Nat.reduceLeDiff, Nat.reduceLT, Nat.reduceBEq, Int.reduceEq, reduceCtorEq, hg17, hg18, h16]
    · try simp -implicitDefEqProofs -dsimp only [go_sem, ↓reduceIte, Nat.reduceAdd, Nat.reduceMul, Nat.reduceSub, Nat.reduceEqDiff, Nat.reduceLeDiff, Nat.reduceLT, Nat.reduceBEq, Int.reduceEq, reduceCtorEq, hg17, h16]
  clear h16
  obtain rfl := Option.some.inj hm
  exact W.ret (EndsF.retW [] RO)


end Go.Proofs.YtlolkehjlkmcbaaDoor
