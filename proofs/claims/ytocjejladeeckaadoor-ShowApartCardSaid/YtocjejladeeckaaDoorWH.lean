import Derived.Test.YtocjejladeeckaaDoorVFacts
import Derived.Test.YtocjejladeeckaaDoorPalH
import Derived.Test.YtocjejladeeckaaDoorWE
import Derived.Test.YtocjejladeeckaaDoorWG
import Derived.Test.YtocjejladeeckaaDoorWK
set_option maxRecDepth 100000
set_option maxHeartbeats 4000000
set_option linter.unusedSimpArgs false
set_option linter.unusedVariables false
set_option linter.unusedSectionVars false
namespace Go.Proofs.YtocjejladeeckaaDoor
open Go.Vs
variable [TabU]
theorem palinglaw9_ShowApart_ok {p0 : (List (List T_palingbook_Act))} {p1 : Int} {p2 : Int} {p3 : T_palingbook_Act} {r : Bool} (hm : palinglaw9_ShowApart p0 p1 p2 p3 = some r) : PureF Tryd.prog 12 [.sl (p0.map (eSl e_palingbook_Act)), .int .i64 p1, .int .i64 p2, .agg [.int .i64 p3.Kind, .int .i64 p3.A, .int .i64 p3.B, .int .i64 p3.C, .int .i64 p3.N]] (.bool r) := by
  rw [palinglaw9_ShowApart] at hm
  refine PureF.of Tryd.func12 rfl Tryd.ntmps12 (Nat.le_of_ble_eq_true rfl) ?_
  have e0 : argS 0 [.sl (p0.map (eSl e_palingbook_Act)), .int .i64 p1, .int .i64 p2, .agg [.int .i64 p3.Kind, .int .i64 p3.A, .int .i64 p3.B, .int .i64 p3.C, .int .i64 p3.N]] = [(0, .sl (p0.map (eSl e_palingbook_Act))), (1, .int .i64 p1), (2, .int .i64 p2), (3, .agg [.int .i64 p3.Kind, .int .i64 p3.A, .int .i64 p3.B, .int .i64 p3.C, .int .i64 p3.N])] := rfl
  rw [e0]
  refine W.sq [] [(0, .sl (p0.map (eSl e_palingbook_Act))), (1, .int .i64 p1), (2, .int .i64 p2), (7, .ptr 0 0 0)] [.cells (e_palingbook_Act p3) 0 57] ?_
  replace hm := of_bind hm
  obtain ⟨v1, h2, hm⟩ := hm
  replace hm := of_bind hm
  obtain ⟨v3, h4, hm⟩ := hm
  refine W.sqG [] [.fol 7 0 1, .fol 8 0 1] [(1, .int .i64 p1), (2, .int .i64 p2), (7, .ptr 0 0 0), (9, .ptr 7 0 0), (10, .ptr 8 0 0)] [.cells (e_palingbook_Act p3) 0 57, .dead, .dead, .dead, .dead, .dead, .dead, .cells [.sl (v1.Syms.map e_api_Sym), .boxsl (v1.Threads.map o_api_Thread) 1 65] 0 38, .cells [.sl (v3.Syms.map e_api_Sym), .boxsl (v3.Threads.map o_api_Thread) 1 65] 0 38] ?_ (hrun := ?_)
  rotate_left
  · try simp -implicitDefEqProofs -dsimp only [go_sem, ↓reduceIte, Nat.reduceAdd, Nat.reduceMul, Nat.reduceSub, Nat.reduceEqDiff, Nat.reduceLeDiff, Nat.reduceLT, Nat.reduceBEq, Int.reduceEq, reduceCtorEq]
    with_reducible refine exP.mk (.gheap [] ⟨[], [], [.sl (p0.map (eSl e_palingbook_Act)), .int .i64 2, .int .i64 5], [], .agg [.sl (v1.Syms.map e_api_Sym), .msl 2 1 0 1 v1.Threads.length v1.Threads.length], [.dead, .dead, .rows (v1.Threads.map o_api_Thread) 1 1 65]⟩ []) (callQ.ofG (by simp -implicitDefEqProofs -dsimp only [go_sem, ↓reduceIte, Nat.reduceAdd, Nat.reduceMul, Nat.reduceSub, Nat.reduceEqDiff, Nat.reduceLeDiff, Nat.reduceLT, Nat.reduceBEq, Int.reduceEq, reduceCtorEq]) (palingbook_Prog_own h2)) ?_
    try simp -implicitDefEqProofs -dsimp only [go_sem, ↓reduceIte, Nat.reduceAdd, Nat.reduceMul, Nat.reduceSub, Nat.reduceEqDiff, Nat.reduceLeDiff, Nat.reduceLT, Nat.reduceBEq, Int.reduceEq, reduceCtorEq]
    with_reducible refine exP.mk (.gheap [] ⟨[], [], [.sl (p0.map (eSl e_palingbook_Act)), .int .i64 2, .int .i64 5], [], .agg [.sl (v3.Syms.map e_api_Sym), .msl 2 1 0 1 v3.Threads.length v3.Threads.length], [.dead, .dead, .rows (v3.Threads.map o_api_Thread) 1 1 65]⟩ []) (callQ.ofG (by simp -implicitDefEqProofs -dsimp only [go_sem, ↓reduceIte, Nat.reduceAdd, Nat.reduceMul, Nat.reduceSub, Nat.reduceEqDiff, Nat.reduceLeDiff, Nat.reduceLT, Nat.reduceBEq, Int.reduceEq, reduceCtorEq]) (palingbook_Prog_own h4)) ?_
    try simp -implicitDefEqProofs -dsimp only [go_sem, ↓reduceIte, Nat.reduceAdd, Nat.reduceMul, Nat.reduceSub, Nat.reduceEqDiff, Nat.reduceLeDiff, Nat.reduceLT, Nat.reduceBEq, Int.reduceEq, reduceCtorEq]
  refine W.seq ?_
  refine W.weak ⟨[], [.foc 8 0 1]⟩ (show AT _ ⟨[], [.foc 8 0 1]⟩ [(1, .int .i64 p1), (2, .int .i64 p2), (7, .ptr 0 0 0), (9, .ptr 7 0 0), (10, .ptr 8 0 0)] [.cells (e_palingbook_Act p3) 0 57, .dead, .dead, .dead, .dead, .dead, .dead, .cells [.sl (v1.Syms.map e_api_Sym), .boxsl (v1.Threads.map o_api_Thread) 1 65] 0 38, .cells [.sl (v3.Syms.map e_api_Sym), .msl 9 1 0 1 v3.Threads.length v3.Threads.length] 0 38, .rows (v3.Threads.map o_api_Thread) 1 1 65] _ _ from RO) ?_
  refine W.sqG [] [.fol 8 0 1] [(1, .int .i64 p1), (2, .int .i64 p2), (7, .ptr 0 0 0), (9, .ptr 7 0 0), (10, .ptr 8 0 0), (21, .bool ((v3.Threads.length : Int) == 0))] [.cells (e_palingbook_Act p3) 0 57, .dead, .dead, .dead, .dead, .dead, .dead, .cells [.sl (v1.Syms.map e_api_Sym), .boxsl (v1.Threads.map o_api_Thread) 1 65] 0 38, .cells [.sl (v3.Syms.map e_api_Sym), .boxsl (v3.Threads.map o_api_Thread) 1 65] 0 38] ?_
  refine W.cnd ((v3.Threads.length : Int) == 0) (fun hb5 => ?_) (fun hb5 => ?_)
  · replace hm := of_true hb5 hm
    replace hm := of_bind hm
    obtain ⟨v6, h7, hm⟩ := hm
    replace hm := of_bind hm
    obtain ⟨v8, h9, hm⟩ := hm
    replace hm := of_bind hm
    obtain ⟨v10, h11, hm⟩ := hm
    refine W.weak ⟨[], [.foc 7 0 1, .foc 8 0 1]⟩ (show AT _ ⟨[], [.foc 7 0 1, .foc 8 0 1]⟩ [(1, .int .i64 p1), (2, .int .i64 p2), (7, .ptr 0 0 0), (9, .ptr 7 0 0), (10, .ptr 8 0 0), (21, .bool ((v3.Threads.length : Int) == 0))] [.cells (e_palingbook_Act p3) 0 57, .dead, .dead, .dead, .dead, .dead, .dead, .cells [.sl (v1.Syms.map e_api_Sym), .msl 9 1 0 1 v1.Threads.length v1.Threads.length] 0 38, .cells [.sl (v3.Syms.map e_api_Sym), .msl 10 1 0 1 v3.Threads.length v3.Threads.length] 0 38, .rows (v1.Threads.map o_api_Thread) 1 1 65, .rows (v3.Threads.map o_api_Thread) 1 1 65] _ _ from RO) ?_
    refine W.sqJ [] [] [] 0 [] [(8, .bool (decide (v6 = v8) && v10))] [] v_mixed ?_ (hrun := ?_)
    rotate_left
    · try simp -implicitDefEqProofs -dsimp only [go_sem, ↓reduceIte, Nat.reduceAdd, Nat.reduceMul, Nat.reduceSub, Nat.reduceEqDiff, Nat.reduceLeDiff, Nat.reduceLT, Nat.reduceBEq, Int.reduceEq, reduceCtorEq, hb5]
      with_reducible refine exP.mk (.pure ⟨[9], true, [.agg [.sl (((T_api_Prog.mk v1.Syms v1.Threads).Syms).map e_api_Sym), .sl (((T_api_Prog.mk v1.Syms v1.Threads).Threads).map e_api_Thread)]], .str v6⟩) (callQ.of (by simp -implicitDefEqProofs -dsimp only [go_sem, ↓reduceIte, Nat.reduceAdd, Nat.reduceMul, Nat.reduceSub, Nat.reduceEqDiff, Nat.reduceLeDiff, Nat.reduceLT, Nat.reduceBEq, Int.reduceEq, reduceCtorEq, hb5]) (by simp -implicitDefEqProofs -dsimp only [go_sem, ↓reduceIte, Nat.reduceAdd, Nat.reduceMul, Nat.reduceSub, Nat.reduceEqDiff, Nat.reduceLeDiff, Nat.reduceLT, Nat.reduceBEq, Int.reduceEq, reduceCtorEq, hb5]) (by simp -implicitDefEqProofs -dsimp only [go_sem, ↓reduceIte, Nat.reduceAdd, Nat.reduceMul, Nat.reduceSub, Nat.reduceEqDiff, Nat.reduceLeDiff, Nat.reduceLT, Nat.reduceBEq, Int.reduceEq, reduceCtorEq, hb5]) (fun _ => by simp -implicitDefEqProofs -dsimp only [go_sem, ↓reduceIte, Nat.reduceAdd, Nat.reduceMul, Nat.reduceSub, Nat.reduceEqDiff, Nat.reduceLeDiff, Nat.reduceLT, Nat.reduceBEq, Int.reduceEq, reduceCtorEq, hb5]) (show_Prog_ok h7)) ?_
      try simp -implicitDefEqProofs -dsimp only [go_sem, ↓reduceIte, Nat.reduceAdd, Nat.reduceMul, Nat.reduceSub, Nat.reduceEqDiff, Nat.reduceLeDiff, Nat.reduceLT, Nat.reduceBEq, Int.reduceEq, reduceCtorEq, hb5]
      with_reducible refine exP.mk (.pure ⟨[10], true, [.agg [.sl (((T_api_Prog.mk v3.Syms v3.Threads).Syms).map e_api_Sym), .sl (((T_api_Prog.mk v3.Syms v3.Threads).Threads).map e_api_Thread)]], .str v8⟩) (callQ.of (by simp -implicitDefEqProofs -dsimp only [go_sem, ↓reduceIte, Nat.reduceAdd, Nat.reduceMul, Nat.reduceSub, Nat.reduceEqDiff, Nat.reduceLeDiff, Nat.reduceLT, Nat.reduceBEq, Int.reduceEq, reduceCtorEq, hb5]) (by simp -implicitDefEqProofs -dsimp only [go_sem, ↓reduceIte, Nat.reduceAdd, Nat.reduceMul, Nat.reduceSub, Nat.reduceEqDiff, Nat.reduceLeDiff, Nat.reduceLT, Nat.reduceBEq, Int.reduceEq, reduceCtorEq, hb5]) (by simp -implicitDefEqProofs -dsimp only [go_sem, ↓reduceIte, Nat.reduceAdd, Nat.reduceMul, Nat.reduceSub, Nat.reduceEqDiff, Nat.reduceLeDiff, Nat.reduceLT, Nat.reduceBEq, Int.reduceEq, reduceCtorEq, hb5]) (fun _ => by simp -implicitDefEqProofs -dsimp only [go_sem, ↓reduceIte, Nat.reduceAdd, Nat.reduceMul, Nat.reduceSub, Nat.reduceEqDiff, Nat.reduceLeDiff, Nat.reduceLT, Nat.reduceBEq, Int.reduceEq, reduceCtorEq, hb5]) (show_Prog_ok h9)) ?_
      try simp -implicitDefEqProofs -dsimp only [go_sem, ↓reduceIte, Nat.reduceAdd, Nat.reduceMul, Nat.reduceSub, Nat.reduceEqDiff, Nat.reduceLeDiff, Nat.reduceLT, Nat.reduceBEq, Int.reduceEq, reduceCtorEq, hb5]
      refine onG_split (fun hg12 => ?_) (fun hg12 => ?_)
      · try simp -implicitDefEqProofs -dsimp only [go_sem, ↓reduceIte, Nat.reduceAdd, Nat.reduceMul, Nat.reduceSub, Nat.reduceEqDiff, Nat.reduceLeDiff, Nat.reduceLT, Nat.reduceBEq, Int.reduceEq, reduceCtorEq, hb5, hg12]
        with_reducible refine exP.mk _ (callQ.plain (by simp -implicitDefEqProofs -dsimp only [go_sem, ↓reduceIte, Nat.reduceAdd, Nat.reduceMul, Nat.reduceSub, Nat.reduceEqDiff, Nat.reduceLeDiff, Nat.reduceLT, Nat.reduceBEq, Int.reduceEq, reduceCtorEq, hb5, hg12]) (by have hk := palinglaw9_alive_ok (of_true (by simp -implicitDefEqProofs -dsimp only [go_sem, ↓reduceIte, Nat.reduceAdd, Nat.reduceMul, Nat.reduceSub, Nat.reduceEqDiff, Nat.reduceLeDiff, Nat.reduceLT, Nat.reduceBEq, Int.reduceEq, reduceCtorEq, hb5, hg12]) h11); (try simp only [hb5] at hk); (try simp only [List.map_cons, List.map_nil, eStr, eInt] at hk); exact hk)) ?_
        try simp -implicitDefEqProofs -dsimp only [go_sem, ↓reduceIte, Nat.reduceAdd, Nat.reduceMul, Nat.reduceSub, Nat.reduceEqDiff, Nat.reduceLeDiff, Nat.reduceLT, Nat.reduceBEq, Int.reduceEq, reduceCtorEq, hb5, hg12]
      · try simp -implicitDefEqProofs -dsimp only [go_sem, ↓reduceIte, Nat.reduceAdd, Nat.reduceMul, Nat.reduceSub, Nat.reduceEqDiff, Nat.reduceLeDiff, Nat.reduceLT, Nat.reduceBEq, Int.reduceEq, reduceCtorEq, hb5, hg12]
    obtain rfl := Option.some.inj hm
    exact W.ret (EndsF.retW [] RO)
  · replace hm := of_false hb5 hm
    refine W.skip ?_
    replace hm := of_bind hm
    obtain ⟨v13, h14, hm⟩ := hm
    replace hm := of_ite hm
    obtain ⟨h15, hm⟩ := hm
    replace hm := of_let hm
    obtain ⟨l16, h17, hm⟩ := hm
    refine W.weak ⟨[], [.foc 8 0 1, .foc 9 v13.toNat 0]⟩ (show AT _ ⟨[], [.foc 8 0 1, .foc 9 v13.toNat 0]⟩ [(1, .int .i64 p1), (2, .int .i64 p2), (7, .ptr 0 0 0), (9, .ptr 7 0 0), (10, .ptr 8 0 0), (21, .bool ((v3.Threads.length : Int) == 0))] [.cells (e_palingbook_Act p3) 0 57, .dead, .dead, .dead, .dead, .dead, .dead, .cells [.sl (v1.Syms.map e_api_Sym), .boxsl (v1.Threads.map o_api_Thread) 1 65] 0 38, .cells [.sl (v3.Syms.map e_api_Sym), .msl 9 1 0 1 v3.Threads.length v3.Threads.length] 0 38, .rows ((v3.Threads.map o_api_Thread).set v13.toNat [.msl 10 1 0 13 (((rd v3.Threads v13).Ins).length) (((rd v3.Threads v13).Ins).length)]) 1 1 65, .rows (((rd v3.Threads v13).Ins).map e_api_Ins) 13 1 55] _ _ from RO) ?_
    have kh14 := palingbook_Pick_ok h14
    try simp only [hb5] at kh14
    refine W.sqJ [] [] [] 0 [] [(2, .int .i64 p2), (7, .ptr 0 0 0), (9, .ptr 7 0 0), (10, .ptr 8 0 0), (11, .msl 10 1 0 13 l16.length l16.length)] [.cells (e_palingbook_Act p3) 0 57, .dead, .dead, .dead, .dead, .dead, .dead, .cells [.sl (v1.Syms.map e_api_Sym), .boxsl (v1.Threads.map o_api_Thread) 1 65] 0 38, .cells [.sl (v3.Syms.map e_api_Sym), .msl 9 1 0 1 v3.Threads.length v3.Threads.length] 0 38, .rows ((v3.Threads.map o_api_Thread).set v13.toNat [.msl 10 1 0 13 l16.length l16.length]) 1 1 65, .rows (l16.map e_api_Ins) 13 1 55] v_mixed ?_
    clear h17
    replace hm := of_bind hm
    obtain ⟨v18, h19, hm⟩ := hm
    have kh19 := palingbook_Pick_ok h19
    try simp only [hb5] at kh19
    refine W.sq [] [(7, .ptr 0 0 0), (9, .ptr 7 0 0), (10, .ptr 8 0 0), (11, .msl 10 1 0 13 l16.length l16.length), (12, .int .i64 v18)] [.cells (e_palingbook_Act p3) 0 57, .dead, .dead, .dead, .dead, .dead, .dead, .cells [.sl (v1.Syms.map e_api_Sym), .boxsl (v1.Threads.map o_api_Thread) 1 65] 0 38, .cells [.sl (v3.Syms.map e_api_Sym), .msl 9 1 0 1 v3.Threads.length v3.Threads.length] 0 38, .rows ((v3.Threads.map o_api_Thread).set v13.toNat [.msl 10 1 0 13 l16.length l16.length]) 1 1 65, .rows (l16.map e_api_Ins) 13 1 55] ?_
    replace hm := of_bind hm
    obtain ⟨v20, h21, hm⟩ := hm
    have kh21 := palingbook_Ins_ok h21
    try simp only [hb5] at kh21
    refine W.sq [] [(9, .ptr 7 0 0), (10, .ptr 8 0 0), (11, .msl 10 1 0 13 l16.length l16.length), (12, .int .i64 v18), (13, .ptr 11 0 0)] [.dead, .dead, .dead, .dead, .dead, .dead, .dead, .cells [.sl (v1.Syms.map e_api_Sym), .boxsl (v1.Threads.map o_api_Thread) 1 65] 0 38, .cells [.sl (v3.Syms.map e_api_Sym), .msl 9 1 0 1 v3.Threads.length v3.Threads.length] 0 38, .rows ((v3.Threads.map o_api_Thread).set v13.toNat [.msl 10 1 0 13 l16.length l16.length]) 1 1 65, .rows (l16.map e_api_Ins) 13 1 55, .cells (e_api_Ins v20) 0 55] ?_
    refine W.cut (fun s h => ∃ (v : (List T_api_Thread)) (w : Unit) (F : Gs), palinglaw9_ShowApart_j1 v1 v3 v = some r ∧ AT 0 F [(9, .ptr 7 0 0), (10, .ptr 8 0 0)] [.dead, .dead, .dead, .dead, .dead, .dead, .dead, .cells [.sl (v1.Syms.map e_api_Sym), .boxsl (v1.Threads.map o_api_Thread) 1 65] 0 38, .cells [.sl (v3.Syms.map e_api_Sym), .boxsl (v.map o_api_Thread) 1 65] 0 38] s h) ?_ ?_
    · replace hm := of_let hm
      obtain ⟨b35, h36, hm⟩ := hm
      refine W.sq [] [(9, .ptr 7 0 0), (10, .ptr 8 0 0), (11, .msl 10 1 0 13 l16.length l16.length), (12, .int .i64 v18), (13, .ptr 11 0 0), (55, .bool b35)] [.dead, .dead, .dead, .dead, .dead, .dead, .dead, .cells [.sl (v1.Syms.map e_api_Sym), .boxsl (v1.Threads.map o_api_Thread) 1 65] 0 38, .cells [.sl (v3.Syms.map e_api_Sym), .msl 9 1 0 1 v3.Threads.length v3.Threads.length] 0 38, .rows ((v3.Threads.map o_api_Thread).set v13.toNat [.msl 10 1 0 13 l16.length l16.length]) 1 1 65, .rows (l16.map e_api_Ins) 13 1 55, .cells (e_api_Ins v20) 0 55] ?_
      clear h36
      refine W.cnd b35 (fun hb37 => ?_) (fun hb37 => ?_)
      · replace hm := of_true hb37 hm
        replace hm := of_ite hm
        obtain ⟨h38, hm⟩ := hm
        refine W.sq [] [(9, .ptr 7 0 0), (10, .ptr 8 0 0), (11, .msl 10 1 0 13 l16.length l16.length), (12, .int .i64 v18), (13, .ptr 11 0 0)] [.dead, .dead, .dead, .dead, .dead, .dead, .dead, .cells [.sl (v1.Syms.map e_api_Sym), .boxsl (v1.Threads.map o_api_Thread) 1 65] 0 38, .cells [.sl (v3.Syms.map e_api_Sym), .msl 9 1 0 1 v3.Threads.length v3.Threads.length] 0 38, .rows ((v3.Threads.map o_api_Thread).set v13.toNat [.msl 10 1 0 13 l16.length l16.length]) 1 1 65, .rows (l16.map e_api_Ins) 13 1 55, .cells [.int .i64 v20.Op, .bool v20.Lock, .int .i64 v20.Cond, .int .i64 v20.A.Kind, .int .i64 v20.A.Reg, .int .i64 v20.A.Sym, .int .i64 v20.A.N, .int .i64 v20.B.Kind, .int .i64 v20.B.Reg, .int .i64 v20.B.Sym, .int .i64 v20.B.N, .str v20.To, .sl (((rd l16 v18).Labels).map eStr)] 0 55] ?_
        replace hm := of_ite hm
        obtain ⟨h39, hm⟩ := hm
        replace hm := of_let hm
        obtain ⟨l40, h41, hm⟩ := hm
        refine W.rgG [] [.fol 9 v13.toNat 0, .fol 8 0 1] [(9, .ptr 7 0 0), (10, .ptr 8 0 0)] [.dead, .dead, .dead, .dead, .dead, .dead, .dead, .cells [.sl (v1.Syms.map e_api_Sym), .boxsl (v1.Threads.map o_api_Thread) 1 65] 0 38, .cells [.sl (v3.Syms.map e_api_Sym), .boxsl (l40.map o_api_Thread) 1 65] 0 38] ?_
        clear h41
        exact ⟨l40, (), ⟨[], []⟩, hm, RO⟩
      · replace hm := of_false hb37 hm
        refine W.skip ?_
        exact ⟨(v3.Threads.set v13.toNat (T_api_Thread.mk l16)), (), ⟨[], [.fol 9 v13.toNat 0, .fol 8 0 1]⟩, hm, RO⟩
    · rintro s h ⟨l22, _, F, hm, hat⟩
      refine W.weak F hat ?_
      show WK _ _ _ _ _ [(9, .ptr 7 0 0), (10, .ptr 8 0 0)] [.dead, .dead, .dead, .dead, .dead, .dead, .dead, .cells [.sl (v1.Syms.map e_api_Sym), .boxsl (v1.Threads.map o_api_Thread) 1 65] 0 38, .cells [.sl (v3.Syms.map e_api_Sym), .boxsl (l22.map o_api_Thread) 1 65] 0 38]
      rw [palinglaw9_ShowApart_j1] at hm
      replace hm := of_bind hm
      obtain ⟨v23, h24, hm⟩ := hm
      replace hm := of_bind hm
      obtain ⟨v25, h26, hm⟩ := hm
      replace hm := of_bind hm
      obtain ⟨v27, h28, hm⟩ := hm
      replace hm := of_bind hm
      obtain ⟨v29, h30, hm⟩ := hm
      replace hm := of_bind hm
      obtain ⟨v31, h32, hm⟩ := hm
      refine W.weak ⟨[], [.foc 7 0 1, .foc 8 0 1]⟩ (show AT _ ⟨[], [.foc 7 0 1, .foc 8 0 1]⟩ [(9, .ptr 7 0 0), (10, .ptr 8 0 0)] [.dead, .dead, .dead, .dead, .dead, .dead, .dead, .cells [.sl (v1.Syms.map e_api_Sym), .msl 9 1 0 1 v1.Threads.length v1.Threads.length] 0 38, .cells [.sl (v3.Syms.map e_api_Sym), .msl 10 1 0 1 l22.length l22.length] 0 38, .rows (v1.Threads.map o_api_Thread) 1 1 65, .rows (l22.map o_api_Thread) 1 1 65] _ _ from RO) ?_
      refine W.sqJ [] [] [] 0 [] [(8, .bool (((decide (v23 = v25) == v27) && (!decide (v29 = (⟨#[]⟩ : ByteArray)))) && v31))] [] v_mixed ?_ (hrun := ?_)
      rotate_left
      · try simp -implicitDefEqProofs -dsimp only [go_sem, ↓reduceIte, Nat.reduceAdd, Nat.reduceMul, Nat.reduceSub, Nat.reduceEqDiff, Nat.reduceLeDiff, Nat.reduceLT, Nat.reduceBEq, Int.reduceEq, reduceCtorEq, hb5, h15]
        with_reducible refine exP.mk (.pure ⟨[9], true, [.agg [.sl (((T_api_Prog.mk v1.Syms v1.Threads).Syms).map e_api_Sym), .sl (((T_api_Prog.mk v1.Syms v1.Threads).Threads).map e_api_Thread)]], .str v23⟩) (callQ.of (by simp -implicitDefEqProofs -dsimp only [go_sem, ↓reduceIte, Nat.reduceAdd, Nat.reduceMul, Nat.reduceSub, Nat.reduceEqDiff, Nat.reduceLeDiff, Nat.reduceLT, Nat.reduceBEq, Int.reduceEq, reduceCtorEq, hb5, h15]) (by simp -implicitDefEqProofs -dsimp only [go_sem, ↓reduceIte, Nat.reduceAdd, Nat.reduceMul, Nat.reduceSub, Nat.reduceEqDiff, Nat.reduceLeDiff, Nat.reduceLT, Nat.reduceBEq, Int.reduceEq, reduceCtorEq, hb5, h15]) (by simp -implicitDefEqProofs -dsimp only [go_sem, ↓reduceIte, Nat.reduceAdd, Nat.reduceMul, Nat.reduceSub, Nat.reduceEqDiff, Nat.reduceLeDiff, Nat.reduceLT, Nat.reduceBEq, Int.reduceEq, reduceCtorEq, hb5, h15]) (fun _ => by simp -implicitDefEqProofs -dsimp only [go_sem, ↓reduceIte, Nat.reduceAdd, Nat.reduceMul, Nat.reduceSub, Nat.reduceEqDiff, Nat.reduceLeDiff, Nat.reduceLT, Nat.reduceBEq, Int.reduceEq, reduceCtorEq, hb5, h15]) (show_Prog_ok h24)) ?_
        try simp -implicitDefEqProofs -dsimp only [go_sem, ↓reduceIte, Nat.reduceAdd, Nat.reduceMul, Nat.reduceSub, Nat.reduceEqDiff, Nat.reduceLeDiff, Nat.reduceLT, Nat.reduceBEq, Int.reduceEq, reduceCtorEq, hb5, h15]
        with_reducible refine exP.mk (.pure ⟨[10], true, [.agg [.sl (((T_api_Prog.mk v3.Syms l22).Syms).map e_api_Sym), .sl (((T_api_Prog.mk v3.Syms l22).Threads).map e_api_Thread)]], .str v25⟩) (callQ.of (by simp -implicitDefEqProofs -dsimp only [go_sem, ↓reduceIte, Nat.reduceAdd, Nat.reduceMul, Nat.reduceSub, Nat.reduceEqDiff, Nat.reduceLeDiff, Nat.reduceLT, Nat.reduceBEq, Int.reduceEq, reduceCtorEq, hb5, h15]) (by simp -implicitDefEqProofs -dsimp only [go_sem, ↓reduceIte, Nat.reduceAdd, Nat.reduceMul, Nat.reduceSub, Nat.reduceEqDiff, Nat.reduceLeDiff, Nat.reduceLT, Nat.reduceBEq, Int.reduceEq, reduceCtorEq, hb5, h15]) (by simp -implicitDefEqProofs -dsimp only [go_sem, ↓reduceIte, Nat.reduceAdd, Nat.reduceMul, Nat.reduceSub, Nat.reduceEqDiff, Nat.reduceLeDiff, Nat.reduceLT, Nat.reduceBEq, Int.reduceEq, reduceCtorEq, hb5, h15]) (fun _ => by simp -implicitDefEqProofs -dsimp only [go_sem, ↓reduceIte, Nat.reduceAdd, Nat.reduceMul, Nat.reduceSub, Nat.reduceEqDiff, Nat.reduceLeDiff, Nat.reduceLT, Nat.reduceBEq, Int.reduceEq, reduceCtorEq, hb5, h15]) (show_Prog_ok h26)) ?_
        try simp -implicitDefEqProofs -dsimp only [go_sem, ↓reduceIte, Nat.reduceAdd, Nat.reduceMul, Nat.reduceSub, Nat.reduceEqDiff, Nat.reduceLeDiff, Nat.reduceLT, Nat.reduceBEq, Int.reduceEq, reduceCtorEq, hb5, h15]
        with_reducible refine exP.mk (.pure ⟨[9, 10], true, [.agg [.sl (((T_api_Prog.mk v1.Syms v1.Threads).Syms).map e_api_Sym), .sl (((T_api_Prog.mk v1.Syms v1.Threads).Threads).map e_api_Thread)], .agg [.sl (((T_api_Prog.mk v3.Syms l22).Syms).map e_api_Sym), .sl (((T_api_Prog.mk v3.Syms l22).Threads).map e_api_Thread)]], .bool v27⟩) (callQ.of (by simp -implicitDefEqProofs -dsimp only [go_sem, ↓reduceIte, Nat.reduceAdd, Nat.reduceMul, Nat.reduceSub, Nat.reduceEqDiff, Nat.reduceLeDiff, Nat.reduceLT, Nat.reduceBEq, Int.reduceEq, reduceCtorEq, hb5, h15]) (by simp -implicitDefEqProofs -dsimp only [go_sem, ↓reduceIte, Nat.reduceAdd, Nat.reduceMul, Nat.reduceSub, Nat.reduceEqDiff, Nat.reduceLeDiff, Nat.reduceLT, Nat.reduceBEq, Int.reduceEq, reduceCtorEq, hb5, h15]) (by simp -implicitDefEqProofs -dsimp only [go_sem, ↓reduceIte, Nat.reduceAdd, Nat.reduceMul, Nat.reduceSub, Nat.reduceEqDiff, Nat.reduceLeDiff, Nat.reduceLT, Nat.reduceBEq, Int.reduceEq, reduceCtorEq, hb5, h15]) (fun _ => by simp -implicitDefEqProofs -dsimp only [go_sem, ↓reduceIte, Nat.reduceAdd, Nat.reduceMul, Nat.reduceSub, Nat.reduceEqDiff, Nat.reduceLeDiff, Nat.reduceLT, Nat.reduceBEq, Int.reduceEq, reduceCtorEq, hb5, h15]) (palingref1_SameProg_ok h28)) ?_
        try simp -implicitDefEqProofs -dsimp only [go_sem, ↓reduceIte, Nat.reduceAdd, Nat.reduceMul, Nat.reduceSub, Nat.reduceEqDiff, Nat.reduceLeDiff, Nat.reduceLT, Nat.reduceBEq, Int.reduceEq, reduceCtorEq, hb5, h15]
        refine onG_split (fun hg33 => ?_) (fun hg33 => ?_)
        · try simp -implicitDefEqProofs -dsimp only [go_sem, ↓reduceIte, Nat.reduceAdd, Nat.reduceMul, Nat.reduceSub, Nat.reduceEqDiff, Nat.reduceLeDiff, Nat.reduceLT, Nat.reduceBEq, Int.reduceEq, reduceCtorEq, hb5, h15, hg33]
          with_reducible refine exP.mk (.pure ⟨[10], true, [.agg [.sl (((T_api_Prog.mk v3.Syms l22).Syms).map e_api_Sym), .sl (((T_api_Prog.mk v3.Syms l22).Threads).map e_api_Thread)]], .str v29⟩) (callQ.of (by simp -implicitDefEqProofs -dsimp only [go_sem, ↓reduceIte, Nat.reduceAdd, Nat.reduceMul, Nat.reduceSub, Nat.reduceEqDiff, Nat.reduceLeDiff, Nat.reduceLT, Nat.reduceBEq, Int.reduceEq, reduceCtorEq, hb5, h15, hg33]) (by simp -implicitDefEqProofs -dsimp only [go_sem, ↓reduceIte, Nat.reduceAdd, Nat.reduceMul, Nat.reduceSub, Nat.reduceEqDiff, Nat.reduceLeDiff, Nat.reduceLT, Nat.reduceBEq, Int.reduceEq, reduceCtorEq, hb5, h15, hg33]) (by simp -implicitDefEqProofs -dsimp only [go_sem, ↓reduceIte, Nat.reduceAdd, Nat.reduceMul, Nat.reduceSub, Nat.reduceEqDiff, Nat.reduceLeDiff, Nat.reduceLT, Nat.reduceBEq, Int.reduceEq, reduceCtorEq, hb5, h15, hg33]) (fun _ => by simp -implicitDefEqProofs -dsimp only [go_sem, ↓reduceIte, Nat.reduceAdd, Nat.reduceMul, Nat.reduceSub, Nat.reduceEqDiff, Nat.reduceLeDiff, Nat.reduceLT, Nat.reduceBEq, Int.reduceEq, reduceCtorEq, hb5, h15, hg33]) (show_Prog_ok (of_true (by simp -implicitDefEqProofs -dsimp only [go_sem, ↓reduceIte, Nat.reduceAdd, Nat.reduceMul, Nat.reduceSub, Nat.reduceEqDiff, Nat.reduceLeDiff, Nat.reduceLT, Nat.reduceBEq, Int.reduceEq, reduceCtorEq, hb5, h15, hg33]) h30))) ?_
          try simp -implicitDefEqProofs -dsimp only [go_sem, ↓reduceIte, Nat.reduceAdd, Nat.reduceMul, Nat.reduceSub, Nat.reduceEqDiff, Nat.reduceLeDiff, Nat.reduceLT, Nat.reduceBEq, Int.reduceEq, reduceCtorEq, hb5, h15, hg33]
          refine onG_splitN (fun hg34 => ?_) (fun hg34 => ?_)
          · try simp only [Bool.not_not] at hg34
            try simp -implicitDefEqProofs -dsimp only [go_sem, ↓reduceIte, Nat.reduceAdd, Nat.reduceMul, Nat.reduceSub, Nat.reduceEqDiff, Nat.reduceLeDiff, Nat.reduceLT, Nat.reduceBEq, Int.reduceEq, reduceCtorEq, hb5, h15, hg33, hg34]
            with_reducible refine exP.mk _ (callQ.plain (by simp -implicitDefEqProofs -dsimp only [go_sem, ↓reduceIte, Nat.reduceAdd, Nat.reduceMul, Nat.reduceSub, Nat.reduceEqDiff, Nat.reduceLeDiff, Nat.reduceLT, Nat.reduceBEq, Int.reduceEq, reduceCtorEq, hb5, h15, hg33, hg34]) (by have hk := palinglaw9_alive_ok (of_true (by simp -implicitDefEqProofs -dsimp only [go_sem, ↓reduceIte, Nat.reduceAdd, Nat.reduceMul, Nat.reduceSub, Nat.reduceEqDiff, Nat.reduceLeDiff, Nat.reduceLT, Nat.reduceBEq, Int.reduceEq, reduceCtorEq, hb5, h15, hg33, hg34]) h32); (try simp only [hb5] at hk); (try simp only [List.map_cons, List.map_nil, eStr, eInt] at hk); exact hk)) ?_
            try simp -implicitDefEqProofs -dsimp only [go_sem, ↓reduceIte, Nat.reduceAdd, Nat.reduceMul, Nat.reduceSub, Nat.reduceEqDiff, Nat.reduceLeDiff, Nat.reduceLT, Nat.reduceBEq, Int.reduceEq, reduceCtorEq, hb5, h15, hg33, hg34]
          · try simp only [Bool.not_not] at hg34
            try simp -implicitDefEqProofs -dsimp only [go_sem, ↓reduceIte, Nat.reduceAdd, Nat.reduceMul, Nat.reduceSub, Nat.reduceEqDiff, Nat.reduceLeDiff, Nat.reduceLT, Nat.reduceBEq, Int.reduceEq, reduceCtorEq, hb5, h15, hg33, hg34]
        · try simp -implicitDefEqProofs -dsimp only [go_sem, ↓reduceIte, Nat.reduceAdd, Nat.reduceMul, Nat.reduceSub, Nat.reduceEqDiff, Nat.reduceLeDiff, Nat.reduceLT, Nat.reduceBEq, Int.reduceEq, reduceCtorEq, hb5, h15, hg33]
      obtain rfl := Option.some.inj hm
      exact W.ret (EndsF.retW [] RO)


end Go.Proofs.YtocjejladeeckaaDoor
