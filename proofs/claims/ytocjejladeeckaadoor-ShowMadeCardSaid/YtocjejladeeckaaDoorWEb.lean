import Derived.Test.YtocjejladeeckaaDoorVFacts
import Derived.Test.YtocjejladeeckaaDoorPalEb
import Derived.Test.YtocjejladeeckaaDoorWE
import Derived.Test.YtocjejladeeckaaDoorWF
set_option maxRecDepth 100000
set_option linter.unusedSimpArgs false
set_option linter.unusedVariables false
set_option linter.unusedSectionVars false
namespace Go.Proofs.YtocjejladeeckaaDoor
open Go.Vs
variable [TabU]
theorem palinglaw9_ShowMade_ok {p0 : (List (List T_palingbook_Act))} {r : Bool} (hm : palinglaw9_ShowMade p0 = some r) : PureF Tryd.prog 9 [.sl (p0.map (eSl e_palingbook_Act))] (.bool r) := by
  rw [palinglaw9_ShowMade] at hm
  refine PureF.of Tryd.func9 rfl Tryd.ntmps9 (Nat.le_of_ble_eq_true rfl) ?_
  have e0 : argS 0 [.sl (p0.map (eSl e_palingbook_Act))] = [(0, .sl (p0.map (eSl e_palingbook_Act)))] := rfl
  rw [e0]
  refine W.sq [] [(0, .sl (p0.map (eSl e_palingbook_Act)))] [] ?_
  replace hm := of_bind hm
  obtain ⟨v1, h2, hm⟩ := hm
  have kh2 := palingbook_Prog_ok h2
  refine W.sq [] [(3, .ptr 0 0 0)] [.cells (e_api_Prog v1) 0 38] ?_
  replace hm := of_bind hm
  obtain ⟨v3, h4, hm⟩ := hm
  replace hm := of_bind hm
  obtain ⟨v5, h6, hm⟩ := hm
  replace hm := of_bind hm
  obtain ⟨v7, h8, hm⟩ := hm
  have kh4 := show_Prog_ok h4
  have kh6 := palingref1_Show_ok h6
  have kh8 := fun hg => palinglaw9_alive_ok (of_true hg h8)
  refine W.sqJ [] [] [] 0 [] [(2, .bool (decide (v3 = v5) && v7))] [] v_mixed ?_
  obtain rfl := Option.some.inj hm
  exact W.ret (EndsF.retW [] RO)

theorem palinglaw9_ShowIns_ok {p0 : T_api_Ins} {p1 : T_palingbook_Act} {p2 : (List ByteArray)} {r : Bool} (hm : palinglaw9_ShowIns p0 p1 p2 = some r) : PureF Tryd.prog 10 [.agg [.int .i64 p0.Op, .bool p0.Lock, .int .i64 p0.Cond, .int .i64 p0.A.Kind, .int .i64 p0.A.Reg, .int .i64 p0.A.Sym, .int .i64 p0.A.N, .int .i64 p0.B.Kind, .int .i64 p0.B.Reg, .int .i64 p0.B.Sym, .int .i64 p0.B.N, .str p0.To, .sl (p0.Labels.map eStr)], .agg [.int .i64 p1.Kind, .int .i64 p1.A, .int .i64 p1.B, .int .i64 p1.C, .int .i64 p1.N], .sl (p2.map eStr)] (.bool r) := by
  rw [palinglaw9_ShowIns] at hm
  refine PureF.of Tryd.func10 rfl Tryd.ntmps10 (Nat.le_of_ble_eq_true rfl) ?_
  have e0 : argS 0 [.agg [.int .i64 p0.Op, .bool p0.Lock, .int .i64 p0.Cond, .int .i64 p0.A.Kind, .int .i64 p0.A.Reg, .int .i64 p0.A.Sym, .int .i64 p0.A.N, .int .i64 p0.B.Kind, .int .i64 p0.B.Reg, .int .i64 p0.B.Sym, .int .i64 p0.B.N, .str p0.To, .sl (p0.Labels.map eStr)], .agg [.int .i64 p1.Kind, .int .i64 p1.A, .int .i64 p1.B, .int .i64 p1.C, .int .i64 p1.N], .sl (p2.map eStr)] = [(0, .agg [.int .i64 p0.Op, .bool p0.Lock, .int .i64 p0.Cond, .int .i64 p0.A.Kind, .int .i64 p0.A.Reg, .int .i64 p0.A.Sym, .int .i64 p0.A.N, .int .i64 p0.B.Kind, .int .i64 p0.B.Reg, .int .i64 p0.B.Sym, .int .i64 p0.B.N, .str p0.To, .sl (p0.Labels.map eStr)]), (1, .agg [.int .i64 p1.Kind, .int .i64 p1.A, .int .i64 p1.B, .int .i64 p1.C, .int .i64 p1.N]), (2, .sl (p2.map eStr))] := rfl
  rw [e0]
  refine W.sq [] [(2, .sl (p2.map eStr)), (3, .ptr 0 0 0), (4, .ptr 1 0 0)] [.cells (e_api_Ins p0) 0 55, .cells (e_palingbook_Act p1) 0 57] ?_
  refine W.sq [] [(2, .sl (p2.map eStr)), (3, .ptr 0 0 0), (4, .ptr 1 0 0), (7, .nils)] [.cells (e_api_Ins p0) 0 55, .cells (e_palingbook_Act p1) 0 57] ?_
  refine W.seq ?_
  refine W.sq [] [(2, .sl (p2.map eStr)), (3, .ptr 0 0 0), (4, .ptr 1 0 0), (7, .nils), (8, .int .i64 0)] [.cells (e_api_Ins p0) 0 55, .cells (e_palingbook_Act p1) 0 57] ?_
  refine W.block ?_
  replace hm := of_bind hm
  obtain ⟨r31, hlr31, hm⟩ := hm
  refine W.mono (Q := fun e0 s0 h0 => e0 = .exit 0 ∧ ∃ w : Nat, s0 = [(3, .ptr 0 0 0), (4, .ptr 1 0 0), (7, .msl 2 w 0 1 r31.length r31.length)] ∧ h0 = [.cells (e_api_Ins p0) 0 55, .cells (e_palingbook_Act p1) 0 57, .rows (r31.map eStr) 1 w 9]) (W.loopM (step := palinglaw9_ShowIns_s1 p2) (a0 := (0, [])) (fun (a : Int × (List ByteArray)) (v : Nat) => ([(2, .sl (p2.map eStr)), (3, .ptr 0 0 0), (4, .ptr 1 0 0), (7, .msl 2 v 0 1 a.2.length a.2.length), (8, .int .i64 a.1)], [.cells (e_api_Ins p0) 0 55, .cells (e_palingbook_Act p1) 0 57, .rows (a.2.map eStr) 1 v 9])) 0 hlr31 ⟨[], []⟩ RO ?_) ?_
  · rintro ⟨i19, l20⟩ w21 x hm hx
    rw [palinglaw9_ShowIns_s1] at hm
    show WK _ _ _ _ _ [(2, .sl (p2.map eStr)), (3, .ptr 0 0 0), (4, .ptr 1 0 0), (7, .msl 2 w21 0 1 l20.length l20.length), (8, .int .i64 i19)] [.cells (e_api_Ins p0) 0 55, .cells (e_palingbook_Act p1) 0 57, .rows (l20.map eStr) 1 w21 9]
    refine W.seq ?_
    refine W.sq [] [(2, .sl (p2.map eStr)), (3, .ptr 0 0 0), (4, .ptr 1 0 0), (7, .msl 2 w21 0 1 l20.length l20.length), (8, .int .i64 i19), (17, .bool (decide (i19 < (p2.length : Int)) && decide (i19 < 5)))] [.cells (e_api_Ins p0) 0 55, .cells (e_palingbook_Act p1) 0 57, .rows (l20.map eStr) 1 w21 9] ?_
    refine W.cnd (decide (i19 < (p2.length : Int)) && decide (i19 < 5)) (fun hb32 => ?_) (fun hb32 => ?_)
    · replace hm := of_true hb32 hm
      refine W.skip ?_
      refine W.seq ?_
      refine W.block ?_
      replace hm := of_ite hm
      obtain ⟨h33, hm⟩ := hm
      replace hm := of_bind hm
      obtain ⟨v34, h35, hm⟩ := hm
      replace hm := of_ite hm
      obtain ⟨h36, hm⟩ := hm
      replace hm := of_let hm
      obtain ⟨l37, h38, hm⟩ := hm
      have kh35 := palingbook_Short_ok h35
      try simp only [hb32] at kh35
      refine W.rg [] [(2, .sl (p2.map eStr)), (3, .ptr 0 0 0), (4, .ptr 1 0 0), (7, .msl 2 (w21 + 1) 0 1 l37.length l37.length), (8, .int .i64 i19)] [.cells (e_api_Ins p0) 0 55, .cells (e_palingbook_Act p1) 0 57, .rows (l37.map eStr) 1 (w21 + 1) 9] ?_
      clear h38
      refine W.rg [] [(2, .sl (p2.map eStr)), (3, .ptr 0 0 0), (4, .ptr 1 0 0), (7, .msl 2 (w21 + 1) 0 1 l37.length l37.length), (8, .int .i64 (IntKind.wrap .i64 (i19 + 1)))] [.cells (e_api_Ins p0) 0 55, .cells (e_palingbook_Act p1) 0 57, .rows (l37.map eStr) 1 (w21 + 1) 9] ?_
      obtain rfl := Option.some.inj hm
      exact ⟨((IntKind.wrap .i64 (i19 + 1)), l37), (w21 + 1), ⟨[], []⟩, rfl, RO⟩
    · replace hm := of_false hb32 hm
      obtain rfl := Option.some.inj hm
      obtain rfl := hx _ rfl
      exact W.weak ⟨[], []⟩ (show AT _ ⟨[], []⟩ [(3, .ptr 0 0 0), (4, .ptr 1 0 0), (7, .msl 2 w21 0 1 l20.length l20.length)] [.cells (e_api_Ins p0) 0 55, .cells (e_palingbook_Act p1) 0 57, .rows (l20.map eStr) 1 w21 9] _ _ from RO) (W.exit (show _ ∧ _ from ⟨rfl, w21, rfl, rfl⟩))
  · rintro e0 s0 h0 ⟨rfl, w30, rfl, rfl⟩
    show WK _ _ _ _ _ [(3, .ptr 0 0 0), (4, .ptr 1 0 0), (7, .msl 2 w30 0 1 r31.length r31.length)] [.cells (e_api_Ins p0) 0 55, .cells (e_palingbook_Act p1) 0 57, .rows (r31.map eStr) 1 w30 9]
    refine W.seq ?_
    replace hm := of_bind hm
    obtain ⟨v39, h40, hm⟩ := hm
    have kh40 := palingbook_GreatIns_ok h40
    refine W.sq [] [(3, .ptr 0 0 0), (4, .ptr 1 0 0), (7, .msl 2 w30 0 1 r31.length r31.length), (29, .bool v39)] [.cells (e_api_Ins p0) 0 55, .cells (e_palingbook_Act p1) 0 57, .rows (r31.map eStr) 1 w30 9] ?_
    refine W.cnd v39 (fun hb41 => ?_) (fun hb41 => ?_)
    · replace hm := of_true hb41 hm
      replace hm := of_bind hm
      obtain ⟨v42, h43, hm⟩ := hm
      have kh43 := palinglaw9_alive_ok h43
      try simp only [hb41] at kh43
      refine W.sq [] [(6, .bool v42)] [] ?_
      obtain rfl := Option.some.inj hm
      exact W.ret (EndsF.retW [] RO)
    · replace hm := of_false hb41 hm
      refine W.skip ?_
      replace hm := of_bind hm
      obtain ⟨v44, h45, hm⟩ := hm
      have kh45 := palingbook_Ins_ok h45
      try simp only [hb41] at kh45
      refine W.sq [] [(3, .ptr 0 0 0), (7, .msl 2 w30 0 1 r31.length r31.length), (9, .ptr 3 0 0)] [.cells (e_api_Ins p0) 0 55, .dead, .rows (r31.map eStr) 1 w30 9, .cells (e_api_Ins v44) 0 55] ?_
      replace hm := of_bind hm
      obtain ⟨v46, h47, hm⟩ := hm
      replace hm := of_bind hm
      obtain ⟨v48, h49, hm⟩ := hm
      replace hm := of_bind hm
      obtain ⟨v50, h51, hm⟩ := hm
      replace hm := of_bind hm
      obtain ⟨v52, h53, hm⟩ := hm
      replace hm := of_bind hm
      obtain ⟨v54, h55, hm⟩ := hm
      replace hm := of_bind hm
      obtain ⟨v56, h57, hm⟩ := hm
      replace hm := of_bind hm
      obtain ⟨v58, h59, hm⟩ := hm
      refine W.sqJ [] [] [] 0 [] [(6, .bool (((decide (v46 = v48) && decide (v50 = v52)) && decide (v54 = v56)) && v58))] [] v_mixed ?_ (hrun := ?_)
      rotate_left
      · try simp -implicitDefEqProofs -dsimp only [go_sem, ↓reduceIte, Nat.reduceAdd, Nat.reduceMul, Nat.reduceSub, Nat.reduceEqDiff, Nat.reduceLeDiff, Nat.reduceLT, Nat.reduceBEq, Int.reduceEq, reduceCtorEq, hb41]
        with_reducible refine exP.mk (.pure ⟨[2], true, [.agg [.int .i64 p0.Op, .bool p0.Lock, .int .i64 p0.Cond, .int .i64 p0.A.Kind, .int .i64 p0.A.Reg, .int .i64 p0.A.Sym, .int .i64 p0.A.N, .int .i64 p0.B.Kind, .int .i64 p0.B.Reg, .int .i64 p0.B.Sym, .int .i64 p0.B.N, .str p0.To, .sl (p0.Labels.map eStr)], .sl (r31.map eStr)], .str v46⟩) (callQ.of (by simp -implicitDefEqProofs -dsimp only [go_sem, ↓reduceIte, Nat.reduceAdd, Nat.reduceMul, Nat.reduceSub, Nat.reduceEqDiff, Nat.reduceLeDiff, Nat.reduceLT, Nat.reduceBEq, Int.reduceEq, reduceCtorEq, hb41]) (by simp -implicitDefEqProofs -dsimp only [go_sem, ↓reduceIte, Nat.reduceAdd, Nat.reduceMul, Nat.reduceSub, Nat.reduceEqDiff, Nat.reduceLeDiff, Nat.reduceLT, Nat.reduceBEq, Int.reduceEq, reduceCtorEq, hb41]) (by simp -implicitDefEqProofs -dsimp only [go_sem, ↓reduceIte, Nat.reduceAdd, Nat.reduceMul, Nat.reduceSub, Nat.reduceEqDiff, Nat.reduceLeDiff, Nat.reduceLT, Nat.reduceBEq, Int.reduceEq, reduceCtorEq, hb41]) (fun _ => by simp -implicitDefEqProofs -dsimp only [go_sem, ↓reduceIte, Nat.reduceAdd, Nat.reduceMul, Nat.reduceSub, Nat.reduceEqDiff, Nat.reduceLeDiff, Nat.reduceLT, Nat.reduceBEq, Int.reduceEq, reduceCtorEq, hb41]) (show_Ins_ok h47)) ?_
        try simp -implicitDefEqProofs -dsimp only [go_sem, ↓reduceIte, Nat.reduceAdd, Nat.reduceMul, Nat.reduceSub, Nat.reduceEqDiff, Nat.reduceLeDiff, Nat.reduceLT, Nat.reduceBEq, Int.reduceEq, reduceCtorEq, hb41]
        with_reducible refine exP.mk (.pure ⟨[2], true, [.agg [.int .i64 p0.Op, .bool p0.Lock, .int .i64 p0.Cond, .int .i64 p0.A.Kind, .int .i64 p0.A.Reg, .int .i64 p0.A.Sym, .int .i64 p0.A.N, .int .i64 p0.B.Kind, .int .i64 p0.B.Reg, .int .i64 p0.B.Sym, .int .i64 p0.B.N, .str p0.To, .sl (p0.Labels.map eStr)], .sl (r31.map eStr)], .str v48⟩) (callQ.of (by simp -implicitDefEqProofs -dsimp only [go_sem, ↓reduceIte, Nat.reduceAdd, Nat.reduceMul, Nat.reduceSub, Nat.reduceEqDiff, Nat.reduceLeDiff, Nat.reduceLT, Nat.reduceBEq, Int.reduceEq, reduceCtorEq, hb41]) (by simp -implicitDefEqProofs -dsimp only [go_sem, ↓reduceIte, Nat.reduceAdd, Nat.reduceMul, Nat.reduceSub, Nat.reduceEqDiff, Nat.reduceLeDiff, Nat.reduceLT, Nat.reduceBEq, Int.reduceEq, reduceCtorEq, hb41]) (by simp -implicitDefEqProofs -dsimp only [go_sem, ↓reduceIte, Nat.reduceAdd, Nat.reduceMul, Nat.reduceSub, Nat.reduceEqDiff, Nat.reduceLeDiff, Nat.reduceLT, Nat.reduceBEq, Int.reduceEq, reduceCtorEq, hb41]) (fun _ => by simp -implicitDefEqProofs -dsimp only [go_sem, ↓reduceIte, Nat.reduceAdd, Nat.reduceMul, Nat.reduceSub, Nat.reduceEqDiff, Nat.reduceLeDiff, Nat.reduceLT, Nat.reduceBEq, Int.reduceEq, reduceCtorEq, hb41]) (palingref1_ShowIns_ok h49)) ?_
        try simp -implicitDefEqProofs -dsimp only [go_sem, ↓reduceIte, Nat.reduceAdd, Nat.reduceMul, Nat.reduceSub, Nat.reduceEqDiff, Nat.reduceLeDiff, Nat.reduceLT, Nat.reduceBEq, Int.reduceEq, reduceCtorEq, hb41]
        refine onG_split (fun hg60 => ?_) (fun hg60 => ?_)
        · try simp -implicitDefEqProofs -dsimp only [go_sem, ↓reduceIte, Nat.reduceAdd, Nat.reduceMul, Nat.reduceSub, Nat.reduceEqDiff, Nat.reduceLeDiff, Nat.reduceLT, Nat.reduceBEq, Int.reduceEq, reduceCtorEq, hb41, hg60]
          with_reducible refine exP.mk (.pure ⟨[2], true, [.agg [.int .i64 v44.Op, .bool v44.Lock, .int .i64 v44.Cond, .int .i64 v44.A.Kind, .int .i64 v44.A.Reg, .int .i64 v44.A.Sym, .int .i64 v44.A.N, .int .i64 v44.B.Kind, .int .i64 v44.B.Reg, .int .i64 v44.B.Sym, .int .i64 v44.B.N, .str v44.To, .sl (v44.Labels.map eStr)], .sl (r31.map eStr)], .str v50⟩) (callQ.of (by simp -implicitDefEqProofs -dsimp only [go_sem, ↓reduceIte, Nat.reduceAdd, Nat.reduceMul, Nat.reduceSub, Nat.reduceEqDiff, Nat.reduceLeDiff, Nat.reduceLT, Nat.reduceBEq, Int.reduceEq, reduceCtorEq, hb41, hg60]) (by simp -implicitDefEqProofs -dsimp only [go_sem, ↓reduceIte, Nat.reduceAdd, Nat.reduceMul, Nat.reduceSub, Nat.reduceEqDiff, Nat.reduceLeDiff, Nat.reduceLT, Nat.reduceBEq, Int.reduceEq, reduceCtorEq, hb41, hg60]) (by simp -implicitDefEqProofs -dsimp only [go_sem, ↓reduceIte, Nat.reduceAdd, Nat.reduceMul, Nat.reduceSub, Nat.reduceEqDiff, Nat.reduceLeDiff, Nat.reduceLT, Nat.reduceBEq, Int.reduceEq, reduceCtorEq, hb41, hg60]) (fun _ => by simp -implicitDefEqProofs -dsimp only [go_sem, ↓reduceIte, Nat.reduceAdd, Nat.reduceMul, Nat.reduceSub, Nat.reduceEqDiff, Nat.reduceLeDiff, Nat.reduceLT, Nat.reduceBEq, Int.reduceEq, reduceCtorEq, hb41, hg60]) (show_Ins_ok (of_true (by simp -implicitDefEqProofs -dsimp only [go_sem, ↓reduceIte, Nat.reduceAdd, Nat.reduceMul, Nat.reduceSub, Nat.reduceEqDiff, Nat.reduceLeDiff, Nat.reduceLT, Nat.reduceBEq, Int.reduceEq, reduceCtorEq, hb41, hg60]) h51))) ?_
          try simp -implicitDefEqProofs -dsimp only [go_sem, ↓reduceIte, Nat.reduceAdd, Nat.reduceMul, Nat.reduceSub, Nat.reduceEqDiff, Nat.reduceLeDiff, Nat.reduceLT, Nat.reduceBEq, Int.reduceEq, reduceCtorEq, hb41, hg60]
          with_reducible refine exP.mk (.pure ⟨[2], true, [.agg [.int .i64 v44.Op, .bool v44.Lock, .int .i64 v44.Cond, .int .i64 v44.A.Kind, .int .i64 v44.A.Reg, .int .i64 v44.A.Sym, .int .i64 v44.A.N, .int .i64 v44.B.Kind, .int .i64 v44.B.Reg, .int .i64 v44.B.Sym, .int .i64 v44.B.N, .str v44.To, .sl (v44.Labels.map eStr)], .sl (r31.map eStr)], .str v52⟩) (callQ.of (by simp -implicitDefEqProofs -dsimp only [go_sem, ↓reduceIte, Nat.reduceAdd, Nat.reduceMul, Nat.reduceSub, Nat.reduceEqDiff, Nat.reduceLeDiff, Nat.reduceLT, Nat.reduceBEq, Int.reduceEq, reduceCtorEq, hb41, hg60]) (by simp -implicitDefEqProofs -dsimp only [go_sem, ↓reduceIte, Nat.reduceAdd, Nat.reduceMul, Nat.reduceSub, Nat.reduceEqDiff, Nat.reduceLeDiff, Nat.reduceLT, Nat.reduceBEq, Int.reduceEq, reduceCtorEq, hb41, hg60]) (by simp -implicitDefEqProofs -dsimp only [go_sem, ↓reduceIte, Nat.reduceAdd, Nat.reduceMul, Nat.reduceSub, Nat.reduceEqDiff, Nat.reduceLeDiff, Nat.reduceLT, Nat.reduceBEq, Int.reduceEq, reduceCtorEq, hb41, hg60]) (fun _ => by simp -implicitDefEqProofs -dsimp only [go_sem, ↓reduceIte, Nat.reduceAdd, Nat.reduceMul, Nat.reduceSub, Nat.reduceEqDiff, Nat.reduceLeDiff, Nat.reduceLT, Nat.reduceBEq, Int.reduceEq, reduceCtorEq, hb41, hg60]) (palingref1_ShowIns_ok (of_true (by simp -implicitDefEqProofs -dsimp only [go_sem, ↓reduceIte, Nat.reduceAdd, Nat.reduceMul, Nat.reduceSub, Nat.reduceEqDiff, Nat.reduceLeDiff, Nat.reduceLT, Nat.reduceBEq, Int.reduceEq, reduceCtorEq, hb41, hg60]) h53))) ?_
          try simp -implicitDefEqProofs -dsimp only [go_sem, ↓reduceIte, Nat.reduceAdd, Nat.reduceMul, Nat.reduceSub, Nat.reduceEqDiff, Nat.reduceLeDiff, Nat.reduceLT, Nat.reduceBEq, Int.reduceEq, reduceCtorEq, hb41, hg60]
          refine onG_split (fun hg61 => ?_) (fun hg61 => ?_)
          · try simp -implicitDefEqProofs -dsimp only [go_sem, ↓reduceIte, Nat.reduceAdd, Nat.reduceMul, Nat.reduceSub, Nat.reduceEqDiff, Nat.reduceLeDiff, Nat.reduceLT, Nat.reduceBEq, Int.reduceEq, reduceCtorEq, hb41, hg60, hg61]
            with_reducible refine exB false ?_
            try simp -implicitDefEqProofs -dsimp only [go_sem, ↓reduceIte, Nat.reduceAdd, Nat.reduceMul, Nat.reduceSub, Nat.reduceEqDiff, Nat.reduceLeDiff, Nat.reduceLT, Nat.reduceBEq, Int.reduceEq, reduceCtorEq, hb41, hg60, hg61]
            with_reducible refine exP.mk _ (callQ.plain (by simp -implicitDefEqProofs -dsimp only [go_sem, ↓reduceIte, Nat.reduceAdd, Nat.reduceMul, Nat.reduceSub, Nat.reduceEqDiff, Nat.reduceLeDiff, Nat.reduceLT, Nat.reduceBEq, Int.reduceEq, reduceCtorEq, hb41, hg60, hg61]) (by have hk := show_Ins_ok (of_true (by simp -implicitDefEqProofs -dsimp only [go_sem, ↓reduceIte, Nat.reduceAdd, Nat.reduceMul, Nat.reduceSub, Nat.reduceEqDiff, Nat.reduceLeDiff, Nat.reduceLT, Nat.reduceBEq, Int.reduceEq, reduceCtorEq, hb41, hg60, hg61]) h55); (try simp only [hb41] at hk); (try simp only [List.map_cons, List.map_nil, eStr, eInt] at hk); exact hk)) ?_
            try simp -implicitDefEqProofs -dsimp only [go_sem, ↓reduceIte, Nat.reduceAdd, Nat.reduceMul, Nat.reduceSub, Nat.reduceEqDiff, Nat.reduceLeDiff, Nat.reduceLT, Nat.reduceBEq, Int.reduceEq, reduceCtorEq, hb41, hg60, hg61]
            with_reducible refine exB false ?_
            try simp -implicitDefEqProofs -dsimp only [go_sem, ↓reduceIte, Nat.reduceAdd, Nat.reduceMul, Nat.reduceSub, Nat.reduceEqDiff, Nat.reduceLeDiff, Nat.reduceLT, Nat.reduceBEq, Int.reduceEq, reduceCtorEq, hb41, hg60, hg61]
            with_reducible refine exP.mk _ (callQ.plain (by simp -implicitDefEqProofs -dsimp only [go_sem, ↓reduceIte, Nat.reduceAdd, Nat.reduceMul, Nat.reduceSub, Nat.reduceEqDiff, Nat.reduceLeDiff, Nat.reduceLT, Nat.reduceBEq, Int.reduceEq, reduceCtorEq, hb41, hg60, hg61]) (by have hk := palingref1_ShowIns_ok (of_true (by simp -implicitDefEqProofs -dsimp only [go_sem, ↓reduceIte, Nat.reduceAdd, Nat.reduceMul, Nat.reduceSub, Nat.reduceEqDiff, Nat.reduceLeDiff, Nat.reduceLT, Nat.reduceBEq, Int.reduceEq, reduceCtorEq, hb41, hg60, hg61]) h57); (try simp only [hb41] at hk); (try simp only [List.map_cons, List.map_nil, eStr, eInt] at hk); exact hk)) ?_
            try simp -implicitDefEqProofs -dsimp only [go_sem, ↓reduceIte, Nat.reduceAdd, Nat.reduceMul, Nat.reduceSub, Nat.reduceEqDiff, Nat.reduceLeDiff, Nat.reduceLT, Nat.reduceBEq, Int.reduceEq, reduceCtorEq, hb41, hg60, hg61]
            refine onG_split (fun hg62 => ?_) (fun hg62 => ?_)
            · try simp -implicitDefEqProofs -dsimp only [go_sem, ↓reduceIte, Nat.reduceAdd, Nat.reduceMul, Nat.reduceSub, Nat.reduceEqDiff, Nat.reduceLeDiff, Nat.reduceLT, Nat.reduceBEq, Int.reduceEq, reduceCtorEq, hb41, hg60, hg61, hg62]
              with_reducible refine exP.mk _ (callQ.plain (by simp -implicitDefEqProofs -dsimp only [go_sem, ↓reduceIte, Nat.reduceAdd, Nat.reduceMul, Nat.reduceSub, Nat.reduceEqDiff, Nat.reduceLeDiff, Nat.reduceLT, Nat.reduceBEq, Int.reduceEq, reduceCtorEq, hb41, hg60, hg61, hg62]) (by have hk := palinglaw9_alive_ok (of_true (by simp -implicitDefEqProofs -dsimp only [go_sem, ↓reduceIte, Nat.reduceAdd, Nat.reduceMul, Nat.reduceSub, Nat.reduceEqDiff, Nat.reduceLeDiff, Nat.reduceLT, Nat.reduceBEq, Int.reduceEq, reduceCtorEq, hb41, hg60, hg61, hg62]) h59); (try simp only [hb41] at hk); (try simp only [List.map_cons, List.map_nil, eStr, eInt] at hk); exact hk)) ?_
              try simp -implicitDefEqProofs -dsimp only [go_sem, ↓reduceIte, Nat.reduceAdd, Nat.reduceMul, Nat.reduceSub, Nat.reduceEqDiff, Nat.reduceLeDiff, Nat.reduceLT, Nat.reduceBEq, Int.reduceEq, reduceCtorEq, hb41, hg60, hg61, hg62]
            · try simp -implicitDefEqProofs -dsimp only [go_sem, ↓reduceIte, Nat.reduceAdd, Nat.reduceMul, Nat.reduceSub, Nat.reduceEqDiff, Nat.reduceLeDiff, Nat.reduceLT, Nat.reduceBEq, Int.reduceEq, reduceCtorEq, hb41, hg60, hg61, hg62]
          · try simp -implicitDefEqProofs -dsimp only [go_sem, ↓reduceIte, Nat.reduceAdd, Nat.reduceMul, Nat.reduceSub, Nat.reduceEqDiff, Nat.reduceLeDiff, Nat.reduceLT, Nat.reduceBEq, Int.reduceEq, reduceCtorEq, hb41, hg60, hg61]
        · try simp -implicitDefEqProofs -dsimp only [go_sem, ↓reduceIte, Nat.reduceAdd, Nat.reduceMul, Nat.reduceSub, Nat.reduceEqDiff, Nat.reduceLeDiff, Nat.reduceLT, Nat.reduceBEq, Int.reduceEq, reduceCtorEq, hb41, hg60]
      obtain rfl := Option.some.inj hm
      exact W.ret (EndsF.retW [] RO)


end Go.Proofs.YtocjejladeeckaaDoor
