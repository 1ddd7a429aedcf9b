import Derived.Test.YtlolkehjlkmcbaaDoorVFacts
import Derived.Test.YtlolkehjlkmcbaaDoorPalB
import Derived.Test.YtlolkehjlkmcbaaDoorWA
import Derived.Test.YtlolkehjlkmcbaaDoorWNum
import Derived.Test.YtlolkehjlkmcbaaDoorWNb
set_option maxRecDepth 100000
set_option maxHeartbeats 4000000
set_option linter.unusedSimpArgs false
set_option linter.unusedVariables false
set_option linter.unusedSectionVars false
namespace Go.Proofs.YtlolkehjlkmcbaaDoor
open Go.Vs
variable [TabP]
theorem state_Text_ok {p0 : T_api_State} {r : ByteArray} (hm : state_Text p0 = some r) : PureF Tryd.prog 11 [.agg [.sl (p0.Mem.map (eInt .i64)), .sl (p0.Thr.map e_api_Thr), .sl (p0.Bufs.map (eSl e_api_Entry)), .int .i64 p0.Lock]] (.str r) := by
  rw [state_Text] at hm
  refine PureF.of Tryd.func11 rfl Tryd.ntmps11 (Nat.le_of_ble_eq_true rfl) ?_
  have e0 : argS 0 [.agg [.sl (p0.Mem.map (eInt .i64)), .sl (p0.Thr.map e_api_Thr), .sl (p0.Bufs.map (eSl e_api_Entry)), .int .i64 p0.Lock]] = [(0, .agg [.sl (p0.Mem.map (eInt .i64)), .sl (p0.Thr.map e_api_Thr), .sl (p0.Bufs.map (eSl e_api_Entry)), .int .i64 p0.Lock])] := rfl
  rw [e0]
  refine W.sq [] [(1, .ptr 0 0 0)] [.cells (e_api_State p0) 0 26] ?_
  refine W.sq [] [(1, .ptr 0 0 0), (3, .ptr 1 0 0)] [.cells (e_api_State p0) 0 26, .cells [.optp 1, .msl 2 0 0 1 (⟨#[]⟩ : ByteArray).size (⟨#[]⟩ : ByteArray).size] 0 49, .rows (sB (⟨#[]⟩ : ByteArray)) 1 0 5] ?_
  replace hm := of_bind hm
  obtain ⟨s1, h2, hm⟩ := hm
  refine W.sq [] [(1, .ptr 0 0 0), (3, .ptr 1 0 0)] [.cells (e_api_State p0) 0 26, .cells [.optp 1, .msl 2 (0 + (2 * (p0.Mem).length - 1)) 0 1 s1.size s1.size] 0 49, .rows (sB s1) 1 (0 + (2 * (p0.Mem).length - 1)) 5] ?_ (hrun := ?_)
  rotate_left
  · try simp -implicitDefEqProofs -dsimp only [go_sem, ↓reduceIte, Nat.reduceAdd, Nat.reduceMul, Nat.reduceSub, Nat.reduceEqDiff, Nat.reduceLeDiff, Nat.reduceLT, Nat.reduceBEq, Int.reduceEq, reduceCtorEq]
    with_reducible refine exP.mk (.heap ⟨[], [1, 2], [.ptr 0 0 0, .sl (p0.Mem.map (eInt .i64))], [.cells [.optp 0, .msl 1 0 0 1 (⟨#[]⟩ : ByteArray).size (⟨#[]⟩ : ByteArray).size] 0 49, .rows (sB (⟨#[]⟩ : ByteArray)) 1 0 5], .tuple [], [.cells [.optp 0, .msl 1 (0 + (2 * (p0.Mem).length - 1)) 0 1 s1.size s1.size] 0 49, .rows (sB s1) 1 (0 + (2 * (p0.Mem).length - 1)) 5]⟩) (callQ.ofH (by simp -implicitDefEqProofs -dsimp only [go_sem, ↓reduceIte, Nat.reduceAdd, Nat.reduceMul, Nat.reduceSub, Nat.reduceEqDiff, Nat.reduceLeDiff, Nat.reduceLT, Nat.reduceBEq, Int.reduceEq, reduceCtorEq]) (by have hk := state_numbers_ok 0 h2; exact hk)) ?_
    try simp -implicitDefEqProofs -dsimp only [go_sem, ↓reduceIte, Nat.reduceAdd, Nat.reduceMul, Nat.reduceSub, Nat.reduceEqDiff, Nat.reduceLeDiff, Nat.reduceLT, Nat.reduceBEq, Int.reduceEq, reduceCtorEq]
  refine W.seq ?_
  refine W.sq [] [(1, .ptr 0 0 0), (3, .ptr 1 0 0), (14, .sl (p0.Thr.map e_api_Thr)), (15, .int .i64 (p0.Thr.length : Int)), (16, .int .i64 0)] [.cells (e_api_State p0) 0 26, .cells [.optp 1, .msl 2 (0 + (2 * (p0.Mem).length - 1)) 0 1 s1.size s1.size] 0 49, .rows (sB s1) 1 (0 + (2 * (p0.Mem).length - 1)) 5] ?_
  refine W.block ?_
  replace hm := of_bind hm
  obtain ⟨r92, hlr92, hm⟩ := hm
  refine W.mono (Q := fun e0 s0 h0 => e0 = .exit 0 ∧ ∃ w : Nat, s0 = [(1, .ptr 0 0 0), (3, .ptr 1 0 0)] ∧ h0 = [.cells (e_api_State p0) 0 26, .cells [.optp 1, .msl 2 w 0 1 r92.size r92.size] 0 49, .rows (sB r92) 1 w 5]) (W.loopM (step := state_Text_s1 p0) (a0 := (0, s1)) (fun (a : Int × ByteArray) (v : Nat) => ([(1, .ptr 0 0 0), (3, .ptr 1 0 0), (14, .sl (p0.Thr.map e_api_Thr)), (15, .int .i64 (p0.Thr.length : Int)), (16, .int .i64 a.1)], [.cells (e_api_State p0) 0 26, .cells [.optp 1, .msl 2 v 0 1 a.2.size a.2.size] 0 49, .rows (sB a.2) 1 v 5])) (0 + (2 * (p0.Mem).length - 1)) hlr92 ⟨[], []⟩ RO ?_) ?_
  · rintro ⟨i60, s61⟩ w62 x hm hx
    rw [state_Text_s1] at hm
    show WK _ _ _ _ _ [(1, .ptr 0 0 0), (3, .ptr 1 0 0), (14, .sl (p0.Thr.map e_api_Thr)), (15, .int .i64 (p0.Thr.length : Int)), (16, .int .i64 i60)] [.cells (e_api_State p0) 0 26, .cells [.optp 1, .msl 2 w62 0 1 s61.size s61.size] 0 49, .rows (sB s61) 1 w62 5]
    refine W.sq [] [(1, .ptr 0 0 0), (3, .ptr 1 0 0), (14, .sl (p0.Thr.map e_api_Thr)), (15, .int .i64 (p0.Thr.length : Int)), (16, .int .i64 i60), (17, .bool (decide (i60 < (p0.Thr.length : Int))))] [.cells (e_api_State p0) 0 26, .cells [.optp 1, .msl 2 w62 0 1 s61.size s61.size] 0 49, .rows (sB s61) 1 w62 5] ?_
    refine W.seq ?_
    refine W.cnd (decide (i60 < (p0.Thr.length : Int))) (fun hb93 => ?_) (fun hb93 => ?_)
    · replace hm := of_true hb93 hm
      refine W.skip ?_
      refine W.seq ?_
      refine W.block ?_
      replace hm := of_ite hm
      obtain ⟨h94, hm⟩ := hm
      refine W.sq [] [(1, .ptr 0 0 0), (3, .ptr 1 0 0), (5, .ptr 3 0 0), (14, .sl (p0.Thr.map e_api_Thr)), (15, .int .i64 (p0.Thr.length : Int)), (16, .int .i64 i60)] [.cells (e_api_State p0) 0 26, .cells [.optp 1, .msl 2 w62 0 1 s61.size s61.size] 0 49, .rows (sB s61) 1 w62 5, .cells (e_api_Thr (rd p0.Thr i60)) 0 39] ?_
      replace hm := of_bind hm
      obtain ⟨v95, h96, hm⟩ := hm
      replace hm := of_ite hm
      obtain ⟨h97, hm⟩ := hm
      replace hm := of_ite hm
      obtain ⟨h98, hm⟩ := hm
      replace hm := of_bind hm
      obtain ⟨v99, h100, hm⟩ := hm
      replace hm := of_ite hm
      obtain ⟨h101, hm⟩ := hm
      replace hm := of_ite hm
      obtain ⟨h102, hm⟩ := hm
      replace hm := of_bind hm
      obtain ⟨v103, h104, hm⟩ := hm
      replace hm := of_ite hm
      obtain ⟨h105, hm⟩ := hm
      replace hm := of_ite hm
      obtain ⟨h106, hm⟩ := hm
      replace hm := of_bind hm
      obtain ⟨v107, h108, hm⟩ := hm
      replace hm := of_ite hm
      obtain ⟨h109, hm⟩ := hm
      replace hm := of_ite hm
      obtain ⟨h110, hm⟩ := hm
      replace hm := of_bind hm
      obtain ⟨v111, h112, hm⟩ := hm
      replace hm := of_ite hm
      obtain ⟨h113, hm⟩ := hm
      replace hm := of_ite hm
      obtain ⟨h114, hm⟩ := hm
      replace hm := of_ite hm
      obtain ⟨h115, hm⟩ := hm
      replace hm := of_let hm
      obtain ⟨s116, h117, hm⟩ := hm
      refine W.sqJ [25] [] [] 0 [] [(1, .ptr 0 0 0), (3, .ptr 1 0 0), (5, .ptr 3 0 0), (14, .sl (p0.Thr.map e_api_Thr)), (15, .int .i64 (p0.Thr.length : Int)), (16, .int .i64 i60)] [.cells (e_api_State p0) 0 26, .cells [.optp 1, .msl 2 (w62 + 1) 0 1 s116.size s116.size] 0 49, .rows (sB s116) 1 (w62 + 1) 5, .cells (e_api_Thr (rd p0.Thr i60)) 0 39] v_mixed ?_ (hrun := ?_)
      rotate_left
      · try simp -implicitDefEqProofs -dsimp only [go_sem, ↓reduceIte, Nat.reduceAdd, Nat.reduceMul, Nat.reduceSub, Nat.reduceEqDiff, Nat.reduceLeDiff, Nat.reduceLT, Nat.reduceBEq, Int.reduceEq, reduceCtorEq, hb93, h94, h97, h98, h101, h102, h105, h106, h109, h110, h113, h114, h115, h117]
        with_reducible refine exP.mk _ (callQ.plain (by simp -implicitDefEqProofs -dsimp only [go_sem, ↓reduceIte, Nat.reduceAdd, Nat.reduceMul, Nat.reduceSub, Nat.reduceEqDiff, Nat.reduceLeDiff, Nat.reduceLT, Nat.reduceBEq, Int.reduceEq, reduceCtorEq, hb93, h94, h97, h98, h101, h102, h105, h106, h109, h110, h113, h114, h115, h117]) (by have hk := num_Text_ok h96; (try simp only [hb93] at hk); (try simp only [List.map_cons, List.map_nil, eStr, eInt] at hk); exact hk)) ?_
        try simp -implicitDefEqProofs -dsimp only [go_sem, ↓reduceIte, Nat.reduceAdd, Nat.reduceMul, Nat.reduceSub, Nat.reduceEqDiff, Nat.reduceLeDiff, Nat.reduceLT, Nat.reduceBEq, Int.reduceEq, reduceCtorEq, hb93, h94, h97, h98, h101, h102, h105, h106, h109, h110, h113, h114, h115, h117]
        with_reducible refine exP.mk _ (callQ.plain (by simp -implicitDefEqProofs -dsimp only [go_sem, ↓reduceIte, Nat.reduceAdd, Nat.reduceMul, Nat.reduceSub, Nat.reduceEqDiff, Nat.reduceLeDiff, Nat.reduceLT, Nat.reduceBEq, Int.reduceEq, reduceCtorEq, hb93, h94, h97, h98, h101, h102, h105, h106, h109, h110, h113, h114, h115, h117]) (by have hk := num_Text_ok h100; (try simp only [hb93] at hk); (try simp only [List.map_cons, List.map_nil, eStr, eInt] at hk); exact hk)) ?_
        try simp -implicitDefEqProofs -dsimp only [go_sem, ↓reduceIte, Nat.reduceAdd, Nat.reduceMul, Nat.reduceSub, Nat.reduceEqDiff, Nat.reduceLeDiff, Nat.reduceLT, Nat.reduceBEq, Int.reduceEq, reduceCtorEq, hb93, h94, h97, h98, h101, h102, h105, h106, h109, h110, h113, h114, h115, h117]
        with_reducible refine exP.mk _ (callQ.plain (by simp -implicitDefEqProofs -dsimp only [go_sem, ↓reduceIte, Nat.reduceAdd, Nat.reduceMul, Nat.reduceSub, Nat.reduceEqDiff, Nat.reduceLeDiff, Nat.reduceLT, Nat.reduceBEq, Int.reduceEq, reduceCtorEq, hb93, h94, h97, h98, h101, h102, h105, h106, h109, h110, h113, h114, h115, h117]) (by have hk := num_Text_ok h104; (try simp only [hb93] at hk); (try simp only [List.map_cons, List.map_nil, eStr, eInt] at hk); exact hk)) ?_
        try simp -implicitDefEqProofs -dsimp only [go_sem, ↓reduceIte, Nat.reduceAdd, Nat.reduceMul, Nat.reduceSub, Nat.reduceEqDiff, Nat.reduceLeDiff, Nat.reduceLT, Nat.reduceBEq, Int.reduceEq, reduceCtorEq, hb93, h94, h97, h98, h101, h102, h105, h106, h109, h110, h113, h114, h115, h117]
        with_reducible refine exP.mk _ (callQ.plain (by simp -implicitDefEqProofs -dsimp only [go_sem, ↓reduceIte, Nat.reduceAdd, Nat.reduceMul, Nat.reduceSub, Nat.reduceEqDiff, Nat.reduceLeDiff, Nat.reduceLT, Nat.reduceBEq, Int.reduceEq, reduceCtorEq, hb93, h94, h97, h98, h101, h102, h105, h106, h109, h110, h113, h114, h115, h117]) (by have hk := num_Text_ok h108; (try simp only [hb93] at hk); (try simp only [List.map_cons, List.map_nil, eStr, eInt] at hk); exact hk)) ?_
        try simp -implicitDefEqProofs -dsimp only [go_sem, ↓reduceIte, Nat.reduceAdd, Nat.reduceMul, Nat.reduceSub, Nat.reduceEqDiff, Nat.reduceLeDiff, Nat.reduceLT, Nat.reduceBEq, Int.reduceEq, reduceCtorEq, hb93, h94, h97, h98, h101, h102, h105, h106, h109, h110, h113, h114, h115, h117]
        with_reducible refine exP.mk _ (callQ.plain (by simp -implicitDefEqProofs -dsimp only [go_sem, ↓reduceIte, Nat.reduceAdd, Nat.reduceMul, Nat.reduceSub, Nat.reduceEqDiff, Nat.reduceLeDiff, Nat.reduceLT, Nat.reduceBEq, Int.reduceEq, reduceCtorEq, hb93, h94, h97, h98, h101, h102, h105, h106, h109, h110, h113, h114, h115, h117]) (by have hk := state_flags_ok h112; (try simp only [hb93] at hk); (try simp only [List.map_cons, List.map_nil, eStr, eInt] at hk); exact hk)) ?_
        try simp -implicitDefEqProofs -dsimp only [go_sem, ↓reduceIte, Nat.reduceAdd, Nat.reduceMul, Nat.reduceSub, Nat.reduceEqDiff, Nat.reduceLeDiff, Nat.reduceLT, Nat.reduceBEq, Int.reduceEq, reduceCtorEq, hb93, h94, h97, h98, h101, h102, h105, h106, h109, h110, h113, h114, h115, h117]
        with_reducible refine exP.mk (.heap ⟨[], [1, 2], [.ptr 0 0 0, .str (((((((((((⟨#[124]⟩ : ByteArray) ++ v95) ++ (⟨#[46]⟩ : ByteArray)) ++ v99) ++ (⟨#[46]⟩ : ByteArray)) ++ v103) ++ (⟨#[46]⟩ : ByteArray)) ++ v107) ++ (⟨#[46]⟩ : ByteArray)) ++ v111) ++ (⟨#[46]⟩ : ByteArray))], [.cells [.optp 0, .msl 1 w62 0 1 s61.size s61.size] 0 49, .rows (sB s61) 1 w62 5], .tuple [.int .i64 (((((((((((⟨#[124]⟩ : ByteArray) ++ v95) ++ (⟨#[46]⟩ : ByteArray)) ++ v99) ++ (⟨#[46]⟩ : ByteArray)) ++ v103) ++ (⟨#[46]⟩ : ByteArray)) ++ v107) ++ (⟨#[46]⟩ : ByteArray)) ++ v111) ++ (⟨#[46]⟩ : ByteArray)).size, .nili], [.cells [.optp 0, .msl 1 (w62 + 1) 0 1 (s61.size + (((((((((((⟨#[124]⟩ : ByteArray) ++ v95) ++ (⟨#[46]⟩ : ByteArray)) ++ v99) ++ (⟨#[46]⟩ : ByteArray)) ++ v103) ++ (⟨#[46]⟩ : ByteArray)) ++ v107) ++ (⟨#[46]⟩ : ByteArray)) ++ v111) ++ (⟨#[46]⟩ : ByteArray)).size) (s61.size + (((((((((((⟨#[124]⟩ : ByteArray) ++ v95) ++ (⟨#[46]⟩ : ByteArray)) ++ v99) ++ (⟨#[46]⟩ : ByteArray)) ++ v103) ++ (⟨#[46]⟩ : ByteArray)) ++ v107) ++ (⟨#[46]⟩ : ByteArray)) ++ v111) ++ (⟨#[46]⟩ : ByteArray)).size)] 0 49, .rows (sB (s61 ++ (((((((((((⟨#[124]⟩ : ByteArray) ++ v95) ++ (⟨#[46]⟩ : ByteArray)) ++ v99) ++ (⟨#[46]⟩ : ByteArray)) ++ v103) ++ (⟨#[46]⟩ : ByteArray)) ++ v107) ++ (⟨#[46]⟩ : ByteArray)) ++ v111) ++ (⟨#[46]⟩ : ByteArray)))) 1 (w62 + 1) 5]⟩) (callQ.ofH (by simp -implicitDefEqProofs -dsimp only [go_sem, ↓reduceIte, Nat.reduceAdd, Nat.reduceMul, Nat.reduceSub, Nat.reduceEqDiff, Nat.reduceLeDiff, Nat.reduceLT, Nat.reduceBEq, Int.reduceEq, reduceCtorEq, hb93, h94, h97, h98, h101, h102, h105, h106, h109, h110, h113, h114, h115, h117]) (WriteString_ok s61 (((((((((((⟨#[124]⟩ : ByteArray) ++ v95) ++ (⟨#[46]⟩ : ByteArray)) ++ v99) ++ (⟨#[46]⟩ : ByteArray)) ++ v103) ++ (⟨#[46]⟩ : ByteArray)) ++ v107) ++ (⟨#[46]⟩ : ByteArray)) ++ v111) ++ (⟨#[46]⟩ : ByteArray)) w62 h115)) ?_
        try simp -implicitDefEqProofs -dsimp only [go_sem, ↓reduceIte, Nat.reduceAdd, Nat.reduceMul, Nat.reduceSub, Nat.reduceEqDiff, Nat.reduceLeDiff, Nat.reduceLT, Nat.reduceBEq, Int.reduceEq, reduceCtorEq, hb93, h94, h97, h98, h101, h102, h105, h106, h109, h110, h113, h114, h115, h117]
      clear h117
      replace hm := of_bind hm
      obtain ⟨s118, h119, hm⟩ := hm
      refine W.weak ⟨[3], []⟩ (show AT _ ⟨[3], []⟩ [(1, .ptr 0 0 0), (3, .ptr 1 0 0), (5, .iptr (e_api_Thr (rd p0.Thr i60)) 0), (14, .sl (p0.Thr.map e_api_Thr)), (15, .int .i64 (p0.Thr.length : Int)), (16, .int .i64 i60)] [.cells (e_api_State p0) 0 26, .cells [.optp 1, .msl 2 (w62 + 1) 0 1 s116.size s116.size] 0 49, .rows (sB s116) 1 (w62 + 1) 5, .dead] _ _ from RO) ?_
      refine W.rg [] [(1, .ptr 0 0 0), (3, .ptr 1 0 0), (14, .sl (p0.Thr.map e_api_Thr)), (15, .int .i64 (p0.Thr.length : Int)), (16, .int .i64 i60)] [.cells (e_api_State p0) 0 26, .cells [.optp 1, .msl 2 ((w62 + 1) + 15) 0 1 s118.size s118.size] 0 49, .rows (sB s118) 1 ((w62 + 1) + 15) 5] ?_ (hrun := ?_)
      rotate_left
      · try simp -implicitDefEqProofs -dsimp only [go_sem, ↓reduceIte, Nat.reduceAdd, Nat.reduceMul, Nat.reduceSub, Nat.reduceEqDiff, Nat.reduceLeDiff, Nat.reduceLT, Nat.reduceBEq, Int.reduceEq, reduceCtorEq, hb93, h94, h97, h98, h101, h102, h105, h106, h109, h110, h113, h114, h115]
        with_reducible refine exP.mk (.heap ⟨[], [1, 2], [.ptr 0 0 0, .sl [[.int .i64 ((rd p0.Thr i60).Regs.a0)], [.int .i64 ((rd p0.Thr i60).Regs.a1)], [.int .i64 ((rd p0.Thr i60).Regs.a2)], [.int .i64 ((rd p0.Thr i60).Regs.a3)], [.int .i64 ((rd p0.Thr i60).Regs.a4)], [.int .i64 ((rd p0.Thr i60).Regs.a5)], [.int .i64 ((rd p0.Thr i60).Regs.a6)], [.int .i64 ((rd p0.Thr i60).Regs.a7)]]], [.cells [.optp 0, .msl 1 (w62 + 1) 0 1 s116.size s116.size] 0 49, .rows (sB s116) 1 (w62 + 1) 5], .tuple [], [.cells [.optp 0, .msl 1 ((w62 + 1) + 15) 0 1 s118.size s118.size] 0 49, .rows (sB s118) 1 ((w62 + 1) + 15) 5]⟩) (callQ.ofH (by simp -implicitDefEqProofs -dsimp only [go_sem, ↓reduceIte, Nat.reduceAdd, Nat.reduceMul, Nat.reduceSub, Nat.reduceEqDiff, Nat.reduceLeDiff, Nat.reduceLT, Nat.reduceBEq, Int.reduceEq, reduceCtorEq, hb93, h94, h97, h98, h101, h102, h105, h106, h109, h110, h113, h114, h115]) (by have hk := state_numbers_ok (w62 + 1) h119; simp only [List.map_cons, List.map_nil, eInt, List.length_cons, List.length_nil, Nat.reduceAdd, Nat.reduceMul, Nat.reduceSub] at hk; exact hk)) ?_
        try simp -implicitDefEqProofs -dsimp only [go_sem, ↓reduceIte, Nat.reduceAdd, Nat.reduceMul, Nat.reduceSub, Nat.reduceEqDiff, Nat.reduceLeDiff, Nat.reduceLT, Nat.reduceBEq, Int.reduceEq, reduceCtorEq, hb93, h94, h97, h98, h101, h102, h105, h106, h109, h110, h113, h114, h115]
      refine W.rg [] [(1, .ptr 0 0 0), (3, .ptr 1 0 0), (14, .sl (p0.Thr.map e_api_Thr)), (15, .int .i64 (p0.Thr.length : Int)), (16, .int .i64 (IntKind.wrap .i64 (i60 + 1)))] [.cells (e_api_State p0) 0 26, .cells [.optp 1, .msl 2 ((w62 + 1) + 15) 0 1 s118.size s118.size] 0 49, .rows (sB s118) 1 ((w62 + 1) + 15) 5] ?_
      obtain rfl := Option.some.inj hm
      exact ⟨((IntKind.wrap .i64 (i60 + 1)), s118), ((w62 + 1) + 15), ⟨[], []⟩, rfl, RO⟩
    · replace hm := of_false hb93 hm
      obtain rfl := Option.some.inj hm
      obtain rfl := hx _ rfl
      exact W.weak ⟨[], []⟩ (show AT _ ⟨[], []⟩ [(1, .ptr 0 0 0), (3, .ptr 1 0 0)] [.cells (e_api_State p0) 0 26, .cells [.optp 1, .msl 2 w62 0 1 s61.size s61.size] 0 49, .rows (sB s61) 1 w62 5] _ _ from RO) (W.exit (show _ ∧ _ from ⟨rfl, w62, rfl, rfl⟩))
  · rintro e0 s0 h0 ⟨rfl, w91, rfl, rfl⟩
    show WK _ _ _ _ _ [(1, .ptr 0 0 0), (3, .ptr 1 0 0)] [.cells (e_api_State p0) 0 26, .cells [.optp 1, .msl 2 w91 0 1 r92.size r92.size] 0 49, .rows (sB r92) 1 w91 5]
    refine W.seq ?_
    refine W.sq [] [(1, .ptr 0 0 0), (3, .ptr 1 0 0), (51, .sl (p0.Bufs.map (eSl e_api_Entry))), (52, .int .i64 (p0.Bufs.length : Int)), (53, .int .i64 0)] [.cells (e_api_State p0) 0 26, .cells [.optp 1, .msl 2 w91 0 1 r92.size r92.size] 0 49, .rows (sB r92) 1 w91 5] ?_
    refine W.block ?_
    replace hm := of_bind hm
    obtain ⟨r329, hlr329, hm⟩ := hm
    refine W.mono (Q := fun e0 s0 h0 => e0 = .exit 2 ∧ ∃ w : Nat, s0 = [(1, .ptr 0 0 0), (3, .ptr 1 0 0)] ∧ h0 = [.cells (e_api_State p0) 0 26, .cells [.optp 1, .msl 2 w 0 1 r329.size r329.size] 0 49, .rows (sB r329) 1 w 5]) (W.loopM (step := state_Text_s2 p0) (a0 := (0, r92)) (fun (a : Int × ByteArray) (v : Nat) => ([(1, .ptr 0 0 0), (3, .ptr 1 0 0), (51, .sl (p0.Bufs.map (eSl e_api_Entry))), (52, .int .i64 (p0.Bufs.length : Int)), (53, .int .i64 a.1)], [.cells (e_api_State p0) 0 26, .cells [.optp 1, .msl 2 v 0 1 a.2.size a.2.size] 0 49, .rows (sB a.2) 1 v 5])) w91 hlr329 ⟨[], []⟩ RO ?_) ?_
    · rintro ⟨i257, s258⟩ w259 x hm hx
      rw [state_Text_s2] at hm
      show WK _ _ _ _ _ [(1, .ptr 0 0 0), (3, .ptr 1 0 0), (51, .sl (p0.Bufs.map (eSl e_api_Entry))), (52, .int .i64 (p0.Bufs.length : Int)), (53, .int .i64 i257)] [.cells (e_api_State p0) 0 26, .cells [.optp 1, .msl 2 w259 0 1 s258.size s258.size] 0 49, .rows (sB s258) 1 w259 5]
      refine W.sq [] [(1, .ptr 0 0 0), (3, .ptr 1 0 0), (51, .sl (p0.Bufs.map (eSl e_api_Entry))), (52, .int .i64 (p0.Bufs.length : Int)), (53, .int .i64 i257), (54, .bool (decide (i257 < (p0.Bufs.length : Int))))] [.cells (e_api_State p0) 0 26, .cells [.optp 1, .msl 2 w259 0 1 s258.size s258.size] 0 49, .rows (sB s258) 1 w259 5] ?_
      refine W.seq ?_
      refine W.cnd (decide (i257 < (p0.Bufs.length : Int))) (fun hb330 => ?_) (fun hb330 => ?_)
      · replace hm := of_true hb330 hm
        refine W.skip ?_
        refine W.seq ?_
        refine W.block ?_
        replace hm := of_ite hm
        obtain ⟨h331, hm⟩ := hm
        refine W.sq [] [(1, .ptr 0 0 0), (3, .ptr 1 0 0), (7, .sl ((rd p0.Bufs i257).map e_api_Entry)), (51, .sl (p0.Bufs.map (eSl e_api_Entry))), (52, .int .i64 (p0.Bufs.length : Int)), (53, .int .i64 i257)] [.cells (e_api_State p0) 0 26, .cells [.optp 1, .msl 2 w259 0 1 s258.size s258.size] 0 49, .rows (sB s258) 1 w259 5] ?_
        replace hm := of_ite hm
        obtain ⟨h332, hm⟩ := hm
        replace hm := of_let hm
        obtain ⟨s333, h334, hm⟩ := hm
        refine W.sq [] [(1, .ptr 0 0 0), (3, .ptr 1 0 0), (7, .sl ((rd p0.Bufs i257).map e_api_Entry)), (51, .sl (p0.Bufs.map (eSl e_api_Entry))), (52, .int .i64 (p0.Bufs.length : Int)), (53, .int .i64 i257)] [.cells (e_api_State p0) 0 26, .cells [.optp 1, .msl 2 (w259 + 1) 0 1 s333.size s333.size] 0 49, .rows (sB s333) 1 (w259 + 1) 5] ?_ (hrun := ?_)
        rotate_left
        · try simp -implicitDefEqProofs -dsimp only [go_sem, ↓reduceIte, Nat.reduceAdd, Nat.reduceMul, Nat.reduceSub, Nat.reduceEqDiff, Nat.reduceLeDiff, Nat.reduceLT, Nat.reduceBEq, Int.reduceEq, reduceCtorEq, hb330, h331, h332, h334]
          with_reducible refine exP.mk (.heap ⟨[], [1, 2], [.ptr 0 0 0, .str (⟨#[40]⟩ : ByteArray)], [.cells [.optp 0, .msl 1 w259 0 1 s258.size s258.size] 0 49, .rows (sB s258) 1 w259 5], .tuple [.int .i64 (⟨#[40]⟩ : ByteArray).size, .nili], [.cells [.optp 0, .msl 1 (w259 + 1) 0 1 (s258.size + (⟨#[40]⟩ : ByteArray).size) (s258.size + (⟨#[40]⟩ : ByteArray).size)] 0 49, .rows (sB (s258 ++ (⟨#[40]⟩ : ByteArray))) 1 (w259 + 1) 5]⟩) (callQ.ofH (by simp -implicitDefEqProofs -dsimp only [go_sem, ↓reduceIte, Nat.reduceAdd, Nat.reduceMul, Nat.reduceSub, Nat.reduceEqDiff, Nat.reduceLeDiff, Nat.reduceLT, Nat.reduceBEq, Int.reduceEq, reduceCtorEq, hb330, h331, h332, h334]) (WriteString_ok s258 (⟨#[40]⟩ : ByteArray) w259 h332)) ?_
          try simp -implicitDefEqProofs -dsimp only [go_sem, ↓reduceIte, Nat.reduceAdd, Nat.reduceMul, Nat.reduceSub, Nat.reduceEqDiff, Nat.reduceLeDiff, Nat.reduceLT, Nat.reduceBEq, Int.reduceEq, reduceCtorEq, hb330, h331, h332, h334]
        clear h334
        refine W.seq ?_
        refine W.sq [] [(1, .ptr 0 0 0), (3, .ptr 1 0 0), (51, .sl (p0.Bufs.map (eSl e_api_Entry))), (52, .int .i64 (p0.Bufs.length : Int)), (53, .int .i64 i257), (58, .sl ((rd p0.Bufs i257).map e_api_Entry)), (59, .int .i64 ((rd p0.Bufs i257).length : Int)), (60, .int .i64 0)] [.cells (e_api_State p0) 0 26, .cells [.optp 1, .msl 2 (w259 + 1) 0 1 s333.size s333.size] 0 49, .rows (sB s333) 1 (w259 + 1) 5] ?_
        refine W.block ?_
        replace hm := of_bind hm
        obtain ⟨r393, hlr393, hm⟩ := hm
        refine W.mono (Q := fun e0 s0 h0 => e0 = .exit 4 ∧ ∃ w : Nat, s0 = [(1, .ptr 0 0 0), (3, .ptr 1 0 0), (51, .sl (p0.Bufs.map (eSl e_api_Entry))), (52, .int .i64 (p0.Bufs.length : Int)), (53, .int .i64 i257)] ∧ h0 = [.cells (e_api_State p0) 0 26, .cells [.optp 1, .msl 2 w 0 1 r393.size r393.size] 0 49, .rows (sB r393) 1 w 5]) (W.loopM (step := state_Text_s3 p0 i257) (a0 := (0, s333)) (fun (a : Int × ByteArray) (v : Nat) => ([(1, .ptr 0 0 0), (3, .ptr 1 0 0), (51, .sl (p0.Bufs.map (eSl e_api_Entry))), (52, .int .i64 (p0.Bufs.length : Int)), (53, .int .i64 i257), (58, .sl ((rd p0.Bufs i257).map e_api_Entry)), (59, .int .i64 ((rd p0.Bufs i257).length : Int)), (60, .int .i64 a.1)], [.cells (e_api_State p0) 0 26, .cells [.optp 1, .msl 2 v 0 1 a.2.size a.2.size] 0 49, .rows (sB a.2) 1 v 5])) (w259 + 1) hlr393 ⟨[], []⟩ RO ?_) ?_
        · rintro ⟨i369, s370⟩ w371 x hm hx
          rw [state_Text_s3] at hm
          show WK _ _ _ _ _ [(1, .ptr 0 0 0), (3, .ptr 1 0 0), (51, .sl (p0.Bufs.map (eSl e_api_Entry))), (52, .int .i64 (p0.Bufs.length : Int)), (53, .int .i64 i257), (58, .sl ((rd p0.Bufs i257).map e_api_Entry)), (59, .int .i64 ((rd p0.Bufs i257).length : Int)), (60, .int .i64 i369)] [.cells (e_api_State p0) 0 26, .cells [.optp 1, .msl 2 w371 0 1 s370.size s370.size] 0 49, .rows (sB s370) 1 w371 5]
          refine W.sq [] [(1, .ptr 0 0 0), (3, .ptr 1 0 0), (51, .sl (p0.Bufs.map (eSl e_api_Entry))), (52, .int .i64 (p0.Bufs.length : Int)), (53, .int .i64 i257), (58, .sl ((rd p0.Bufs i257).map e_api_Entry)), (59, .int .i64 ((rd p0.Bufs i257).length : Int)), (60, .int .i64 i369), (61, .bool (decide (i369 < ((rd p0.Bufs i257).length : Int))))] [.cells (e_api_State p0) 0 26, .cells [.optp 1, .msl 2 w371 0 1 s370.size s370.size] 0 49, .rows (sB s370) 1 w371 5] ?_
          refine W.seq ?_
          refine W.cnd (decide (i369 < ((rd p0.Bufs i257).length : Int))) (fun hb394 => ?_) (fun hb394 => ?_)
          · replace hm := of_true hb394 hm
            refine W.skip ?_
            refine W.cut (fun s h => ∃ (v : ByteArray) (w : Nat) (F : Gs), state_Text_j1 i369 v = some x ∧ AT 0 F [(1, .ptr 0 0 0), (3, .ptr 1 0 0), (51, .sl (p0.Bufs.map (eSl e_api_Entry))), (52, .int .i64 (p0.Bufs.length : Int)), (53, .int .i64 i257), (58, .sl ((rd p0.Bufs i257).map e_api_Entry)), (59, .int .i64 ((rd p0.Bufs i257).length : Int)), (60, .int .i64 i369)] [.cells (e_api_State p0) 0 26, .cells [.optp 1, .msl 2 w 0 1 v.size v.size] 0 49, .rows (sB v) 1 w 5] s h) ?_ ?_
            · refine W.block ?_
              replace hm := of_ite hm
              obtain ⟨h397, hm⟩ := hm
              refine W.sq [] [(1, .ptr 0 0 0), (3, .ptr 1 0 0), (8, .int .i64 i369), (9, .ptr 3 0 0), (51, .sl (p0.Bufs.map (eSl e_api_Entry))), (52, .int .i64 (p0.Bufs.length : Int)), (53, .int .i64 i257), (58, .sl ((rd p0.Bufs i257).map e_api_Entry)), (59, .int .i64 ((rd p0.Bufs i257).length : Int)), (60, .int .i64 i369)] [.cells (e_api_State p0) 0 26, .cells [.optp 1, .msl 2 w371 0 1 s370.size s370.size] 0 49, .rows (sB s370) 1 w371 5, .cells (e_api_Entry (rd (rd p0.Bufs i257) i369)) 0 42] ?_
              refine W.cut (fun s h => ∃ (v : ByteArray) (w : Nat) (F : Gs), state_Text_j2 p0 i257 i369 v = some x ∧ AT 0 F [(1, .ptr 0 0 0), (3, .ptr 1 0 0), (9, .ptr 3 0 0), (51, .sl (p0.Bufs.map (eSl e_api_Entry))), (52, .int .i64 (p0.Bufs.length : Int)), (53, .int .i64 i257), (58, .sl ((rd p0.Bufs i257).map e_api_Entry)), (59, .int .i64 ((rd p0.Bufs i257).length : Int)), (60, .int .i64 i369)] [.cells (e_api_State p0) 0 26, .cells [.optp 1, .msl 2 w 0 1 v.size v.size] 0 49, .rows (sB v) 1 w 5, .cells (e_api_Entry (rd (rd p0.Bufs i257) i369)) 0 42] s h) ?_ ?_
              · refine W.sq [] [(1, .ptr 0 0 0), (3, .ptr 1 0 0), (9, .ptr 3 0 0), (51, .sl (p0.Bufs.map (eSl e_api_Entry))), (52, .int .i64 (p0.Bufs.length : Int)), (53, .int .i64 i257), (58, .sl ((rd p0.Bufs i257).map e_api_Entry)), (59, .int .i64 ((rd p0.Bufs i257).length : Int)), (60, .int .i64 i369), (66, .bool (decide (i369 > 0)))] [.cells (e_api_State p0) 0 26, .cells [.optp 1, .msl 2 w371 0 1 s370.size s370.size] 0 49, .rows (sB s370) 1 w371 5, .cells (e_api_Entry (rd (rd p0.Bufs i257) i369)) 0 42] ?_
                refine W.cnd (decide (i369 > 0)) (fun hb409 => ?_) (fun hb409 => ?_)
                · replace hm := of_true hb409 hm
                  replace hm := of_ite hm
                  obtain ⟨h410, hm⟩ := hm
                  replace hm := of_let hm
                  obtain ⟨s411, h412, hm⟩ := hm
                  refine W.rg [] [(1, .ptr 0 0 0), (3, .ptr 1 0 0), (9, .ptr 3 0 0), (51, .sl (p0.Bufs.map (eSl e_api_Entry))), (52, .int .i64 (p0.Bufs.length : Int)), (53, .int .i64 i257), (58, .sl ((rd p0.Bufs i257).map e_api_Entry)), (59, .int .i64 ((rd p0.Bufs i257).length : Int)), (60, .int .i64 i369)] [.cells (e_api_State p0) 0 26, .cells [.optp 1, .msl 2 (w371 + 1) 0 1 s411.size s411.size] 0 49, .rows (sB s411) 1 (w371 + 1) 5, .cells (e_api_Entry (rd (rd p0.Bufs i257) i369)) 0 42] ?_ (hrun := ?_)
                  rotate_left
                  · try simp -implicitDefEqProofs -dsimp only [go_sem, ↓reduceIte, Nat.reduceAdd, Nat.reduceMul, Nat.reduceSub, Nat.reduceEqDiff, Nat.reduceLeDiff, Nat.reduceLT, Nat.reduceBEq, Int.reduceEq, reduceCtorEq, hb330, h331, h332, hb394, h397, hb409, h410, h412]
                    with_reducible refine exP.mk (.heap ⟨[], [1, 2], [.ptr 0 0 0, .str (⟨#[44]⟩ : ByteArray)], [.cells [.optp 0, .msl 1 w371 0 1 s370.size s370.size] 0 49, .rows (sB s370) 1 w371 5], .tuple [.int .i64 (⟨#[44]⟩ : ByteArray).size, .nili], [.cells [.optp 0, .msl 1 (w371 + 1) 0 1 (s370.size + (⟨#[44]⟩ : ByteArray).size) (s370.size + (⟨#[44]⟩ : ByteArray).size)] 0 49, .rows (sB (s370 ++ (⟨#[44]⟩ : ByteArray))) 1 (w371 + 1) 5]⟩) (callQ.ofH (by simp -implicitDefEqProofs -dsimp only [go_sem, ↓reduceIte, Nat.reduceAdd, Nat.reduceMul, Nat.reduceSub, Nat.reduceEqDiff, Nat.reduceLeDiff, Nat.reduceLT, Nat.reduceBEq, Int.reduceEq, reduceCtorEq, hb330, h331, h332, hb394, h397, hb409, h410, h412]) (WriteString_ok s370 (⟨#[44]⟩ : ByteArray) w371 h410)) ?_
                    try simp -implicitDefEqProofs -dsimp only [go_sem, ↓reduceIte, Nat.reduceAdd, Nat.reduceMul, Nat.reduceSub, Nat.reduceEqDiff, Nat.reduceLeDiff, Nat.reduceLT, Nat.reduceBEq, Int.reduceEq, reduceCtorEq, hb330, h331, h332, hb394, h397, hb409, h410, h412]
                  clear h412
                  exact ⟨s411, (w371 + 1), ⟨[], []⟩, hm, RO⟩
                · replace hm := of_false hb409 hm
                  refine W.skip ?_
                  exact ⟨s370, w371, ⟨[], []⟩, hm, RO⟩
              · rintro s h ⟨s398, w399, F, hm, hat⟩
                refine W.weak F hat ?_
                show WK _ _ _ _ _ [(1, .ptr 0 0 0), (3, .ptr 1 0 0), (9, .ptr 3 0 0), (51, .sl (p0.Bufs.map (eSl e_api_Entry))), (52, .int .i64 (p0.Bufs.length : Int)), (53, .int .i64 i257), (58, .sl ((rd p0.Bufs i257).map e_api_Entry)), (59, .int .i64 ((rd p0.Bufs i257).length : Int)), (60, .int .i64 i369)] [.cells (e_api_State p0) 0 26, .cells [.optp 1, .msl 2 w399 0 1 s398.size s398.size] 0 49, .rows (sB s398) 1 w399 5, .cells (e_api_Entry (rd (rd p0.Bufs i257) i369)) 0 42]
                rw [state_Text_j2] at hm
                replace hm := of_bind hm
                obtain ⟨v400, h401, hm⟩ := hm
                replace hm := of_ite hm
                obtain ⟨h402, hm⟩ := hm
                replace hm := of_bind hm
                obtain ⟨v403, h404, hm⟩ := hm
                replace hm := of_ite hm
                obtain ⟨h405, hm⟩ := hm
                replace hm := of_ite hm
                obtain ⟨h406, hm⟩ := hm
                replace hm := of_let hm
                obtain ⟨s407, h408, hm⟩ := hm
                refine W.rgJ [8] [] [] 0 [] [(1, .ptr 0 0 0), (3, .ptr 1 0 0), (51, .sl (p0.Bufs.map (eSl e_api_Entry))), (52, .int .i64 (p0.Bufs.length : Int)), (53, .int .i64 i257), (58, .sl ((rd p0.Bufs i257).map e_api_Entry)), (59, .int .i64 ((rd p0.Bufs i257).length : Int)), (60, .int .i64 i369)] [.cells (e_api_State p0) 0 26, .cells [.optp 1, .msl 2 (w399 + 1) 0 1 s407.size s407.size] 0 49, .rows (sB s407) 1 (w399 + 1) 5] v_mixed ?_ (hrun := ?_)
                rotate_left
                · try simp -implicitDefEqProofs -dsimp only [go_sem, ↓reduceIte, Nat.reduceAdd, Nat.reduceMul, Nat.reduceSub, Nat.reduceEqDiff, Nat.reduceLeDiff, Nat.reduceLT, Nat.reduceBEq, Int.reduceEq, reduceCtorEq, hb330, h331, h332, hb394, h397, h402, h405, h406, h408]
                  with_reducible refine exP.mk _ (callQ.plain (by simp -implicitDefEqProofs -dsimp only [go_sem, ↓reduceIte, Nat.reduceAdd, Nat.reduceMul, Nat.reduceSub, Nat.reduceEqDiff, Nat.reduceLeDiff, Nat.reduceLT, Nat.reduceBEq, Int.reduceEq, reduceCtorEq, hb330, h331, h332, hb394, h397, h402, h405, h406, h408]) (by have hk := num_Text_ok h401; (try simp only [hb330, hb394] at hk); (try simp only [List.map_cons, List.map_nil, eStr, eInt] at hk); exact hk)) ?_
                  try simp -implicitDefEqProofs -dsimp only [go_sem, ↓reduceIte, Nat.reduceAdd, Nat.reduceMul, Nat.reduceSub, Nat.reduceEqDiff, Nat.reduceLeDiff, Nat.reduceLT, Nat.reduceBEq, Int.reduceEq, reduceCtorEq, hb330, h331, h332, hb394, h397, h402, h405, h406, h408]
                  with_reducible refine exP.mk _ (callQ.plain (by simp -implicitDefEqProofs -dsimp only [go_sem, ↓reduceIte, Nat.reduceAdd, Nat.reduceMul, Nat.reduceSub, Nat.reduceEqDiff, Nat.reduceLeDiff, Nat.reduceLT, Nat.reduceBEq, Int.reduceEq, reduceCtorEq, hb330, h331, h332, hb394, h397, h402, h405, h406, h408]) (by have hk := num_Text_ok h404; (try simp only [hb330, hb394] at hk); (try simp only [List.map_cons, List.map_nil, eStr, eInt] at hk); exact hk)) ?_
                  try simp -implicitDefEqProofs -dsimp only [go_sem, ↓reduceIte, Nat.reduceAdd, Nat.reduceMul, Nat.reduceSub, Nat.reduceEqDiff, Nat.reduceLeDiff, Nat.reduceLT, Nat.reduceBEq, Int.reduceEq, reduceCtorEq, hb330, h331, h332, hb394, h397, h402, h405, h406, h408]
                  with_reducible refine exP.mk (.heap ⟨[], [1, 2], [.ptr 0 0 0, .str ((v400 ++ (⟨#[61]⟩ : ByteArray)) ++ v403)], [.cells [.optp 0, .msl 1 w399 0 1 s398.size s398.size] 0 49, .rows (sB s398) 1 w399 5], .tuple [.int .i64 ((v400 ++ (⟨#[61]⟩ : ByteArray)) ++ v403).size, .nili], [.cells [.optp 0, .msl 1 (w399 + 1) 0 1 (s398.size + ((v400 ++ (⟨#[61]⟩ : ByteArray)) ++ v403).size) (s398.size + ((v400 ++ (⟨#[61]⟩ : ByteArray)) ++ v403).size)] 0 49, .rows (sB (s398 ++ ((v400 ++ (⟨#[61]⟩ : ByteArray)) ++ v403))) 1 (w399 + 1) 5]⟩) (callQ.ofH (by simp -implicitDefEqProofs -dsimp only [go_sem, ↓reduceIte, Nat.reduceAdd, Nat.reduceMul, Nat.reduceSub, Nat.reduceEqDiff, Nat.reduceLeDiff, Nat.reduceLT, Nat.reduceBEq, Int.reduceEq, reduceCtorEq, hb330, h331, h332, hb394, h397, h402, h405, h406, h408]) (WriteString_ok s398 ((v400 ++ (⟨#[61]⟩ : ByteArray)) ++ v403) w399 h406)) ?_
                  try simp -implicitDefEqProofs -dsimp only [go_sem, ↓reduceIte, Nat.reduceAdd, Nat.reduceMul, Nat.reduceSub, Nat.reduceEqDiff, Nat.reduceLeDiff, Nat.reduceLT, Nat.reduceBEq, Int.reduceEq, reduceCtorEq, hb330, h331, h332, hb394, h397, h402, h405, h406, h408]
                clear h408
                exact ⟨s407, (w399 + 1), ⟨[], []⟩, hm, RO⟩
            · rintro s h ⟨s395, w396, F, hm, hat⟩
              refine W.weak F hat ?_
              show WK _ _ _ _ _ [(1, .ptr 0 0 0), (3, .ptr 1 0 0), (51, .sl (p0.Bufs.map (eSl e_api_Entry))), (52, .int .i64 (p0.Bufs.length : Int)), (53, .int .i64 i257), (58, .sl ((rd p0.Bufs i257).map e_api_Entry)), (59, .int .i64 ((rd p0.Bufs i257).length : Int)), (60, .int .i64 i369)] [.cells (e_api_State p0) 0 26, .cells [.optp 1, .msl 2 w396 0 1 s395.size s395.size] 0 49, .rows (sB s395) 1 w396 5]
              rw [state_Text_j1] at hm
              refine W.rg [] [(1, .ptr 0 0 0), (3, .ptr 1 0 0), (51, .sl (p0.Bufs.map (eSl e_api_Entry))), (52, .int .i64 (p0.Bufs.length : Int)), (53, .int .i64 i257), (58, .sl ((rd p0.Bufs i257).map e_api_Entry)), (59, .int .i64 ((rd p0.Bufs i257).length : Int)), (60, .int .i64 (IntKind.wrap .i64 (i369 + 1)))] [.cells (e_api_State p0) 0 26, .cells [.optp 1, .msl 2 w396 0 1 s395.size s395.size] 0 49, .rows (sB s395) 1 w396 5] ?_
              obtain rfl := Option.some.inj hm
              exact ⟨((IntKind.wrap .i64 (i369 + 1)), s395), w396, ⟨[], []⟩, rfl, RO⟩
          · replace hm := of_false hb394 hm
            obtain rfl := Option.some.inj hm
            obtain rfl := hx _ rfl
            exact W.weak ⟨[], []⟩ (show AT _ ⟨[], []⟩ [(1, .ptr 0 0 0), (3, .ptr 1 0 0), (51, .sl (p0.Bufs.map (eSl e_api_Entry))), (52, .int .i64 (p0.Bufs.length : Int)), (53, .int .i64 i257)] [.cells (e_api_State p0) 0 26, .cells [.optp 1, .msl 2 w371 0 1 s370.size s370.size] 0 49, .rows (sB s370) 1 w371 5] _ _ from RO) (W.exit (show _ ∧ _ from ⟨rfl, w371, rfl, rfl⟩))
        · rintro e0 s0 h0 ⟨rfl, w392, rfl, rfl⟩
          show WK _ _ _ _ _ [(1, .ptr 0 0 0), (3, .ptr 1 0 0), (51, .sl (p0.Bufs.map (eSl e_api_Entry))), (52, .int .i64 (p0.Bufs.length : Int)), (53, .int .i64 i257)] [.cells (e_api_State p0) 0 26, .cells [.optp 1, .msl 2 w392 0 1 r393.size r393.size] 0 49, .rows (sB r393) 1 w392 5]
          replace hm := of_ite hm
          obtain ⟨h413, hm⟩ := hm
          replace hm := of_let hm
          obtain ⟨s414, h415, hm⟩ := hm
          refine W.rg [] [(1, .ptr 0 0 0), (3, .ptr 1 0 0), (51, .sl (p0.Bufs.map (eSl e_api_Entry))), (52, .int .i64 (p0.Bufs.length : Int)), (53, .int .i64 i257)] [.cells (e_api_State p0) 0 26, .cells [.optp 1, .msl 2 (w392 + 1) 0 1 s414.size s414.size] 0 49, .rows (sB s414) 1 (w392 + 1) 5] ?_ (hrun := ?_)
          rotate_left
          · try simp -implicitDefEqProofs -dsimp only [go_sem, ↓reduceIte, Nat.reduceAdd, Nat.reduceMul, Nat.reduceSub, Nat.reduceEqDiff, Nat.reduceLeDiff, Nat.reduceLT, Nat.reduceBEq, Int.reduceEq, reduceCtorEq, hb330, h331, h332, h413, h415]
            with_reducible refine exP.mk (.heap ⟨[], [1, 2], [.ptr 0 0 0, .str (⟨#[41]⟩ : ByteArray)], [.cells [.optp 0, .msl 1 w392 0 1 r393.size r393.size] 0 49, .rows (sB r393) 1 w392 5], .tuple [.int .i64 (⟨#[41]⟩ : ByteArray).size, .nili], [.cells [.optp 0, .msl 1 (w392 + 1) 0 1 (r393.size + (⟨#[41]⟩ : ByteArray).size) (r393.size + (⟨#[41]⟩ : ByteArray).size)] 0 49, .rows (sB (r393 ++ (⟨#[41]⟩ : ByteArray))) 1 (w392 + 1) 5]⟩) (callQ.ofH (by simp -implicitDefEqProofs -dsimp only [go_sem, ↓reduceIte, Nat.reduceAdd, Nat.reduceMul, Nat.reduceSub, Nat.reduceEqDiff, Nat.reduceLeDiff, Nat.reduceLT, Nat.reduceBEq, Int.reduceEq, reduceCtorEq, hb330, h331, h332, h413, h415]) (WriteString_ok r393 (⟨#[41]⟩ : ByteArray) w392 h413)) ?_
            try simp -implicitDefEqProofs -dsimp only [go_sem, ↓reduceIte, Nat.reduceAdd, Nat.reduceMul, Nat.reduceSub, Nat.reduceEqDiff, Nat.reduceLeDiff, Nat.reduceLT, Nat.reduceBEq, Int.reduceEq, reduceCtorEq, hb330, h331, h332, h413, h415]
          clear h415
          refine W.rg [] [(1, .ptr 0 0 0), (3, .ptr 1 0 0), (51, .sl (p0.Bufs.map (eSl e_api_Entry))), (52, .int .i64 (p0.Bufs.length : Int)), (53, .int .i64 (IntKind.wrap .i64 (i257 + 1)))] [.cells (e_api_State p0) 0 26, .cells [.optp 1, .msl 2 (w392 + 1) 0 1 s414.size s414.size] 0 49, .rows (sB s414) 1 (w392 + 1) 5] ?_
          obtain rfl := Option.some.inj hm
          exact ⟨((IntKind.wrap .i64 (i257 + 1)), s414), (w392 + 1), ⟨[], []⟩, rfl, RO⟩
      · replace hm := of_false hb330 hm
        obtain rfl := Option.some.inj hm
        obtain rfl := hx _ rfl
        exact W.weak ⟨[], []⟩ (show AT _ ⟨[], []⟩ [(1, .ptr 0 0 0), (3, .ptr 1 0 0)] [.cells (e_api_State p0) 0 26, .cells [.optp 1, .msl 2 w259 0 1 s258.size s258.size] 0 49, .rows (sB s258) 1 w259 5] _ _ from RO) (W.exit (show _ ∧ _ from ⟨rfl, w259, rfl, rfl⟩))
    · rintro e0 s0 h0 ⟨rfl, w328, rfl, rfl⟩
      show WK _ _ _ _ _ [(1, .ptr 0 0 0), (3, .ptr 1 0 0)] [.cells (e_api_State p0) 0 26, .cells [.optp 1, .msl 2 w328 0 1 r329.size r329.size] 0 49, .rows (sB r329) 1 w328 5]
      replace hm := of_bind hm
      obtain ⟨v416, h417, hm⟩ := hm
      replace hm := of_ite hm
      obtain ⟨h418, hm⟩ := hm
      replace hm := of_ite hm
      obtain ⟨h419, hm⟩ := hm
      replace hm := of_let hm
      obtain ⟨s420, h421, hm⟩ := hm
      refine W.sq [] [(3, .ptr 1 0 0)] [.dead, .cells [.optp 1, .msl 2 (w328 + 1) 0 1 s420.size s420.size] 0 49, .rows (sB s420) 1 (w328 + 1) 5] ?_ (hrun := ?_)
      rotate_left
      · try simp -implicitDefEqProofs -dsimp only [go_sem, ↓reduceIte, Nat.reduceAdd, Nat.reduceMul, Nat.reduceSub, Nat.reduceEqDiff, Nat.reduceLeDiff, Nat.reduceLT, Nat.reduceBEq, Int.reduceEq, reduceCtorEq, h418, h419, h421]
        with_reducible refine exP.mk _ (callQ.plain (by simp -implicitDefEqProofs -dsimp only [go_sem, ↓reduceIte, Nat.reduceAdd, Nat.reduceMul, Nat.reduceSub, Nat.reduceEqDiff, Nat.reduceLeDiff, Nat.reduceLT, Nat.reduceBEq, Int.reduceEq, reduceCtorEq, h418, h419, h421]) (num_Text_ok h417)) ?_
        try simp -implicitDefEqProofs -dsimp only [go_sem, ↓reduceIte, Nat.reduceAdd, Nat.reduceMul, Nat.reduceSub, Nat.reduceEqDiff, Nat.reduceLeDiff, Nat.reduceLT, Nat.reduceBEq, Int.reduceEq, reduceCtorEq, h418, h419, h421]
        with_reducible refine exP.mk (.heap ⟨[], [1, 2], [.ptr 0 0 0, .str ((⟨#[35]⟩ : ByteArray) ++ v416)], [.cells [.optp 0, .msl 1 w328 0 1 r329.size r329.size] 0 49, .rows (sB r329) 1 w328 5], .tuple [.int .i64 ((⟨#[35]⟩ : ByteArray) ++ v416).size, .nili], [.cells [.optp 0, .msl 1 (w328 + 1) 0 1 (r329.size + ((⟨#[35]⟩ : ByteArray) ++ v416).size) (r329.size + ((⟨#[35]⟩ : ByteArray) ++ v416).size)] 0 49, .rows (sB (r329 ++ ((⟨#[35]⟩ : ByteArray) ++ v416))) 1 (w328 + 1) 5]⟩) (callQ.ofH (by simp -implicitDefEqProofs -dsimp only [go_sem, ↓reduceIte, Nat.reduceAdd, Nat.reduceMul, Nat.reduceSub, Nat.reduceEqDiff, Nat.reduceLeDiff, Nat.reduceLT, Nat.reduceBEq, Int.reduceEq, reduceCtorEq, h418, h419, h421]) (WriteString_ok r329 ((⟨#[35]⟩ : ByteArray) ++ v416) w328 h419)) ?_
        try simp -implicitDefEqProofs -dsimp only [go_sem, ↓reduceIte, Nat.reduceAdd, Nat.reduceMul, Nat.reduceSub, Nat.reduceEqDiff, Nat.reduceLeDiff, Nat.reduceLT, Nat.reduceBEq, Int.reduceEq, reduceCtorEq, h418, h419, h421]
      clear h421
      replace hm := of_ite hm
      obtain ⟨h422, hm⟩ := hm
      refine W.sq [] [(2, .str s420)] [] ?_ (hrun := ?_)
      rotate_left
      · try simp -implicitDefEqProofs -dsimp only [go_sem, ↓reduceIte, Nat.reduceAdd, Nat.reduceMul, Nat.reduceSub, Nat.reduceEqDiff, Nat.reduceLeDiff, Nat.reduceLT, Nat.reduceBEq, Int.reduceEq, reduceCtorEq, h418, h419, h422]
        with_reducible refine exP.mk (.heap ⟨[], [1, 2], [.ptr 0 0 0], [.cells [.optp 0, .msl 1 (w328 + 1) 0 1 s420.size s420.size] 0 49, .rows (sB s420) 1 (w328 + 1) 5], .str s420, [.dead, .dead]⟩) (callQ.ofH (by simp -implicitDefEqProofs -dsimp only [go_sem, ↓reduceIte, Nat.reduceAdd, Nat.reduceMul, Nat.reduceSub, Nat.reduceEqDiff, Nat.reduceLeDiff, Nat.reduceLT, Nat.reduceBEq, Int.reduceEq, reduceCtorEq, h418, h419, h422]) (String_ok s420 (w328 + 1) h422)) ?_
        try simp -implicitDefEqProofs -dsimp only [go_sem, ↓reduceIte, Nat.reduceAdd, Nat.reduceMul, Nat.reduceSub, Nat.reduceEqDiff, Nat.reduceLeDiff, Nat.reduceLT, Nat.reduceBEq, Int.reduceEq, reduceCtorEq, h418, h419, h422]
      obtain rfl := Option.some.inj hm
      exact W.ret (EndsF.retW [] RO)


end Go.Proofs.YtlolkehjlkmcbaaDoor
