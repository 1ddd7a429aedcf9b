import Derived.Test.YtocjejladeeckaaDoorVFacts
import Derived.Test.YtocjejladeeckaaDoorPalG
import Derived.Test.YtocjejladeeckaaDoorWF
set_option maxRecDepth 100000
set_option maxHeartbeats 4000000
set_option linter.unusedSimpArgs false
set_option linter.unusedVariables false
set_option linter.unusedSectionVars false
namespace Go.Proofs.YtocjejladeeckaaDoor
open Go.Vs
variable [TabU]
theorem palingbook_Prog_own {p0 : (List (List T_palingbook_Act))} {p1 : Int} {p2 : Int} {r : T_api_Prog} (hm : palingbook_Prog p0 p1 p2 = some r) : HF Tryd.prog 21 [.sl (p0.map (eSl e_palingbook_Act)), .int .i64 p1, .int .i64 p2] [] (.agg [.sl (r.Syms.map e_api_Sym), .msl 2 1 0 1 r.Threads.length r.Threads.length]) [.dead, .dead, .rows (r.Threads.map o_api_Thread) 1 1 65] := by
  rw [← palingbook_ProgO_eq, palingbook_ProgO] at hm
  refine HF.of Tryd.func21 rfl Tryd.ntmps21 (Nat.le_of_ble_eq_true rfl) rfl ?_
  have e0 : argS 0 [.sl (p0.map (eSl e_palingbook_Act)), .int .i64 p1, .int .i64 p2] = [(0, .sl (p0.map (eSl e_palingbook_Act))), (1, .int .i64 p1), (2, .int .i64 p2)] := rfl
  rw [e0]
  refine W.sqG [] [.nbx 0 0 0 3 86, .nbx 0 0 1 1 65] [(0, .sl (p0.map (eSl e_palingbook_Act))), (1, .int .i64 p1), (2, .int .i64 p2), (6, .ptr 0 0 0)] [.cells [.boxsl (([] : List T_api_Sym).map e_api_Sym) 3 86, .boxsl (([] : List T_api_Thread).map o_api_Thread) 1 65] 0 38] ?_
  replace hm := of_let hm
  obtain ⟨l1, h2, hm⟩ := hm
  refine W.sqG [] [.nbx 1 0 1 1 65] [(0, .sl (p0.map (eSl e_palingbook_Act))), (1, .int .i64 p1), (2, .int .i64 p2), (6, .ptr 0 0 0), (7, .ptr 1 0 0)] [.cells [.boxsl (([] : List T_api_Sym).map e_api_Sym) 3 86, .boxsl (([] : List T_api_Thread).map o_api_Thread) 1 65] 0 38, .cells [.sl (l1.map e_api_Sym), .boxsl (([] : List T_api_Thread).map o_api_Thread) 1 65] 0 38] ?_
  clear h2
  refine W.seq ?_
  refine W.sq [] [(0, .sl (p0.map (eSl e_palingbook_Act))), (1, .int .i64 p1), (2, .int .i64 p2), (6, .ptr 0 0 0), (7, .ptr 1 0 0), (8, .int .i64 0)] [.cells [.boxsl (([] : List T_api_Sym).map e_api_Sym) 3 86, .boxsl (([] : List T_api_Thread).map o_api_Thread) 1 65] 0 38, .cells [.sl (l1.map e_api_Sym), .boxsl (([] : List T_api_Thread).map o_api_Thread) 1 65] 0 38] ?_
  refine W.block ?_
  replace hm := of_bind hm
  obtain ⟨r560, hlr560, hm⟩ := hm
  refine W.mono (Q := fun e0 s0 h0 => e0 = .exit 0 ∧ ∃ w : Unit, s0 = [(6, .ptr 0 0 0), (7, .ptr 1 0 0)] ∧ h0 = [.cells [.boxsl (([] : List T_api_Sym).map e_api_Sym) 3 86, .boxsl (([] : List T_api_Thread).map o_api_Thread) 1 65] 0 38, .cells [.sl (l1.map e_api_Sym), .boxsl (r560.map o_api_Thread) 1 65] 0 38]) (W.loopM (step := palingbook_ProgO_s1 p0 p1 p2) (a0 := (0, ([] : List T_api_Thread))) (fun (a : Int × (List T_api_Thread)) (v : Unit) => ([(0, .sl (p0.map (eSl e_palingbook_Act))), (1, .int .i64 p1), (2, .int .i64 p2), (6, .ptr 0 0 0), (7, .ptr 1 0 0), (8, .int .i64 a.1)], [.cells [.boxsl (([] : List T_api_Sym).map e_api_Sym) 3 86, .boxsl (([] : List T_api_Thread).map o_api_Thread) 1 65] 0 38, .cells [.sl (l1.map e_api_Sym), .boxsl (a.2.map o_api_Thread) 1 65] 0 38])) () hlr560 ⟨[], []⟩ RO ?_) ?_
  · rintro ⟨i373, l374⟩ _ x hm hx
    rw [palingbook_ProgO_s1] at hm
    show WK _ _ _ _ _ [(0, .sl (p0.map (eSl e_palingbook_Act))), (1, .int .i64 p1), (2, .int .i64 p2), (6, .ptr 0 0 0), (7, .ptr 1 0 0), (8, .int .i64 i373)] [.cells [.boxsl (([] : List T_api_Sym).map e_api_Sym) 3 86, .boxsl (([] : List T_api_Thread).map o_api_Thread) 1 65] 0 38, .cells [.sl (l1.map e_api_Sym), .boxsl (l374.map o_api_Thread) 1 65] 0 38]
    refine W.seq ?_
    refine W.sq [] [(0, .sl (p0.map (eSl e_palingbook_Act))), (1, .int .i64 p1), (2, .int .i64 p2), (6, .ptr 0 0 0), (7, .ptr 1 0 0), (8, .int .i64 i373), (29, .bool (decide (i373 < (p0.length : Int)) && decide (i373 < p1)))] [.cells [.boxsl (([] : List T_api_Sym).map e_api_Sym) 3 86, .boxsl (([] : List T_api_Thread).map o_api_Thread) 1 65] 0 38, .cells [.sl (l1.map e_api_Sym), .boxsl (l374.map o_api_Thread) 1 65] 0 38] ?_
    refine W.cnd (decide (i373 < (p0.length : Int)) && decide (i373 < p1)) (fun hb561 => ?_) (fun hb561 => ?_)
    · replace hm := of_true hb561 hm
      refine W.skip ?_
      refine W.seq ?_
      refine W.block ?_
      replace hm := of_ite hm
      obtain ⟨h562, hm⟩ := hm
      replace hm := of_let hm
      obtain ⟨n563, h564, hm⟩ := hm
      refine W.sq [] [(0, .sl (p0.map (eSl e_palingbook_Act))), (1, .int .i64 p1), (2, .int .i64 p2), (6, .ptr 0 0 0), (7, .ptr 1 0 0), (8, .int .i64 i373), (9, .int .i64 n563)] [.cells [.boxsl (([] : List T_api_Sym).map e_api_Sym) 3 86, .boxsl (([] : List T_api_Thread).map o_api_Thread) 1 65] 0 38, .cells [.sl (l1.map e_api_Sym), .boxsl (l374.map o_api_Thread) 1 65] 0 38] ?_
      clear h564
      refine W.sqG [] [.nbx 2 0 0 13 55] [(0, .sl (p0.map (eSl e_palingbook_Act))), (1, .int .i64 p1), (2, .int .i64 p2), (6, .ptr 0 0 0), (7, .ptr 1 0 0), (8, .int .i64 i373), (9, .int .i64 n563), (10, .ptr 2 0 0)] [.cells [.boxsl (([] : List T_api_Sym).map e_api_Sym) 3 86, .boxsl (([] : List T_api_Thread).map o_api_Thread) 1 65] 0 38, .cells [.sl (l1.map e_api_Sym), .boxsl (l374.map o_api_Thread) 1 65] 0 38, .cells [.boxsl (([] : List T_api_Ins).map e_api_Ins) 13 55] 0 65] ?_
      refine W.seq ?_
      refine W.sq [] [(0, .sl (p0.map (eSl e_palingbook_Act))), (1, .int .i64 p1), (2, .int .i64 p2), (6, .ptr 0 0 0), (7, .ptr 1 0 0), (8, .int .i64 i373), (9, .int .i64 n563), (10, .ptr 2 0 0), (11, .int .i64 0)] [.cells [.boxsl (([] : List T_api_Sym).map e_api_Sym) 3 86, .boxsl (([] : List T_api_Thread).map o_api_Thread) 1 65] 0 38, .cells [.sl (l1.map e_api_Sym), .boxsl (l374.map o_api_Thread) 1 65] 0 38, .cells [.boxsl (([] : List T_api_Ins).map e_api_Ins) 13 55] 0 65] ?_
      refine W.block ?_
      replace hm := of_bind hm
      obtain ⟨r594, hlr594, hm⟩ := hm
      refine W.mono (Q := fun e0 s0 h0 => e0 = .exit 2 ∧ ∃ w : Unit, s0 = [(0, .sl (p0.map (eSl e_palingbook_Act))), (1, .int .i64 p1), (2, .int .i64 p2), (6, .ptr 0 0 0), (7, .ptr 1 0 0), (8, .int .i64 i373), (9, .int .i64 n563), (10, .ptr 2 0 0)] ∧ h0 = [.cells [.boxsl (([] : List T_api_Sym).map e_api_Sym) 3 86, .boxsl (([] : List T_api_Thread).map o_api_Thread) 1 65] 0 38, .cells [.sl (l1.map e_api_Sym), .boxsl (l374.map o_api_Thread) 1 65] 0 38, .cells [.boxsl (r594.map e_api_Ins) 13 55] 0 65]) (W.loopM (step := palingbook_ProgO_s2 n563 i373 p0) (a0 := (0, ([] : List T_api_Ins))) (fun (a : Int × (List T_api_Ins)) (v : Unit) => ([(0, .sl (p0.map (eSl e_palingbook_Act))), (1, .int .i64 p1), (2, .int .i64 p2), (6, .ptr 0 0 0), (7, .ptr 1 0 0), (8, .int .i64 i373), (9, .int .i64 n563), (10, .ptr 2 0 0), (11, .int .i64 a.1)], [.cells [.boxsl (([] : List T_api_Sym).map e_api_Sym) 3 86, .boxsl (([] : List T_api_Thread).map o_api_Thread) 1 65] 0 38, .cells [.sl (l1.map e_api_Sym), .boxsl (l374.map o_api_Thread) 1 65] 0 38, .cells [.boxsl (a.2.map e_api_Ins) 13 55] 0 65])) () hlr594 ⟨[], []⟩ RO ?_) ?_
      · rintro ⟨i583, l584⟩ _ x hm hx
        rw [palingbook_ProgO_s2] at hm
        show WK _ _ _ _ _ [(0, .sl (p0.map (eSl e_palingbook_Act))), (1, .int .i64 p1), (2, .int .i64 p2), (6, .ptr 0 0 0), (7, .ptr 1 0 0), (8, .int .i64 i373), (9, .int .i64 n563), (10, .ptr 2 0 0), (11, .int .i64 i583)] [.cells [.boxsl (([] : List T_api_Sym).map e_api_Sym) 3 86, .boxsl (([] : List T_api_Thread).map o_api_Thread) 1 65] 0 38, .cells [.sl (l1.map e_api_Sym), .boxsl (l374.map o_api_Thread) 1 65] 0 38, .cells [.boxsl (l584.map e_api_Ins) 13 55] 0 65]
        refine W.seq ?_
        refine W.sq [] [(0, .sl (p0.map (eSl e_palingbook_Act))), (1, .int .i64 p1), (2, .int .i64 p2), (6, .ptr 0 0 0), (7, .ptr 1 0 0), (8, .int .i64 i373), (9, .int .i64 n563), (10, .ptr 2 0 0), (11, .int .i64 i583), (41, .bool (decide (i583 < n563)))] [.cells [.boxsl (([] : List T_api_Sym).map e_api_Sym) 3 86, .boxsl (([] : List T_api_Thread).map o_api_Thread) 1 65] 0 38, .cells [.sl (l1.map e_api_Sym), .boxsl (l374.map o_api_Thread) 1 65] 0 38, .cells [.boxsl (l584.map e_api_Ins) 13 55] 0 65] ?_
        refine W.cnd (decide (i583 < n563)) (fun hb595 => ?_) (fun hb595 => ?_)
        · replace hm := of_true hb595 hm
          refine W.skip ?_
          refine W.seq ?_
          refine W.block ?_
          replace hm := of_ite hm
          obtain ⟨h596, hm⟩ := hm
          replace hm := of_ite hm
          obtain ⟨h597, hm⟩ := hm
          replace hm := of_bind hm
          obtain ⟨v598, h599, hm⟩ := hm
          replace hm := of_ite hm
          obtain ⟨h600, hm⟩ := hm
          replace hm := of_let hm
          obtain ⟨l601, h602, hm⟩ := hm
          refine W.weak ⟨[], [.foc 2 0 0]⟩ (show AT _ ⟨[], [.foc 2 0 0]⟩ [(0, .sl (p0.map (eSl e_palingbook_Act))), (1, .int .i64 p1), (2, .int .i64 p2), (6, .ptr 0 0 0), (7, .ptr 1 0 0), (8, .int .i64 i373), (9, .int .i64 n563), (10, .ptr 2 0 0), (11, .int .i64 i583), (41, .bool (decide (i583 < n563)))] [.cells [.boxsl (([] : List T_api_Sym).map e_api_Sym) 3 86, .boxsl (([] : List T_api_Thread).map o_api_Thread) 1 65] 0 38, .cells [.sl (l1.map e_api_Sym), .boxsl (l374.map o_api_Thread) 1 65] 0 38, .cells [.msl 3 1 0 13 l584.length l584.length] 0 65, .rows (l584.map e_api_Ins) 13 1 55] _ _ from RO) ?_
          have kh599 := palingbook_Ins_ok h599
          try simp only [hb561, hb595] at kh599
          refine W.rgJG [13, 15] [] [] 0 [] [.fol 2 0 0] [(0, .sl (p0.map (eSl e_palingbook_Act))), (1, .int .i64 p1), (2, .int .i64 p2), (6, .ptr 0 0 0), (7, .ptr 1 0 0), (8, .int .i64 i373), (9, .int .i64 n563), (10, .ptr 2 0 0), (11, .int .i64 i583)] [.cells [.boxsl (([] : List T_api_Sym).map e_api_Sym) 3 86, .boxsl (([] : List T_api_Thread).map o_api_Thread) 1 65] 0 38, .cells [.sl (l1.map e_api_Sym), .boxsl (l374.map o_api_Thread) 1 65] 0 38, .cells [.boxsl (l601.map e_api_Ins) 13 55] 0 65] v_mixed ?_
          clear h602
          refine W.rg [] [(0, .sl (p0.map (eSl e_palingbook_Act))), (1, .int .i64 p1), (2, .int .i64 p2), (6, .ptr 0 0 0), (7, .ptr 1 0 0), (8, .int .i64 i373), (9, .int .i64 n563), (10, .ptr 2 0 0), (11, .int .i64 (IntKind.wrap .i64 (i583 + 1)))] [.cells [.boxsl (([] : List T_api_Sym).map e_api_Sym) 3 86, .boxsl (([] : List T_api_Thread).map o_api_Thread) 1 65] 0 38, .cells [.sl (l1.map e_api_Sym), .boxsl (l374.map o_api_Thread) 1 65] 0 38, .cells [.boxsl (l601.map e_api_Ins) 13 55] 0 65] ?_
          obtain rfl := Option.some.inj hm
          exact ⟨((IntKind.wrap .i64 (i583 + 1)), l601), (), ⟨[], []⟩, rfl, RO⟩
        · replace hm := of_false hb595 hm
          obtain rfl := Option.some.inj hm
          obtain rfl := hx _ rfl
          exact W.weak ⟨[], []⟩ (show AT _ ⟨[], []⟩ [(0, .sl (p0.map (eSl e_palingbook_Act))), (1, .int .i64 p1), (2, .int .i64 p2), (6, .ptr 0 0 0), (7, .ptr 1 0 0), (8, .int .i64 i373), (9, .int .i64 n563), (10, .ptr 2 0 0)] [.cells [.boxsl (([] : List T_api_Sym).map e_api_Sym) 3 86, .boxsl (([] : List T_api_Thread).map o_api_Thread) 1 65] 0 38, .cells [.sl (l1.map e_api_Sym), .boxsl (l374.map o_api_Thread) 1 65] 0 38, .cells [.boxsl (l584.map e_api_Ins) 13 55] 0 65] _ _ from RO) (W.exit (show _ ∧ _ from ⟨rfl, (), rfl, rfl⟩))
      · rintro e0 s0 h0 ⟨rfl, _, rfl, rfl⟩
        show WK _ _ _ _ _ [(0, .sl (p0.map (eSl e_palingbook_Act))), (1, .int .i64 p1), (2, .int .i64 p2), (6, .ptr 0 0 0), (7, .ptr 1 0 0), (8, .int .i64 i373), (9, .int .i64 n563), (10, .ptr 2 0 0)] [.cells [.boxsl (([] : List T_api_Sym).map e_api_Sym) 3 86, .boxsl (([] : List T_api_Thread).map o_api_Thread) 1 65] 0 38, .cells [.sl (l1.map e_api_Sym), .boxsl (l374.map o_api_Thread) 1 65] 0 38, .cells [.boxsl (r594.map e_api_Ins) 13 55] 0 65]
        replace hm := of_ite hm
        obtain ⟨h603, hm⟩ := hm
        replace hm := of_let hm
        obtain ⟨l604, h605, hm⟩ := hm
        refine W.weak ⟨[], [.foc 2 0 0]⟩ (show AT _ ⟨[], [.foc 2 0 0]⟩ [(0, .sl (p0.map (eSl e_palingbook_Act))), (1, .int .i64 p1), (2, .int .i64 p2), (6, .ptr 0 0 0), (7, .ptr 1 0 0), (8, .int .i64 i373), (9, .int .i64 n563), (10, .ptr 2 0 0)] [.cells [.boxsl (([] : List T_api_Sym).map e_api_Sym) 3 86, .boxsl (([] : List T_api_Thread).map o_api_Thread) 1 65] 0 38, .cells [.sl (l1.map e_api_Sym), .boxsl (l374.map o_api_Thread) 1 65] 0 38, .cells [.msl 3 1 0 13 r594.length r594.length] 0 65, .rows (r594.map e_api_Ins) 13 1 55] _ _ from RO) ?_
        refine W.sqG [] [.fol 2 0 0] [(0, .sl (p0.map (eSl e_palingbook_Act))), (1, .int .i64 p1), (2, .int .i64 p2), (6, .ptr 0 0 0), (7, .ptr 1 0 0), (8, .int .i64 i373), (9, .int .i64 n563), (10, .ptr 2 0 0)] [.cells [.boxsl (([] : List T_api_Sym).map e_api_Sym) 3 86, .boxsl (([] : List T_api_Thread).map o_api_Thread) 1 65] 0 38, .cells [.sl (l1.map e_api_Sym), .boxsl (l374.map o_api_Thread) 1 65] 0 38, .cells [.boxsl (l604.map e_api_Ins) 13 55] 0 65] ?_
        clear h605
        refine W.seq ?_
        refine W.sq [] [(0, .sl (p0.map (eSl e_palingbook_Act))), (1, .int .i64 p1), (2, .int .i64 p2), (6, .ptr 0 0 0), (7, .ptr 1 0 0), (8, .int .i64 i373), (9, .int .i64 n563), (10, .ptr 2 0 0), (12, .int .i64 0)] [.cells [.boxsl (([] : List T_api_Sym).map e_api_Sym) 3 86, .boxsl (([] : List T_api_Thread).map o_api_Thread) 1 65] 0 38, .cells [.sl (l1.map e_api_Sym), .boxsl (l374.map o_api_Thread) 1 65] 0 38, .cells [.boxsl (l604.map e_api_Ins) 13 55] 0 65] ?_
        refine W.block ?_
        replace hm := of_bind hm
        obtain ⟨r749, hlr749, hm⟩ := hm
        refine W.mono (Q := fun e0 s0 h0 => e0 = .exit 4 ∧ ∃ w : Unit, s0 = [(0, .sl (p0.map (eSl e_palingbook_Act))), (1, .int .i64 p1), (2, .int .i64 p2), (6, .ptr 0 0 0), (7, .ptr 1 0 0), (8, .int .i64 i373), (10, .ptr 2 0 0)] ∧ h0 = [.cells [.boxsl (([] : List T_api_Sym).map e_api_Sym) 3 86, .boxsl (([] : List T_api_Thread).map o_api_Thread) 1 65] 0 38, .cells [.sl (l1.map e_api_Sym), .boxsl (l374.map o_api_Thread) 1 65] 0 38, .cells [.boxsl (r749.map e_api_Ins) 13 55] 0 65]) (W.loopM (step := palingbook_ProgO_s3 n563) (a0 := (0, l604)) (fun (a : Int × (List T_api_Ins)) (v : Unit) => ([(0, .sl (p0.map (eSl e_palingbook_Act))), (1, .int .i64 p1), (2, .int .i64 p2), (6, .ptr 0 0 0), (7, .ptr 1 0 0), (8, .int .i64 i373), (9, .int .i64 n563), (10, .ptr 2 0 0), (12, .int .i64 a.1)], [.cells [.boxsl (([] : List T_api_Sym).map e_api_Sym) 3 86, .boxsl (([] : List T_api_Thread).map o_api_Thread) 1 65] 0 38, .cells [.sl (l1.map e_api_Sym), .boxsl (l374.map o_api_Thread) 1 65] 0 38, .cells [.boxsl (a.2.map e_api_Ins) 13 55] 0 65])) () hlr749 ⟨[], []⟩ RO ?_) ?_
        · rintro ⟨i700, l701⟩ _ x hm hx
          rw [palingbook_ProgO_s3] at hm
          show WK _ _ _ _ _ [(0, .sl (p0.map (eSl e_palingbook_Act))), (1, .int .i64 p1), (2, .int .i64 p2), (6, .ptr 0 0 0), (7, .ptr 1 0 0), (8, .int .i64 i373), (9, .int .i64 n563), (10, .ptr 2 0 0), (12, .int .i64 i700)] [.cells [.boxsl (([] : List T_api_Sym).map e_api_Sym) 3 86, .boxsl (([] : List T_api_Thread).map o_api_Thread) 1 65] 0 38, .cells [.sl (l1.map e_api_Sym), .boxsl (l374.map o_api_Thread) 1 65] 0 38, .cells [.boxsl (l701.map e_api_Ins) 13 55] 0 65]
          refine W.seq ?_
          refine W.sq [] [(0, .sl (p0.map (eSl e_palingbook_Act))), (1, .int .i64 p1), (2, .int .i64 p2), (6, .ptr 0 0 0), (7, .ptr 1 0 0), (8, .int .i64 i373), (9, .int .i64 n563), (10, .ptr 2 0 0), (12, .int .i64 i700), (67, .bool (decide (i700 < n563)))] [.cells [.boxsl (([] : List T_api_Sym).map e_api_Sym) 3 86, .boxsl (([] : List T_api_Thread).map o_api_Thread) 1 65] 0 38, .cells [.sl (l1.map e_api_Sym), .boxsl (l374.map o_api_Thread) 1 65] 0 38, .cells [.boxsl (l701.map e_api_Ins) 13 55] 0 65] ?_
          refine W.cnd (decide (i700 < n563)) (fun hb750 => ?_) (fun hb750 => ?_)
          · replace hm := of_true hb750 hm
            refine W.skip ?_
            refine W.cut (fun s h => ∃ (v : (List T_api_Ins)) (w : Unit) (F : Gs), palingbook_ProgO_j1 i700 v = some x ∧ AT 0 F [(0, .sl (p0.map (eSl e_palingbook_Act))), (1, .int .i64 p1), (2, .int .i64 p2), (6, .ptr 0 0 0), (7, .ptr 1 0 0), (8, .int .i64 i373), (9, .int .i64 n563), (10, .ptr 2 0 0), (12, .int .i64 i700)] [.cells [.boxsl (([] : List T_api_Sym).map e_api_Sym) 3 86, .boxsl (([] : List T_api_Thread).map o_api_Thread) 1 65] 0 38, .cells [.sl (l1.map e_api_Sym), .boxsl (l374.map o_api_Thread) 1 65] 0 38, .cells [.boxsl (v.map e_api_Ins) 13 55] 0 65] s h) ?_ ?_
            · refine W.block ?_
              refine W.seq ?_
              replace hm := of_ite hm
              obtain ⟨h752, hm⟩ := hm
              refine W.weak ⟨[], [.foc 2 0 0]⟩ (show AT _ ⟨[], [.foc 2 0 0]⟩ [(0, .sl (p0.map (eSl e_palingbook_Act))), (1, .int .i64 p1), (2, .int .i64 p2), (6, .ptr 0 0 0), (7, .ptr 1 0 0), (8, .int .i64 i373), (9, .int .i64 n563), (10, .ptr 2 0 0), (12, .int .i64 i700), (67, .bool (decide (i700 < n563)))] [.cells [.boxsl (([] : List T_api_Sym).map e_api_Sym) 3 86, .boxsl (([] : List T_api_Thread).map o_api_Thread) 1 65] 0 38, .cells [.sl (l1.map e_api_Sym), .boxsl (l374.map o_api_Thread) 1 65] 0 38, .cells [.msl 3 1 0 13 l701.length l701.length] 0 65, .rows (l701.map e_api_Ins) 13 1 55] _ _ from RO) ?_
              refine W.sqG [] [.fol 2 0 0] [(0, .sl (p0.map (eSl e_palingbook_Act))), (1, .int .i64 p1), (2, .int .i64 p2), (6, .ptr 0 0 0), (7, .ptr 1 0 0), (8, .int .i64 i373), (9, .int .i64 n563), (10, .ptr 2 0 0), (12, .int .i64 i700), (76, .bool (decide ((rd l701 i700).To = (⟨#[]⟩ : ByteArray))))] [.cells [.boxsl (([] : List T_api_Sym).map e_api_Sym) 3 86, .boxsl (([] : List T_api_Thread).map o_api_Thread) 1 65] 0 38, .cells [.sl (l1.map e_api_Sym), .boxsl (l374.map o_api_Thread) 1 65] 0 38, .cells [.boxsl (l701.map e_api_Ins) 13 55] 0 65] ?_
              refine W.cnd (decide ((rd l701 i700).To = (⟨#[]⟩ : ByteArray))) (fun hb753 => ?_) (fun hb753 => ?_)
              · replace hm := of_true hb753 hm
                refine W.exit ?_
                exact ⟨l701, (), ⟨[], []⟩, hm, RO⟩
              · replace hm := of_false hb753 hm
                refine W.skip ?_
                refine W.sq [] [(0, .sl (p0.map (eSl e_palingbook_Act))), (1, .int .i64 p1), (2, .int .i64 p2), (6, .ptr 0 0 0), (7, .ptr 1 0 0), (8, .int .i64 i373), (9, .int .i64 n563), (10, .ptr 2 0 0), (12, .int .i64 i700), (13, .int .i64 0)] [.cells [.boxsl (([] : List T_api_Sym).map e_api_Sym) 3 86, .boxsl (([] : List T_api_Thread).map o_api_Thread) 1 65] 0 38, .cells [.sl (l1.map e_api_Sym), .boxsl (l374.map o_api_Thread) 1 65] 0 38, .cells [.boxsl (l701.map e_api_Ins) 13 55] 0 65] ?_
                refine W.block ?_
                replace hm := of_bind hm
                obtain ⟨r795, hlr795, hm⟩ := hm
                refine W.mono (Q := fun e0 s0 h0 => e0 = .exit 6 ∧ ∃ w : Unit, s0 = [(0, .sl (p0.map (eSl e_palingbook_Act))), (1, .int .i64 p1), (2, .int .i64 p2), (6, .ptr 0 0 0), (7, .ptr 1 0 0), (8, .int .i64 i373), (9, .int .i64 n563), (10, .ptr 2 0 0), (12, .int .i64 i700)] ∧ h0 = [.cells [.boxsl (([] : List T_api_Sym).map e_api_Sym) 3 86, .boxsl (([] : List T_api_Thread).map o_api_Thread) 1 65] 0 38, .cells [.sl (l1.map e_api_Sym), .boxsl (l374.map o_api_Thread) 1 65] 0 38, .cells [.boxsl (r795.map e_api_Ins) 13 55] 0 65]) (W.loopM (step := palingbook_ProgO_s4 n563 i700) (a0 := (0, l701)) (fun (a : Int × (List T_api_Ins)) (v : Unit) => ([(0, .sl (p0.map (eSl e_palingbook_Act))), (1, .int .i64 p1), (2, .int .i64 p2), (6, .ptr 0 0 0), (7, .ptr 1 0 0), (8, .int .i64 i373), (9, .int .i64 n563), (10, .ptr 2 0 0), (12, .int .i64 i700), (13, .int .i64 a.1)], [.cells [.boxsl (([] : List T_api_Sym).map e_api_Sym) 3 86, .boxsl (([] : List T_api_Thread).map o_api_Thread) 1 65] 0 38, .cells [.sl (l1.map e_api_Sym), .boxsl (l374.map o_api_Thread) 1 65] 0 38, .cells [.boxsl (a.2.map e_api_Ins) 13 55] 0 65])) () hlr795 ⟨[], []⟩ RO ?_) ?_
                · rintro ⟨i780, l781⟩ _ x hm hx
                  rw [palingbook_ProgO_s4] at hm
                  show WK _ _ _ _ _ [(0, .sl (p0.map (eSl e_palingbook_Act))), (1, .int .i64 p1), (2, .int .i64 p2), (6, .ptr 0 0 0), (7, .ptr 1 0 0), (8, .int .i64 i373), (9, .int .i64 n563), (10, .ptr 2 0 0), (12, .int .i64 i700), (13, .int .i64 i780)] [.cells [.boxsl (([] : List T_api_Sym).map e_api_Sym) 3 86, .boxsl (([] : List T_api_Thread).map o_api_Thread) 1 65] 0 38, .cells [.sl (l1.map e_api_Sym), .boxsl (l374.map o_api_Thread) 1 65] 0 38, .cells [.boxsl (l781.map e_api_Ins) 13 55] 0 65]
                  refine W.seq ?_
                  refine W.sq [] [(0, .sl (p0.map (eSl e_palingbook_Act))), (1, .int .i64 p1), (2, .int .i64 p2), (6, .ptr 0 0 0), (7, .ptr 1 0 0), (8, .int .i64 i373), (9, .int .i64 n563), (10, .ptr 2 0 0), (12, .int .i64 i700), (13, .int .i64 i780), (79, .bool (decide (i780 ≤ n563)))] [.cells [.boxsl (([] : List T_api_Sym).map e_api_Sym) 3 86, .boxsl (([] : List T_api_Thread).map o_api_Thread) 1 65] 0 38, .cells [.sl (l1.map e_api_Sym), .boxsl (l374.map o_api_Thread) 1 65] 0 38, .cells [.boxsl (l781.map e_api_Ins) 13 55] 0 65] ?_
                  refine W.cnd (decide (i780 ≤ n563)) (fun hb796 => ?_) (fun hb796 => ?_)
                  · replace hm := of_true hb796 hm
                    refine W.skip ?_
                    refine W.cut (fun s h => ∃ (v : (List T_api_Ins)) (w : Unit) (F : Gs), palingbook_ProgO_j2 i780 v = some x ∧ AT 0 F [(0, .sl (p0.map (eSl e_palingbook_Act))), (1, .int .i64 p1), (2, .int .i64 p2), (6, .ptr 0 0 0), (7, .ptr 1 0 0), (8, .int .i64 i373), (9, .int .i64 n563), (10, .ptr 2 0 0), (12, .int .i64 i700), (13, .int .i64 i780)] [.cells [.boxsl (([] : List T_api_Sym).map e_api_Sym) 3 86, .boxsl (([] : List T_api_Thread).map o_api_Thread) 1 65] 0 38, .cells [.sl (l1.map e_api_Sym), .boxsl (l374.map o_api_Thread) 1 65] 0 38, .cells [.boxsl (v.map e_api_Ins) 13 55] 0 65] s h) ?_ ?_
                    · refine W.block ?_
                      replace hm := of_bind hm
                      obtain ⟨v798, h799, hm⟩ := hm
                      replace hm := of_ite hm
                      obtain ⟨h800, hm⟩ := hm
                      replace hm := of_ite hm
                      obtain ⟨h801, hm⟩ := hm
                      refine W.weak ⟨[], [.foc 2 0 0]⟩ (show AT _ ⟨[], [.foc 2 0 0]⟩ [(0, .sl (p0.map (eSl e_palingbook_Act))), (1, .int .i64 p1), (2, .int .i64 p2), (6, .ptr 0 0 0), (7, .ptr 1 0 0), (8, .int .i64 i373), (9, .int .i64 n563), (10, .ptr 2 0 0), (12, .int .i64 i700), (13, .int .i64 i780), (79, .bool (decide (i780 ≤ n563)))] [.cells [.boxsl (([] : List T_api_Sym).map e_api_Sym) 3 86, .boxsl (([] : List T_api_Thread).map o_api_Thread) 1 65] 0 38, .cells [.sl (l1.map e_api_Sym), .boxsl (l374.map o_api_Thread) 1 65] 0 38, .cells [.msl 3 1 0 13 l781.length l781.length] 0 65, .rows (l781.map e_api_Ins) 13 1 55] _ _ from RO) ?_
                      have kh799 := palingbook_label_ok h799
                      try simp only [hb561, hb750, hb753, hb796] at kh799
                      refine W.sqJG [] [] [] 0 [] [.fol 2 0 0] [(0, .sl (p0.map (eSl e_palingbook_Act))), (1, .int .i64 p1), (2, .int .i64 p2), (6, .ptr 0 0 0), (7, .ptr 1 0 0), (8, .int .i64 i373), (9, .int .i64 n563), (10, .ptr 2 0 0), (12, .int .i64 i700), (13, .int .i64 i780), (100, .bool (decide (v798 = (rd l781 i700).To) && ((((rd l781 i780).Labels).length : Int) == 0)))] [.cells [.boxsl (([] : List T_api_Sym).map e_api_Sym) 3 86, .boxsl (([] : List T_api_Thread).map o_api_Thread) 1 65] 0 38, .cells [.sl (l1.map e_api_Sym), .boxsl (l374.map o_api_Thread) 1 65] 0 38, .cells [.boxsl (l781.map e_api_Ins) 13 55] 0 65] v_mixed ?_
                      refine W.cnd (decide (v798 = (rd l781 i700).To) && ((((rd l781 i780).Labels).length : Int) == 0)) (fun hb802 => ?_) (fun hb802 => ?_)
                      · replace hm := of_true hb802 hm
                        replace hm := of_bind hm
                        obtain ⟨v803, h804, hm⟩ := hm
                        replace hm := of_ite hm
                        obtain ⟨h805, hm⟩ := hm
                        replace hm := of_let hm
                        obtain ⟨l806, h807, hm⟩ := hm
                        refine W.weak ⟨[], [.foc 2 0 0]⟩ (show AT _ ⟨[], [.foc 2 0 0]⟩ [(0, .sl (p0.map (eSl e_palingbook_Act))), (1, .int .i64 p1), (2, .int .i64 p2), (6, .ptr 0 0 0), (7, .ptr 1 0 0), (8, .int .i64 i373), (9, .int .i64 n563), (10, .ptr 2 0 0), (12, .int .i64 i700), (13, .int .i64 i780), (100, .bool (decide (v798 = (rd l781 i700).To) && ((((rd l781 i780).Labels).length : Int) == 0)))] [.cells [.boxsl (([] : List T_api_Sym).map e_api_Sym) 3 86, .boxsl (([] : List T_api_Thread).map o_api_Thread) 1 65] 0 38, .cells [.sl (l1.map e_api_Sym), .boxsl (l374.map o_api_Thread) 1 65] 0 38, .cells [.msl 3 1 0 13 l781.length l781.length] 0 65, .rows (l781.map e_api_Ins) 13 1 55] _ _ from RO) ?_
                        have kh804 := palingbook_label_ok h804
                        try simp only [hb561, hb750, hb753, hb796, hb802] at kh804
                        refine W.rgJG [8] [] [] 0 [] [.fol 2 0 0] [(0, .sl (p0.map (eSl e_palingbook_Act))), (1, .int .i64 p1), (2, .int .i64 p2), (6, .ptr 0 0 0), (7, .ptr 1 0 0), (8, .int .i64 i373), (9, .int .i64 n563), (10, .ptr 2 0 0), (12, .int .i64 i700), (13, .int .i64 i780)] [.cells [.boxsl (([] : List T_api_Sym).map e_api_Sym) 3 86, .boxsl (([] : List T_api_Thread).map o_api_Thread) 1 65] 0 38, .cells [.sl (l1.map e_api_Sym), .boxsl (l374.map o_api_Thread) 1 65] 0 38, .cells [.boxsl (l806.map e_api_Ins) 13 55] 0 65] v_mixed ?_
                        clear h807
                        exact ⟨l806, (), ⟨[], []⟩, hm, RO⟩
                      · replace hm := of_false hb802 hm
                        refine W.skip ?_
                        exact ⟨l781, (), ⟨[], []⟩, hm, RO⟩
                    · rintro s h ⟨l797, _, F, hm, hat⟩
                      refine W.weak F hat ?_
                      show WK _ _ _ _ _ [(0, .sl (p0.map (eSl e_palingbook_Act))), (1, .int .i64 p1), (2, .int .i64 p2), (6, .ptr 0 0 0), (7, .ptr 1 0 0), (8, .int .i64 i373), (9, .int .i64 n563), (10, .ptr 2 0 0), (12, .int .i64 i700), (13, .int .i64 i780)] [.cells [.boxsl (([] : List T_api_Sym).map e_api_Sym) 3 86, .boxsl (([] : List T_api_Thread).map o_api_Thread) 1 65] 0 38, .cells [.sl (l1.map e_api_Sym), .boxsl (l374.map o_api_Thread) 1 65] 0 38, .cells [.boxsl (l797.map e_api_Ins) 13 55] 0 65]
                      rw [palingbook_ProgO_j2] at hm
                      refine W.rg [] [(0, .sl (p0.map (eSl e_palingbook_Act))), (1, .int .i64 p1), (2, .int .i64 p2), (6, .ptr 0 0 0), (7, .ptr 1 0 0), (8, .int .i64 i373), (9, .int .i64 n563), (10, .ptr 2 0 0), (12, .int .i64 i700), (13, .int .i64 (IntKind.wrap .i64 (i780 + 1)))] [.cells [.boxsl (([] : List T_api_Sym).map e_api_Sym) 3 86, .boxsl (([] : List T_api_Thread).map o_api_Thread) 1 65] 0 38, .cells [.sl (l1.map e_api_Sym), .boxsl (l374.map o_api_Thread) 1 65] 0 38, .cells [.boxsl (l797.map e_api_Ins) 13 55] 0 65] ?_
                      obtain rfl := Option.some.inj hm
                      exact ⟨((IntKind.wrap .i64 (i780 + 1)), l797), (), ⟨[], []⟩, rfl, RO⟩
                  · replace hm := of_false hb796 hm
                    obtain rfl := Option.some.inj hm
                    obtain rfl := hx _ rfl
                    exact W.weak ⟨[], []⟩ (show AT _ ⟨[], []⟩ [(0, .sl (p0.map (eSl e_palingbook_Act))), (1, .int .i64 p1), (2, .int .i64 p2), (6, .ptr 0 0 0), (7, .ptr 1 0 0), (8, .int .i64 i373), (9, .int .i64 n563), (10, .ptr 2 0 0), (12, .int .i64 i700)] [.cells [.boxsl (([] : List T_api_Sym).map e_api_Sym) 3 86, .boxsl (([] : List T_api_Thread).map o_api_Thread) 1 65] 0 38, .cells [.sl (l1.map e_api_Sym), .boxsl (l374.map o_api_Thread) 1 65] 0 38, .cells [.boxsl (l781.map e_api_Ins) 13 55] 0 65] _ _ from RO) (W.exit (show _ ∧ _ from ⟨rfl, (), rfl, rfl⟩))
                · rintro e0 s0 h0 ⟨rfl, _, rfl, rfl⟩
                  exact ⟨r795, (), ⟨[], []⟩, hm, RO⟩
            · rintro s h ⟨l751, _, F, hm, hat⟩
              refine W.weak F hat ?_
              show WK _ _ _ _ _ [(0, .sl (p0.map (eSl e_palingbook_Act))), (1, .int .i64 p1), (2, .int .i64 p2), (6, .ptr 0 0 0), (7, .ptr 1 0 0), (8, .int .i64 i373), (9, .int .i64 n563), (10, .ptr 2 0 0), (12, .int .i64 i700)] [.cells [.boxsl (([] : List T_api_Sym).map e_api_Sym) 3 86, .boxsl (([] : List T_api_Thread).map o_api_Thread) 1 65] 0 38, .cells [.sl (l1.map e_api_Sym), .boxsl (l374.map o_api_Thread) 1 65] 0 38, .cells [.boxsl (l751.map e_api_Ins) 13 55] 0 65]
              rw [palingbook_ProgO_j1] at hm
              refine W.rg [] [(0, .sl (p0.map (eSl e_palingbook_Act))), (1, .int .i64 p1), (2, .int .i64 p2), (6, .ptr 0 0 0), (7, .ptr 1 0 0), (8, .int .i64 i373), (9, .int .i64 n563), (10, .ptr 2 0 0), (12, .int .i64 (IntKind.wrap .i64 (i700 + 1)))] [.cells [.boxsl (([] : List T_api_Sym).map e_api_Sym) 3 86, .boxsl (([] : List T_api_Thread).map o_api_Thread) 1 65] 0 38, .cells [.sl (l1.map e_api_Sym), .boxsl (l374.map o_api_Thread) 1 65] 0 38, .cells [.boxsl (l751.map e_api_Ins) 13 55] 0 65] ?_
              obtain rfl := Option.some.inj hm
              exact ⟨((IntKind.wrap .i64 (i700 + 1)), l751), (), ⟨[], []⟩, rfl, RO⟩
          · replace hm := of_false hb750 hm
            obtain rfl := Option.some.inj hm
            obtain rfl := hx _ rfl
            exact W.weak ⟨[], []⟩ (show AT _ ⟨[], []⟩ [(0, .sl (p0.map (eSl e_palingbook_Act))), (1, .int .i64 p1), (2, .int .i64 p2), (6, .ptr 0 0 0), (7, .ptr 1 0 0), (8, .int .i64 i373), (10, .ptr 2 0 0)] [.cells [.boxsl (([] : List T_api_Sym).map e_api_Sym) 3 86, .boxsl (([] : List T_api_Thread).map o_api_Thread) 1 65] 0 38, .cells [.sl (l1.map e_api_Sym), .boxsl (l374.map o_api_Thread) 1 65] 0 38, .cells [.boxsl (l701.map e_api_Ins) 13 55] 0 65] _ _ from RO) (W.exit (show _ ∧ _ from ⟨rfl, (), rfl, rfl⟩))
        · rintro e0 s0 h0 ⟨rfl, _, rfl, rfl⟩
          show WK _ _ _ _ _ [(0, .sl (p0.map (eSl e_palingbook_Act))), (1, .int .i64 p1), (2, .int .i64 p2), (6, .ptr 0 0 0), (7, .ptr 1 0 0), (8, .int .i64 i373), (10, .ptr 2 0 0)] [.cells [.boxsl (([] : List T_api_Sym).map e_api_Sym) 3 86, .boxsl (([] : List T_api_Thread).map o_api_Thread) 1 65] 0 38, .cells [.sl (l1.map e_api_Sym), .boxsl (l374.map o_api_Thread) 1 65] 0 38, .cells [.boxsl (r749.map e_api_Ins) 13 55] 0 65]
          replace hm := of_ite hm
          obtain ⟨h808, hm⟩ := hm
          replace hm := of_let hm
          obtain ⟨l809, h810, hm⟩ := hm
          refine W.weak ⟨[], [.foc 1 0 1, .foc 2 0 0]⟩ (show AT _ ⟨[], [.foc 1 0 1, .foc 2 0 0]⟩ [(0, .sl (p0.map (eSl e_palingbook_Act))), (1, .int .i64 p1), (2, .int .i64 p2), (6, .ptr 0 0 0), (7, .ptr 1 0 0), (8, .int .i64 i373), (10, .ptr 2 0 0)] [.cells [.boxsl (([] : List T_api_Sym).map e_api_Sym) 3 86, .boxsl (([] : List T_api_Thread).map o_api_Thread) 1 65] 0 38, .cells [.sl (l1.map e_api_Sym), .msl 3 1 0 1 l374.length l374.length] 0 38, .cells [.msl 4 1 0 13 r749.length r749.length] 0 65, .rows (l374.map o_api_Thread) 1 1 65, .rows (r749.map e_api_Ins) 13 1 55] _ _ from RO) ?_
          refine W.rgG [] [.fol 3 l374.length 0, .fol 1 0 1] [(0, .sl (p0.map (eSl e_palingbook_Act))), (1, .int .i64 p1), (2, .int .i64 p2), (6, .ptr 0 0 0), (7, .ptr 1 0 0), (8, .int .i64 i373)] [.cells [.boxsl (([] : List T_api_Sym).map e_api_Sym) 3 86, .boxsl (([] : List T_api_Thread).map o_api_Thread) 1 65] 0 38, .cells [.sl (l1.map e_api_Sym), .boxsl (l809.map o_api_Thread) 1 65] 0 38] ?_ (hrun := by exact ROT)
          clear h810
          refine W.rg [] [(0, .sl (p0.map (eSl e_palingbook_Act))), (1, .int .i64 p1), (2, .int .i64 p2), (6, .ptr 0 0 0), (7, .ptr 1 0 0), (8, .int .i64 (IntKind.wrap .i64 (i373 + 1)))] [.cells [.boxsl (([] : List T_api_Sym).map e_api_Sym) 3 86, .boxsl (([] : List T_api_Thread).map o_api_Thread) 1 65] 0 38, .cells [.sl (l1.map e_api_Sym), .boxsl (l809.map o_api_Thread) 1 65] 0 38] ?_
          obtain rfl := Option.some.inj hm
          exact ⟨((IntKind.wrap .i64 (i373 + 1)), l809), (), ⟨[], []⟩, rfl, RO⟩
    · replace hm := of_false hb561 hm
      obtain rfl := Option.some.inj hm
      obtain rfl := hx _ rfl
      exact W.weak ⟨[], []⟩ (show AT _ ⟨[], []⟩ [(6, .ptr 0 0 0), (7, .ptr 1 0 0)] [.cells [.boxsl (([] : List T_api_Sym).map e_api_Sym) 3 86, .boxsl (([] : List T_api_Thread).map o_api_Thread) 1 65] 0 38, .cells [.sl (l1.map e_api_Sym), .boxsl (l374.map o_api_Thread) 1 65] 0 38] _ _ from RO) (W.exit (show _ ∧ _ from ⟨rfl, (), rfl, rfl⟩))
  · rintro e0 s0 h0 ⟨rfl, _, rfl, rfl⟩
    show WK _ _ _ _ _ [(6, .ptr 0 0 0), (7, .ptr 1 0 0)] [.cells [.boxsl (([] : List T_api_Sym).map e_api_Sym) 3 86, .boxsl (([] : List T_api_Thread).map o_api_Thread) 1 65] 0 38, .cells [.sl (l1.map e_api_Sym), .boxsl (r560.map o_api_Thread) 1 65] 0 38]
    refine W.weak ⟨[], [.foc 1 0 1]⟩ (show AT _ ⟨[], [.foc 1 0 1]⟩ [(6, .ptr 0 0 0), (7, .ptr 1 0 0)] [.cells [.boxsl (([] : List T_api_Sym).map e_api_Sym) 3 86, .boxsl (([] : List T_api_Thread).map o_api_Thread) 1 65] 0 38, .cells [.sl (l1.map e_api_Sym), .msl 2 1 0 1 r560.length r560.length] 0 38, .rows (r560.map o_api_Thread) 1 1 65] _ _ from RO) ?_
    refine W.sqG [] [.fol 0 0 1] [(6, .ptr 0 0 0)] [.cells [.sl (l1.map e_api_Sym), .boxsl (r560.map o_api_Thread) 1 65] 0 38] ?_
    obtain rfl := Option.some.inj hm
    refine W.weak ⟨[], [.foc 0 0 1]⟩ (show AT _ ⟨[], [.foc 0 0 1]⟩ [(6, .ptr 0 0 0)] [.cells [.sl (l1.map e_api_Sym), .msl 1 1 0 1 r560.length r560.length] 0 38, .rows (r560.map o_api_Thread) 1 1 65] _ _ from RO) ?_
    exact W.ret (EndsH.retN [some 1] ⟨[], []⟩ RO)


end Go.Proofs.YtocjejladeeckaaDoor
