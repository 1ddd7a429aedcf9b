import Derived.Test.YtlolkehjlkmcbaaDoorVFacts
import Derived.Test.YtlolkehjlkmcbaaDoorPalF
import Derived.Test.YtlolkehjlkmcbaaDoorWA
set_option maxRecDepth 100000
set_option maxHeartbeats 4000000
set_option linter.unusedSimpArgs false
set_option linter.unusedVariables false
set_option linter.unusedSectionVars false
namespace Go.Proofs.YtlolkehjlkmcbaaDoor
open Go.Vs
variable [Tab]
theorem palingref2_Copy_own {p0 : T_api_State} {r : T_api_State} (hm : palingref2_Copy p0 = some r) : HF Tryd.prog 16 [.agg [.sl (p0.Mem.map (eInt .i64)), .sl (p0.Thr.map e_api_Thr), .sl (p0.Bufs.map (eSl e_api_Entry)), .int .i64 p0.Lock]] [] (.agg [.msl 5 1 0 1 r.Mem.length r.Mem.length, .msl 6 1 0 16 r.Thr.length r.Thr.length, .msl 7 1 0 1 r.Bufs.length r.Bufs.length, .int .i64 r.Lock]) [.dead, .dead, .dead, .dead, .dead, .rows (r.Mem.map (eInt .i64)) 1 1 2, .rows (r.Thr.map e_api_Thr) 16 1 39, .rows (r.Bufs.map (oSl 2 42 e_api_Entry)) 1 1 40] := by
  rw [← palingref2_CopyO_eq, palingref2_CopyO] at hm
  refine HF.of Tryd.func16 rfl Tryd.ntmps16 (Nat.le_of_ble_eq_true rfl) rfl ?_
  have e0 : argS 0 [.agg [.sl (p0.Mem.map (eInt .i64)), .sl (p0.Thr.map e_api_Thr), .sl (p0.Bufs.map (eSl e_api_Entry)), .int .i64 p0.Lock]] = [(0, .agg [.sl (p0.Mem.map (eInt .i64)), .sl (p0.Thr.map e_api_Thr), .sl (p0.Bufs.map (eSl e_api_Entry)), .int .i64 p0.Lock])] := rfl
  rw [e0]
  refine W.sqG [] [.nbx 1 0 0 1 2, .nbx 1 0 1 16 39, .nbx 1 0 2 1 40] [(1, .ptr 0 0 0), (2, .ptr 1 0 0)] [.cells (e_api_State p0) 0 26, .cells [.boxsl (([] : List Int).map (eInt .i64)) 1 2, .boxsl (([] : List T_api_Thr).map e_api_Thr) 16 39, .boxsl (([] : List (List T_api_Entry)).map (oSl 2 42 e_api_Entry)) 1 40, .int .i64 0] 0 26] ?_
  refine W.sqG [] [.nbx 2 0 0 1 2, .nbx 2 0 1 16 39, .nbx 2 0 2 1 40] [(1, .ptr 0 0 0), (2, .ptr 1 0 0), (3, .ptr 2 0 0)] [.cells (e_api_State p0) 0 26, .cells [.boxsl (([] : List Int).map (eInt .i64)) 1 2, .boxsl (([] : List T_api_Thr).map e_api_Thr) 16 39, .boxsl (([] : List (List T_api_Entry)).map (oSl 2 42 e_api_Entry)) 1 40, .int .i64 0] 0 26, .cells [.boxsl (([] : List Int).map (eInt .i64)) 1 2, .boxsl (([] : List T_api_Thr).map e_api_Thr) 16 39, .boxsl (([] : List (List T_api_Entry)).map (oSl 2 42 e_api_Entry)) 1 40, .int .i64 p0.Lock] 0 26] ?_
  replace hm := of_ite hm
  obtain ⟨h1, hm⟩ := hm
  refine W.sqG [] [.fol 2 0 0] [(1, .ptr 0 0 0), (2, .ptr 1 0 0), (3, .ptr 2 0 0)] [.cells (e_api_State p0) 0 26, .cells [.boxsl (([] : List Int).map (eInt .i64)) 1 2, .boxsl (([] : List T_api_Thr).map e_api_Thr) 16 39, .boxsl (([] : List (List T_api_Entry)).map (oSl 2 42 e_api_Entry)) 1 40, .int .i64 0] 0 26, .cells [.boxsl (p0.Mem.map (eInt .i64)) 1 2, .boxsl (([] : List T_api_Thr).map e_api_Thr) 16 39, .boxsl (([] : List (List T_api_Entry)).map (oSl 2 42 e_api_Entry)) 1 40, .int .i64 p0.Lock] 0 26] ?_ (hrun := by exact ROT)
  replace hm := of_ite hm
  obtain ⟨h2, hm⟩ := hm
  refine W.sqG [] [.fol 2 0 1] [(1, .ptr 0 0 0), (2, .ptr 1 0 0), (3, .ptr 2 0 0)] [.cells (e_api_State p0) 0 26, .cells [.boxsl (([] : List Int).map (eInt .i64)) 1 2, .boxsl (([] : List T_api_Thr).map e_api_Thr) 16 39, .boxsl (([] : List (List T_api_Entry)).map (oSl 2 42 e_api_Entry)) 1 40, .int .i64 0] 0 26, .cells [.boxsl (p0.Mem.map (eInt .i64)) 1 2, .boxsl (p0.Thr.map e_api_Thr) 16 39, .boxsl (([] : List (List T_api_Entry)).map (oSl 2 42 e_api_Entry)) 1 40, .int .i64 p0.Lock] 0 26] ?_ (hrun := by exact ROT)
  refine W.seq ?_
  refine W.sq [] [(1, .ptr 0 0 0), (2, .ptr 1 0 0), (3, .ptr 2 0 0), (4, .int .i64 0)] [.cells (e_api_State p0) 0 26, .cells [.boxsl (([] : List Int).map (eInt .i64)) 1 2, .boxsl (([] : List T_api_Thr).map e_api_Thr) 16 39, .boxsl (([] : List (List T_api_Entry)).map (oSl 2 42 e_api_Entry)) 1 40, .int .i64 0] 0 26, .cells [.boxsl (p0.Mem.map (eInt .i64)) 1 2, .boxsl (p0.Thr.map e_api_Thr) 16 39, .boxsl (([] : List (List T_api_Entry)).map (oSl 2 42 e_api_Entry)) 1 40, .int .i64 p0.Lock] 0 26] ?_
  refine W.block ?_
  replace hm := of_bind hm
  obtain ⟨r26, hlr26, hm⟩ := hm
  refine W.mono (Q := fun e0 s0 h0 => e0 = .exit 0 ∧ ∃ w : Unit, s0 = [(2, .ptr 1 0 0), (3, .ptr 2 0 0)] ∧ h0 = [.dead, .cells [.boxsl (([] : List Int).map (eInt .i64)) 1 2, .boxsl (([] : List T_api_Thr).map e_api_Thr) 16 39, .boxsl (([] : List (List T_api_Entry)).map (oSl 2 42 e_api_Entry)) 1 40, .int .i64 0] 0 26, .cells [.boxsl (p0.Mem.map (eInt .i64)) 1 2, .boxsl (p0.Thr.map e_api_Thr) 16 39, .boxsl (r26.map (oSl 2 42 e_api_Entry)) 1 40, .int .i64 p0.Lock] 0 26]) (W.loopM (step := palingref2_CopyO_s1 p0) (a0 := (0, ([] : List (List T_api_Entry)))) (fun (a : Int × (List (List T_api_Entry))) (v : Unit) => ([(1, .ptr 0 0 0), (2, .ptr 1 0 0), (3, .ptr 2 0 0), (4, .int .i64 a.1)], [.cells (e_api_State p0) 0 26, .cells [.boxsl (([] : List Int).map (eInt .i64)) 1 2, .boxsl (([] : List T_api_Thr).map e_api_Thr) 16 39, .boxsl (([] : List (List T_api_Entry)).map (oSl 2 42 e_api_Entry)) 1 40, .int .i64 0] 0 26, .cells [.boxsl (p0.Mem.map (eInt .i64)) 1 2, .boxsl (p0.Thr.map e_api_Thr) 16 39, .boxsl (a.2.map (oSl 2 42 e_api_Entry)) 1 40, .int .i64 p0.Lock] 0 26])) () hlr26 ⟨[], []⟩ RO ?_) ?_
  · rintro ⟨i17, l18⟩ _ x hm hx
    rw [palingref2_CopyO_s1] at hm
    show WK _ _ _ _ _ [(1, .ptr 0 0 0), (2, .ptr 1 0 0), (3, .ptr 2 0 0), (4, .int .i64 i17)] [.cells (e_api_State p0) 0 26, .cells [.boxsl (([] : List Int).map (eInt .i64)) 1 2, .boxsl (([] : List T_api_Thr).map e_api_Thr) 16 39, .boxsl (([] : List (List T_api_Entry)).map (oSl 2 42 e_api_Entry)) 1 40, .int .i64 0] 0 26, .cells [.boxsl (p0.Mem.map (eInt .i64)) 1 2, .boxsl (p0.Thr.map e_api_Thr) 16 39, .boxsl (l18.map (oSl 2 42 e_api_Entry)) 1 40, .int .i64 p0.Lock] 0 26]
    refine W.seq ?_
    refine W.sq [] [(1, .ptr 0 0 0), (2, .ptr 1 0 0), (3, .ptr 2 0 0), (4, .int .i64 i17), (20, .bool (decide (i17 < (p0.Bufs.length : Int))))] [.cells (e_api_State p0) 0 26, .cells [.boxsl (([] : List Int).map (eInt .i64)) 1 2, .boxsl (([] : List T_api_Thr).map e_api_Thr) 16 39, .boxsl (([] : List (List T_api_Entry)).map (oSl 2 42 e_api_Entry)) 1 40, .int .i64 0] 0 26, .cells [.boxsl (p0.Mem.map (eInt .i64)) 1 2, .boxsl (p0.Thr.map e_api_Thr) 16 39, .boxsl (l18.map (oSl 2 42 e_api_Entry)) 1 40, .int .i64 p0.Lock] 0 26] ?_
    refine W.cnd (decide (i17 < (p0.Bufs.length : Int))) (fun hb27 => ?_) (fun hb27 => ?_)
    · replace hm := of_true hb27 hm
      refine W.skip ?_
      refine W.seq ?_
      refine W.block ?_
      replace hm := of_ite hm
      obtain ⟨h28, hm⟩ := hm
      replace hm := of_ite hm
      obtain ⟨h29, hm⟩ := hm
      replace hm := of_ite hm
      obtain ⟨h30, hm⟩ := hm
      replace hm := of_let hm
      obtain ⟨l31, h32, hm⟩ := hm
      refine W.weak ⟨[], [.foc 2 0 2]⟩ (show AT _ ⟨[], [.foc 2 0 2]⟩ [(1, .ptr 0 0 0), (2, .ptr 1 0 0), (3, .ptr 2 0 0), (4, .int .i64 i17), (20, .bool (decide (i17 < (p0.Bufs.length : Int))))] [.cells (e_api_State p0) 0 26, .cells [.boxsl (([] : List Int).map (eInt .i64)) 1 2, .boxsl (([] : List T_api_Thr).map e_api_Thr) 16 39, .boxsl (([] : List (List T_api_Entry)).map (oSl 2 42 e_api_Entry)) 1 40, .int .i64 0] 0 26, .cells [.boxsl (p0.Mem.map (eInt .i64)) 1 2, .boxsl (p0.Thr.map e_api_Thr) 16 39, .msl 3 1 0 1 l18.length l18.length, .int .i64 p0.Lock] 0 26, .rows (l18.map (oSl 2 42 e_api_Entry)) 1 1 40] _ _ from RO) ?_
      refine W.rgJG [7, 8, 9, 11] [7, 8] [0, 1, 2, 3, 4, 5, 6, 10] 4 [] [.fol 3 l18.length 0, .fol 2 0 2] [(1, .ptr 0 0 0), (2, .ptr 1 0 0), (3, .ptr 2 0 0), (4, .int .i64 i17)] [.cells (e_api_State p0) 0 26, .cells [.boxsl (([] : List Int).map (eInt .i64)) 1 2, .boxsl (([] : List T_api_Thr).map e_api_Thr) 16 39, .boxsl (([] : List (List T_api_Entry)).map (oSl 2 42 e_api_Entry)) 1 40, .int .i64 0] 0 26, .cells [.boxsl (p0.Mem.map (eInt .i64)) 1 2, .boxsl (p0.Thr.map e_api_Thr) 16 39, .boxsl (l31.map (oSl 2 42 e_api_Entry)) 1 40, .int .i64 p0.Lock] 0 26] v_mixed ?_ (hrun := by exact ROT)
      clear h32
      refine W.rg [] [(1, .ptr 0 0 0), (2, .ptr 1 0 0), (3, .ptr 2 0 0), (4, .int .i64 (IntKind.wrap .i64 (i17 + 1)))] [.cells (e_api_State p0) 0 26, .cells [.boxsl (([] : List Int).map (eInt .i64)) 1 2, .boxsl (([] : List T_api_Thr).map e_api_Thr) 16 39, .boxsl (([] : List (List T_api_Entry)).map (oSl 2 42 e_api_Entry)) 1 40, .int .i64 0] 0 26, .cells [.boxsl (p0.Mem.map (eInt .i64)) 1 2, .boxsl (p0.Thr.map e_api_Thr) 16 39, .boxsl (l31.map (oSl 2 42 e_api_Entry)) 1 40, .int .i64 p0.Lock] 0 26] ?_
      obtain rfl := Option.some.inj hm
      exact ⟨((IntKind.wrap .i64 (i17 + 1)), l31), (), ⟨[], []⟩, rfl, RO⟩
    · replace hm := of_false hb27 hm
      obtain rfl := Option.some.inj hm
      obtain rfl := hx _ rfl
      exact W.weak ⟨[], []⟩ (show AT _ ⟨[], []⟩ [(2, .ptr 1 0 0), (3, .ptr 2 0 0)] [.dead, .cells [.boxsl (([] : List Int).map (eInt .i64)) 1 2, .boxsl (([] : List T_api_Thr).map e_api_Thr) 16 39, .boxsl (([] : List (List T_api_Entry)).map (oSl 2 42 e_api_Entry)) 1 40, .int .i64 0] 0 26, .cells [.boxsl (p0.Mem.map (eInt .i64)) 1 2, .boxsl (p0.Thr.map e_api_Thr) 16 39, .boxsl (l18.map (oSl 2 42 e_api_Entry)) 1 40, .int .i64 p0.Lock] 0 26] _ _ from RO) (W.exit (show _ ∧ _ from ⟨rfl, (), rfl, rfl⟩))
  · rintro e0 s0 h0 ⟨rfl, _, rfl, rfl⟩
    show WK _ _ _ _ _ [(2, .ptr 1 0 0), (3, .ptr 2 0 0)] [.dead, .cells [.boxsl (([] : List Int).map (eInt .i64)) 1 2, .boxsl (([] : List T_api_Thr).map e_api_Thr) 16 39, .boxsl (([] : List (List T_api_Entry)).map (oSl 2 42 e_api_Entry)) 1 40, .int .i64 0] 0 26, .cells [.boxsl (p0.Mem.map (eInt .i64)) 1 2, .boxsl (p0.Thr.map e_api_Thr) 16 39, .boxsl (r26.map (oSl 2 42 e_api_Entry)) 1 40, .int .i64 p0.Lock] 0 26]
    refine W.weak ⟨[], [.foc 2 0 0, .foc 2 0 1, .foc 2 0 2]⟩ (show AT _ ⟨[], [.foc 2 0 0, .foc 2 0 1, .foc 2 0 2]⟩ [(2, .ptr 1 0 0), (3, .ptr 2 0 0)] [.dead, .cells [.boxsl (([] : List Int).map (eInt .i64)) 1 2, .boxsl (([] : List T_api_Thr).map e_api_Thr) 16 39, .boxsl (([] : List (List T_api_Entry)).map (oSl 2 42 e_api_Entry)) 1 40, .int .i64 0] 0 26, .cells [.msl 3 1 0 1 p0.Mem.length p0.Mem.length, .msl 4 1 0 16 p0.Thr.length p0.Thr.length, .msl 5 1 0 1 r26.length r26.length, .int .i64 p0.Lock] 0 26, .rows (p0.Mem.map (eInt .i64)) 1 1 2, .rows (p0.Thr.map e_api_Thr) 16 1 39, .rows (r26.map (oSl 2 42 e_api_Entry)) 1 1 40] _ _ from RO) ?_
    refine W.sqG [] [.fol 1 0 0, .fol 1 0 1, .fol 1 0 2] [(2, .ptr 1 0 0)] [.dead, .cells [.boxsl (p0.Mem.map (eInt .i64)) 1 2, .boxsl (p0.Thr.map e_api_Thr) 16 39, .boxsl (r26.map (oSl 2 42 e_api_Entry)) 1 40, .int .i64 p0.Lock] 0 26] ?_
    obtain rfl := Option.some.inj hm
    refine W.weak ⟨[], [.foc 1 0 0, .foc 1 0 1, .foc 1 0 2]⟩ (show AT _ ⟨[], [.foc 1 0 0, .foc 1 0 1, .foc 1 0 2]⟩ [(2, .ptr 1 0 0)] [.dead, .cells [.msl 2 1 0 1 p0.Mem.length p0.Mem.length, .msl 3 1 0 16 p0.Thr.length p0.Thr.length, .msl 4 1 0 1 r26.length r26.length, .int .i64 p0.Lock] 0 26, .rows (p0.Mem.map (eInt .i64)) 1 1 2, .rows (p0.Thr.map e_api_Thr) 16 1 39, .rows (r26.map (oSl 2 42 e_api_Entry)) 1 1 40] _ _ from RO) ?_
    exact W.ret (EndsH.retN [some 2, some 3, some 4] ⟨[], []⟩ RO)


end Go.Proofs.YtlolkehjlkmcbaaDoor
