import Derived.Test.YtlolkehjlkmcbaaDoorVFacts
import Derived.Test.YtlolkehjlkmcbaaDoorPalC
import Derived.Test.YtlolkehjlkmcbaaDoorWA
import Derived.Test.YtlolkehjlkmcbaaDoorWB
import Derived.Test.YtlolkehjlkmcbaaDoorWNum
import Derived.Test.YtlolkehjlkmcbaaDoorWNb
set_option maxRecDepth 100000
set_option maxHeartbeats 4000000
set_option linter.unusedSimpArgs false
set_option linter.unusedVariables false
set_option linter.unusedSectionVars false
namespace Go.Proofs.YtlolkehjlkmcbaaDoor
open Go.Vs
variable [TabP]
theorem state_row_int64_ok {p0 : (List Int)} {p1 : (List Int)} {r : Bool} (hm : state_row_int64 p0 p1 = some r) : PureF Tryd.prog 18 [.sl (p0.map (eInt .i64)), .sl (p1.map (eInt .i64))] (.bool r) := by
  rw [state_row_int64] at hm
  refine PureF.of Tryd.func18 rfl Tryd.ntmps18 (Nat.le_of_ble_eq_true rfl) ?_
  have e0 : argS 0 [.sl (p0.map (eInt .i64)), .sl (p1.map (eInt .i64))] = [(0, .sl (p0.map (eInt .i64))), (1, .sl (p1.map (eInt .i64)))] := rfl
  rw [e0]
  refine W.sq [] [(0, .sl (p0.map (eInt .i64))), (1, .sl (p1.map (eInt .i64)))] [] ?_
  refine W.seq ?_
  refine W.sq [] [(0, .sl (p0.map (eInt .i64))), (1, .sl (p1.map (eInt .i64))), (11, .bool ((p0.length : Int) != (p1.length : Int)))] [] ?_
  refine W.cnd ((p0.length : Int) != (p1.length : Int)) (fun hb1 => ?_) (fun hb1 => ?_)
  · replace hm := of_true hb1 hm
    refine W.sq [] [(4, .bool false)] [] ?_
    obtain rfl := Option.some.inj hm
    exact W.ret (EndsF.retW [] RO)
  · replace hm := of_false hb1 hm
    refine W.skip ?_
    refine W.seq ?_
    refine W.sq [] [(1, .sl (p1.map (eInt .i64))), (12, .sl (p0.map (eInt .i64))), (13, .int .i64 (p0.length : Int)), (14, .int .i64 0)] [] ?_
    refine W.block ?_
    replace hm := of_bind hm
    obtain ⟨r16, hlr16, hm⟩ := hm
    refine W.mono (Q := fun e0 s0 h0 => match r16 with | .inl e => e0 = .exit 0 ∧ ∃ w : Unit, s0 = [] ∧ h0 = [] | .inr q => e0 = .ret ∧ s0 = [(4, .bool q)] ∧ h0 = []) (W.loopM (step := state_row_int64_s1 p0 p1) (a0 := 0) (fun (a : Int) (v : Unit) => ([(1, .sl (p1.map (eInt .i64))), (12, .sl (p0.map (eInt .i64))), (13, .int .i64 (p0.length : Int)), (14, .int .i64 a)], [])) () hlr16 ⟨[], []⟩ RO ?_) ?_
    · rintro i11 _ x hm hx
      rw [state_row_int64_s1] at hm
      show WK _ _ _ _ _ [(1, .sl (p1.map (eInt .i64))), (12, .sl (p0.map (eInt .i64))), (13, .int .i64 (p0.length : Int)), (14, .int .i64 i11)] []
      refine W.sq [] [(1, .sl (p1.map (eInt .i64))), (12, .sl (p0.map (eInt .i64))), (13, .int .i64 (p0.length : Int)), (14, .int .i64 i11), (15, .bool (decide (i11 < (p0.length : Int))))] [] ?_
      refine W.seq ?_
      refine W.cnd (decide (i11 < (p0.length : Int))) (fun hb17 => ?_) (fun hb17 => ?_)
      · replace hm := of_true hb17 hm
        refine W.skip ?_
        refine W.seq ?_
        refine W.block ?_
        replace hm := of_ite hm
        obtain ⟨h18, hm⟩ := hm
        refine W.sq [] [(1, .sl (p1.map (eInt .i64))), (5, .int .i64 i11), (6, .int .i64 (rd p0 i11)), (12, .sl (p0.map (eInt .i64))), (13, .int .i64 (p0.length : Int)), (14, .int .i64 i11)] [] ?_
        replace hm := of_ite hm
        obtain ⟨h19, hm⟩ := hm
        refine W.sq [] [(1, .sl (p1.map (eInt .i64))), (12, .sl (p0.map (eInt .i64))), (13, .int .i64 (p0.length : Int)), (14, .int .i64 i11), (24, .bool ((rd p0 i11) != (rd p1 i11)))] [] ?_
        refine W.cnd ((rd p0 i11) != (rd p1 i11)) (fun hb20 => ?_) (fun hb20 => ?_)
        · replace hm := of_true hb20 hm
          refine W.sq [] [(4, .bool false)] [] ?_
          obtain rfl := Option.some.inj hm
          obtain rfl := hx _ rfl
          exact W.weak ⟨[], []⟩ (show AT _ ⟨[], []⟩ [(4, .bool false)] [] _ _ from RO) (W.ret (show _ ∧ _ from ⟨rfl, rfl, rfl⟩))
        · replace hm := of_false hb20 hm
          refine W.skip ?_
          refine W.rg [] [(1, .sl (p1.map (eInt .i64))), (12, .sl (p0.map (eInt .i64))), (13, .int .i64 (p0.length : Int)), (14, .int .i64 (IntKind.wrap .i64 (i11 + 1)))] [] ?_
          obtain rfl := Option.some.inj hm
          exact ⟨(IntKind.wrap .i64 (i11 + 1)), (), ⟨[], []⟩, rfl, RO⟩
      · replace hm := of_false hb17 hm
        obtain rfl := Option.some.inj hm
        obtain rfl := hx _ rfl
        exact W.weak ⟨[], []⟩ (show AT _ ⟨[], []⟩ [] [] _ _ from RO) (W.exit (show _ ∧ _ from ⟨rfl, (), rfl, rfl⟩))
    · intro e0 s0 h0 hq
      rcases r16 with er16 | qr16
      · obtain ⟨rfl, _, rfl, rfl⟩ := hq
        replace hm := of_inl hm
        show WK _ _ _ _ _ [] []
        refine W.sq [] [(4, .bool true)] [] ?_
        obtain rfl := Option.some.inj hm
        exact W.ret (EndsF.retW [] RO)
      · obtain ⟨rfl, rfl, rfl⟩ := hq
        replace hm := of_inr hm
        obtain rfl := Option.some.inj hm
        exact EndsF.retW [] RO

theorem state_row_api_Thr_ok {p0 : (List T_api_Thr)} {p1 : (List T_api_Thr)} {r : Bool} (hm : state_row_api_Thr p0 p1 = some r) : PureF Tryd.prog 19 [.sl (p0.map e_api_Thr), .sl (p1.map e_api_Thr)] (.bool r) := by
  rw [state_row_api_Thr] at hm
  refine PureF.of Tryd.func19 rfl Tryd.ntmps19 (Nat.le_of_ble_eq_true rfl) ?_
  have e0 : argS 0 [.sl (p0.map e_api_Thr), .sl (p1.map e_api_Thr)] = [(0, .sl (p0.map e_api_Thr)), (1, .sl (p1.map e_api_Thr))] := rfl
  rw [e0]
  refine W.sq [] [(0, .sl (p0.map e_api_Thr)), (1, .sl (p1.map e_api_Thr))] [] ?_
  refine W.seq ?_
  refine W.sq [] [(0, .sl (p0.map e_api_Thr)), (1, .sl (p1.map e_api_Thr)), (11, .bool ((p0.length : Int) != (p1.length : Int)))] [] ?_
  refine W.cnd ((p0.length : Int) != (p1.length : Int)) (fun hb1 => ?_) (fun hb1 => ?_)
  · replace hm := of_true hb1 hm
    refine W.sq [] [(4, .bool false)] [] ?_
    obtain rfl := Option.some.inj hm
    exact W.ret (EndsF.retW [] RO)
  · replace hm := of_false hb1 hm
    refine W.skip ?_
    refine W.seq ?_
    refine W.sq [] [(1, .sl (p1.map e_api_Thr)), (12, .sl (p0.map e_api_Thr)), (13, .int .i64 (p0.length : Int)), (14, .int .i64 0)] [] ?_
    refine W.block ?_
    replace hm := of_bind hm
    obtain ⟨r24, hlr24, hm⟩ := hm
    refine W.mono (Q := fun e0 s0 h0 => match r24 with | .inl e => e0 = .exit 0 ∧ ∃ w : Unit, s0 = [] ∧ h0 = [] | .inr q => e0 = .ret ∧ s0 = [(4, .bool q)] ∧ h0 = []) (W.loopM (step := state_row_api_Thr_s1 p0 p1) (a0 := 0) (fun (a : Int) (v : Unit) => ([(1, .sl (p1.map e_api_Thr)), (12, .sl (p0.map e_api_Thr)), (13, .int .i64 (p0.length : Int)), (14, .int .i64 a)], [])) () hlr24 ⟨[], []⟩ RO ?_) ?_
    · rintro i17 _ x hm hx
      rw [state_row_api_Thr_s1] at hm
      show WK _ _ _ _ _ [(1, .sl (p1.map e_api_Thr)), (12, .sl (p0.map e_api_Thr)), (13, .int .i64 (p0.length : Int)), (14, .int .i64 i17)] []
      refine W.sq [] [(1, .sl (p1.map e_api_Thr)), (12, .sl (p0.map e_api_Thr)), (13, .int .i64 (p0.length : Int)), (14, .int .i64 i17), (15, .bool (decide (i17 < (p0.length : Int))))] [] ?_
      refine W.seq ?_
      refine W.cnd (decide (i17 < (p0.length : Int))) (fun hb25 => ?_) (fun hb25 => ?_)
      · replace hm := of_true hb25 hm
        refine W.skip ?_
        refine W.seq ?_
        refine W.block ?_
        replace hm := of_ite hm
        obtain ⟨h26, hm⟩ := hm
        refine W.sq [] [(1, .sl (p1.map e_api_Thr)), (5, .int .i64 i17), (6, .ptr 0 0 0), (12, .sl (p0.map e_api_Thr)), (13, .int .i64 (p0.length : Int)), (14, .int .i64 i17)] [.cells (e_api_Thr (rd p0 i17)) 0 39] ?_
        replace hm := of_ite hm
        obtain ⟨h27, hm⟩ := hm
        replace hm := of_let hm
        obtain ⟨b28, h29, hm⟩ := hm
        refine W.sqJ [] [] [] 0 [] [(1, .sl (p1.map e_api_Thr)), (12, .sl (p0.map e_api_Thr)), (13, .int .i64 (p0.length : Int)), (14, .int .i64 i17), (24, .bool b28)] [] v_mixed ?_
        clear h29
        refine W.cnd b28 (fun hb30 => ?_) (fun hb30 => ?_)
        · replace hm := of_true hb30 hm
          refine W.sq [] [(4, .bool false)] [] ?_
          obtain rfl := Option.some.inj hm
          obtain rfl := hx _ rfl
          exact W.weak ⟨[], []⟩ (show AT _ ⟨[], []⟩ [(4, .bool false)] [] _ _ from RO) (W.ret (show _ ∧ _ from ⟨rfl, rfl, rfl⟩))
        · replace hm := of_false hb30 hm
          refine W.skip ?_
          refine W.rg [] [(1, .sl (p1.map e_api_Thr)), (12, .sl (p0.map e_api_Thr)), (13, .int .i64 (p0.length : Int)), (14, .int .i64 (IntKind.wrap .i64 (i17 + 1)))] [] ?_
          obtain rfl := Option.some.inj hm
          exact ⟨(IntKind.wrap .i64 (i17 + 1)), (), ⟨[], []⟩, rfl, RO⟩
      · replace hm := of_false hb25 hm
        obtain rfl := Option.some.inj hm
        obtain rfl := hx _ rfl
        exact W.weak ⟨[], []⟩ (show AT _ ⟨[], []⟩ [] [] _ _ from RO) (W.exit (show _ ∧ _ from ⟨rfl, (), rfl, rfl⟩))
    · intro e0 s0 h0 hq
      rcases r24 with er24 | qr24
      · obtain ⟨rfl, _, rfl, rfl⟩ := hq
        replace hm := of_inl hm
        show WK _ _ _ _ _ [] []
        refine W.sq [] [(4, .bool true)] [] ?_
        obtain rfl := Option.some.inj hm
        exact W.ret (EndsF.retW [] RO)
      · obtain ⟨rfl, rfl, rfl⟩ := hq
        replace hm := of_inr hm
        obtain rfl := Option.some.inj hm
        exact EndsF.retW [] RO

theorem state_row_api_Entry_ok {p0 : (List T_api_Entry)} {p1 : (List T_api_Entry)} {r : Bool} (hm : state_row_api_Entry p0 p1 = some r) : PureF Tryd.prog 20 [.sl (p0.map e_api_Entry), .sl (p1.map e_api_Entry)] (.bool r) := by
  rw [state_row_api_Entry] at hm
  refine PureF.of Tryd.func20 rfl Tryd.ntmps20 (Nat.le_of_ble_eq_true rfl) ?_
  have e0 : argS 0 [.sl (p0.map e_api_Entry), .sl (p1.map e_api_Entry)] = [(0, .sl (p0.map e_api_Entry)), (1, .sl (p1.map e_api_Entry))] := rfl
  rw [e0]
  refine W.sq [] [(0, .sl (p0.map e_api_Entry)), (1, .sl (p1.map e_api_Entry))] [] ?_
  refine W.seq ?_
  refine W.sq [] [(0, .sl (p0.map e_api_Entry)), (1, .sl (p1.map e_api_Entry)), (11, .bool ((p0.length : Int) != (p1.length : Int)))] [] ?_
  refine W.cnd ((p0.length : Int) != (p1.length : Int)) (fun hb1 => ?_) (fun hb1 => ?_)
  · replace hm := of_true hb1 hm
    refine W.sq [] [(4, .bool false)] [] ?_
    obtain rfl := Option.some.inj hm
    exact W.ret (EndsF.retW [] RO)
  · replace hm := of_false hb1 hm
    refine W.skip ?_
    refine W.seq ?_
    refine W.sq [] [(1, .sl (p1.map e_api_Entry)), (12, .sl (p0.map e_api_Entry)), (13, .int .i64 (p0.length : Int)), (14, .int .i64 0)] [] ?_
    refine W.block ?_
    replace hm := of_bind hm
    obtain ⟨r16, hlr16, hm⟩ := hm
    refine W.mono (Q := fun e0 s0 h0 => match r16 with | .inl e => e0 = .exit 0 ∧ ∃ w : Unit, s0 = [] ∧ h0 = [] | .inr q => e0 = .ret ∧ s0 = [(4, .bool q)] ∧ h0 = []) (W.loopM (step := state_row_api_Entry_s1 p0 p1) (a0 := 0) (fun (a : Int) (v : Unit) => ([(1, .sl (p1.map e_api_Entry)), (12, .sl (p0.map e_api_Entry)), (13, .int .i64 (p0.length : Int)), (14, .int .i64 a)], [])) () hlr16 ⟨[], []⟩ RO ?_) ?_
    · rintro i11 _ x hm hx
      rw [state_row_api_Entry_s1] at hm
      show WK _ _ _ _ _ [(1, .sl (p1.map e_api_Entry)), (12, .sl (p0.map e_api_Entry)), (13, .int .i64 (p0.length : Int)), (14, .int .i64 i11)] []
      refine W.sq [] [(1, .sl (p1.map e_api_Entry)), (12, .sl (p0.map e_api_Entry)), (13, .int .i64 (p0.length : Int)), (14, .int .i64 i11), (15, .bool (decide (i11 < (p0.length : Int))))] [] ?_
      refine W.seq ?_
      refine W.cnd (decide (i11 < (p0.length : Int))) (fun hb17 => ?_) (fun hb17 => ?_)
      · replace hm := of_true hb17 hm
        refine W.skip ?_
        refine W.seq ?_
        refine W.block ?_
        replace hm := of_ite hm
        obtain ⟨h18, hm⟩ := hm
        refine W.sq [] [(1, .sl (p1.map e_api_Entry)), (5, .int .i64 i11), (6, .ptr 0 0 0), (12, .sl (p0.map e_api_Entry)), (13, .int .i64 (p0.length : Int)), (14, .int .i64 i11)] [.cells (e_api_Entry (rd p0 i11)) 0 42] ?_
        replace hm := of_ite hm
        obtain ⟨h19, hm⟩ := hm
        refine W.sqJ [] [] [] 0 [] [(1, .sl (p1.map e_api_Entry)), (12, .sl (p0.map e_api_Entry)), (13, .int .i64 (p0.length : Int)), (14, .int .i64 i11), (24, .bool (!(((rd p0 i11).Addr == (rd p1 i11).Addr) && ((rd p0 i11).Val == (rd p1 i11).Val))))] [] v_mixed ?_
        refine W.cnd (!(((rd p0 i11).Addr == (rd p1 i11).Addr) && ((rd p0 i11).Val == (rd p1 i11).Val))) (fun hb20 => ?_) (fun hb20 => ?_)
        · replace hm := of_true hb20 hm
          refine W.sq [] [(4, .bool false)] [] ?_
          obtain rfl := Option.some.inj hm
          obtain rfl := hx _ rfl
          exact W.weak ⟨[], []⟩ (show AT _ ⟨[], []⟩ [(4, .bool false)] [] _ _ from RO) (W.ret (show _ ∧ _ from ⟨rfl, rfl, rfl⟩))
        · replace hm := of_false hb20 hm
          refine W.skip ?_
          refine W.rg [] [(1, .sl (p1.map e_api_Entry)), (12, .sl (p0.map e_api_Entry)), (13, .int .i64 (p0.length : Int)), (14, .int .i64 (IntKind.wrap .i64 (i11 + 1)))] [] ?_
          obtain rfl := Option.some.inj hm
          exact ⟨(IntKind.wrap .i64 (i11 + 1)), (), ⟨[], []⟩, rfl, RO⟩
      · replace hm := of_false hb17 hm
        obtain rfl := Option.some.inj hm
        obtain rfl := hx _ rfl
        exact W.weak ⟨[], []⟩ (show AT _ ⟨[], []⟩ [] [] _ _ from RO) (W.exit (show _ ∧ _ from ⟨rfl, (), rfl, rfl⟩))
    · intro e0 s0 h0 hq
      rcases r16 with er16 | qr16
      · obtain ⟨rfl, _, rfl, rfl⟩ := hq
        replace hm := of_inl hm
        show WK _ _ _ _ _ [] []
        refine W.sq [] [(4, .bool true)] [] ?_
        obtain rfl := Option.some.inj hm
        exact W.ret (EndsF.retW [] RO)
      · obtain ⟨rfl, rfl, rfl⟩ := hq
        replace hm := of_inr hm
        obtain rfl := Option.some.inj hm
        exact EndsF.retW [] RO

theorem state_Same_ok {p0 : T_api_State} {p1 : T_api_State} {r : Bool} (hm : state_Same p0 p1 = some r) : PureF Tryd.prog 9 [.agg [.sl (p0.Mem.map (eInt .i64)), .sl (p0.Thr.map e_api_Thr), .sl (p0.Bufs.map (eSl e_api_Entry)), .int .i64 p0.Lock], .agg [.sl (p1.Mem.map (eInt .i64)), .sl (p1.Thr.map e_api_Thr), .sl (p1.Bufs.map (eSl e_api_Entry)), .int .i64 p1.Lock]] (.bool r) := by
  rw [state_Same] at hm
  refine PureF.of Tryd.func9 rfl Tryd.ntmps9 (Nat.le_of_ble_eq_true rfl) ?_
  have e0 : argS 0 [.agg [.sl (p0.Mem.map (eInt .i64)), .sl (p0.Thr.map e_api_Thr), .sl (p0.Bufs.map (eSl e_api_Entry)), .int .i64 p0.Lock], .agg [.sl (p1.Mem.map (eInt .i64)), .sl (p1.Thr.map e_api_Thr), .sl (p1.Bufs.map (eSl e_api_Entry)), .int .i64 p1.Lock]] = [(0, .agg [.sl (p0.Mem.map (eInt .i64)), .sl (p0.Thr.map e_api_Thr), .sl (p0.Bufs.map (eSl e_api_Entry)), .int .i64 p0.Lock]), (1, .agg [.sl (p1.Mem.map (eInt .i64)), .sl (p1.Thr.map e_api_Thr), .sl (p1.Bufs.map (eSl e_api_Entry)), .int .i64 p1.Lock])] := rfl
  rw [e0]
  refine W.sq [] [(2, .ptr 0 0 0), (3, .ptr 1 0 0)] [.cells (e_api_State p0) 0 26, .cells (e_api_State p1) 0 26] ?_
  refine W.seq ?_
  replace hm := of_bind hm
  obtain ⟨v1, h2, hm⟩ := hm
  replace hm := of_bind hm
  obtain ⟨v3, h4, hm⟩ := hm
  replace hm := of_let hm
  obtain ⟨b5, h6, hm⟩ := hm
  have kh2 := state_row_int64_ok h2
  have kh4 := fun hg => state_row_api_Thr_ok (of_true hg h4)
  refine W.sq [] [(2, .ptr 0 0 0), (3, .ptr 1 0 0), (36, .bool b5)] [.cells (e_api_State p0) 0 26, .cells (e_api_State p1) 0 26] ?_
  clear h6
  refine W.cnd b5 (fun hb7 => ?_) (fun hb7 => ?_)
  · replace hm := of_true hb7 hm
    refine W.sq [] [(4, .bool false)] [] ?_
    obtain rfl := Option.some.inj hm
    exact W.ret (EndsF.retW [] RO)
  · replace hm := of_false hb7 hm
    refine W.skip ?_
    refine W.seq ?_
    refine W.sq [] [(3, .ptr 1 0 0), (38, .sl (p0.Bufs.map (eSl e_api_Entry))), (39, .int .i64 (p0.Bufs.length : Int)), (40, .int .i64 0)] [.dead, .cells (e_api_State p1) 0 26] ?_
    refine W.block ?_
    replace hm := of_bind hm
    obtain ⟨r28, hlr28, hm⟩ := hm
    refine W.mono (Q := fun e0 s0 h0 => match r28 with | .inl e => e0 = .exit 0 ∧ ∃ w : Unit, s0 = [] ∧ h0 = [] | .inr q => e0 = .ret ∧ s0 = [(4, .bool q)] ∧ h0 = []) (W.loopM (step := state_Same_s1 p0 p1) (a0 := 0) (fun (a : Int) (v : Unit) => ([(3, .ptr 1 0 0), (38, .sl (p0.Bufs.map (eSl e_api_Entry))), (39, .int .i64 (p0.Bufs.length : Int)), (40, .int .i64 a)], [.dead, .cells (e_api_State p1) 0 26])) () hlr28 ⟨[], []⟩ RO ?_) ?_
    · rintro i21 _ x hm hx
      rw [state_Same_s1] at hm
      show WK _ _ _ _ _ [(3, .ptr 1 0 0), (38, .sl (p0.Bufs.map (eSl e_api_Entry))), (39, .int .i64 (p0.Bufs.length : Int)), (40, .int .i64 i21)] [.dead, .cells (e_api_State p1) 0 26]
      refine W.sq [] [(3, .ptr 1 0 0), (38, .sl (p0.Bufs.map (eSl e_api_Entry))), (39, .int .i64 (p0.Bufs.length : Int)), (40, .int .i64 i21), (41, .bool (decide (i21 < (p0.Bufs.length : Int))))] [.dead, .cells (e_api_State p1) 0 26] ?_
      refine W.seq ?_
      refine W.cnd (decide (i21 < (p0.Bufs.length : Int))) (fun hb29 => ?_) (fun hb29 => ?_)
      · replace hm := of_true hb29 hm
        refine W.skip ?_
        refine W.seq ?_
        refine W.block ?_
        replace hm := of_ite hm
        obtain ⟨h30, hm⟩ := hm
        refine W.sq [] [(3, .ptr 1 0 0), (5, .int .i64 i21), (6, .sl ((rd p0.Bufs i21).map e_api_Entry)), (38, .sl (p0.Bufs.map (eSl e_api_Entry))), (39, .int .i64 (p0.Bufs.length : Int)), (40, .int .i64 i21)] [.dead, .cells (e_api_State p1) 0 26] ?_
        replace hm := of_ite hm
        obtain ⟨h31, hm⟩ := hm
        replace hm := of_bind hm
        obtain ⟨v32, h33, hm⟩ := hm
        have kh33 := state_row_api_Entry_ok h33
        try simp only [hb7, hb29] at kh33
        refine W.sq [] [(3, .ptr 1 0 0), (38, .sl (p0.Bufs.map (eSl e_api_Entry))), (39, .int .i64 (p0.Bufs.length : Int)), (40, .int .i64 i21), (52, .bool (!v32))] [.dead, .cells (e_api_State p1) 0 26] ?_
        refine W.cnd (!v32) (fun hb34 => ?_) (fun hb34 => ?_)
        · replace hm := of_true hb34 hm
          refine W.sq [] [(4, .bool false)] [] ?_
          obtain rfl := Option.some.inj hm
          obtain rfl := hx _ rfl
          exact W.weak ⟨[], []⟩ (show AT _ ⟨[], []⟩ [(4, .bool false)] [] _ _ from RO) (W.ret (show _ ∧ _ from ⟨rfl, rfl, rfl⟩))
        · replace hm := of_false hb34 hm
          refine W.skip ?_
          refine W.rg [] [(3, .ptr 1 0 0), (38, .sl (p0.Bufs.map (eSl e_api_Entry))), (39, .int .i64 (p0.Bufs.length : Int)), (40, .int .i64 (IntKind.wrap .i64 (i21 + 1)))] [.dead, .cells (e_api_State p1) 0 26] ?_
          obtain rfl := Option.some.inj hm
          exact ⟨(IntKind.wrap .i64 (i21 + 1)), (), ⟨[], []⟩, rfl, RO⟩
      · replace hm := of_false hb29 hm
        obtain rfl := Option.some.inj hm
        obtain rfl := hx _ rfl
        exact W.weak ⟨[], []⟩ (show AT _ ⟨[], []⟩ [] [] _ _ from RO) (W.exit (show _ ∧ _ from ⟨rfl, (), rfl, rfl⟩))
    · intro e0 s0 h0 hq
      rcases r28 with er28 | qr28
      · obtain ⟨rfl, _, rfl, rfl⟩ := hq
        replace hm := of_inl hm
        show WK _ _ _ _ _ [] []
        refine W.sq [] [(4, .bool true)] [] ?_
        obtain rfl := Option.some.inj hm
        exact W.ret (EndsF.retW [] RO)
      · obtain ⟨rfl, rfl, rfl⟩ := hq
        replace hm := of_inr hm
        obtain rfl := Option.some.inj hm
        exact EndsF.retW [] RO


end Go.Proofs.YtlolkehjlkmcbaaDoor
