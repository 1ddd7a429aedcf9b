import Derived.Test.YtlolkehjlkmcbaaDoorVFacts
import Derived.Test.YtlolkehjlkmcbaaDoorPalA
set_option maxRecDepth 100000
set_option maxHeartbeats 4000000
set_option linter.unusedSimpArgs false
set_option linter.unusedVariables false
set_option linter.unusedSectionVars false
namespace Go.Proofs.YtlolkehjlkmcbaaDoor
open Go.Vs
variable [Tab]
theorem palingbook_Pick_ok {p0 : Int} {p1 : Int} {r : Int} (hm : palingbook_Pick p0 p1 = some r) : PureF Tryd.prog 31 [.int .i64 p0, .int .i64 p1] (.int .i64 r) := by
  rw [palingbook_Pick] at hm
  refine PureF.of Tryd.func31 rfl Tryd.ntmps31 (Nat.le_of_ble_eq_true rfl) ?_
  have e0 : argS 0 [.int .i64 p0, .int .i64 p1] = [(0, .int .i64 p0), (1, .int .i64 p1)] := rfl
  rw [e0]
  refine W.sq [] [(0, .int .i64 p0), (1, .int .i64 p1)] [] ?_
  replace hm := of_ite hm
  obtain ⟨h1, hm⟩ := hm
  refine W.sq [] [(0, .int .i64 (Int.tmod p0 p1)), (1, .int .i64 p1)] [] ?_
  refine W.seq ?_
  refine W.sq [] [(0, .int .i64 (Int.tmod p0 p1)), (1, .int .i64 p1), (9, .bool (decide ((Int.tmod p0 p1) < 0)))] [] ?_
  refine W.cnd (decide ((Int.tmod p0 p1) < 0)) (fun hb2 => ?_) (fun hb2 => ?_)
  · replace hm := of_true hb2 hm
    refine W.rg [] [(0, .int .i64 (IntKind.wrap .i64 ((Int.tmod p0 p1) + p1)))] [] ?_
    refine W.sq [] [(4, .int .i64 (IntKind.wrap .i64 ((Int.tmod p0 p1) + p1)))] [] ?_
    obtain rfl := Option.some.inj hm
    exact W.ret (EndsF.retW [] RO)
  · replace hm := of_false hb2 hm
    refine W.skip ?_
    refine W.sq [] [(4, .int .i64 (Int.tmod p0 p1))] [] ?_
    obtain rfl := Option.some.inj hm
    exact W.ret (EndsF.retW [] RO)

theorem palingbook_GreatState_ok {p0 : T_api_State} {r : Bool} (hm : palingbook_GreatState p0 = some r) : PureF Tryd.prog 7 [.agg [.sl (p0.Mem.map (eInt .i64)), .sl (p0.Thr.map e_api_Thr), .sl (p0.Bufs.map (eSl e_api_Entry)), .int .i64 p0.Lock]] (.bool r) := by
  rw [palingbook_GreatState] at hm
  refine PureF.of Tryd.func7 rfl Tryd.ntmps7 (Nat.le_of_ble_eq_true rfl) ?_
  have e0 : argS 0 [.agg [.sl (p0.Mem.map (eInt .i64)), .sl (p0.Thr.map e_api_Thr), .sl (p0.Bufs.map (eSl e_api_Entry)), .int .i64 p0.Lock]] = [(0, .agg [.sl (p0.Mem.map (eInt .i64)), .sl (p0.Thr.map e_api_Thr), .sl (p0.Bufs.map (eSl e_api_Entry)), .int .i64 p0.Lock])] := rfl
  rw [e0]
  refine W.sq [] [(1, .ptr 0 0 0)] [.cells (e_api_State p0) 0 26] ?_
  refine W.seq ?_
  replace hm := of_let hm
  obtain ⟨b1, h2, hm⟩ := hm
  refine W.sq [] [(1, .ptr 0 0 0), (19, .bool b1)] [.cells (e_api_State p0) 0 26] ?_
  clear h2
  refine W.cnd b1 (fun hb3 => ?_) (fun hb3 => ?_)
  · replace hm := of_true hb3 hm
    refine W.sq [] [(2, .bool true)] [] ?_
    obtain rfl := Option.some.inj hm
    exact W.ret (EndsF.retW [] RO)
  · replace hm := of_false hb3 hm
    refine W.skip ?_
    refine W.seq ?_
    refine W.sq [] [(1, .ptr 0 0 0), (3, .int .i64 0)] [.cells (e_api_State p0) 0 26] ?_
    refine W.block ?_
    replace hm := of_bind hm
    obtain ⟨r15, hlr15, hm⟩ := hm
    refine W.mono (Q := fun e0 s0 h0 => match r15 with | .inl e => e0 = .exit 0 ∧ ∃ w : Unit, s0 = [] ∧ h0 = [] | .inr q => e0 = .ret ∧ s0 = [(2, .bool q)] ∧ h0 = []) (W.loopM (step := palingbook_GreatState_s1 p0) (a0 := 0) (fun (a : Int) (v : Unit) => ([(1, .ptr 0 0 0), (3, .int .i64 a)], [.cells (e_api_State p0) 0 26])) () hlr15 ⟨[], []⟩ RO ?_) ?_
    · rintro i11 _ x hm hx
      rw [palingbook_GreatState_s1] at hm
      show WK _ _ _ _ _ [(1, .ptr 0 0 0), (3, .int .i64 i11)] [.cells (e_api_State p0) 0 26]
      refine W.seq ?_
      refine W.sq [] [(1, .ptr 0 0 0), (3, .int .i64 i11), (24, .bool (decide (i11 < (p0.Bufs.length : Int))))] [.cells (e_api_State p0) 0 26] ?_
      refine W.cnd (decide (i11 < (p0.Bufs.length : Int))) (fun hb16 => ?_) (fun hb16 => ?_)
      · replace hm := of_true hb16 hm
        refine W.skip ?_
        refine W.seq ?_
        refine W.block ?_
        replace hm := of_ite hm
        obtain ⟨h17, hm⟩ := hm
        refine W.sq [] [(1, .ptr 0 0 0), (3, .int .i64 i11), (33, .bool (decide (((rd p0.Bufs i11).length : Int) > 12)))] [.cells (e_api_State p0) 0 26] ?_
        refine W.cnd (decide (((rd p0.Bufs i11).length : Int) > 12)) (fun hb18 => ?_) (fun hb18 => ?_)
        · replace hm := of_true hb18 hm
          refine W.sq [] [(2, .bool true)] [] ?_
          obtain rfl := Option.some.inj hm
          obtain rfl := hx _ rfl
          exact W.weak ⟨[], []⟩ (show AT _ ⟨[], []⟩ [(2, .bool true)] [] _ _ from RO) (W.ret (show _ ∧ _ from ⟨rfl, rfl, rfl⟩))
        · replace hm := of_false hb18 hm
          refine W.skip ?_
          refine W.rg [] [(1, .ptr 0 0 0), (3, .int .i64 (IntKind.wrap .i64 (i11 + 1)))] [.cells (e_api_State p0) 0 26] ?_
          obtain rfl := Option.some.inj hm
          exact ⟨(IntKind.wrap .i64 (i11 + 1)), (), ⟨[], []⟩, rfl, RO⟩
      · replace hm := of_false hb16 hm
        obtain rfl := Option.some.inj hm
        obtain rfl := hx _ rfl
        exact W.weak ⟨[], []⟩ (show AT _ ⟨[], []⟩ [] [] _ _ from RO) (W.exit (show _ ∧ _ from ⟨rfl, (), rfl, rfl⟩))
    · intro e0 s0 h0 hq
      rcases r15 with er15 | qr15
      · obtain ⟨rfl, _, rfl, rfl⟩ := hq
        replace hm := of_inl hm
        show WK _ _ _ _ _ [] []
        refine W.sq [] [(2, .bool false)] [] ?_
        obtain rfl := Option.some.inj hm
        exact W.ret (EndsF.retW [] RO)
      · obtain ⟨rfl, rfl, rfl⟩ := hq
        replace hm := of_inr hm
        obtain rfl := Option.some.inj hm
        exact EndsF.retW [] RO

theorem palingref2_sameInts_ok {p0 : (List Int)} {p1 : (List Int)} {r : Bool} (hm : palingref2_sameInts p0 p1 = some r) : PureF Tryd.prog 21 [.sl (p0.map (eInt .i64)), .sl (p1.map (eInt .i64))] (.bool r) := by
  rw [palingref2_sameInts] at hm
  refine PureF.of Tryd.func21 rfl Tryd.ntmps21 (Nat.le_of_ble_eq_true rfl) ?_
  have e0 : argS 0 [.sl (p0.map (eInt .i64)), .sl (p1.map (eInt .i64))] = [(0, .sl (p0.map (eInt .i64))), (1, .sl (p1.map (eInt .i64)))] := rfl
  rw [e0]
  refine W.sq [] [(0, .sl (p0.map (eInt .i64))), (1, .sl (p1.map (eInt .i64)))] [] ?_
  refine W.seq ?_
  refine W.sq [] [(0, .sl (p0.map (eInt .i64))), (1, .sl (p1.map (eInt .i64))), (10, .bool ((p0.length : Int) != (p1.length : Int)))] [] ?_
  refine W.cnd ((p0.length : Int) != (p1.length : Int)) (fun hb1 => ?_) (fun hb1 => ?_)
  · replace hm := of_true hb1 hm
    refine W.sq [] [(4, .bool false)] [] ?_
    obtain rfl := Option.some.inj hm
    exact W.ret (EndsF.retW [] RO)
  · replace hm := of_false hb1 hm
    refine W.skip ?_
    refine W.seq ?_
    refine W.sq [] [(0, .sl (p0.map (eInt .i64))), (1, .sl (p1.map (eInt .i64))), (5, .int .i64 0)] [] ?_
    refine W.block ?_
    replace hm := of_bind hm
    obtain ⟨r16, hlr16, hm⟩ := hm
    refine W.mono (Q := fun e0 s0 h0 => match r16 with | .inl e => e0 = .exit 0 ∧ ∃ w : Unit, s0 = [] ∧ h0 = [] | .inr q => e0 = .ret ∧ s0 = [(4, .bool q)] ∧ h0 = []) (W.loopM (step := palingref2_sameInts_s1 p0 p1) (a0 := 0) (fun (a : Int) (v : Unit) => ([(0, .sl (p0.map (eInt .i64))), (1, .sl (p1.map (eInt .i64))), (5, .int .i64 a)], [])) () hlr16 ⟨[], []⟩ RO ?_) ?_
    · rintro i11 _ x hm hx
      rw [palingref2_sameInts_s1] at hm
      show WK _ _ _ _ _ [(0, .sl (p0.map (eInt .i64))), (1, .sl (p1.map (eInt .i64))), (5, .int .i64 i11)] []
      refine W.seq ?_
      refine W.sq [] [(0, .sl (p0.map (eInt .i64))), (1, .sl (p1.map (eInt .i64))), (5, .int .i64 i11), (14, .bool (decide (i11 < (p0.length : Int))))] [] ?_
      refine W.cnd (decide (i11 < (p0.length : Int))) (fun hb17 => ?_) (fun hb17 => ?_)
      · replace hm := of_true hb17 hm
        refine W.skip ?_
        refine W.seq ?_
        refine W.block ?_
        replace hm := of_ite hm
        obtain ⟨h18, hm⟩ := hm
        replace hm := of_ite hm
        obtain ⟨h19, hm⟩ := hm
        refine W.sqJ [] [] [] 0 [] [(0, .sl (p0.map (eInt .i64))), (1, .sl (p1.map (eInt .i64))), (5, .int .i64 i11), (25, .bool ((rd p0 i11) != (rd p1 i11)))] [] v_mixed ?_
        refine W.cnd ((rd p0 i11) != (rd p1 i11)) (fun hb20 => ?_) (fun hb20 => ?_)
        · replace hm := of_true hb20 hm
          refine W.sq [] [(4, .bool false)] [] ?_
          obtain rfl := Option.some.inj hm
          obtain rfl := hx _ rfl
          exact W.weak ⟨[], []⟩ (show AT _ ⟨[], []⟩ [(4, .bool false)] [] _ _ from RO) (W.ret (show _ ∧ _ from ⟨rfl, rfl, rfl⟩))
        · replace hm := of_false hb20 hm
          refine W.skip ?_
          refine W.rg [] [(0, .sl (p0.map (eInt .i64))), (1, .sl (p1.map (eInt .i64))), (5, .int .i64 (IntKind.wrap .i64 (i11 + 1)))] [] ?_
          obtain rfl := Option.some.inj hm
          exact ⟨(IntKind.wrap .i64 (i11 + 1)), (), ⟨[], []⟩, rfl, RO⟩
      · replace hm := of_false hb17 hm
        obtain rfl := Option.some.inj hm
        obtain rfl := hx _ rfl
        exact W.weak ⟨[], []⟩ (show AT _ ⟨[], []⟩ [] [] _ _ from RO) (W.exit (show _ ∧ _ from ⟨rfl, (), rfl, rfl⟩))
    · intro e0 s0 h0 hq
      rcases r16 with er16 | qr16
      · obtain ⟨rfl, _, rfl, rfl⟩ := hq
        replace hm := of_inl hm
        show WK _ _ _ _ _ [] []
        refine W.sq [] [(4, .bool true)] [] ?_
        obtain rfl := Option.some.inj hm
        exact W.ret (EndsF.retW [] RO)
      · obtain ⟨rfl, rfl, rfl⟩ := hq
        replace hm := of_inr hm
        obtain rfl := Option.some.inj hm
        exact EndsF.retW [] RO

theorem palingref2_SameEntries_ok {p0 : (List T_api_Entry)} {p1 : (List T_api_Entry)} {r : Bool} (hm : palingref2_SameEntries p0 p1 = some r) : PureF Tryd.prog 22 [.sl (p0.map e_api_Entry), .sl (p1.map e_api_Entry)] (.bool r) := by
  rw [palingref2_SameEntries] at hm
  refine PureF.of Tryd.func22 rfl Tryd.ntmps22 (Nat.le_of_ble_eq_true rfl) ?_
  have e0 : argS 0 [.sl (p0.map e_api_Entry), .sl (p1.map e_api_Entry)] = [(0, .sl (p0.map e_api_Entry)), (1, .sl (p1.map e_api_Entry))] := rfl
  rw [e0]
  refine W.sq [] [(0, .sl (p0.map e_api_Entry)), (1, .sl (p1.map e_api_Entry))] [] ?_
  refine W.seq ?_
  refine W.sq [] [(0, .sl (p0.map e_api_Entry)), (1, .sl (p1.map e_api_Entry)), (10, .bool ((p0.length : Int) != (p1.length : Int)))] [] ?_
  refine W.cnd ((p0.length : Int) != (p1.length : Int)) (fun hb1 => ?_) (fun hb1 => ?_)
  · replace hm := of_true hb1 hm
    refine W.sq [] [(4, .bool false)] [] ?_
    obtain rfl := Option.some.inj hm
    exact W.ret (EndsF.retW [] RO)
  · replace hm := of_false hb1 hm
    refine W.skip ?_
    refine W.seq ?_
    refine W.sq [] [(0, .sl (p0.map e_api_Entry)), (1, .sl (p1.map e_api_Entry)), (5, .int .i64 0)] [] ?_
    refine W.block ?_
    replace hm := of_bind hm
    obtain ⟨r16, hlr16, hm⟩ := hm
    refine W.mono (Q := fun e0 s0 h0 => match r16 with | .inl e => e0 = .exit 0 ∧ ∃ w : Unit, s0 = [] ∧ h0 = [] | .inr q => e0 = .ret ∧ s0 = [(4, .bool q)] ∧ h0 = []) (W.loopM (step := palingref2_SameEntries_s1 p0 p1) (a0 := 0) (fun (a : Int) (v : Unit) => ([(0, .sl (p0.map e_api_Entry)), (1, .sl (p1.map e_api_Entry)), (5, .int .i64 a)], [])) () hlr16 ⟨[], []⟩ RO ?_) ?_
    · rintro i11 _ x hm hx
      rw [palingref2_SameEntries_s1] at hm
      show WK _ _ _ _ _ [(0, .sl (p0.map e_api_Entry)), (1, .sl (p1.map e_api_Entry)), (5, .int .i64 i11)] []
      refine W.seq ?_
      refine W.sq [] [(0, .sl (p0.map e_api_Entry)), (1, .sl (p1.map e_api_Entry)), (5, .int .i64 i11), (14, .bool (decide (i11 < (p0.length : Int))))] [] ?_
      refine W.cnd (decide (i11 < (p0.length : Int))) (fun hb17 => ?_) (fun hb17 => ?_)
      · replace hm := of_true hb17 hm
        refine W.skip ?_
        refine W.seq ?_
        refine W.block ?_
        replace hm := of_ite hm
        obtain ⟨h18, hm⟩ := hm
        replace hm := of_ite hm
        obtain ⟨h19, hm⟩ := hm
        refine W.sqJ [] [] [] 0 [] [(0, .sl (p0.map e_api_Entry)), (1, .sl (p1.map e_api_Entry)), (5, .int .i64 i11), (25, .bool (!(((rd p0 i11).Addr == (rd p1 i11).Addr) && ((rd p0 i11).Val == (rd p1 i11).Val))))] [] v_mixed ?_
        refine W.cnd (!(((rd p0 i11).Addr == (rd p1 i11).Addr) && ((rd p0 i11).Val == (rd p1 i11).Val))) (fun hb20 => ?_) (fun hb20 => ?_)
        · replace hm := of_true hb20 hm
          refine W.sq [] [(4, .bool false)] [] ?_
          obtain rfl := Option.some.inj hm
          obtain rfl := hx _ rfl
          exact W.weak ⟨[], []⟩ (show AT _ ⟨[], []⟩ [(4, .bool false)] [] _ _ from RO) (W.ret (show _ ∧ _ from ⟨rfl, rfl, rfl⟩))
        · replace hm := of_false hb20 hm
          refine W.skip ?_
          refine W.rg [] [(0, .sl (p0.map e_api_Entry)), (1, .sl (p1.map e_api_Entry)), (5, .int .i64 (IntKind.wrap .i64 (i11 + 1)))] [] ?_
          obtain rfl := Option.some.inj hm
          exact ⟨(IntKind.wrap .i64 (i11 + 1)), (), ⟨[], []⟩, rfl, RO⟩
      · replace hm := of_false hb17 hm
        obtain rfl := Option.some.inj hm
        obtain rfl := hx _ rfl
        exact W.weak ⟨[], []⟩ (show AT _ ⟨[], []⟩ [] [] _ _ from RO) (W.exit (show _ ∧ _ from ⟨rfl, (), rfl, rfl⟩))
    · intro e0 s0 h0 hq
      rcases r16 with er16 | qr16
      · obtain ⟨rfl, _, rfl, rfl⟩ := hq
        replace hm := of_inl hm
        show WK _ _ _ _ _ [] []
        refine W.sq [] [(4, .bool true)] [] ?_
        obtain rfl := Option.some.inj hm
        exact W.ret (EndsF.retW [] RO)
      · obtain ⟨rfl, rfl, rfl⟩ := hq
        replace hm := of_inr hm
        obtain rfl := Option.some.inj hm
        exact EndsF.retW [] RO

theorem palingref2_Same_ok {p0 : T_api_State} {p1 : T_api_State} {r : Bool} (hm : palingref2_Same p0 p1 = some r) : PureF Tryd.prog 10 [.agg [.sl (p0.Mem.map (eInt .i64)), .sl (p0.Thr.map e_api_Thr), .sl (p0.Bufs.map (eSl e_api_Entry)), .int .i64 p0.Lock], .agg [.sl (p1.Mem.map (eInt .i64)), .sl (p1.Thr.map e_api_Thr), .sl (p1.Bufs.map (eSl e_api_Entry)), .int .i64 p1.Lock]] (.bool r) := by
  rw [palingref2_Same] at hm
  refine PureF.of Tryd.func10 rfl Tryd.ntmps10 (Nat.le_of_ble_eq_true rfl) ?_
  have e0 : argS 0 [.agg [.sl (p0.Mem.map (eInt .i64)), .sl (p0.Thr.map e_api_Thr), .sl (p0.Bufs.map (eSl e_api_Entry)), .int .i64 p0.Lock], .agg [.sl (p1.Mem.map (eInt .i64)), .sl (p1.Thr.map e_api_Thr), .sl (p1.Bufs.map (eSl e_api_Entry)), .int .i64 p1.Lock]] = [(0, .agg [.sl (p0.Mem.map (eInt .i64)), .sl (p0.Thr.map e_api_Thr), .sl (p0.Bufs.map (eSl e_api_Entry)), .int .i64 p0.Lock]), (1, .agg [.sl (p1.Mem.map (eInt .i64)), .sl (p1.Thr.map e_api_Thr), .sl (p1.Bufs.map (eSl e_api_Entry)), .int .i64 p1.Lock])] := rfl
  rw [e0]
  refine W.sq [] [(2, .ptr 0 0 0), (3, .ptr 1 0 0)] [.cells (e_api_State p0) 0 26, .cells (e_api_State p1) 0 26] ?_
  refine W.seq ?_
  replace hm := of_bind hm
  obtain ⟨v1, h2, hm⟩ := hm
  replace hm := of_let hm
  obtain ⟨b3, h4, hm⟩ := hm
  have kh2 := palingref2_sameInts_ok h2
  refine W.sq [] [(2, .ptr 0 0 0), (3, .ptr 1 0 0), (37, .bool b3)] [.cells (e_api_State p0) 0 26, .cells (e_api_State p1) 0 26] ?_
  clear h4
  refine W.cnd b3 (fun hb5 => ?_) (fun hb5 => ?_)
  · replace hm := of_true hb5 hm
    refine W.sq [] [(4, .bool false)] [] ?_
    obtain rfl := Option.some.inj hm
    exact W.ret (EndsF.retW [] RO)
  · replace hm := of_false hb5 hm
    refine W.skip ?_
    refine W.seq ?_
    refine W.sq [] [(2, .ptr 0 0 0), (3, .ptr 1 0 0), (5, .int .i64 0)] [.cells (e_api_State p0) 0 26, .cells (e_api_State p1) 0 26] ?_
    refine W.block ?_
    replace hm := of_bind hm
    obtain ⟨r26, hlr26, hm⟩ := hm
    refine W.mono (Q := fun e0 s0 h0 => match r26 with | .inl e => e0 = .exit 0 ∧ ∃ w : Unit, s0 = [(2, .ptr 0 0 0), (3, .ptr 1 0 0)] ∧ h0 = [.cells (e_api_State p0) 0 26, .cells (e_api_State p1) 0 26] | .inr q => e0 = .ret ∧ s0 = [(4, .bool q)] ∧ h0 = []) (W.loopM (step := palingref2_Same_s1 p0 p1) (a0 := 0) (fun (a : Int) (v : Unit) => ([(2, .ptr 0 0 0), (3, .ptr 1 0 0), (5, .int .i64 a)], [.cells (e_api_State p0) 0 26, .cells (e_api_State p1) 0 26])) () hlr26 ⟨[], []⟩ RO ?_) ?_
    · rintro i19 _ x hm hx
      rw [palingref2_Same_s1] at hm
      show WK _ _ _ _ _ [(2, .ptr 0 0 0), (3, .ptr 1 0 0), (5, .int .i64 i19)] [.cells (e_api_State p0) 0 26, .cells (e_api_State p1) 0 26]
      refine W.seq ?_
      refine W.sq [] [(2, .ptr 0 0 0), (3, .ptr 1 0 0), (5, .int .i64 i19), (42, .bool (decide (i19 < (p0.Thr.length : Int))))] [.cells (e_api_State p0) 0 26, .cells (e_api_State p1) 0 26] ?_
      refine W.cnd (decide (i19 < (p0.Thr.length : Int))) (fun hb27 => ?_) (fun hb27 => ?_)
      · replace hm := of_true hb27 hm
        refine W.skip ?_
        refine W.seq ?_
        refine W.block ?_
        replace hm := of_ite hm
        obtain ⟨h28, hm⟩ := hm
        replace hm := of_ite hm
        obtain ⟨h29, hm⟩ := hm
        replace hm := of_let hm
        obtain ⟨b30, h31, hm⟩ := hm
        refine W.sqJ [] [] [] 0 [] [(2, .ptr 0 0 0), (3, .ptr 1 0 0), (5, .int .i64 i19), (55, .bool b30)] [.cells (e_api_State p0) 0 26, .cells (e_api_State p1) 0 26] v_mixed ?_
        clear h31
        refine W.cnd b30 (fun hb32 => ?_) (fun hb32 => ?_)
        · replace hm := of_true hb32 hm
          refine W.sq [] [(4, .bool false)] [] ?_
          obtain rfl := Option.some.inj hm
          obtain rfl := hx _ rfl
          exact W.weak ⟨[], []⟩ (show AT _ ⟨[], []⟩ [(4, .bool false)] [] _ _ from RO) (W.ret (show _ ∧ _ from ⟨rfl, rfl, rfl⟩))
        · replace hm := of_false hb32 hm
          refine W.skip ?_
          refine W.rg [] [(2, .ptr 0 0 0), (3, .ptr 1 0 0), (5, .int .i64 (IntKind.wrap .i64 (i19 + 1)))] [.cells (e_api_State p0) 0 26, .cells (e_api_State p1) 0 26] ?_
          obtain rfl := Option.some.inj hm
          exact ⟨(IntKind.wrap .i64 (i19 + 1)), (), ⟨[], []⟩, rfl, RO⟩
      · replace hm := of_false hb27 hm
        obtain rfl := Option.some.inj hm
        obtain rfl := hx _ rfl
        exact W.weak ⟨[], []⟩ (show AT _ ⟨[], []⟩ [(2, .ptr 0 0 0), (3, .ptr 1 0 0)] [.cells (e_api_State p0) 0 26, .cells (e_api_State p1) 0 26] _ _ from RO) (W.exit (show _ ∧ _ from ⟨rfl, (), rfl, rfl⟩))
    · intro e0 s0 h0 hq
      rcases r26 with er26 | qr26
      · obtain ⟨rfl, _, rfl, rfl⟩ := hq
        replace hm := of_inl hm
        show WK _ _ _ _ _ [(2, .ptr 0 0 0), (3, .ptr 1 0 0)] [.cells (e_api_State p0) 0 26, .cells (e_api_State p1) 0 26]
        refine W.seq ?_
        refine W.sq [] [(2, .ptr 0 0 0), (3, .ptr 1 0 0), (6, .int .i64 0)] [.cells (e_api_State p0) 0 26, .cells (e_api_State p1) 0 26] ?_
        refine W.block ?_
        replace hm := of_bind hm
        obtain ⟨r53, hlr53, hm⟩ := hm
        refine W.mono (Q := fun e0 s0 h0 => match r53 with | .inl e => e0 = .exit 2 ∧ ∃ w : Unit, s0 = [] ∧ h0 = [] | .inr q => e0 = .ret ∧ s0 = [(4, .bool q)] ∧ h0 = []) (W.loopM (step := palingref2_Same_s2 p0 p1) (a0 := 0) (fun (a : Int) (v : Unit) => ([(2, .ptr 0 0 0), (3, .ptr 1 0 0), (6, .int .i64 a)], [.cells (e_api_State p0) 0 26, .cells (e_api_State p1) 0 26])) () hlr53 ⟨[], []⟩ RO ?_) ?_
        · rintro i46 _ x hm hx
          rw [palingref2_Same_s2] at hm
          show WK _ _ _ _ _ [(2, .ptr 0 0 0), (3, .ptr 1 0 0), (6, .int .i64 i46)] [.cells (e_api_State p0) 0 26, .cells (e_api_State p1) 0 26]
          refine W.seq ?_
          refine W.sq [] [(2, .ptr 0 0 0), (3, .ptr 1 0 0), (6, .int .i64 i46), (60, .bool (decide (i46 < (p0.Bufs.length : Int))))] [.cells (e_api_State p0) 0 26, .cells (e_api_State p1) 0 26] ?_
          refine W.cnd (decide (i46 < (p0.Bufs.length : Int))) (fun hb54 => ?_) (fun hb54 => ?_)
          · replace hm := of_true hb54 hm
            refine W.skip ?_
            refine W.seq ?_
            refine W.block ?_
            replace hm := of_ite hm
            obtain ⟨h55, hm⟩ := hm
            replace hm := of_ite hm
            obtain ⟨h56, hm⟩ := hm
            replace hm := of_bind hm
            obtain ⟨v57, h58, hm⟩ := hm
            have kh58 := palingref2_SameEntries_ok h58
            try simp only [hb5, hb54] at kh58
            refine W.sqJ [] [] [] 0 [] [(2, .ptr 0 0 0), (3, .ptr 1 0 0), (6, .int .i64 i46), (74, .bool (!v57))] [.cells (e_api_State p0) 0 26, .cells (e_api_State p1) 0 26] v_mixed ?_
            refine W.cnd (!v57) (fun hb59 => ?_) (fun hb59 => ?_)
            · replace hm := of_true hb59 hm
              refine W.sq [] [(4, .bool false)] [] ?_
              obtain rfl := Option.some.inj hm
              obtain rfl := hx _ rfl
              exact W.weak ⟨[], []⟩ (show AT _ ⟨[], []⟩ [(4, .bool false)] [] _ _ from RO) (W.ret (show _ ∧ _ from ⟨rfl, rfl, rfl⟩))
            · replace hm := of_false hb59 hm
              refine W.skip ?_
              refine W.rg [] [(2, .ptr 0 0 0), (3, .ptr 1 0 0), (6, .int .i64 (IntKind.wrap .i64 (i46 + 1)))] [.cells (e_api_State p0) 0 26, .cells (e_api_State p1) 0 26] ?_
              obtain rfl := Option.some.inj hm
              exact ⟨(IntKind.wrap .i64 (i46 + 1)), (), ⟨[], []⟩, rfl, RO⟩
          · replace hm := of_false hb54 hm
            obtain rfl := Option.some.inj hm
            obtain rfl := hx _ rfl
            exact W.weak ⟨[], []⟩ (show AT _ ⟨[], []⟩ [] [] _ _ from RO) (W.exit (show _ ∧ _ from ⟨rfl, (), rfl, rfl⟩))
        · intro e0 s0 h0 hq
          rcases r53 with er53 | qr53
          · obtain ⟨rfl, _, rfl, rfl⟩ := hq
            replace hm := of_inl hm
            show WK _ _ _ _ _ [] []
            refine W.sq [] [(4, .bool true)] [] ?_
            obtain rfl := Option.some.inj hm
            exact W.ret (EndsF.retW [] RO)
          · obtain ⟨rfl, rfl, rfl⟩ := hq
            replace hm := of_inr hm
            obtain rfl := Option.some.inj hm
            exact EndsF.retW [] RO
      · obtain ⟨rfl, rfl, rfl⟩ := hq
        replace hm := of_inr hm
        obtain rfl := Option.some.inj hm
        exact EndsF.retW [] RO

theorem state_Drained_ok {p0 : T_api_State} {r : Bool} (hm : state_Drained p0 = some r) : PureF Tryd.prog 13 [.agg [.sl (p0.Mem.map (eInt .i64)), .sl (p0.Thr.map e_api_Thr), .sl (p0.Bufs.map (eSl e_api_Entry)), .int .i64 p0.Lock]] (.bool r) := by
  rw [state_Drained] at hm
  refine PureF.of Tryd.func13 rfl Tryd.ntmps13 (Nat.le_of_ble_eq_true rfl) ?_
  have e0 : argS 0 [.agg [.sl (p0.Mem.map (eInt .i64)), .sl (p0.Thr.map e_api_Thr), .sl (p0.Bufs.map (eSl e_api_Entry)), .int .i64 p0.Lock]] = [(0, .agg [.sl (p0.Mem.map (eInt .i64)), .sl (p0.Thr.map e_api_Thr), .sl (p0.Bufs.map (eSl e_api_Entry)), .int .i64 p0.Lock])] := rfl
  rw [e0]
  refine W.sq [] [(1, .ptr 0 0 0)] [.cells (e_api_State p0) 0 26] ?_
  refine W.seq ?_
  refine W.sq [] [(1, .ptr 0 0 0), (6, .sl (p0.Bufs.map (eSl e_api_Entry))), (7, .int .i64 (p0.Bufs.length : Int)), (8, .int .i64 0)] [.cells (e_api_State p0) 0 26] ?_
  refine W.block ?_
  replace hm := of_bind hm
  obtain ⟨r13, hlr13, hm⟩ := hm
  refine W.mono (Q := fun e0 s0 h0 => match r13 with | .inl e => e0 = .exit 0 ∧ ∃ w : Unit, s0 = [(1, .ptr 0 0 0)] ∧ h0 = [.cells (e_api_State p0) 0 26] | .inr q => e0 = .ret ∧ s0 = [(2, .bool q)] ∧ h0 = []) (W.loopM (step := state_Drained_s1 p0) (a0 := 0) (fun (a : Int) (v : Unit) => ([(1, .ptr 0 0 0), (6, .sl (p0.Bufs.map (eSl e_api_Entry))), (7, .int .i64 (p0.Bufs.length : Int)), (8, .int .i64 a)], [.cells (e_api_State p0) 0 26])) () hlr13 ⟨[], []⟩ RO ?_) ?_
  · rintro i9 _ x hm hx
    rw [state_Drained_s1] at hm
    show WK _ _ _ _ _ [(1, .ptr 0 0 0), (6, .sl (p0.Bufs.map (eSl e_api_Entry))), (7, .int .i64 (p0.Bufs.length : Int)), (8, .int .i64 i9)] [.cells (e_api_State p0) 0 26]
    refine W.sq [] [(1, .ptr 0 0 0), (6, .sl (p0.Bufs.map (eSl e_api_Entry))), (7, .int .i64 (p0.Bufs.length : Int)), (8, .int .i64 i9), (9, .bool (decide (i9 < (p0.Bufs.length : Int))))] [.cells (e_api_State p0) 0 26] ?_
    refine W.seq ?_
    refine W.cnd (decide (i9 < (p0.Bufs.length : Int))) (fun hb14 => ?_) (fun hb14 => ?_)
    · replace hm := of_true hb14 hm
      refine W.skip ?_
      refine W.seq ?_
      refine W.block ?_
      replace hm := of_ite hm
      obtain ⟨h15, hm⟩ := hm
      refine W.sq [] [(1, .ptr 0 0 0), (4, .sl ((rd p0.Bufs i9).map e_api_Entry)), (6, .sl (p0.Bufs.map (eSl e_api_Entry))), (7, .int .i64 (p0.Bufs.length : Int)), (8, .int .i64 i9)] [.cells (e_api_State p0) 0 26] ?_
      refine W.sq [] [(1, .ptr 0 0 0), (6, .sl (p0.Bufs.map (eSl e_api_Entry))), (7, .int .i64 (p0.Bufs.length : Int)), (8, .int .i64 i9), (14, .bool (decide (((rd p0.Bufs i9).length : Int) > 0)))] [.cells (e_api_State p0) 0 26] ?_
      refine W.cnd (decide (((rd p0.Bufs i9).length : Int) > 0)) (fun hb16 => ?_) (fun hb16 => ?_)
      · replace hm := of_true hb16 hm
        refine W.sq [] [(2, .bool false)] [] ?_
        obtain rfl := Option.some.inj hm
        obtain rfl := hx _ rfl
        exact W.weak ⟨[], []⟩ (show AT _ ⟨[], []⟩ [(2, .bool false)] [] _ _ from RO) (W.ret (show _ ∧ _ from ⟨rfl, rfl, rfl⟩))
      · replace hm := of_false hb16 hm
        refine W.skip ?_
        refine W.rg [] [(1, .ptr 0 0 0), (6, .sl (p0.Bufs.map (eSl e_api_Entry))), (7, .int .i64 (p0.Bufs.length : Int)), (8, .int .i64 (IntKind.wrap .i64 (i9 + 1)))] [.cells (e_api_State p0) 0 26] ?_
        obtain rfl := Option.some.inj hm
        exact ⟨(IntKind.wrap .i64 (i9 + 1)), (), ⟨[], []⟩, rfl, RO⟩
    · replace hm := of_false hb14 hm
      obtain rfl := Option.some.inj hm
      obtain rfl := hx _ rfl
      exact W.weak ⟨[], []⟩ (show AT _ ⟨[], []⟩ [(1, .ptr 0 0 0)] [.cells (e_api_State p0) 0 26] _ _ from RO) (W.exit (show _ ∧ _ from ⟨rfl, (), rfl, rfl⟩))
  · intro e0 s0 h0 hq
    rcases r13 with er13 | qr13
    · obtain ⟨rfl, _, rfl, rfl⟩ := hq
      replace hm := of_inl hm
      show WK _ _ _ _ _ [(1, .ptr 0 0 0)] [.cells (e_api_State p0) 0 26]
      refine W.sq [] [(2, .bool (p0.Lock == 0))] [] ?_
      obtain rfl := Option.some.inj hm
      exact W.ret (EndsF.retW [] RO)
    · obtain ⟨rfl, rfl, rfl⟩ := hq
      replace hm := of_inr hm
      obtain rfl := Option.some.inj hm
      exact EndsF.retW [] RO

theorem state_flags_ok {p0 : T_api_Flags} {r : ByteArray} (hm : state_flags p0 = some r) : PureF Tryd.prog 26 [.agg [.bool p0.Z, .bool p0.S, .bool p0.C, .bool p0.O]] (.str r) := by
  rw [state_flags] at hm
  refine PureF.of Tryd.func26 rfl Tryd.ntmps26 (Nat.le_of_ble_eq_true rfl) ?_
  have e0 : argS 0 [.agg [.bool p0.Z, .bool p0.S, .bool p0.C, .bool p0.O]] = [(0, .agg [.bool p0.Z, .bool p0.S, .bool p0.C, .bool p0.O])] := rfl
  rw [e0]
  refine W.sq [] [(1, .ptr 0 0 0)] [.cells (e_api_Flags p0) 0 37] ?_
  refine W.sq [] [(1, .ptr 0 0 0), (3, .str (⟨#[]⟩ : ByteArray))] [.cells (e_api_Flags p0) 0 37] ?_
  refine W.seq ?_
  replace hm := of_let hm
  obtain ⟨l1, h2, hm⟩ := hm
  refine W.sq [] [(3, .str (⟨#[]⟩ : ByteArray)), (14, .sl (l1.map eBool)), (15, .int .i64 (([p0.Z, p0.S, p0.C, p0.O]).length : Int)), (16, .int .i64 0)] [] ?_
  clear h2
  refine W.block ?_
  replace hm := of_bind hm
  obtain ⟨r24, hlr24, hm⟩ := hm
  refine W.mono (Q := fun e0 s0 h0 => e0 = .exit 0 ∧ ∃ w : Unit, s0 = [(3, .str r24)] ∧ h0 = []) (W.loopM (step := state_flags_s1 p0 l1) (a0 := ((⟨#[]⟩ : ByteArray), 0)) (fun (a : ByteArray × Int) (v : Unit) => ([(3, .str a.1), (14, .sl (l1.map eBool)), (15, .int .i64 (([p0.Z, p0.S, p0.C, p0.O]).length : Int)), (16, .int .i64 a.2)], [])) () hlr24 ⟨[], []⟩ RO ?_) ?_
  · rintro ⟨s15, i17⟩ _ x hm hx
    rw [state_flags_s1] at hm
    show WK _ _ _ _ _ [(3, .str s15), (14, .sl (l1.map eBool)), (15, .int .i64 (([p0.Z, p0.S, p0.C, p0.O]).length : Int)), (16, .int .i64 i17)] []
    refine W.sq [] [(3, .str s15), (14, .sl (l1.map eBool)), (15, .int .i64 (([p0.Z, p0.S, p0.C, p0.O]).length : Int)), (16, .int .i64 i17), (17, .bool (decide (i17 < (([p0.Z, p0.S, p0.C, p0.O]).length : Int))))] [] ?_
    refine W.seq ?_
    refine W.cnd (decide (i17 < (([p0.Z, p0.S, p0.C, p0.O]).length : Int))) (fun hb25 => ?_) (fun hb25 => ?_)
    · replace hm := of_true hb25 hm
      refine W.skip ?_
      refine W.seq ?_
      refine W.block ?_
      replace hm := of_ite hm
      obtain ⟨h26, hm⟩ := hm
      refine W.sq [] [(3, .str s15), (5, .bool (rd l1 i17)), (14, .sl (l1.map eBool)), (15, .int .i64 (([p0.Z, p0.S, p0.C, p0.O]).length : Int)), (16, .int .i64 i17)] [] ?_
      refine W.sq [] [(3, .str s15), (14, .sl (l1.map eBool)), (15, .int .i64 (([p0.Z, p0.S, p0.C, p0.O]).length : Int)), (16, .int .i64 i17), (20, .bool (rd l1 i17))] [] ?_
      refine W.cnd (rd l1 i17) (fun hb27 => ?_) (fun hb27 => ?_)
      · replace hm := of_true hb27 hm
        replace hm := of_ite hm
        obtain ⟨h28, hm⟩ := hm
        refine W.rg [] [(3, .str (s15 ++ (⟨#[49]⟩ : ByteArray))), (14, .sl (l1.map eBool)), (15, .int .i64 (([p0.Z, p0.S, p0.C, p0.O]).length : Int)), (16, .int .i64 i17)] [] ?_
        refine W.rg [] [(3, .str (s15 ++ (⟨#[49]⟩ : ByteArray))), (14, .sl (l1.map eBool)), (15, .int .i64 (([p0.Z, p0.S, p0.C, p0.O]).length : Int)), (16, .int .i64 (IntKind.wrap .i64 (i17 + 1)))] [] ?_
        obtain rfl := Option.some.inj hm
        exact ⟨((s15 ++ (⟨#[49]⟩ : ByteArray)), (IntKind.wrap .i64 (i17 + 1))), (), ⟨[], []⟩, rfl, RO⟩
      · replace hm := of_false hb27 hm
        replace hm := of_ite hm
        obtain ⟨h29, hm⟩ := hm
        refine W.rg [] [(3, .str (s15 ++ (⟨#[48]⟩ : ByteArray))), (14, .sl (l1.map eBool)), (15, .int .i64 (([p0.Z, p0.S, p0.C, p0.O]).length : Int)), (16, .int .i64 i17)] [] ?_
        refine W.rg [] [(3, .str (s15 ++ (⟨#[48]⟩ : ByteArray))), (14, .sl (l1.map eBool)), (15, .int .i64 (([p0.Z, p0.S, p0.C, p0.O]).length : Int)), (16, .int .i64 (IntKind.wrap .i64 (i17 + 1)))] [] ?_
        obtain rfl := Option.some.inj hm
        exact ⟨((s15 ++ (⟨#[48]⟩ : ByteArray)), (IntKind.wrap .i64 (i17 + 1))), (), ⟨[], []⟩, rfl, RO⟩
    · replace hm := of_false hb25 hm
      obtain rfl := Option.some.inj hm
      obtain rfl := hx _ rfl
      exact W.weak ⟨[], []⟩ (show AT _ ⟨[], []⟩ [(3, .str s15)] [] _ _ from RO) (W.exit (show _ ∧ _ from ⟨rfl, (), rfl, rfl⟩))
  · rintro e0 s0 h0 ⟨rfl, _, rfl, rfl⟩
    show WK _ _ _ _ _ [(3, .str r24)] []
    refine W.sq [] [(2, .str r24)] [] ?_
    obtain rfl := Option.some.inj hm
    exact W.ret (EndsF.retW [] RO)


end Go.Proofs.YtlolkehjlkmcbaaDoor
