import Derived.Test.YtocjejladeeckaaDoorVFacts
import Derived.Test.YtocjejladeeckaaDoorPalK
import Derived.Test.YtocjejladeeckaaDoorWA
import Derived.Test.YtocjejladeeckaaDoorWUtf
set_option maxRecDepth 100000
set_option maxHeartbeats 4000000
set_option linter.unusedSimpArgs false
set_option linter.unusedVariables false
set_option linter.unusedSectionVars false
namespace Go.Proofs.YtocjejladeeckaaDoor
open Go.Vs
variable [TabU]
theorem palingref1_sameInit_ok {p0 : (List Int)} {p1 : (List Int)} {r : Bool} (hm : palingref1_sameInit p0 p1 = some r) : PureF Tryd.prog 67 [.sl (p0.map (eInt .i64)), .sl (p1.map (eInt .i64))] (.bool r) := by
  rw [palingref1_sameInit] at hm
  refine PureF.of Tryd.func67 rfl Tryd.ntmps67 (Nat.le_of_ble_eq_true rfl) ?_
  have e0 : argS 0 [.sl (p0.map (eInt .i64)), .sl (p1.map (eInt .i64))] = [(0, .sl (p0.map (eInt .i64))), (1, .sl (p1.map (eInt .i64)))] := rfl
  rw [e0]
  refine W.sq [] [(0, .sl (p0.map (eInt .i64))), (1, .sl (p1.map (eInt .i64)))] [] ?_
  refine W.seq ?_
  refine W.sq [] [(0, .sl (p0.map (eInt .i64))), (1, .sl (p1.map (eInt .i64))), (10, .bool ((p0.length : Int) != (p1.length : Int)))] [] ?_
  refine W.cnd ((p0.length : Int) != (p1.length : Int)) (fun hb1 => ?_) (fun hb1 => ?_)
  · replace hm := of_true hb1 hm
    refine W.sq [] [(4, .bool false)] [] ?_
    obtain rfl := Option.some.inj hm
    exact W.ret (EndsF.retW [] RO)
  · replace hm := of_false hb1 hm
    refine W.skip ?_
    refine W.seq ?_
    refine W.sq [] [(0, .sl (p0.map (eInt .i64))), (1, .sl (p1.map (eInt .i64))), (5, .int .i64 0)] [] ?_
    refine W.block ?_
    replace hm := of_bind hm
    obtain ⟨r16, hlr16, hm⟩ := hm
    refine W.mono (Q := fun e0 s0 h0 => match r16 with | .inl e => e0 = .exit 0 ∧ ∃ w : Unit, s0 = [] ∧ h0 = [] | .inr q => e0 = .ret ∧ s0 = [(4, .bool q)] ∧ h0 = []) (W.loopM (step := palingref1_sameInit_s1 p0 p1) (a0 := 0) (fun (a : Int) (v : Unit) => ([(0, .sl (p0.map (eInt .i64))), (1, .sl (p1.map (eInt .i64))), (5, .int .i64 a)], [])) () hlr16 ⟨[], []⟩ RO ?_) ?_
    · rintro i11 _ x hm hx
      rw [palingref1_sameInit_s1] at hm
      show WK _ _ _ _ _ [(0, .sl (p0.map (eInt .i64))), (1, .sl (p1.map (eInt .i64))), (5, .int .i64 i11)] []
      refine W.seq ?_
      refine W.sq [] [(0, .sl (p0.map (eInt .i64))), (1, .sl (p1.map (eInt .i64))), (5, .int .i64 i11), (14, .bool (decide (i11 < (p0.length : Int))))] [] ?_
      refine W.cnd (decide (i11 < (p0.length : Int))) (fun hb17 => ?_) (fun hb17 => ?_)
      · replace hm := of_true hb17 hm
        refine W.skip ?_
        refine W.seq ?_
        refine W.block ?_
        replace hm := of_ite hm
        obtain ⟨h18, hm⟩ := hm
        replace hm := of_ite hm
        obtain ⟨h19, hm⟩ := hm
        refine W.sqJ [] [] [] 0 [] [(0, .sl (p0.map (eInt .i64))), (1, .sl (p1.map (eInt .i64))), (5, .int .i64 i11), (25, .bool ((rd p0 i11) != (rd p1 i11)))] [] v_mixed ?_
        refine W.cnd ((rd p0 i11) != (rd p1 i11)) (fun hb20 => ?_) (fun hb20 => ?_)
        · replace hm := of_true hb20 hm
          refine W.sq [] [(4, .bool false)] [] ?_
          obtain rfl := Option.some.inj hm
          obtain rfl := hx _ rfl
          exact W.weak ⟨[], []⟩ (show AT _ ⟨[], []⟩ [(4, .bool false)] [] _ _ from RO) (W.ret (show _ ∧ _ from ⟨rfl, rfl, rfl⟩))
        · replace hm := of_false hb20 hm
          refine W.skip ?_
          refine W.rg [] [(0, .sl (p0.map (eInt .i64))), (1, .sl (p1.map (eInt .i64))), (5, .int .i64 (IntKind.wrap .i64 (i11 + 1)))] [] ?_
          obtain rfl := Option.some.inj hm
          exact ⟨(IntKind.wrap .i64 (i11 + 1)), (), ⟨[], []⟩, rfl, RO⟩
      · replace hm := of_false hb17 hm
        obtain rfl := Option.some.inj hm
        obtain rfl := hx _ rfl
        exact W.weak ⟨[], []⟩ (show AT _ ⟨[], []⟩ [] [] _ _ from RO) (W.exit (show _ ∧ _ from ⟨rfl, (), rfl, rfl⟩))
    · intro e0 s0 h0 hq
      rcases r16 with er16 | qr16
      · obtain ⟨rfl, _, rfl, rfl⟩ := hq
        replace hm := of_inl hm
        show WK _ _ _ _ _ [] []
        refine W.sq [] [(4, .bool true)] [] ?_
        obtain rfl := Option.some.inj hm
        exact W.ret (EndsF.retW [] RO)
      · obtain ⟨rfl, rfl, rfl⟩ := hq
        replace hm := of_inr hm
        obtain rfl := Option.some.inj hm
        exact EndsF.retW [] RO

theorem palingref1_SameTexts_ok {p0 : (List ByteArray)} {p1 : (List ByteArray)} {r : Bool} (hm : palingref1_SameTexts p0 p1 = some r) : PureF Tryd.prog 92 [.sl (p0.map eStr), .sl (p1.map eStr)] (.bool r) := by
  rw [palingref1_SameTexts] at hm
  refine PureF.of Tryd.func92 rfl Tryd.ntmps92 (Nat.le_of_ble_eq_true rfl) ?_
  have e0 : argS 0 [.sl (p0.map eStr), .sl (p1.map eStr)] = [(0, .sl (p0.map eStr)), (1, .sl (p1.map eStr))] := rfl
  rw [e0]
  refine W.sq [] [(0, .sl (p0.map eStr)), (1, .sl (p1.map eStr))] [] ?_
  refine W.seq ?_
  refine W.sq [] [(0, .sl (p0.map eStr)), (1, .sl (p1.map eStr)), (10, .bool ((p0.length : Int) != (p1.length : Int)))] [] ?_
  refine W.cnd ((p0.length : Int) != (p1.length : Int)) (fun hb1 => ?_) (fun hb1 => ?_)
  · replace hm := of_true hb1 hm
    refine W.sq [] [(4, .bool false)] [] ?_
    obtain rfl := Option.some.inj hm
    exact W.ret (EndsF.retW [] RO)
  · replace hm := of_false hb1 hm
    refine W.skip ?_
    refine W.seq ?_
    refine W.sq [] [(0, .sl (p0.map eStr)), (1, .sl (p1.map eStr)), (5, .int .i64 0)] [] ?_
    refine W.block ?_
    replace hm := of_bind hm
    obtain ⟨r16, hlr16, hm⟩ := hm
    refine W.mono (Q := fun e0 s0 h0 => match r16 with | .inl e => e0 = .exit 0 ∧ ∃ w : Unit, s0 = [] ∧ h0 = [] | .inr q => e0 = .ret ∧ s0 = [(4, .bool q)] ∧ h0 = []) (W.loopM (step := palingref1_SameTexts_s1 p0 p1) (a0 := 0) (fun (a : Int) (v : Unit) => ([(0, .sl (p0.map eStr)), (1, .sl (p1.map eStr)), (5, .int .i64 a)], [])) () hlr16 ⟨[], []⟩ RO ?_) ?_
    · rintro i11 _ x hm hx
      rw [palingref1_SameTexts_s1] at hm
      show WK _ _ _ _ _ [(0, .sl (p0.map eStr)), (1, .sl (p1.map eStr)), (5, .int .i64 i11)] []
      refine W.seq ?_
      refine W.sq [] [(0, .sl (p0.map eStr)), (1, .sl (p1.map eStr)), (5, .int .i64 i11), (14, .bool (decide (i11 < (p0.length : Int))))] [] ?_
      refine W.cnd (decide (i11 < (p0.length : Int))) (fun hb17 => ?_) (fun hb17 => ?_)
      · replace hm := of_true hb17 hm
        refine W.skip ?_
        refine W.seq ?_
        refine W.block ?_
        replace hm := of_ite hm
        obtain ⟨h18, hm⟩ := hm
        replace hm := of_ite hm
        obtain ⟨h19, hm⟩ := hm
        refine W.sqJ [] [] [] 0 [] [(0, .sl (p0.map eStr)), (1, .sl (p1.map eStr)), (5, .int .i64 i11), (25, .bool (!decide ((rd p0 i11) = (rd p1 i11))))] [] v_mixed ?_
        refine W.cnd (!decide ((rd p0 i11) = (rd p1 i11))) (fun hb20 => ?_) (fun hb20 => ?_)
        · replace hm := of_true hb20 hm
          refine W.sq [] [(4, .bool false)] [] ?_
          obtain rfl := Option.some.inj hm
          obtain rfl := hx _ rfl
          exact W.weak ⟨[], []⟩ (show AT _ ⟨[], []⟩ [(4, .bool false)] [] _ _ from RO) (W.ret (show _ ∧ _ from ⟨rfl, rfl, rfl⟩))
        · replace hm := of_false hb20 hm
          refine W.skip ?_
          refine W.rg [] [(0, .sl (p0.map eStr)), (1, .sl (p1.map eStr)), (5, .int .i64 (IntKind.wrap .i64 (i11 + 1)))] [] ?_
          obtain rfl := Option.some.inj hm
          exact ⟨(IntKind.wrap .i64 (i11 + 1)), (), ⟨[], []⟩, rfl, RO⟩
      · replace hm := of_false hb17 hm
        obtain rfl := Option.some.inj hm
        obtain rfl := hx _ rfl
        exact W.weak ⟨[], []⟩ (show AT _ ⟨[], []⟩ [] [] _ _ from RO) (W.exit (show _ ∧ _ from ⟨rfl, (), rfl, rfl⟩))
    · intro e0 s0 h0 hq
      rcases r16 with er16 | qr16
      · obtain ⟨rfl, _, rfl, rfl⟩ := hq
        replace hm := of_inl hm
        show WK _ _ _ _ _ [] []
        refine W.sq [] [(4, .bool true)] [] ?_
        obtain rfl := Option.some.inj hm
        exact W.ret (EndsF.retW [] RO)
      · obtain ⟨rfl, rfl, rfl⟩ := hq
        replace hm := of_inr hm
        obtain rfl := Option.some.inj hm
        exact EndsF.retW [] RO

theorem palingref1_SameIns_ok {p0 : T_api_Ins} {p1 : T_api_Ins} {r : Bool} (hm : palingref1_SameIns p0 p1 = some r) : PureF Tryd.prog 68 [.agg [.int .i64 p0.Op, .bool p0.Lock, .int .i64 p0.Cond, .int .i64 p0.A.Kind, .int .i64 p0.A.Reg, .int .i64 p0.A.Sym, .int .i64 p0.A.N, .int .i64 p0.B.Kind, .int .i64 p0.B.Reg, .int .i64 p0.B.Sym, .int .i64 p0.B.N, .str p0.To, .sl (p0.Labels.map eStr)], .agg [.int .i64 p1.Op, .bool p1.Lock, .int .i64 p1.Cond, .int .i64 p1.A.Kind, .int .i64 p1.A.Reg, .int .i64 p1.A.Sym, .int .i64 p1.A.N, .int .i64 p1.B.Kind, .int .i64 p1.B.Reg, .int .i64 p1.B.Sym, .int .i64 p1.B.N, .str p1.To, .sl (p1.Labels.map eStr)]] (.bool r) := by
  rw [palingref1_SameIns] at hm
  refine PureF.of Tryd.func68 rfl Tryd.ntmps68 (Nat.le_of_ble_eq_true rfl) ?_
  have e0 : argS 0 [.agg [.int .i64 p0.Op, .bool p0.Lock, .int .i64 p0.Cond, .int .i64 p0.A.Kind, .int .i64 p0.A.Reg, .int .i64 p0.A.Sym, .int .i64 p0.A.N, .int .i64 p0.B.Kind, .int .i64 p0.B.Reg, .int .i64 p0.B.Sym, .int .i64 p0.B.N, .str p0.To, .sl (p0.Labels.map eStr)], .agg [.int .i64 p1.Op, .bool p1.Lock, .int .i64 p1.Cond, .int .i64 p1.A.Kind, .int .i64 p1.A.Reg, .int .i64 p1.A.Sym, .int .i64 p1.A.N, .int .i64 p1.B.Kind, .int .i64 p1.B.Reg, .int .i64 p1.B.Sym, .int .i64 p1.B.N, .str p1.To, .sl (p1.Labels.map eStr)]] = [(0, .agg [.int .i64 p0.Op, .bool p0.Lock, .int .i64 p0.Cond, .int .i64 p0.A.Kind, .int .i64 p0.A.Reg, .int .i64 p0.A.Sym, .int .i64 p0.A.N, .int .i64 p0.B.Kind, .int .i64 p0.B.Reg, .int .i64 p0.B.Sym, .int .i64 p0.B.N, .str p0.To, .sl (p0.Labels.map eStr)]), (1, .agg [.int .i64 p1.Op, .bool p1.Lock, .int .i64 p1.Cond, .int .i64 p1.A.Kind, .int .i64 p1.A.Reg, .int .i64 p1.A.Sym, .int .i64 p1.A.N, .int .i64 p1.B.Kind, .int .i64 p1.B.Reg, .int .i64 p1.B.Sym, .int .i64 p1.B.N, .str p1.To, .sl (p1.Labels.map eStr)])] := rfl
  rw [e0]
  refine W.sq [] [(2, .ptr 0 0 0), (3, .ptr 1 0 0)] [.cells (e_api_Ins p0) 0 55, .cells (e_api_Ins p1) 0 55] ?_
  replace hm := of_bind hm
  obtain ⟨v1, h2, hm⟩ := hm
  replace hm := of_let hm
  obtain ⟨b3, h4, hm⟩ := hm
  have kh2 := fun hg => palingref1_SameTexts_ok (of_true hg h2)
  refine W.sq [] [(4, .bool b3)] [] ?_
  clear h4
  obtain rfl := Option.some.inj hm
  exact W.ret (EndsF.retW [] RO)

theorem palingref1_SameProg_ok {p0 : T_api_Prog} {p1 : T_api_Prog} {r : Bool} (hm : palingref1_SameProg p0 p1 = some r) : PureF Tryd.prog 31 [.agg [.sl (p0.Syms.map e_api_Sym), .sl (p0.Threads.map e_api_Thread)], .agg [.sl (p1.Syms.map e_api_Sym), .sl (p1.Threads.map e_api_Thread)]] (.bool r) := by
  rw [palingref1_SameProg] at hm
  refine PureF.of Tryd.func31 rfl Tryd.ntmps31 (Nat.le_of_ble_eq_true rfl) ?_
  have e0 : argS 0 [.agg [.sl (p0.Syms.map e_api_Sym), .sl (p0.Threads.map e_api_Thread)], .agg [.sl (p1.Syms.map e_api_Sym), .sl (p1.Threads.map e_api_Thread)]] = [(0, .agg [.sl (p0.Syms.map e_api_Sym), .sl (p0.Threads.map e_api_Thread)]), (1, .agg [.sl (p1.Syms.map e_api_Sym), .sl (p1.Threads.map e_api_Thread)])] := rfl
  rw [e0]
  refine W.sq [] [(2, .ptr 0 0 0), (3, .ptr 1 0 0)] [.cells (e_api_Prog p0) 0 38, .cells (e_api_Prog p1) 0 38] ?_
  refine W.seq ?_
  replace hm := of_let hm
  obtain ⟨b1, h2, hm⟩ := hm
  refine W.sq [] [(2, .ptr 0 0 0), (3, .ptr 1 0 0), (25, .bool b1)] [.cells (e_api_Prog p0) 0 38, .cells (e_api_Prog p1) 0 38] ?_
  clear h2
  refine W.cnd b1 (fun hb3 => ?_) (fun hb3 => ?_)
  · replace hm := of_true hb3 hm
    refine W.sq [] [(4, .bool false)] [] ?_
    obtain rfl := Option.some.inj hm
    exact W.ret (EndsF.retW [] RO)
  · replace hm := of_false hb3 hm
    refine W.skip ?_
    refine W.seq ?_
    refine W.sq [] [(2, .ptr 0 0 0), (3, .ptr 1 0 0), (5, .int .i64 0)] [.cells (e_api_Prog p0) 0 38, .cells (e_api_Prog p1) 0 38] ?_
    refine W.block ?_
    replace hm := of_bind hm
    obtain ⟨r43, hlr43, hm⟩ := hm
    refine W.mono (Q := fun e0 s0 h0 => match r43 with | .inl e => e0 = .exit 0 ∧ ∃ w : Unit, s0 = [(2, .ptr 0 0 0), (3, .ptr 1 0 0)] ∧ h0 = [.cells (e_api_Prog p0) 0 38, .cells (e_api_Prog p1) 0 38] | .inr q => e0 = .ret ∧ s0 = [(4, .bool q)] ∧ h0 = []) (W.loopM (step := palingref1_SameProg_s1 p0 p1) (a0 := 0) (fun (a : Int) (v : Unit) => ([(2, .ptr 0 0 0), (3, .ptr 1 0 0), (5, .int .i64 a)], [.cells (e_api_Prog p0) 0 38, .cells (e_api_Prog p1) 0 38])) () hlr43 ⟨[], []⟩ RO ?_) ?_
    · rintro i30 _ x hm hx
      rw [palingref1_SameProg_s1] at hm
      show WK _ _ _ _ _ [(2, .ptr 0 0 0), (3, .ptr 1 0 0), (5, .int .i64 i30)] [.cells (e_api_Prog p0) 0 38, .cells (e_api_Prog p1) 0 38]
      refine W.seq ?_
      refine W.sq [] [(2, .ptr 0 0 0), (3, .ptr 1 0 0), (5, .int .i64 i30), (30, .bool (decide (i30 < (p0.Syms.length : Int))))] [.cells (e_api_Prog p0) 0 38, .cells (e_api_Prog p1) 0 38] ?_
      refine W.cnd (decide (i30 < (p0.Syms.length : Int))) (fun hb44 => ?_) (fun hb44 => ?_)
      · replace hm := of_true hb44 hm
        refine W.skip ?_
        refine W.seq ?_
        refine W.block ?_
        replace hm := of_ite hm
        obtain ⟨h45, hm⟩ := hm
        replace hm := of_ite hm
        obtain ⟨h46, hm⟩ := hm
        replace hm := of_ite hm
        obtain ⟨h47, hm⟩ := hm
        replace hm := of_ite hm
        obtain ⟨h48, hm⟩ := hm
        replace hm := of_ite hm
        obtain ⟨h49, hm⟩ := hm
        replace hm := of_ite hm
        obtain ⟨h50, hm⟩ := hm
        replace hm := of_bind hm
        obtain ⟨v51, h52, hm⟩ := hm
        replace hm := of_let hm
        obtain ⟨b53, h54, hm⟩ := hm
        have kh52 := fun hg => palingref1_sameInit_ok (of_true hg h52)
        try simp only [hb3, hb44] at kh52
        refine W.sqJ [] [] [] 0 [] [(2, .ptr 0 0 0), (3, .ptr 1 0 0), (5, .int .i64 i30), (76, .bool b53)] [.cells (e_api_Prog p0) 0 38, .cells (e_api_Prog p1) 0 38] v_mixed ?_
        clear h54
        refine W.cnd b53 (fun hb55 => ?_) (fun hb55 => ?_)
        · replace hm := of_true hb55 hm
          refine W.sq [] [(4, .bool false)] [] ?_
          obtain rfl := Option.some.inj hm
          obtain rfl := hx _ rfl
          exact W.weak ⟨[], []⟩ (show AT _ ⟨[], []⟩ [(4, .bool false)] [] _ _ from RO) (W.ret (show _ ∧ _ from ⟨rfl, rfl, rfl⟩))
        · replace hm := of_false hb55 hm
          refine W.skip ?_
          refine W.rg [] [(2, .ptr 0 0 0), (3, .ptr 1 0 0), (5, .int .i64 (IntKind.wrap .i64 (i30 + 1)))] [.cells (e_api_Prog p0) 0 38, .cells (e_api_Prog p1) 0 38] ?_
          obtain rfl := Option.some.inj hm
          exact ⟨(IntKind.wrap .i64 (i30 + 1)), (), ⟨[], []⟩, rfl, RO⟩
      · replace hm := of_false hb44 hm
        obtain rfl := Option.some.inj hm
        obtain rfl := hx _ rfl
        exact W.weak ⟨[], []⟩ (show AT _ ⟨[], []⟩ [(2, .ptr 0 0 0), (3, .ptr 1 0 0)] [.cells (e_api_Prog p0) 0 38, .cells (e_api_Prog p1) 0 38] _ _ from RO) (W.exit (show _ ∧ _ from ⟨rfl, (), rfl, rfl⟩))
    · intro e0 s0 h0 hq
      rcases r43 with er43 | qr43
      · obtain ⟨rfl, _, rfl, rfl⟩ := hq
        replace hm := of_inl hm
        show WK _ _ _ _ _ [(2, .ptr 0 0 0), (3, .ptr 1 0 0)] [.cells (e_api_Prog p0) 0 38, .cells (e_api_Prog p1) 0 38]
        refine W.seq ?_
        refine W.sq [] [(2, .ptr 0 0 0), (3, .ptr 1 0 0), (6, .int .i64 0)] [.cells (e_api_Prog p0) 0 38, .cells (e_api_Prog p1) 0 38] ?_
        refine W.block ?_
        replace hm := of_bind hm
        obtain ⟨r133, hlr133, hm⟩ := hm
        refine W.mono (Q := fun e0 s0 h0 => match r133 with | .inl e => e0 = .exit 2 ∧ ∃ w : Unit, s0 = [] ∧ h0 = [] | .inr q => e0 = .ret ∧ s0 = [(4, .bool q)] ∧ h0 = []) (W.loopM (step := palingref1_SameProg_s2 p0 p1) (a0 := 0) (fun (a : Int) (v : Unit) => ([(2, .ptr 0 0 0), (3, .ptr 1 0 0), (6, .int .i64 a)], [.cells (e_api_Prog p0) 0 38, .cells (e_api_Prog p1) 0 38])) () hlr133 ⟨[], []⟩ RO ?_) ?_
        · rintro i107 _ x hm hx
          rw [palingref1_SameProg_s2] at hm
          show WK _ _ _ _ _ [(2, .ptr 0 0 0), (3, .ptr 1 0 0), (6, .int .i64 i107)] [.cells (e_api_Prog p0) 0 38, .cells (e_api_Prog p1) 0 38]
          refine W.seq ?_
          refine W.sq [] [(2, .ptr 0 0 0), (3, .ptr 1 0 0), (6, .int .i64 i107), (81, .bool (decide (i107 < (p0.Threads.length : Int))))] [.cells (e_api_Prog p0) 0 38, .cells (e_api_Prog p1) 0 38] ?_
          refine W.cnd (decide (i107 < (p0.Threads.length : Int))) (fun hb134 => ?_) (fun hb134 => ?_)
          · replace hm := of_true hb134 hm
            refine W.skip ?_
            refine W.seq ?_
            refine W.block ?_
            replace hm := of_ite hm
            obtain ⟨h135, hm⟩ := hm
            replace hm := of_ite hm
            obtain ⟨h136, hm⟩ := hm
            refine W.sqJ [] [] [] 0 [] [(2, .ptr 0 0 0), (3, .ptr 1 0 0), (6, .int .i64 i107), (7, .sl (((rd p0.Threads i107).Ins).map e_api_Ins)), (8, .sl (((rd p1.Threads i107).Ins).map e_api_Ins))] [.cells (e_api_Prog p0) 0 38, .cells (e_api_Prog p1) 0 38] v_mixed ?_
            refine W.seq ?_
            refine W.sq [] [(2, .ptr 0 0 0), (3, .ptr 1 0 0), (6, .int .i64 i107), (7, .sl (((rd p0.Threads i107).Ins).map e_api_Ins)), (8, .sl (((rd p1.Threads i107).Ins).map e_api_Ins)), (100, .bool ((((rd p0.Threads i107).Ins).length : Int) != (((rd p1.Threads i107).Ins).length : Int)))] [.cells (e_api_Prog p0) 0 38, .cells (e_api_Prog p1) 0 38] ?_
            refine W.cnd ((((rd p0.Threads i107).Ins).length : Int) != (((rd p1.Threads i107).Ins).length : Int)) (fun hb137 => ?_) (fun hb137 => ?_)
            · replace hm := of_true hb137 hm
              refine W.sq [] [(4, .bool false)] [] ?_
              obtain rfl := Option.some.inj hm
              obtain rfl := hx _ rfl
              exact W.weak ⟨[], []⟩ (show AT _ ⟨[], []⟩ [(4, .bool false)] [] _ _ from RO) (W.ret (show _ ∧ _ from ⟨rfl, rfl, rfl⟩))
            · replace hm := of_false hb137 hm
              refine W.skip ?_
              refine W.sq [] [(2, .ptr 0 0 0), (3, .ptr 1 0 0), (6, .int .i64 i107), (7, .sl (((rd p0.Threads i107).Ins).map e_api_Ins)), (8, .sl (((rd p1.Threads i107).Ins).map e_api_Ins)), (9, .int .i64 0)] [.cells (e_api_Prog p0) 0 38, .cells (e_api_Prog p1) 0 38] ?_
              refine W.block ?_
              replace hm := of_bind hm
              obtain ⟨r158, hlr158, hm⟩ := hm
              refine W.mono (Q := fun e0 s0 h0 => match r158 with | .inl e => e0 = .exit 4 ∧ ∃ w : Unit, s0 = [(2, .ptr 0 0 0), (3, .ptr 1 0 0), (6, .int .i64 i107)] ∧ h0 = [.cells (e_api_Prog p0) 0 38, .cells (e_api_Prog p1) 0 38] | .inr q => e0 = .ret ∧ s0 = [(4, .bool q)] ∧ h0 = []) (W.loopM (step := palingref1_SameProg_s3 p0 i107 p1) (a0 := 0) (fun (a : Int) (v : Unit) => ([(2, .ptr 0 0 0), (3, .ptr 1 0 0), (6, .int .i64 i107), (7, .sl (((rd p0.Threads i107).Ins).map e_api_Ins)), (8, .sl (((rd p1.Threads i107).Ins).map e_api_Ins)), (9, .int .i64 a)], [.cells (e_api_Prog p0) 0 38, .cells (e_api_Prog p1) 0 38])) () hlr158 ⟨[], []⟩ RO ?_) ?_
              · rintro i151 _ x hm hx
                rw [palingref1_SameProg_s3] at hm
                show WK _ _ _ _ _ [(2, .ptr 0 0 0), (3, .ptr 1 0 0), (6, .int .i64 i107), (7, .sl (((rd p0.Threads i107).Ins).map e_api_Ins)), (8, .sl (((rd p1.Threads i107).Ins).map e_api_Ins)), (9, .int .i64 i151)] [.cells (e_api_Prog p0) 0 38, .cells (e_api_Prog p1) 0 38]
                refine W.seq ?_
                refine W.sq [] [(2, .ptr 0 0 0), (3, .ptr 1 0 0), (6, .int .i64 i107), (7, .sl (((rd p0.Threads i107).Ins).map e_api_Ins)), (8, .sl (((rd p1.Threads i107).Ins).map e_api_Ins)), (9, .int .i64 i151), (104, .bool (decide (i151 < (((rd p0.Threads i107).Ins).length : Int))))] [.cells (e_api_Prog p0) 0 38, .cells (e_api_Prog p1) 0 38] ?_
                refine W.cnd (decide (i151 < (((rd p0.Threads i107).Ins).length : Int))) (fun hb159 => ?_) (fun hb159 => ?_)
                · replace hm := of_true hb159 hm
                  refine W.skip ?_
                  refine W.seq ?_
                  refine W.block ?_
                  replace hm := of_ite hm
                  obtain ⟨h160, hm⟩ := hm
                  replace hm := of_ite hm
                  obtain ⟨h161, hm⟩ := hm
                  replace hm := of_bind hm
                  obtain ⟨v162, h163, hm⟩ := hm
                  have kh163 := palingref1_SameIns_ok h163
                  try simp only [hb3, hb134, hb137, hb159] at kh163
                  refine W.sqJ [] [] [] 0 [] [(2, .ptr 0 0 0), (3, .ptr 1 0 0), (6, .int .i64 i107), (7, .sl (((rd p0.Threads i107).Ins).map e_api_Ins)), (8, .sl (((rd p1.Threads i107).Ins).map e_api_Ins)), (9, .int .i64 i151), (116, .bool (!v162))] [.cells (e_api_Prog p0) 0 38, .cells (e_api_Prog p1) 0 38] v_mixed ?_
                  refine W.cnd (!v162) (fun hb164 => ?_) (fun hb164 => ?_)
                  · replace hm := of_true hb164 hm
                    refine W.sq [] [(4, .bool false)] [] ?_
                    obtain rfl := Option.some.inj hm
                    obtain rfl := hx _ rfl
                    exact W.weak ⟨[], []⟩ (show AT _ ⟨[], []⟩ [(4, .bool false)] [] _ _ from RO) (W.ret (show _ ∧ _ from ⟨rfl, rfl, rfl⟩))
                  · replace hm := of_false hb164 hm
                    refine W.skip ?_
                    refine W.rg [] [(2, .ptr 0 0 0), (3, .ptr 1 0 0), (6, .int .i64 i107), (7, .sl (((rd p0.Threads i107).Ins).map e_api_Ins)), (8, .sl (((rd p1.Threads i107).Ins).map e_api_Ins)), (9, .int .i64 (IntKind.wrap .i64 (i151 + 1)))] [.cells (e_api_Prog p0) 0 38, .cells (e_api_Prog p1) 0 38] ?_
                    obtain rfl := Option.some.inj hm
                    exact ⟨(IntKind.wrap .i64 (i151 + 1)), (), ⟨[], []⟩, rfl, RO⟩
                · replace hm := of_false hb159 hm
                  obtain rfl := Option.some.inj hm
                  obtain rfl := hx _ rfl
                  exact W.weak ⟨[], []⟩ (show AT _ ⟨[], []⟩ [(2, .ptr 0 0 0), (3, .ptr 1 0 0), (6, .int .i64 i107)] [.cells (e_api_Prog p0) 0 38, .cells (e_api_Prog p1) 0 38] _ _ from RO) (W.exit (show _ ∧ _ from ⟨rfl, (), rfl, rfl⟩))
              · intro e0 s0 h0 hq
                rcases r158 with er158 | qr158
                · obtain ⟨rfl, _, rfl, rfl⟩ := hq
                  replace hm := of_inl hm
                  show WK _ _ _ _ _ [(2, .ptr 0 0 0), (3, .ptr 1 0 0), (6, .int .i64 i107)] [.cells (e_api_Prog p0) 0 38, .cells (e_api_Prog p1) 0 38]
                  refine W.rg [] [(2, .ptr 0 0 0), (3, .ptr 1 0 0), (6, .int .i64 (IntKind.wrap .i64 (i107 + 1)))] [.cells (e_api_Prog p0) 0 38, .cells (e_api_Prog p1) 0 38] ?_
                  obtain rfl := Option.some.inj hm
                  exact ⟨(IntKind.wrap .i64 (i107 + 1)), (), ⟨[], []⟩, rfl, RO⟩
                · obtain ⟨rfl, rfl, rfl⟩ := hq
                  replace hm := of_inr hm
                  obtain rfl := Option.some.inj hm
                  obtain rfl := hx _ rfl
                  first | exact (show _ ∧ _ from ⟨rfl, rfl, rfl⟩) | exact ⟨trivial, rfl, rfl⟩
          · replace hm := of_false hb134 hm
            obtain rfl := Option.some.inj hm
            obtain rfl := hx _ rfl
            exact W.weak ⟨[], []⟩ (show AT _ ⟨[], []⟩ [] [] _ _ from RO) (W.exit (show _ ∧ _ from ⟨rfl, (), rfl, rfl⟩))
        · intro e0 s0 h0 hq
          rcases r133 with er133 | qr133
          · obtain ⟨rfl, _, rfl, rfl⟩ := hq
            replace hm := of_inl hm
            show WK _ _ _ _ _ [] []
            refine W.sq [] [(4, .bool true)] [] ?_
            obtain rfl := Option.some.inj hm
            exact W.ret (EndsF.retW [] RO)
          · obtain ⟨rfl, rfl, rfl⟩ := hq
            replace hm := of_inr hm
            obtain rfl := Option.some.inj hm
            exact EndsF.retW [] RO
      · obtain ⟨rfl, rfl, rfl⟩ := hq
        replace hm := of_inr hm
        obtain rfl := Option.some.inj hm
        exact EndsF.retW [] RO


end Go.Proofs.YtocjejladeeckaaDoor
