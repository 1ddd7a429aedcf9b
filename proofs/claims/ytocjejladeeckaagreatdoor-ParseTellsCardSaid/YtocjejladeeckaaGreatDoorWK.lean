import Derived.Test.YtocjejladeeckaaGreatDoorVFacts
import Derived.Test.YtocjejladeeckaaGreatDoorPalK
import Derived.Test.YtocjejladeeckaaGreatDoorWA
import Derived.Test.YtocjejladeeckaaGreatDoorWUtf
set_option linter.all false
set_option maxRecDepth 100000
set_option maxHeartbeats 4000000
namespace Go.Proofs.YtocjejladeeckaaGreatDoor
open Go.Vs
variable [TabU]
theorem zfQ {p0 : (List Int)} {p1 : (List Int)} {r : Bool} (hm : zcy p0 p1 = some r) : zaL Tryz.prog 34 [.sl (p0.map (eInt .i64)), .sl (p1.map (eInt .i64))] (.bool r) := by
 rw [zcy] at hm
 refine zaL.of Tryz.func34 rfl Tryz.ntmps34 (Nat.le_of_ble_eq_true rfl) ?_
 have e0 : argS 0 [.sl (p0.map (eInt .i64)), .sl (p1.map (eInt .i64))] = [(0, .sl (p0.map (eInt .i64))), (1, .sl (p1.map (eInt .i64)))] := rfl
 rw [e0]
 refine W.sq [] [(0, .sl (p0.map (eInt .i64))), (1, .sl (p1.map (eInt .i64)))] [] ?_
 refine W.seq ?_
 refine W.sqh [] [(0, .sl (p0.map (eInt .i64))), (1, .sl (p1.map (eInt .i64))), (10, .bool ((p0.length : Int) != (p1.length : Int)))] ?_
 refine W.cnd ((p0.length : Int) != (p1.length : Int)) (fun hb1 => ?_) fun hb1 => ?_
 ·replace hm := zal hb1 hm
  refine W.sqh [] [(4, .bool false)] ?_
  obtain rfl := zo hm
  exact W.ret (zaI.retW [] RO)
 ·replace hm := zak hb1 hm
  refine W.skip ?_
  refine W.seq ?_
  refine W.sqh [] [(0, .sl (p0.map (eInt .i64))), (1, .sl (p1.map (eInt .i64))), (5, zi 0)] ?_
  refine W.block ?_
  replace ⟨r16, hlr16, hm⟩ := zam hm
  refine W.mono (Q := fun e0 s0 h0 => match r16 with | .inl e => e0 = .exit 0 /\ ∃ w : Unit, s0 = [] /\ h0 = [] | .inr q => e0 = .ret /\ s0 = [(4, .bool q)] /\ h0 = []) (W.loopM (step := zb4 p0 p1) (a0 := 0) (fun (a : Int) (v : Unit) => ([(0, .sl (p0.map (eInt .i64))), (1, .sl (p1.map (eInt .i64))), (5, zi a)], [])) () hlr16 ⟨[], []⟩ RO ?_) ?_
  ·rintro i11 _ x hm hx
   rw [zb4] at hm
   show WK _ _ _ _ _ [(0, .sl (p0.map (eInt .i64))), (1, .sl (p1.map (eInt .i64))), (5, zi i11)] []
   refine W.seq ?_
   refine W.sqh [] [(0, .sl (p0.map (eInt .i64))), (1, .sl (p1.map (eInt .i64))), (5, zi i11), (14, .bool (decide (i11 < (p0.length : Int))))] ?_
   refine W.cnd (decide (i11 < (p0.length : Int))) (fun hb17 => ?_) fun hb17 => ?_
   ·replace hm := zal hb17 hm
    refine W.skip ?_
    refine W.seq ?_
    refine W.block ?_
    replace ⟨h18, hm⟩ := zav hm
    replace ⟨h19, hm⟩ := zav hm
    refine W.sqJ [] [] [] 0 [] [(0, .sl (p0.map (eInt .i64))), (1, .sl (p1.map (eInt .i64))), (5, zi i11), (25, .bool ((rd p0 i11) != (rd p1 i11)))] [] zaC ?_
    refine W.cnd ((rd p0 i11) != (rd p1 i11)) (fun hb20 => ?_) fun hb20 => ?_
    ·replace hm := zal hb20 hm
     refine W.sqh [] [(4, .bool false)] ?_
     obtain rfl := zo hm
     obtain rfl := hx _ rfl
     exact W.wk ⟨[], []⟩ [(4, .bool false)] [] (W.ret (show _ /\ _ from ⟨rfl, rfl, rfl⟩))
    ·replace hm := zak hb20 hm
     refine W.skip ?_
     refine W.rg [] [(0, .sl (p0.map (eInt .i64))), (1, .sl (p1.map (eInt .i64))), (5, zi (zw (i11 + 1)))] [] ?_
     obtain rfl := zo hm
     exact ⟨(zw (i11 + 1)), (), ⟨[], []⟩, rfl, RO⟩
   ·replace hm := zak hb17 hm
    obtain rfl := zo hm
    obtain rfl := hx _ rfl
    exact W.wk ⟨[], []⟩ [] [] (W.exit (show _ /\ _ from ⟨rfl, (), rfl, rfl⟩))
  ·intro e0 s0 h0 hq
   rcases r16 with er16 | qr16
   ·obtain ⟨rfl, _, rfl, rfl⟩ := hq
    replace hm := zcC hm
    show WK _ _ _ _ _ [] []
    refine W.sqh [] [(4, .bool true)] ?_
    obtain rfl := zo hm
    exact W.ret (zaI.retW [] RO)
   ·obtain ⟨rfl, rfl, rfl⟩ := hq
    replace hm := zcB hm
    obtain rfl := zo hm
    exact zaI.retW [] RO
theorem zfB {p0 : (List ByteArray)} {p1 : (List ByteArray)} {r : Bool} (hm : zcv p0 p1 = some r) : zaL Tryz.prog 59 [.sl (p0.map eStr), .sl (p1.map eStr)] (.bool r) := by
 rw [zcv] at hm
 refine zaL.of Tryz.func59 rfl Tryz.ntmps59 (Nat.le_of_ble_eq_true rfl) ?_
 have e0 : argS 0 [.sl (p0.map eStr), .sl (p1.map eStr)] = [(0, .sl (p0.map eStr)), (1, .sl (p1.map eStr))] := rfl
 rw [e0]
 refine W.sq [] [(0, .sl (p0.map eStr)), (1, .sl (p1.map eStr))] [] ?_
 refine W.seq ?_
 refine W.sqh [] [(0, .sl (p0.map eStr)), (1, .sl (p1.map eStr)), (10, .bool ((p0.length : Int) != (p1.length : Int)))] ?_
 refine W.cnd ((p0.length : Int) != (p1.length : Int)) (fun hb1 => ?_) fun hb1 => ?_
 ·replace hm := zal hb1 hm
  refine W.sqh [] [(4, .bool false)] ?_
  obtain rfl := zo hm
  exact W.ret (zaI.retW [] RO)
 ·replace hm := zak hb1 hm
  refine W.skip ?_
  refine W.seq ?_
  refine W.sqh [] [(0, .sl (p0.map eStr)), (1, .sl (p1.map eStr)), (5, zi 0)] ?_
  refine W.block ?_
  replace ⟨r16, hlr16, hm⟩ := zam hm
  refine W.mono (Q := fun e0 s0 h0 => match r16 with | .inl e => e0 = .exit 0 /\ ∃ w : Unit, s0 = [] /\ h0 = [] | .inr q => e0 = .ret /\ s0 = [(4, .bool q)] /\ h0 = []) (W.loopM (step := zbR p0 p1) (a0 := 0) (fun (a : Int) (v : Unit) => ([(0, .sl (p0.map eStr)), (1, .sl (p1.map eStr)), (5, zi a)], [])) () hlr16 ⟨[], []⟩ RO ?_) ?_
  ·rintro i11 _ x hm hx
   rw [zbR] at hm
   show WK _ _ _ _ _ [(0, .sl (p0.map eStr)), (1, .sl (p1.map eStr)), (5, zi i11)] []
   refine W.seq ?_
   refine W.sqh [] [(0, .sl (p0.map eStr)), (1, .sl (p1.map eStr)), (5, zi i11), (14, .bool (decide (i11 < (p0.length : Int))))] ?_
   refine W.cnd (decide (i11 < (p0.length : Int))) (fun hb17 => ?_) fun hb17 => ?_
   ·replace hm := zal hb17 hm
    refine W.skip ?_
    refine W.seq ?_
    refine W.block ?_
    replace ⟨h18, hm⟩ := zav hm
    replace ⟨h19, hm⟩ := zav hm
    refine W.sqJ [] [] [] 0 [] [(0, .sl (p0.map eStr)), (1, .sl (p1.map eStr)), (5, zi i11), (25, .bool (!decide ((rd p0 i11) = (rd p1 i11))))] [] zaC ?_
    refine W.cnd (!decide ((rd p0 i11) = (rd p1 i11))) (fun hb20 => ?_) fun hb20 => ?_
    ·replace hm := zal hb20 hm
     refine W.sqh [] [(4, .bool false)] ?_
     obtain rfl := zo hm
     obtain rfl := hx _ rfl
     exact W.wk ⟨[], []⟩ [(4, .bool false)] [] (W.ret (show _ /\ _ from ⟨rfl, rfl, rfl⟩))
    ·replace hm := zak hb20 hm
     refine W.skip ?_
     refine W.rg [] [(0, .sl (p0.map eStr)), (1, .sl (p1.map eStr)), (5, zi (zw (i11 + 1)))] [] ?_
     obtain rfl := zo hm
     exact ⟨(zw (i11 + 1)), (), ⟨[], []⟩, rfl, RO⟩
   ·replace hm := zak hb17 hm
    obtain rfl := zo hm
    obtain rfl := hx _ rfl
    exact W.wk ⟨[], []⟩ [] [] (W.exit (show _ /\ _ from ⟨rfl, (), rfl, rfl⟩))
  ·intro e0 s0 h0 hq
   rcases r16 with er16 | qr16
   ·obtain ⟨rfl, _, rfl, rfl⟩ := hq
    replace hm := zcC hm
    show WK _ _ _ _ _ [] []
    refine W.sqh [] [(4, .bool true)] ?_
    obtain rfl := zo hm
    exact W.ret (zaI.retW [] RO)
   ·obtain ⟨rfl, rfl, rfl⟩ := hq
    replace hm := zcB hm
    obtain rfl := zo hm
    exact zaI.retW [] RO
theorem zfY {p0 : zap} {p1 : zap} {r : Bool} (hm : zcO p0 p1 = some r) : zaL Tryz.prog 35 [.agg [zi p0.Op, .bool p0.Lock, zi p0.Cond, zi p0.A.Kind, zi p0.A.Reg, zi p0.A.Sym, zi p0.A.N, zi p0.B.Kind, zi p0.B.Reg, zi p0.B.Sym, zi p0.B.N, .str p0.To, .sl (p0.zLb.map eStr)], .agg [zi p1.Op, .bool p1.Lock, zi p1.Cond, zi p1.A.Kind, zi p1.A.Reg, zi p1.A.Sym, zi p1.A.N, zi p1.B.Kind, zi p1.B.Reg, zi p1.B.Sym, zi p1.B.N, .str p1.To, .sl (p1.zLb.map eStr)]] (.bool r) := by
 rw [zcO] at hm
 refine zaL.of Tryz.func35 rfl Tryz.ntmps35 (Nat.le_of_ble_eq_true rfl) ?_
 have e0 : argS 0 [.agg [zi p0.Op, .bool p0.Lock, zi p0.Cond, zi p0.A.Kind, zi p0.A.Reg, zi p0.A.Sym, zi p0.A.N, zi p0.B.Kind, zi p0.B.Reg, zi p0.B.Sym, zi p0.B.N, .str p0.To, .sl (p0.zLb.map eStr)], .agg [zi p1.Op, .bool p1.Lock, zi p1.Cond, zi p1.A.Kind, zi p1.A.Reg, zi p1.A.Sym, zi p1.A.N, zi p1.B.Kind, zi p1.B.Reg, zi p1.B.Sym, zi p1.B.N, .str p1.To, .sl (p1.zLb.map eStr)]] = [(0, .agg [zi p0.Op, .bool p0.Lock, zi p0.Cond, zi p0.A.Kind, zi p0.A.Reg, zi p0.A.Sym, zi p0.A.N, zi p0.B.Kind, zi p0.B.Reg, zi p0.B.Sym, zi p0.B.N, .str p0.To, .sl (p0.zLb.map eStr)]), (1, .agg [zi p1.Op, .bool p1.Lock, zi p1.Cond, zi p1.A.Kind, zi p1.A.Reg, zi p1.A.Sym, zi p1.A.N, zi p1.B.Kind, zi p1.B.Reg, zi p1.B.Sym, zi p1.B.N, .str p1.To, .sl (p1.zLb.map eStr)])] := rfl
 rw [e0]
 refine W.sq [] [(2, .ptr 0 0 0), (3, .ptr 1 0 0)] [.cells (zan p0) 0 63, .cells (zan p1) 0 63] ?_
 replace ⟨v1, h2, hm⟩ := zam hm
 replace ⟨b3, h4, hm⟩ := zaN hm
 have kh2 := fun hg => zfB (zal hg h2)
 refine W.sq [] [(4, .bool b3)] [] ?_
 clear h4
 obtain rfl := zo hm
 exact W.ret (zaI.retW [] RO)
theorem zfR {p0 : zat} {p1 : zat} {r : Bool} (hm : zcA p0 p1 = some r) : zaL Tryz.prog 17 [.agg [.sl (p0.zSy.map zas), .sl (p0.zTh.map zaT)], .agg [.sl (p1.zSy.map zas), .sl (p1.zTh.map zaT)]] (.bool r) := by
 rw [zcA] at hm
 refine zaL.of Tryz.func17 rfl Tryz.ntmps17 (Nat.le_of_ble_eq_true rfl) ?_
 have e0 : argS 0 [.agg [.sl (p0.zSy.map zas), .sl (p0.zTh.map zaT)], .agg [.sl (p1.zSy.map zas), .sl (p1.zTh.map zaT)]] = [(0, .agg [.sl (p0.zSy.map zas), .sl (p0.zTh.map zaT)]), (1, .agg [.sl (p1.zSy.map zas), .sl (p1.zTh.map zaT)])] := rfl
 rw [e0]
 refine W.sq [] [(2, .ptr 0 0 0), (3, .ptr 1 0 0)] [.cells (zaG p0) 0 30, .cells (zaG p1) 0 30] ?_
 refine W.seq ?_
 replace ⟨b1, h2, hm⟩ := zaN hm
 refine W.sqh [] [(2, .ptr 0 0 0), (3, .ptr 1 0 0), (25, .bool b1)] ?_
 clear h2
 refine W.cnd b1 (fun hb3 => ?_) fun hb3 => ?_
 ·replace hm := zal hb3 hm
  refine W.sq [] [(4, .bool false)] [] ?_
  obtain rfl := zo hm
  exact W.ret (zaI.retW [] RO)
 ·replace hm := zak hb3 hm
  refine W.skip ?_
  refine W.seq ?_
  refine W.sq [] [(2, .ptr 0 0 0), (3, .ptr 1 0 0), (5, zi 0)] [.cells (zaG p0) 0 30, .cells (zaG p1) 0 30] ?_
  refine W.block ?_
  replace ⟨r43, hlr43, hm⟩ := zam hm
  refine W.mono (Q := fun e0 s0 h0 => match r43 with | .inl e => e0 = .exit 0 /\ ∃ w : Unit, s0 = [(2, .ptr 0 0 0), (3, .ptr 1 0 0)] /\ h0 = [.cells (zaG p0) 0 30, .cells (zaG p1) 0 30] | .inr q => e0 = .ret /\ s0 = [(4, .bool q)] /\ h0 = []) (W.loopM (step := zb7 p0 p1) (a0 := 0) (fun (a : Int) (v : Unit) => ([(2, .ptr 0 0 0), (3, .ptr 1 0 0), (5, zi a)], [.cells (zaG p0) 0 30, .cells (zaG p1) 0 30])) () hlr43 ⟨[], []⟩ RO ?_) ?_
  ·rintro i30 _ x hm hx
   rw [zb7] at hm
   show WK _ _ _ _ _ [(2, .ptr 0 0 0), (3, .ptr 1 0 0), (5, zi i30)] [.cells (zaG p0) 0 30, .cells (zaG p1) 0 30]
   refine W.seq ?_
   refine W.sqh [] [(2, .ptr 0 0 0), (3, .ptr 1 0 0), (5, zi i30), (30, .bool (decide (i30 < (p0.zSy.length : Int))))] ?_
   refine W.cnd (decide (i30 < (p0.zSy.length : Int))) (fun hb44 => ?_) fun hb44 => ?_
   ·replace hm := zal hb44 hm
    refine W.skip ?_
    refine W.seq ?_
    refine W.block ?_
    replace ⟨h45, hm⟩ := zav hm
    replace ⟨h46, hm⟩ := zav hm
    replace ⟨h47, hm⟩ := zav hm
    replace ⟨h48, hm⟩ := zav hm
    replace ⟨h49, hm⟩ := zav hm
    replace ⟨h50, hm⟩ := zav hm
    replace ⟨v51, h52, hm⟩ := zam hm
    replace ⟨b53, h54, hm⟩ := zaN hm
    have kh52 := fun hg => zfQ (zal hg h52)
    try simp only [hb3, hb44] at kh52
    refine W.sqJ [] [] [] 0 [] [(2, .ptr 0 0 0), (3, .ptr 1 0 0), (5, zi i30), (76, .bool b53)] [.cells (zaG p0) 0 30, .cells (zaG p1) 0 30] zaC ?_
    clear h54
    refine W.cnd b53 (fun hb55 => ?_) fun hb55 => ?_
    ·replace hm := zal hb55 hm
     refine W.sq [] [(4, .bool false)] [] ?_
     obtain rfl := zo hm
     obtain rfl := hx _ rfl
     exact W.wk ⟨[], []⟩ [(4, .bool false)] [] (W.ret (show _ /\ _ from ⟨rfl, rfl, rfl⟩))
    ·replace hm := zak hb55 hm
     refine W.skip ?_
     refine W.rg [] [(2, .ptr 0 0 0), (3, .ptr 1 0 0), (5, zi (zw (i30 + 1)))] [.cells (zaG p0) 0 30, .cells (zaG p1) 0 30] ?_
     obtain rfl := zo hm
     exact ⟨(zw (i30 + 1)), (), ⟨[], []⟩, rfl, RO⟩
   ·replace hm := zak hb44 hm
    obtain rfl := zo hm
    obtain rfl := hx _ rfl
    exact W.wk ⟨[], []⟩ [(2, .ptr 0 0 0), (3, .ptr 1 0 0)] [.cells (zaG p0) 0 30, .cells (zaG p1) 0 30] (W.exit (show _ /\ _ from ⟨rfl, (), rfl, rfl⟩))
  ·intro e0 s0 h0 hq
   rcases r43 with er43 | qr43
   ·obtain ⟨rfl, _, rfl, rfl⟩ := hq
    replace hm := zcC hm
    show WK _ _ _ _ _ [(2, .ptr 0 0 0), (3, .ptr 1 0 0)] [.cells (zaG p0) 0 30, .cells (zaG p1) 0 30]
    refine W.seq ?_
    refine W.sqh [] [(2, .ptr 0 0 0), (3, .ptr 1 0 0), (6, zi 0)] ?_
    refine W.block ?_
    replace ⟨r133, hlr133, hm⟩ := zam hm
    refine W.mono (Q := fun e0 s0 h0 => match r133 with | .inl e => e0 = .exit 2 /\ ∃ w : Unit, s0 = [] /\ h0 = [] | .inr q => e0 = .ret /\ s0 = [(4, .bool q)] /\ h0 = []) (W.loopM (step := zb6 p0 p1) (a0 := 0) (fun (a : Int) (v : Unit) => ([(2, .ptr 0 0 0), (3, .ptr 1 0 0), (6, zi a)], [.cells (zaG p0) 0 30, .cells (zaG p1) 0 30])) () hlr133 ⟨[], []⟩ RO ?_) ?_
    ·rintro i107 _ x hm hx
     rw [zb6] at hm
     show WK _ _ _ _ _ [(2, .ptr 0 0 0), (3, .ptr 1 0 0), (6, zi i107)] [.cells (zaG p0) 0 30, .cells (zaG p1) 0 30]
     refine W.seq ?_
     refine W.sqh [] [(2, .ptr 0 0 0), (3, .ptr 1 0 0), (6, zi i107), (81, .bool (decide (i107 < (p0.zTh.length : Int))))] ?_
     refine W.cnd (decide (i107 < (p0.zTh.length : Int))) (fun hb134 => ?_) fun hb134 => ?_
     ·replace hm := zal hb134 hm
      refine W.skip ?_
      refine W.seq ?_
      refine W.block ?_
      replace ⟨h135, hm⟩ := zav hm
      replace ⟨h136, hm⟩ := zav hm
      refine W.sqJ [] [] [] 0 [] [(2, .ptr 0 0 0), (3, .ptr 1 0 0), (6, zi i107), (7, .sl (((rd p0.zTh i107).Ins).map zan)), (8, .sl (((rd p1.zTh i107).Ins).map zan))] [.cells (zaG p0) 0 30, .cells (zaG p1) 0 30] zaC ?_
      refine W.seq ?_
      refine W.sqh [] [(2, .ptr 0 0 0), (3, .ptr 1 0 0), (6, zi i107), (7, .sl (((rd p0.zTh i107).Ins).map zan)), (8, .sl (((rd p1.zTh i107).Ins).map zan)), (100, .bool ((((rd p0.zTh i107).Ins).length : Int) != (((rd p1.zTh i107).Ins).length : Int)))] ?_
      refine W.cnd ((((rd p0.zTh i107).Ins).length : Int) != (((rd p1.zTh i107).Ins).length : Int)) (fun hb137 => ?_) fun hb137 => ?_
      ·replace hm := zal hb137 hm
       refine W.sq [] [(4, .bool false)] [] ?_
       obtain rfl := zo hm
       obtain rfl := hx _ rfl
       exact W.wk ⟨[], []⟩ [(4, .bool false)] [] (W.ret (show _ /\ _ from ⟨rfl, rfl, rfl⟩))
      ·replace hm := zak hb137 hm
       refine W.skip ?_
       refine W.sq [] [(2, .ptr 0 0 0), (3, .ptr 1 0 0), (6, zi i107), (7, .sl (((rd p0.zTh i107).Ins).map zan)), (8, .sl (((rd p1.zTh i107).Ins).map zan)), (9, zi 0)] [.cells (zaG p0) 0 30, .cells (zaG p1) 0 30] ?_
       refine W.block ?_
       replace ⟨r158, hlr158, hm⟩ := zam hm
       refine W.mono (Q := fun e0 s0 h0 => match r158 with | .inl e => e0 = .exit 4 /\ ∃ w : Unit, s0 = [(2, .ptr 0 0 0), (3, .ptr 1 0 0), (6, zi i107)] /\ h0 = [.cells (zaG p0) 0 30, .cells (zaG p1) 0 30] | .inr q => e0 = .ret /\ s0 = [(4, .bool q)] /\ h0 = []) (W.loopM (step := zb5 p0 i107 p1) (a0 := 0) (fun (a : Int) (v : Unit) => ([(2, .ptr 0 0 0), (3, .ptr 1 0 0), (6, zi i107), (7, .sl (((rd p0.zTh i107).Ins).map zan)), (8, .sl (((rd p1.zTh i107).Ins).map zan)), (9, zi a)], [.cells (zaG p0) 0 30, .cells (zaG p1) 0 30])) () hlr158 ⟨[], []⟩ RO ?_) ?_
       ·rintro i151 _ x hm hx
        rw [zb5] at hm
        show WK _ _ _ _ _ [(2, .ptr 0 0 0), (3, .ptr 1 0 0), (6, zi i107), (7, .sl (((rd p0.zTh i107).Ins).map zan)), (8, .sl (((rd p1.zTh i107).Ins).map zan)), (9, zi i151)] [.cells (zaG p0) 0 30, .cells (zaG p1) 0 30]
        refine W.seq ?_
        refine W.sqh [] [(2, .ptr 0 0 0), (3, .ptr 1 0 0), (6, zi i107), (7, .sl (((rd p0.zTh i107).Ins).map zan)), (8, .sl (((rd p1.zTh i107).Ins).map zan)), (9, zi i151), (104, .bool (decide (i151 < (((rd p0.zTh i107).Ins).length : Int))))] ?_
        refine W.cnd (decide (i151 < (((rd p0.zTh i107).Ins).length : Int))) (fun hb159 => ?_) fun hb159 => ?_
        ·replace hm := zal hb159 hm
         refine W.skip ?_
         refine W.seq ?_
         refine W.block ?_
         replace ⟨h160, hm⟩ := zav hm
         replace ⟨h161, hm⟩ := zav hm
         replace ⟨v162, h163, hm⟩ := zam hm
         have kh163 := zfY h163
         try simp only [hb3, hb134, hb137, hb159] at kh163
         refine W.sqJ [] [] [] 0 [] [(2, .ptr 0 0 0), (3, .ptr 1 0 0), (6, zi i107), (7, .sl (((rd p0.zTh i107).Ins).map zan)), (8, .sl (((rd p1.zTh i107).Ins).map zan)), (9, zi i151), (116, .bool (!v162))] [.cells (zaG p0) 0 30, .cells (zaG p1) 0 30] zaC ?_
         refine W.cnd (!v162) (fun hb164 => ?_) fun hb164 => ?_
         ·replace hm := zal hb164 hm
          refine W.sq [] [(4, .bool false)] [] ?_
          obtain rfl := zo hm
          obtain rfl := hx _ rfl
          exact W.wk ⟨[], []⟩ [(4, .bool false)] [] (W.ret (show _ /\ _ from ⟨rfl, rfl, rfl⟩))
         ·replace hm := zak hb164 hm
          refine W.skip ?_
          refine W.rg [] [(2, .ptr 0 0 0), (3, .ptr 1 0 0), (6, zi i107), (7, .sl (((rd p0.zTh i107).Ins).map zan)), (8, .sl (((rd p1.zTh i107).Ins).map zan)), (9, zi (zw (i151 + 1)))] [.cells (zaG p0) 0 30, .cells (zaG p1) 0 30] ?_
          obtain rfl := zo hm
          exact ⟨(zw (i151 + 1)), (), ⟨[], []⟩, rfl, RO⟩
        ·replace hm := zak hb159 hm
         obtain rfl := zo hm
         obtain rfl := hx _ rfl
         exact W.wk ⟨[], []⟩ [(2, .ptr 0 0 0), (3, .ptr 1 0 0), (6, zi i107)] [.cells (zaG p0) 0 30, .cells (zaG p1) 0 30] (W.exit (show _ /\ _ from ⟨rfl, (), rfl, rfl⟩))
       ·intro e0 s0 h0 hq
        rcases r158 with er158 | qr158
        ·obtain ⟨rfl, _, rfl, rfl⟩ := hq
         replace hm := zcC hm
         show WK _ _ _ _ _ [(2, .ptr 0 0 0), (3, .ptr 1 0 0), (6, zi i107)] [.cells (zaG p0) 0 30, .cells (zaG p1) 0 30]
         refine W.rg [] [(2, .ptr 0 0 0), (3, .ptr 1 0 0), (6, zi (zw (i107 + 1)))] [.cells (zaG p0) 0 30, .cells (zaG p1) 0 30] ?_
         obtain rfl := zo hm
         exact ⟨(zw (i107 + 1)), (), ⟨[], []⟩, rfl, RO⟩
        ·obtain ⟨rfl, rfl, rfl⟩ := hq
         replace hm := zcB hm
         obtain rfl := zo hm
         obtain rfl := hx _ rfl
         first | exact (show _ /\ _ from ⟨rfl, rfl, rfl⟩) | exact ⟨trivial, rfl, rfl⟩
     ·replace hm := zak hb134 hm
      obtain rfl := zo hm
      obtain rfl := hx _ rfl
      exact W.wk ⟨[], []⟩ [] [] (W.exit (show _ /\ _ from ⟨rfl, (), rfl, rfl⟩))
    ·intro e0 s0 h0 hq
     rcases r133 with er133 | qr133
     ·obtain ⟨rfl, _, rfl, rfl⟩ := hq
      replace hm := zcC hm
      show WK _ _ _ _ _ [] []
      refine W.sqh [] [(4, .bool true)] ?_
      obtain rfl := zo hm
      exact W.ret (zaI.retW [] RO)
     ·obtain ⟨rfl, rfl, rfl⟩ := hq
      replace hm := zcB hm
      obtain rfl := zo hm
      exact zaI.retW [] RO
   ·obtain ⟨rfl, rfl, rfl⟩ := hq
    replace hm := zcB hm
    obtain rfl := zo hm
    exact zaI.retW [] RO
end Go.Proofs.YtocjejladeeckaaGreatDoor
