import Derived.Test.YtocjejladeeckaaGreatDoorVFacts
import Derived.Test.YtocjejladeeckaaGreatDoorPalI
import Derived.Test.YtocjejladeeckaaGreatDoorWB
import Derived.Test.YtocjejladeeckaaGreatDoorWC
import Derived.Test.YtocjejladeeckaaGreatDoorWX
set_option linter.all false
set_option maxRecDepth 100000
set_option maxHeartbeats 4000000
namespace Go.Proofs.YtocjejladeeckaaGreatDoor
open Go.Vs
variable [TabX]
theorem zaJ {p0 : zae} {p1 : Int} {p2 : zad} {r : Bool × zae} (hm : zaQ p0 p1 p2 = some r) : HF Tryz.prog 56 [.ptr 0 0 0, zi p1, zqT p2] [.cells (zah p0) 0 82] (.bool r.1) [.cells (zah r.2) 0 82] := by
 rw [zaQ] at hm
 refine HF.of Tryz.func56 rfl Tryz.ntmps56 (Nat.le_of_ble_eq_true rfl) rfl ?_
 have e0 : argS 0 [.ptr 0 0 0, zi p1, zqT p2] = [(0, .ptr 0 0 0), (1, zi p1), (2, zqT p2)] := rfl
 rw [e0]
 refine W.sq [] [(0, .ptr 0 0 0), (1, zi p1), (5, .ptr 1 0 0)] [.cells (zah p0) 0 82, .cells (zab p2) 0 41] ?_
 refine W.sq [] [] [zkc p0.l p0.at_ (zbS p0.p.zSy) (zbT p0.p.zTh) (zbB p0.b) p1 p2.Line p2.Col] ?_
 refine W.sqh [] [(6, .bool false)] ?_
 obtain rfl := zo hm
 exact W.ret (zaR.retW ⟨[], []⟩ RO)
theorem zdO {p0 : zae} {r : Bool × zae} (hm : zbs p0 = some r) : HF Tryz.prog 57 [.ptr 0 0 0] [.cells (zah p0) 0 82] (.bool r.1) [.cells (zah r.2) 0 82] := by
 rw [zbs] at hm
 refine HF.of Tryz.func57 rfl Tryz.ntmps57 (Nat.le_of_ble_eq_true rfl) rfl ?_
 have e0 : argS 0 [.ptr 0 0 0] = [(0, .ptr 0 0 0)] := rfl
 rw [e0]
 refine W.sq [] [(0, .ptr 0 0 0)] [.cells (zah p0) 0 82] ?_
 refine W.seq ?_
 replace ⟨h1, hm⟩ := zav hm
 refine W.sqJ [] [] [] 0 [] [(0, .ptr 0 0 0), (14, .bool ((rd p0.l p0.at_).Kind != 4))] [.cells (zah p0) 0 82] zaC ?_
 refine W.cnd ((rd p0.l p0.at_).Kind != 4) (fun hb2 => ?_) fun hb2 => ?_
 ·replace hm := zal hb2 hm
  replace ⟨h3, hm⟩ := zav hm
  replace ⟨v4, h5, hm⟩ := zam hm
  refine W.sqJ [11] [] [] 0 [] [(2, .bool v4.1)] [.cells (zah v4.2) 0 82] zaC ?_ (hrun := ?_)
  rotate_left
  ·try simp -implicitDefEqProofs -dsimp only [go_sem, h1, hb2, h3]
   with_reducible refine exP.mk (.gheap [] ⟨[], [0], [.ptr 0 0 0, zi 4, zqT (rd p0.l p0.at_)], [.cells (zah p0) 0 82], .bool v4.1, [.cells (zah v4.2) 0 82]⟩ []) (callQ.ofG (by simp -implicitDefEqProofs -dsimp only [go_sem, h1, hb2, h3]) (zaJ h5)) ?_
   try simp -implicitDefEqProofs -dsimp only [go_sem, h1, hb2, h3]
  obtain rfl := zo hm
  exact W.ret (zaR.retW ⟨[], []⟩ RO)
 ·replace hm := zak hb2 hm
  refine W.skip ?_
  refine W.sq [] [] [zka p0 (zw (p0.at_ + 1)) (zbB p0.b)] ?_
  refine W.sqh [] [(2, .bool true)] ?_
  obtain rfl := zo hm
  exact W.ret (zaR.retW ⟨[], []⟩ RO)
theorem zgj {p0 : zae} {p1 : ByteArray} {r : Int × Bool × zae} (hm : zdt p0 p1 = some r) : HF Tryz.prog 81 [.ptr 0 0 0, .str p1] [.cells (zah p0) 0 82] (.tuple [zi r.1, .bool r.2.1]) [.cells (zah r.2.2) 0 82] := by
 rw [zdt] at hm
 refine HF.of Tryz.func81 rfl Tryz.ntmps81 (Nat.le_of_ble_eq_true rfl) rfl ?_
 have e0 : argS 0 [.ptr 0 0 0, .str p1] = [(0, .ptr 0 0 0), (1, .str p1)] := rfl
 rw [e0]
 refine W.sq [] [(0, .ptr 0 0 0), (1, .str p1)] [.cells (zah p0) 0 82] ?_
 refine W.seq ?_
 refine W.wk ⟨[], [.foc 0 0 2]⟩ [(0, .ptr 0 0 0), (1, .str p1)] [zkb p0 p0.at_ (zM 1 1 3 p0.p.zSy) (zbT p0.p.zTh) (zbB p0.b), .rows (p0.p.zSy.map zas) 3 1 54] ?_
 refine W.sqh [] [(1, .str p1), (12, zM 1 1 3 p0.p.zSy), (13, zi (p0.p.zSy.length : Int)), (14, zi 0)] ?_
 refine W.block ?_
 replace ⟨r13, hlr13, hm⟩ := zam hm
 refine W.mono (Q := fun e0 s0 h0 => match r13 with | .inl e => e0 = .exit 0 /\ ∃ w : Unit, s0 = [] /\ h0 = [.cells (zah p0) 0 82] | .inr q => e0 = .ret /\ s0 = [(4, zi q.1), (5, .bool q.2.1)] /\ h0 = [.cells (zah q.2.2) 0 82]) (W.loopM (step := zdA p0 p1) (a0 := 0) (fun (a : Int) (v : Unit) => ([(1, .str p1), (12, zM 1 1 3 p0.p.zSy), (13, zi (p0.p.zSy.length : Int)), (14, zi a)], [zkb p0 p0.at_ (zM 1 1 3 p0.p.zSy) (zbT p0.p.zTh) (zbB p0.b), .rows (p0.p.zSy.map zas) 3 1 54])) () hlr13 ⟨[], []⟩ RO ?_) ?_
 ·rintro i9 _ x hm hx
  rw [zdA] at hm
  show WK _ _ _ _ _ [(1, .str p1), (12, zM 1 1 3 p0.p.zSy), (13, zi (p0.p.zSy.length : Int)), (14, zi i9)] [zkb p0 p0.at_ (zM 1 1 3 p0.p.zSy) (zbT p0.p.zTh) (zbB p0.b), .rows (p0.p.zSy.map zas) 3 1 54]
  refine W.sqh [] [(1, .str p1), (12, zM 1 1 3 p0.p.zSy), (13, zi (p0.p.zSy.length : Int)), (14, zi i9), (15, .bool (decide (i9 < (p0.p.zSy.length : Int))))] ?_
  refine W.seq ?_
  refine W.cnd (decide (i9 < (p0.p.zSy.length : Int))) (fun hb14 => ?_) fun hb14 => ?_
  ·replace hm := zal hb14 hm
   refine W.skip ?_
   refine W.seq ?_
   refine W.block ?_
   replace ⟨h15, hm⟩ := zav hm
   refine W.sq [] [(1, .str p1), (6, zi i9), (7, .ptr 2 0 0), (12, zM 1 1 3 p0.p.zSy), (13, zi (p0.p.zSy.length : Int)), (14, zi i9)] [zkb p0 p0.at_ (zM 1 1 3 p0.p.zSy) (zbT p0.p.zTh) (zbB p0.b), .rows (p0.p.zSy.map zas) 3 1 54, .cells (zas (rd p0.p.zSy i9)) 0 54] ?_
   refine W.sq [] [(1, .str p1), (6, zi i9), (12, zM 1 1 3 p0.p.zSy), (13, zi (p0.p.zSy.length : Int)), (14, zi i9), (22, .bool (decide ((rd p0.p.zSy i9).Name = p1)))] [zkb p0 p0.at_ (zM 1 1 3 p0.p.zSy) (zbT p0.p.zTh) (zbB p0.b), .rows (p0.p.zSy.map zas) 3 1 54] ?_
   refine W.cnd (decide ((rd p0.p.zSy i9).Name = p1)) (fun hb16 => ?_) fun hb16 => ?_
   ·replace hm := zal hb16 hm
    refine W.sqG [] [.fol 0 0 2] [(4, zi i9), (5, .bool true)] [.cells (zah p0) 0 82] ?_
    obtain rfl := zo hm
    obtain rfl := hx _ rfl
    exact W.wk ⟨[], []⟩ [(4, zi i9), (5, .bool true)] [.cells (zah p0) 0 82] (W.ret (show _ /\ _ from ⟨rfl, rfl, rfl⟩))
   ·replace hm := zak hb16 hm
    refine W.skip ?_
    refine W.rg [] [(1, .str p1), (12, zM 1 1 3 p0.p.zSy), (13, zi (p0.p.zSy.length : Int)), (14, zi (zw (i9 + 1)))] [zkb p0 p0.at_ (zM 1 1 3 p0.p.zSy) (zbT p0.p.zTh) (zbB p0.b), .rows (p0.p.zSy.map zas) 3 1 54] ?_
    obtain rfl := zo hm
    exact ⟨(zw (i9 + 1)), (), ⟨[], []⟩, rfl, RO⟩
  ·replace hm := zak hb14 hm
   obtain rfl := zo hm
   obtain rfl := hx _ rfl
   exact W.wk ⟨[], [.fol 0 0 2]⟩ [] [.cells (zah p0) 0 82] (W.exit (show _ /\ _ from ⟨rfl, (), rfl, rfl⟩))
 ·intro e0 s0 h0 hq
  rcases r13 with er13 | qr13
  ·obtain ⟨rfl, _, rfl, rfl⟩ := hq
   replace hm := zcC hm
   show WK _ _ _ _ _ [] [.cells (zah p0) 0 82]
   refine W.sqh [] [(4, zi 0), (5, .bool false)] ?_
   obtain rfl := zo hm
   exact W.ret (zaR.retW ⟨[], []⟩ RO)
  ·obtain ⟨rfl, rfl, rfl⟩ := hq
   replace hm := zcB hm
   obtain rfl := zo hm
   exact zaR.retW ⟨[], []⟩ RO
theorem zfP {p0 : zae} {p1 : zad} {r : Bool × zae} (hm : zca p0 p1 = some r) : HF Tryz.prog 55 [.ptr 0 0 0, zqT p1] [.cells (zah p0) 0 82] (.bool r.1) [.cells (zah r.2) 0 82] := by
 rw [zca] at hm
 refine HF.of Tryz.func55 rfl Tryz.ntmps55 (Nat.le_of_ble_eq_true rfl) rfl ?_
 have e0 : argS 0 [.ptr 0 0 0, zqT p1] = [(0, .ptr 0 0 0), (1, zqT p1)] := rfl
 rw [e0]
 refine W.sq [] [(0, .ptr 0 0 0), (3, .ptr 1 0 0)] [.cells (zah p0) 0 82, .cells (zab p1) 0 41] ?_
 refine W.seq ?_
 refine W.wk ⟨[], [.foc 0 0 4]⟩ [(0, .ptr 0 0 0), (3, .ptr 1 0 0)] [zka p0 p0.at_ (zM 2 1 8 p0.b), .cells (zab p1) 0 41, .rows (p0.b.map zac) 8 1 109] ?_
 refine W.sqG [] [.fol 0 0 4] [(0, .ptr 0 0 0), (3, .ptr 1 0 0), (18, .bool (decide ((p0.b.length : Int) > 0)))] [.cells (zah p0) 0 82, .cells (zab p1) 0 41] ?_
 refine W.cnd (decide ((p0.b.length : Int) > 0)) (fun hb1 => ?_) fun hb1 => ?_
 ·replace hm := zal hb1 hm
  replace ⟨v2, h3, hm⟩ := zam hm
  refine W.sq [] [(4, .bool v2.1)] [.cells (zah v2.2) 0 82] ?_ (hrun := ?_)
  rotate_left
  ·try simp -implicitDefEqProofs -dsimp only [go_sem, hb1]
   with_reducible refine exP.mk (.gheap [] ⟨[], [0], [.ptr 0 0 0, zi 4, zqT p1], [.cells (zah p0) 0 82], .bool v2.1, [.cells (zah v2.2) 0 82]⟩ []) (callQ.ofG (by simp -implicitDefEqProofs -dsimp only [go_sem, hb1]) (zaJ h3)) ?_
   try simp -implicitDefEqProofs -dsimp only [go_sem, hb1]
  obtain rfl := zo hm
  exact W.ret (zaR.retW ⟨[], []⟩ RO)
 ·replace hm := zak hb1 hm
  refine W.skip ?_
  refine W.seq ?_
  refine W.wk ⟨[], [.foc 0 0 2]⟩ [(0, .ptr 0 0 0), (3, .ptr 1 0 0), (18, .bool (decide ((p0.b.length : Int) > 0)))] [zkb p0 p0.at_ (zM 2 1 3 p0.p.zSy) (zbT p0.p.zTh) (zbB p0.b), .cells (zab p1) 0 41, .rows (p0.p.zSy.map zas) 3 1 54] ?_
  refine W.sqG [] [.fol 0 0 2] [(0, .ptr 0 0 0), (3, .ptr 1 0 0), (28, .bool (decide ((p0.p.zSy.length : Int) ≥ 64)))] [.cells (zah p0) 0 82, .cells (zab p1) 0 41] ?_
  refine W.cnd (decide ((p0.p.zSy.length : Int) ≥ 64)) (fun hb4 => ?_) fun hb4 => ?_
  ·replace hm := zal hb4 hm
   replace ⟨v5, h6, hm⟩ := zam hm
   refine W.sq [] [(4, .bool v5.1)] [.cells (zah v5.2) 0 82] ?_ (hrun := ?_)
   rotate_left
   ·try simp -implicitDefEqProofs -dsimp only [go_sem, hb1, hb4]
    with_reducible refine exP.mk (.gheap [] ⟨[], [0], [.ptr 0 0 0, zi 10, zqT p1], [.cells (zah p0) 0 82], .bool v5.1, [.cells (zah v5.2) 0 82]⟩ []) (callQ.ofG (by simp -implicitDefEqProofs -dsimp only [go_sem, hb1, hb4]) (zaJ h6)) ?_
    try simp -implicitDefEqProofs -dsimp only [go_sem, hb1, hb4]
   obtain rfl := zo hm
   exact W.ret (zaR.retW ⟨[], []⟩ RO)
  ·replace hm := zak hb4 hm
   refine W.skip ?_
   replace ⟨h7, hm⟩ := zav hm
   refine W.sqJ [11, 12] [11, 12] [0, 1, 2, 3, 4, 5, 6, 7, 8, 9, 10] 2 [] [(0, .ptr 0 0 0), (5, .ptr 2 0 0)] [.cells (zah p0) 0 82, .dead, .cells (zab (rd p0.l (zw (p0.at_ + 1)))) 0 41] zaC ?_
   refine W.seq ?_
   refine W.sqh [] [(0, .ptr 0 0 0), (5, .ptr 2 0 0), (45, .bool ((rd p0.l (zw (p0.at_ + 1))).Kind != 1))] ?_
   refine W.cnd ((rd p0.l (zw (p0.at_ + 1))).Kind != 1) (fun hb8 => ?_) fun hb8 => ?_
   ·replace hm := zal hb8 hm
    replace ⟨v9, h10, hm⟩ := zam hm
    refine W.sq [] [(4, .bool v9.1)] [.cells (zah v9.2) 0 82] ?_ (hrun := ?_)
    rotate_left
    ·try simp -implicitDefEqProofs -dsimp only [go_sem, hb1, hb4, h7, hb8]
     with_reducible refine exP.mk (.gheap [] ⟨[], [0], [.ptr 0 0 0, zi 4, zqT (rd p0.l (zw (p0.at_ + 1)))], [.cells (zah p0) 0 82], .bool v9.1, [.cells (zah v9.2) 0 82]⟩ []) (callQ.ofG (by simp -implicitDefEqProofs -dsimp only [go_sem, hb1, hb4, h7, hb8]) (zaJ h10)) ?_
     try simp -implicitDefEqProofs -dsimp only [go_sem, hb1, hb4, h7, hb8]
    obtain rfl := zo hm
    exact W.ret (zaR.retW ⟨[], []⟩ RO)
   ·replace hm := zak hb8 hm
    refine W.skip ?_
    refine W.seq ?_
    replace ⟨v11, h12, hm⟩ := zam hm
    have kh12 := zdv h12
    try simp only [hb1, hb4, hb8] at kh12
    refine W.sq [] [(0, .ptr 0 0 0), (5, .ptr 2 0 0), (51, .bool v11)] [.cells (zah p0) 0 82, .dead, .cells (zab (rd p0.l (zw (p0.at_ + 1)))) 0 41] ?_
    refine W.cnd v11 (fun hb13 => ?_) fun hb13 => ?_
    ·replace hm := zal hb13 hm
     replace ⟨v14, h15, hm⟩ := zam hm
     refine W.sq [] [(4, .bool v14.1)] [.cells (zah v14.2) 0 82] ?_ (hrun := ?_)
     rotate_left
     ·try simp -implicitDefEqProofs -dsimp only [go_sem, hb1, hb4, h7, hb8, hb13]
      with_reducible refine exP.mk (.gheap [] ⟨[], [0], [.ptr 0 0 0, zi 3, zqT (rd p0.l (zw (p0.at_ + 1)))], [.cells (zah p0) 0 82], .bool v14.1, [.cells (zah v14.2) 0 82]⟩ []) (callQ.ofG (by simp -implicitDefEqProofs -dsimp only [go_sem, hb1, hb4, h7, hb8, hb13]) (zaJ h15)) ?_
      try simp -implicitDefEqProofs -dsimp only [go_sem, hb1, hb4, h7, hb8, hb13]
     obtain rfl := zo hm
     exact W.ret (zaR.retW ⟨[], []⟩ RO)
    ·replace hm := zak hb13 hm
     refine W.skip ?_
     refine W.seq ?_
     replace ⟨v16, h17, hm⟩ := zam hm
     refine W.sq [] [(0, .ptr 0 0 0), (5, .ptr 2 0 0), (7, .bool v16.2.1)] [.cells (zah v16.2.2) 0 82, .dead, .cells (zab (rd p0.l (zw (p0.at_ + 1)))) 0 41] ?_ (hrun := ?_)
     rotate_left
     ·try simp -implicitDefEqProofs -dsimp only [go_sem, hb1, hb4, h7, hb8, hb13]
      with_reducible refine exP.mk (.gheap [] ⟨[], [0], [.ptr 0 0 0, .str ((rd p0.l (zw (p0.at_ + 1))).Text)], [.cells (zah p0) 0 82], .tuple [zi v16.1, .bool v16.2.1], [.cells (zah v16.2.2) 0 82]⟩ []) (callQ.ofG (by simp -implicitDefEqProofs -dsimp only [go_sem, hb1, hb4, h7, hb8, hb13]) (zgj h17)) ?_
      try simp -implicitDefEqProofs -dsimp only [go_sem, hb1, hb4, h7, hb8, hb13]
     refine W.sqh [] [(0, .ptr 0 0 0), (5, .ptr 2 0 0), (62, .bool v16.2.1)] ?_
     refine W.cnd v16.2.1 (fun hb18 => ?_) fun hb18 => ?_
     ·replace hm := zal hb18 hm
      replace ⟨v19, h20, hm⟩ := zam hm
      refine W.sq [] [(4, .bool v19.1)] [.cells (zah v19.2) 0 82] ?_ (hrun := ?_)
      rotate_left
      ·try simp -implicitDefEqProofs -dsimp only [go_sem, hb1, hb4, h7, hb8, hb13, hb18]
       with_reducible refine exP.mk (.gheap [] ⟨[], [0], [.ptr 0 0 0, zi 6, zqT (rd p0.l (zw (p0.at_ + 1)))], [.cells (zah v16.2.2) 0 82], .bool v19.1, [.cells (zah v19.2) 0 82]⟩ []) (callQ.ofG (by simp -implicitDefEqProofs -dsimp only [go_sem, hb1, hb4, h7, hb8, hb13, hb18]) (zaJ h20)) ?_
       try simp -implicitDefEqProofs -dsimp only [go_sem, hb1, hb4, h7, hb8, hb13, hb18]
      obtain rfl := zo hm
      exact W.ret (zaR.retW ⟨[], []⟩ RO)
     ·replace hm := zak hb18 hm
      refine W.skip ?_
      refine W.sq [] [(0, .ptr 0 0 0), (5, .ptr 2 0 0), (8, .ptr 3 0 0)] [.cells (zah v16.2.2) 0 82, .dead, .cells (zab (rd p0.l (zw (p0.at_ + 1)))) 0 41, .cells [.str ((rd p0.l (zw (p0.at_ + 1))).Text), zi 0, .nils] 0 54] ?_
      replace ⟨h21, hm⟩ := zav hm
      refine W.sqJ [11] [] [] 0 [] [(0, .ptr 0 0 0), (5, .ptr 2 0 0), (8, .ptr 3 0 0)] [.cells (zah v16.2.2) 0 82, .dead, .cells (zab (rd v16.2.2.l (zw (v16.2.2.at_ + 2)))) 0 41, .cells [.str ((rd p0.l (zw (p0.at_ + 1))).Text), zi 0, .nils] 0 54] zaC ?_
      refine W.seq ?_
      refine W.sqh [] [(0, .ptr 0 0 0), (5, .ptr 2 0 0), (8, .ptr 3 0 0), (82, .bool ((rd v16.2.2.l (zw (v16.2.2.at_ + 2))).Kind != 2))] ?_
      refine W.cnd ((rd v16.2.2.l (zw (v16.2.2.at_ + 2))).Kind != 2) (fun hb22 => ?_) fun hb22 => ?_
      ·replace hm := zal hb22 hm
       replace ⟨v23, h24, hm⟩ := zam hm
       refine W.sq [] [(4, .bool v23.1)] [.cells (zah v23.2) 0 82] ?_ (hrun := ?_)
       rotate_left
       ·try simp -implicitDefEqProofs -dsimp only [go_sem, hb1, hb4, h7, hb8, hb13, hb18, h21, hb22]
        with_reducible refine exP.mk (.gheap [] ⟨[], [0], [.ptr 0 0 0, zi 4, zqT (rd v16.2.2.l (zw (v16.2.2.at_ + 2)))], [.cells (zah v16.2.2) 0 82], .bool v23.1, [.cells (zah v23.2) 0 82]⟩ []) (callQ.ofG (by simp -implicitDefEqProofs -dsimp only [go_sem, hb1, hb4, h7, hb8, hb13, hb18, h21, hb22]) (zaJ h24)) ?_
        try simp -implicitDefEqProofs -dsimp only [go_sem, hb1, hb4, h7, hb8, hb13, hb18, h21, hb22]
       obtain rfl := zo hm
       exact W.ret (zaR.retW ⟨[], []⟩ RO)
      ·replace hm := zak hb22 hm
       refine W.skip ?_
       replace ⟨v25, h26, hm⟩ := zam hm
       have kh26 := zdP h26
       try simp only [hb1, hb4, hb8, hb13, hb18, hb22] at kh26
       refine W.sq [] [(0, .ptr 0 0 0), (5, .ptr 2 0 0), (8, .ptr 3 0 0), (9, zi v25.1)] [.cells (zah v16.2.2) 0 82, .dead, .cells (zab (rd v16.2.2.l (zw (v16.2.2.at_ + 2)))) 0 41, .cells [.str ((rd p0.l (zw (p0.at_ + 1))).Text), zi 0, .nils] 0 54] ?_
       refine W.seq ?_
       refine W.sqh [] [(0, .ptr 0 0 0), (5, .ptr 2 0 0), (8, .ptr 3 0 0), (9, zi v25.1), (97, .bool (decide (v25.1 < 1) || decide (v25.1 > 64)))] ?_
       refine W.cnd (decide (v25.1 < 1) || decide (v25.1 > 64)) (fun hb27 => ?_) fun hb27 => ?_
       ·replace hm := zal hb27 hm
        replace ⟨v28, h29, hm⟩ := zam hm
        refine W.sq [] [(4, .bool v28.1)] [.cells (zah v28.2) 0 82] ?_ (hrun := ?_)
        rotate_left
        ·try simp -implicitDefEqProofs -dsimp only [go_sem, hb1, hb4, h7, hb8, hb13, hb18, h21, hb22, hb27]
         with_reducible refine exP.mk (.gheap [] ⟨[], [0], [.ptr 0 0 0, zi 5, zqT (rd v16.2.2.l (zw (v16.2.2.at_ + 2)))], [.cells (zah v16.2.2) 0 82], .bool v28.1, [.cells (zah v28.2) 0 82]⟩ []) (callQ.ofG (by simp -implicitDefEqProofs -dsimp only [go_sem, hb1, hb4, h7, hb8, hb13, hb18, h21, hb22, hb27]) (zaJ h29)) ?_
         try simp -implicitDefEqProofs -dsimp only [go_sem, hb1, hb4, h7, hb8, hb13, hb18, h21, hb22, hb27]
        obtain rfl := zo hm
        exact W.ret (zaR.retW ⟨[], []⟩ RO)
       ·replace hm := zak hb27 hm
        refine W.skip ?_
        refine W.sq [] [(0, .ptr 0 0 0), (8, .ptr 3 0 0)] [.cells (zah v16.2.2) 0 82, .dead, .dead, .cells [.str ((rd p0.l (zw (p0.at_ + 1))).Text), zi v25.1, .nils] 0 54] ?_
        refine W.sq [] [(0, .ptr 0 0 0), (8, .ptr 3 0 0)] [zka v16.2.2 (zw (v16.2.2.at_ + 3)) (zbB v16.2.2.b), .dead, .dead, .cells [.str ((rd p0.l (zw (p0.at_ + 1))).Text), zi v25.1, .nils] 0 54] ?_
        refine W.seq ?_
        refine W.block ?_
        replace ⟨r77, hlr77, hm⟩ := zam hm
        refine W.mono (Q := fun e0 s0 h0 => match r77 with | .inl e => e0 = .exit 0 /\ ∃ w : Nat, s0 = [(0, .ptr 0 0 0), (8, .ptr 3 0 0)] /\ h0 = [zka v16.2.2 e.1 (zbB v16.2.2.b), .dead, .dead, .cells [.str ((rd p0.l (zw (p0.at_ + 1))).Text), zi v25.1, zM 4 w 1 e.2] 0 54, .rows (e.2.map (eInt .i64)) 1 w 2] | .inr q => e0 = .ret /\ s0 = [(4, .bool q.1)] /\ h0 = [.cells (zah q.2) 0 82]) (W.loopM (step := zbk v16 v25) (a0 := ((zw (v16.2.2.at_ + 3)), [])) (fun (a : Int × (List Int)) (v : Nat) => ([(0, .ptr 0 0 0), (8, .ptr 3 0 0)], [zka v16.2.2 a.1 (zbB v16.2.2.b), .dead, .dead, .cells [.str ((rd p0.l (zw (p0.at_ + 1))).Text), zi v25.1, zM 4 v 1 a.2] 0 54, .rows (a.2.map (eInt .i64)) 1 v 2])) 0 hlr77 ⟨[], []⟩ RO ?_) ?_
        ·rintro ⟨i59, l60⟩ w61 x hm hx
         rw [zbk] at hm
         show WK _ _ _ _ _ [(0, .ptr 0 0 0), (8, .ptr 3 0 0)] [zka v16.2.2 i59 (zbB v16.2.2.b), .dead, .dead, .cells [.str ((rd p0.l (zw (p0.at_ + 1))).Text), zi v25.1, zM 4 w61 1 l60] 0 54, .rows (l60.map (eInt .i64)) 1 w61 2]
         refine W.seq ?_
         replace ⟨h78, hm⟩ := zav hm
         refine W.sqJ [] [] [] 0 [] [(0, .ptr 0 0 0), (8, .ptr 3 0 0), (121, .bool ((rd v16.2.2.l i59).Kind == 2))] [zka v16.2.2 i59 (zbB v16.2.2.b), .dead, .dead, .cells [.str ((rd p0.l (zw (p0.at_ + 1))).Text), zi v25.1, zM 4 w61 1 l60] 0 54, .rows (l60.map (eInt .i64)) 1 w61 2] zaC ?_
         refine W.cnd ((rd v16.2.2.l i59).Kind == 2) (fun hb79 => ?_) fun hb79 => ?_
         ·replace hm := zal hb79 hm
          refine W.skip ?_
          refine W.block ?_
          refine W.seq ?_
          refine W.sq [] [(0, .ptr 0 0 0), (8, .ptr 3 0 0), (127, .bool ((l60.length : Int) == v25.1))] [zka v16.2.2 i59 (zbB v16.2.2.b), .dead, .dead, .cells [.str ((rd p0.l (zw (p0.at_ + 1))).Text), zi v25.1, zM 4 w61 1 l60] 0 54, .rows (l60.map (eInt .i64)) 1 w61 2] ?_
          refine W.cnd ((l60.length : Int) == v25.1) (fun hb80 => ?_) fun hb80 => ?_
          ·replace hm := zal hb80 hm
           replace ⟨h81, hm⟩ := zav hm
           replace ⟨v82, h83, hm⟩ := zam hm
           refine W.sqJ [11] [] [] 0 [] [(4, .bool v82.1)] [.cells (zah v82.2) 0 82] zaC ?_ (hrun := ?_)
           rotate_left
           ·try simp -implicitDefEqProofs -dsimp only [go_sem, hb1, hb4, h7, hb8, hb13, hb18, h21, hb22, hb27, h78, hb79, hb80, h81]
            with_reducible refine exP.mk (.gheap [] ⟨[], [0], [.ptr 0 0 0, zi 5, zqT (rd v16.2.2.l i59)], [.cells (zah (zae.mk v16.2.2.l i59 v16.2.2.p v16.2.2.b v16.2.2.f)) 0 82], .bool v82.1, [.cells (zah v82.2) 0 82]⟩ []) (callQ.ofG (by simp -implicitDefEqProofs -dsimp only [go_sem, hb1, hb4, h7, hb8, hb13, hb18, h21, hb22, hb27, h78, hb79, hb80, h81]) (zaJ h83)) ?_
            try simp -implicitDefEqProofs -dsimp only [go_sem, hb1, hb4, h7, hb8, hb13, hb18, h21, hb22, hb27, h78, hb79, hb80, h81]
           obtain rfl := zo hm
           obtain rfl := hx _ rfl
           exact W.wk ⟨[], []⟩ [(4, .bool v82.1)] [.cells (zah v82.2) 0 82] (W.ret (show _ /\ _ from ⟨rfl, rfl, rfl⟩))
          ·replace hm := zak hb80 hm
           refine W.skip ?_
           replace ⟨h84, hm⟩ := zav hm
           replace ⟨v85, h86, hm⟩ := zam hm
           have kh86 := zdP h86
           try simp only [hb1, hb4, hb8, hb13, hb18, hb22, hb27, hb79, hb80] at kh86
           refine W.sqJ [] [] [] 0 [] [(0, .ptr 0 0 0), (8, .ptr 3 0 0), (11, zi v85.1)] [zka v16.2.2 i59 (zbB v16.2.2.b), .dead, .dead, .cells [.str ((rd p0.l (zw (p0.at_ + 1))).Text), zi v25.1, zM 4 w61 1 l60] 0 54, .rows (l60.map (eInt .i64)) 1 w61 2] zaC ?_
           replace ⟨h87, hm⟩ := zav hm
           replace ⟨l88, h89, hm⟩ := zaN hm
           refine W.sq [] [(0, .ptr 0 0 0), (8, .ptr 3 0 0)] [zka v16.2.2 i59 (zbB v16.2.2.b), .dead, .dead, .cells [.str ((rd p0.l (zw (p0.at_ + 1))).Text), zi v25.1, .msl 4 (w61 + 1) 0 1 l88.length l88.length] 0 54, .rows (l88.map (eInt .i64)) 1 (w61 + 1) 2] ?_
           clear h89
           refine W.rg [] [(0, .ptr 0 0 0), (8, .ptr 3 0 0)] [zka v16.2.2 (zw (i59 + 1)) (zbB v16.2.2.b), .dead, .dead, .cells [.str ((rd p0.l (zw (p0.at_ + 1))).Text), zi v25.1, .msl 4 (w61 + 1) 0 1 l88.length l88.length] 0 54, .rows (l88.map (eInt .i64)) 1 (w61 + 1) 2] ?_
           obtain rfl := zo hm
           exact ⟨((zw (i59 + 1)), l88), (w61 + 1), ⟨[], []⟩, rfl, RO⟩
         ·replace hm := zak hb79 hm
          obtain rfl := zo hm
          obtain rfl := hx _ rfl
          exact W.wk ⟨[], []⟩ [(0, .ptr 0 0 0), (8, .ptr 3 0 0)] [zka v16.2.2 i59 (zbB v16.2.2.b), .dead, .dead, .cells [.str ((rd p0.l (zw (p0.at_ + 1))).Text), zi v25.1, zM 4 w61 1 l60] 0 54, .rows (l60.map (eInt .i64)) 1 w61 2] (W.exit (show _ /\ _ from ⟨rfl, w61, rfl, rfl⟩))
        ·intro e0 s0 h0 hq
         rcases r77 with er77 | qr77
         ·obtain ⟨rfl, w76, rfl, rfl⟩ := hq
          replace hm := zcC hm
          show WK _ _ _ _ _ [(0, .ptr 0 0 0), (8, .ptr 3 0 0)] [zka v16.2.2 er77.1 (zbB v16.2.2.b), .dead, .dead, .cells [.str ((rd p0.l (zw (p0.at_ + 1))).Text), zi v25.1, zM 4 w76 1 er77.2] 0 54, .rows (er77.2.map (eInt .i64)) 1 w76 2]
          replace ⟨h90, hm⟩ := zav hm
          replace ⟨l91, h92, hm⟩ := zaN hm
          refine W.wk ⟨[4], [.foc 0 0 2]⟩ [(0, .ptr 0 0 0), (8, .ptr 3 0 0)] [zkb v16.2.2 er77.1 (zM 5 1 3 v16.2.2.p.zSy) (zbT v16.2.2.p.zTh) (zbB v16.2.2.b), .dead, .dead, .cells [.str ((rd p0.l (zw (p0.at_ + 1))).Text), zi v25.1, .sl (er77.2.map (eInt .i64))] 0 54, .dead, .rows (v16.2.2.p.zSy.map zas) 3 1 54] ?_
          refine W.sqLG [.light, .light, .light, .light, .light, .light, .light, .lit, .app, .light, .light, .light, .store] [([], []), ([], []), ([], []), ([], []), ([], []), ([0], []), ([3], []), ([], []), ([5], [5]), ([], []), ([], []), ([], []), ([0], [0])] [] [.fol 0 0 2] [(0, .ptr 0 0 0)] [zkb v16.2.2 er77.1 (zbS l91) (zbT v16.2.2.p.zTh) (zbB v16.2.2.b)] zaC ?_
          clear h92
          replace ⟨v93, h94, hm⟩ := zam hm
          refine W.sq [] [(4, .bool v93.1)] [.cells (zah v93.2) 0 82] ?_ (hrun := ?_)
          rotate_left
          ·try simp -implicitDefEqProofs -dsimp only [go_sem, hb1, hb4, h7, hb8, hb13, hb18, h21, hb22, hb27, h90]
           with_reducible refine exP.mk (.gheap [] ⟨[], [0], [.ptr 0 0 0], [.cells (zah (zae.mk v16.2.2.l er77.1 (zat.mk l91 v16.2.2.p.zTh) v16.2.2.b v16.2.2.f)) 0 82], .bool v93.1, [.cells (zah v93.2) 0 82]⟩ []) (callQ.ofG (by simp -implicitDefEqProofs -dsimp only [go_sem, hb1, hb4, h7, hb8, hb13, hb18, h21, hb22, hb27, h90]) (zdO h94)) ?_
           try simp -implicitDefEqProofs -dsimp only [go_sem, hb1, hb4, h7, hb8, hb13, hb18, h21, hb22, hb27, h90]
          obtain rfl := zo hm
          exact W.ret (zaR.retW ⟨[], []⟩ RO)
         ·obtain ⟨rfl, rfl, rfl⟩ := hq
          replace hm := zcB hm
          obtain rfl := zo hm
          exact zaR.retW ⟨[], []⟩ RO
theorem zaA {p0 : zae} {p1 : Int} {p2 : zad} {w1_ : Nat} {r : Bool × zae} (hm : zaD p0 p1 p2 = some r) : HF Tryz.prog 56 [.ptr 0 0 0, zi p1, zqT p2] [zka p0 p0.at_ (zM 1 w1_ 8 p0.b), .rows (p0.b.map zac) 8 w1_ 109] (.bool r.1) [zka r.2 r.2.at_ (zM 1 w1_ 8 p0.b), .rows (p0.b.map zac) 8 w1_ 109] := by
 rw [zaD] at hm
 refine HF.of Tryz.func56 rfl Tryz.ntmps56 (Nat.le_of_ble_eq_true rfl) rfl ?_
 have e0 : argS 0 [.ptr 0 0 0, zi p1, zqT p2] = [(0, .ptr 0 0 0), (1, zi p1), (2, zqT p2)] := rfl
 rw [e0]
 refine W.sq [] [(0, .ptr 0 0 0), (1, zi p1), (5, .ptr 2 0 0)] [zka p0 p0.at_ (zM 1 w1_ 8 p0.b), .rows (p0.b.map zac) 8 w1_ 109, .cells (zab p2) 0 41] ?_
 refine W.sq [] [] [zkc p0.l p0.at_ (zbS p0.p.zSy) (zbT p0.p.zTh) (zM 1 w1_ 8 p0.b) p1 p2.Line p2.Col, .rows (p0.b.map zac) 8 w1_ 109] ?_
 refine W.sqh [] [(6, .bool false)] ?_
 obtain rfl := zo hm
 exact W.ret (zaR.retW ⟨[], []⟩ RO)
theorem zfW {p0 : zae} {w1_ : Nat} {r : Bool × zae} (hm : zcM p0 = some r) : HF Tryz.prog 57 [.ptr 0 0 0] [zka p0 p0.at_ (zM 1 w1_ 8 p0.b), .rows (p0.b.map zac) 8 w1_ 109] (.bool r.1) [zka r.2 r.2.at_ (zM 1 w1_ 8 p0.b), .rows (p0.b.map zac) 8 w1_ 109] := by
 rw [zcM] at hm
 refine HF.of Tryz.func57 rfl Tryz.ntmps57 (Nat.le_of_ble_eq_true rfl) rfl ?_
 have e0 : argS 0 [.ptr 0 0 0] = [(0, .ptr 0 0 0)] := rfl
 rw [e0]
 refine W.sq [] [(0, .ptr 0 0 0)] [zka p0 p0.at_ (zM 1 w1_ 8 p0.b), .rows (p0.b.map zac) 8 w1_ 109] ?_
 refine W.seq ?_
 replace ⟨h1, hm⟩ := zav hm
 refine W.sqJ [] [] [] 0 [] [(0, .ptr 0 0 0), (14, .bool ((rd p0.l p0.at_).Kind != 4))] [zka p0 p0.at_ (zM 1 w1_ 8 p0.b), .rows (p0.b.map zac) 8 w1_ 109] zaC ?_
 refine W.cnd ((rd p0.l p0.at_).Kind != 4) (fun hb2 => ?_) fun hb2 => ?_
 ·replace hm := zal hb2 hm
  replace ⟨h3, hm⟩ := zav hm
  replace ⟨v4, h5, hm⟩ := zam hm
  refine W.sqJ [11] [] [] 0 [] [(2, .bool v4.1)] [zka v4.2 v4.2.at_ (zM 1 w1_ 8 p0.b), .rows (p0.b.map zac) 8 w1_ 109] zaC ?_ (hrun := ?_)
  rotate_left
  ·try simp -implicitDefEqProofs -dsimp only [go_sem, h1, hb2, h3]
   with_reducible refine exP.mk (.gheap [] ⟨[], [0, 1], [.ptr 0 0 0, zi 4, zqT (rd p0.l p0.at_)], [zka p0 p0.at_ (zM 1 w1_ 8 p0.b), .rows (p0.b.map zac) 8 w1_ 109], .bool v4.1, [zka v4.2 v4.2.at_ (zM 1 w1_ 8 p0.b), .rows (p0.b.map zac) 8 w1_ 109]⟩ []) (callQ.ofG (by simp -implicitDefEqProofs -dsimp only [go_sem, h1, hb2, h3]) (zaA h5)) ?_
   try simp -implicitDefEqProofs -dsimp only [go_sem, h1, hb2, h3]
  obtain rfl := zo hm
  exact W.ret (zaR.retW ⟨[], []⟩ RO)
 ·replace hm := zak hb2 hm
  refine W.skip ?_
  refine W.sq [] [] [zka p0 (zw (p0.at_ + 1)) (zM 1 w1_ 8 p0.b), .rows (p0.b.map zac) 8 w1_ 109] ?_
  refine W.sqh [] [(2, .bool true)] ?_
  obtain rfl := zo hm
  exact W.ret (zaR.retW ⟨[], []⟩ RO)
theorem zbx {p0 : zae} {p1 : Int} {p2 : ByteArray} {w1_ : Nat} {r : Bool × zae} (hm : zaZ p0 p1 p2 = some r) : HF Tryz.prog 82 [.ptr 0 0 0, zi p1, .str p2] [zka p0 p0.at_ (zM 1 w1_ 8 p0.b), .rows (p0.b.map zac) 8 w1_ 109] (.bool r.1) [zka r.2 r.2.at_ (zM 1 w1_ 8 p0.b), .rows (p0.b.map zac) 8 w1_ 109] := by
 rw [zaZ] at hm
 refine HF.of Tryz.func82 rfl Tryz.ntmps82 (Nat.le_of_ble_eq_true rfl) rfl ?_
 have e0 : argS 0 [.ptr 0 0 0, zi p1, .str p2] = [(0, .ptr 0 0 0), (1, zi p1), (2, .str p2)] := rfl
 rw [e0]
 refine W.sq [] [(0, .ptr 0 0 0), (1, zi p1), (2, .str p2)] [zka p0 p0.at_ (zM 1 w1_ 8 p0.b), .rows (p0.b.map zac) 8 w1_ 109] ?_
 replace ⟨h1, hm⟩ := zav hm
 replace ⟨h2, hm⟩ := zav hm
 refine W.sqh [] [(6, .bool (((rd p0.l p1).Kind == 3) && decide ((rd p0.l p1).Text = p2)))] ?_
 obtain rfl := zo hm
 exact W.ret (zaR.retW ⟨[], []⟩ RO)
theorem zd8 {p0 : zae} {p1 : ByteArray} {w1_ : Nat} {r : Int × Bool × zae} (hm : zcb p0 p1 = some r) : HF Tryz.prog 81 [.ptr 0 0 0, .str p1] [zka p0 p0.at_ (zM 1 w1_ 8 p0.b), .rows (p0.b.map zac) 8 w1_ 109] (.tuple [zi r.1, .bool r.2.1]) [zka r.2.2 r.2.2.at_ (zM 1 w1_ 8 p0.b), .rows (p0.b.map zac) 8 w1_ 109] := by
 rw [zcb] at hm
 refine HF.of Tryz.func81 rfl Tryz.ntmps81 (Nat.le_of_ble_eq_true rfl) rfl ?_
 have e0 : argS 0 [.ptr 0 0 0, .str p1] = [(0, .ptr 0 0 0), (1, .str p1)] := rfl
 rw [e0]
 refine W.sq [] [(0, .ptr 0 0 0), (1, .str p1)] [zka p0 p0.at_ (zM 1 w1_ 8 p0.b), .rows (p0.b.map zac) 8 w1_ 109] ?_
 refine W.seq ?_
 refine W.wk ⟨[], [.foc 0 0 2]⟩ [(0, .ptr 0 0 0), (1, .str p1)] [zkb p0 p0.at_ (zM 2 1 3 p0.p.zSy) (zbT p0.p.zTh) (zM 1 w1_ 8 p0.b), .rows (p0.b.map zac) 8 w1_ 109, .rows (p0.p.zSy.map zas) 3 1 54] ?_
 refine W.sqh [] [(1, .str p1), (12, zM 2 1 3 p0.p.zSy), (13, zi (p0.p.zSy.length : Int)), (14, zi 0)] ?_
 refine W.block ?_
 replace ⟨r13, hlr13, hm⟩ := zam hm
 refine W.mono (Q := fun e0 s0 h0 => match r13 with | .inl e => e0 = .exit 0 /\ ∃ w : Unit, s0 = [] /\ h0 = [zka p0 p0.at_ (zM 1 w1_ 8 p0.b), .rows (p0.b.map zac) 8 w1_ 109] | .inr q => e0 = .ret /\ s0 = [(4, zi q.1), (5, .bool q.2.1)] /\ h0 = [zka q.2.2 q.2.2.at_ (zM 1 w1_ 8 p0.b), .rows (p0.b.map zac) 8 w1_ 109]) (W.loopM (step := zcE p0 p1) (a0 := 0) (fun (a : Int) (v : Unit) => ([(1, .str p1), (12, zM 2 1 3 p0.p.zSy), (13, zi (p0.p.zSy.length : Int)), (14, zi a)], [zkb p0 p0.at_ (zM 2 1 3 p0.p.zSy) (zbT p0.p.zTh) (zM 1 w1_ 8 p0.b), .rows (p0.b.map zac) 8 w1_ 109, .rows (p0.p.zSy.map zas) 3 1 54])) () hlr13 ⟨[], []⟩ RO ?_) ?_
 ·rintro i9 _ x hm hx
  rw [zcE] at hm
  show WK _ _ _ _ _ [(1, .str p1), (12, zM 2 1 3 p0.p.zSy), (13, zi (p0.p.zSy.length : Int)), (14, zi i9)] [zkb p0 p0.at_ (zM 2 1 3 p0.p.zSy) (zbT p0.p.zTh) (zM 1 w1_ 8 p0.b), .rows (p0.b.map zac) 8 w1_ 109, .rows (p0.p.zSy.map zas) 3 1 54]
  refine W.sqh [] [(1, .str p1), (12, zM 2 1 3 p0.p.zSy), (13, zi (p0.p.zSy.length : Int)), (14, zi i9), (15, .bool (decide (i9 < (p0.p.zSy.length : Int))))] ?_
  refine W.seq ?_
  refine W.cnd (decide (i9 < (p0.p.zSy.length : Int))) (fun hb14 => ?_) fun hb14 => ?_
  ·replace hm := zal hb14 hm
   refine W.skip ?_
   refine W.seq ?_
   refine W.block ?_
   replace ⟨h15, hm⟩ := zav hm
   refine W.sq [] [(1, .str p1), (6, zi i9), (7, .ptr 3 0 0), (12, zM 2 1 3 p0.p.zSy), (13, zi (p0.p.zSy.length : Int)), (14, zi i9)] [zkb p0 p0.at_ (zM 2 1 3 p0.p.zSy) (zbT p0.p.zTh) (zM 1 w1_ 8 p0.b), .rows (p0.b.map zac) 8 w1_ 109, .rows (p0.p.zSy.map zas) 3 1 54, .cells (zas (rd p0.p.zSy i9)) 0 54] ?_
   refine W.sq [] [(1, .str p1), (6, zi i9), (12, zM 2 1 3 p0.p.zSy), (13, zi (p0.p.zSy.length : Int)), (14, zi i9), (22, .bool (decide ((rd p0.p.zSy i9).Name = p1)))] [zkb p0 p0.at_ (zM 2 1 3 p0.p.zSy) (zbT p0.p.zTh) (zM 1 w1_ 8 p0.b), .rows (p0.b.map zac) 8 w1_ 109, .rows (p0.p.zSy.map zas) 3 1 54] ?_
   refine W.cnd (decide ((rd p0.p.zSy i9).Name = p1)) (fun hb16 => ?_) fun hb16 => ?_
   ·replace hm := zal hb16 hm
    refine W.sqG [] [.fol 0 0 2] [(4, zi i9), (5, .bool true)] [zka p0 p0.at_ (zM 1 w1_ 8 p0.b), .rows (p0.b.map zac) 8 w1_ 109] ?_
    obtain rfl := zo hm
    obtain rfl := hx _ rfl
    exact W.wk ⟨[], []⟩ [(4, zi i9), (5, .bool true)] [zka p0 p0.at_ (zM 1 w1_ 8 p0.b), .rows (p0.b.map zac) 8 w1_ 109] (W.ret (show _ /\ _ from ⟨rfl, rfl, rfl⟩))
   ·replace hm := zak hb16 hm
    refine W.skip ?_
    refine W.rg [] [(1, .str p1), (12, zM 2 1 3 p0.p.zSy), (13, zi (p0.p.zSy.length : Int)), (14, zi (zw (i9 + 1)))] [zkb p0 p0.at_ (zM 2 1 3 p0.p.zSy) (zbT p0.p.zTh) (zM 1 w1_ 8 p0.b), .rows (p0.b.map zac) 8 w1_ 109, .rows (p0.p.zSy.map zas) 3 1 54] ?_
    obtain rfl := zo hm
    exact ⟨(zw (i9 + 1)), (), ⟨[], []⟩, rfl, RO⟩
  ·replace hm := zak hb14 hm
   obtain rfl := zo hm
   obtain rfl := hx _ rfl
   exact W.wk ⟨[], [.fol 0 0 2]⟩ [] [zka p0 p0.at_ (zM 1 w1_ 8 p0.b), .rows (p0.b.map zac) 8 w1_ 109] (W.exit (show _ /\ _ from ⟨rfl, (), rfl, rfl⟩))
 ·intro e0 s0 h0 hq
  rcases r13 with er13 | qr13
  ·obtain ⟨rfl, _, rfl, rfl⟩ := hq
   replace hm := zcC hm
   show WK _ _ _ _ _ [] [zka p0 p0.at_ (zM 1 w1_ 8 p0.b), .rows (p0.b.map zac) 8 w1_ 109]
   refine W.sqh [] [(4, zi 0), (5, .bool false)] ?_
   obtain rfl := zo hm
   exact W.ret (zaR.retW ⟨[], []⟩ RO)
  ·obtain ⟨rfl, rfl, rfl⟩ := hq
   replace hm := zcB hm
   obtain rfl := zo hm
   exact zaR.retW ⟨[], []⟩ RO
theorem zfk {p0 : zae} {p1 : Int} {p2 : zap} {w1_ : Nat} {r : Bool × zae × zap} (hm : zck p0 p1 p2 = some r) : HF Tryz.prog 112 [.ptr 0 0 0, zi p1, .ptr 2 0 3] [zka p0 p0.at_ (zM 1 w1_ 8 p0.b), .rows (p0.b.map zac) 8 w1_ 109, .cells (zan p2) 0 63] (.bool r.1) [zka r.2.1 r.2.1.at_ (zM 1 w1_ 8 p0.b), .rows (p0.b.map zac) 8 w1_ 109, .cells (zan r.2.2) 0 63] := by
 rw [zck] at hm
 refine HF.of Tryz.func112 rfl Tryz.ntmps112 (Nat.le_of_ble_eq_true rfl) rfl ?_
 have e0 : argS 0 [.ptr 0 0 0, zi p1, .ptr 2 0 3] = [(0, .ptr 0 0 0), (1, zi p1), (2, .ptr 2 0 3)] := rfl
 rw [e0]
 refine W.sq [] [(0, .ptr 0 0 0), (1, zi p1), (2, .ptr 2 0 3)] [zka p0 p0.at_ (zM 1 w1_ 8 p0.b), .rows (p0.b.map zac) 8 w1_ 109, .cells (zan p2) 0 63] ?_
 replace ⟨h1, hm⟩ := zav hm
 refine W.sqJ [10, 11] [10, 11] [0, 1, 2, 3, 4, 5, 6, 7, 8, 9] 3 [] [(0, .ptr 0 0 0), (1, zi p1), (2, .ptr 2 0 3), (7, .ptr 3 0 0)] [zka p0 p0.at_ (zM 1 w1_ 8 p0.b), .rows (p0.b.map zac) 8 w1_ 109, .cells (zan p2) 0 63, .cells (zab (rd p0.l p0.at_)) 0 41] zaC ?_
 refine W.seq ?_
 refine W.sqh [] [(0, .ptr 0 0 0), (1, zi p1), (2, .ptr 2 0 3), (7, .ptr 3 0 0), (24, .bool ((rd p0.l p0.at_).Kind == 2))] ?_
 refine W.cnd ((rd p0.l p0.at_).Kind == 2) (fun hb2 => ?_) fun hb2 => ?_
 ·replace hm := zal hb2 hm
  replace ⟨v3, h4, hm⟩ := zam hm
  have kh4 := zdP h4
  try simp only [hb2] at kh4
  refine W.sqh [] [(0, .ptr 0 0 0), (1, zi p1), (2, .ptr 2 0 3), (7, .ptr 3 0 0), (8, zi v3.1)] ?_
  refine W.seq ?_
  replace ⟨h5, hm⟩ := zav hm
  refine W.wk ⟨[], [.foc 0 0 2]⟩ [(0, .ptr 0 0 0), (1, zi p1), (2, .ptr 2 0 3), (7, .ptr 3 0 0), (8, zi v3.1)] [zkb p0 p0.at_ (zM 4 1 3 p0.p.zSy) (zbT p0.p.zTh) (zM 1 w1_ 8 p0.b), .rows (p0.b.map zac) 8 w1_ 109, .cells (zan p2) 0 63, .cells (zab (rd p0.l p0.at_)) 0 41, .rows (p0.p.zSy.map zas) 3 1 54] ?_
  refine W.sqG [] [.fol 0 0 2] [(0, .ptr 0 0 0), (1, zi p1), (2, .ptr 2 0 3), (7, .ptr 3 0 0), (8, zi v3.1), (45, .bool (decide (v3.1 < 0) || decide (v3.1 ≥ (rd p0.p.zSy p1).Size)))] [zka p0 p0.at_ (zM 1 w1_ 8 p0.b), .rows (p0.b.map zac) 8 w1_ 109, .cells (zan p2) 0 63, .cells (zab (rd p0.l p0.at_)) 0 41] ?_
  refine W.cnd (decide (v3.1 < 0) || decide (v3.1 ≥ (rd p0.p.zSy p1).Size)) (fun hb6 => ?_) fun hb6 => ?_
  ·replace hm := zal hb6 hm
   replace ⟨v7, h8, hm⟩ := zam hm
   refine W.sq [] [(6, .bool v7.1)] [zka v7.2 v7.2.at_ (zM 1 w1_ 8 p0.b), .rows (p0.b.map zac) 8 w1_ 109, .cells (zan p2) 0 63] ?_ (hrun := ?_)
   rotate_left
   ·try simp -implicitDefEqProofs -dsimp only [go_sem, h1, hb2, h5, hb6]
    with_reducible refine exP.mk (.gheap [] ⟨[], [0, 1], [.ptr 0 0 0, zi 8, zqT (rd p0.l p0.at_)], [zka p0 p0.at_ (zM 1 w1_ 8 p0.b), .rows (p0.b.map zac) 8 w1_ 109], .bool v7.1, [zka v7.2 v7.2.at_ (zM 1 w1_ 8 p0.b), .rows (p0.b.map zac) 8 w1_ 109]⟩ []) (callQ.ofG (by simp -implicitDefEqProofs -dsimp only [go_sem, h1, hb2, h5, hb6]) (zaA h8)) ?_
    try simp -implicitDefEqProofs -dsimp only [go_sem, h1, hb2, h5, hb6]
   obtain rfl := zo hm
   exact W.ret (zaR.retW ⟨[], []⟩ RO)
  ·replace hm := zak hb6 hm
   refine W.skip ?_
   refine W.sq [] [(0, .ptr 0 0 0)] [zka p0 p0.at_ (zM 1 w1_ 8 p0.b), .rows (p0.b.map zac) 8 w1_ 109, .cells [zi p2.Op, .bool p2.Lock, zi p2.Cond, zi 3, zi 0, zi p1, zi v3.1, zi p2.B.Kind, zi p2.B.Reg, zi p2.B.Sym, zi p2.B.N, .str p2.To, .sl (p2.zLb.map eStr)] 0 63] ?_
   refine W.sq [] [] [zka p0 (zw (p0.at_ + 1)) (zM 1 w1_ 8 p0.b), .rows (p0.b.map zac) 8 w1_ 109, .cells [zi p2.Op, .bool p2.Lock, zi p2.Cond, zi 3, zi 0, zi p1, zi v3.1, zi p2.B.Kind, zi p2.B.Reg, zi p2.B.Sym, zi p2.B.N, .str p2.To, .sl (p2.zLb.map eStr)] 0 63] ?_
   refine W.sqh [] [(6, .bool true)] ?_
   obtain rfl := zo hm
   exact W.ret (zaR.retW ⟨[], []⟩ RO)
 ·replace hm := zak hb2 hm
  refine W.skip ?_
  replace ⟨v9, h10, hm⟩ := zam hm
  have kh10 := zel h10
  try simp only [hb2] at kh10
  refine W.sqh [] [(0, .ptr 0 0 0), (1, zi p1), (2, .ptr 2 0 3), (7, .ptr 3 0 0), (10, zi v9.1), (11, .bool v9.2)] ?_
  refine W.seq ?_
  refine W.sqh [] [(0, .ptr 0 0 0), (1, zi p1), (2, .ptr 2 0 3), (7, .ptr 3 0 0), (10, zi v9.1), (73, .bool (((rd p0.l p0.at_).Kind != 1) || (!v9.2)))] ?_
  refine W.cnd (((rd p0.l p0.at_).Kind != 1) || (!v9.2)) (fun hb11 => ?_) fun hb11 => ?_
  ·replace hm := zal hb11 hm
   replace ⟨v12, h13, hm⟩ := zam hm
   refine W.sq [] [(6, .bool v12.1)] [zka v12.2 v12.2.at_ (zM 1 w1_ 8 p0.b), .rows (p0.b.map zac) 8 w1_ 109, .cells (zan p2) 0 63] ?_ (hrun := ?_)
   rotate_left
   ·try simp -implicitDefEqProofs -dsimp only [go_sem, h1, hb2, hb11]
    with_reducible refine exP.mk (.gheap [] ⟨[], [0, 1], [.ptr 0 0 0, zi 4, zqT (rd p0.l p0.at_)], [zka p0 p0.at_ (zM 1 w1_ 8 p0.b), .rows (p0.b.map zac) 8 w1_ 109], .bool v12.1, [zka v12.2 v12.2.at_ (zM 1 w1_ 8 p0.b), .rows (p0.b.map zac) 8 w1_ 109]⟩ []) (callQ.ofG (by simp -implicitDefEqProofs -dsimp only [go_sem, h1, hb2, hb11]) (zaA h13)) ?_
    try simp -implicitDefEqProofs -dsimp only [go_sem, h1, hb2, hb11]
   obtain rfl := zo hm
   exact W.ret (zaR.retW ⟨[], []⟩ RO)
  ·replace hm := zak hb11 hm
   refine W.skip ?_
   refine W.sq [] [(0, .ptr 0 0 0)] [zka p0 p0.at_ (zM 1 w1_ 8 p0.b), .rows (p0.b.map zac) 8 w1_ 109, .cells [zi p2.Op, .bool p2.Lock, zi p2.Cond, zi 4, zi v9.1, zi p1, zi 0, zi p2.B.Kind, zi p2.B.Reg, zi p2.B.Sym, zi p2.B.N, .str p2.To, .sl (p2.zLb.map eStr)] 0 63] ?_
   refine W.sq [] [] [zka p0 (zw (p0.at_ + 1)) (zM 1 w1_ 8 p0.b), .rows (p0.b.map zac) 8 w1_ 109, .cells [zi p2.Op, .bool p2.Lock, zi p2.Cond, zi 4, zi v9.1, zi p1, zi 0, zi p2.B.Kind, zi p2.B.Reg, zi p2.B.Sym, zi p2.B.N, .str p2.To, .sl (p2.zLb.map eStr)] 0 63] ?_
   refine W.sqh [] [(6, .bool true)] ?_
   obtain rfl := zo hm
   exact W.ret (zaR.retW ⟨[], []⟩ RO)
theorem zfj {p0 : zae} {p1 : Int} {p2 : zap} {w1_ : Nat} {r : Bool × zae × zap} (hm : zcj p0 p1 p2 = some r) : HF Tryz.prog 112 [.ptr 0 0 0, zi p1, .ptr 2 0 7] [zka p0 p0.at_ (zM 1 w1_ 8 p0.b), .rows (p0.b.map zac) 8 w1_ 109, .cells (zan p2) 0 63] (.bool r.1) [zka r.2.1 r.2.1.at_ (zM 1 w1_ 8 p0.b), .rows (p0.b.map zac) 8 w1_ 109, .cells (zan r.2.2) 0 63] := by
 rw [zcj] at hm
 refine HF.of Tryz.func112 rfl Tryz.ntmps112 (Nat.le_of_ble_eq_true rfl) rfl ?_
 have e0 : argS 0 [.ptr 0 0 0, zi p1, .ptr 2 0 7] = [(0, .ptr 0 0 0), (1, zi p1), (2, .ptr 2 0 7)] := rfl
 rw [e0]
 refine W.sq [] [(0, .ptr 0 0 0), (1, zi p1), (2, .ptr 2 0 7)] [zka p0 p0.at_ (zM 1 w1_ 8 p0.b), .rows (p0.b.map zac) 8 w1_ 109, .cells (zan p2) 0 63] ?_
 replace ⟨h1, hm⟩ := zav hm
 refine W.sqJ [10, 11] [10, 11] [0, 1, 2, 3, 4, 5, 6, 7, 8, 9] 3 [] [(0, .ptr 0 0 0), (1, zi p1), (2, .ptr 2 0 7), (7, .ptr 3 0 0)] [zka p0 p0.at_ (zM 1 w1_ 8 p0.b), .rows (p0.b.map zac) 8 w1_ 109, .cells (zan p2) 0 63, .cells (zab (rd p0.l p0.at_)) 0 41] zaC ?_
 refine W.seq ?_
 refine W.sqh [] [(0, .ptr 0 0 0), (1, zi p1), (2, .ptr 2 0 7), (7, .ptr 3 0 0), (24, .bool ((rd p0.l p0.at_).Kind == 2))] ?_
 refine W.cnd ((rd p0.l p0.at_).Kind == 2) (fun hb2 => ?_) fun hb2 => ?_
 ·replace hm := zal hb2 hm
  replace ⟨v3, h4, hm⟩ := zam hm
  have kh4 := zdP h4
  try simp only [hb2] at kh4
  refine W.sqh [] [(0, .ptr 0 0 0), (1, zi p1), (2, .ptr 2 0 7), (7, .ptr 3 0 0), (8, zi v3.1)] ?_
  refine W.seq ?_
  replace ⟨h5, hm⟩ := zav hm
  refine W.wk ⟨[], [.foc 0 0 2]⟩ [(0, .ptr 0 0 0), (1, zi p1), (2, .ptr 2 0 7), (7, .ptr 3 0 0), (8, zi v3.1)] [zkb p0 p0.at_ (zM 4 1 3 p0.p.zSy) (zbT p0.p.zTh) (zM 1 w1_ 8 p0.b), .rows (p0.b.map zac) 8 w1_ 109, .cells (zan p2) 0 63, .cells (zab (rd p0.l p0.at_)) 0 41, .rows (p0.p.zSy.map zas) 3 1 54] ?_
  refine W.sqG [] [.fol 0 0 2] [(0, .ptr 0 0 0), (1, zi p1), (2, .ptr 2 0 7), (7, .ptr 3 0 0), (8, zi v3.1), (45, .bool (decide (v3.1 < 0) || decide (v3.1 ≥ (rd p0.p.zSy p1).Size)))] [zka p0 p0.at_ (zM 1 w1_ 8 p0.b), .rows (p0.b.map zac) 8 w1_ 109, .cells (zan p2) 0 63, .cells (zab (rd p0.l p0.at_)) 0 41] ?_
  refine W.cnd (decide (v3.1 < 0) || decide (v3.1 ≥ (rd p0.p.zSy p1).Size)) (fun hb6 => ?_) fun hb6 => ?_
  ·replace hm := zal hb6 hm
   replace ⟨v7, h8, hm⟩ := zam hm
   refine W.sq [] [(6, .bool v7.1)] [zka v7.2 v7.2.at_ (zM 1 w1_ 8 p0.b), .rows (p0.b.map zac) 8 w1_ 109, .cells (zan p2) 0 63] ?_ (hrun := ?_)
   rotate_left
   ·try simp -implicitDefEqProofs -dsimp only [go_sem, h1, hb2, h5, hb6]
    with_reducible refine exP.mk (.gheap [] ⟨[], [0, 1], [.ptr 0 0 0, zi 8, zqT (rd p0.l p0.at_)], [zka p0 p0.at_ (zM 1 w1_ 8 p0.b), .rows (p0.b.map zac) 8 w1_ 109], .bool v7.1, [zka v7.2 v7.2.at_ (zM 1 w1_ 8 p0.b), .rows (p0.b.map zac) 8 w1_ 109]⟩ []) (callQ.ofG (by simp -implicitDefEqProofs -dsimp only [go_sem, h1, hb2, h5, hb6]) (zaA h8)) ?_
    try simp -implicitDefEqProofs -dsimp only [go_sem, h1, hb2, h5, hb6]
   obtain rfl := zo hm
   exact W.ret (zaR.retW ⟨[], []⟩ RO)
  ·replace hm := zak hb6 hm
   refine W.skip ?_
   refine W.sq [] [(0, .ptr 0 0 0)] [zka p0 p0.at_ (zM 1 w1_ 8 p0.b), .rows (p0.b.map zac) 8 w1_ 109, .cells [zi p2.Op, .bool p2.Lock, zi p2.Cond, zi p2.A.Kind, zi p2.A.Reg, zi p2.A.Sym, zi p2.A.N, zi 3, zi 0, zi p1, zi v3.1, .str p2.To, .sl (p2.zLb.map eStr)] 0 63] ?_
   refine W.sq [] [] [zka p0 (zw (p0.at_ + 1)) (zM 1 w1_ 8 p0.b), .rows (p0.b.map zac) 8 w1_ 109, .cells [zi p2.Op, .bool p2.Lock, zi p2.Cond, zi p2.A.Kind, zi p2.A.Reg, zi p2.A.Sym, zi p2.A.N, zi 3, zi 0, zi p1, zi v3.1, .str p2.To, .sl (p2.zLb.map eStr)] 0 63] ?_
   refine W.sqh [] [(6, .bool true)] ?_
   obtain rfl := zo hm
   exact W.ret (zaR.retW ⟨[], []⟩ RO)
 ·replace hm := zak hb2 hm
  refine W.skip ?_
  replace ⟨v9, h10, hm⟩ := zam hm
  have kh10 := zel h10
  try simp only [hb2] at kh10
  refine W.sqh [] [(0, .ptr 0 0 0), (1, zi p1), (2, .ptr 2 0 7), (7, .ptr 3 0 0), (10, zi v9.1), (11, .bool v9.2)] ?_
  refine W.seq ?_
  refine W.sqh [] [(0, .ptr 0 0 0), (1, zi p1), (2, .ptr 2 0 7), (7, .ptr 3 0 0), (10, zi v9.1), (73, .bool (((rd p0.l p0.at_).Kind != 1) || (!v9.2)))] ?_
  refine W.cnd (((rd p0.l p0.at_).Kind != 1) || (!v9.2)) (fun hb11 => ?_) fun hb11 => ?_
  ·replace hm := zal hb11 hm
   replace ⟨v12, h13, hm⟩ := zam hm
   refine W.sq [] [(6, .bool v12.1)] [zka v12.2 v12.2.at_ (zM 1 w1_ 8 p0.b), .rows (p0.b.map zac) 8 w1_ 109, .cells (zan p2) 0 63] ?_ (hrun := ?_)
   rotate_left
   ·try simp -implicitDefEqProofs -dsimp only [go_sem, h1, hb2, hb11]
    with_reducible refine exP.mk (.gheap [] ⟨[], [0, 1], [.ptr 0 0 0, zi 4, zqT (rd p0.l p0.at_)], [zka p0 p0.at_ (zM 1 w1_ 8 p0.b), .rows (p0.b.map zac) 8 w1_ 109], .bool v12.1, [zka v12.2 v12.2.at_ (zM 1 w1_ 8 p0.b), .rows (p0.b.map zac) 8 w1_ 109]⟩ []) (callQ.ofG (by simp -implicitDefEqProofs -dsimp only [go_sem, h1, hb2, hb11]) (zaA h13)) ?_
    try simp -implicitDefEqProofs -dsimp only [go_sem, h1, hb2, hb11]
   obtain rfl := zo hm
   exact W.ret (zaR.retW ⟨[], []⟩ RO)
  ·replace hm := zak hb11 hm
   refine W.skip ?_
   refine W.sq [] [(0, .ptr 0 0 0)] [zka p0 p0.at_ (zM 1 w1_ 8 p0.b), .rows (p0.b.map zac) 8 w1_ 109, .cells [zi p2.Op, .bool p2.Lock, zi p2.Cond, zi p2.A.Kind, zi p2.A.Reg, zi p2.A.Sym, zi p2.A.N, zi 4, zi v9.1, zi p1, zi 0, .str p2.To, .sl (p2.zLb.map eStr)] 0 63] ?_
   refine W.sq [] [] [zka p0 (zw (p0.at_ + 1)) (zM 1 w1_ 8 p0.b), .rows (p0.b.map zac) 8 w1_ 109, .cells [zi p2.Op, .bool p2.Lock, zi p2.Cond, zi p2.A.Kind, zi p2.A.Reg, zi p2.A.Sym, zi p2.A.N, zi 4, zi v9.1, zi p1, zi 0, .str p2.To, .sl (p2.zLb.map eStr)] 0 63] ?_
   refine W.sqh [] [(6, .bool true)] ?_
   obtain rfl := zo hm
   exact W.ret (zaR.retW ⟨[], []⟩ RO)
theorem zeW {p0 : zae} {p1 : zap} {w1_ : Nat} {r : Bool × zae × zap} (hm : zbQ p0 p1 = some r) : HF Tryz.prog 103 [.ptr 0 0 0, .ptr 2 0 3] [zka p0 p0.at_ (zM 1 w1_ 8 p0.b), .rows (p0.b.map zac) 8 w1_ 109, .cells (zan p1) 0 63] (.bool r.1) [zka r.2.1 r.2.1.at_ (zM 1 w1_ 8 p0.b), .rows (p0.b.map zac) 8 w1_ 109, .cells (zan r.2.2) 0 63] := by
 rw [zbQ] at hm
 refine HF.of Tryz.func103 rfl Tryz.ntmps103 (Nat.le_of_ble_eq_true rfl) rfl ?_
 have e0 : argS 0 [.ptr 0 0 0, .ptr 2 0 3] = [(0, .ptr 0 0 0), (1, .ptr 2 0 3)] := rfl
 rw [e0]
 refine W.sq [] [(0, .ptr 0 0 0), (1, .ptr 2 0 3)] [zka p0 p0.at_ (zM 1 w1_ 8 p0.b), .rows (p0.b.map zac) 8 w1_ 109, .cells (zan p1) 0 63] ?_
 replace ⟨h1, hm⟩ := zav hm
 refine W.sqJ [10, 11] [10, 11] [0, 1, 2, 3, 4, 5, 6, 7, 8, 9] 3 [] [(0, .ptr 0 0 0), (1, .ptr 2 0 3), (5, .ptr 3 0 0)] [zka p0 p0.at_ (zM 1 w1_ 8 p0.b), .rows (p0.b.map zac) 8 w1_ 109, .cells (zan p1) 0 63, .cells (zab (rd p0.l p0.at_)) 0 41] zaC ?_
 refine W.seq ?_
 refine W.sqh [] [(0, .ptr 0 0 0), (1, .ptr 2 0 3), (5, .ptr 3 0 0), (24, .bool ((rd p0.l p0.at_).Kind == 2))] ?_
 refine W.cnd ((rd p0.l p0.at_).Kind == 2) (fun hb2 => ?_) fun hb2 => ?_
 ·replace hm := zal hb2 hm
  replace ⟨v3, h4, hm⟩ := zam hm
  have kh4 := zdP h4
  try simp only [hb2] at kh4
  refine W.sq [] [(0, .ptr 0 0 0), (1, .ptr 2 0 3), (6, zi v3.1)] [zka p0 p0.at_ (zM 1 w1_ 8 p0.b), .rows (p0.b.map zac) 8 w1_ 109, .cells (zan p1) 0 63] ?_
  refine W.sq [] [(0, .ptr 0 0 0)] [zka p0 p0.at_ (zM 1 w1_ 8 p0.b), .rows (p0.b.map zac) 8 w1_ 109, .cells [zi p1.Op, .bool p1.Lock, zi p1.Cond, zi 2, zi 0, zi 0, zi v3.1, zi p1.B.Kind, zi p1.B.Reg, zi p1.B.Sym, zi p1.B.N, .str p1.To, .sl (p1.zLb.map eStr)] 0 63] ?_
  refine W.sq [] [] [zka p0 (zw (p0.at_ + 1)) (zM 1 w1_ 8 p0.b), .rows (p0.b.map zac) 8 w1_ 109, .cells [zi p1.Op, .bool p1.Lock, zi p1.Cond, zi 2, zi 0, zi 0, zi v3.1, zi p1.B.Kind, zi p1.B.Reg, zi p1.B.Sym, zi p1.B.N, .str p1.To, .sl (p1.zLb.map eStr)] 0 63] ?_
  refine W.sqh [] [(4, .bool true)] ?_
  obtain rfl := zo hm
  exact W.ret (zaR.retW ⟨[], []⟩ RO)
 ·replace hm := zak hb2 hm
  refine W.skip ?_
  refine W.seq ?_
  refine W.sq [] [(0, .ptr 0 0 0), (1, .ptr 2 0 3), (5, .ptr 3 0 0), (44, .bool ((rd p0.l p0.at_).Kind != 1))] [zka p0 p0.at_ (zM 1 w1_ 8 p0.b), .rows (p0.b.map zac) 8 w1_ 109, .cells (zan p1) 0 63, .cells (zab (rd p0.l p0.at_)) 0 41] ?_
  refine W.cnd ((rd p0.l p0.at_).Kind != 1) (fun hb5 => ?_) fun hb5 => ?_
  ·replace hm := zal hb5 hm
   replace ⟨v6, h7, hm⟩ := zam hm
   refine W.sq [] [(4, .bool v6.1)] [zka v6.2 v6.2.at_ (zM 1 w1_ 8 p0.b), .rows (p0.b.map zac) 8 w1_ 109, .cells (zan p1) 0 63] ?_ (hrun := ?_)
   rotate_left
   ·try simp -implicitDefEqProofs -dsimp only [go_sem, h1, hb2, hb5]
    with_reducible refine exP.mk (.gheap [] ⟨[], [0, 1], [.ptr 0 0 0, zi 4, zqT (rd p0.l p0.at_)], [zka p0 p0.at_ (zM 1 w1_ 8 p0.b), .rows (p0.b.map zac) 8 w1_ 109], .bool v6.1, [zka v6.2 v6.2.at_ (zM 1 w1_ 8 p0.b), .rows (p0.b.map zac) 8 w1_ 109]⟩ []) (callQ.ofG (by simp -implicitDefEqProofs -dsimp only [go_sem, h1, hb2, hb5]) (zaA h7)) ?_
    try simp -implicitDefEqProofs -dsimp only [go_sem, h1, hb2, hb5]
   obtain rfl := zo hm
   exact W.ret (zaR.retW ⟨[], []⟩ RO)
  ·replace hm := zak hb5 hm
   refine W.skip ?_
   refine W.seq ?_
   replace ⟨v8, h9, hm⟩ := zam hm
   have kh9 := zel h9
   try simp only [hb2, hb5] at kh9
   refine W.sq [] [(0, .ptr 0 0 0), (1, .ptr 2 0 3), (5, .ptr 3 0 0), (8, zi v8.1), (9, .bool v8.2)] [zka p0 p0.at_ (zM 1 w1_ 8 p0.b), .rows (p0.b.map zac) 8 w1_ 109, .cells (zan p1) 0 63, .cells (zab (rd p0.l p0.at_)) 0 41] ?_
   refine W.sqh [] [(0, .ptr 0 0 0), (1, .ptr 2 0 3), (5, .ptr 3 0 0), (8, zi v8.1), (54, .bool v8.2)] ?_
   refine W.cnd v8.2 (fun hb10 => ?_) fun hb10 => ?_
   ·replace hm := zal hb10 hm
    refine W.sq [] [(0, .ptr 0 0 0)] [zka p0 p0.at_ (zM 1 w1_ 8 p0.b), .rows (p0.b.map zac) 8 w1_ 109, .cells [zi p1.Op, .bool p1.Lock, zi p1.Cond, zi 1, zi v8.1, zi 0, zi 0, zi p1.B.Kind, zi p1.B.Reg, zi p1.B.Sym, zi p1.B.N, .str p1.To, .sl (p1.zLb.map eStr)] 0 63] ?_
    refine W.sq [] [] [zka p0 (zw (p0.at_ + 1)) (zM 1 w1_ 8 p0.b), .rows (p0.b.map zac) 8 w1_ 109, .cells [zi p1.Op, .bool p1.Lock, zi p1.Cond, zi 1, zi v8.1, zi 0, zi 0, zi p1.B.Kind, zi p1.B.Reg, zi p1.B.Sym, zi p1.B.N, .str p1.To, .sl (p1.zLb.map eStr)] 0 63] ?_
    refine W.sqh [] [(4, .bool true)] ?_
    obtain rfl := zo hm
    exact W.ret (zaR.retW ⟨[], []⟩ RO)
   ·replace hm := zak hb10 hm
    refine W.skip ?_
    refine W.seq ?_
    replace ⟨v11, h12, hm⟩ := zam hm
    have kh12 := zdv h12
    try simp only [hb2, hb5, hb10] at kh12
    refine W.sq [] [(0, .ptr 0 0 0), (1, .ptr 2 0 3), (5, .ptr 3 0 0), (68, .bool v11)] [zka p0 p0.at_ (zM 1 w1_ 8 p0.b), .rows (p0.b.map zac) 8 w1_ 109, .cells (zan p1) 0 63, .cells (zab (rd p0.l p0.at_)) 0 41] ?_
    refine W.cnd v11 (fun hb13 => ?_) fun hb13 => ?_
    ·replace hm := zal hb13 hm
     replace ⟨v14, h15, hm⟩ := zam hm
     refine W.sq [] [(4, .bool v14.1)] [zka v14.2 v14.2.at_ (zM 1 w1_ 8 p0.b), .rows (p0.b.map zac) 8 w1_ 109, .cells (zan p1) 0 63] ?_ (hrun := ?_)
     rotate_left
     ·try simp -implicitDefEqProofs -dsimp only [go_sem, h1, hb2, hb5, hb10, hb13]
      with_reducible refine exP.mk (.gheap [] ⟨[], [0, 1], [.ptr 0 0 0, zi 3, zqT (rd p0.l p0.at_)], [zka p0 p0.at_ (zM 1 w1_ 8 p0.b), .rows (p0.b.map zac) 8 w1_ 109], .bool v14.1, [zka v14.2 v14.2.at_ (zM 1 w1_ 8 p0.b), .rows (p0.b.map zac) 8 w1_ 109]⟩ []) (callQ.ofG (by simp -implicitDefEqProofs -dsimp only [go_sem, h1, hb2, hb5, hb10, hb13]) (zaA h15)) ?_
      try simp -implicitDefEqProofs -dsimp only [go_sem, h1, hb2, hb5, hb10, hb13]
     obtain rfl := zo hm
     exact W.ret (zaR.retW ⟨[], []⟩ RO)
    ·replace hm := zak hb13 hm
     refine W.skip ?_
     replace ⟨v16, h17, hm⟩ := zam hm
     refine W.sq [] [(0, .ptr 0 0 0), (1, .ptr 2 0 3), (5, .ptr 3 0 0), (10, zi v16.1), (11, .bool v16.2.1)] [zka v16.2.2 v16.2.2.at_ (zM 1 w1_ 8 p0.b), .rows (p0.b.map zac) 8 w1_ 109, .cells (zan p1) 0 63, .cells (zab (rd p0.l p0.at_)) 0 41] ?_ (hrun := ?_)
     rotate_left
     ·try simp -implicitDefEqProofs -dsimp only [go_sem, h1, hb2, hb5, hb10, hb13]
      with_reducible refine exP.mk (.gheap [] ⟨[], [0, 1], [.ptr 0 0 0, .str (rd p0.l p0.at_).Text], [zka p0 p0.at_ (zM 1 w1_ 8 p0.b), .rows (p0.b.map zac) 8 w1_ 109], .tuple [zi v16.1, .bool v16.2.1], [zka v16.2.2 v16.2.2.at_ (zM 1 w1_ 8 p0.b), .rows (p0.b.map zac) 8 w1_ 109]⟩ []) (callQ.ofG (by simp -implicitDefEqProofs -dsimp only [go_sem, h1, hb2, hb5, hb10, hb13]) (zd8 h17)) ?_
      try simp -implicitDefEqProofs -dsimp only [go_sem, h1, hb2, hb5, hb10, hb13]
     refine W.seq ?_
     refine W.sqh [] [(0, .ptr 0 0 0), (1, .ptr 2 0 3), (5, .ptr 3 0 0), (10, zi v16.1), (80, .bool (!v16.2.1))] ?_
     refine W.cnd (!v16.2.1) (fun hb18 => ?_) fun hb18 => ?_
     ·replace hm := zal hb18 hm
      replace ⟨v19, h20, hm⟩ := zam hm
      refine W.sq [] [(4, .bool v19.1)] [zka v19.2 v19.2.at_ (zM 1 w1_ 8 p0.b), .rows (p0.b.map zac) 8 w1_ 109, .cells (zan p1) 0 63] ?_ (hrun := ?_)
      rotate_left
      ·try simp -implicitDefEqProofs -dsimp only [go_sem, h1, hb2, hb5, hb10, hb13, hb18]
       with_reducible refine exP.mk (.gheap [] ⟨[], [0, 1], [.ptr 0 0 0, zi 7, zqT (rd p0.l p0.at_)], [zka v16.2.2 v16.2.2.at_ (zM 1 w1_ 8 p0.b), .rows (p0.b.map zac) 8 w1_ 109], .bool v19.1, [zka v19.2 v19.2.at_ (zM 1 w1_ 8 p0.b), .rows (p0.b.map zac) 8 w1_ 109]⟩ []) (callQ.ofG (by simp -implicitDefEqProofs -dsimp only [go_sem, h1, hb2, hb5, hb10, hb13, hb18]) (zaA h20)) ?_
       try simp -implicitDefEqProofs -dsimp only [go_sem, h1, hb2, hb5, hb10, hb13, hb18]
      obtain rfl := zo hm
      exact W.ret (zaR.retW ⟨[], []⟩ RO)
     ·replace hm := zak hb18 hm
      refine W.skip ?_
      refine W.sq [] [(0, .ptr 0 0 0), (1, .ptr 2 0 3), (10, zi v16.1)] [zka v16.2.2 (zw (v16.2.2.at_ + 1)) (zM 1 w1_ 8 p0.b), .rows (p0.b.map zac) 8 w1_ 109, .cells (zan p1) 0 63] ?_
      refine W.seq ?_
      replace ⟨v21, h22, hm⟩ := zam hm
      refine W.sq [] [(0, .ptr 0 0 0), (1, .ptr 2 0 3), (10, zi v16.1), (97, .bool (!v21.1))] [zka v21.2 v21.2.at_ (zM 1 w1_ 8 p0.b), .rows (p0.b.map zac) 8 w1_ 109, .cells (zan p1) 0 63] ?_ (hrun := ?_)
      rotate_left
      ·try simp -implicitDefEqProofs -dsimp only [go_sem, h1, hb2, hb5, hb10, hb13, hb18]
       with_reducible refine exP.mk (.gheap [] ⟨[], [0, 1], [.ptr 0 0 0, zi (zw (v16.2.2.at_ + 1)), .str (⟨#[91]⟩ : ByteArray)], [zka v16.2.2 (zw (v16.2.2.at_ + 1)) (zM 1 w1_ 8 p0.b), .rows (p0.b.map zac) 8 w1_ 109], .bool v21.1, [zka v21.2 v21.2.at_ (zM 1 w1_ 8 p0.b), .rows (p0.b.map zac) 8 w1_ 109]⟩ []) (callQ.ofG (by simp -implicitDefEqProofs -dsimp only [go_sem, h1, hb2, hb5, hb10, hb13, hb18]) (zbx h22)) ?_
       try simp -implicitDefEqProofs -dsimp only [go_sem, h1, hb2, hb5, hb10, hb13, hb18]
      refine W.cnd (!v21.1) (fun hb23 => ?_) fun hb23 => ?_
      ·replace hm := zal hb23 hm
       replace ⟨h24, hm⟩ := zav hm
       replace ⟨v25, h26, hm⟩ := zam hm
       refine W.sqJ [11] [] [] 0 [] [(4, .bool v25.1)] [zka v25.2 v25.2.at_ (zM 1 w1_ 8 p0.b), .rows (p0.b.map zac) 8 w1_ 109, .cells (zan p1) 0 63] zaC ?_ (hrun := ?_)
       rotate_left
       ·try simp -implicitDefEqProofs -dsimp only [go_sem, h1, hb2, hb5, hb10, hb13, hb18, hb23, h24]
        with_reducible refine exP.mk (.gheap [] ⟨[], [0, 1], [.ptr 0 0 0, zi 4, zqT (rd v21.2.l v21.2.at_)], [zka v21.2 v21.2.at_ (zM 1 w1_ 8 p0.b), .rows (p0.b.map zac) 8 w1_ 109], .bool v25.1, [zka v25.2 v25.2.at_ (zM 1 w1_ 8 p0.b), .rows (p0.b.map zac) 8 w1_ 109]⟩ []) (callQ.ofG (by simp -implicitDefEqProofs -dsimp only [go_sem, h1, hb2, hb5, hb10, hb13, hb18, hb23, h24]) (zaA h26)) ?_
        try simp -implicitDefEqProofs -dsimp only [go_sem, h1, hb2, hb5, hb10, hb13, hb18, hb23, h24]
       obtain rfl := zo hm
       exact W.ret (zaR.retW ⟨[], []⟩ RO)
      ·replace hm := zak hb23 hm
       refine W.skip ?_
       refine W.sq [] [(0, .ptr 0 0 0), (1, .ptr 2 0 3), (10, zi v16.1)] [zka v21.2 (zw (v21.2.at_ + 1)) (zM 1 w1_ 8 p0.b), .rows (p0.b.map zac) 8 w1_ 109, .cells (zan p1) 0 63] ?_
       refine W.seq ?_
       replace ⟨v27, h28, hm⟩ := zam hm
       refine W.sq [] [(0, .ptr 0 0 0), (121, .bool (!v27.1))] [zka v27.2.1 v27.2.1.at_ (zM 1 w1_ 8 p0.b), .rows (p0.b.map zac) 8 w1_ 109, .cells (zan v27.2.2) 0 63] ?_ (hrun := ?_)
       rotate_left
       ·try simp -implicitDefEqProofs -dsimp only [go_sem, h1, hb2, hb5, hb10, hb13, hb18, hb23]
        with_reducible refine exP.mk (.gheap [] ⟨[], [0, 1, 2], [.ptr 0 0 0, zi v16.1, .ptr 2 0 3], [zka v21.2 (zw (v21.2.at_ + 1)) (zM 1 w1_ 8 p0.b), .rows (p0.b.map zac) 8 w1_ 109, .cells (zan p1) 0 63], .bool v27.1, [zka v27.2.1 v27.2.1.at_ (zM 1 w1_ 8 p0.b), .rows (p0.b.map zac) 8 w1_ 109, .cells (zan v27.2.2) 0 63]⟩ []) (callQ.ofG (by simp -implicitDefEqProofs -dsimp only [go_sem, h1, hb2, hb5, hb10, hb13, hb18, hb23]) (zfk h28)) ?_
        try simp -implicitDefEqProofs -dsimp only [go_sem, h1, hb2, hb5, hb10, hb13, hb18, hb23]
       refine W.cnd (!v27.1) (fun hb29 => ?_) fun hb29 => ?_
       ·replace hm := zal hb29 hm
        refine W.sqh [] [(4, .bool false)] ?_
        obtain rfl := zo hm
        exact W.ret (zaR.retW ⟨[], []⟩ RO)
       ·replace hm := zak hb29 hm
        refine W.skip ?_
        refine W.seq ?_
        replace ⟨v30, h31, hm⟩ := zam hm
        refine W.sq [] [(0, .ptr 0 0 0), (128, .bool (!v30.1))] [zka v30.2 v30.2.at_ (zM 1 w1_ 8 p0.b), .rows (p0.b.map zac) 8 w1_ 109, .cells (zan v27.2.2) 0 63] ?_ (hrun := ?_)
        rotate_left
        ·try simp -implicitDefEqProofs -dsimp only [go_sem, h1, hb2, hb5, hb10, hb13, hb18, hb23, hb29]
         with_reducible refine exP.mk (.gheap [] ⟨[], [0, 1], [.ptr 0 0 0, zi v27.2.1.at_, .str (⟨#[93]⟩ : ByteArray)], [zka v27.2.1 v27.2.1.at_ (zM 1 w1_ 8 p0.b), .rows (p0.b.map zac) 8 w1_ 109], .bool v30.1, [zka v30.2 v30.2.at_ (zM 1 w1_ 8 p0.b), .rows (p0.b.map zac) 8 w1_ 109]⟩ []) (callQ.ofG (by simp -implicitDefEqProofs -dsimp only [go_sem, h1, hb2, hb5, hb10, hb13, hb18, hb23, hb29]) (zbx h31)) ?_
         try simp -implicitDefEqProofs -dsimp only [go_sem, h1, hb2, hb5, hb10, hb13, hb18, hb23, hb29]
        refine W.cnd (!v30.1) (fun hb32 => ?_) fun hb32 => ?_
        ·replace hm := zal hb32 hm
         replace ⟨h33, hm⟩ := zav hm
         replace ⟨v34, h35, hm⟩ := zam hm
         refine W.sqJ [11] [] [] 0 [] [(4, .bool v34.1)] [zka v34.2 v34.2.at_ (zM 1 w1_ 8 p0.b), .rows (p0.b.map zac) 8 w1_ 109, .cells (zan v27.2.2) 0 63] zaC ?_ (hrun := ?_)
         rotate_left
         ·try simp -implicitDefEqProofs -dsimp only [go_sem, h1, hb2, hb5, hb10, hb13, hb18, hb23, hb29, hb32, h33]
          with_reducible refine exP.mk (.gheap [] ⟨[], [0, 1], [.ptr 0 0 0, zi 4, zqT (rd v30.2.l v30.2.at_)], [zka v30.2 v30.2.at_ (zM 1 w1_ 8 p0.b), .rows (p0.b.map zac) 8 w1_ 109], .bool v34.1, [zka v34.2 v34.2.at_ (zM 1 w1_ 8 p0.b), .rows (p0.b.map zac) 8 w1_ 109]⟩ []) (callQ.ofG (by simp -implicitDefEqProofs -dsimp only [go_sem, h1, hb2, hb5, hb10, hb13, hb18, hb23, hb29, hb32, h33]) (zaA h35)) ?_
          try simp -implicitDefEqProofs -dsimp only [go_sem, h1, hb2, hb5, hb10, hb13, hb18, hb23, hb29, hb32, h33]
         obtain rfl := zo hm
         exact W.ret (zaR.retW ⟨[], []⟩ RO)
        ·replace hm := zak hb32 hm
         refine W.skip ?_
         refine W.sq [] [] [zka v30.2 (zw (v30.2.at_ + 1)) (zM 1 w1_ 8 p0.b), .rows (p0.b.map zac) 8 w1_ 109, .cells (zan v27.2.2) 0 63] ?_
         refine W.sqh [] [(4, .bool true)] ?_
         obtain rfl := zo hm
         exact W.ret (zaR.retW ⟨[], []⟩ RO)
theorem zeV {p0 : zae} {p1 : zap} {w1_ : Nat} {r : Bool × zae × zap} (hm : zbP p0 p1 = some r) : HF Tryz.prog 103 [.ptr 0 0 0, .ptr 2 0 7] [zka p0 p0.at_ (zM 1 w1_ 8 p0.b), .rows (p0.b.map zac) 8 w1_ 109, .cells (zan p1) 0 63] (.bool r.1) [zka r.2.1 r.2.1.at_ (zM 1 w1_ 8 p0.b), .rows (p0.b.map zac) 8 w1_ 109, .cells (zan r.2.2) 0 63] := by
 rw [zbP] at hm
 refine HF.of Tryz.func103 rfl Tryz.ntmps103 (Nat.le_of_ble_eq_true rfl) rfl ?_
 have e0 : argS 0 [.ptr 0 0 0, .ptr 2 0 7] = [(0, .ptr 0 0 0), (1, .ptr 2 0 7)] := rfl
 rw [e0]
 refine W.sq [] [(0, .ptr 0 0 0), (1, .ptr 2 0 7)] [zka p0 p0.at_ (zM 1 w1_ 8 p0.b), .rows (p0.b.map zac) 8 w1_ 109, .cells (zan p1) 0 63] ?_
 replace ⟨h1, hm⟩ := zav hm
 refine W.sqJ [10, 11] [10, 11] [0, 1, 2, 3, 4, 5, 6, 7, 8, 9] 3 [] [(0, .ptr 0 0 0), (1, .ptr 2 0 7), (5, .ptr 3 0 0)] [zka p0 p0.at_ (zM 1 w1_ 8 p0.b), .rows (p0.b.map zac) 8 w1_ 109, .cells (zan p1) 0 63, .cells (zab (rd p0.l p0.at_)) 0 41] zaC ?_
 refine W.seq ?_
 refine W.sqh [] [(0, .ptr 0 0 0), (1, .ptr 2 0 7), (5, .ptr 3 0 0), (24, .bool ((rd p0.l p0.at_).Kind == 2))] ?_
 refine W.cnd ((rd p0.l p0.at_).Kind == 2) (fun hb2 => ?_) fun hb2 => ?_
 ·replace hm := zal hb2 hm
  replace ⟨v3, h4, hm⟩ := zam hm
  have kh4 := zdP h4
  try simp only [hb2] at kh4
  refine W.sq [] [(0, .ptr 0 0 0), (1, .ptr 2 0 7), (6, zi v3.1)] [zka p0 p0.at_ (zM 1 w1_ 8 p0.b), .rows (p0.b.map zac) 8 w1_ 109, .cells (zan p1) 0 63] ?_
  refine W.sq [] [(0, .ptr 0 0 0)] [zka p0 p0.at_ (zM 1 w1_ 8 p0.b), .rows (p0.b.map zac) 8 w1_ 109, .cells [zi p1.Op, .bool p1.Lock, zi p1.Cond, zi p1.A.Kind, zi p1.A.Reg, zi p1.A.Sym, zi p1.A.N, zi 2, zi 0, zi 0, zi v3.1, .str p1.To, .sl (p1.zLb.map eStr)] 0 63] ?_
  refine W.sq [] [] [zka p0 (zw (p0.at_ + 1)) (zM 1 w1_ 8 p0.b), .rows (p0.b.map zac) 8 w1_ 109, .cells [zi p1.Op, .bool p1.Lock, zi p1.Cond, zi p1.A.Kind, zi p1.A.Reg, zi p1.A.Sym, zi p1.A.N, zi 2, zi 0, zi 0, zi v3.1, .str p1.To, .sl (p1.zLb.map eStr)] 0 63] ?_
  refine W.sqh [] [(4, .bool true)] ?_
  obtain rfl := zo hm
  exact W.ret (zaR.retW ⟨[], []⟩ RO)
 ·replace hm := zak hb2 hm
  refine W.skip ?_
  refine W.seq ?_
  refine W.sq [] [(0, .ptr 0 0 0), (1, .ptr 2 0 7), (5, .ptr 3 0 0), (44, .bool ((rd p0.l p0.at_).Kind != 1))] [zka p0 p0.at_ (zM 1 w1_ 8 p0.b), .rows (p0.b.map zac) 8 w1_ 109, .cells (zan p1) 0 63, .cells (zab (rd p0.l p0.at_)) 0 41] ?_
  refine W.cnd ((rd p0.l p0.at_).Kind != 1) (fun hb5 => ?_) fun hb5 => ?_
  ·replace hm := zal hb5 hm
   replace ⟨v6, h7, hm⟩ := zam hm
   refine W.sq [] [(4, .bool v6.1)] [zka v6.2 v6.2.at_ (zM 1 w1_ 8 p0.b), .rows (p0.b.map zac) 8 w1_ 109, .cells (zan p1) 0 63] ?_ (hrun := ?_)
   rotate_left
   ·try simp -implicitDefEqProofs -dsimp only [go_sem, h1, hb2, hb5]
    with_reducible refine exP.mk (.gheap [] ⟨[], [0, 1], [.ptr 0 0 0, zi 4, zqT (rd p0.l p0.at_)], [zka p0 p0.at_ (zM 1 w1_ 8 p0.b), .rows (p0.b.map zac) 8 w1_ 109], .bool v6.1, [zka v6.2 v6.2.at_ (zM 1 w1_ 8 p0.b), .rows (p0.b.map zac) 8 w1_ 109]⟩ []) (callQ.ofG (by simp -implicitDefEqProofs -dsimp only [go_sem, h1, hb2, hb5]) (zaA h7)) ?_
    try simp -implicitDefEqProofs -dsimp only [go_sem, h1, hb2, hb5]
   obtain rfl := zo hm
   exact W.ret (zaR.retW ⟨[], []⟩ RO)
  ·replace hm := zak hb5 hm
   refine W.skip ?_
   refine W.seq ?_
   replace ⟨v8, h9, hm⟩ := zam hm
   have kh9 := zel h9
   try simp only [hb2, hb5] at kh9
   refine W.sq [] [(0, .ptr 0 0 0), (1, .ptr 2 0 7), (5, .ptr 3 0 0), (8, zi v8.1), (9, .bool v8.2)] [zka p0 p0.at_ (zM 1 w1_ 8 p0.b), .rows (p0.b.map zac) 8 w1_ 109, .cells (zan p1) 0 63, .cells (zab (rd p0.l p0.at_)) 0 41] ?_
   refine W.sqh [] [(0, .ptr 0 0 0), (1, .ptr 2 0 7), (5, .ptr 3 0 0), (8, zi v8.1), (54, .bool v8.2)] ?_
   refine W.cnd v8.2 (fun hb10 => ?_) fun hb10 => ?_
   ·replace hm := zal hb10 hm
    refine W.sq [] [(0, .ptr 0 0 0)] [zka p0 p0.at_ (zM 1 w1_ 8 p0.b), .rows (p0.b.map zac) 8 w1_ 109, .cells [zi p1.Op, .bool p1.Lock, zi p1.Cond, zi p1.A.Kind, zi p1.A.Reg, zi p1.A.Sym, zi p1.A.N, zi 1, zi v8.1, zi 0, zi 0, .str p1.To, .sl (p1.zLb.map eStr)] 0 63] ?_
    refine W.sq [] [] [zka p0 (zw (p0.at_ + 1)) (zM 1 w1_ 8 p0.b), .rows (p0.b.map zac) 8 w1_ 109, .cells [zi p1.Op, .bool p1.Lock, zi p1.Cond, zi p1.A.Kind, zi p1.A.Reg, zi p1.A.Sym, zi p1.A.N, zi 1, zi v8.1, zi 0, zi 0, .str p1.To, .sl (p1.zLb.map eStr)] 0 63] ?_
    refine W.sqh [] [(4, .bool true)] ?_
    obtain rfl := zo hm
    exact W.ret (zaR.retW ⟨[], []⟩ RO)
   ·replace hm := zak hb10 hm
    refine W.skip ?_
    refine W.seq ?_
    replace ⟨v11, h12, hm⟩ := zam hm
    have kh12 := zdv h12
    try simp only [hb2, hb5, hb10] at kh12
    refine W.sq [] [(0, .ptr 0 0 0), (1, .ptr 2 0 7), (5, .ptr 3 0 0), (68, .bool v11)] [zka p0 p0.at_ (zM 1 w1_ 8 p0.b), .rows (p0.b.map zac) 8 w1_ 109, .cells (zan p1) 0 63, .cells (zab (rd p0.l p0.at_)) 0 41] ?_
    refine W.cnd v11 (fun hb13 => ?_) fun hb13 => ?_
    ·replace hm := zal hb13 hm
     replace ⟨v14, h15, hm⟩ := zam hm
     refine W.sq [] [(4, .bool v14.1)] [zka v14.2 v14.2.at_ (zM 1 w1_ 8 p0.b), .rows (p0.b.map zac) 8 w1_ 109, .cells (zan p1) 0 63] ?_ (hrun := ?_)
     rotate_left
     ·try simp -implicitDefEqProofs -dsimp only [go_sem, h1, hb2, hb5, hb10, hb13]
      with_reducible refine exP.mk (.gheap [] ⟨[], [0, 1], [.ptr 0 0 0, zi 3, zqT (rd p0.l p0.at_)], [zka p0 p0.at_ (zM 1 w1_ 8 p0.b), .rows (p0.b.map zac) 8 w1_ 109], .bool v14.1, [zka v14.2 v14.2.at_ (zM 1 w1_ 8 p0.b), .rows (p0.b.map zac) 8 w1_ 109]⟩ []) (callQ.ofG (by simp -implicitDefEqProofs -dsimp only [go_sem, h1, hb2, hb5, hb10, hb13]) (zaA h15)) ?_
      try simp -implicitDefEqProofs -dsimp only [go_sem, h1, hb2, hb5, hb10, hb13]
     obtain rfl := zo hm
     exact W.ret (zaR.retW ⟨[], []⟩ RO)
    ·replace hm := zak hb13 hm
     refine W.skip ?_
     replace ⟨v16, h17, hm⟩ := zam hm
     refine W.sq [] [(0, .ptr 0 0 0), (1, .ptr 2 0 7), (5, .ptr 3 0 0), (10, zi v16.1), (11, .bool v16.2.1)] [zka v16.2.2 v16.2.2.at_ (zM 1 w1_ 8 p0.b), .rows (p0.b.map zac) 8 w1_ 109, .cells (zan p1) 0 63, .cells (zab (rd p0.l p0.at_)) 0 41] ?_ (hrun := ?_)
     rotate_left
     ·try simp -implicitDefEqProofs -dsimp only [go_sem, h1, hb2, hb5, hb10, hb13]
      with_reducible refine exP.mk (.gheap [] ⟨[], [0, 1], [.ptr 0 0 0, .str (rd p0.l p0.at_).Text], [zka p0 p0.at_ (zM 1 w1_ 8 p0.b), .rows (p0.b.map zac) 8 w1_ 109], .tuple [zi v16.1, .bool v16.2.1], [zka v16.2.2 v16.2.2.at_ (zM 1 w1_ 8 p0.b), .rows (p0.b.map zac) 8 w1_ 109]⟩ []) (callQ.ofG (by simp -implicitDefEqProofs -dsimp only [go_sem, h1, hb2, hb5, hb10, hb13]) (zd8 h17)) ?_
      try simp -implicitDefEqProofs -dsimp only [go_sem, h1, hb2, hb5, hb10, hb13]
     refine W.seq ?_
     refine W.sqh [] [(0, .ptr 0 0 0), (1, .ptr 2 0 7), (5, .ptr 3 0 0), (10, zi v16.1), (80, .bool (!v16.2.1))] ?_
     refine W.cnd (!v16.2.1) (fun hb18 => ?_) fun hb18 => ?_
     ·replace hm := zal hb18 hm
      replace ⟨v19, h20, hm⟩ := zam hm
      refine W.sq [] [(4, .bool v19.1)] [zka v19.2 v19.2.at_ (zM 1 w1_ 8 p0.b), .rows (p0.b.map zac) 8 w1_ 109, .cells (zan p1) 0 63] ?_ (hrun := ?_)
      rotate_left
      ·try simp -implicitDefEqProofs -dsimp only [go_sem, h1, hb2, hb5, hb10, hb13, hb18]
       with_reducible refine exP.mk (.gheap [] ⟨[], [0, 1], [.ptr 0 0 0, zi 7, zqT (rd p0.l p0.at_)], [zka v16.2.2 v16.2.2.at_ (zM 1 w1_ 8 p0.b), .rows (p0.b.map zac) 8 w1_ 109], .bool v19.1, [zka v19.2 v19.2.at_ (zM 1 w1_ 8 p0.b), .rows (p0.b.map zac) 8 w1_ 109]⟩ []) (callQ.ofG (by simp -implicitDefEqProofs -dsimp only [go_sem, h1, hb2, hb5, hb10, hb13, hb18]) (zaA h20)) ?_
       try simp -implicitDefEqProofs -dsimp only [go_sem, h1, hb2, hb5, hb10, hb13, hb18]
      obtain rfl := zo hm
      exact W.ret (zaR.retW ⟨[], []⟩ RO)
     ·replace hm := zak hb18 hm
      refine W.skip ?_
      refine W.sq [] [(0, .ptr 0 0 0), (1, .ptr 2 0 7), (10, zi v16.1)] [zka v16.2.2 (zw (v16.2.2.at_ + 1)) (zM 1 w1_ 8 p0.b), .rows (p0.b.map zac) 8 w1_ 109, .cells (zan p1) 0 63] ?_
      refine W.seq ?_
      replace ⟨v21, h22, hm⟩ := zam hm
      refine W.sq [] [(0, .ptr 0 0 0), (1, .ptr 2 0 7), (10, zi v16.1), (97, .bool (!v21.1))] [zka v21.2 v21.2.at_ (zM 1 w1_ 8 p0.b), .rows (p0.b.map zac) 8 w1_ 109, .cells (zan p1) 0 63] ?_ (hrun := ?_)
      rotate_left
      ·try simp -implicitDefEqProofs -dsimp only [go_sem, h1, hb2, hb5, hb10, hb13, hb18]
       with_reducible refine exP.mk (.gheap [] ⟨[], [0, 1], [.ptr 0 0 0, zi (zw (v16.2.2.at_ + 1)), .str (⟨#[91]⟩ : ByteArray)], [zka v16.2.2 (zw (v16.2.2.at_ + 1)) (zM 1 w1_ 8 p0.b), .rows (p0.b.map zac) 8 w1_ 109], .bool v21.1, [zka v21.2 v21.2.at_ (zM 1 w1_ 8 p0.b), .rows (p0.b.map zac) 8 w1_ 109]⟩ []) (callQ.ofG (by simp -implicitDefEqProofs -dsimp only [go_sem, h1, hb2, hb5, hb10, hb13, hb18]) (zbx h22)) ?_
       try simp -implicitDefEqProofs -dsimp only [go_sem, h1, hb2, hb5, hb10, hb13, hb18]
      refine W.cnd (!v21.1) (fun hb23 => ?_) fun hb23 => ?_
      ·replace hm := zal hb23 hm
       replace ⟨h24, hm⟩ := zav hm
       replace ⟨v25, h26, hm⟩ := zam hm
       refine W.sqJ [11] [] [] 0 [] [(4, .bool v25.1)] [zka v25.2 v25.2.at_ (zM 1 w1_ 8 p0.b), .rows (p0.b.map zac) 8 w1_ 109, .cells (zan p1) 0 63] zaC ?_ (hrun := ?_)
       rotate_left
       ·try simp -implicitDefEqProofs -dsimp only [go_sem, h1, hb2, hb5, hb10, hb13, hb18, hb23, h24]
        with_reducible refine exP.mk (.gheap [] ⟨[], [0, 1], [.ptr 0 0 0, zi 4, zqT (rd v21.2.l v21.2.at_)], [zka v21.2 v21.2.at_ (zM 1 w1_ 8 p0.b), .rows (p0.b.map zac) 8 w1_ 109], .bool v25.1, [zka v25.2 v25.2.at_ (zM 1 w1_ 8 p0.b), .rows (p0.b.map zac) 8 w1_ 109]⟩ []) (callQ.ofG (by simp -implicitDefEqProofs -dsimp only [go_sem, h1, hb2, hb5, hb10, hb13, hb18, hb23, h24]) (zaA h26)) ?_
        try simp -implicitDefEqProofs -dsimp only [go_sem, h1, hb2, hb5, hb10, hb13, hb18, hb23, h24]
       obtain rfl := zo hm
       exact W.ret (zaR.retW ⟨[], []⟩ RO)
      ·replace hm := zak hb23 hm
       refine W.skip ?_
       refine W.sq [] [(0, .ptr 0 0 0), (1, .ptr 2 0 7), (10, zi v16.1)] [zka v21.2 (zw (v21.2.at_ + 1)) (zM 1 w1_ 8 p0.b), .rows (p0.b.map zac) 8 w1_ 109, .cells (zan p1) 0 63] ?_
       refine W.seq ?_
       replace ⟨v27, h28, hm⟩ := zam hm
       refine W.sq [] [(0, .ptr 0 0 0), (121, .bool (!v27.1))] [zka v27.2.1 v27.2.1.at_ (zM 1 w1_ 8 p0.b), .rows (p0.b.map zac) 8 w1_ 109, .cells (zan v27.2.2) 0 63] ?_ (hrun := ?_)
       rotate_left
       ·try simp -implicitDefEqProofs -dsimp only [go_sem, h1, hb2, hb5, hb10, hb13, hb18, hb23]
        with_reducible refine exP.mk (.gheap [] ⟨[], [0, 1, 2], [.ptr 0 0 0, zi v16.1, .ptr 2 0 7], [zka v21.2 (zw (v21.2.at_ + 1)) (zM 1 w1_ 8 p0.b), .rows (p0.b.map zac) 8 w1_ 109, .cells (zan p1) 0 63], .bool v27.1, [zka v27.2.1 v27.2.1.at_ (zM 1 w1_ 8 p0.b), .rows (p0.b.map zac) 8 w1_ 109, .cells (zan v27.2.2) 0 63]⟩ []) (callQ.ofG (by simp -implicitDefEqProofs -dsimp only [go_sem, h1, hb2, hb5, hb10, hb13, hb18, hb23]) (zfj h28)) ?_
        try simp -implicitDefEqProofs -dsimp only [go_sem, h1, hb2, hb5, hb10, hb13, hb18, hb23]
       refine W.cnd (!v27.1) (fun hb29 => ?_) fun hb29 => ?_
       ·replace hm := zal hb29 hm
        refine W.sqh [] [(4, .bool false)] ?_
        obtain rfl := zo hm
        exact W.ret (zaR.retW ⟨[], []⟩ RO)
       ·replace hm := zak hb29 hm
        refine W.skip ?_
        refine W.seq ?_
        replace ⟨v30, h31, hm⟩ := zam hm
        refine W.sq [] [(0, .ptr 0 0 0), (128, .bool (!v30.1))] [zka v30.2 v30.2.at_ (zM 1 w1_ 8 p0.b), .rows (p0.b.map zac) 8 w1_ 109, .cells (zan v27.2.2) 0 63] ?_ (hrun := ?_)
        rotate_left
        ·try simp -implicitDefEqProofs -dsimp only [go_sem, h1, hb2, hb5, hb10, hb13, hb18, hb23, hb29]
         with_reducible refine exP.mk (.gheap [] ⟨[], [0, 1], [.ptr 0 0 0, zi v27.2.1.at_, .str (⟨#[93]⟩ : ByteArray)], [zka v27.2.1 v27.2.1.at_ (zM 1 w1_ 8 p0.b), .rows (p0.b.map zac) 8 w1_ 109], .bool v30.1, [zka v30.2 v30.2.at_ (zM 1 w1_ 8 p0.b), .rows (p0.b.map zac) 8 w1_ 109]⟩ []) (callQ.ofG (by simp -implicitDefEqProofs -dsimp only [go_sem, h1, hb2, hb5, hb10, hb13, hb18, hb23, hb29]) (zbx h31)) ?_
         try simp -implicitDefEqProofs -dsimp only [go_sem, h1, hb2, hb5, hb10, hb13, hb18, hb23, hb29]
        refine W.cnd (!v30.1) (fun hb32 => ?_) fun hb32 => ?_
        ·replace hm := zal hb32 hm
         replace ⟨h33, hm⟩ := zav hm
         replace ⟨v34, h35, hm⟩ := zam hm
         refine W.sqJ [11] [] [] 0 [] [(4, .bool v34.1)] [zka v34.2 v34.2.at_ (zM 1 w1_ 8 p0.b), .rows (p0.b.map zac) 8 w1_ 109, .cells (zan v27.2.2) 0 63] zaC ?_ (hrun := ?_)
         rotate_left
         ·try simp -implicitDefEqProofs -dsimp only [go_sem, h1, hb2, hb5, hb10, hb13, hb18, hb23, hb29, hb32, h33]
          with_reducible refine exP.mk (.gheap [] ⟨[], [0, 1], [.ptr 0 0 0, zi 4, zqT (rd v30.2.l v30.2.at_)], [zka v30.2 v30.2.at_ (zM 1 w1_ 8 p0.b), .rows (p0.b.map zac) 8 w1_ 109], .bool v34.1, [zka v34.2 v34.2.at_ (zM 1 w1_ 8 p0.b), .rows (p0.b.map zac) 8 w1_ 109]⟩ []) (callQ.ofG (by simp -implicitDefEqProofs -dsimp only [go_sem, h1, hb2, hb5, hb10, hb13, hb18, hb23, hb29, hb32, h33]) (zaA h35)) ?_
          try simp -implicitDefEqProofs -dsimp only [go_sem, h1, hb2, hb5, hb10, hb13, hb18, hb23, hb29, hb32, h33]
         obtain rfl := zo hm
         exact W.ret (zaR.retW ⟨[], []⟩ RO)
        ·replace hm := zak hb32 hm
         refine W.skip ?_
         refine W.sq [] [] [zka v30.2 (zw (v30.2.at_ + 1)) (zM 1 w1_ 8 p0.b), .rows (p0.b.map zac) 8 w1_ 109, .cells (zan v27.2.2) 0 63] ?_
         refine W.sqh [] [(4, .bool true)] ?_
         obtain rfl := zo hm
         exact W.ret (zaR.retW ⟨[], []⟩ RO)
theorem zeU {p0 : zae} {p1 : zap} {w1_ : Nat} {r : zap × Bool × zae} (hm : zbt p0 p1 = some r) : HF Tryz.prog 94 [.ptr 0 0 0, .agg [zi p1.Op, .bool p1.Lock, zi p1.Cond, zi p1.A.Kind, zi p1.A.Reg, zi p1.A.Sym, zi p1.A.N, zi p1.B.Kind, zi p1.B.Reg, zi p1.B.Sym, zi p1.B.N, .str p1.To, .sl (p1.zLb.map eStr)]] [zka p0 p0.at_ (zM 1 w1_ 8 p0.b), .rows (p0.b.map zac) 8 w1_ 109] (.tuple [.agg [zi r.1.Op, .bool r.1.Lock, zi r.1.Cond, zi r.1.A.Kind, zi r.1.A.Reg, zi r.1.A.Sym, zi r.1.A.N, zi r.1.B.Kind, zi r.1.B.Reg, zi r.1.B.Sym, zi r.1.B.N, .str r.1.To, .sl (r.1.zLb.map eStr)], .bool r.2.1]) [zka r.2.2 r.2.2.at_ (zM 1 w1_ 8 p0.b), .rows (p0.b.map zac) 8 w1_ 109] := by
 rw [zbt] at hm
 refine HF.of Tryz.func94 rfl Tryz.ntmps94 (Nat.le_of_ble_eq_true rfl) rfl ?_
 have e0 : argS 0 [.ptr 0 0 0, .agg [zi p1.Op, .bool p1.Lock, zi p1.Cond, zi p1.A.Kind, zi p1.A.Reg, zi p1.A.Sym, zi p1.A.N, zi p1.B.Kind, zi p1.B.Reg, zi p1.B.Sym, zi p1.B.N, .str p1.To, .sl (p1.zLb.map eStr)]] = [(0, .ptr 0 0 0), (1, .agg [zi p1.Op, .bool p1.Lock, zi p1.Cond, zi p1.A.Kind, zi p1.A.Reg, zi p1.A.Sym, zi p1.A.N, zi p1.B.Kind, zi p1.B.Reg, zi p1.B.Sym, zi p1.B.N, .str p1.To, .sl (p1.zLb.map eStr)])] := rfl
 rw [e0]
 refine W.sq [] [(0, .ptr 0 0 0), (3, .ptr 2 0 0), (4, .ptr 3 0 0)] [zka p0 p0.at_ (zM 1 w1_ 8 p0.b), .rows (p0.b.map zac) 8 w1_ 109, .cells (zan p1) 0 63, .cells [zi 0, .bool false, zi 0, zi 0, zi 0, zi 0, zi 0, zi 0, zi 0, zi 0, zi 0, .str (⟨#[]⟩ : ByteArray), .nils] 0 63] ?_
 replace ⟨h1, hm⟩ := zav hm
 refine W.sqJ [10, 11] [10, 11] [0, 1, 2, 3, 4, 5, 6, 7, 8, 9] 4 [] [(0, .ptr 0 0 0), (3, .ptr 2 0 0), (4, .ptr 3 0 0), (6, .ptr 4 0 0)] [zka p0 p0.at_ (zM 1 w1_ 8 p0.b), .rows (p0.b.map zac) 8 w1_ 109, .cells (zan p1) 0 63, .cells [zi 0, .bool false, zi 0, zi 0, zi 0, zi 0, zi 0, zi 0, zi 0, zi 0, zi 0, .str (⟨#[]⟩ : ByteArray), .nils] 0 63, .cells (zab (rd p0.l p0.at_)) 0 41] zaC ?_
 refine W.seq ?_
 replace ⟨v2, h3, hm⟩ := zam hm
 refine W.sq [] [(0, .ptr 0 0 0), (3, .ptr 2 0 0), (4, .ptr 3 0 0), (6, .ptr 4 0 0), (21, .bool (!v2.1))] [zka v2.2.1 v2.2.1.at_ (zM 1 w1_ 8 p0.b), .rows (p0.b.map zac) 8 w1_ 109, .cells (zan v2.2.2) 0 63, .cells [zi 0, .bool false, zi 0, zi 0, zi 0, zi 0, zi 0, zi 0, zi 0, zi 0, zi 0, .str (⟨#[]⟩ : ByteArray), .nils] 0 63, .cells (zab (rd p0.l p0.at_)) 0 41] ?_ (hrun := ?_)
 rotate_left
 ·try simp -implicitDefEqProofs -dsimp only [go_sem, h1]
  with_reducible refine exP.mk (.gheap [] ⟨[], [0, 1, 2], [.ptr 0 0 0, .ptr 2 0 3], [zka p0 p0.at_ (zM 1 w1_ 8 p0.b), .rows (p0.b.map zac) 8 w1_ 109, .cells (zan p1) 0 63], .bool v2.1, [zka v2.2.1 v2.2.1.at_ (zM 1 w1_ 8 p0.b), .rows (p0.b.map zac) 8 w1_ 109, .cells (zan v2.2.2) 0 63]⟩ []) (callQ.ofG (by simp -implicitDefEqProofs -dsimp only [go_sem, h1]) (zeW h3)) ?_
  try simp -implicitDefEqProofs -dsimp only [go_sem, h1]
 refine W.cnd (!v2.1) (fun hb4 => ?_) fun hb4 => ?_
 ·replace hm := zal hb4 hm
  refine W.sq [] [(4, .ptr 3 0 0), (5, .bool false)] [zka v2.2.1 v2.2.1.at_ (zM 1 w1_ 8 p0.b), .rows (p0.b.map zac) 8 w1_ 109, .dead, .cells (zan v2.2.2) 0 63] ?_
  obtain rfl := zo hm
  exact W.ret (zaR.retW ⟨[], []⟩ RO)
 ·replace hm := zak hb4 hm
  refine W.skip ?_
  refine W.sq [] [(0, .ptr 0 0 0), (3, .ptr 2 0 0), (4, .ptr 3 0 0), (6, .ptr 4 0 0), (7, .bool (((v2.2.2.A.Kind == 1) && (!v2.2.2.Lock)) && (v2.2.2.Op != 8)))] [zka v2.2.1 v2.2.1.at_ (zM 1 w1_ 8 p0.b), .rows (p0.b.map zac) 8 w1_ 109, .cells (zan v2.2.2) 0 63, .cells [zi 0, .bool false, zi 0, zi 0, zi 0, zi 0, zi 0, zi 0, zi 0, zi 0, zi 0, .str (⟨#[]⟩ : ByteArray), .nils] 0 63, .cells (zab (rd p0.l p0.at_)) 0 41] ?_
  refine W.seq ?_
  replace ⟨b5, h6, hm⟩ := zaN hm
  refine W.sqh [] [(0, .ptr 0 0 0), (3, .ptr 2 0 0), (4, .ptr 3 0 0), (6, .ptr 4 0 0), (50, .bool b5)] ?_
  clear h6
  refine W.cnd b5 (fun hb7 => ?_) fun hb7 => ?_
  ·replace hm := zal hb7 hm
   replace ⟨v8, h9, hm⟩ := zam hm
   refine W.sqL [.light, .light, .light, .callh, .store, .light] [([2], []), ([], []), ([4], []), ([0, 1], [0, 1]), ([3], [3]), ([], [])] [] [(4, .ptr 3 0 0), (5, .bool v8.1)] [zka v8.2 v8.2.at_ (zM 1 w1_ 8 p0.b), .rows (p0.b.map zac) 8 w1_ 109, .dead, .cells (zan v2.2.2) 0 63] zaC ?_ (hrun := ?_)
   rotate_left
   ·try simp -implicitDefEqProofs -dsimp only [go_sem, h1, hb4, hb7]
    with_reducible refine exP.mk ⟨[], [0, 1], [.ptr 0 0 0, zi 4, zqT (rd p0.l p0.at_)], [zka v2.2.1 v2.2.1.at_ (zM 1 w1_ 8 p0.b), .rows (p0.b.map zac) 8 w1_ 109], .bool v8.1, [zka v8.2 v8.2.at_ (zM 1 w1_ 8 p0.b), .rows (p0.b.map zac) 8 w1_ 109]⟩ (zgH.of (by simp -implicitDefEqProofs -dsimp only [go_sem, h1, hb4, hb7]) (zaA h9)) ?_
    try simp -implicitDefEqProofs -dsimp only [go_sem, h1, hb4, hb7]
   obtain rfl := zo hm
   exact W.ret (zaR.retW ⟨[], []⟩ RO)
  ·replace hm := zak hb7 hm
   refine W.skip ?_
   refine W.seq ?_
   replace ⟨v10, h11, hm⟩ := zam hm
   refine W.sq [] [(0, .ptr 0 0 0), (3, .ptr 2 0 0), (4, .ptr 3 0 0), (6, .ptr 4 0 0), (61, .bool (!v10.1))] [zka v10.2 v10.2.at_ (zM 1 w1_ 8 p0.b), .rows (p0.b.map zac) 8 w1_ 109, .cells (zan v2.2.2) 0 63, .cells [zi 0, .bool false, zi 0, zi 0, zi 0, zi 0, zi 0, zi 0, zi 0, zi 0, zi 0, .str (⟨#[]⟩ : ByteArray), .nils] 0 63, .cells (zab (rd p0.l p0.at_)) 0 41] ?_ (hrun := ?_)
   rotate_left
   ·try simp -implicitDefEqProofs -dsimp only [go_sem, h1, hb4, hb7]
    with_reducible refine exP.mk (.gheap [] ⟨[], [0, 1], [.ptr 0 0 0, zi v2.2.1.at_, .str (⟨#[44]⟩ : ByteArray)], [zka v2.2.1 v2.2.1.at_ (zM 1 w1_ 8 p0.b), .rows (p0.b.map zac) 8 w1_ 109], .bool v10.1, [zka v10.2 v10.2.at_ (zM 1 w1_ 8 p0.b), .rows (p0.b.map zac) 8 w1_ 109]⟩ []) (callQ.ofG (by simp -implicitDefEqProofs -dsimp only [go_sem, h1, hb4, hb7]) (zbx h11)) ?_
    try simp -implicitDefEqProofs -dsimp only [go_sem, h1, hb4, hb7]
   refine W.cnd (!v10.1) (fun hb12 => ?_) fun hb12 => ?_
   ·replace hm := zal hb12 hm
    replace ⟨h13, hm⟩ := zav hm
    replace ⟨v14, h15, hm⟩ := zam hm
    refine W.sqL [.light, .light, .light, .light, .light, .light, .light, .light, .light, .light, .light, .light, .callh, .store, .light] [([2], []), ([], []), ([], []), ([], []), ([], []), ([0], []), ([], []), ([], []), ([], []), ([0], []), ([], []), ([], []), ([0, 1], [0, 1]), ([3], [3]), ([], [])] [] [(4, .ptr 3 0 0), (5, .bool v14.1)] [zka v14.2 v14.2.at_ (zM 1 w1_ 8 p0.b), .rows (p0.b.map zac) 8 w1_ 109, .dead, .cells (zan v2.2.2) 0 63] zaC ?_ (hrun := ?_)
    rotate_left
    ·try simp -implicitDefEqProofs -dsimp only [go_sem, h1, hb4, hb7, hb12, h13]
     with_reducible refine exP.mk ⟨[], [0, 1], [.ptr 0 0 0, zi 4, zqT (rd v10.2.l v10.2.at_)], [zka v10.2 v10.2.at_ (zM 1 w1_ 8 p0.b), .rows (p0.b.map zac) 8 w1_ 109], .bool v14.1, [zka v14.2 v14.2.at_ (zM 1 w1_ 8 p0.b), .rows (p0.b.map zac) 8 w1_ 109]⟩ (zgH.of (by simp -implicitDefEqProofs -dsimp only [go_sem, h1, hb4, hb7, hb12, h13]) (zaA h15)) ?_
     try simp -implicitDefEqProofs -dsimp only [go_sem, h1, hb4, hb7, hb12, h13]
    obtain rfl := zo hm
    exact W.ret (zaR.retW ⟨[], []⟩ RO)
   ·replace hm := zak hb12 hm
    refine W.skip ?_
    refine W.sq [] [(0, .ptr 0 0 0), (3, .ptr 2 0 0), (4, .ptr 3 0 0), (6, .ptr 4 0 0)] [zka v10.2 (zw (v10.2.at_ + 1)) (zM 1 w1_ 8 p0.b), .rows (p0.b.map zac) 8 w1_ 109, .cells (zan v2.2.2) 0 63, .cells [zi 0, .bool false, zi 0, zi 0, zi 0, zi 0, zi 0, zi 0, zi 0, zi 0, zi 0, .str (⟨#[]⟩ : ByteArray), .nils] 0 63, .cells (zab (rd p0.l p0.at_)) 0 41] ?_
    replace ⟨h16, hm⟩ := zav hm
    refine W.sqJ [10] [] [] 0 [] [(0, .ptr 0 0 0), (3, .ptr 2 0 0), (4, .ptr 3 0 0), (6, .ptr 4 0 0)] [zka v10.2 (zw (v10.2.at_ + 1)) (zM 1 w1_ 8 p0.b), .rows (p0.b.map zac) 8 w1_ 109, .cells (zan v2.2.2) 0 63, .cells [zi 0, .bool false, zi 0, zi 0, zi 0, zi 0, zi 0, zi 0, zi 0, zi 0, zi 0, .str (⟨#[]⟩ : ByteArray), .nils] 0 63, .cells (zab (rd v10.2.l (zw (v10.2.at_ + 1)))) 0 41] zaC ?_
    refine W.seq ?_
    replace ⟨v17, h18, hm⟩ := zam hm
    refine W.sq [] [(0, .ptr 0 0 0), (3, .ptr 2 0 0), (4, .ptr 3 0 0), (6, .ptr 4 0 0), (95, .bool (!v17.1))] [zka v17.2.1 v17.2.1.at_ (zM 1 w1_ 8 p0.b), .rows (p0.b.map zac) 8 w1_ 109, .cells (zan v17.2.2) 0 63, .cells [zi 0, .bool false, zi 0, zi 0, zi 0, zi 0, zi 0, zi 0, zi 0, zi 0, zi 0, .str (⟨#[]⟩ : ByteArray), .nils] 0 63, .cells (zab (rd v10.2.l (zw (v10.2.at_ + 1)))) 0 41] ?_ (hrun := ?_)
    rotate_left
    ·try simp -implicitDefEqProofs -dsimp only [go_sem, h1, hb4, hb7, hb12, h16]
     with_reducible refine exP.mk (.gheap [] ⟨[], [0, 1, 2], [.ptr 0 0 0, .ptr 2 0 7], [zka v10.2 (zw (v10.2.at_ + 1)) (zM 1 w1_ 8 p0.b), .rows (p0.b.map zac) 8 w1_ 109, .cells (zan v2.2.2) 0 63], .bool v17.1, [zka v17.2.1 v17.2.1.at_ (zM 1 w1_ 8 p0.b), .rows (p0.b.map zac) 8 w1_ 109, .cells (zan v17.2.2) 0 63]⟩ []) (callQ.ofG (by simp -implicitDefEqProofs -dsimp only [go_sem, h1, hb4, hb7, hb12, h16]) (zeV h18)) ?_
     try simp -implicitDefEqProofs -dsimp only [go_sem, h1, hb4, hb7, hb12, h16]
    refine W.cnd (!v17.1) (fun hb19 => ?_) fun hb19 => ?_
    ·replace hm := zal hb19 hm
     refine W.sq [] [(4, .ptr 3 0 0), (5, .bool false)] [zka v17.2.1 v17.2.1.at_ (zM 1 w1_ 8 p0.b), .rows (p0.b.map zac) 8 w1_ 109, .dead, .cells (zan v17.2.2) 0 63] ?_
     obtain rfl := zo hm
     exact W.ret (zaR.retW ⟨[], []⟩ RO)
    ·replace hm := zak hb19 hm
     refine W.skip ?_
     refine W.seq ?_
     replace ⟨v20, h21, hm⟩ := zam hm
     have kh21 := zkk h21
     try simp only [hb4, hb7, hb12, hb19] at kh21
     refine W.sq [] [(0, .ptr 0 0 0), (3, .ptr 2 0 0), (4, .ptr 3 0 0), (6, .ptr 4 0 0), (99, .bool (v20 != 0))] [zka v17.2.1 v17.2.1.at_ (zM 1 w1_ 8 p0.b), .rows (p0.b.map zac) 8 w1_ 109, .cells (zan v17.2.2) 0 63, .cells [zi 0, .bool false, zi 0, zi 0, zi 0, zi 0, zi 0, zi 0, zi 0, zi 0, zi 0, .str (⟨#[]⟩ : ByteArray), .nils] 0 63, .cells (zab (rd v10.2.l (zw (v10.2.at_ + 1)))) 0 41] ?_
     refine W.cnd (v20 != 0) (fun hb22 => ?_) fun hb22 => ?_
     ·replace hm := zal hb22 hm
      replace ⟨v23, h24, hm⟩ := zam hm
      refine W.sqL [.light, .light, .light, .callh, .store, .light] [([2], []), ([], []), ([4], []), ([0, 1], [0, 1]), ([3], [3]), ([], [])] [] [(4, .ptr 3 0 0), (5, .bool v23.1)] [zka v23.2 v23.2.at_ (zM 1 w1_ 8 p0.b), .rows (p0.b.map zac) 8 w1_ 109, .dead, .cells (zan v17.2.2) 0 63] zaC ?_ (hrun := ?_)
      rotate_left
      ·try simp -implicitDefEqProofs -dsimp only [go_sem, h1, hb4, hb7, hb12, h16, hb19, hb22]
       with_reducible refine exP.mk ⟨[], [0, 1], [.ptr 0 0 0, zi 4, zqT (rd v10.2.l (zw (v10.2.at_ + 1)))], [zka v17.2.1 v17.2.1.at_ (zM 1 w1_ 8 p0.b), .rows (p0.b.map zac) 8 w1_ 109], .bool v23.1, [zka v23.2 v23.2.at_ (zM 1 w1_ 8 p0.b), .rows (p0.b.map zac) 8 w1_ 109]⟩ (zgH.of (by simp -implicitDefEqProofs -dsimp only [go_sem, h1, hb4, hb7, hb12, h16, hb19, hb22]) (zaA h24)) ?_
       try simp -implicitDefEqProofs -dsimp only [go_sem, h1, hb4, hb7, hb12, h16, hb19, hb22]
      obtain rfl := zo hm
      exact W.ret (zaR.retW ⟨[], []⟩ RO)
     ·replace hm := zak hb22 hm
      refine W.skip ?_
      refine W.sq [] [(4, .ptr 3 0 0), (5, .bool true)] [zka v17.2.1 v17.2.1.at_ (zM 1 w1_ 8 p0.b), .rows (p0.b.map zac) 8 w1_ 109, .dead, .cells (zan v17.2.2) 0 63] ?_
      obtain rfl := zo hm
      exact W.ret (zaR.retW ⟨[], []⟩ RO)
theorem zeo {p0 : zae} {p1 : Int} {w1_ : Nat} {r : zap × Bool × zae} (hm : zbc p0 p1 = some r) : HF Tryz.prog 83 [.ptr 0 0 0, .eptr 1 w1_ 8 p1.toNat 0] [zka p0 p0.at_ (zM 1 w1_ 8 p0.b), .rows (p0.b.map zac) 8 w1_ 109] (.tuple [.agg [zi r.1.Op, .bool r.1.Lock, zi r.1.Cond, zi r.1.A.Kind, zi r.1.A.Reg, zi r.1.A.Sym, zi r.1.A.N, zi r.1.B.Kind, zi r.1.B.Reg, zi r.1.B.Sym, zi r.1.B.N, .str r.1.To, .sl (r.1.zLb.map eStr)], .bool r.2.1]) [zka r.2.2 r.2.2.at_ (zM 1 w1_ 8 r.2.2.b), .rows (r.2.2.b.map zac) 8 w1_ 109] := by
 rw [zbc] at hm
 replace ⟨he0, hm⟩ := zav hm
 refine HF.of Tryz.func83 rfl Tryz.ntmps83 (Nat.le_of_ble_eq_true rfl) rfl ?_
 have e0 : argS 0 [.ptr 0 0 0, .eptr 1 w1_ 8 p1.toNat 0] = [(0, .ptr 0 0 0), (1, .eptr 1 w1_ 8 p1.toNat 0)] := rfl
 rw [e0]
 refine W.sq [] [(0, .ptr 0 0 0), (1, .eptr 1 w1_ 8 p1.toNat 0), (4, .ptr 2 0 0)] [zka p0 p0.at_ (zM 1 w1_ 8 p0.b), .rows (p0.b.map zac) 8 w1_ 109, .cells [zi 0, .bool false, zi 0, zi 0, zi 0, zi 0, zi 0, zi 0, zi 0, zi 0, zi 0, .str (⟨#[]⟩ : ByteArray), .nils] 0 63] ?_
 refine W.sq [] [(0, .ptr 0 0 0), (1, .eptr 1 w1_ 8 p1.toNat 0), (4, .ptr 2 0 0), (6, .ptr 3 0 0)] [zka p0 p0.at_ (zM 1 w1_ 8 p0.b), .rows (p0.b.map zac) 8 w1_ 109, .cells [zi 0, .bool false, zi 0, zi 0, zi 0, zi 0, zi 0, zi 0, zi 0, zi 0, zi 0, .str (⟨#[]⟩ : ByteArray), .nils] 0 63, .cells [zi 0, .bool false, zi 0, zi 0, zi 0, zi 0, zi 0, zi 0, zi 0, zi 0, zi 0, .str (⟨#[]⟩ : ByteArray), .nils] 0 63] ?_
 replace ⟨h1, hm⟩ := zav hm
 refine W.sqJ [10, 11] [10, 11] [0, 1, 2, 3, 4, 5, 6, 7, 8, 9] 4 [] [(0, .ptr 0 0 0), (1, .eptr 1 w1_ 8 p1.toNat 0), (4, .ptr 2 0 0), (6, .ptr 3 0 0), (7, .ptr 4 0 0)] [zka p0 p0.at_ (zM 1 w1_ 8 p0.b), .rows (p0.b.map zac) 8 w1_ 109, .cells [zi 0, .bool false, zi 0, zi 0, zi 0, zi 0, zi 0, zi 0, zi 0, zi 0, zi 0, .str (⟨#[]⟩ : ByteArray), .nils] 0 63, .cells [zi 0, .bool false, zi 0, zi 0, zi 0, zi 0, zi 0, zi 0, zi 0, zi 0, zi 0, .str (⟨#[]⟩ : ByteArray), .nils] 0 63, .cells (zab (rd p0.l p0.at_)) 0 41] zaC ?_
 refine W.seq ?_
 refine W.sqh [] [(0, .ptr 0 0 0), (1, .eptr 1 w1_ 8 p1.toNat 0), (4, .ptr 2 0 0), (6, .ptr 3 0 0), (7, .ptr 4 0 0), (24, .bool ((rd p0.l p0.at_).Kind != 1))] ?_
 refine W.cnd ((rd p0.l p0.at_).Kind != 1) (fun hb2 => ?_) fun hb2 => ?_
 ·replace hm := zal hb2 hm
  replace ⟨v3, h4, hm⟩ := zam hm
  refine W.sqL [.light, .light, .light, .callh, .store, .light] [([3], []), ([], []), ([4], []), ([0, 1], [0, 1]), ([2], [2]), ([], [])] [] [(4, .ptr 2 0 0), (5, .bool v3.1)] [zka v3.2 v3.2.at_ (zM 1 w1_ 8 p0.b), .rows (p0.b.map zac) 8 w1_ 109, .cells [zi 0, .bool false, zi 0, zi 0, zi 0, zi 0, zi 0, zi 0, zi 0, zi 0, zi 0, .str (⟨#[]⟩ : ByteArray), .nils] 0 63] zaC ?_ (hrun := ?_)
  rotate_left
  ·try simp -implicitDefEqProofs -dsimp only [go_sem, he0, h1, hb2]
   with_reducible refine exP.mk ⟨[], [0, 1], [.ptr 0 0 0, zi 4, zqT (rd p0.l p0.at_)], [zka p0 p0.at_ (zM 1 w1_ 8 p0.b), .rows (p0.b.map zac) 8 w1_ 109], .bool v3.1, [zka v3.2 v3.2.at_ (zM 1 w1_ 8 p0.b), .rows (p0.b.map zac) 8 w1_ 109]⟩ (zgH.of (by simp -implicitDefEqProofs -dsimp only [go_sem, he0, h1, hb2]) (zaA h4)) ?_
   try simp -implicitDefEqProofs -dsimp only [go_sem, he0, h1, hb2]
  obtain rfl := zo hm
  refine W.wk ⟨[], []⟩ [(4, .ptr 2 0 0), (5, .bool v3.1)] [zka v3.2 v3.2.at_ (zM 1 w1_ 8 p0.b), .rows (p0.b.map zac) 8 w1_ 109, .cells [zi 0, .bool false, zi 0, zi 0, zi 0, zi 0, zi 0, zi 0, zi 0, zi 0, zi 0, .str (⟨#[]⟩ : ByteArray), .sl (([]).map eStr)] 0 63] ?_
  exact W.ret (zaR.retW ⟨[], []⟩ RO)
 ·replace hm := zak hb2 hm
  refine W.skip ?_
  refine W.cut (fun s h => ∃ (v : Int × Bool × Int × Int × Int × ByteArray) (w : Unit) (F : Gs), za6 p0 p1 v.1 v.2.1 v.2.2.1 v.2.2.2.1 v.2.2.2.2.1 v.2.2.2.2.2 = some r /\ AT 2 F [(0, .ptr 0 0 0), (1, .eptr 1 w1_ 8 p1.toNat 0), (4, .ptr 2 0 0), (6, .ptr 3 0 0), (7, .ptr 4 0 0)] [zka p0 v.1 (zM 1 w1_ 8 p0.b), .rows (p0.b.map zac) 8 w1_ 109, .cells [zi 0, .bool false, zi 0, zi 0, zi 0, zi 0, zi 0, zi 0, zi 0, zi 0, zi 0, .str (⟨#[]⟩ : ByteArray), .nils] 0 63, .cells [zi 0, .bool v.2.1, zi 0, zi 0, zi 0, zi 0, zi 0, zi 0, zi 0, zi 0, zi 0, .str (⟨#[]⟩ : ByteArray), .nils] 0 63, .cells [zi v.2.2.1, zi v.2.2.2.1, zi v.2.2.2.2.1, .str v.2.2.2.2.2] 0 41] s h) ?_ ?_
  ·refine W.sq [] [(0, .ptr 0 0 0), (1, .eptr 1 w1_ 8 p1.toNat 0), (4, .ptr 2 0 0), (6, .ptr 3 0 0), (7, .ptr 4 0 0), (31, .bool (decide ((rd p0.l p0.at_).Text = (⟨#[108, 111, 99, 107]⟩ : ByteArray))))] [zka p0 p0.at_ (zM 1 w1_ 8 p0.b), .rows (p0.b.map zac) 8 w1_ 109, .cells [zi 0, .bool false, zi 0, zi 0, zi 0, zi 0, zi 0, zi 0, zi 0, zi 0, zi 0, .str (⟨#[]⟩ : ByteArray), .nils] 0 63, .cells [zi 0, .bool false, zi 0, zi 0, zi 0, zi 0, zi 0, zi 0, zi 0, zi 0, zi 0, .str (⟨#[]⟩ : ByteArray), .nils] 0 63, .cells (zab (rd p0.l p0.at_)) 0 41] ?_
   refine W.cnd (decide ((rd p0.l p0.at_).Text = (⟨#[108, 111, 99, 107]⟩ : ByteArray))) (fun hb37 => ?_) fun hb37 => ?_
   ·replace hm := zal hb37 hm
    refine W.sq [] [(0, .ptr 0 0 0), (1, .eptr 1 w1_ 8 p1.toNat 0), (4, .ptr 2 0 0), (6, .ptr 3 0 0), (7, .ptr 4 0 0)] [zka p0 p0.at_ (zM 1 w1_ 8 p0.b), .rows (p0.b.map zac) 8 w1_ 109, .cells [zi 0, .bool false, zi 0, zi 0, zi 0, zi 0, zi 0, zi 0, zi 0, zi 0, zi 0, .str (⟨#[]⟩ : ByteArray), .nils] 0 63, .cells [zi 0, .bool true, zi 0, zi 0, zi 0, zi 0, zi 0, zi 0, zi 0, zi 0, zi 0, .str (⟨#[]⟩ : ByteArray), .nils] 0 63, .cells (zab (rd p0.l p0.at_)) 0 41] ?_
    refine W.sq [] [(0, .ptr 0 0 0), (1, .eptr 1 w1_ 8 p1.toNat 0), (4, .ptr 2 0 0), (6, .ptr 3 0 0), (7, .ptr 4 0 0)] [zka p0 (zw (p0.at_ + 1)) (zM 1 w1_ 8 p0.b), .rows (p0.b.map zac) 8 w1_ 109, .cells [zi 0, .bool false, zi 0, zi 0, zi 0, zi 0, zi 0, zi 0, zi 0, zi 0, zi 0, .str (⟨#[]⟩ : ByteArray), .nils] 0 63, .cells [zi 0, .bool true, zi 0, zi 0, zi 0, zi 0, zi 0, zi 0, zi 0, zi 0, zi 0, .str (⟨#[]⟩ : ByteArray), .nils] 0 63, .cells (zab (rd p0.l p0.at_)) 0 41] ?_
    replace ⟨h38, hm⟩ := zav hm
    refine W.rgJ [10] [] [] 0 [] [(0, .ptr 0 0 0), (1, .eptr 1 w1_ 8 p1.toNat 0), (4, .ptr 2 0 0), (6, .ptr 3 0 0), (7, .ptr 4 0 0)] [zka p0 (zw (p0.at_ + 1)) (zM 1 w1_ 8 p0.b), .rows (p0.b.map zac) 8 w1_ 109, .cells [zi 0, .bool false, zi 0, zi 0, zi 0, zi 0, zi 0, zi 0, zi 0, zi 0, zi 0, .str (⟨#[]⟩ : ByteArray), .nils] 0 63, .cells [zi 0, .bool true, zi 0, zi 0, zi 0, zi 0, zi 0, zi 0, zi 0, zi 0, zi 0, .str (⟨#[]⟩ : ByteArray), .nils] 0 63, .cells (zab (rd p0.l (zw (p0.at_ + 1)))) 0 41] zaC ?_
    exact ⟨((zw (p0.at_ + 1)), true, (rd p0.l (zw (p0.at_ + 1))).Kind, (rd p0.l (zw (p0.at_ + 1))).Line, (rd p0.l (zw (p0.at_ + 1))).Col, (rd p0.l (zw (p0.at_ + 1))).Text), (), ⟨[], []⟩, hm, RO⟩
   ·replace hm := zak hb37 hm
    refine W.skip ?_
    exact ⟨(p0.at_, false, (rd p0.l p0.at_).Kind, (rd p0.l p0.at_).Line, (rd p0.l p0.at_).Col, (rd p0.l p0.at_).Text), (), ⟨[], []⟩, hm, RO⟩
  ·rintro s h ⟨⟨i5, b6, i7, i9, i10, s11⟩, _, F, hm, hat⟩
   refine W.weak F hat ?_
   show WK _ _ _ _ _ [(0, .ptr 0 0 0), (1, .eptr 1 w1_ 8 p1.toNat 0), (4, .ptr 2 0 0), (6, .ptr 3 0 0), (7, .ptr 4 0 0)] [zka p0 i5 (zM 1 w1_ 8 p0.b), .rows (p0.b.map zac) 8 w1_ 109, .cells [zi 0, .bool false, zi 0, zi 0, zi 0, zi 0, zi 0, zi 0, zi 0, zi 0, zi 0, .str (⟨#[]⟩ : ByteArray), .nils] 0 63, .cells [zi 0, .bool b6, zi 0, zi 0, zi 0, zi 0, zi 0, zi 0, zi 0, zi 0, zi 0, .str (⟨#[]⟩ : ByteArray), .nils] 0 63, .cells [zi i7, zi i9, zi i10, .str s11] 0 41]
   rw [za6] at hm
   replace ⟨v12, h13, hm⟩ := zam hm
   have kh13 := zif h13
   try simp only [hb2] at kh13
   refine W.sqh [] [(0, .ptr 0 0 0), (1, .eptr 1 w1_ 8 p1.toNat 0), (4, .ptr 2 0 0), (6, .ptr 3 0 0), (7, .ptr 4 0 0), (8, zi v12.1), (9, zi v12.2.1), (10, .bool v12.2.2)] ?_
   refine W.seq ?_
   replace ⟨b14, h15, hm⟩ := zaN hm
   refine W.sqh [] [(0, .ptr 0 0 0), (1, .eptr 1 w1_ 8 p1.toNat 0), (4, .ptr 2 0 0), (6, .ptr 3 0 0), (7, .ptr 4 0 0), (8, zi v12.1), (9, zi v12.2.1), (83, .bool b14)] ?_
   clear h15
   refine W.cnd b14 (fun hb16 => ?_) fun hb16 => ?_
   ·replace hm := zal hb16 hm
    replace ⟨v17, h18, hm⟩ := zam hm
    refine W.sqL [.light, .light, .light, .callh, .store, .light] [([3], []), ([], []), ([4], []), ([0, 1], [0, 1]), ([2], [2]), ([], [])] [] [(4, .ptr 2 0 0), (5, .bool v17.1)] [zka v17.2 v17.2.at_ (zM 1 w1_ 8 p0.b), .rows (p0.b.map zac) 8 w1_ 109, .cells [zi 0, .bool b6, zi 0, zi 0, zi 0, zi 0, zi 0, zi 0, zi 0, zi 0, zi 0, .str (⟨#[]⟩ : ByteArray), .nils] 0 63] zaC ?_ (hrun := ?_)
    rotate_left
    ·try simp -implicitDefEqProofs -dsimp only [go_sem, he0, h1, hb2, hb16]
     with_reducible refine exP.mk ⟨[], [0, 1], [.ptr 0 0 0, zi 4, zqT (zad.mk i7 i9 i10 s11)], [zka p0 i5 (zM 1 w1_ 8 p0.b), .rows (p0.b.map zac) 8 w1_ 109], .bool v17.1, [zka v17.2 v17.2.at_ (zM 1 w1_ 8 p0.b), .rows (p0.b.map zac) 8 w1_ 109]⟩ (zgH.of (by simp -implicitDefEqProofs -dsimp only [go_sem, he0, h1, hb2, hb16]) (zaA h18)) ?_
     try simp -implicitDefEqProofs -dsimp only [go_sem, he0, h1, hb2, hb16]
    obtain rfl := zo hm
    refine W.wk ⟨[], []⟩ [(4, .ptr 2 0 0), (5, .bool v17.1)] [zka v17.2 v17.2.at_ (zM 1 w1_ 8 p0.b), .rows (p0.b.map zac) 8 w1_ 109, .cells [zi 0, .bool b6, zi 0, zi 0, zi 0, zi 0, zi 0, zi 0, zi 0, zi 0, zi 0, .str (⟨#[]⟩ : ByteArray), .sl (([]).map eStr)] 0 63] ?_
    exact W.ret (zaR.retW ⟨[], []⟩ RO)
   ·replace hm := zak hb16 hm
    refine W.skip ?_
    refine W.sq [] [(0, .ptr 0 0 0), (1, .eptr 1 w1_ 8 p1.toNat 0), (4, .ptr 2 0 0), (6, .ptr 3 0 0), (8, zi v12.1)] [zka p0 i5 (zM 1 w1_ 8 p0.b), .rows (p0.b.map zac) 8 w1_ 109, .cells [zi 0, .bool false, zi 0, zi 0, zi 0, zi 0, zi 0, zi 0, zi 0, zi 0, zi 0, .str (⟨#[]⟩ : ByteArray), .nils] 0 63, .cells [zi v12.1, .bool b6, zi v12.2.1, zi 0, zi 0, zi 0, zi 0, zi 0, zi 0, zi 0, zi 0, .str (⟨#[]⟩ : ByteArray), .nils] 0 63] ?_
    refine W.sq [] [(0, .ptr 0 0 0), (1, .eptr 1 w1_ 8 p1.toNat 0), (4, .ptr 2 0 0), (6, .ptr 3 0 0), (8, zi v12.1)] [zka p0 (zw (i5 + 1)) (zM 1 w1_ 8 p0.b), .rows (p0.b.map zac) 8 w1_ 109, .cells [zi 0, .bool false, zi 0, zi 0, zi 0, zi 0, zi 0, zi 0, zi 0, zi 0, zi 0, .str (⟨#[]⟩ : ByteArray), .nils] 0 63, .cells [zi v12.1, .bool b6, zi v12.2.1, zi 0, zi 0, zi 0, zi 0, zi 0, zi 0, zi 0, zi 0, .str (⟨#[]⟩ : ByteArray), .nils] 0 63] ?_
    refine W.seq ?_
    refine W.block ?_
    refine W.sq [] [(0, .ptr 0 0 0), (1, .eptr 1 w1_ 8 p1.toNat 0), (4, .ptr 2 0 0), (6, .ptr 3 0 0), (8, zi v12.1), (99, .bool ((v12.1 == 10) || (v12.1 == 11)))] [zka p0 (zw (i5 + 1)) (zM 1 w1_ 8 p0.b), .rows (p0.b.map zac) 8 w1_ 109, .cells [zi 0, .bool false, zi 0, zi 0, zi 0, zi 0, zi 0, zi 0, zi 0, zi 0, zi 0, .str (⟨#[]⟩ : ByteArray), .nils] 0 63, .cells [zi v12.1, .bool b6, zi v12.2.1, zi 0, zi 0, zi 0, zi 0, zi 0, zi 0, zi 0, zi 0, .str (⟨#[]⟩ : ByteArray), .nils] 0 63] ?_
    refine W.cnd ((v12.1 == 10) || (v12.1 == 11)) (fun hb19 => ?_) fun hb19 => ?_
    ·replace hm := zal hb19 hm
     replace ⟨h20, hm⟩ := zav hm
     refine W.sqJ [10, 11] [10, 11] [0, 1, 2, 3, 4, 5, 6, 7, 8, 9] 4 [] [(0, .ptr 0 0 0), (1, .eptr 1 w1_ 8 p1.toNat 0), (4, .ptr 2 0 0), (6, .ptr 3 0 0), (11, .ptr 4 0 0)] [zka p0 (zw (i5 + 1)) (zM 1 w1_ 8 p0.b), .rows (p0.b.map zac) 8 w1_ 109, .cells [zi 0, .bool false, zi 0, zi 0, zi 0, zi 0, zi 0, zi 0, zi 0, zi 0, zi 0, .str (⟨#[]⟩ : ByteArray), .nils] 0 63, .cells [zi v12.1, .bool b6, zi v12.2.1, zi 0, zi 0, zi 0, zi 0, zi 0, zi 0, zi 0, zi 0, .str (⟨#[]⟩ : ByteArray), .nils] 0 63, .cells (zab (rd p0.l (zw (i5 + 1)))) 0 41] zaC ?_
     refine W.seq ?_
     refine W.sqh [] [(0, .ptr 0 0 0), (1, .eptr 1 w1_ 8 p1.toNat 0), (4, .ptr 2 0 0), (6, .ptr 3 0 0), (11, .ptr 4 0 0), (118, .bool ((rd p0.l (zw (i5 + 1))).Kind != 1))] ?_
     refine W.cnd ((rd p0.l (zw (i5 + 1))).Kind != 1) (fun hb21 => ?_) fun hb21 => ?_
     ·replace hm := zal hb21 hm
      replace ⟨v22, h23, hm⟩ := zam hm
      refine W.sqL [.light, .light, .light, .callh, .store, .light] [([3], []), ([], []), ([4], []), ([0, 1], [0, 1]), ([2], [2]), ([], [])] [] [(4, .ptr 2 0 0), (5, .bool v22.1)] [zka v22.2 v22.2.at_ (zM 1 w1_ 8 p0.b), .rows (p0.b.map zac) 8 w1_ 109, .cells [zi v12.1, .bool b6, zi v12.2.1, zi 0, zi 0, zi 0, zi 0, zi 0, zi 0, zi 0, zi 0, .str (⟨#[]⟩ : ByteArray), .nils] 0 63] zaC ?_ (hrun := ?_)
      rotate_left
      ·try simp -implicitDefEqProofs -dsimp only [go_sem, he0, h1, hb2, hb16, hb19, h20, hb21]
       with_reducible refine exP.mk ⟨[], [0, 1], [.ptr 0 0 0, zi 4, zqT (rd p0.l (zw (i5 + 1)))], [zka p0 (zw (i5 + 1)) (zM 1 w1_ 8 p0.b), .rows (p0.b.map zac) 8 w1_ 109], .bool v22.1, [zka v22.2 v22.2.at_ (zM 1 w1_ 8 p0.b), .rows (p0.b.map zac) 8 w1_ 109]⟩ (zgH.of (by simp -implicitDefEqProofs -dsimp only [go_sem, he0, h1, hb2, hb16, hb19, h20, hb21]) (zaA h23)) ?_
       try simp -implicitDefEqProofs -dsimp only [go_sem, he0, h1, hb2, hb16, hb19, h20, hb21]
      obtain rfl := zo hm
      refine W.wk ⟨[], []⟩ [(4, .ptr 2 0 0), (5, .bool v22.1)] [zka v22.2 v22.2.at_ (zM 1 w1_ 8 p0.b), .rows (p0.b.map zac) 8 w1_ 109, .cells [zi v12.1, .bool b6, zi v12.2.1, zi 0, zi 0, zi 0, zi 0, zi 0, zi 0, zi 0, zi 0, .str (⟨#[]⟩ : ByteArray), .sl (([]).map eStr)] 0 63] ?_
      exact W.ret (zaR.retW ⟨[], []⟩ RO)
     ·replace hm := zak hb21 hm
      refine W.skip ?_
      refine W.seq ?_
      replace ⟨v24, h25, hm⟩ := zam hm
      have kh25 := zdv h25
      try simp only [hb2, hb16, hb19, hb21] at kh25
      refine W.sq [] [(0, .ptr 0 0 0), (1, .eptr 1 w1_ 8 p1.toNat 0), (4, .ptr 2 0 0), (6, .ptr 3 0 0), (11, .ptr 4 0 0), (125, .bool v24)] [zka p0 (zw (i5 + 1)) (zM 1 w1_ 8 p0.b), .rows (p0.b.map zac) 8 w1_ 109, .cells [zi 0, .bool false, zi 0, zi 0, zi 0, zi 0, zi 0, zi 0, zi 0, zi 0, zi 0, .str (⟨#[]⟩ : ByteArray), .nils] 0 63, .cells [zi v12.1, .bool b6, zi v12.2.1, zi 0, zi 0, zi 0, zi 0, zi 0, zi 0, zi 0, zi 0, .str (⟨#[]⟩ : ByteArray), .nils] 0 63, .cells (zab (rd p0.l (zw (i5 + 1)))) 0 41] ?_
      refine W.cnd v24 (fun hb26 => ?_) fun hb26 => ?_
      ·replace hm := zal hb26 hm
       replace ⟨v27, h28, hm⟩ := zam hm
       refine W.sqL [.light, .light, .light, .callh, .store, .light] [([3], []), ([], []), ([4], []), ([0, 1], [0, 1]), ([2], [2]), ([], [])] [] [(4, .ptr 2 0 0), (5, .bool v27.1)] [zka v27.2 v27.2.at_ (zM 1 w1_ 8 p0.b), .rows (p0.b.map zac) 8 w1_ 109, .cells [zi v12.1, .bool b6, zi v12.2.1, zi 0, zi 0, zi 0, zi 0, zi 0, zi 0, zi 0, zi 0, .str (⟨#[]⟩ : ByteArray), .nils] 0 63] zaC ?_ (hrun := ?_)
       rotate_left
       ·try simp -implicitDefEqProofs -dsimp only [go_sem, he0, h1, hb2, hb16, hb19, h20, hb21, hb26]
        with_reducible refine exP.mk ⟨[], [0, 1], [.ptr 0 0 0, zi 3, zqT (rd p0.l (zw (i5 + 1)))], [zka p0 (zw (i5 + 1)) (zM 1 w1_ 8 p0.b), .rows (p0.b.map zac) 8 w1_ 109], .bool v27.1, [zka v27.2 v27.2.at_ (zM 1 w1_ 8 p0.b), .rows (p0.b.map zac) 8 w1_ 109]⟩ (zgH.of (by simp -implicitDefEqProofs -dsimp only [go_sem, he0, h1, hb2, hb16, hb19, h20, hb21, hb26]) (zaA h28)) ?_
        try simp -implicitDefEqProofs -dsimp only [go_sem, he0, h1, hb2, hb16, hb19, h20, hb21, hb26]
       obtain rfl := zo hm
       refine W.wk ⟨[], []⟩ [(4, .ptr 2 0 0), (5, .bool v27.1)] [zka v27.2 v27.2.at_ (zM 1 w1_ 8 p0.b), .rows (p0.b.map zac) 8 w1_ 109, .cells [zi v12.1, .bool b6, zi v12.2.1, zi 0, zi 0, zi 0, zi 0, zi 0, zi 0, zi 0, zi 0, .str (⟨#[]⟩ : ByteArray), .sl (([]).map eStr)] 0 63] ?_
       exact W.ret (zaR.retW ⟨[], []⟩ RO)
      ·replace hm := zak hb26 hm
       refine W.skip ?_
       refine W.sq [] [(0, .ptr 0 0 0), (1, .eptr 1 w1_ 8 p1.toNat 0), (4, .ptr 2 0 0), (6, .ptr 3 0 0), (11, .ptr 4 0 0)] [zka p0 (zw (i5 + 1)) (zM 1 w1_ 8 p0.b), .rows (p0.b.map zac) 8 w1_ 109, .cells [zi 0, .bool false, zi 0, zi 0, zi 0, zi 0, zi 0, zi 0, zi 0, zi 0, zi 0, .str (⟨#[]⟩ : ByteArray), .nils] 0 63, .cells [zi v12.1, .bool b6, zi v12.2.1, zi 0, zi 0, zi 0, zi 0, zi 0, zi 0, zi 0, zi 0, .str ((rd p0.l (zw (i5 + 1))).Text), .nils] 0 63, .cells (zab (rd p0.l (zw (i5 + 1)))) 0 41] ?_
       replace ⟨h29, hm⟩ := zav hm
       replace ⟨h30, hm⟩ := zav hm
       replace ⟨h31, hm⟩ := zav hm
       replace ⟨l32, h33, hm⟩ := zaN hm
       refine W.wk ⟨[], [.foc 1 p1.toNat 7]⟩ [(0, .ptr 0 0 0), (1, .eptr 1 w1_ 8 p1.toNat 0), (4, .ptr 2 0 0), (6, .ptr 3 0 0), (11, .ptr 4 0 0)] [zka p0 (zw (i5 + 1)) (zM 1 w1_ 8 p0.b), .rows ((p0.b.map zac).set p1.toNat [zi (rd p0.b p1).head.Kind, zi (rd p0.b p1).head.Line, zi (rd p0.b p1).head.Col, .str (rd p0.b p1).head.Text, .zBm (((rd p0.b p1).labels).map (eKV AV.str AV.bool)), .zBx (((rd p0.b p1).open_).map eStr) 1 9, .zBx (((rd p0.b p1).zFi).map zab) 4 41, .msl 5 1 0 4 (((rd p0.b p1).zTg).length) (((rd p0.b p1).zTg).length)]) 8 w1_ 109, .cells [zi 0, .bool false, zi 0, zi 0, zi 0, zi 0, zi 0, zi 0, zi 0, zi 0, zi 0, .str (⟨#[]⟩ : ByteArray), .nils] 0 63, .cells [zi v12.1, .bool b6, zi v12.2.1, zi 0, zi 0, zi 0, zi 0, zi 0, zi 0, zi 0, zi 0, .str ((rd p0.l (zw (i5 + 1))).Text), .nils] 0 63, .cells (zab (rd p0.l (zw (i5 + 1)))) 0 41, .rows (((rd p0.b p1).zTg).map zab) 4 1 41] ?_
       refine W.sqJG [12] [] [] 0 [] [.fol 1 p1.toNat 7] [(0, .ptr 0 0 0), (4, .ptr 2 0 0), (6, .ptr 3 0 0)] [zka p0 (zw (i5 + 1)) (zM 1 w1_ 8 l32), .rows (l32.map zac) 8 w1_ 109, .cells [zi 0, .bool false, zi 0, zi 0, zi 0, zi 0, zi 0, zi 0, zi 0, zi 0, zi 0, .str (⟨#[]⟩ : ByteArray), .nils] 0 63, .cells [zi v12.1, .bool b6, zi v12.2.1, zi 0, zi 0, zi 0, zi 0, zi 0, zi 0, zi 0, zi 0, .str ((rd p0.l (zw (i5 + 1))).Text), .nils] 0 63] zaC ?_
       clear h33
       refine W.rg [] [(4, .ptr 2 0 0), (6, .ptr 3 0 0)] [zka p0 (zw ((zw (i5 + 1)) + 1)) (zM 1 w1_ 8 l32), .rows (l32.map zac) 8 w1_ 109, .cells [zi 0, .bool false, zi 0, zi 0, zi 0, zi 0, zi 0, zi 0, zi 0, zi 0, zi 0, .str (⟨#[]⟩ : ByteArray), .nils] 0 63, .cells [zi v12.1, .bool b6, zi v12.2.1, zi 0, zi 0, zi 0, zi 0, zi 0, zi 0, zi 0, zi 0, .str ((rd p0.l (zw (i5 + 1))).Text), .nils] 0 63] ?_
       refine W.sq [] [(4, .ptr 2 0 0), (5, .bool true)] [zka p0 (zw ((zw (i5 + 1)) + 1)) (zM 1 w1_ 8 l32), .rows (l32.map zac) 8 w1_ 109, .cells [zi v12.1, .bool b6, zi v12.2.1, zi 0, zi 0, zi 0, zi 0, zi 0, zi 0, zi 0, zi 0, .str ((rd p0.l (zw (i5 + 1))).Text), .nils] 0 63] ?_
       obtain rfl := zo hm
       refine W.wk ⟨[], []⟩ [(4, .ptr 2 0 0), (5, .bool true)] [zka p0 (zw ((zw (i5 + 1)) + 1)) (zM 1 w1_ 8 l32), .rows (l32.map zac) 8 w1_ 109, .cells [zi v12.1, .bool b6, zi v12.2.1, zi 0, zi 0, zi 0, zi 0, zi 0, zi 0, zi 0, zi 0, .str ((rd p0.l (zw (i5 + 1))).Text), .sl (([]).map eStr)] 0 63] ?_
       exact W.ret (zaR.retW ⟨[], []⟩ RO)
    ·replace hm := zak hb19 hm
     refine W.sq [] [(0, .ptr 0 0 0), (4, .ptr 2 0 0), (6, .ptr 3 0 0), (152, .bool (decide (v12.1 <= 9)))] [zka p0 (zw (i5 + 1)) (zM 1 w1_ 8 p0.b), .rows (p0.b.map zac) 8 w1_ 109, .cells [zi 0, .bool false, zi 0, zi 0, zi 0, zi 0, zi 0, zi 0, zi 0, zi 0, zi 0, .str (⟨#[]⟩ : ByteArray), .nils] 0 63, .cells [zi v12.1, .bool b6, zi v12.2.1, zi 0, zi 0, zi 0, zi 0, zi 0, zi 0, zi 0, zi 0, .str (⟨#[]⟩ : ByteArray), .nils] 0 63] ?_
     refine W.cnd (decide (v12.1 <= 9)) (fun hb34 => ?_) fun hb34 => ?_
     ·replace hm := zal hb34 hm
      replace ⟨v35, h36, hm⟩ := zam hm
      refine W.sq [] [(4, .ptr 2 0 0), (5, .bool v35.2.1)] [zka v35.2.2 v35.2.2.at_ (zM 1 w1_ 8 p0.b), .rows (p0.b.map zac) 8 w1_ 109, .cells (zan v35.1) 0 63] ?_ (hrun := ?_)
      rotate_left
      ·try simp -implicitDefEqProofs -dsimp only [go_sem, he0, h1, hb2, hb16, hb19, hb34]
       with_reducible refine exP.mk (.gheap [] ⟨[], [0, 1], [.ptr 0 0 0, .agg [zi (zap.mk v12.1 b6 v12.2.1 (zau.mk 0 0 0 0) (zau.mk 0 0 0 0) (⟨#[]⟩ : ByteArray) ([])).Op, .bool (zap.mk v12.1 b6 v12.2.1 (zau.mk 0 0 0 0) (zau.mk 0 0 0 0) (⟨#[]⟩ : ByteArray) ([])).Lock, zi (zap.mk v12.1 b6 v12.2.1 (zau.mk 0 0 0 0) (zau.mk 0 0 0 0) (⟨#[]⟩ : ByteArray) ([])).Cond, zi (zap.mk v12.1 b6 v12.2.1 (zau.mk 0 0 0 0) (zau.mk 0 0 0 0) (⟨#[]⟩ : ByteArray) ([])).A.Kind, zi (zap.mk v12.1 b6 v12.2.1 (zau.mk 0 0 0 0) (zau.mk 0 0 0 0) (⟨#[]⟩ : ByteArray) ([])).A.Reg, zi (zap.mk v12.1 b6 v12.2.1 (zau.mk 0 0 0 0) (zau.mk 0 0 0 0) (⟨#[]⟩ : ByteArray) ([])).A.Sym, zi (zap.mk v12.1 b6 v12.2.1 (zau.mk 0 0 0 0) (zau.mk 0 0 0 0) (⟨#[]⟩ : ByteArray) ([])).A.N, zi (zap.mk v12.1 b6 v12.2.1 (zau.mk 0 0 0 0) (zau.mk 0 0 0 0) (⟨#[]⟩ : ByteArray) ([])).B.Kind, zi (zap.mk v12.1 b6 v12.2.1 (zau.mk 0 0 0 0) (zau.mk 0 0 0 0) (⟨#[]⟩ : ByteArray) ([])).B.Reg, zi (zap.mk v12.1 b6 v12.2.1 (zau.mk 0 0 0 0) (zau.mk 0 0 0 0) (⟨#[]⟩ : ByteArray) ([])).B.Sym, zi (zap.mk v12.1 b6 v12.2.1 (zau.mk 0 0 0 0) (zau.mk 0 0 0 0) (⟨#[]⟩ : ByteArray) ([])).B.N, .str (zap.mk v12.1 b6 v12.2.1 (zau.mk 0 0 0 0) (zau.mk 0 0 0 0) (⟨#[]⟩ : ByteArray) ([])).To, .sl (((zap.mk v12.1 b6 v12.2.1 (zau.mk 0 0 0 0) (zau.mk 0 0 0 0) (⟨#[]⟩ : ByteArray) ([])).zLb).map eStr)]], [zka p0 (zw (i5 + 1)) (zM 1 w1_ 8 p0.b), .rows (p0.b.map zac) 8 w1_ 109], .tuple [.agg [zi v35.1.Op, .bool v35.1.Lock, zi v35.1.Cond, zi v35.1.A.Kind, zi v35.1.A.Reg, zi v35.1.A.Sym, zi v35.1.A.N, zi v35.1.B.Kind, zi v35.1.B.Reg, zi v35.1.B.Sym, zi v35.1.B.N, .str v35.1.To, .sl (v35.1.zLb.map eStr)], .bool v35.2.1], [zka v35.2.2 v35.2.2.at_ (zM 1 w1_ 8 p0.b), .rows (p0.b.map zac) 8 w1_ 109]⟩ []) (callQ.ofG (by simp -implicitDefEqProofs -dsimp only [go_sem, he0, h1, hb2, hb16, hb19, hb34]) (zeU h36)) ?_
       try simp -implicitDefEqProofs -dsimp only [go_sem, he0, h1, hb2, hb16, hb19, hb34]
      obtain rfl := zo hm
      exact W.ret (zaR.retW ⟨[], []⟩ RO)
     ·replace hm := zak hb34 hm
      refine W.skip ?_
      refine W.sq [] [(4, .ptr 2 0 0), (5, .bool true)] [zka p0 (zw (i5 + 1)) (zM 1 w1_ 8 p0.b), .rows (p0.b.map zac) 8 w1_ 109, .cells [zi v12.1, .bool b6, zi v12.2.1, zi 0, zi 0, zi 0, zi 0, zi 0, zi 0, zi 0, zi 0, .str (⟨#[]⟩ : ByteArray), .nils] 0 63] ?_
      obtain rfl := zo hm
      refine W.wk ⟨[], []⟩ [(4, .ptr 2 0 0), (5, .bool true)] [zka p0 (zw (i5 + 1)) (zM 1 w1_ 8 p0.b), .rows (p0.b.map zac) 8 w1_ 109, .cells [zi v12.1, .bool b6, zi v12.2.1, zi 0, zi 0, zi 0, zi 0, zi 0, zi 0, zi 0, zi 0, .str (⟨#[]⟩ : ByteArray), .sl (([]).map eStr)] 0 63] ?_
      exact W.ret (zaR.retW ⟨[], []⟩ RO)
theorem zgk {p0 : zae} {p1 : zad} {r : Bool × zae} (hm : zcc p0 p1 = some r) : HF Tryz.prog 58 [.ptr 0 0 0, zqT p1] [.cells (zah p0) 0 82] (.bool r.1) [.cells (zah r.2) 0 82] := by
 rw [zcc] at hm
 refine HF.of Tryz.func58 rfl Tryz.ntmps58 (Nat.le_of_ble_eq_true rfl) rfl ?_
 have e0 : argS 0 [.ptr 0 0 0, zqT p1] = [(0, .ptr 0 0 0), (1, zqT p1)] := rfl
 rw [e0]
 refine W.sq [] [(0, .ptr 0 0 0), (3, .ptr 1 0 0)] [.cells (zah p0) 0 82, .cells (zab p1) 0 41] ?_
 refine W.seq ?_
 refine W.wk ⟨[], [.foc 0 0 4]⟩ [(0, .ptr 0 0 0), (3, .ptr 1 0 0)] [zka p0 p0.at_ (zM 2 1 8 p0.b), .cells (zab p1) 0 41, .rows (p0.b.map zac) 8 1 109] ?_
 refine W.sqG [] [.fol 0 0 4] [(0, .ptr 0 0 0), (3, .ptr 1 0 0), (15, .bool ((p0.b.length : Int) == 0))] [.cells (zah p0) 0 82, .cells (zab p1) 0 41] ?_
 refine W.cnd ((p0.b.length : Int) == 0) (fun hb1 => ?_) fun hb1 => ?_
 ·replace hm := zal hb1 hm
  replace ⟨v2, h3, hm⟩ := zam hm
  refine W.sq [] [(4, .bool v2.1)] [.cells (zah v2.2) 0 82] ?_ (hrun := ?_)
  rotate_left
  ·try simp -implicitDefEqProofs -dsimp only [go_sem, hb1]
   with_reducible refine exP.mk (.gheap [] ⟨[], [0], [.ptr 0 0 0, zi 4, zqT p1], [.cells (zah p0) 0 82], .bool v2.1, [.cells (zah v2.2) 0 82]⟩ []) (callQ.ofG (by simp -implicitDefEqProofs -dsimp only [go_sem, hb1]) (zaJ h3)) ?_
   try simp -implicitDefEqProofs -dsimp only [go_sem, hb1]
  obtain rfl := zo hm
  exact W.ret (zaR.retW ⟨[], []⟩ RO)
 ·replace hm := zak hb1 hm
  refine W.skip ?_
  replace ⟨h4, hm⟩ := zav hm
  refine W.wk ⟨[], [.foc 0 0 4]⟩ [(0, .ptr 0 0 0), (3, .ptr 1 0 0), (15, .bool ((p0.b.length : Int) == 0))] [zka p0 p0.at_ (zM 2 1 8 p0.b), .cells (zab p1) 0 41, .rows (p0.b.map zac) 8 1 109] ?_
  refine W.sqJ [] [] [] 0 [] [(0, .ptr 0 0 0), (5, .eptr 2 1 8 ((zw ((p0.b.length : Int) - 1)).toNat) 0)] [zka p0 p0.at_ (zM 2 1 8 p0.b), .dead, .rows (p0.b.map zac) 8 1 109] zaC ?_
  refine W.seq ?_
  refine W.block ?_
  replace ⟨r100, hlr100, hm⟩ := zam hm
  refine W.mono (Q := fun e0 s0 h0 => match r100 with | .inl e => e0 = .exit 0 /\ ∃ w : Unit, s0 = [(0, .ptr 0 0 0), (5, .eptr 2 1 8 ((zw ((p0.b.length : Int) - 1)).toNat) 0)] /\ h0 = [zkc e.1 e.2.1 (zbS e.2.2.1) (zbT e.2.2.2.1) (zM 2 1 8 e.2.2.2.2.2.2.2) e.2.2.2.2.1 e.2.2.2.2.2.1 e.2.2.2.2.2.2.1, .dead, .rows (e.2.2.2.2.2.2.2.map zac) 8 1 109] | .inr q => e0 = .ret /\ s0 = [(4, .bool q.1)] /\ h0 = [.cells (zah q.2) 0 82]) (W.loopM (step := zbY p0) (a0 := (p0.l, p0.at_, p0.p.zSy, p0.p.zTh, p0.f.Code, p0.f.Line, p0.f.Col, p0.b)) (fun (a : (List zad) × Int × (List zaq) × (List zai) × Int × Int × Int × (List zay)) (v : Unit) => ([(0, .ptr 0 0 0), (5, .eptr 2 1 8 ((zw ((p0.b.length : Int) - 1)).toNat) 0)], [zkc a.1 a.2.1 (zbS a.2.2.1) (zbT a.2.2.2.1) (zM 2 1 8 a.2.2.2.2.2.2.2) a.2.2.2.2.1 a.2.2.2.2.2.1 a.2.2.2.2.2.2.1, .dead, .rows (a.2.2.2.2.2.2.2.map zac) 8 1 109])) () hlr100 ⟨[], []⟩ RO ?_) ?_
  ·rintro ⟨l60, i61, l62, l63, i65, i66, i67, l68⟩ _ x hm hx
   rw [zbY] at hm
   show WK _ _ _ _ _ [(0, .ptr 0 0 0), (5, .eptr 2 1 8 ((zw ((p0.b.length : Int) - 1)).toNat) 0)] [zkc l60 i61 (zbS l62) (zbT l63) (zM 2 1 8 l68) i65 i66 i67, .dead, .rows (l68.map zac) 8 1 109]
   refine W.seq ?_
   replace ⟨h101, hm⟩ := zav hm
   replace ⟨v102, h103, hm⟩ := zam hm
   refine W.sqJ [19] [] [] 0 [] [(0, .ptr 0 0 0), (5, .eptr 2 1 8 ((zw ((p0.b.length : Int) - 1)).toNat) 0), (50, .bool (((rd l60 i61).Kind == 1) && v102.1))] [zka v102.2 v102.2.at_ (zM 2 1 8 l68), .dead, .rows (l68.map zac) 8 1 109] zaC ?_ (hrun := ?_)
   rotate_left
   ·try simp -implicitDefEqProofs -dsimp only [go_sem, hb1, h4, h101]
    refine zd1 (fun hg104 => ?_) (fun hg104 => ?_)
    ·try simp -implicitDefEqProofs -dsimp only [go_sem, hb1, h4, h101, hg104]
     with_reducible refine exP.mk (.gheap [] ⟨[], [0, 2], [.ptr 0 0 0, zi (zw (i61 + 1)), .str (⟨#[58]⟩ : ByteArray)], [zkc l60 i61 (zbS l62) (zbT l63) (zM 1 1 8 l68) i65 i66 i67, .rows (l68.map zac) 8 1 109], .bool v102.1, [zka v102.2 v102.2.at_ (zM 1 1 8 l68), .rows (l68.map zac) 8 1 109]⟩ []) (callQ.ofG (by simp -implicitDefEqProofs -dsimp only [go_sem, hb1, h4, h101, hg104]) (zbx (zal (by simp -implicitDefEqProofs -dsimp only [go_sem, hb1, h4, h101, hg104]) h103))) ?_
     try simp -implicitDefEqProofs -dsimp only [go_sem, hb1, h4, h101, hg104]
    ·obtain rfl := Option.some.inj (zak (by simp -implicitDefEqProofs -dsimp only [go_sem, hb1, h4, h101, hg104]) h103)
     try simp -implicitDefEqProofs -dsimp only [go_sem, hb1, h4, h101, hg104]
   refine W.cnd (((rd l60 i61).Kind == 1) && v102.1) (fun hb105 => ?_) fun hb105 => ?_
   ·replace hm := zal hb105 hm
    refine W.skip ?_
    refine W.block ?_
    replace ⟨h106, hm⟩ := zav hm
    refine W.sqJ [10, 11] [10, 11] [0, 1, 2, 3, 4, 5, 6, 7, 8, 9] 3 [] [(0, .ptr 0 0 0), (5, .eptr 2 1 8 ((zw ((p0.b.length : Int) - 1)).toNat) 0), (6, .ptr 3 0 0)] [zka v102.2 v102.2.at_ (zM 2 1 8 l68), .dead, .rows (l68.map zac) 8 1 109, .cells (zab (rd v102.2.l v102.2.at_)) 0 41] zaC ?_
    refine W.seq ?_
    replace ⟨v107, h108, hm⟩ := zam hm
    have kh108 := zdv h108
    try simp only [hb1, hb105] at kh108
    refine W.sqh [] [(0, .ptr 0 0 0), (5, .eptr 2 1 8 ((zw ((p0.b.length : Int) - 1)).toNat) 0), (6, .ptr 3 0 0), (63, .bool v107)] ?_
    refine W.cnd v107 (fun hb109 => ?_) fun hb109 => ?_
    ·replace hm := zal hb109 hm
     replace ⟨v110, h111, hm⟩ := zam hm
     refine W.sq [] [(4, .bool v110.1)] [.cells (zah v110.2) 0 82] ?_ (hrun := ?_)
     rotate_left
     ·try simp -implicitDefEqProofs -dsimp only [go_sem, hb1, h4, h101, hb105, h106, hb109]
      with_reducible refine exP.mk (.gheap [.fol 0 0 4] ⟨[], [0], [.ptr 0 0 0, zi 3, zqT (rd v102.2.l v102.2.at_)], [.cells (zah (zae.mk v102.2.l v102.2.at_ v102.2.p l68 v102.2.f)) 0 82], .bool v110.1, [.cells (zah v110.2) 0 82]⟩ []) (callQ.ofG (by simp -implicitDefEqProofs -dsimp only [go_sem, hb1, h4, h101, hb105, h106, hb109]) (zaJ h111)) ?_
      try simp -implicitDefEqProofs -dsimp only [go_sem, hb1, h4, h101, hb105, h106, hb109]
     obtain rfl := zo hm
     obtain rfl := hx _ rfl
     exact W.wk ⟨[], []⟩ [(4, .bool v110.1)] [.cells (zah v110.2) 0 82] (W.ret (show _ /\ _ from ⟨rfl, rfl, rfl⟩))
    ·replace hm := zak hb109 hm
     refine W.skip ?_
     refine W.seq ?_
     replace ⟨h112, hm⟩ := zav hm
     replace ⟨b113, h114, hm⟩ := zaN hm
     refine W.wk ⟨[], [.foc 2 ((zw ((p0.b.length : Int) - 1)).toNat) 4]⟩ [(0, .ptr 0 0 0), (5, .eptr 2 1 8 ((zw ((p0.b.length : Int) - 1)).toNat) 0), (6, .ptr 3 0 0), (63, .bool v107)] [zka v102.2 v102.2.at_ (zM 2 1 8 l68), .dead, .rows ((l68.map zac).set ((zw ((p0.b.length : Int) - 1)).toNat) [zi ((rd l68 (zw ((p0.b.length : Int) - 1))).head.Kind), zi ((rd l68 (zw ((p0.b.length : Int) - 1))).head.Line), zi ((rd l68 (zw ((p0.b.length : Int) - 1))).head.Col), .str ((rd l68 (zw ((p0.b.length : Int) - 1))).head.Text), .map 4, .zBx (((rd l68 (zw ((p0.b.length : Int) - 1))).open_).map eStr) 1 9, .zBx (((rd l68 (zw ((p0.b.length : Int) - 1))).zFi).map zab) 4 41, .zBx (((rd l68 (zw ((p0.b.length : Int) - 1))).zTg).map zab) 4 41]) 8 1 109, .cells (zab (rd v102.2.l v102.2.at_)) 0 41, .map (((rd l68 (zw ((p0.b.length : Int) - 1))).labels).map (eKV AV.str AV.bool))] ?_
     refine W.sqJG [] [] [] 0 [] [.fol 2 ((zw ((p0.b.length : Int) - 1)).toNat) 4] [(0, .ptr 0 0 0), (5, .eptr 2 1 8 ((zw ((p0.b.length : Int) - 1)).toNat) 0), (6, .ptr 3 0 0), (73, .bool b113)] [zka v102.2 v102.2.at_ (zM 2 1 8 l68), .dead, .rows (l68.map zac) 8 1 109, .cells (zab (rd v102.2.l v102.2.at_)) 0 41] zaC ?_
     clear h114
     refine W.cnd b113 (fun hb115 => ?_) fun hb115 => ?_
     ·replace hm := zal hb115 hm
      replace ⟨v116, h117, hm⟩ := zam hm
      refine W.sq [] [(4, .bool v116.1)] [.cells (zah v116.2) 0 82] ?_ (hrun := ?_)
      rotate_left
      ·try simp -implicitDefEqProofs -dsimp only [go_sem, hb1, h4, h101, hb105, h106, hb109, h112, hb115]
       with_reducible refine exP.mk (.gheap [.fol 0 0 4] ⟨[], [0], [.ptr 0 0 0, zi 6, zqT (rd v102.2.l v102.2.at_)], [.cells (zah (zae.mk v102.2.l v102.2.at_ v102.2.p l68 v102.2.f)) 0 82], .bool v116.1, [.cells (zah v116.2) 0 82]⟩ []) (callQ.ofG (by simp -implicitDefEqProofs -dsimp only [go_sem, hb1, h4, h101, hb105, h106, hb109, h112, hb115]) (zaJ h117)) ?_
       try simp -implicitDefEqProofs -dsimp only [go_sem, hb1, h4, h101, hb105, h106, hb109, h112, hb115]
      obtain rfl := zo hm
      obtain rfl := hx _ rfl
      exact W.wk ⟨[], []⟩ [(4, .bool v116.1)] [.cells (zah v116.2) 0 82] (W.ret (show _ /\ _ from ⟨rfl, rfl, rfl⟩))
     ·replace hm := zak hb115 hm
      refine W.skip ?_
      replace ⟨h118, hm⟩ := zav hm
      replace ⟨l119, h120, hm⟩ := zaN hm
      refine W.wk ⟨[], [.foc 2 ((zw ((p0.b.length : Int) - 1)).toNat) 4]⟩ [(0, .ptr 0 0 0), (5, .eptr 2 1 8 ((zw ((p0.b.length : Int) - 1)).toNat) 0), (6, .ptr 3 0 0), (73, .bool b113)] [zka v102.2 v102.2.at_ (zM 2 1 8 l68), .dead, .rows ((l68.map zac).set ((zw ((p0.b.length : Int) - 1)).toNat) [zi ((rd l68 (zw ((p0.b.length : Int) - 1))).head.Kind), zi ((rd l68 (zw ((p0.b.length : Int) - 1))).head.Line), zi ((rd l68 (zw ((p0.b.length : Int) - 1))).head.Col), .str ((rd l68 (zw ((p0.b.length : Int) - 1))).head.Text), .map 4, .zBx (((rd l68 (zw ((p0.b.length : Int) - 1))).open_).map eStr) 1 9, .zBx (((rd l68 (zw ((p0.b.length : Int) - 1))).zFi).map zab) 4 41, .zBx (((rd l68 (zw ((p0.b.length : Int) - 1))).zTg).map zab) 4 41]) 8 1 109, .cells (zab (rd v102.2.l v102.2.at_)) 0 41, .map (((rd l68 (zw ((p0.b.length : Int) - 1))).labels).map (eKV AV.str AV.bool))] ?_
      refine W.sqJG [6] [] [] 0 [] [.fol 2 ((zw ((p0.b.length : Int) - 1)).toNat) 4] [(0, .ptr 0 0 0), (5, .eptr 2 1 8 ((zw ((p0.b.length : Int) - 1)).toNat) 0), (6, .ptr 3 0 0)] [zka v102.2 v102.2.at_ (zM 2 1 8 l119), .dead, .rows (l119.map zac) 8 1 109, .cells (zab (rd v102.2.l v102.2.at_)) 0 41] zaC ?_
      clear h120
      replace ⟨h121, hm⟩ := zav hm
      replace ⟨h122, hm⟩ := zav hm
      replace ⟨l123, h124, hm⟩ := zaN hm
      refine W.wk ⟨[], [.foc 2 ((zw ((p0.b.length : Int) - 1)).toNat) 5]⟩ [(0, .ptr 0 0 0), (5, .eptr 2 1 8 ((zw ((p0.b.length : Int) - 1)).toNat) 0), (6, .ptr 3 0 0)] [zka v102.2 v102.2.at_ (zM 2 1 8 l119), .dead, .rows ((l119.map zac).set ((zw ((p0.b.length : Int) - 1)).toNat) [zi ((rd l119 (zw ((p0.b.length : Int) - 1))).head.Kind), zi ((rd l119 (zw ((p0.b.length : Int) - 1))).head.Line), zi ((rd l119 (zw ((p0.b.length : Int) - 1))).head.Col), .str ((rd l119 (zw ((p0.b.length : Int) - 1))).head.Text), .zBm (((rd l119 (zw ((p0.b.length : Int) - 1))).labels).map (eKV AV.str AV.bool)), .msl 4 1 0 1 (((rd l119 (zw ((p0.b.length : Int) - 1))).open_).length) (((rd l119 (zw ((p0.b.length : Int) - 1))).open_).length), .zBx (((rd l119 (zw ((p0.b.length : Int) - 1))).zFi).map zab) 4 41, .zBx (((rd l119 (zw ((p0.b.length : Int) - 1))).zTg).map zab) 4 41]) 8 1 109, .cells (zab (rd v102.2.l v102.2.at_)) 0 41, .rows (((rd l119 (zw ((p0.b.length : Int) - 1))).open_).map eStr) 1 1 9] ?_
      refine W.sqLG [.light, .light, .light, .light, .light, .light, .light, .lit, .app, .light, .light, .store] [([], []), ([], []), ([], []), ([], []), ([2], []), ([], []), ([3], []), ([], []), ([4], [4]), ([], []), ([], []), ([2], [2])] [] [.fol 2 ((zw ((p0.b.length : Int) - 1)).toNat) 5] [(0, .ptr 0 0 0), (5, .eptr 2 1 8 ((zw ((p0.b.length : Int) - 1)).toNat) 0)] [zka v102.2 v102.2.at_ (zM 2 1 8 l123), .dead, .rows (l123.map zac) 8 1 109] zaC ?_
      clear h124
      refine W.rg [] [(0, .ptr 0 0 0), (5, .eptr 2 1 8 ((zw ((p0.b.length : Int) - 1)).toNat) 0)] [zka v102.2 (zw (v102.2.at_ + 2)) (zM 2 1 8 l123), .dead, .rows (l123.map zac) 8 1 109] ?_
      obtain rfl := zo hm
      exact ⟨(v102.2.l, (zw (v102.2.at_ + 2)), v102.2.p.zSy, v102.2.p.zTh, v102.2.f.Code, v102.2.f.Line, v102.2.f.Col, l123), (), ⟨[], []⟩, rfl, RO⟩
   ·replace hm := zak hb105 hm
    obtain rfl := zo hm
    obtain rfl := hx _ rfl
    exact W.wk ⟨[], []⟩ [(0, .ptr 0 0 0), (5, .eptr 2 1 8 ((zw ((p0.b.length : Int) - 1)).toNat) 0)] [zka v102.2 v102.2.at_ (zM 2 1 8 l68), .dead, .rows (l68.map zac) 8 1 109] (W.exit (show _ /\ _ from ⟨rfl, (), rfl, rfl⟩))
  ·intro e0 s0 h0 hq
   rcases r100 with er100 | qr100
   ·obtain ⟨rfl, _, rfl, rfl⟩ := hq
    replace hm := zcC hm
    show WK _ _ _ _ _ [(0, .ptr 0 0 0), (5, .eptr 2 1 8 ((zw ((p0.b.length : Int) - 1)).toNat) 0)] [zkc er100.1 er100.2.1 (zbS er100.2.2.1) (zbT er100.2.2.2.1) (zM 2 1 8 er100.2.2.2.2.2.2.2) er100.2.2.2.2.1 er100.2.2.2.2.2.1 er100.2.2.2.2.2.2.1, .dead, .rows (er100.2.2.2.2.2.2.2.map zac) 8 1 109]
    refine W.seq ?_
    replace ⟨h125, hm⟩ := zav hm
    refine W.sqJ [] [] [] 0 [] [(0, .ptr 0 0 0), (5, .eptr 2 1 8 ((zw ((p0.b.length : Int) - 1)).toNat) 0), (112, .bool ((rd er100.1 er100.2.1).Kind == 4))] [zkc er100.1 er100.2.1 (zbS er100.2.2.1) (zbT er100.2.2.2.1) (zM 2 1 8 er100.2.2.2.2.2.2.2) er100.2.2.2.2.1 er100.2.2.2.2.2.1 er100.2.2.2.2.2.2.1, .dead, .rows (er100.2.2.2.2.2.2.2.map zac) 8 1 109] zaC ?_
    refine W.cnd ((rd er100.1 er100.2.1).Kind == 4) (fun hb126 => ?_) fun hb126 => ?_
    ·replace hm := zal hb126 hm
     replace ⟨v127, h128, hm⟩ := zam hm
     refine W.sq [] [(4, .bool v127.1)] [.cells (zah v127.2) 0 82] ?_ (hrun := ?_)
     rotate_left
     ·try simp -implicitDefEqProofs -dsimp only [go_sem, hb1, h4, h125, hb126]
      with_reducible refine exP.mk (.gheap [.fol 0 0 4] ⟨[], [0], [.ptr 0 0 0], [.cells (zah (zae.mk er100.1 er100.2.1 (zat.mk er100.2.2.1 er100.2.2.2.1) er100.2.2.2.2.2.2.2 (zao.mk er100.2.2.2.2.1 er100.2.2.2.2.2.1 er100.2.2.2.2.2.2.1))) 0 82], .bool v127.1, [.cells (zah v127.2) 0 82]⟩ []) (callQ.ofG (by simp -implicitDefEqProofs -dsimp only [go_sem, hb1, h4, h125, hb126]) (zdO h128)) ?_
      try simp -implicitDefEqProofs -dsimp only [go_sem, hb1, h4, h125, hb126]
     obtain rfl := zo hm
     exact W.ret (zaR.retW ⟨[], []⟩ RO)
    ·replace hm := zak hb126 hm
     refine W.skip ?_
     replace ⟨h129, hm⟩ := zav hm
     replace ⟨h130, hm⟩ := zav hm
     replace ⟨h131, hm⟩ := zav hm
     replace ⟨l132, h133, hm⟩ := zaN hm
     refine W.wk ⟨[], [.foc 2 ((zw ((p0.b.length : Int) - 1)).toNat) 6]⟩ [(0, .ptr 0 0 0), (5, .eptr 2 1 8 ((zw ((p0.b.length : Int) - 1)).toNat) 0), (112, .bool ((rd er100.1 er100.2.1).Kind == 4))] [zkc er100.1 er100.2.1 (zbS er100.2.2.1) (zbT er100.2.2.2.1) (zM 2 1 8 er100.2.2.2.2.2.2.2) er100.2.2.2.2.1 er100.2.2.2.2.2.1 er100.2.2.2.2.2.2.1, .dead, .rows ((er100.2.2.2.2.2.2.2.map zac).set ((zw ((p0.b.length : Int) - 1)).toNat) [zi ((rd er100.2.2.2.2.2.2.2 (zw ((p0.b.length : Int) - 1))).head.Kind), zi ((rd er100.2.2.2.2.2.2.2 (zw ((p0.b.length : Int) - 1))).head.Line), zi ((rd er100.2.2.2.2.2.2.2 (zw ((p0.b.length : Int) - 1))).head.Col), .str ((rd er100.2.2.2.2.2.2.2 (zw ((p0.b.length : Int) - 1))).head.Text), .zBm (((rd er100.2.2.2.2.2.2.2 (zw ((p0.b.length : Int) - 1))).labels).map (eKV AV.str AV.bool)), .zBx (((rd er100.2.2.2.2.2.2.2 (zw ((p0.b.length : Int) - 1))).open_).map eStr) 1 9, .msl 3 1 0 4 (((rd er100.2.2.2.2.2.2.2 (zw ((p0.b.length : Int) - 1))).zFi).length) (((rd er100.2.2.2.2.2.2.2 (zw ((p0.b.length : Int) - 1))).zFi).length), .zBx (((rd er100.2.2.2.2.2.2.2 (zw ((p0.b.length : Int) - 1))).zTg).map zab) 4 41]) 8 1 109, .rows (((rd er100.2.2.2.2.2.2.2 (zw ((p0.b.length : Int) - 1))).zFi).map zab) 4 1 41] ?_
     refine W.sqLG [.light, .light, .light, .light, .light, .light, .light, .light, .light, .light, .light, .light, .light, .light, .light, .lit, .app, .light, .light, .store] [([], []), ([], []), ([], []), ([], []), ([2], []), ([], []), ([], []), ([], []), ([0], []), ([], []), ([], []), ([], []), ([0], []), ([], []), ([], []), ([], []), ([3], [3]), ([], []), ([], []), ([2], [2])] [] [.fol 2 ((zw ((p0.b.length : Int) - 1)).toNat) 6] [(0, .ptr 0 0 0), (5, .eptr 2 1 8 ((zw ((p0.b.length : Int) - 1)).toNat) 0)] [zkc er100.1 er100.2.1 (zbS er100.2.2.1) (zbT er100.2.2.2.1) (zM 2 1 8 l132) er100.2.2.2.2.1 er100.2.2.2.2.2.1 er100.2.2.2.2.2.2.1, .dead, .rows (l132.map zac) 8 1 109] zaC ?_
     clear h133
     replace ⟨h134, hm⟩ := zav hm
     replace ⟨h135, hm⟩ := zav hm
     replace ⟨l136, h137, hm⟩ := zaN hm
     refine W.wk ⟨[], [.foc 2 ((zw ((p0.b.length : Int) - 1)).toNat) 7]⟩ [(0, .ptr 0 0 0), (5, .eptr 2 1 8 ((zw ((p0.b.length : Int) - 1)).toNat) 0)] [zkc er100.1 er100.2.1 (zbS er100.2.2.1) (zbT er100.2.2.2.1) (zM 2 1 8 l132) er100.2.2.2.2.1 er100.2.2.2.2.2.1 er100.2.2.2.2.2.2.1, .dead, .rows ((l132.map zac).set ((zw ((p0.b.length : Int) - 1)).toNat) [zi ((rd l132 (zw ((p0.b.length : Int) - 1))).head.Kind), zi ((rd l132 (zw ((p0.b.length : Int) - 1))).head.Line), zi ((rd l132 (zw ((p0.b.length : Int) - 1))).head.Col), .str ((rd l132 (zw ((p0.b.length : Int) - 1))).head.Text), .zBm (((rd l132 (zw ((p0.b.length : Int) - 1))).labels).map (eKV AV.str AV.bool)), .zBx (((rd l132 (zw ((p0.b.length : Int) - 1))).open_).map eStr) 1 9, .zBx (((rd l132 (zw ((p0.b.length : Int) - 1))).zFi).map zab) 4 41, .msl 3 1 0 4 (((rd l132 (zw ((p0.b.length : Int) - 1))).zTg).length) (((rd l132 (zw ((p0.b.length : Int) - 1))).zTg).length)]) 8 1 109, .rows (((rd l132 (zw ((p0.b.length : Int) - 1))).zTg).map zab) 4 1 41] ?_
     refine W.sqG [] [.fol 2 ((zw ((p0.b.length : Int) - 1)).toNat) 7] [(0, .ptr 0 0 0), (5, .eptr 2 1 8 ((zw ((p0.b.length : Int) - 1)).toNat) 0)] [zkc er100.1 er100.2.1 (zbS er100.2.2.1) (zbT er100.2.2.2.1) (zM 2 1 8 l136) er100.2.2.2.2.1 er100.2.2.2.2.2.1 er100.2.2.2.2.2.2.1, .dead, .rows (l136.map zac) 8 1 109] ?_
     clear h137
     replace ⟨v138, h139, hm⟩ := zam hm
     refine W.sq [] [(0, .ptr 0 0 0), (5, .eptr 2 1 8 ((zw ((p0.b.length : Int) - 1)).toNat) 0), (7, .ptr 3 0 0), (8, .bool v138.2.1)] [zka v138.2.2 v138.2.2.at_ (zM 2 1 8 v138.2.2.b), .dead, .rows (v138.2.2.b.map zac) 8 1 109, .cells (zan v138.1) 0 63] ?_ (hrun := ?_)
     rotate_left
     ·try simp -implicitDefEqProofs -dsimp only [go_sem, hb1, h4, h125, hb126, h129, h130, h131, h134, h135]
      with_reducible refine exP.mk (.gheap [] ⟨[], [0, 2], [.ptr 0 0 0, .eptr 1 1 8 ((zw ((p0.b.length : Int) - 1)).toNat) 0], [zkc er100.1 er100.2.1 (zbS er100.2.2.1) (zbT er100.2.2.2.1) (zM 1 1 8 l136) er100.2.2.2.2.1 er100.2.2.2.2.2.1 er100.2.2.2.2.2.2.1, .rows (l136.map zac) 8 1 109], .tuple [.agg [zi v138.1.Op, .bool v138.1.Lock, zi v138.1.Cond, zi v138.1.A.Kind, zi v138.1.A.Reg, zi v138.1.A.Sym, zi v138.1.A.N, zi v138.1.B.Kind, zi v138.1.B.Reg, zi v138.1.B.Sym, zi v138.1.B.N, .str v138.1.To, .sl (v138.1.zLb.map eStr)], .bool v138.2.1], [zka v138.2.2 v138.2.2.at_ (zM 1 1 8 v138.2.2.b), .rows (v138.2.2.b.map zac) 8 1 109]⟩ []) (callQ.ofG (by simp -implicitDefEqProofs -dsimp only [go_sem, hb1, h4, h125, hb126, h129, h130, h131, h134, h135]) (zeo h139)) ?_
      try simp -implicitDefEqProofs -dsimp only [go_sem, hb1, h4, h125, hb126, h129, h130, h131, h134, h135]
     refine W.seq ?_
     replace ⟨v140, h141, hm⟩ := zam hm
     refine W.sq [] [(0, .ptr 0 0 0), (5, .eptr 2 1 8 ((zw ((p0.b.length : Int) - 1)).toNat) 0), (7, .ptr 3 0 0), (156, .bool ((!v138.2.1) || (!v140.1)))] [zka v140.2 v140.2.at_ (zM 2 1 8 v138.2.2.b), .dead, .rows (v138.2.2.b.map zac) 8 1 109, .cells (zan v138.1) 0 63] ?_ (hrun := ?_)
     rotate_left
     ·try simp -implicitDefEqProofs -dsimp only [go_sem, hb1, h4, h125, hb126, h129, h130, h131, h134, h135]
      refine zd1 (fun hg142 => ?_) (fun hg142 => ?_)
      ·try simp only [Bool.not_not] at hg142
       try simp -implicitDefEqProofs -dsimp only [go_sem, hb1, h4, h125, hb126, h129, h130, h131, h134, h135, hg142]
       with_reducible refine exP.mk (.gheap [] ⟨[], [0, 2], [.ptr 0 0 0], [zka v138.2.2 v138.2.2.at_ (zM 1 1 8 v138.2.2.b), .rows (v138.2.2.b.map zac) 8 1 109], .bool v140.1, [zka v140.2 v140.2.at_ (zM 1 1 8 v138.2.2.b), .rows (v138.2.2.b.map zac) 8 1 109]⟩ []) (callQ.ofG (by simp -implicitDefEqProofs -dsimp only [go_sem, hb1, h4, h125, hb126, h129, h130, h131, h134, h135, hg142]) (zfW (zal (by simp -implicitDefEqProofs -dsimp only [go_sem, hb1, h4, h125, hb126, h129, h130, h131, h134, h135, hg142]) h141))) ?_
       try simp -implicitDefEqProofs -dsimp only [go_sem, hb1, h4, h125, hb126, h129, h130, h131, h134, h135, hg142]
      ·try simp only [Bool.not_not] at hg142
       obtain rfl := Option.some.inj (zak (by simp -implicitDefEqProofs -dsimp only [go_sem, hb1, h4, h125, hb126, h129, h130, h131, h134, h135, hg142]) h141)
       try simp -implicitDefEqProofs -dsimp only [go_sem, hb1, h4, h125, hb126, h129, h130, h131, h134, h135, hg142]
     refine W.cnd ((!v138.2.1) || (!v140.1)) (fun hb143 => ?_) fun hb143 => ?_
     ·replace hm := zal hb143 hm
      refine W.sqG [] [.fol 0 0 4] [(4, .bool false)] [zka v140.2 v140.2.at_ (zbB v138.2.2.b)] ?_
      obtain rfl := zo hm
      exact W.ret (zaR.retW ⟨[], []⟩ RO)
     ·replace hm := zak hb143 hm
      refine W.skip ?_
      replace ⟨h144, hm⟩ := zav hm
      replace ⟨l145, h146, hm⟩ := zaN hm
      replace ⟨l147, h148, hm⟩ := zaN hm
      refine W.wk ⟨[], [.foc 2 ((zw ((p0.b.length : Int) - 1)).toNat) 5]⟩ [(0, .ptr 0 0 0), (5, .eptr 2 1 8 ((zw ((p0.b.length : Int) - 1)).toNat) 0), (7, .ptr 3 0 0), (156, .bool ((!v138.2.1) || (!v140.1)))] [zka v140.2 v140.2.at_ (zM 2 1 8 v138.2.2.b), .dead, .rows ((v138.2.2.b.map zac).set ((zw ((p0.b.length : Int) - 1)).toNat) [zi ((rd v138.2.2.b (zw ((p0.b.length : Int) - 1))).head.Kind), zi ((rd v138.2.2.b (zw ((p0.b.length : Int) - 1))).head.Line), zi ((rd v138.2.2.b (zw ((p0.b.length : Int) - 1))).head.Col), .str ((rd v138.2.2.b (zw ((p0.b.length : Int) - 1))).head.Text), .zBm (((rd v138.2.2.b (zw ((p0.b.length : Int) - 1))).labels).map (eKV AV.str AV.bool)), .msl 4 1 0 1 (((rd v138.2.2.b (zw ((p0.b.length : Int) - 1))).open_).length) (((rd v138.2.2.b (zw ((p0.b.length : Int) - 1))).open_).length), .zBx (((rd v138.2.2.b (zw ((p0.b.length : Int) - 1))).zFi).map zab) 4 41, .zBx (((rd v138.2.2.b (zw ((p0.b.length : Int) - 1))).zTg).map zab) 4 41]) 8 1 109, .cells (zan v138.1) 0 63, .rows (((rd v138.2.2.b (zw ((p0.b.length : Int) - 1))).open_).map eStr) 1 1 9] ?_
      refine W.sqG [] [.nbx 2 ((zw ((p0.b.length : Int) - 1)).toNat) 5 1 9, .fol 0 0 4] [(0, .ptr 0 0 0), (7, .ptr 3 0 0)] [zka v140.2 v140.2.at_ (zbB l147), .dead, .dead, .cells [zi v138.1.Op, .bool v138.1.Lock, zi v138.1.Cond, zi v138.1.A.Kind, zi v138.1.A.Reg, zi v138.1.A.Sym, zi v138.1.A.N, zi v138.1.B.Kind, zi v138.1.B.Reg, zi v138.1.B.Sym, zi v138.1.B.N, .str v138.1.To, zM 4 1 1 l145] 0 63, .rows (l145.map eStr) 1 1 9] ?_
      clear h146 h148
      replace ⟨h149, hm⟩ := zav hm
      refine W.wk ⟨[], [.foc 0 0 3]⟩ [(0, .ptr 0 0 0), (7, .ptr 3 0 0)] [zkb v140.2 v140.2.at_ (zbS v140.2.p.zSy) (zM 5 1 1 v140.2.p.zTh) (zbB l147), .dead, .dead, .cells [zi v138.1.Op, .bool v138.1.Lock, zi v138.1.Cond, zi v138.1.A.Kind, zi v138.1.A.Reg, zi v138.1.A.Sym, zi v138.1.A.N, zi v138.1.B.Kind, zi v138.1.B.Reg, zi v138.1.B.Sym, zi v138.1.B.N, .str v138.1.To, zM 4 1 1 l145] 0 63, .rows (l145.map eStr) 1 1 9, .rows (v140.2.p.zTh.map zaj) 1 1 59] ?_
      refine W.sqJ [] [] [] 0 [] [(7, .ptr 3 0 0), (9, .eptr 5 1 1 ((zw ((v140.2.p.zTh.length : Int) - 1)).toNat) 0)] [zkb v140.2 v140.2.at_ (zbS v140.2.p.zSy) (zM 5 1 1 v140.2.p.zTh) (zbB l147), .dead, .dead, .cells [zi v138.1.Op, .bool v138.1.Lock, zi v138.1.Cond, zi v138.1.A.Kind, zi v138.1.A.Reg, zi v138.1.A.Sym, zi v138.1.A.N, zi v138.1.B.Kind, zi v138.1.B.Reg, zi v138.1.B.Sym, zi v138.1.B.N, .str v138.1.To, zM 4 1 1 l145] 0 63, .rows (l145.map eStr) 1 1 9, .rows (v140.2.p.zTh.map zaj) 1 1 59] zaC ?_
      replace ⟨h150, hm⟩ := zav hm
      replace ⟨h151, hm⟩ := zav hm
      replace ⟨l152, h153, hm⟩ := zaN hm
      refine W.wk ⟨[4], [.foc 5 ((zw ((v140.2.p.zTh.length : Int) - 1)).toNat) 0]⟩ [(7, .ptr 3 0 0), (9, .eptr 5 1 1 ((zw ((v140.2.p.zTh.length : Int) - 1)).toNat) 0)] [zkb v140.2 v140.2.at_ (zbS v140.2.p.zSy) (zM 5 1 1 v140.2.p.zTh) (zbB l147), .dead, .dead, .cells [zi v138.1.Op, .bool v138.1.Lock, zi v138.1.Cond, zi v138.1.A.Kind, zi v138.1.A.Reg, zi v138.1.A.Sym, zi v138.1.A.N, zi v138.1.B.Kind, zi v138.1.B.Reg, zi v138.1.B.Sym, zi v138.1.B.N, .str v138.1.To, .sl (l145.map eStr)] 0 63, .dead, .rows ((v140.2.p.zTh.map zaj).set ((zw ((v140.2.p.zTh.length : Int) - 1)).toNat) [.msl 6 1 0 13 (((rd v140.2.p.zTh (zw ((v140.2.p.zTh.length : Int) - 1))).Ins).length) (((rd v140.2.p.zTh (zw ((v140.2.p.zTh.length : Int) - 1))).Ins).length)]) 1 1 59, .rows (((rd v140.2.p.zTh (zw ((v140.2.p.zTh.length : Int) - 1))).Ins).map zan) 13 1 63] ?_
      refine W.sqLG [.light, .light, .light, .light, .light, .light, .lit, .app, .light, .light, .store] [([], []), ([], []), ([], []), ([], []), ([5], []), ([3], []), ([], []), ([6], [6]), ([], []), ([], []), ([5], [5])] [] [.fol 5 ((zw ((v140.2.p.zTh.length : Int) - 1)).toNat) 0, .fol 0 0 3] [] [zkb v140.2 v140.2.at_ (zbS v140.2.p.zSy) (zbT l152) (zbB l147)] zaC ?_
      clear h153
      refine W.sq [] [(4, .bool true)] [zkb v140.2 v140.2.at_ (zbS v140.2.p.zSy) (zbT l152) (zbB l147)] ?_
      obtain rfl := zo hm
      exact W.ret (zaR.retW ⟨[], []⟩ RO)
   ·obtain ⟨rfl, rfl, rfl⟩ := hq
    replace hm := zcB hm
    obtain rfl := zo hm
    exact zaR.retW ⟨[], []⟩ RO
theorem zgi {p0 : zae} {r : Bool × zae} (hm : zcx p0 = some r) : HF Tryz.prog 32 [.ptr 0 0 0] [.cells (zah p0) 0 82] (.bool r.1) [.cells (zah r.2) 0 82] := by
 rw [zcx] at hm
 refine HF.of Tryz.func32 rfl Tryz.ntmps32 (Nat.le_of_ble_eq_true rfl) rfl ?_
 have e0 : argS 0 [.ptr 0 0 0] = [(0, .ptr 0 0 0)] := rfl
 rw [e0]
 refine W.sq [] [(0, .ptr 0 0 0)] [.cells (zah p0) 0 82] ?_
 replace ⟨h1, hm⟩ := zav hm
 refine W.sqJ [10, 11] [10, 11] [0, 1, 2, 3, 4, 5, 6, 7, 8, 9] 1 [] [(0, .ptr 0 0 0), (3, .ptr 1 0 0)] [.cells (zah p0) 0 82, .cells (zab (rd p0.l p0.at_)) 0 41] zaC ?_
 refine W.seq ?_
 refine W.block ?_
 refine W.sq [] [(0, .ptr 0 0 0), (3, .ptr 1 0 0), (14, .bool ((rd p0.l p0.at_).Kind == 4))] [.cells (zah p0) 0 82, .cells (zab (rd p0.l p0.at_)) 0 41] ?_
 refine W.cnd ((rd p0.l p0.at_).Kind == 4) (fun hb2 => ?_) fun hb2 => ?_
 ·replace hm := zal hb2 hm
  refine W.sq [] [] [zka p0 (zw (p0.at_ + 1)) (zbB p0.b)] ?_
  refine W.sqh [] [(2, .bool true)] ?_
  obtain rfl := zo hm
  exact W.ret (zaR.retW ⟨[], []⟩ RO)
 ·replace hm := zak hb2 hm
  replace ⟨b3, h4, hm⟩ := zaN hm
  refine W.sq [] [(0, .ptr 0 0 0), (3, .ptr 1 0 0), (25, .bool b3)] [.cells (zah p0) 0 82, .cells (zab (rd p0.l p0.at_)) 0 41] ?_
  clear h4
  refine W.cnd b3 (fun hb5 => ?_) fun hb5 => ?_
  ·replace hm := zal hb5 hm
   replace ⟨v6, h7, hm⟩ := zam hm
   refine W.sq [] [(2, .bool v6.1)] [.cells (zah v6.2) 0 82] ?_ (hrun := ?_)
   rotate_left
   ·try simp -implicitDefEqProofs -dsimp only [go_sem, h1, hb2, hb5]
    with_reducible refine exP.mk (.gheap [] ⟨[], [0], [.ptr 0 0 0, zqT (rd p0.l p0.at_)], [.cells (zah p0) 0 82], .bool v6.1, [.cells (zah v6.2) 0 82]⟩ []) (callQ.ofG (by simp -implicitDefEqProofs -dsimp only [go_sem, h1, hb2, hb5]) (zfP h7)) ?_
    try simp -implicitDefEqProofs -dsimp only [go_sem, h1, hb2, hb5]
   obtain rfl := zo hm
   exact W.ret (zaR.retW ⟨[], []⟩ RO)
  ·replace hm := zak hb5 hm
   replace ⟨b8, h9, hm⟩ := zaN hm
   refine W.sq [] [(0, .ptr 0 0 0), (3, .ptr 1 0 0), (37, .bool b8)] [.cells (zah p0) 0 82, .cells (zab (rd p0.l p0.at_)) 0 41] ?_
   clear h9
   refine W.cnd b8 (fun hb10 => ?_) fun hb10 => ?_
   ·replace hm := zal hb10 hm
    refine W.seq ?_
    refine W.wk ⟨[], [.foc 0 0 4]⟩ [(0, .ptr 0 0 0), (3, .ptr 1 0 0), (37, .bool b8)] [zka p0 p0.at_ (zM 2 1 8 p0.b), .cells (zab (rd p0.l p0.at_)) 0 41, .rows (p0.b.map zac) 8 1 109] ?_
    refine W.sqG [] [.fol 0 0 4] [(0, .ptr 0 0 0), (3, .ptr 1 0 0), (51, .bool (decide ((p0.b.length : Int) ≥ 64)))] [.cells (zah p0) 0 82, .cells (zab (rd p0.l p0.at_)) 0 41] ?_
    refine W.cnd (decide ((p0.b.length : Int) ≥ 64)) (fun hb11 => ?_) fun hb11 => ?_
    ·replace hm := zal hb11 hm
     replace ⟨v12, h13, hm⟩ := zam hm
     refine W.sq [] [(2, .bool v12.1)] [.cells (zah v12.2) 0 82] ?_ (hrun := ?_)
     rotate_left
     ·try simp -implicitDefEqProofs -dsimp only [go_sem, h1, hb2, hb5, hb10, hb11]
      with_reducible refine exP.mk (.gheap [] ⟨[], [0], [.ptr 0 0 0, zi 10, zqT (rd p0.l p0.at_)], [.cells (zah p0) 0 82], .bool v12.1, [.cells (zah v12.2) 0 82]⟩ []) (callQ.ofG (by simp -implicitDefEqProofs -dsimp only [go_sem, h1, hb2, hb5, hb10, hb11]) (zaJ h13)) ?_
      try simp -implicitDefEqProofs -dsimp only [go_sem, h1, hb2, hb5, hb10, hb11]
     obtain rfl := zo hm
     exact W.ret (zaR.retW ⟨[], []⟩ RO)
    ·replace hm := zak hb11 hm
     refine W.skip ?_
     refine W.sq [] [(0, .ptr 0 0 0), (3, .ptr 1 0 0)] [zka p0 (zw (p0.at_ + 1)) (zbB p0.b), .cells (zab (rd p0.l p0.at_)) 0 41] ?_
     replace ⟨h14, hm⟩ := zav hm
     replace ⟨l15, h16, hm⟩ := zaN hm
     refine W.wk ⟨[], [.foc 0 0 4]⟩ [(0, .ptr 0 0 0), (3, .ptr 1 0 0)] [zka p0 (zw (p0.at_ + 1)) (zM 2 1 8 p0.b), .cells (zab (rd p0.l p0.at_)) 0 41, .rows (p0.b.map zac) 8 1 109] ?_
     refine W.wk ⟨[], [.res, .res]⟩ [(0, .ptr 0 0 0), (3, .ptr 1 0 0)] [zka p0 (zw (p0.at_ + 1)) (zM 2 1 8 p0.b), .cells (zab (rd p0.l p0.at_)) 0 41, .rows (p0.b.map zac) 8 1 109, .hole, .hole] ?_
     refine W.sqLG [.light, .light, .light, .light, .light, .light, .here 3, .light, .here 4, .app, .light, .light, .store] [([], []), ([], []), ([], []), ([], []), ([0], []), ([1], []), ([3], [3]), ([], []), ([4], [4]), ([2, 4], [2]), ([], []), ([], []), ([0], [0])] [] [.fol 2 p0.b.length 4, .nbx 2 p0.b.length 5 1 9, .nbx 2 p0.b.length 6 4 41, .nbx 2 p0.b.length 7 4 41, .fol 0 0 4] [(0, .ptr 0 0 0)] [zka p0 (zw (p0.at_ + 1)) (zbB l15)] zaC ?_
     clear h16
     replace ⟨h17, hm⟩ := zav hm
     replace ⟨l18, h19, hm⟩ := zaN hm
     refine W.wk ⟨[], [.foc 0 0 3]⟩ [(0, .ptr 0 0 0)] [zkb p0 (zw (p0.at_ + 1)) (zbS p0.p.zSy) (zM 1 1 1 p0.p.zTh) (zbB l15), .rows (p0.p.zTh.map zaj) 1 1 59] ?_
     refine W.sqG [] [.nbx 1 p0.p.zTh.length 0 13 63, .fol 0 0 3] [(0, .ptr 0 0 0)] [zkb p0 (zw (p0.at_ + 1)) (zbS p0.p.zSy) (zbT l18) (zbB l15)] ?_ (hrun := by exact ROT)
     clear h19
     replace ⟨v20, h21, hm⟩ := zam hm
     refine W.sq [] [(2, .bool v20.1)] [.cells (zah v20.2) 0 82] ?_ (hrun := ?_)
     rotate_left
     ·try simp -implicitDefEqProofs -dsimp only [go_sem, h1, hb2, hb5, hb10, hb11, h14, h17]
      with_reducible refine exP.mk (.gheap [] ⟨[], [0], [.ptr 0 0 0], [.cells (zah (zae.mk p0.l (zw (p0.at_ + 1)) (zat.mk p0.p.zSy l18) l15 p0.f)) 0 82], .bool v20.1, [.cells (zah v20.2) 0 82]⟩ []) (callQ.ofG (by simp -implicitDefEqProofs -dsimp only [go_sem, h1, hb2, hb5, hb10, hb11, h14, h17]) (zdO h21)) ?_
      try simp -implicitDefEqProofs -dsimp only [go_sem, h1, hb2, hb5, hb10, hb11, h14, h17]
     obtain rfl := zo hm
     exact W.ret (zaR.retW ⟨[], []⟩ RO)
   ·replace hm := zak hb10 hm
    refine W.skip ?_
    replace ⟨v22, h23, hm⟩ := zam hm
    refine W.sq [] [(2, .bool v22.1)] [.cells (zah v22.2) 0 82] ?_ (hrun := ?_)
    rotate_left
    ·try simp -implicitDefEqProofs -dsimp only [go_sem, h1, hb2, hb5, hb10]
     with_reducible refine exP.mk (.gheap [] ⟨[], [0], [.ptr 0 0 0, zqT (rd p0.l p0.at_)], [.cells (zah p0) 0 82], .bool v22.1, [.cells (zah v22.2) 0 82]⟩ []) (callQ.ofG (by simp -implicitDefEqProofs -dsimp only [go_sem, h1, hb2, hb5, hb10]) (zgk h23)) ?_
     try simp -implicitDefEqProofs -dsimp only [go_sem, h1, hb2, hb5, hb10]
    obtain rfl := zo hm
    exact W.ret (zaR.retW ⟨[], []⟩ RO)
theorem zfV {p0 : zae} {p1 : Int} {r : Bool × zae} (hm : zbO p0 p1 = some r) : HF Tryz.prog 33 [.ptr 0 0 0, zi p1] [.cells (zah p0) 0 82] (.bool r.1) [.cells (zah r.2) 0 82] := by
 rw [zbO] at hm
 refine HF.of Tryz.func33 rfl Tryz.ntmps33 (Nat.le_of_ble_eq_true rfl) rfl ?_
 have e0 : argS 0 [.ptr 0 0 0, zi p1] = [(0, .ptr 0 0 0), (1, zi p1)] := rfl
 rw [e0]
 refine W.sq [] [(0, .ptr 0 0 0), (1, zi p1)] [.cells (zah p0) 0 82] ?_
 replace ⟨h1, hm⟩ := zav hm
 replace ⟨h2, hm⟩ := zav hm
 replace ⟨l3, h4, hm⟩ := zaN hm
 replace ⟨l5, h6, hm⟩ := zaN hm
 replace ⟨l7, h8, hm⟩ := zaN hm
 replace ⟨l9, h10, hm⟩ := zaN hm
 replace ⟨l11, h12, hm⟩ := zaN hm
 refine W.wk ⟨[], [.foc 0 0 4, .foc 1 p1.toNat 4, .foc 1 p1.toNat 5, .foc 1 p1.toNat 6, .foc 1 p1.toNat 7, .foc 0 0 3, .foc 6 p1.toNat 0]⟩ [(0, .ptr 0 0 0), (1, zi p1)] [zkb p0 p0.at_ (zbS p0.p.zSy) (zM 6 1 1 p0.p.zTh) (zM 1 1 8 p0.b), .rows ((p0.b.map zac).set p1.toNat [zi (rd p0.b p1).head.Kind, zi (rd p0.b p1).head.Line, zi (rd p0.b p1).head.Col, .str (rd p0.b p1).head.Text, .map 2, .msl 3 1 0 1 (((rd p0.b p1).open_).length) (((rd p0.b p1).open_).length), .msl 4 1 0 4 (((rd p0.b p1).zFi).length) (((rd p0.b p1).zFi).length), .msl 5 1 0 4 (((rd p0.b p1).zTg).length) (((rd p0.b p1).zTg).length)]) 8 1 109, .map (((rd p0.b p1).labels).map (eKV AV.str AV.bool)), .rows (((rd p0.b p1).open_).map eStr) 1 1 9, .rows (((rd p0.b p1).zFi).map zab) 4 1 41, .rows (((rd p0.b p1).zTg).map zab) 4 1 41, .rows ((p0.p.zTh.map zaj).set p1.toNat [.msl 7 1 0 13 (((rd p0.p.zTh p1).Ins).length) (((rd p0.p.zTh p1).Ins).length)]) 1 1 59, .rows (((rd p0.p.zTh p1).Ins).map zan) 13 1 63] ?_
 refine W.sqJ [16, 17] [16, 17] [0, 1, 2, 3, 4, 5, 6, 7, 8, 9, 10, 11, 12, 13, 14, 15, 18] 8 [] [(0, .ptr 0 0 0), (5, .ptr 8 0 0), (6, zM 7 1 13 l11)] [zkb p0 p0.at_ (zbS p0.p.zSy) (zM 6 1 1 p0.p.zTh) (zM 1 1 8 p0.b), .rows ((p0.b.map zac).set p1.toNat [zi (rd p0.b p1).head.Kind, zi (rd p0.b p1).head.Line, zi (rd p0.b p1).head.Col, .str (rd p0.b p1).head.Text, .map 2, zM 3 1 1 l5, zM 4 1 4 l7, zM 5 1 4 l9]) 8 1 109, .map (l3.map (eKV AV.str AV.bool)), .rows (l5.map eStr) 1 1 9, .rows (l7.map zab) 4 1 41, .rows (l9.map zab) 4 1 41, .rows ((p0.p.zTh.map zaj).set p1.toNat [zM 7 1 13 l11]) 1 1 59, .rows (l11.map zan) 13 1 63, .cells [zi (rd p0.b p1).head.Kind, zi (rd p0.b p1).head.Line, zi (rd p0.b p1).head.Col, .str (rd p0.b p1).head.Text, .map 2, zM 3 1 1 l5, zM 4 1 4 l7, zM 5 1 4 l9] 0 109] zaC ?_
 clear h4 h6 h8 h10 h12
 refine W.seq ?_
 replace ⟨h13, hm⟩ := zav hm
 replace ⟨h14, hm⟩ := zav hm
 replace ⟨b15, h16, hm⟩ := zaN hm
 refine W.sq [] [(0, .ptr 0 0 0), (5, .ptr 8 0 0), (6, zM 7 1 13 l11), (56, .bool b15)] [zkb p0 p0.at_ (zbS p0.p.zSy) (zM 6 1 1 p0.p.zTh) (zM 1 1 8 p0.b), .rows ((p0.b.map zac).set p1.toNat [zi (rd p0.b p1).head.Kind, zi (rd p0.b p1).head.Line, zi (rd p0.b p1).head.Col, .str (rd p0.b p1).head.Text, .map 2, zM 3 1 1 l5, zM 4 1 4 l7, zM 5 1 4 l9]) 8 1 109, .map (l3.map (eKV AV.str AV.bool)), .rows (l5.map eStr) 1 1 9, .rows (l7.map zab) 4 1 41, .rows (l9.map zab) 4 1 41, .rows ((p0.p.zTh.map zaj).set p1.toNat [zM 7 1 13 l11]) 1 1 59, .rows (l11.map zan) 13 1 63, .cells [zi (rd p0.b p1).head.Kind, zi (rd p0.b p1).head.Line, zi (rd p0.b p1).head.Col, .str (rd p0.b p1).head.Text, .map 2, zM 3 1 1 l5, zM 4 1 4 l7, zM 5 1 4 l9] 0 109] ?_
 clear h16
 refine W.cnd b15 (fun hb17 => ?_) fun hb17 => ?_
 ·replace hm := zal hb17 hm
  replace ⟨v18, h19, hm⟩ := zam hm
  refine W.sq [] [(4, .bool v18.1)] [.cells (zah v18.2) 0 82] ?_ (hrun := ?_)
  rotate_left
  ·try simp -implicitDefEqProofs -dsimp only [go_sem, h1, h2, h13, h14, hb17]
   with_reducible refine exP.mk (.gheap [.fol 1 p1.toNat 4, .fol 1 p1.toNat 5, .fol 1 p1.toNat 6, .fol 1 p1.toNat 7, .fol 0 0 4, .fol 6 p1.toNat 0, .fol 0 0 3] ⟨[], [0], [.ptr 0 0 0, zi 9, zqT ((rd p0.b p1).head)], [.cells (zah (zae.mk p0.l p0.at_ (zat.mk p0.p.zSy (p0.p.zTh.set p1.toNat (zai.mk l11))) (p0.b.set p1.toNat (zay.mk ((rd p0.b p1).head) l3 l5 l7 l9)) p0.f)) 0 82], .bool v18.1, [.cells (zah v18.2) 0 82]⟩ []) (callQ.ofG (by simp -implicitDefEqProofs -dsimp only [go_sem, h1, h2, h13, h14, hb17]) (zaJ h19)) ?_
   try simp -implicitDefEqProofs -dsimp only [go_sem, h1, h2, h13, h14, hb17]
  obtain rfl := zo hm
  exact W.ret (zaR.retW ⟨[], []⟩ RO)
 ·replace hm := zak hb17 hm
  refine W.skip ?_
  refine W.sq [] [(0, .ptr 0 0 0), (5, .ptr 8 0 0), (6, zM 7 1 13 l11), (7, zi 0)] [zkb p0 p0.at_ (zbS p0.p.zSy) (zM 6 1 1 p0.p.zTh) (zM 1 1 8 p0.b), .rows ((p0.b.map zac).set p1.toNat [zi (rd p0.b p1).head.Kind, zi (rd p0.b p1).head.Line, zi (rd p0.b p1).head.Col, .str (rd p0.b p1).head.Text, .map 2, zM 3 1 1 l5, zM 4 1 4 l7, zM 5 1 4 l9]) 8 1 109, .map (l3.map (eKV AV.str AV.bool)), .rows (l5.map eStr) 1 1 9, .rows (l7.map zab) 4 1 41, .rows (l9.map zab) 4 1 41, .rows ((p0.p.zTh.map zaj).set p1.toNat [zM 7 1 13 l11]) 1 1 59, .rows (l11.map zan) 13 1 63, .cells [zi (rd p0.b p1).head.Kind, zi (rd p0.b p1).head.Line, zi (rd p0.b p1).head.Col, .str (rd p0.b p1).head.Text, .map 2, zM 3 1 1 l5, zM 4 1 4 l7, zM 5 1 4 l9] 0 109] ?_
  refine W.seq ?_
  refine W.sqh [] [(0, .ptr 0 0 0), (5, .ptr 8 0 0), (6, zM 7 1 13 l11), (7, zi 0), (61, zM 7 1 13 l11), (62, zi (l11.length : Int)), (63, zi 0)] ?_
  refine W.block ?_
  replace ⟨r48, hlr48, hm⟩ := zam hm
  refine W.mono (Q := fun e0 s0 h0 => match r48 with | .inl e => e0 = .exit 0 /\ ∃ w : Unit, s0 = [(0, .ptr 0 0 0), (5, .ptr 8 0 0), (6, zM 7 1 13 l11)] /\ h0 = [zkb p0 p0.at_ (zbS p0.p.zSy) (zM 6 1 1 p0.p.zTh) (zM 1 1 8 p0.b), .rows ((p0.b.map zac).set p1.toNat [zi (rd p0.b p1).head.Kind, zi (rd p0.b p1).head.Line, zi (rd p0.b p1).head.Col, .str (rd p0.b p1).head.Text, .map 2, zM 3 1 1 l5, zM 4 1 4 l7, zM 5 1 4 l9]) 8 1 109, .map (l3.map (eKV AV.str AV.bool)), .rows (l5.map eStr) 1 1 9, .rows (l7.map zab) 4 1 41, .rows (l9.map zab) 4 1 41, .rows ((p0.p.zTh.map zaj).set p1.toNat [zM 7 1 13 l11]) 1 1 59, .rows (l11.map zan) 13 1 63, .cells [zi (rd p0.b p1).head.Kind, zi (rd p0.b p1).head.Line, zi (rd p0.b p1).head.Col, .str (rd p0.b p1).head.Text, .map 2, zM 3 1 1 l5, zM 4 1 4 l7, zM 5 1 4 l9] 0 109] | .inr q => e0 = .ret /\ s0 = [(4, .bool q.1)] /\ h0 = [.cells (zah q.2) 0 82]) (W.loopM (step := zbF l11 l7 p0 p1 l3 l5 l9) (a0 := (0, 0)) (fun (a : Int × Int) (v : Unit) => ([(0, .ptr 0 0 0), (5, .ptr 8 0 0), (6, zM 7 1 13 l11), (7, zi a.1), (61, zM 7 1 13 l11), (62, zi (l11.length : Int)), (63, zi a.2)], [zkb p0 p0.at_ (zbS p0.p.zSy) (zM 6 1 1 p0.p.zTh) (zM 1 1 8 p0.b), .rows ((p0.b.map zac).set p1.toNat [zi (rd p0.b p1).head.Kind, zi (rd p0.b p1).head.Line, zi (rd p0.b p1).head.Col, .str (rd p0.b p1).head.Text, .map 2, zM 3 1 1 l5, zM 4 1 4 l7, zM 5 1 4 l9]) 8 1 109, .map (l3.map (eKV AV.str AV.bool)), .rows (l5.map eStr) 1 1 9, .rows (l7.map zab) 4 1 41, .rows (l9.map zab) 4 1 41, .rows ((p0.p.zTh.map zaj).set p1.toNat [zM 7 1 13 l11]) 1 1 59, .rows (l11.map zan) 13 1 63, .cells [zi (rd p0.b p1).head.Kind, zi (rd p0.b p1).head.Line, zi (rd p0.b p1).head.Col, .str (rd p0.b p1).head.Text, .map 2, zM 3 1 1 l5, zM 4 1 4 l7, zM 5 1 4 l9] 0 109])) () hlr48 ⟨[], []⟩ RO ?_) ?_
  ·rintro ⟨i38, i39⟩ _ x hm hx
   rw [zbF] at hm
   show WK _ _ _ _ _ [(0, .ptr 0 0 0), (5, .ptr 8 0 0), (6, zM 7 1 13 l11), (7, zi i38), (61, zM 7 1 13 l11), (62, zi (l11.length : Int)), (63, zi i39)] [zkb p0 p0.at_ (zbS p0.p.zSy) (zM 6 1 1 p0.p.zTh) (zM 1 1 8 p0.b), .rows ((p0.b.map zac).set p1.toNat [zi (rd p0.b p1).head.Kind, zi (rd p0.b p1).head.Line, zi (rd p0.b p1).head.Col, .str (rd p0.b p1).head.Text, .map 2, zM 3 1 1 l5, zM 4 1 4 l7, zM 5 1 4 l9]) 8 1 109, .map (l3.map (eKV AV.str AV.bool)), .rows (l5.map eStr) 1 1 9, .rows (l7.map zab) 4 1 41, .rows (l9.map zab) 4 1 41, .rows ((p0.p.zTh.map zaj).set p1.toNat [zM 7 1 13 l11]) 1 1 59, .rows (l11.map zan) 13 1 63, .cells [zi (rd p0.b p1).head.Kind, zi (rd p0.b p1).head.Line, zi (rd p0.b p1).head.Col, .str (rd p0.b p1).head.Text, .map 2, zM 3 1 1 l5, zM 4 1 4 l7, zM 5 1 4 l9] 0 109]
   refine W.sqh [] [(0, .ptr 0 0 0), (5, .ptr 8 0 0), (6, zM 7 1 13 l11), (7, zi i38), (61, zM 7 1 13 l11), (62, zi (l11.length : Int)), (63, zi i39), (64, .bool (decide (i39 < (l11.length : Int))))] ?_
   refine W.seq ?_
   refine W.cnd (decide (i39 < (l11.length : Int))) (fun hb49 => ?_) fun hb49 => ?_
   ·replace hm := zal hb49 hm
    refine W.skip ?_
    refine W.cut (fun s h => ∃ (v : Int) (w : Unit) (F : Gs), zbG i39 v = some x /\ AT 1 F [(0, .ptr 0 0 0), (5, .ptr 8 0 0), (6, zM 7 1 13 l11), (7, zi v), (61, zM 7 1 13 l11), (62, zi (l11.length : Int)), (63, zi i39)] [zkb p0 p0.at_ (zbS p0.p.zSy) (zM 6 1 1 p0.p.zTh) (zM 1 1 8 p0.b), .rows ((p0.b.map zac).set p1.toNat [zi (rd p0.b p1).head.Kind, zi (rd p0.b p1).head.Line, zi (rd p0.b p1).head.Col, .str (rd p0.b p1).head.Text, .map 2, zM 3 1 1 l5, zM 4 1 4 l7, zM 5 1 4 l9]) 8 1 109, .map (l3.map (eKV AV.str AV.bool)), .rows (l5.map eStr) 1 1 9, .rows (l7.map zab) 4 1 41, .rows (l9.map zab) 4 1 41, .rows ((p0.p.zTh.map zaj).set p1.toNat [zM 7 1 13 l11]) 1 1 59, .rows (l11.map zan) 13 1 63, .cells [zi (rd p0.b p1).head.Kind, zi (rd p0.b p1).head.Line, zi (rd p0.b p1).head.Col, .str (rd p0.b p1).head.Text, .map 2, zM 3 1 1 l5, zM 4 1 4 l7, zM 5 1 4 l9] 0 109] s h) ?_ ?_
    ·refine W.block ?_
     replace ⟨h51, hm⟩ := zav hm
     refine W.sq [] [(0, .ptr 0 0 0), (5, .ptr 8 0 0), (6, zM 7 1 13 l11), (7, zi i38), (8, zi i39), (9, .ptr 9 0 0), (61, zM 7 1 13 l11), (62, zi (l11.length : Int)), (63, zi i39)] [zkb p0 p0.at_ (zbS p0.p.zSy) (zM 6 1 1 p0.p.zTh) (zM 1 1 8 p0.b), .rows ((p0.b.map zac).set p1.toNat [zi (rd p0.b p1).head.Kind, zi (rd p0.b p1).head.Line, zi (rd p0.b p1).head.Col, .str (rd p0.b p1).head.Text, .map 2, zM 3 1 1 l5, zM 4 1 4 l7, zM 5 1 4 l9]) 8 1 109, .map (l3.map (eKV AV.str AV.bool)), .rows (l5.map eStr) 1 1 9, .rows (l7.map zab) 4 1 41, .rows (l9.map zab) 4 1 41, .rows ((p0.p.zTh.map zaj).set p1.toNat [zM 7 1 13 l11]) 1 1 59, .rows (l11.map zan) 13 1 63, .cells [zi (rd p0.b p1).head.Kind, zi (rd p0.b p1).head.Line, zi (rd p0.b p1).head.Col, .str (rd p0.b p1).head.Text, .map 2, zM 3 1 1 l5, zM 4 1 4 l7, zM 5 1 4 l9] 0 109, .cells (zan (rd l11 i39)) 0 63] ?_
     refine W.seq ?_
     refine W.sq [] [(0, .ptr 0 0 0), (5, .ptr 8 0 0), (6, zM 7 1 13 l11), (7, zi i38), (8, zi i39), (61, zM 7 1 13 l11), (62, zi (l11.length : Int)), (63, zi i39), (70, .bool ((rd l11 i39).Op == 12))] [zkb p0 p0.at_ (zbS p0.p.zSy) (zM 6 1 1 p0.p.zTh) (zM 1 1 8 p0.b), .rows ((p0.b.map zac).set p1.toNat [zi (rd p0.b p1).head.Kind, zi (rd p0.b p1).head.Line, zi (rd p0.b p1).head.Col, .str (rd p0.b p1).head.Text, .map 2, zM 3 1 1 l5, zM 4 1 4 l7, zM 5 1 4 l9]) 8 1 109, .map (l3.map (eKV AV.str AV.bool)), .rows (l5.map eStr) 1 1 9, .rows (l7.map zab) 4 1 41, .rows (l9.map zab) 4 1 41, .rows ((p0.p.zTh.map zaj).set p1.toNat [zM 7 1 13 l11]) 1 1 59, .rows (l11.map zan) 13 1 63, .cells [zi (rd p0.b p1).head.Kind, zi (rd p0.b p1).head.Line, zi (rd p0.b p1).head.Col, .str (rd p0.b p1).head.Text, .map 2, zM 3 1 1 l5, zM 4 1 4 l7, zM 5 1 4 l9] 0 109] ?_
     refine W.cnd ((rd l11 i39).Op == 12) (fun hb52 => ?_) fun hb52 => ?_
     ·replace hm := zal hb52 hm
      refine W.exit ?_
      exact ⟨i38, (), ⟨[], []⟩, hm, RO⟩
     ·replace hm := zak hb52 hm
      refine W.skip ?_
      refine W.seq ?_
      refine W.sq [] [(0, .ptr 0 0 0), (5, .ptr 8 0 0), (6, zM 7 1 13 l11), (7, zi i38), (8, zi i39), (61, zM 7 1 13 l11), (62, zi (l11.length : Int)), (63, zi i39), (72, .bool (i38 == 4096))] [zkb p0 p0.at_ (zbS p0.p.zSy) (zM 6 1 1 p0.p.zTh) (zM 1 1 8 p0.b), .rows ((p0.b.map zac).set p1.toNat [zi (rd p0.b p1).head.Kind, zi (rd p0.b p1).head.Line, zi (rd p0.b p1).head.Col, .str (rd p0.b p1).head.Text, .map 2, zM 3 1 1 l5, zM 4 1 4 l7, zM 5 1 4 l9]) 8 1 109, .map (l3.map (eKV AV.str AV.bool)), .rows (l5.map eStr) 1 1 9, .rows (l7.map zab) 4 1 41, .rows (l9.map zab) 4 1 41, .rows ((p0.p.zTh.map zaj).set p1.toNat [zM 7 1 13 l11]) 1 1 59, .rows (l11.map zan) 13 1 63, .cells [zi (rd p0.b p1).head.Kind, zi (rd p0.b p1).head.Line, zi (rd p0.b p1).head.Col, .str (rd p0.b p1).head.Text, .map 2, zM 3 1 1 l5, zM 4 1 4 l7, zM 5 1 4 l9] 0 109] ?_
      refine W.cnd (i38 == 4096) (fun hb53 => ?_) fun hb53 => ?_
      ·replace hm := zal hb53 hm
       replace ⟨h54, hm⟩ := zav hm
       replace ⟨v55, h56, hm⟩ := zam hm
       refine W.sq [] [(4, .bool v55.1)] [.cells (zah v55.2) 0 82] ?_ (hrun := ?_)
       rotate_left
       ·try simp -implicitDefEqProofs -dsimp only [go_sem, h1, h2, h13, h14, hb17, hb49, h51, hb52, hb53, h54]
        with_reducible refine exP.mk (.gheap [.fol 1 p1.toNat 4, .fol 1 p1.toNat 5, .fol 1 p1.toNat 6, .fol 1 p1.toNat 7, .fol 0 0 4, .fol 6 p1.toNat 0, .fol 0 0 3] ⟨[], [0], [.ptr 0 0 0, zi 10, zqT (rd l7 i39)], [.cells (zah (zae.mk p0.l p0.at_ (zat.mk p0.p.zSy (p0.p.zTh.set p1.toNat (zai.mk l11))) (p0.b.set p1.toNat (zay.mk ((rd p0.b p1).head) l3 l5 l7 l9)) p0.f)) 0 82], .bool v55.1, [.cells (zah v55.2) 0 82]⟩ []) (callQ.ofG (by simp -implicitDefEqProofs -dsimp only [go_sem, h1, h2, h13, h14, hb17, hb49, h51, hb52, hb53, h54]) (zaJ h56)) ?_
        try simp -implicitDefEqProofs -dsimp only [go_sem, h1, h2, h13, h14, hb17, hb49, h51, hb52, hb53, h54]
       obtain rfl := zo hm
       obtain rfl := hx _ rfl
       exact W.wk ⟨[], []⟩ [(4, .bool v55.1)] [.cells (zah v55.2) 0 82] (W.ret (show _ /\ _ from ⟨rfl, rfl, rfl⟩))
      ·replace hm := zak hb53 hm
       refine W.skip ?_
       refine W.rg [] [(0, .ptr 0 0 0), (5, .ptr 8 0 0), (6, zM 7 1 13 l11), (7, zi (zw (i38 + 1))), (61, zM 7 1 13 l11), (62, zi (l11.length : Int)), (63, zi i39)] [zkb p0 p0.at_ (zbS p0.p.zSy) (zM 6 1 1 p0.p.zTh) (zM 1 1 8 p0.b), .rows ((p0.b.map zac).set p1.toNat [zi (rd p0.b p1).head.Kind, zi (rd p0.b p1).head.Line, zi (rd p0.b p1).head.Col, .str (rd p0.b p1).head.Text, .map 2, zM 3 1 1 l5, zM 4 1 4 l7, zM 5 1 4 l9]) 8 1 109, .map (l3.map (eKV AV.str AV.bool)), .rows (l5.map eStr) 1 1 9, .rows (l7.map zab) 4 1 41, .rows (l9.map zab) 4 1 41, .rows ((p0.p.zTh.map zaj).set p1.toNat [zM 7 1 13 l11]) 1 1 59, .rows (l11.map zan) 13 1 63, .cells [zi (rd p0.b p1).head.Kind, zi (rd p0.b p1).head.Line, zi (rd p0.b p1).head.Col, .str (rd p0.b p1).head.Text, .map 2, zM 3 1 1 l5, zM 4 1 4 l7, zM 5 1 4 l9] 0 109] ?_
       exact ⟨(zw (i38 + 1)), (), ⟨[], []⟩, hm, RO⟩
    ·rintro s h ⟨i50, _, F, hm, hat⟩
     refine W.weak F hat ?_
     show WK _ _ _ _ _ [(0, .ptr 0 0 0), (5, .ptr 8 0 0), (6, zM 7 1 13 l11), (7, zi i50), (61, zM 7 1 13 l11), (62, zi (l11.length : Int)), (63, zi i39)] [zkb p0 p0.at_ (zbS p0.p.zSy) (zM 6 1 1 p0.p.zTh) (zM 1 1 8 p0.b), .rows ((p0.b.map zac).set p1.toNat [zi (rd p0.b p1).head.Kind, zi (rd p0.b p1).head.Line, zi (rd p0.b p1).head.Col, .str (rd p0.b p1).head.Text, .map 2, zM 3 1 1 l5, zM 4 1 4 l7, zM 5 1 4 l9]) 8 1 109, .map (l3.map (eKV AV.str AV.bool)), .rows (l5.map eStr) 1 1 9, .rows (l7.map zab) 4 1 41, .rows (l9.map zab) 4 1 41, .rows ((p0.p.zTh.map zaj).set p1.toNat [zM 7 1 13 l11]) 1 1 59, .rows (l11.map zan) 13 1 63, .cells [zi (rd p0.b p1).head.Kind, zi (rd p0.b p1).head.Line, zi (rd p0.b p1).head.Col, .str (rd p0.b p1).head.Text, .map 2, zM 3 1 1 l5, zM 4 1 4 l7, zM 5 1 4 l9] 0 109]
     rw [zbG] at hm
     refine W.rg [] [(0, .ptr 0 0 0), (5, .ptr 8 0 0), (6, zM 7 1 13 l11), (7, zi i50), (61, zM 7 1 13 l11), (62, zi (l11.length : Int)), (63, zi (zw (i39 + 1)))] [zkb p0 p0.at_ (zbS p0.p.zSy) (zM 6 1 1 p0.p.zTh) (zM 1 1 8 p0.b), .rows ((p0.b.map zac).set p1.toNat [zi (rd p0.b p1).head.Kind, zi (rd p0.b p1).head.Line, zi (rd p0.b p1).head.Col, .str (rd p0.b p1).head.Text, .map 2, zM 3 1 1 l5, zM 4 1 4 l7, zM 5 1 4 l9]) 8 1 109, .map (l3.map (eKV AV.str AV.bool)), .rows (l5.map eStr) 1 1 9, .rows (l7.map zab) 4 1 41, .rows (l9.map zab) 4 1 41, .rows ((p0.p.zTh.map zaj).set p1.toNat [zM 7 1 13 l11]) 1 1 59, .rows (l11.map zan) 13 1 63, .cells [zi (rd p0.b p1).head.Kind, zi (rd p0.b p1).head.Line, zi (rd p0.b p1).head.Col, .str (rd p0.b p1).head.Text, .map 2, zM 3 1 1 l5, zM 4 1 4 l7, zM 5 1 4 l9] 0 109] ?_
     obtain rfl := zo hm
     exact ⟨(i50, (zw (i39 + 1))), (), ⟨[], []⟩, rfl, RO⟩
   ·replace hm := zak hb49 hm
    obtain rfl := zo hm
    obtain rfl := hx _ rfl
    exact W.wk ⟨[], []⟩ [(0, .ptr 0 0 0), (5, .ptr 8 0 0), (6, zM 7 1 13 l11)] [zkb p0 p0.at_ (zbS p0.p.zSy) (zM 6 1 1 p0.p.zTh) (zM 1 1 8 p0.b), .rows ((p0.b.map zac).set p1.toNat [zi (rd p0.b p1).head.Kind, zi (rd p0.b p1).head.Line, zi (rd p0.b p1).head.Col, .str (rd p0.b p1).head.Text, .map 2, zM 3 1 1 l5, zM 4 1 4 l7, zM 5 1 4 l9]) 8 1 109, .map (l3.map (eKV AV.str AV.bool)), .rows (l5.map eStr) 1 1 9, .rows (l7.map zab) 4 1 41, .rows (l9.map zab) 4 1 41, .rows ((p0.p.zTh.map zaj).set p1.toNat [zM 7 1 13 l11]) 1 1 59, .rows (l11.map zan) 13 1 63, .cells [zi (rd p0.b p1).head.Kind, zi (rd p0.b p1).head.Line, zi (rd p0.b p1).head.Col, .str (rd p0.b p1).head.Text, .map 2, zM 3 1 1 l5, zM 4 1 4 l7, zM 5 1 4 l9] 0 109] (W.exit (show _ /\ _ from ⟨rfl, (), rfl, rfl⟩))
  ·intro e0 s0 h0 hq
   rcases r48 with er48 | qr48
   ·obtain ⟨rfl, _, rfl, rfl⟩ := hq
    replace hm := zcC hm
    show WK _ _ _ _ _ [(0, .ptr 0 0 0), (5, .ptr 8 0 0), (6, zM 7 1 13 l11)] [zkb p0 p0.at_ (zbS p0.p.zSy) (zM 6 1 1 p0.p.zTh) (zM 1 1 8 p0.b), .rows ((p0.b.map zac).set p1.toNat [zi (rd p0.b p1).head.Kind, zi (rd p0.b p1).head.Line, zi (rd p0.b p1).head.Col, .str (rd p0.b p1).head.Text, .map 2, zM 3 1 1 l5, zM 4 1 4 l7, zM 5 1 4 l9]) 8 1 109, .map (l3.map (eKV AV.str AV.bool)), .rows (l5.map eStr) 1 1 9, .rows (l7.map zab) 4 1 41, .rows (l9.map zab) 4 1 41, .rows ((p0.p.zTh.map zaj).set p1.toNat [zM 7 1 13 l11]) 1 1 59, .rows (l11.map zan) 13 1 63, .cells [zi (rd p0.b p1).head.Kind, zi (rd p0.b p1).head.Line, zi (rd p0.b p1).head.Col, .str (rd p0.b p1).head.Text, .map 2, zM 3 1 1 l5, zM 4 1 4 l7, zM 5 1 4 l9] 0 109]
    refine W.seq ?_
    refine W.sqh [] [(0, .ptr 0 0 0), (5, .ptr 8 0 0), (83, zM 7 1 13 l11), (84, zi (l11.length : Int)), (85, zi 0)] ?_
    refine W.block ?_
    replace ⟨r83, hlr83, hm⟩ := zam hm
    refine W.mono (Q := fun e0 s0 h0 => match r83 with | .inl e => e0 = .exit 2 /\ ∃ w : Unit, s0 = [] /\ h0 = [zkb p0 p0.at_ (zbS p0.p.zSy) (zbT (p0.p.zTh.set p1.toNat (zai.mk l11))) (zbB (p0.b.set p1.toNat (zay.mk ((rd p0.b p1).head) l3 l5 l7 l9)))] | .inr q => e0 = .ret /\ s0 = [(4, .bool q.1)] /\ h0 = [.cells (zah q.2) 0 82]) (W.loopM (step := zbE l11 l3 l9 p0 p1 l5 l7) (a0 := 0) (fun (a : Int) (v : Unit) => ([(0, .ptr 0 0 0), (5, .ptr 8 0 0), (83, zM 7 1 13 l11), (84, zi (l11.length : Int)), (85, zi a)], [zkb p0 p0.at_ (zbS p0.p.zSy) (zM 6 1 1 p0.p.zTh) (zM 1 1 8 p0.b), .rows ((p0.b.map zac).set p1.toNat [zi (rd p0.b p1).head.Kind, zi (rd p0.b p1).head.Line, zi (rd p0.b p1).head.Col, .str (rd p0.b p1).head.Text, .map 2, zM 3 1 1 l5, zM 4 1 4 l7, zM 5 1 4 l9]) 8 1 109, .map (l3.map (eKV AV.str AV.bool)), .rows (l5.map eStr) 1 1 9, .rows (l7.map zab) 4 1 41, .rows (l9.map zab) 4 1 41, .rows ((p0.p.zTh.map zaj).set p1.toNat [zM 7 1 13 l11]) 1 1 59, .rows (l11.map zan) 13 1 63, .cells [zi (rd p0.b p1).head.Kind, zi (rd p0.b p1).head.Line, zi (rd p0.b p1).head.Col, .str (rd p0.b p1).head.Text, .map 2, zM 3 1 1 l5, zM 4 1 4 l7, zM 5 1 4 l9] 0 109])) () hlr83 ⟨[], []⟩ RO ?_) ?_
    ·rintro i74 _ x hm hx
     rw [zbE] at hm
     show WK _ _ _ _ _ [(0, .ptr 0 0 0), (5, .ptr 8 0 0), (83, zM 7 1 13 l11), (84, zi (l11.length : Int)), (85, zi i74)] [zkb p0 p0.at_ (zbS p0.p.zSy) (zM 6 1 1 p0.p.zTh) (zM 1 1 8 p0.b), .rows ((p0.b.map zac).set p1.toNat [zi (rd p0.b p1).head.Kind, zi (rd p0.b p1).head.Line, zi (rd p0.b p1).head.Col, .str (rd p0.b p1).head.Text, .map 2, zM 3 1 1 l5, zM 4 1 4 l7, zM 5 1 4 l9]) 8 1 109, .map (l3.map (eKV AV.str AV.bool)), .rows (l5.map eStr) 1 1 9, .rows (l7.map zab) 4 1 41, .rows (l9.map zab) 4 1 41, .rows ((p0.p.zTh.map zaj).set p1.toNat [zM 7 1 13 l11]) 1 1 59, .rows (l11.map zan) 13 1 63, .cells [zi (rd p0.b p1).head.Kind, zi (rd p0.b p1).head.Line, zi (rd p0.b p1).head.Col, .str (rd p0.b p1).head.Text, .map 2, zM 3 1 1 l5, zM 4 1 4 l7, zM 5 1 4 l9] 0 109]
     refine W.sqh [] [(0, .ptr 0 0 0), (5, .ptr 8 0 0), (83, zM 7 1 13 l11), (84, zi (l11.length : Int)), (85, zi i74), (86, .bool (decide (i74 < (l11.length : Int))))] ?_
     refine W.seq ?_
     refine W.cnd (decide (i74 < (l11.length : Int))) (fun hb84 => ?_) fun hb84 => ?_
     ·replace hm := zal hb84 hm
      refine W.skip ?_
      refine W.seq ?_
      refine W.block ?_
      replace ⟨h85, hm⟩ := zav hm
      refine W.sq [] [(0, .ptr 0 0 0), (5, .ptr 8 0 0), (10, zi i74), (11, .ptr 9 0 0), (83, zM 7 1 13 l11), (84, zi (l11.length : Int)), (85, zi i74)] [zkb p0 p0.at_ (zbS p0.p.zSy) (zM 6 1 1 p0.p.zTh) (zM 1 1 8 p0.b), .rows ((p0.b.map zac).set p1.toNat [zi (rd p0.b p1).head.Kind, zi (rd p0.b p1).head.Line, zi (rd p0.b p1).head.Col, .str (rd p0.b p1).head.Text, .map 2, zM 3 1 1 l5, zM 4 1 4 l7, zM 5 1 4 l9]) 8 1 109, .map (l3.map (eKV AV.str AV.bool)), .rows (l5.map eStr) 1 1 9, .rows (l7.map zab) 4 1 41, .rows (l9.map zab) 4 1 41, .rows ((p0.p.zTh.map zaj).set p1.toNat [zM 7 1 13 l11]) 1 1 59, .rows (l11.map zan) 13 1 63, .cells [zi (rd p0.b p1).head.Kind, zi (rd p0.b p1).head.Line, zi (rd p0.b p1).head.Col, .str (rd p0.b p1).head.Text, .map 2, zM 3 1 1 l5, zM 4 1 4 l7, zM 5 1 4 l9] 0 109, .cells (zan (rd l11 i74)) 0 63] ?_
      replace ⟨b86, h87, hm⟩ := zaN hm
      refine W.sq [] [(0, .ptr 0 0 0), (5, .ptr 8 0 0), (10, zi i74), (83, zM 7 1 13 l11), (84, zi (l11.length : Int)), (85, zi i74), (100, .bool b86)] [zkb p0 p0.at_ (zbS p0.p.zSy) (zM 6 1 1 p0.p.zTh) (zM 1 1 8 p0.b), .rows ((p0.b.map zac).set p1.toNat [zi (rd p0.b p1).head.Kind, zi (rd p0.b p1).head.Line, zi (rd p0.b p1).head.Col, .str (rd p0.b p1).head.Text, .map 2, zM 3 1 1 l5, zM 4 1 4 l7, zM 5 1 4 l9]) 8 1 109, .map (l3.map (eKV AV.str AV.bool)), .rows (l5.map eStr) 1 1 9, .rows (l7.map zab) 4 1 41, .rows (l9.map zab) 4 1 41, .rows ((p0.p.zTh.map zaj).set p1.toNat [zM 7 1 13 l11]) 1 1 59, .rows (l11.map zan) 13 1 63, .cells [zi (rd p0.b p1).head.Kind, zi (rd p0.b p1).head.Line, zi (rd p0.b p1).head.Col, .str (rd p0.b p1).head.Text, .map 2, zM 3 1 1 l5, zM 4 1 4 l7, zM 5 1 4 l9] 0 109] ?_
      clear h87
      refine W.cnd b86 (fun hb88 => ?_) fun hb88 => ?_
      ·replace hm := zal hb88 hm
       replace ⟨h89, hm⟩ := zav hm
       replace ⟨v90, h91, hm⟩ := zam hm
       refine W.sq [] [(4, .bool v90.1)] [.cells (zah v90.2) 0 82] ?_ (hrun := ?_)
       rotate_left
       ·try simp -implicitDefEqProofs -dsimp only [go_sem, h1, h2, h13, h14, hb17, hb84, h85, hb88, h89]
        with_reducible refine exP.mk (.gheap [.fol 1 p1.toNat 4, .fol 1 p1.toNat 5, .fol 1 p1.toNat 6, .fol 1 p1.toNat 7, .fol 0 0 4, .fol 6 p1.toNat 0, .fol 0 0 3] ⟨[], [0], [.ptr 0 0 0, zi 7, zqT (rd l9 i74)], [.cells (zah (zae.mk p0.l p0.at_ (zat.mk p0.p.zSy (p0.p.zTh.set p1.toNat (zai.mk l11))) (p0.b.set p1.toNat (zay.mk ((rd p0.b p1).head) l3 l5 l7 l9)) p0.f)) 0 82], .bool v90.1, [.cells (zah v90.2) 0 82]⟩ []) (callQ.ofG (by simp -implicitDefEqProofs -dsimp only [go_sem, h1, h2, h13, h14, hb17, hb84, h85, hb88, h89]) (zaJ h91)) ?_
        try simp -implicitDefEqProofs -dsimp only [go_sem, h1, h2, h13, h14, hb17, hb84, h85, hb88, h89]
       obtain rfl := zo hm
       obtain rfl := hx _ rfl
       exact W.wk ⟨[], []⟩ [(4, .bool v90.1)] [.cells (zah v90.2) 0 82] (W.ret (show _ /\ _ from ⟨rfl, rfl, rfl⟩))
      ·replace hm := zak hb88 hm
       refine W.skip ?_
       refine W.rg [] [(0, .ptr 0 0 0), (5, .ptr 8 0 0), (83, zM 7 1 13 l11), (84, zi (l11.length : Int)), (85, zi (zw (i74 + 1)))] [zkb p0 p0.at_ (zbS p0.p.zSy) (zM 6 1 1 p0.p.zTh) (zM 1 1 8 p0.b), .rows ((p0.b.map zac).set p1.toNat [zi (rd p0.b p1).head.Kind, zi (rd p0.b p1).head.Line, zi (rd p0.b p1).head.Col, .str (rd p0.b p1).head.Text, .map 2, zM 3 1 1 l5, zM 4 1 4 l7, zM 5 1 4 l9]) 8 1 109, .map (l3.map (eKV AV.str AV.bool)), .rows (l5.map eStr) 1 1 9, .rows (l7.map zab) 4 1 41, .rows (l9.map zab) 4 1 41, .rows ((p0.p.zTh.map zaj).set p1.toNat [zM 7 1 13 l11]) 1 1 59, .rows (l11.map zan) 13 1 63, .cells [zi (rd p0.b p1).head.Kind, zi (rd p0.b p1).head.Line, zi (rd p0.b p1).head.Col, .str (rd p0.b p1).head.Text, .map 2, zM 3 1 1 l5, zM 4 1 4 l7, zM 5 1 4 l9] 0 109] ?_
       obtain rfl := zo hm
       exact ⟨(zw (i74 + 1)), (), ⟨[], []⟩, rfl, RO⟩
     ·replace hm := zak hb84 hm
      obtain rfl := zo hm
      obtain rfl := hx _ rfl
      exact W.wk ⟨[], [.fol 1 p1.toNat 4, .fol 1 p1.toNat 5, .fol 1 p1.toNat 6, .fol 1 p1.toNat 7, .fol 0 0 4, .fol 6 p1.toNat 0, .fol 0 0 3]⟩ [] [zkb p0 p0.at_ (zbS p0.p.zSy) (zbT (p0.p.zTh.set p1.toNat (zai.mk l11))) (zbB (p0.b.set p1.toNat (zay.mk ((rd p0.b p1).head) l3 l5 l7 l9)))] (W.exit (show _ /\ _ from ⟨rfl, (), rfl, rfl⟩))
    ·intro e0 s0 h0 hq
     rcases r83 with er83 | qr83
     ·obtain ⟨rfl, _, rfl, rfl⟩ := hq
      replace hm := zcC hm
      show WK _ _ _ _ _ [] [zkb p0 p0.at_ (zbS p0.p.zSy) (zbT (p0.p.zTh.set p1.toNat (zai.mk l11))) (zbB (p0.b.set p1.toNat (zay.mk ((rd p0.b p1).head) l3 l5 l7 l9)))]
      replace ⟨l92, h93, hm⟩ := zaN hm
      replace ⟨l94, h95, hm⟩ := zaN hm
      refine W.sq [] [(4, .bool true)] [zkb p0 p0.at_ (zbS p0.p.zSy) (zbT l92) (zbB l94)] ?_
      clear h93 h95
      obtain rfl := zo hm
      exact W.ret (zaR.retW ⟨[], []⟩ RO)
     ·obtain ⟨rfl, rfl, rfl⟩ := hq
      replace hm := zcB hm
      obtain rfl := zo hm
      exact zaR.retW ⟨[], []⟩ RO
   ·obtain ⟨rfl, rfl, rfl⟩ := hq
    replace hm := zcB hm
    obtain rfl := zo hm
    exact zaR.retW ⟨[], []⟩ RO
end Go.Proofs.YtocjejladeeckaaGreatDoor
