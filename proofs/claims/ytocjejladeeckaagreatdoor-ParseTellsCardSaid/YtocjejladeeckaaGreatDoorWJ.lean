import Derived.Test.YtocjejladeeckaaGreatDoorVFacts
import Derived.Test.YtocjejladeeckaaGreatDoorPalJ
import Derived.Test.YtocjejladeeckaaGreatDoorWI
import Derived.Test.YtocjejladeeckaaGreatDoorWL
set_option linter.all false
set_option maxRecDepth 100000
set_option maxHeartbeats 4000000
namespace Go.Proofs.YtocjejladeeckaaGreatDoor
open Go.Vs
variable [TabX]
theorem ze7 {p0 : ByteArray} {r : zat × zao} (hm : zdm p0 = some r) : zaL Tryz.prog 16 [.str p0] (.tuple [.agg [.sl (r.1.zSy.map zas), .sl (r.1.zTh.map zaT)], .agg [zi r.2.Code, zi r.2.Line, zi r.2.Col]]) := by
 rw [zdm] at hm
 refine zaL.of Tryz.func16 rfl Tryz.ntmps16 (Nat.le_of_ble_eq_true rfl) ?_
 have e0 : argS 0 [.str p0] = [(0, .str p0)] := rfl
 rw [e0]
 refine W.sqG [] [.nbx 0 0 0 3 54, .nbx 0 0 1 1 59] [(0, .str p0), (2, .ptr 0 0 0), (3, .ptr 1 0 0)] [.cells [.zBx (([] : List zaq).map zas) 3 54, .zBx (([] : List zai).map zaj) 1 59] 0 30, .cells [zi 0, zi 0, zi 0] 0 37] ?_
 replace ⟨v1, h2, hm⟩ := zam hm
 have kh2 := zjt h2
 refine W.sq [] [(2, .ptr 0 0 0), (3, .ptr 1 0 0), (4, .sl (v1.1.map zab)), (5, .ptr 2 0 0)] [.cells [.zBx (([] : List zaq).map zas) 3 54, .zBx (([] : List zai).map zaj) 1 59] 0 30, .cells [zi 0, zi 0, zi 0] 0 37, .cells (zaH v1.2) 0 37] ?_
 refine W.seq ?_
 refine W.sqh [] [(2, .ptr 0 0 0), (3, .ptr 1 0 0), (4, .sl (v1.1.map zab)), (5, .ptr 2 0 0), (15, .bool (v1.2.Code != 0))] ?_
 refine W.cnd (v1.2.Code != 0) (fun hb3 => ?_) fun hb3 => ?_
 ·replace hm := zal hb3 hm
  refine W.sqLG [.light, .light, .store, .store] [([], []), ([2], []), ([0], [0]), ([1], [1])] [] [.nbx 0 0 0 3 54, .nbx 0 0 1 1 59] [(2, .ptr 0 0 0), (3, .ptr 1 0 0)] [.cells [.zBx (([] : List zaq).map zas) 3 54, .zBx (([] : List zai).map zaj) 1 59] 0 30, .cells (zaH v1.2) 0 37] zaC ?_
  obtain rfl := zo hm
  refine W.wk ⟨[2, 3], [.foc 0 0 0, .foc 0 0 1]⟩ [(2, .ptr 0 0 0), (3, .ptr 1 0 0)] [.cells [.sl (([] : List zaq).map zas), .sl (([] : List zai).map zaT)] 0 30, .cells (zaH v1.2) 0 37] ?_
  exact W.ret (zaI.retW [] RO)
 ·replace hm := zak hb3 hm
  refine W.skip ?_
  refine W.sqG [] [.nbx 3 0 2 3 54, .nbx 3 0 3 1 59, .nbx 3 0 4 8 109] [(2, .ptr 0 0 0), (3, .ptr 1 0 0), (4, .sl (v1.1.map zab)), (6, .ptr 3 0 0)] [.cells [.zBx (([] : List zaq).map zas) 3 54, .zBx (([] : List zai).map zaj) 1 59] 0 30, .cells [zi 0, zi 0, zi 0] 0 37, .dead, zkc v1.1 0 (zbS ([] : List zaq)) (zbT ([] : List zai)) (zbB ([] : List zay)) 0 0 0] ?_
  refine W.seq ?_
  refine W.block ?_
  replace ⟨r40, hlr40, hm⟩ := zam hm
  refine W.mono (Q := fun e0 s0 h0 => match r40 with | .inl e => e0 = .exit 0 /\ ∃ w : Unit, s0 = [(2, .ptr 0 0 0), (3, .ptr 1 0 0), (6, .ptr 3 0 0)] /\ h0 = [.cells [.zBx (([] : List zaq).map zas) 3 54, .zBx (([] : List zai).map zaj) 1 59] 0 30, .cells [zi 0, zi 0, zi 0] 0 37, .dead, zkc e.1 e.2.1 (zbS e.2.2.1) (zbT e.2.2.2.1) (zbB e.2.2.2.2.1) e.2.2.2.2.2.1 e.2.2.2.2.2.2.1 e.2.2.2.2.2.2.2] | .inr q => e0 = .ret /\ s0 = [(2, .ptr 0 0 0), (3, .ptr 1 0 0)] /\ h0 = [.cells (zaG q.1) 0 30, .cells (zaH q.2) 0 37]) (W.loopM (step := zci v1) (a0 := (v1.1, 0, ([] : List zaq), ([] : List zai), ([] : List zay), 0, 0, 0)) (fun (a : (List zad) × Int × (List zaq) × (List zai) × (List zay) × Int × Int × Int) (v : Unit) => ([(2, .ptr 0 0 0), (3, .ptr 1 0 0), (4, .sl (v1.1.map zab)), (6, .ptr 3 0 0)], [.cells [.zBx (([] : List zaq).map zas) 3 54, .zBx (([] : List zai).map zaj) 1 59] 0 30, .cells [zi 0, zi 0, zi 0] 0 37, .dead, zkc a.1 a.2.1 (zbS a.2.2.1) (zbT a.2.2.2.1) (zbB a.2.2.2.2.1) a.2.2.2.2.2.1 a.2.2.2.2.2.2.1 a.2.2.2.2.2.2.2])) () hlr40 ⟨[], []⟩ RO ?_) ?_
  ·rintro ⟨l20, i21, l22, l23, l24, i25, i26, i27⟩ _ x hm hx
   rw [zci] at hm
   show WK _ _ _ _ _ [(2, .ptr 0 0 0), (3, .ptr 1 0 0), (4, .sl (v1.1.map zab)), (6, .ptr 3 0 0)] [.cells [.zBx (([] : List zaq).map zas) 3 54, .zBx (([] : List zai).map zaj) 1 59] 0 30, .cells [zi 0, zi 0, zi 0] 0 37, .dead, zkc l20 i21 (zbS l22) (zbT l23) (zbB l24) i25 i26 i27]
   refine W.seq ?_
   refine W.sqh [] [(2, .ptr 0 0 0), (3, .ptr 1 0 0), (4, .sl (v1.1.map zab)), (6, .ptr 3 0 0), (27, .bool (decide (i21 < (v1.1.length : Int))))] ?_
   refine W.cnd (decide (i21 < (v1.1.length : Int))) (fun hb41 => ?_) fun hb41 => ?_
   ·replace hm := zal hb41 hm
    refine W.skip ?_
    refine W.block ?_
    replace ⟨v42, h43, hm⟩ := zam hm
    refine W.sq [] [(2, .ptr 0 0 0), (3, .ptr 1 0 0), (4, .sl (v1.1.map zab)), (6, .ptr 3 0 0), (30, .bool (!v42.1))] [.cells [.zBx (([] : List zaq).map zas) 3 54, .zBx (([] : List zai).map zaj) 1 59] 0 30, .cells [zi 0, zi 0, zi 0] 0 37, .dead, .cells (zah v42.2) 0 82] ?_ (hrun := ?_)
    rotate_left
    ·try simp -implicitDefEqProofs -dsimp only [go_sem, hb3, hb41]
     with_reducible refine exP.mk (.gheap [] ⟨[], [3], [.ptr 0 0 0], [.cells (zah (zae.mk l20 i21 (zat.mk l22 l23) l24 (zao.mk i25 i26 i27))) 0 82], .bool v42.1, [.cells (zah v42.2) 0 82]⟩ []) (callQ.ofG (by simp -implicitDefEqProofs -dsimp only [go_sem, hb3, hb41]) (zgi h43)) ?_
     try simp -implicitDefEqProofs -dsimp only [go_sem, hb3, hb41]
    refine W.cnd (!v42.1) (fun hb44 => ?_) fun hb44 => ?_
    ·replace hm := zal hb44 hm
     refine W.sqLG [.light, .light, .light, .light, .light, .store, .store] [([], []), ([], []), ([], []), ([], []), ([3], []), ([0], [0]), ([1], [1])] [] [.nbx 0 0 0 3 54, .nbx 0 0 1 1 59] [(2, .ptr 0 0 0), (3, .ptr 1 0 0)] [.cells [.zBx (([] : List zaq).map zas) 3 54, .zBx (([] : List zai).map zaj) 1 59] 0 30, .cells (zaH v42.2.f) 0 37] zaC ?_
     obtain rfl := zo hm
     obtain rfl := hx _ rfl
     refine W.wk ⟨[2, 3], [.foc 0 0 0, .foc 0 0 1]⟩ [(2, .ptr 0 0 0), (3, .ptr 1 0 0)] [.cells [.sl (([] : List zaq).map zas), .sl (([] : List zai).map zaT)] 0 30, .cells (zaH v42.2.f) 0 37] ?_
     exact W.wk ⟨[], []⟩ [(2, .ptr 0 0 0), (3, .ptr 1 0 0)] [.cells [.sl (([] : List zaq).map zas), .sl (([] : List zai).map zaT)] 0 30, .cells (zaH v42.2.f) 0 37] (W.ret (show _ /\ _ from ⟨rfl, rfl, rfl⟩))
    ·replace hm := zak hb44 hm
     refine W.skip ?_
     obtain rfl := zo hm
     exact ⟨(v42.2.l, v42.2.at_, v42.2.p.zSy, v42.2.p.zTh, v42.2.b, v42.2.f.Code, v42.2.f.Line, v42.2.f.Col), (), ⟨[], []⟩, rfl, RO⟩
   ·replace hm := zak hb41 hm
    obtain rfl := zo hm
    obtain rfl := hx _ rfl
    exact W.wk ⟨[], []⟩ [(2, .ptr 0 0 0), (3, .ptr 1 0 0), (6, .ptr 3 0 0)] [.cells [.zBx (([] : List zaq).map zas) 3 54, .zBx (([] : List zai).map zaj) 1 59] 0 30, .cells [zi 0, zi 0, zi 0] 0 37, .dead, zkc l20 i21 (zbS l22) (zbT l23) (zbB l24) i25 i26 i27] (W.exit (show _ /\ _ from ⟨rfl, (), rfl, rfl⟩))
  ·intro e0 s0 h0 hq
   rcases r40 with er40 | qr40
   ·obtain ⟨rfl, _, rfl, rfl⟩ := hq
    replace hm := zcC hm
    show WK _ _ _ _ _ [(2, .ptr 0 0 0), (3, .ptr 1 0 0), (6, .ptr 3 0 0)] [.cells [.zBx (([] : List zaq).map zas) 3 54, .zBx (([] : List zai).map zaj) 1 59] 0 30, .cells [zi 0, zi 0, zi 0] 0 37, .dead, zkc er40.1 er40.2.1 (zbS er40.2.2.1) (zbT er40.2.2.2.1) (zbB er40.2.2.2.2.1) er40.2.2.2.2.2.1 er40.2.2.2.2.2.2.1 er40.2.2.2.2.2.2.2]
    refine W.seq ?_
    refine W.wk ⟨[], [.foc 3 0 4]⟩ [(2, .ptr 0 0 0), (3, .ptr 1 0 0), (6, .ptr 3 0 0)] [.cells [.zBx (([] : List zaq).map zas) 3 54, .zBx (([] : List zai).map zaj) 1 59] 0 30, .cells [zi 0, zi 0, zi 0] 0 37, .dead, zkc er40.1 er40.2.1 (zbS er40.2.2.1) (zbT er40.2.2.2.1) (zM 4 1 8 er40.2.2.2.2.1) er40.2.2.2.2.2.1 er40.2.2.2.2.2.2.1 er40.2.2.2.2.2.2.2, .rows (er40.2.2.2.2.1.map zac) 8 1 109] ?_
    refine W.sqG [] [.fol 3 0 4] [(2, .ptr 0 0 0), (3, .ptr 1 0 0), (6, .ptr 3 0 0), (40, zi (er40.2.2.2.2.1.length : Int)), (41, zi 0)] [.cells [.zBx (([] : List zaq).map zas) 3 54, .zBx (([] : List zai).map zaj) 1 59] 0 30, .cells [zi 0, zi 0, zi 0] 0 37, .dead, zkc er40.1 er40.2.1 (zbS er40.2.2.1) (zbT er40.2.2.2.1) (zbB er40.2.2.2.2.1) er40.2.2.2.2.2.1 er40.2.2.2.2.2.2.1 er40.2.2.2.2.2.2.2] ?_
    refine W.block ?_
    replace ⟨r84, hlr84, hm⟩ := zam hm
    refine W.mono (Q := fun e0 s0 h0 => match r84 with | .inl e => e0 = .exit 2 /\ ∃ w : Unit, s0 = [(2, .ptr 0 0 0), (3, .ptr 1 0 0), (6, .ptr 3 0 0)] /\ h0 = [.cells [.zBx (([] : List zaq).map zas) 3 54, .zBx (([] : List zai).map zaj) 1 59] 0 30, .cells [zi 0, zi 0, zi 0] 0 37, .dead, zkc e.1 e.2.1 (zbS e.2.2.1) (zbT e.2.2.2.1) (zbB e.2.2.2.2.1) e.2.2.2.2.2.1 e.2.2.2.2.2.2.1 e.2.2.2.2.2.2.2] | .inr q => e0 = .ret /\ s0 = [(2, .ptr 0 0 0), (3, .ptr 1 0 0)] /\ h0 = [.cells (zaG q.1) 0 30, .cells (zaH q.2) 0 37]) (W.loopM (step := zdg er40) (a0 := (0, er40.1, er40.2.1, er40.2.2.1, er40.2.2.2.1, er40.2.2.2.2.1, er40.2.2.2.2.2.1, er40.2.2.2.2.2.2.1, er40.2.2.2.2.2.2.2)) (fun (a : Int × (List zad) × Int × (List zaq) × (List zai) × (List zay) × Int × Int × Int) (v : Unit) => ([(2, .ptr 0 0 0), (3, .ptr 1 0 0), (6, .ptr 3 0 0), (40, zi (er40.2.2.2.2.1.length : Int)), (41, zi a.1)], [.cells [.zBx (([] : List zaq).map zas) 3 54, .zBx (([] : List zai).map zaj) 1 59] 0 30, .cells [zi 0, zi 0, zi 0] 0 37, .dead, zkc a.2.1 a.2.2.1 (zbS a.2.2.2.1) (zbT a.2.2.2.2.1) (zbB a.2.2.2.2.2.1) a.2.2.2.2.2.2.1 a.2.2.2.2.2.2.2.1 a.2.2.2.2.2.2.2.2])) () hlr84 ⟨[], []⟩ RO ?_) ?_
    ·rintro ⟨i62, l63, i65, l66, l67, l68, i69, i70, i71⟩ _ x hm hx
     rw [zdg] at hm
     show WK _ _ _ _ _ [(2, .ptr 0 0 0), (3, .ptr 1 0 0), (6, .ptr 3 0 0), (40, zi (er40.2.2.2.2.1.length : Int)), (41, zi i62)] [.cells [.zBx (([] : List zaq).map zas) 3 54, .zBx (([] : List zai).map zaj) 1 59] 0 30, .cells [zi 0, zi 0, zi 0] 0 37, .dead, zkc l63 i65 (zbS l66) (zbT l67) (zbB l68) i69 i70 i71]
     refine W.sqh [] [(2, .ptr 0 0 0), (3, .ptr 1 0 0), (6, .ptr 3 0 0), (40, zi (er40.2.2.2.2.1.length : Int)), (41, zi i62), (42, .bool (decide (i62 < (er40.2.2.2.2.1.length : Int))))] ?_
     refine W.seq ?_
     refine W.cnd (decide (i62 < (er40.2.2.2.2.1.length : Int))) (fun hb85 => ?_) fun hb85 => ?_
     ·replace hm := zal hb85 hm
      refine W.skip ?_
      refine W.seq ?_
      refine W.block ?_
      refine W.sq [] [(2, .ptr 0 0 0), (3, .ptr 1 0 0), (6, .ptr 3 0 0), (7, zi i62), (40, zi (er40.2.2.2.2.1.length : Int)), (41, zi i62)] [.cells [.zBx (([] : List zaq).map zas) 3 54, .zBx (([] : List zai).map zaj) 1 59] 0 30, .cells [zi 0, zi 0, zi 0] 0 37, .dead, zkc l63 i65 (zbS l66) (zbT l67) (zbB l68) i69 i70 i71] ?_
      replace ⟨v86, h87, hm⟩ := zam hm
      refine W.sq [] [(2, .ptr 0 0 0), (3, .ptr 1 0 0), (6, .ptr 3 0 0), (40, zi (er40.2.2.2.2.1.length : Int)), (41, zi i62), (47, .bool (!v86.1))] [.cells [.zBx (([] : List zaq).map zas) 3 54, .zBx (([] : List zai).map zaj) 1 59] 0 30, .cells [zi 0, zi 0, zi 0] 0 37, .dead, .cells (zah v86.2) 0 82] ?_ (hrun := ?_)
      rotate_left
      ·try simp -implicitDefEqProofs -dsimp only [go_sem, hb3, hb85]
       with_reducible refine exP.mk (.gheap [] ⟨[], [3], [.ptr 0 0 0, zi i62], [.cells (zah (zae.mk l63 i65 (zat.mk l66 l67) l68 (zao.mk i69 i70 i71))) 0 82], .bool v86.1, [.cells (zah v86.2) 0 82]⟩ []) (callQ.ofG (by simp -implicitDefEqProofs -dsimp only [go_sem, hb3, hb85]) (zfV h87)) ?_
       try simp -implicitDefEqProofs -dsimp only [go_sem, hb3, hb85]
      refine W.cnd (!v86.1) (fun hb88 => ?_) fun hb88 => ?_
      ·replace hm := zal hb88 hm
       refine W.sqLG [.light, .light, .light, .light, .light, .store, .store] [([], []), ([], []), ([], []), ([], []), ([3], []), ([0], [0]), ([1], [1])] [] [.nbx 0 0 0 3 54, .nbx 0 0 1 1 59] [(2, .ptr 0 0 0), (3, .ptr 1 0 0)] [.cells [.zBx (([] : List zaq).map zas) 3 54, .zBx (([] : List zai).map zaj) 1 59] 0 30, .cells (zaH v86.2.f) 0 37] zaC ?_
       obtain rfl := zo hm
       obtain rfl := hx _ rfl
       refine W.wk ⟨[2, 3], [.foc 0 0 0, .foc 0 0 1]⟩ [(2, .ptr 0 0 0), (3, .ptr 1 0 0)] [.cells [.sl (([] : List zaq).map zas), .sl (([] : List zai).map zaT)] 0 30, .cells (zaH v86.2.f) 0 37] ?_
       exact W.wk ⟨[], []⟩ [(2, .ptr 0 0 0), (3, .ptr 1 0 0)] [.cells [.sl (([] : List zaq).map zas), .sl (([] : List zai).map zaT)] 0 30, .cells (zaH v86.2.f) 0 37] (W.ret (show _ /\ _ from ⟨rfl, rfl, rfl⟩))
      ·replace hm := zak hb88 hm
       refine W.skip ?_
       refine W.rg [] [(2, .ptr 0 0 0), (3, .ptr 1 0 0), (6, .ptr 3 0 0), (40, zi (er40.2.2.2.2.1.length : Int)), (41, zi (zw (i62 + 1)))] [.cells [.zBx (([] : List zaq).map zas) 3 54, .zBx (([] : List zai).map zaj) 1 59] 0 30, .cells [zi 0, zi 0, zi 0] 0 37, .dead, .cells (zah v86.2) 0 82] ?_
       obtain rfl := zo hm
       exact ⟨((zw (i62 + 1)), v86.2.l, v86.2.at_, v86.2.p.zSy, v86.2.p.zTh, v86.2.b, v86.2.f.Code, v86.2.f.Line, v86.2.f.Col), (), ⟨[], []⟩, rfl, RO⟩
     ·replace hm := zak hb85 hm
      obtain rfl := zo hm
      obtain rfl := hx _ rfl
      exact W.wk ⟨[], []⟩ [(2, .ptr 0 0 0), (3, .ptr 1 0 0), (6, .ptr 3 0 0)] [.cells [.zBx (([] : List zaq).map zas) 3 54, .zBx (([] : List zai).map zaj) 1 59] 0 30, .cells [zi 0, zi 0, zi 0] 0 37, .dead, zkc l63 i65 (zbS l66) (zbT l67) (zbB l68) i69 i70 i71] (W.exit (show _ /\ _ from ⟨rfl, (), rfl, rfl⟩))
    ·intro e0 s0 h0 hq
     rcases r84 with er84 | qr84
     ·obtain ⟨rfl, _, rfl, rfl⟩ := hq
      replace hm := zcC hm
      show WK _ _ _ _ _ [(2, .ptr 0 0 0), (3, .ptr 1 0 0), (6, .ptr 3 0 0)] [.cells [.zBx (([] : List zaq).map zas) 3 54, .zBx (([] : List zai).map zaj) 1 59] 0 30, .cells [zi 0, zi 0, zi 0] 0 37, .dead, zkc er84.1 er84.2.1 (zbS er84.2.2.1) (zbT er84.2.2.2.1) (zbB er84.2.2.2.2.1) er84.2.2.2.2.2.1 er84.2.2.2.2.2.2.1 er84.2.2.2.2.2.2.2]
      refine W.wk ⟨[], [.foc 3 0 2, .foc 3 0 3]⟩ [(2, .ptr 0 0 0), (3, .ptr 1 0 0), (6, .ptr 3 0 0)] [.cells [.zBx (([] : List zaq).map zas) 3 54, .zBx (([] : List zai).map zaj) 1 59] 0 30, .cells [zi 0, zi 0, zi 0] 0 37, .dead, zkc er84.1 er84.2.1 (zM 4 1 3 er84.2.2.1) (zM 5 1 1 er84.2.2.2.1) (zbB er84.2.2.2.2.1) er84.2.2.2.2.2.1 er84.2.2.2.2.2.2.1 er84.2.2.2.2.2.2.2, .rows (er84.2.2.1.map zas) 3 1 54, .rows (er84.2.2.2.1.map zaj) 1 1 59] ?_
      refine W.sqG [] [.fol 0 0 0, .fol 0 0 1] [(2, .ptr 0 0 0), (3, .ptr 1 0 0)] [.cells [.zBx (er84.2.2.1.map zas) 3 54, .zBx (er84.2.2.2.1.map zaj) 1 59] 0 30, .cells [zi 0, zi 0, zi 0] 0 37] ?_
      obtain rfl := zo hm
      refine W.wk ⟨[2, 3], [.foc 0 0 0, .foc 0 0 1]⟩ [(2, .ptr 0 0 0), (3, .ptr 1 0 0)] [.cells [.sl (er84.2.2.1.map zas), .sl (er84.2.2.2.1.map zaT)] 0 30, .cells [zi 0, zi 0, zi 0] 0 37] ?_
      exact W.ret (zaI.retW [] RO)
     ·obtain ⟨rfl, rfl, rfl⟩ := hq
      replace hm := zcB hm
      obtain rfl := zo hm
      exact zaI.retW [] RO
   ·obtain ⟨rfl, rfl, rfl⟩ := hq
    replace hm := zcB hm
    obtain rfl := zo hm
    exact zaI.retW [] RO
end Go.Proofs.YtocjejladeeckaaGreatDoor
