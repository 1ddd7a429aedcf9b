import Derived.Test.YtocjejladeeckaaGreatDoorVFacts
import Derived.Test.YtocjejladeeckaaGreatDoorVu3
import Derived.Test.YtocjejladeeckaaGreatDoorPalO
import Derived.Test.YtocjejladeeckaaGreatDoorWN
import Derived.Test.YtocjejladeeckaaGreatDoorWJ
import Derived.Test.YtocjejladeeckaaGreatDoorWK
import Derived.Test.YtocjejladeeckaaGreatDoorWM
import Derived.Test.YtocjejladeeckaaGreatDoorWA
import Derived.Test.YtocjejladeeckaaGreatDoorWC
import Derived.Test.YtocjejladeeckaaGreatDoorWF
set_option linter.all false
set_option maxRecDepth 100000
set_option maxHeartbeats 4000000
namespace Go.Proofs.YtocjejladeeckaaGreatDoor
open Go.Vs
variable [TabX]
theorem zfp {p0 : (List (List Int))} {r : Bool} (hm : zcP p0 = some r) : zaH Tryz.prog 8 [.sl (p0.map (eSl (eInt .i64)))] (.bool r) := by
 rw [zcP] at hm
 refine zaH.of Tryz.func8 rfl Tryz.ntmps8 (Nat.le_of_ble_eq_true rfl) ?_
 refine W.sa 0 [0] ?_
 replace ⟨l1, h2, hm⟩ := zaK hm
 refine W.sq [] [(0, .sl (p0.map (eSl (eInt .i64)))), (3, .sl (l1.map eStr))] [] ?_
 clear h2
 replace ⟨s3, h4, hm⟩ := zaK hm
 refine W.sq [] [(0, .sl (p0.map (eSl (eInt .i64)))), (3, .sl (l1.map eStr)), (4, .str s3)] [] ?_
 clear h4
 refine W.seq ?_
 refine W.sa 0 [0, 3, 4, 5] ?_
 refine W.block ?_
 replace ⟨r116, hlr116, hm⟩ := zaf hm
 refine W.mono (Q := fun e0 s0 h0 => e0 = .exit 0 /\ ∃ w : Unit, s0 = [(4, .str r116)] /\ h0 = []) (W.loopM (step := zbJ p0 l1) (a0 := (s3, 0)) (fun (a : ByteArray × Int) (v : Unit) => ([(0, .sl (p0.map (eSl (eInt .i64)))), (3, .sl (l1.map eStr)), (4, .str a.1), (5, zi a.2)], [])) () hlr116 ⟨[], []⟩ RO ?_) ?_
 ·rintro ⟨s78, i79⟩ _ x hm hx
  rw [zbJ] at hm
  show WK _ _ _ _ _ [(0, .sl (p0.map (eSl (eInt .i64)))), (3, .sl (l1.map eStr)), (4, .str s78), (5, zi i79)] []
  refine W.seq ?_
  refine W.sqh [] [(0, .sl (p0.map (eSl (eInt .i64)))), (3, .sl (l1.map eStr)), (4, .str s78), (5, zi i79), (15, .bool (decide (i79 < (p0.length : Int)) && decide (i79 < 6)))] ?_
  refine W.cn hm ?_ ?_ <;> clear hm <;> intro hb117 hm
  ·refine W.skip ?_
   refine W.seq ?_
   refine W.block ?_
   refine W.seq ?_
   refine W.sa 0 [0, 3, 4, 5, 6] ?_
   refine W.block ?_
   replace ⟨r150, hlr150, hm⟩ := zaf hm
   refine W.mono (Q := fun e0 s0 h0 => e0 = .exit 2 /\ ∃ w : Unit, s0 = [(0, .sl (p0.map (eSl (eInt .i64)))), (3, .sl (l1.map eStr)), (4, .str r150), (5, zi i79)] /\ h0 = []) (W.loopM (step := zbH i79 p0 l1) (a0 := (s78, 0)) (fun (a : ByteArray × Int) (v : Unit) => ([(0, .sl (p0.map (eSl (eInt .i64)))), (3, .sl (l1.map eStr)), (4, .str a.1), (5, zi i79), (6, zi a.2)], [])) () hlr150 ⟨[], []⟩ RO ?_) ?_
   ·rintro ⟨s138, i139⟩ _ x hm hx
    rw [zbH] at hm
    show WK _ _ _ _ _ [(0, .sl (p0.map (eSl (eInt .i64)))), (3, .sl (l1.map eStr)), (4, .str s138), (5, zi i79), (6, zi i139)] []
    refine W.seq ?_
    replace ⟨h151, hm⟩ := zam hm
    refine W.sqh [] [(0, .sl (p0.map (eSl (eInt .i64)))), (3, .sl (l1.map eStr)), (4, .str s138), (5, zi i79), (6, zi i139), (28, .bool (decide (i139 < ((rd p0 i79).length : Int)) && decide (i139 < 8)))] ?_
    refine W.cn hm ?_ ?_ <;> clear hm <;> intro hb152 hm
    ·refine W.skip ?_
     refine W.seq ?_
     refine W.block ?_
     replace ⟨h153, hm⟩ := zam hm
     replace ⟨h154, hm⟩ := zam hm
     replace ⟨v155, h156, hm⟩ := zaf hm
     replace ⟨h157, hm⟩ := zam hm
     replace ⟨h158, hm⟩ := zam hm
     replace ⟨h159, hm⟩ := zam hm
     have kh156 := zgW h156
     try simp only [hb117, hb152] at kh156
     refine W.rg [] [(0, .sl (p0.map (eSl (eInt .i64)))), (3, .sl (l1.map eStr)), (4, .str (s138 ++ ((rd l1 v155) ++ (⟨#[32]⟩ : ByteArray)))), (5, zi i79), (6, zi i139)] [] ?_
     refine W.rg [] [(0, .sl (p0.map (eSl (eInt .i64)))), (3, .sl (l1.map eStr)), (4, .str (s138 ++ ((rd l1 v155) ++ (⟨#[32]⟩ : ByteArray)))), (5, zi i79), (6, zi (zw (i139 + 1)))] [] ?_
     obtain rfl := zo hm
     exact ⟨((s138 ++ ((rd l1 v155) ++ (⟨#[32]⟩ : ByteArray))), (zw (i139 + 1))), (), ⟨[], []⟩, rfl, RO⟩
    ·obtain rfl := zo hm
     obtain rfl := hx _ rfl
     exact W.wk ⟨[], []⟩ [(0, .sl (p0.map (eSl (eInt .i64)))), (3, .sl (l1.map eStr)), (4, .str s138), (5, zi i79)] [] (W.exit (show _ /\ _ from ⟨rfl, (), rfl, rfl⟩))
   ·rintro e0 s0 h0 ⟨rfl, _, rfl, rfl⟩
    show WK _ _ _ _ _ [(0, .sl (p0.map (eSl (eInt .i64)))), (3, .sl (l1.map eStr)), (4, .str r150), (5, zi i79)] []
    replace ⟨h160, hm⟩ := zam hm
    refine W.rg [] [(0, .sl (p0.map (eSl (eInt .i64)))), (3, .sl (l1.map eStr)), (4, .str (r150 ++ (⟨#[10]⟩ : ByteArray))), (5, zi i79)] [] ?_
    refine W.rg [] [(0, .sl (p0.map (eSl (eInt .i64)))), (3, .sl (l1.map eStr)), (4, .str (r150 ++ (⟨#[10]⟩ : ByteArray))), (5, zi (zw (i79 + 1)))] [] ?_
    obtain rfl := zo hm
    exact ⟨((r150 ++ (⟨#[10]⟩ : ByteArray)), (zw (i79 + 1))), (), ⟨[], []⟩, rfl, RO⟩
  ·obtain rfl := zo hm
   obtain rfl := hx _ rfl
   exact W.wk ⟨[], []⟩ [(4, .str s78)] [] (W.exit (show _ /\ _ from ⟨rfl, (), rfl, rfl⟩))
 ·rintro e0 s0 h0 ⟨rfl, _, rfl, rfl⟩
  show WK _ _ _ _ _ [(4, .str r116)] []
  replace ⟨v161, h162, hm⟩ := zaf hm
  replace ⟨h163, hm⟩ := zam hm
  replace ⟨v164, h165, hm⟩ := zaf hm
  replace ⟨v166, h167, hm⟩ := zaf hm
  refine W.sqh [] [(2, .bool ((v161 && v164) && v166))] ?_ (hrun := ?_)
  rotate_left
  ·try simp -implicitDefEqProofs -dsimp only [go_sem, h163]
   with_reducible refine exP.mk _ (callQ.plain (by simp -implicitDefEqProofs -dsimp only [go_sem, h163]) (zet h162)) ?_
   try simp -implicitDefEqProofs -dsimp only [go_sem, h163]
   refine zdg (fun hg168 => ?_) (fun hg168 => ?_)
   ·try simp -implicitDefEqProofs -dsimp only [go_sem, h163, hg168]
    with_reducible refine exP.mk _ (callQ.plain (by simp -implicitDefEqProofs -dsimp only [go_sem, h163, hg168]) (zet (zbc (by simp -implicitDefEqProofs -dsimp only [go_sem, h163, hg168]) h165))) ?_
    try simp -implicitDefEqProofs -dsimp only [go_sem, h163, hg168]
    refine zdg (fun hg169 => ?_) (fun hg169 => ?_)
    ·try simp -implicitDefEqProofs -dsimp only [go_sem, h163, hg168, hg169]
     with_reducible refine exP.mk _ (callQ.plain (by simp -implicitDefEqProofs -dsimp only [go_sem, h163, hg168, hg169]) (zgs (zbc (by simp -implicitDefEqProofs -dsimp only [go_sem, h163, hg168, hg169]) h167))) ?_
     try simp -implicitDefEqProofs -dsimp only [go_sem, h163, hg168, hg169]
    ·try simp -implicitDefEqProofs -dsimp only [go_sem, h163, hg168, hg169]
   ·try simp -implicitDefEqProofs -dsimp only [go_sem, h163, hg168]
  obtain rfl := zo hm
  exact W.ret (zaF.retW [] RO)
end Go.Proofs.YtocjejladeeckaaGreatDoor
