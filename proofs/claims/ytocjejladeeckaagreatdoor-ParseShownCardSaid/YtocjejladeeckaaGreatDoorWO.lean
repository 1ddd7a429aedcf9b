import Derived.Test.YtocjejladeeckaaGreatDoorVFacts
import Derived.Test.YtocjejladeeckaaGreatDoorVu3
import Derived.Test.YtocjejladeeckaaGreatDoorPalO
import Derived.Test.YtocjejladeeckaaGreatDoorWN
import Derived.Test.YtocjejladeeckaaGreatDoorWJ
import Derived.Test.YtocjejladeeckaaGreatDoorWK
import Derived.Test.YtocjejladeeckaaGreatDoorWM
import Derived.Test.YtocjejladeeckaaGreatDoorWA
import Derived.Test.YtocjejladeeckaaGreatDoorWC
import Derived.Test.YtocjejladeeckaaGreatDoorWF
set_option linter.all false
set_option maxRecDepth 100000
set_option maxHeartbeats 4000000
namespace Go.Proofs.YtocjejladeeckaaGreatDoor
open Go.Vs
variable [TabX]
theorem zfV{p0:ByteArray}{r:Bool}(hm:zcN p0=some r):zaE Tryz.prog 7 [.str p0] (.bool r):=by
 rw [zcN] at hm
 refine zaE.of Tryz.func7 rfl Tryz.ntmps7 (Nat.le_of_ble_eq_true rfl) ?_
 refine W.sa 0 [0] ?_
 replace ⟨v1,h2,hm⟩:=zah hm
 have kh2:=zh1 h2
 refine W.sa 0 [0] ?_
 replace ⟨v3,h4,hm⟩:=zah hm
 have kh4:=zeN h4
 refine W.sa 2 [3,4] ?_
 refine W.seq (W.sa 2 [3,4,16] ?_)
 refine W.cn hm ?_ ?_ <;> clear hm <;> intro hb5 hm
 ·replace ⟨v6,h7,hm⟩:=zah hm
  replace ⟨v8,h9,hm⟩:=zah hm
  refine W.sq [] [(2,.bool (((v6&&decide (v3.2.Line≥1))&&decide (v3.2.Col≥1))&&v8))] [] ?_ (hrun:=?_)
  rotate_left
  ·try simp -implicitDefEqProofs -dsimp only [go_sem,hb5]
   with_reducible refine exP.mk (.pure ⟨[],true,[.agg [.sl (v3.1.zSy.map zaD),.sl (v3.1.zTh.map zav)],.agg [.sl (((zaf.mk ([]) ([])).zSy).map zaD),.sl (((zaf.mk ([]) ([])).zTh).map zav)]],.bool v6⟩) (callQ.of (by simp -implicitDefEqProofs -dsimp only [go_sem,hb5]) (by simp -implicitDefEqProofs -dsimp only [go_sem,hb5]) (by simp -implicitDefEqProofs -dsimp only [go_sem,hb5]) (fun _=>by simp -implicitDefEqProofs -dsimp only [go_sem,hb5]) (zez h7)) ?_
   try simp -implicitDefEqProofs -dsimp only [go_sem,hb5]
   refine zcJ (fun hg10=>?_) (fun hg10=>?_)
   ·try simp -implicitDefEqProofs -dsimp only [go_sem,hb5,hg10]
    refine zcJ (fun hg11=>?_) (fun hg11=>?_)
    ·try simp -implicitDefEqProofs -dsimp only [go_sem,hb5,hg10,hg11]
     refine zcJ (fun hg12=>?_) (fun hg12=>?_)
     ·try simp -implicitDefEqProofs -dsimp only [go_sem,hb5,hg10,hg11,hg12]
      with_reducible refine exP.mk _ (callQ.plain (by simp -implicitDefEqProofs -dsimp only [go_sem,hb5,hg10,hg11,hg12]) (by have hk:=ze1 (zaW (by simp -implicitDefEqProofs -dsimp only [go_sem,hb5,hg10,hg11,hg12]) h9); (try simp only [hb5] at hk); (try simp only [List.map_cons,List.map_nil,eStr,eInt] at hk); exact hk)) ?_
      try simp -implicitDefEqProofs -dsimp only [go_sem,hb5,hg10,hg11,hg12]
     ·try simp -implicitDefEqProofs -dsimp only [go_sem,hb5,hg10,hg11,hg12]
    ·try simp -implicitDefEqProofs -dsimp only [go_sem,hb5,hg10,hg11]
   ·try simp -implicitDefEqProofs -dsimp only [go_sem,hb5,hg10]
  cases hm
  exact W.rt
 ·refine W.skip ?_
  replace ⟨v13,h14,hm⟩:=zah hm
  replace ⟨v15,h16,hm⟩:=zah hm
  have kh14:=zim h14
  try simp only [hb5] at kh14
  have kh16:=zeN h16
  try simp only [hb5] at kh16
  refine W.sa 4 [3,5,6] ?_
  replace ⟨v17,h18,hm⟩:=zah hm
  replace ⟨v19,h20,hm⟩:=zah hm
  replace ⟨v21,h22,hm⟩:=zah hm
  replace ⟨b23,h24,hm⟩:=zaN hm
  have kh18:=zfn h18
  try simp only [hb5] at kh18
  have kh20:=fun hg=>zez (zaW hg h20)
  try simp only [hb5] at kh20
  have kh22:=fun hg=>ze1 (zaW hg h22)
  try simp only [hb5] at kh22
  refine W.sq [] [(2,.bool b23)] [] ?_
  clear h24
  cases hm
  exact W.rt
end Go.Proofs.YtocjejladeeckaaGreatDoor
