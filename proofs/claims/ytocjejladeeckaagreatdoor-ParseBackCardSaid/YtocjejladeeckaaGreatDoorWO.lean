import Derived.Test.YtocjejladeeckaaGreatDoorVFacts
import Derived.Test.YtocjejladeeckaaGreatDoorVu3
import Derived.Test.YtocjejladeeckaaGreatDoorPalO
import Derived.Test.YtocjejladeeckaaGreatDoorWN
import Derived.Test.YtocjejladeeckaaGreatDoorWJ
import Derived.Test.YtocjejladeeckaaGreatDoorWK
import Derived.Test.YtocjejladeeckaaGreatDoorWM
import Derived.Test.YtocjejladeeckaaGreatDoorWA
import Derived.Test.YtocjejladeeckaaGreatDoorWC
import Derived.Test.YtocjejladeeckaaGreatDoorWF
set_option linter.all false
set_option maxRecDepth 100000
set_option maxHeartbeats 4000000
namespace Go.Proofs.YtocjejladeeckaaGreatDoor
open Go.Vs
variable [TabX]
theorem zgg{p0:(List (List zay))}{r:Bool}(hm:zdd p0=some r):zaG Tryz.prog 6 [.sl (p0.map (eSl zap))] (.bool r):=by
 rw [zdd] at hm
 refine zaG.of Tryz.func6 rfl Tryz.ntmps6 (Nat.le_of_ble_eq_true rfl) ?_
 refine W.sa 0 [0] ?_
 replace ⟨v1,h2,hm⟩:=zaf hm
 have kh2:=zip h2
 refine W.sa 1 [3] ?_
 replace ⟨v3,h4,hm⟩:=zaf hm
 replace ⟨v5,h6,hm⟩:=zaf hm
 have kh4:=zim h4
 have kh6:=zfT h6
 refine W.sa 3 [3,4,5] ?_
 replace ⟨v7,h8,hm⟩:=zaf hm
 replace ⟨v9,h10,hm⟩:=zaf hm
 have kh8:=fun hg=>zgV (za7 hg h8)
 have kh10:=fun hg=>zhG (za7 hg h10)
 refine W.sq [] [(2,.bool ((((v5.2.Code==0)&&((v5.2.Line==0)&&(v5.2.Col==0)))&&v7)&&v9))] [] ?_
 cases hm
 exact W.rt
end Go.Proofs.YtocjejladeeckaaGreatDoor
