import Derived.Test.YtocjejladeeckaaGreatDoorVFacts
import Derived.Test.YtocjejladeeckaaGreatDoorVu3
import Derived.Test.YtocjejladeeckaaGreatDoorPalN
import Derived.Test.YtocjejladeeckaaGreatDoorWJ
import Derived.Test.YtocjejladeeckaaGreatDoorWK
import Derived.Test.YtocjejladeeckaaGreatDoorWM
import Derived.Test.YtocjejladeeckaaGreatDoorWA
set_option linter.all false
set_option maxRecDepth 100000
set_option maxHeartbeats 4000000
namespace Go.Proofs.YtocjejladeeckaaGreatDoor
open Go.Vs
variable [TabX]
theorem ze1{r:Bool}(hm:zbA =some r):zaE Tryz.prog 11 [] (.bool r):=by
 rw [zbA] at hm
 refine zaE.of Tryz.func11 rfl Tryz.ntmps11 (Nat.le_of_ble_eq_true rfl) ?_
 refine W.sa 0 [] ?_
 replace ⟨v1,h2,hm⟩:=zah hm
 have kh2:=zeN h2
 refine W.sa 2 [1,2] ?_
 replace ⟨v3,h4,hm⟩:=zah hm
 have kh4:=zeN h4
 refine W.sa 4 [1,2,4] ?_
 replace ⟨h5,hm⟩:=zap hm
 replace ⟨b6,h7,hm⟩:=zaN hm
 refine W.sq [] [(0,.bool b6)] [] ?_
 clear h7
 cases hm
 exact W.rt
end Go.Proofs.YtocjejladeeckaaGreatDoor
