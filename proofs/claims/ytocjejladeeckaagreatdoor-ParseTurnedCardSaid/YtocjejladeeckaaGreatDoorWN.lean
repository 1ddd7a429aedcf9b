import Derived.Test.YtocjejladeeckaaGreatDoorVFacts
import Derived.Test.YtocjejladeeckaaGreatDoorVu3
import Derived.Test.YtocjejladeeckaaGreatDoorPalN
import Derived.Test.YtocjejladeeckaaGreatDoorWJ
import Derived.Test.YtocjejladeeckaaGreatDoorWK
import Derived.Test.YtocjejladeeckaaGreatDoorWM
import Derived.Test.YtocjejladeeckaaGreatDoorWA
set_option linter.all false
set_option maxRecDepth 100000
set_option maxHeartbeats 4000000
namespace Go.Proofs.YtocjejladeeckaaGreatDoor
open Go.Vs
variable [TabX]
theorem zii{r:Bool}(hm:zc0 =some r):zaJ Tryz.prog 11 [] (.bool r):=by
 rw [zc0] at hm
 refine zaJ.of Tryz.func11 rfl Tryz.ntmps11 (Nat.le_of_ble_eq_true rfl) ?_
 refine W.sa 0 [] ?_
 replace ⟨v1,h2,hm⟩:=zaf hm
 have kh2:=zgC h2
 refine W.sa 2 [1,2] ?_
 replace ⟨v3,h4,hm⟩:=zaf hm
 have kh4:=zgC h4
 refine W.sa 4 [1,2,4] ?_
 replace ⟨h5,hm⟩:=zao hm
 replace ⟨b6,h7,hm⟩:=zaK hm
 refine W.sq [] [(0,.bool b6)] [] ?_
 clear h7
 cases hm
 exact W.rt
theorem zih{p0:ByteArray}{r:Bool}(hm:zcr p0=some r):zaJ Tryz.prog 10 [.str p0] (.bool r):=by
 rw [zcr] at hm
 refine zaJ.of Tryz.func10 rfl Tryz.ntmps10 (Nat.le_of_ble_eq_true rfl) ?_
 refine W.sa 0 [0] ?_
 replace ⟨v1,h2,hm⟩:=zaf hm
 have kh2:=zgC h2
 refine W.sa 2 [0,3,4] ?_
 replace ⟨v3,h4,hm⟩:=zaf hm
 have kh4:=ziz h4
 refine W.sa 4 [3,4,5,6] ?_
 replace ⟨v5,h6,hm⟩:=zaf hm
 have kh6:=fun hg=>zhx (zbb hg h6)
 refine W.sq [] [(2,.bool (((v1.2.Code==v3.2.Code)&&((v1.2.Line==v3.2.Line)&&(v1.2.Col==v3.2.Col)))&&v5))] [] ?_
 cases hm
 exact W.rt
end Go.Proofs.YtocjejladeeckaaGreatDoor
