import Derived.Test.YtocjejladeeckaaGreatDoorVFacts
import Derived.Test.YtocjejladeeckaaGreatDoorVu3
import Derived.Test.YtocjejladeeckaaGreatDoorPalO
import Derived.Test.YtocjejladeeckaaGreatDoorWN
import Derived.Test.YtocjejladeeckaaGreatDoorWJ
import Derived.Test.YtocjejladeeckaaGreatDoorWK
import Derived.Test.YtocjejladeeckaaGreatDoorWM
import Derived.Test.YtocjejladeeckaaGreatDoorWA
import Derived.Test.YtocjejladeeckaaGreatDoorWC
import Derived.Test.YtocjejladeeckaaGreatDoorWF
set_option linter.all false
set_option maxRecDepth 100000
set_option maxHeartbeats 4000000
namespace Go.Proofs.YtocjejladeeckaaGreatDoor
open Go.Vs
variable [TabX]
theorem zgF{p0:(List (List zaD))}{p1:Int}{p2:Int}{p3:ByteArray}{r:Bool}(hm:zdI p0 p1 p2 p3=some r):zaJ Tryz.prog 4 [.sl (p0.map (eSl zas)),zi p1,zi p2,.str p3] (.bool r):=by
 rw [zdI] at hm
 refine zaJ.of Tryz.func4 rfl Tryz.ntmps4 (Nat.le_of_ble_eq_true rfl) ?_
 refine W.sa 0 [0,1,2,3] ?_
 replace ⟨v1,h2,hm⟩:=zaf hm
 replace ⟨v3,h4,hm⟩:=zaf hm
 have kh2:=zix h2
 have kh4:=ziw h4
 refine W.sa 0 [1,2,3,9] ?_
 replace ⟨v5,h6,hm⟩:=zaf hm
 have kh6:=zbq h6
 refine W.sa 0 [2,3,9,10] ?_
 replace ⟨v7,h8,hm⟩:=zaf hm
 replace ⟨n9,h10,hm⟩:=zaK hm
 have kh8:=zbq h8
 refine W.sq [] [(3,.str p3),(9,.str v3),(10,zi v5),(11,zi n9)] [] ?_
 clear h10
 replace ⟨h11,hm⟩:=zao hm
 replace ⟨v12,h13,hm⟩:=zaf hm
 replace ⟨h14,hm⟩:=zao hm
 replace ⟨h15,hm⟩:=zao hm
 replace ⟨h16,hm⟩:=zao hm
 replace ⟨v17,h18,hm⟩:=zaf hm
 replace ⟨v19,h20,hm⟩:=zaf hm
 have kh13:=zig h13
 have kh18:=zhT h18
 have kh20:=fun hg=>zhU (zbb hg h20)
 refine W.sqJ [] [] [] 0 [] [(8,.bool (v17&&v19))] [] zaw ?_
 cases hm
 exact W.rt
end Go.Proofs.YtocjejladeeckaaGreatDoor
