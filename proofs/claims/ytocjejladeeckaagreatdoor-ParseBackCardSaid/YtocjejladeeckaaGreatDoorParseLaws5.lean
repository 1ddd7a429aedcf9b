import Derived.Test.YtocjejladeeckaaGreatDoorWO
import Derived.Test.YtocjejladeeckaaGreatDoorHas
import Derived.Test.YtocjejladeeckaaGreatDoorPP5
set_option linter.all false
set_option maxRecDepth 100000
namespace Go.Proofs.YtocjejladeeckaaGreatDoor
open Go.Vs
theorem zlN[TabX](x0:List AV)(t0:HasT Tryz.prog 12 25 x0):zaG Tryz.prog 6 [pk Tryz.prog 25 x0] (.bool true):=by
 obtain ⟨l,rfl,w⟩:=zy6 (n:=8) t0
 rw [pk25]
 exact zgg (zkX l (fun a ha b hb=>(w.2 a ha).2 b hb))
end Go.Proofs.YtocjejladeeckaaGreatDoor
