import Derived.Test.YtocjejladeeckaaGreatDoorWO
import Derived.Test.YtocjejladeeckaaGreatDoorHas
import Derived.Test.YtocjejladeeckaaGreatDoorPL3
set_option linter.all false
set_option maxRecDepth 100000
namespace Go.Proofs.YtocjejladeeckaaGreatDoor
open Go.Vs
theorem zkM[TabX](x0:List AV)(t0:HasT Tryz.prog 12 9 x0):zaE Tryz.prog 7 [pk Tryz.prog 9 x0] (.bool true):=by
 obtain ⟨s,rfl,ws⟩:=has9 (n:=11) t0
 rw [pk9]
 exact zfV (zkE s)
end Go.Proofs.YtocjejladeeckaaGreatDoor
