import Derived.Test.YtocjejladeeckaaGreatDoorWO
import Derived.Test.YtocjejladeeckaaGreatDoorHas
import Derived.Test.YtocjejladeeckaaGreatDoorPP5
set_option linter.all false
set_option maxRecDepth 100000
namespace Go.Proofs.YtocjejladeeckaaGreatDoor
open Go.Vs
theorem zjw [TabX] (x0 : List AV) (t0 : HasT Tryz.prog 12 49 x0) : zaH Tryz.prog 8 [pk Tryz.prog 49 x0] (.bool true) := by
 obtain ⟨l, rfl, w⟩ := ztm (n := 9) t0
 rw [pk49]
 exact zfp (ziU l (fun a ha b hb => (w.2 a ha).2 b hb))
end Go.Proofs.YtocjejladeeckaaGreatDoor
