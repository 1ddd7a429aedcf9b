import Derived.Test.YtocjejladeeckaaGreatDoorWO
import Derived.Test.YtocjejladeeckaaGreatDoorHas
import Derived.Test.YtocjejladeeckaaGreatDoorPP5
set_option linter.all false
set_option maxRecDepth 100000
namespace Go.Proofs.YtocjejladeeckaaGreatDoor
open Go.Vs
theorem zkE[TabX](x0:List AV)(t0:HasT Tryz.prog 12 25 x0)(x1:List AV)(t1:HasT Tryz.prog 12 3 x1)(x2:List AV)(t2:HasT Tryz.prog 12 3 x2) :
  zaJ Tryz.prog 5 [pk Tryz.prog 25 x0,pk Tryz.prog 3 x1,pk Tryz.prog 3 x2] (.bool true):=by
 obtain ⟨l,rfl,w⟩:=zyD (n:=8) t0
 obtain ⟨a,rfl,wa⟩:=has3 (n:=11) t1
 obtain ⟨b,rfl,wb⟩:=has3 (n:=11) t2
 rw [pk25,pk3,pk3]
 exact zgr (zjZ l (fun a ha b hb=>(w.2 a ha).2 b hb) a b wa wb)
end Go.Proofs.YtocjejladeeckaaGreatDoor
