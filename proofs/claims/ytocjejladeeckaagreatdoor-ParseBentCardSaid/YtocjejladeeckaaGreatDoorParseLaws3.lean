import Derived.Test.YtocjejladeeckaaGreatDoorWO
import Derived.Test.YtocjejladeeckaaGreatDoorHas
import Derived.Test.YtocjejladeeckaaGreatDoorPP5
set_option linter.all false
set_option maxRecDepth 100000
namespace Go.Proofs.YtocjejladeeckaaGreatDoor
open Go.Vs
theorem zlt[TabX](x0:List AV)(t0:HasT Tryz.prog 12 25 x0)(x1:List AV)(t1:HasT Tryz.prog 12 3 x1)(x2:List AV)(t2:HasT Tryz.prog 12 3 x2)(x3:List AV)(t3:HasT Tryz.prog 12 9 x3) :
  zaJ Tryz.prog 4 [pk Tryz.prog 25 x0,pk Tryz.prog 3 x1,pk Tryz.prog 3 x2,pk Tryz.prog 9 x3] (.bool true):=by
 obtain ⟨l,rfl,w⟩:=zwN (n:=8) t0
 obtain ⟨a,rfl,wa⟩:=has3 (n:=11) t1
 obtain ⟨b,rfl,wb⟩:=has3 (n:=11) t2
 obtain ⟨s,rfl,ws⟩:=has9 (n:=11) t3
 rw [pk25,pk3,pk3,pk9]
 exact zgF (zkJ l (fun a ha b hb=>(w.2 a ha).2 b hb) a b wa wb s)
end Go.Proofs.YtocjejladeeckaaGreatDoor
