import Derived.Test.YtocjejladeeckaaDoorWS
import Derived.Test.YtocjejladeeckaaDoorHas
import Derived.Test.YtocjejladeeckaaDoorPL3
set_option linter.all false
set_option maxRecDepth 100000
namespace Go.Proofs.YtocjejladeeckaaDoor
open Go.Vs
theorem zgQ[TabX](x0:List AV)(t0:HasT Tryd.prog 12 9 x0)(x1:List AV)(t1:HasT Tryd.prog 12 3 x1):zaI Tryd.prog 13 [pk Tryd.prog 9 x0,pk Tryd.prog 3 x1] (.bool true):=by
 obtain ⟨s,rfl,ws⟩:=has9 (n:=11) t0
 obtain ⟨a,rfl,wa⟩:=has3 (n:=11) t1
 rw [pk9,pk3]
 exact zdC (zgM s a wa)
end Go.Proofs.YtocjejladeeckaaDoor
