import Derived.Test.YtocjejladeeckaaDoorWS
import Derived.Test.YtocjejladeeckaaDoorHas
import Derived.Test.YtocjejladeeckaaDoorPL3
set_option linter.all false
set_option maxRecDepth 100000
namespace Go.Proofs.YtocjejladeeckaaDoor
open Go.Vs
theorem zia[TabX](x0:List AV)(t0:HasT Tryd.prog 12 3 x0)(x1:List AV)(t1:HasT Tryd.prog 12 3 x1):zaT Tryd.prog 14 [pk Tryd.prog 3 x0,pk Tryd.prog 3 x1] (.bool true):=by
 obtain ⟨a,rfl,wa⟩:=has3 (n:=11) t0
 obtain ⟨b,rfl,wb⟩:=has3 (n:=11) t1
 rw [pk3,pk3]
 exact zdZ (zhv a b wa wb)
end Go.Proofs.YtocjejladeeckaaDoor
