import Derived.Test.YtkgpofmbegonfaaGreatDoorWPk
import Derived.Test.YtkgpofmbegonfaaGreatDoorHas
import Derived.Test.YtkgpofmbegonfaaGreatDoorPalPk5
set_option linter.all false
set_option maxRecDepth 100000
namespace Go.Proofs.YtkgpofmbegonfaaGreatDoor
open Go.Vs
theorem zhs[TabS](x0:List AV)(t0:HasT Tryz.prog 12 9 x0):zaF Tryz.prog 3 [pk Tryz.prog 9 x0] (.bool true):=by
 obtain ⟨s,rfl,ws⟩:=has9 (n:=11) t0
 rw [pk9]
 exact zd3 (zhq s)
end Go.Proofs.YtkgpofmbegonfaaGreatDoor
