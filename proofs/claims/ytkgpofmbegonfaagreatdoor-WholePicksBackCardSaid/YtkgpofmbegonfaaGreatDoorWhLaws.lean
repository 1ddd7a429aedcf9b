import Derived.Test.YtkgpofmbegonfaaGreatDoorWPk
import Derived.Test.YtkgpofmbegonfaaGreatDoorHas
import Derived.Test.YtkgpofmbegonfaaGreatDoorPalPk5
set_option linter.all false
set_option maxRecDepth 100000
namespace Go.Proofs.YtkgpofmbegonfaaGreatDoor
open Go.Vs
theorem zfF[TabS](x0:List AV)(t0:HasT Tryz.prog 12 23 x0):zaO Tryz.prog 4 [pk Tryz.prog 23 x0] (.bool true):=by
 obtain ⟨l,rfl,w⟩:=zzi (n:=9) t0
 rw [pk23]
 exact zdx (zfB l (fun x hx=>(w.2 x hx).Thread.i64))
end Go.Proofs.YtkgpofmbegonfaaGreatDoor
