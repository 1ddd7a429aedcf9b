import Derived.Test.YtkgpofmbegonfaaGreatDoorWNum
import Derived.Test.YtkgpofmbegonfaaGreatDoorWUtf
set_option linter.all false
namespace Go.Proofs.YtkgpofmbegonfaaGreatDoor
open Go.Vs
class TabX extends TabU,TabE
end Go.Proofs.YtkgpofmbegonfaaGreatDoor
