import Derived.Test.YtocjejladeeckaaGreatDoorWNum
import Derived.Test.YtocjejladeeckaaGreatDoorWUtf
set_option linter.all false
namespace Go.Proofs.YtocjejladeeckaaGreatDoor
open Go.Vs
class TabX extends TabU,TabE
end Go.Proofs.YtocjejladeeckaaGreatDoor
