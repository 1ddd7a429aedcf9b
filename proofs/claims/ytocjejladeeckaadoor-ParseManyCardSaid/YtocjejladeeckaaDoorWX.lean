import Derived.Test.YtocjejladeeckaaDoorWNum
import Derived.Test.YtocjejladeeckaaDoorWUtf
set_option linter.all false
namespace Go.Proofs.YtocjejladeeckaaDoor
open Go.Vs
class TabX extends TabU,TabE
end Go.Proofs.YtocjejladeeckaaDoor
