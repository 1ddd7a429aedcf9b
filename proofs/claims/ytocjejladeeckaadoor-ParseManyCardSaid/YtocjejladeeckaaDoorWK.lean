import Derived.Test.YtocjejladeeckaaDoorVFacts
import Derived.Test.YtocjejladeeckaaDoorVu3
import Derived.Test.YtocjejladeeckaaDoorPalK
import Derived.Test.YtocjejladeeckaaDoorWA
import Derived.Test.YtocjejladeeckaaDoorWUtf
set_option linter.all false
set_option maxRecDepth 100000
set_option maxHeartbeats 4000000
namespace Go.Proofs.YtocjejladeeckaaDoor
open Go.Vs
variable [TabU]
end Go.Proofs.YtocjejladeeckaaDoor
