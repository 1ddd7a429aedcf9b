import Derived.Test.YtocjejladeeckaaDoorPalT
import Derived.Test.YtocjejladeeckaaDoorPalA
import Derived.Test.YtocjejladeeckaaDoorPalUtf
set_option linter.all false
namespace Go.Vs
end Go.Vs
