import Derived.Test.YtocjejladeeckaaGreatDoorPalT
import Derived.Test.YtocjejladeeckaaGreatDoorPalA
import Derived.Test.YtocjejladeeckaaGreatDoorPalUtf
set_option linter.all false
namespace Go.Vs
end Go.Vs
