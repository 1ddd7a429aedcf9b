import Derived.Test.YtkgpofmbegonfaaGreatDoorPalT
import Derived.Test.YtkgpofmbegonfaaGreatDoorPalB
import Derived.Test.YtkgpofmbegonfaaGreatDoorPalNum
set_option linter.all false
namespace Go.Vs
end Go.Vs
