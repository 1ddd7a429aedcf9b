import Derived.Test.YtkgpofmbegonfaaGreatDoorPalT
import Derived.Test.YtkgpofmbegonfaaGreatDoorPalA
import Derived.Test.YtkgpofmbegonfaaGreatDoorPalUtf
set_option linter.all false
namespace Go.Vs
end Go.Vs
