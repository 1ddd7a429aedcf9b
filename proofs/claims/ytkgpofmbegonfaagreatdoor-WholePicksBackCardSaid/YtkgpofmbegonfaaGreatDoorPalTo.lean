import Derived.Test.YtkgpofmbegonfaaGreatDoorPalT
set_option linter.all false
namespace Go.Vs
structure zb0 where
 mk ::
 Rune:Int
 At:Int
 Size:Int
 Line:Int
 Col:Int
 Bad:Bool
 deriving Inhabited,DecidableEq
end Go.Vs
