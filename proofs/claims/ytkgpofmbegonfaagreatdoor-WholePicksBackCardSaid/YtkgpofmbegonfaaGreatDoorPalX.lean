import Derived.Test.YtkgpofmbegonfaaGreatDoorPalT
set_option linter.all false
