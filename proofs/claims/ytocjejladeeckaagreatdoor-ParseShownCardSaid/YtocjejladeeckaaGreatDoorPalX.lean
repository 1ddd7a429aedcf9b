import Derived.Test.YtocjejladeeckaaGreatDoorPalT
set_option linter.all false
