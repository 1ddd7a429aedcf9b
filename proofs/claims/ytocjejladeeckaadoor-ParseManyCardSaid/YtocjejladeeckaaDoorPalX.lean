import Derived.Test.YtocjejladeeckaaDoorPalT
set_option linter.all false
