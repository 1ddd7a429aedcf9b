import Derived.Test.YtocjejladeeckaaGreatDoorPalT
import Derived.Test.YtocjejladeeckaaGreatDoorPalN
import Derived.Test.YtocjejladeeckaaGreatDoorPalJ
import Derived.Test.YtocjejladeeckaaGreatDoorPalK
import Derived.Test.YtocjejladeeckaaGreatDoorPalM
import Derived.Test.YtocjejladeeckaaGreatDoorPalA
import Derived.Test.YtocjejladeeckaaGreatDoorPalC
import Derived.Test.YtocjejladeeckaaGreatDoorPalF
set_option linter.all false
namespace Go.Vs
noncomputable def zdI(p0:(List (List zaD)))(p1:Int)(p2:Int)(p3:ByteArray):Option (Bool) :=
(zcy p0 2 5).bind fun v1 =>
 (zdX v1).bind fun v3 =>
 (zaV p1 (IntKind.wrap .i64 ((v3.size:Int)+1))).bind fun v5 =>
 (zaV p2 12).bind fun v7 =>
 (some (if (IntKind.wrap .i64 (v5+v7))<(v3.size:Int) then (IntKind.wrap .i64 (v5+v7)) else (v3.size:Int))).bind fun n9 =>
 if Bnd v5 v3.size then ((zeh p3 40).bind fun v12 =>
 if zco (v3.extract 0 v5.toNat) v12 then (if Bnd n9 v3.size then (if zco ((v3.extract 0 v5.toNat)++v12) (v3.extract n9.toNat v3.size) then ((zd0 (((v3.extract 0 v5.toNat)++v12)++(v3.extract n9.toNat v3.size))).bind fun v17 =>
 (if v17=true then zd1 else some default).bind fun v19 =>
 some (v17&&v19)) else none) else none) else none) else none
end Go.Vs
