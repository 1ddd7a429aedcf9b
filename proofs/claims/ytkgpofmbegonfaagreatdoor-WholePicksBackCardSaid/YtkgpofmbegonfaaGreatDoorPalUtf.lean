import Derived.Test.YtkgpofmbegonfaaGreatDoorPalA
import Derived.Shelf.Unicode.DecodeAny
import Derived.Lib.RuneCountTail
import Derived.Lib.Small
set_option linter.all false
namespace Go.Vs
noncomputable def zcO(p0:Int):Option Int:=some (Lib.runeLen p0)
noncomputable def zbE(p0:ByteArray):Option (Int × Int):=some (((Lib.decodeGo p0).1:Int),((Lib.decodeGo p0).2:Int))
theorem zj1(s:ByteArray)(pos:Nat)(h:pos<s.size):Lib.decodeGo (s.extract pos s.size)=Utf8.decode s pos:=by
 unfold Lib.decodeGo
 rw [if_neg (by rw [Lib.tail_size]; omega),Lib.tail_decode,Nat.add_zero]
end Go.Vs
