import Derived.Test.YtkgpofmbegonfaaGreatDoorPalT
import Derived.Test.YtkgpofmbegonfaaGreatDoorPS0
set_option linter.all false
namespace Go.Vs
noncomputable def zc9(i14:Int)(p0:(List ByteArray))(i15:Int):Option ((Int × Int) ⊕ (Int)) :=
 some (.inl ((IntKind.wrap .i64 (i14+((rd p0 i15).size:Int))),(IntKind.wrap .i64 (i15+1))))
noncomputable def zc8(i14:Int)(p0:(List ByteArray))(i15:Int):Option ((Int × Int) ⊕ (Int)) :=
 zc9 i14 p0 i15
noncomputable def zb1(p0:(List ByteArray)):(Int × Int)->Option ((Int × Int) ⊕ (Int))
 | (i14,i15) =>
 if decide (i15<(p0.length:Int))=true then (if InB i15 p0.length then (if decide (((rd p0 i15).size:Int)>(IntKind.wrap .i64 (9223372036854775807-i14)))=true then (none) else (zc8 i14 p0 i15)) else none) else (some (.inr i14))
noncomputable def zci(p0:(List ByteArray))(l30:List ByteArray)(p1:ByteArray):(Int × ByteArray)->Option ((Int × ByteArray) ⊕ (ByteArray))
 | (i51,s52) =>
 if decide (i51<(((p0.take p0.length).drop (Int.toNat 1)).length:Int))=true then (if InB i51 l30.length then (if Fits (s52.size+p1.size) then ((some (s52++p1)).bind fun s68 =>
             if Fits (s68.size+(rd l30 i51).size) then ((some (s68++(rd l30 i51))).bind fun s71 =>
             some (.inl ((IntKind.wrap .i64 (i51+1)),s71))) else none) else none) else none) else (some (.inr s52))
noncomputable def zct(p0:(List ByteArray))(p1:ByteArray)(i4:Int):Option (ByteArray) :=
 (zbn (zb1 p0) (i4,0)).bind fun r20 =>
    if (0<=r20/\Fits r20.toNat) then (if InB 0 p0.length then (if Fits ((⟨#[]⟩:ByteArray).size+(rd p0 0).size) then ((some ((⟨#[]⟩:ByteArray)++(rd p0 0))).bind fun s27 =>
     if Bnd 1 p0.length then ((some ((p0.take p0.length).drop (Int.toNat 1))).bind fun l30 =>
     (zbn (zci p0 l30 p1) (0,s27)).bind fun r64 =>
     if Fits r64.size then (some r64) else none) else none) else none) else none) else none
noncomputable def zc7(p1:ByteArray)(p0:(List ByteArray)):Option (ByteArray) :=
 (some (IntKind.wrap .i64 (0+(IntKind.wrap .i64 ((p1.size:Int) * (IntKind.wrap .i64 ((p0.length:Int)-1))))))).bind fun n75 =>
           zct p0 p1 n75
noncomputable def zcu(p0:(List ByteArray))(p1:ByteArray):Option (ByteArray) :=
if ((p0.length:Int)==0)=true then (some (⟨#[]⟩:ByteArray)) else (if ((p0.length:Int)==1)=true then (if InB 0 p0.length then (some (rd p0 0)) else none) else (if decide ((p1.size:Int)>0)=true then (if ¬(IntKind.wrap .i64 ((p0.length:Int)-1))=0 then ((some (decide ((p1.size:Int)≥(IntKind.wrap .i64 (Int.tdiv 9223372036854775807 (IntKind.wrap .i64 ((p0.length:Int)-1))))))).bind fun b78 =>
            if b78=true then (none) else (zc7 p1 p0)) else none) else (zct p0 p1 0)))
end Go.Vs
