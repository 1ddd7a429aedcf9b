import Derived.Test.YtkgpofmbegonfaaGreatDoorPalTo
import Derived.Test.YtkgpofmbegonfaaGreatDoorPalT
set_option linter.all false
namespace Go.Vs
noncomputable def za1:(Int × ByteArray)->Option ((Int × ByteArray) ⊕ (ByteArray))
 | (i12,s13) =>
 if (decide (i12>0)||decide (s13=(⟨#[]⟩:ByteArray)))=true then (if zeF (zhB ([(IntKind.wrap .u8 (IntKind.wrap .u64 (48+(Int.tmod i12 10))))])) s13 then ((some ((zhB ([(IntKind.wrap .u8 (IntKind.wrap .u64 (48+(Int.tmod i12 10))))]))++s13)).bind fun s22 =>
    some (.inl ((IntKind.wrap .u64 (Int.tdiv i12 10)),s22))) else none) else (some (.inr s13))
noncomputable def zbO(p0:Int)(i1:Int):Option (ByteArray) :=
 (zbn (za1) (i1,(⟨#[]⟩:ByteArray))).bind fun r19 =>
  if decide (p0<0)=true then (if zeF (⟨#[45]⟩:ByteArray) r19 then (some ((⟨#[45]⟩:ByteArray)++r19)) else none) else (some r19)
noncomputable def zcw(p0:Int):Option (ByteArray) :=
if decide (p0<0)=true then (zbO p0 (IntKind.wrap .u64 (0-(IntKind.wrap .u64 p0)))) else (zbO p0 (IntKind.wrap .u64 p0))
noncomputable def zbc(s2:ByteArray):(Int × Int)->Option ((Int × Int) ⊕ ((Int) ⊕ (Int × Bool)))
 | (i23,i24) =>
 if decide (i24<(s2.size:Int))=true then (if InB i24 s2.size then (if ((!decide ((bt s2 i24)<48))=true->InB i24 s2.size) then (if (decide ((bt s2 i24)<48)||decide ((bt s2 i24)>57))=true then (some (.inr (.inr (0,false)))) else (if InB i24 s2.size then ((some (IntKind.wrap .u64 ((IntKind.wrap .u64 (i23 * 10))+(IntKind.wrap .u64 (IntKind.wrap .u8 ((bt s2 i24)-48)))))).bind fun n40 =>
           some (.inl (n40,(IntKind.wrap .i64 (i24+1))))) else none)) else none) else none) else (some (.inr (.inl i23)))
noncomputable def zcs(p0:ByteArray)(s2:ByteArray):Option (Int × Bool) :=
 if ((!(decide (s2=(⟨#[]⟩:ByteArray))||decide ((s2.size:Int)>19)))=true->InB 0 s2.size) then ((some ((decide (s2=(⟨#[]⟩:ByteArray))||decide ((s2.size:Int)>19))||(((bt s2 0)==48)&&(decide ((s2.size:Int)>1)||(decide ((p0.size:Int)>0)&&((bt p0 0)==45)))))).bind fun b4 =>
  if b4=true then (some (0,false)) else ((zbn (zbc s2) (0,0)).bind (zcG (fun er34 =>
   if (decide ((p0.size:Int)>0)&&((bt p0 0)==45))=true then (if decide (er34>9223372036854775808)=true then (some (0,false)) else (some ((IntKind.wrap .i64 (IntKind.wrap .u64 (0-er34))),true))) else (if decide (er34≥9223372036854775808)=true then (some (0,false)) else (some ((IntKind.wrap .i64 er34),true)))) (fun qr34=>some qr34)))) else none
noncomputable def zdS(p0:ByteArray):Option (Int × Bool) :=
if (decide ((p0.size:Int)>0)=true->InB 0 p0.size) then (if (decide ((p0.size:Int)>0)&&((bt p0 0)==45))=true then (if Bnd 1 p0.size then (zcs p0 (p0.extract (Int.toNat 1) p0.size)) else none) else (zcs p0 p0)) else none
noncomputable def zdM(p0:Int)(p1:Int)(p2:Int):Option (Int × Int) :=
if (p2==10)=true then (some ((IntKind.wrap .i64 (p0+1)),1)) else (some (p0,(IntKind.wrap .i64 (p1+1))))
noncomputable def zcy(p0:Int):Option (Bool) :=
(some ((((decide (p0≥97)&&decide (p0<=122))||(decide (p0≥65)&&decide (p0<=90)))||(p0==95))||(decide (p0≥161)&&decide (p0<=1114111)))).bind fun b1 =>
 some b1
noncomputable def zc0(p0:Int):Option (Bool) :=
some (decide (p0≥48)&&decide (p0<=57))
noncomputable def zeD(p0:Int):Option (Bool) :=
some ((p0==32)||(p0==9))
noncomputable def zcE(p0:Int):Option (Bool) :=
(some ((((decide (p0≥97)&&decide (p0<=122))||(decide (p0≥65)&&decide (p0<=90)))||(p0==95))||(decide (p0≥161)&&decide (p0<=1114111)))).bind fun b1 =>
 some b1
noncomputable def zdw(p0:Int):Option (Bool) :=
some (decide (p0≥48)&&decide (p0<=57))
noncomputable def zeH(p0:Int):Option (Bool) :=
some ((p0==32)||(p0==9))
noncomputable def zdg(p0:Int)(p1:zam):Option (zah) :=
some (zah.mk p0 p1.Line p1.Col)
noncomputable def zdJ(p0:(List zam)):Int->Option ((Int) ⊕ (Int))
 | i21 =>
 if (decide (i21<(p0.length:Int))=true->InB i21 p0.length) then (if ((decide (i21<(p0.length:Int))&&(!(rd p0 i21).Bad))=true->InB i21 p0.length) then ((if (decide (i21<(p0.length:Int))&&(!(rd p0 i21).Bad))=true then zcy ((rd p0 i21).Rune) else some default).bind fun v34 =>
   if (((decide (i21<(p0.length:Int))&&(!(rd p0 i21).Bad))&&(!v34))=true->InB i21 p0.length) then ((if ((decide (i21<(p0.length:Int))&&(!(rd p0 i21).Bad))&&(!v34))=true then zc0 ((rd p0 i21).Rune) else some default).bind fun v37 =>
   if ((decide (i21<(p0.length:Int))&&(!(rd p0 i21).Bad))&&(v34||v37))=true then (some (.inl (IntKind.wrap .i64 (i21+1)))) else (some (.inr i21))) else none) else none) else none
noncomputable def zdK(p0:(List zam))(p1:Int)(i1:Int):Option (Int × Int) :=
 (zbn (zdJ p0) (IntKind.wrap .i64 (p1+1))).bind fun r31 =>
  some (r31,i1)
noncomputable def zfy(p0:(List zam))(p1:Int):Option (Int × Int) :=
if InB p1 p0.length then (if ((rd p0 p1).Rune==10)=true then (some ((IntKind.wrap .i64 (p1+1)),4)) else ((some (((((rd p0 p1).Rune==44)||((rd p0 p1).Rune==91))||((rd p0 p1).Rune==93))||((rd p0 p1).Rune==58))).bind fun b42 =>
   if b42=true then (some ((IntKind.wrap .i64 (p1+1)),3)) else ((zcy ((rd p0 p1).Rune)).bind fun v45 =>
    if v45=true then (zdK p0 p1 1) else ((zc0 ((rd p0 p1).Rune)).bind fun v48 =>
     if (v48||((rd p0 p1).Rune==45))=true then (zdK p0 p1 2) else (some (p1,0)))))) else none
noncomputable def zcj(p0:ByteArray):(Int × Int × Nat)->Option ((Int × Int × Nat) ⊕ (Int × Int))
 | (i10,i11,n12) =>
 if n12<p0.size then ((zdM i10 i11 ((Utf8.decode p0 n12).1:Int)).bind fun v21 =>
   some (.inl (v21.1,v21.2,(n12+(Utf8.decode p0 n12).2)))) else (some (.inr (i10,i11)))
noncomputable def zeY(p0:ByteArray):Option (Int × Int) :=
(zbn (zcj p0) (1,1,0)).bind fun r19 =>
 some (r19.1,r19.2)
end Go.Vs
