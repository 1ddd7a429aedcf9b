import Derived.Test.YtkgpofmbegonfaaGreatDoorPalTo
import Derived.Test.YtkgpofmbegonfaaGreatDoorPalT
set_option linter.all false
namespace Go.Vs
noncomputable def zcb(p0:ByteArray)(p1:Int):Option (ByteArray) :=
if Bnd (if p1<(p0.size:Int) then p1 else (p0.size:Int)) p0.size then ((some (p0.extract 0 ((if p1<(p0.size:Int) then p1 else (p0.size:Int)).toNat))).bind fun s2 =>
 some s2) else none
noncomputable def zfF:(Int × ByteArray)->Option ((Int × ByteArray) ⊕ (ByteArray))
 | (i12,s13) =>
 if (decide (i12>0)||decide (s13=(⟨#[]⟩:ByteArray)))=true then (if zfx (znJ ([(IntKind.wrap .u8 (IntKind.wrap .u64 (48+(Int.tmod i12 10))))])) s13 then ((some ((znJ ([(IntKind.wrap .u8 (IntKind.wrap .u64 (48+(Int.tmod i12 10))))]))++s13)).bind fun s22 =>
    some (.inl ((IntKind.wrap .u64 (Int.tdiv i12 10)),s22))) else none) else (some (.inr s13))
noncomputable def zdX(p0:Int)(i1:Int):Option (ByteArray) :=
 (zaY (zfF) (i1,(⟨#[]⟩:ByteArray))).bind fun r19 =>
  if decide (p0<0)=true then (if zfx (⟨#[45]⟩:ByteArray) r19 then (some ((⟨#[45]⟩:ByteArray)++r19)) else none) else (some r19)
noncomputable def zg3(p0:Int):Option (ByteArray) :=
if decide (p0<0)=true then (zdX p0 (IntKind.wrap .u64 (0-(IntKind.wrap .u64 p0)))) else (zdX p0 (IntKind.wrap .u64 p0))
noncomputable def zaO(s2:ByteArray):(Int × Int)->Option ((Int × Int) ⊕ ((Int) ⊕ (Int × Bool)))
 | (i23,i24) =>
 if decide (i24<(s2.size:Int))=true then (if InB i24 s2.size then (if ((!decide ((bt s2 i24)<48))=true->InB i24 s2.size) then (if (decide ((bt s2 i24)<48)||decide ((bt s2 i24)>57))=true then (some (.inr (.inr (0,false)))) else (if InB i24 s2.size then ((some (IntKind.wrap .u64 ((IntKind.wrap .u64 (i23 * 10))+(IntKind.wrap .u64 (IntKind.wrap .u8 ((bt s2 i24)-48)))))).bind fun n40 =>
           some (.inl (n40,(IntKind.wrap .i64 (i24+1))))) else none)) else none) else none) else (some (.inr (.inl i23)))
noncomputable def zbv(p0:ByteArray)(s2:ByteArray):Option (Int × Bool) :=
 if ((!(decide (s2=(⟨#[]⟩:ByteArray))||decide ((s2.size:Int)>19)))=true->InB 0 s2.size) then ((some ((decide (s2=(⟨#[]⟩:ByteArray))||decide ((s2.size:Int)>19))||(((bt s2 0)==48)&&(decide ((s2.size:Int)>1)||(decide ((p0.size:Int)>0)&&((bt p0 0)==45)))))).bind fun b4 =>
  if b4=true then (some (0,false)) else ((zaY (zaO s2) (0,0)).bind (zcl (fun er34 =>
   if (decide ((p0.size:Int)>0)&&((bt p0 0)==45))=true then (if decide (er34>9223372036854775808)=true then (some (0,false)) else (some ((IntKind.wrap .i64 (IntKind.wrap .u64 (0-er34))),true))) else (if decide (er34≥9223372036854775808)=true then (some (0,false)) else (some ((IntKind.wrap .i64 er34),true)))) (fun qr34=>some qr34)))) else none
noncomputable def zb5(p0:ByteArray):Option (Int × Bool) :=
if (decide ((p0.size:Int)>0)=true->InB 0 p0.size) then (if (decide ((p0.size:Int)>0)&&((bt p0 0)==45))=true then (if Bnd 1 p0.size then (zbv p0 (p0.extract (Int.toNat 1) p0.size)) else none) else (zbv p0 p0)) else none
noncomputable def zdz(p0:Int)(p1:Int)(p2:Int):Option (Int × Int) :=
if (p2==10)=true then (some ((IntKind.wrap .i64 (p0+1)),1)) else (some (p0,(IntKind.wrap .i64 (p1+1))))
noncomputable def zcp(p0:Int):Option (Bool) :=
(some ((((decide (p0≥97)&&decide (p0<=122))||(decide (p0≥65)&&decide (p0<=90)))||(p0==95))||(decide (p0≥161)&&decide (p0<=1114111)))).bind fun b1 =>
 some b1
noncomputable def zcI(p0:Int):Option (Bool) :=
some (decide (p0≥48)&&decide (p0<=57))
noncomputable def zex(p0:Int):Option (Bool) :=
some ((p0==32)||(p0==9))
noncomputable def zcu(p0:Int):Option (Bool) :=
(some ((((decide (p0≥97)&&decide (p0<=122))||(decide (p0≥65)&&decide (p0<=90)))||(p0==95))||(decide (p0≥161)&&decide (p0<=1114111)))).bind fun b1 =>
 some b1
noncomputable def zdl(p0:Int):Option (Bool) :=
some (decide (p0≥48)&&decide (p0<=57))
noncomputable def zeA(p0:Int):Option (Bool) :=
some ((p0==32)||(p0==9))
noncomputable def zc3(p0:Int)(p1:zak):Option (zai) :=
some (zai.mk p0 p1.Line p1.Col)
noncomputable def zdw(p0:(List zak)):Int->Option ((Int) ⊕ (Int))
 | i21 =>
 if (decide (i21<(p0.length:Int))=true->InB i21 p0.length) then (if ((decide (i21<(p0.length:Int))&&(!(rd p0 i21).Bad))=true->InB i21 p0.length) then ((if (decide (i21<(p0.length:Int))&&(!(rd p0 i21).Bad))=true then zcp ((rd p0 i21).Rune) else some default).bind fun v34 =>
   if (((decide (i21<(p0.length:Int))&&(!(rd p0 i21).Bad))&&(!v34))=true->InB i21 p0.length) then ((if ((decide (i21<(p0.length:Int))&&(!(rd p0 i21).Bad))&&(!v34))=true then zcI ((rd p0 i21).Rune) else some default).bind fun v37 =>
   if ((decide (i21<(p0.length:Int))&&(!(rd p0 i21).Bad))&&(v34||v37))=true then (some (.inl (IntKind.wrap .i64 (i21+1)))) else (some (.inr i21))) else none) else none) else none
noncomputable def zdx(p0:(List zak))(p1:Int)(i1:Int):Option (Int × Int) :=
 (zaY (zdw p0) (IntKind.wrap .i64 (p1+1))).bind fun r31 =>
  some (r31,i1)
noncomputable def zft(p0:(List zak))(p1:Int):Option (Int × Int) :=
if InB p1 p0.length then (if ((rd p0 p1).Rune==10)=true then (some ((IntKind.wrap .i64 (p1+1)),4)) else ((some (((((rd p0 p1).Rune==44)||((rd p0 p1).Rune==91))||((rd p0 p1).Rune==93))||((rd p0 p1).Rune==58))).bind fun b42 =>
   if b42=true then (some ((IntKind.wrap .i64 (p1+1)),3)) else ((zcp ((rd p0 p1).Rune)).bind fun v45 =>
    if v45=true then (zdx p0 p1 1) else ((zcI ((rd p0 p1).Rune)).bind fun v48 =>
     if (v48||((rd p0 p1).Rune==45))=true then (zdx p0 p1 2) else (some (p1,0)))))) else none
noncomputable def zb8(p0:ByteArray):(Int × Int × Nat)->Option ((Int × Int × Nat) ⊕ (Int × Int))
 | (i10,i11,n12) =>
 if n12<p0.size then ((zdz i10 i11 ((Utf8.decode p0 n12).1:Int)).bind fun v21 =>
   some (.inl (v21.1,v21.2,(n12+(Utf8.decode p0 n12).2)))) else (some (.inr (i10,i11)))
noncomputable def zeN(p0:ByteArray):Option (Int × Int) :=
(zaY (zb8 p0) (1,1,0)).bind fun r19 =>
 some (r19.1,r19.2)
end Go.Vs
