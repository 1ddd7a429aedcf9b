import Derived.Test.YtkgpofmbegonfaaGreatDoorPalT
import Derived.Test.YtkgpofmbegonfaaGreatDoorPalJ
import Derived.Test.YtkgpofmbegonfaaGreatDoorPalStr
import Derived.Test.YtkgpofmbegonfaaGreatDoorPalJn
set_option linter.all false
namespace Go.Vs
noncomputable def zcW(i25:Int)(s41:ByteArray):Option ((ByteArray × Int) ⊕ (ByteArray)) :=
 some (.inl (s41,(IntKind.wrap .i64 (i25+1))))
noncomputable def zcV(i25:Int)(p0:(List zaj))(s42:ByteArray):Option ((ByteArray × Int) ⊕ (ByteArray)) :=
 if InB i25 p0.length then ((zg3 ((rd p0 i25).Thread)).bind fun v44 =>
         if zfx s42 v44 then (if InB i25 p0.length then (if (rd p0 i25).Flush=true then (if zfx (s42++v44) (⟨#[102]⟩:ByteArray) then (zcW i25 ((s42++v44)++(⟨#[102]⟩:ByteArray))) else none) else (zcW i25 (s42++v44))) else none) else none) else none
noncomputable def zip(p0:(List zaj)):(ByteArray × Int)->Option ((ByteArray × Int) ⊕ (ByteArray))
 | (s24,i25) =>
 if decide (i25<(p0.length:Int))=true then (if decide (i25>0)=true then (if zfx s24 (⟨#[32]⟩:ByteArray) then (zcV i25 p0 (s24++(⟨#[32]⟩:ByteArray))) else none) else (zcV i25 p0 s24)) else (some (.inr s24))
noncomputable def zbm(i51:Int)(i80:Int)(l81:List zaj):Option ((Int × Int × (List zaj)) ⊕ (((List zaj)) ⊕ ((List zaj) × Bool))) :=
 some (.inl (i80,(IntKind.wrap .i64 (i51+1)),l81))
noncomputable def zbl(l52:List zaj)(b88:Bool)(i51:Int)(s90:ByteArray):Option ((Int × Int × (List zaj)) ⊕ (((List zaj)) ⊕ ((List zaj) × Bool))) :=
 (zb5 s90).bind fun v91 =>
             if (!v91.2)=true then (some (.inr (.inr ([],false)))) else (if Fits (l52.length+1) then ((some (l52++([(zaj.mk v91.1 b88)]))).bind fun l95 =>
        zbm i51 (IntKind.wrap .i64 (i51+1)) l95) else none)
noncomputable def zaJ(p0:ByteArray):(Int × Int × (List zaj))->Option ((Int × Int × (List zaj)) ⊕ (((List zaj)) ⊕ ((List zaj) × Bool)))
 | (i50,i51,l52) =>
 if decide (i51<=(p0.size:Int))=true then (if (decide (i51<(p0.size:Int))=true->InB i51 p0.size) then (if (decide (i51<(p0.size:Int))&&((bt p0 i51) != 32))=true then (zbm i51 i50 l52) else (if Bnd i51 p0.size then (if Bnd i50 i51.toNat then (if (decide (((p0.extract i50.toNat i51.toNat).size:Int)>0)=true->InB (IntKind.wrap .i64 (((p0.extract i50.toNat i51.toNat).size:Int)-1)) (p0.extract i50.toNat i51.toNat).size) then ((some (decide (((p0.extract i50.toNat i51.toNat).size:Int)>0)&&((bt (p0.extract i50.toNat i51.toNat) (IntKind.wrap .i64 (((p0.extract i50.toNat i51.toNat).size:Int)-1)))==102))).bind fun b88 =>
           if b88=true then (if Bnd (IntKind.wrap .i64 (((p0.extract i50.toNat i51.toNat).size:Int)-1)) ((p0.extract i50.toNat i51.toNat).size) then ((some ((p0.extract i50.toNat i51.toNat).extract 0 ((IntKind.wrap .i64 (((p0.extract i50.toNat i51.toNat).size:Int)-1)).toNat))).bind fun s99 =>
        zbl l52 b88 i51 s99) else none) else (zbl l52 b88 i51 (p0.extract i50.toNat i51.toNat))) else none) else none) else none)) else none) else (some (.inr (.inl l52)))
noncomputable def zca(p0:ByteArray):Option ((List zaj) × Bool) :=
if decide (p0=(⟨#[]⟩:ByteArray))=true then (some ([],true)) else ((zaY (zaJ p0) (0,0,[])).bind (zcl (fun er78 =>
  some (er78,true)) (fun qr78=>some qr78)))
noncomputable def zaW(p0:(List zaj))(p1:(List zaj)):Int->Option ((Int) ⊕ ((Unit) ⊕ (Bool)))
 | i11 =>
 if decide (i11<(p0.length:Int))=true then (if InB i11 p0.length then (if InB i11 p1.length then ((some (!(((rd p0 i11).Thread==(rd p1 i11).Thread)&&((rd p0 i11).Flush==(rd p1 i11).Flush)))).bind fun b22 =>
    if b22=true then (some (.inr (.inr false))) else (some (.inl (IntKind.wrap .i64 (i11+1))))) else none) else none) else (some (.inr (.inl ())))
noncomputable def zbc(p0:(List zaj))(p1:(List zaj)):Option (Bool) :=
if ((p0.length:Int) != (p1.length:Int))=true then (some false) else ((zaY (zaW p0 p1) 0).bind (zcl (fun er18 =>
  some true) (fun qr18=>some qr18)))
noncomputable def zbN(l25:List ByteArray)(i24:Int)(s44:ByteArray):Option ((Int × (List ByteArray)) ⊕ ((List ByteArray))) :=
 if Fits (l25.length+1) then ((some (l25++([s44]))).bind fun l46 =>
    some (.inl ((IntKind.wrap .i64 (i24+1)),l46))) else none
noncomputable def zbn(p0:(List zaj)):(Int × (List ByteArray))->Option ((Int × (List ByteArray)) ⊕ ((List ByteArray)))
 | (i24,l25) =>
 if decide (i24<(p0.length:Int))=true then (if InB i24 p0.length then ((zfK ((rd p0 i24).Thread)).bind fun v42 =>
   if (rd p0 i24).Flush=true then (if zfx v42 (⟨#[102]⟩:ByteArray) then (zbN l25 i24 (v42++(⟨#[102]⟩:ByteArray))) else none) else (zbN l25 i24 v42)) else none) else (some (.inr l25))
noncomputable def zbx(p0:(List zaj)):Option (ByteArray) :=
(zaY (zbn p0) (0,[])).bind fun r39 =>
 (zcn r39 (⟨#[32]⟩:ByteArray)).bind fun v50 =>
  some v50
noncomputable def zbM(v2:(List ByteArray)):(Int × (List zaj))->Option ((Int × (List zaj)) ⊕ (((List zaj)) ⊕ ((List zaj) × Bool)))
 | (i27,l28) =>
 if decide (i27<(v2.length:Int))=true then (if InB i27 v2.length then ((strings_CutSuffix (rd v2 i27) (⟨#[102]⟩:ByteArray)).bind fun v45 =>
    (zcw v45.1).bind fun v47 =>
    if (!v47.2)=true then (some (.inr (.inr ([],false)))) else (if Fits (l28.length+1) then ((some (l28++([(zaj.mk v47.1 v45.2)]))).bind fun l51 =>
     some (.inl ((IntKind.wrap .i64 (i27+1)),l51))) else none)) else none) else (some (.inr (.inl l28)))
noncomputable def zbD(p0:ByteArray):Option ((List zaj) × Bool) :=
if decide (p0=(⟨#[]⟩:ByteArray))=true then (some ([],true)) else ((strings_Split p0 (⟨#[32]⟩:ByteArray)).bind fun v2 =>
  (zaY (zbM v2) (0,[])).bind (zcl (fun er42 =>
  some (er42,true)) (fun qr42=>some qr42)))
noncomputable def zcv(p1:(List Int)):(ByteArray × Int)->Option ((ByteArray × Int) ⊕ (ByteArray))
 | (s16,i17) =>
 if decide (i17<(p1.length:Int))=true then (if InB i17 p1.length then ((zfK (rd p1 i17)).bind fun v28 =>
   if zfx (⟨#[32]⟩:ByteArray) v28 then (if zfx s16 ((⟨#[32]⟩:ByteArray)++v28) then (some (.inl ((s16++((⟨#[32]⟩:ByteArray)++v28)),(IntKind.wrap .i64 (i17+1))))) else none) else none) else none) else (some (.inr s16))
noncomputable def zdt(p0:ByteArray)(p1:(List Int)):Option (ByteArray) :=
(zaY (zcv p1) (p0,0)).bind fun r25 =>
 if zfx r25 (⟨#[10]⟩:ByteArray) then (some (r25++(⟨#[10]⟩:ByteArray))) else none
noncomputable def zbV(p0:ByteArray)(p1:ByteArray):Option (ByteArray) :=
(zdb p0).bind fun v1 =>
 if (v1.2.Code != 0)=true then ((zdt (⟨#[102,97,117,108,116]⟩:ByteArray) ([v1.2.Code,v1.2.Line,v1.2.Col])).bind fun v4 =>
  some v4) else ((zbD p1).bind fun v6 =>
  if (!v6.2)=true then ((zdt (⟨#[112,105,99,107,115]⟩:ByteArray) ([])).bind fun v9 =>
   some v9) else (none))
noncomputable def zb6:Option (Bool) :=
(zbD (⟨#[48,32,49,102]⟩:ByteArray)).bind fun v1 =>
 (zbD (⟨#[48,32,32,49]⟩:ByteArray)).bind fun v3 =>
 (zbc v1.1 ([(zaj.mk 0 false),(zaj.mk 1 true)])).bind fun v5 =>
 (if ((v5&&v1.2)&&(!v3.2))=true then zbx v1.1 else some default).bind fun v7 =>
 (if (((v5&&v1.2)&&(!v3.2))&&decide (v7=(⟨#[48,32,49,102]⟩:ByteArray)))=true then zbV (⟨#[110,111,112]⟩:ByteArray) (⟨#[]⟩:ByteArray) else some default).bind fun v9 =>
 (if ((((v5&&v1.2)&&(!v3.2))&&decide (v7=(⟨#[48,32,49,102]⟩:ByteArray)))&&decide (v9=(⟨#[102,97,117,108,116,32,52,32,49,32,49,10]⟩:ByteArray)))=true then zbV (⟨#[]⟩:ByteArray) (⟨#[120]⟩:ByteArray) else some default).bind fun v11 =>
 (some (((((v5&&v1.2)&&(!v3.2))&&decide (v7=(⟨#[48,32,49,102]⟩:ByteArray)))&&decide (v9=(⟨#[102,97,117,108,116,32,52,32,49,32,49,10]⟩:ByteArray)))&&decide (v11=(⟨#[112,105,99,107,115,10]⟩:ByteArray)))).bind fun b13 =>
 some b13
noncomputable def zbP(p0:ByteArray):Option (Bool) :=
(zcb p0 100).bind fun v1 =>
 (zbD v1).bind fun v3 =>
 (zca v1).bind fun v5 =>
 (zbc v3.1 v5.1).bind fun v7 =>
 (if ((v7&&(v3.2==v5.2))&&(!(!v3.2)))=true then zbx v3.1 else some default).bind fun v9 =>
 (if ((v7&&(v3.2==v5.2))&&((!v3.2)||decide (v9=v1)))=true then zb6 else some default).bind fun v11 =>
 some (((v7&&(v3.2==v5.2))&&((!v3.2)||decide (v9=v1)))&&v11)
end Go.Vs
