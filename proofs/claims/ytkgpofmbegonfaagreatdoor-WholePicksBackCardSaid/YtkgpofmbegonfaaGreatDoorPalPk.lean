import Derived.Test.YtkgpofmbegonfaaGreatDoorPalT
import Derived.Test.YtkgpofmbegonfaaGreatDoorPalJ
import Derived.Test.YtkgpofmbegonfaaGreatDoorPalStr
import Derived.Test.YtkgpofmbegonfaaGreatDoorPalJn
set_option linter.all false
namespace Go.Vs
noncomputable def zbs(i25:Int)(s41:ByteArray):Option ((ByteArray × Int) ⊕ (ByteArray)) :=
 some (.inl (s41,(IntKind.wrap .i64 (i25+1))))
noncomputable def za8(i25:Int)(p0:(List zan))(s42:ByteArray):Option ((ByteArray × Int) ⊕ (ByteArray)) :=
 if InB i25 p0.length then ((zcw ((rd p0 i25).Thread)).bind fun v44 =>
         if zeF s42 v44 then (if InB i25 p0.length then (if (rd p0 i25).Flush=true then (if zeF (s42++v44) (⟨#[102]⟩:ByteArray) then (zbs i25 ((s42++v44)++(⟨#[102]⟩:ByteArray))) else none) else (zbs i25 (s42++v44))) else none) else none) else none
noncomputable def za7(p0:(List zan)):(ByteArray × Int)->Option ((ByteArray × Int) ⊕ (ByteArray))
 | (s24,i25) =>
 if decide (i25<(p0.length:Int))=true then (if decide (i25>0)=true then (if zeF s24 (⟨#[32]⟩:ByteArray) then (za8 i25 p0 (s24++(⟨#[32]⟩:ByteArray))) else none) else (za8 i25 p0 s24)) else (some (.inr s24))
noncomputable def zbR(p0:(List zan)):Option (ByteArray) :=
(zbn (za7 p0) ((⟨#[]⟩:ByteArray),0)).bind fun r39 =>
 some r39
noncomputable def za9(p0:(List zan))(p1:(List zan)):Int->Option ((Int) ⊕ ((Unit) ⊕ (Bool)))
 | i11 =>
 if decide (i11<(p0.length:Int))=true then (if InB i11 p0.length then (if InB i11 p1.length then ((some (!(((rd p0 i11).Thread==(rd p1 i11).Thread)&&((rd p0 i11).Flush==(rd p1 i11).Flush)))).bind fun b22 =>
    if b22=true then (some (.inr (.inr false))) else (some (.inl (IntKind.wrap .i64 (i11+1))))) else none) else none) else (some (.inr (.inl ())))
noncomputable def zbx(p0:(List zan))(p1:(List zan)):Option (Bool) :=
if ((p0.length:Int) != (p1.length:Int))=true then (some false) else ((zbn (za9 p0 p1) 0).bind (zcG (fun er18 =>
  some true) (fun qr18=>some qr18)))
noncomputable def zb3(l25:List ByteArray)(i24:Int)(s44:ByteArray):Option ((Int × (List ByteArray)) ⊕ ((List ByteArray))) :=
 if Fits (l25.length+1) then ((some (l25++([s44]))).bind fun l46 =>
    some (.inl ((IntKind.wrap .i64 (i24+1)),l46))) else none
noncomputable def zbI(p0:(List zan)):(Int × (List ByteArray))->Option ((Int × (List ByteArray)) ⊕ ((List ByteArray)))
 | (i24,l25) =>
 if decide (i24<(p0.length:Int))=true then (if InB i24 p0.length then ((zfS ((rd p0 i24).Thread)).bind fun v42 =>
   if (rd p0 i24).Flush=true then (if zeF v42 (⟨#[102]⟩:ByteArray) then (zb3 l25 i24 (v42++(⟨#[102]⟩:ByteArray))) else none) else (zb3 l25 i24 v42)) else none) else (some (.inr l25))
noncomputable def zbQ(p0:(List zan)):Option (ByteArray) :=
(zbn (zbI p0) (0,[])).bind fun r39 =>
 (zcu r39 (⟨#[32]⟩:ByteArray)).bind fun v50 =>
  some v50
noncomputable def zb2(v2:(List ByteArray)):(Int × (List zan))->Option ((Int × (List zan)) ⊕ (((List zan)) ⊕ ((List zan) × Bool)))
 | (i27,l28) =>
 if decide (i27<(v2.length:Int))=true then (if InB i27 v2.length then ((strings_CutSuffix (rd v2 i27) (⟨#[102]⟩:ByteArray)).bind fun v45 =>
    (zcH v45.1).bind fun v47 =>
    if (!v47.2)=true then (some (.inr (.inr ([],false)))) else (if Fits (l28.length+1) then ((some (l28++([(zan.mk v47.1 v45.2)]))).bind fun l51 =>
     some (.inl ((IntKind.wrap .i64 (i27+1)),l51))) else none)) else none) else (some (.inr (.inl l28)))
noncomputable def zbW(p0:ByteArray):Option ((List zan) × Bool) :=
if decide (p0=(⟨#[]⟩:ByteArray))=true then (some ([],true)) else ((strings_Split p0 (⟨#[32]⟩:ByteArray)).bind fun v2 =>
  (zbn (zb2 v2) (0,[])).bind (zcG (fun er42 =>
  some (er42,true)) (fun qr42=>some qr42)))
noncomputable def zcF(p1:(List Int)):(ByteArray × Int)->Option ((ByteArray × Int) ⊕ (ByteArray))
 | (s16,i17) =>
 if decide (i17<(p1.length:Int))=true then (if InB i17 p1.length then ((zfS (rd p1 i17)).bind fun v28 =>
   if zeF (⟨#[32]⟩:ByteArray) v28 then (if zeF s16 ((⟨#[32]⟩:ByteArray)++v28) then (some (.inl ((s16++((⟨#[32]⟩:ByteArray)++v28)),(IntKind.wrap .i64 (i17+1))))) else none) else none) else none) else (some (.inr s16))
noncomputable def zdG(p0:ByteArray)(p1:(List Int)):Option (ByteArray) :=
(zbn (zcF p1) (p0,0)).bind fun r25 =>
 if zeF r25 (⟨#[10]⟩:ByteArray) then (some (r25++(⟨#[10]⟩:ByteArray))) else none
noncomputable def zb9(p0:ByteArray)(p1:ByteArray):Option (ByteArray) :=
(zdl p0).bind fun v1 =>
 if (v1.2.Code != 0)=true then ((zdG (⟨#[102,97,117,108,116]⟩:ByteArray) ([v1.2.Code,v1.2.Line,v1.2.Col])).bind fun v4 =>
  some v4) else ((zbW p1).bind fun v6 =>
  if (!v6.2)=true then ((zdG (⟨#[112,105,99,107,115]⟩:ByteArray) ([])).bind fun v9 =>
   some v9) else (none))
noncomputable def zbZ:Option (Bool) :=
(zbW (⟨#[48,32,49,102]⟩:ByteArray)).bind fun v1 =>
 (zbW (⟨#[48,32,32,49]⟩:ByteArray)).bind fun v3 =>
 (zbx v1.1 ([(zan.mk 0 false),(zan.mk 1 true)])).bind fun v5 =>
 (if ((v5&&v1.2)&&(!v3.2))=true then zbQ v1.1 else some default).bind fun v7 =>
 (if (((v5&&v1.2)&&(!v3.2))&&decide (v7=(⟨#[48,32,49,102]⟩:ByteArray)))=true then zb9 (⟨#[110,111,112]⟩:ByteArray) (⟨#[]⟩:ByteArray) else some default).bind fun v9 =>
 (if ((((v5&&v1.2)&&(!v3.2))&&decide (v7=(⟨#[48,32,49,102]⟩:ByteArray)))&&decide (v9=(⟨#[102,97,117,108,116,32,52,32,49,32,49,10]⟩:ByteArray)))=true then zb9 (⟨#[]⟩:ByteArray) (⟨#[120]⟩:ByteArray) else some default).bind fun v11 =>
 (some (((((v5&&v1.2)&&(!v3.2))&&decide (v7=(⟨#[48,32,49,102]⟩:ByteArray)))&&decide (v9=(⟨#[102,97,117,108,116,32,52,32,49,32,49,10]⟩:ByteArray)))&&decide (v11=(⟨#[112,105,99,107,115,10]⟩:ByteArray)))).bind fun b13 =>
 some b13
noncomputable def zbz(p0:(List zan)):Option (Bool) :=
if decide ((p0.length:Int)>40)=true then ((zbZ).bind fun v2 =>
  some v2) else ((zbQ p0).bind fun v4 =>
  (zbW v4).bind fun v6 =>
  (zbR p0).bind fun v8 =>
  (if (decide (v4=v8)&&v6.2)=true then zbx v6.1 p0 else some default).bind fun v10 =>
  (if ((decide (v4=v8)&&v6.2)&&v10)=true then zbZ else some default).bind fun v12 =>
  some (((decide (v4=v8)&&v6.2)&&v10)&&v12))
end Go.Vs
