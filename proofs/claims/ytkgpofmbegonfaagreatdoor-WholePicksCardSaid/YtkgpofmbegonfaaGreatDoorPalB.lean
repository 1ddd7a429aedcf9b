import Derived.Test.YtkgpofmbegonfaaGreatDoorPalT
import Derived.Test.YtkgpofmbegonfaaGreatDoorPalA
import Derived.Test.YtkgpofmbegonfaaGreatDoorPalUtf
set_option linter.all false
namespace Go.Vs
noncomputable def zch(l38:List zak)(p0:ByteArray)(n37:Nat)(i35:Int)(i36:Int)(i58:Int)(b59:Bool):Option ((Int × Int × Nat × (List zak)) ⊕ ((List zak))) :=
 if Fits (l38.length+1) then ((some (l38++([(zak.mk ((Utf8.decode p0 n37).1:Int) (n37:Int) i58 i35 i36 b59)]))).bind fun l61 =>
    (zdz i35 i36 ((Utf8.decode p0 n37).1:Int)).bind fun v63 =>
    some (.inl (v63.1,v63.2,(n37+(Utf8.decode p0 n37).2),l61))) else none
noncomputable def zbE(p0:ByteArray):(Int × Int × Nat × (List zak))->Option ((Int × Int × Nat × (List zak)) ⊕ ((List zak)))
 | (i35,i36,n37,l38) =>
 if n37<p0.size then (if (((Utf8.decode p0 n37).1:Int)==65533)=true then (if Bnd (n37:Int) p0.size then ((zbh (p0.extract ((n37:Int).toNat) p0.size)).bind fun v67 =>
         zch l38 p0 n37 i35 i36 v67.2 (v67.2==1)) else none) else ((zcC ((Utf8.decode p0 n37).1:Int)).bind fun v69 =>
         zch l38 p0 n37 i35 i36 v69 false)) else (some (.inr l38))
noncomputable def zdf(p0:ByteArray):Option ((List zak)) :=
(zaY (zbE p0) (1,1,0,[])).bind fun r56 =>
 some r56
noncomputable def zeY:Option ((List ByteArray)) :=
(some ([(⟨#[114,97,120]⟩:ByteArray),(⟨#[114,98,120]⟩:ByteArray),(⟨#[114,99,120]⟩:ByteArray),(⟨#[114,100,120]⟩:ByteArray),(⟨#[114,115,105]⟩:ByteArray),(⟨#[114,100,105]⟩:ByteArray),(⟨#[114,56]⟩:ByteArray),(⟨#[114,57]⟩:ByteArray)])).bind fun l1 =>
 some l1
noncomputable def zdZ(v1:(List ByteArray))(p0:ByteArray):Int->Option ((Int) ⊕ ((Unit) ⊕ (Int × Bool)))
 | i10 =>
 if decide (i10<(v1.length:Int))=true then (if InB i10 v1.length then (if decide ((rd v1 i10)=p0)=true then (some (.inr (.inr (i10,true)))) else (some (.inl (IntKind.wrap .i64 (i10+1))))) else none) else (some (.inr (.inl ())))
noncomputable def zc0(p0:ByteArray):Option (Int × Bool) :=
(zeY).bind fun v1 =>
 (zaY (zdZ v1 p0) 0).bind (zcl (fun er14 =>
 some (0,false)) (fun qr14=>some qr14))
noncomputable def zfM:Option ((List ByteArray)) :=
(some ([(⟨#[109,111,118]⟩:ByteArray),(⟨#[97,100,100]⟩:ByteArray),(⟨#[115,117,98]⟩:ByteArray),(⟨#[97,110,100]⟩:ByteArray),(⟨#[111,114]⟩:ByteArray),(⟨#[120,111,114]⟩:ByteArray),(⟨#[99,109,112]⟩:ByteArray),(⟨#[120,99,104,103]⟩:ByteArray),(⟨#[99,109,112,120,99,104,103]⟩:ByteArray),(⟨#[106,109,112]⟩:ByteArray),(⟨#[]⟩:ByteArray),(⟨#[109,102,101,110,99,101]⟩:ByteArray),(⟨#[110,111,112]⟩:ByteArray),(⟨#[104,108,116]⟩:ByteArray)])).bind fun l1 =>
 some l1
noncomputable def zer:Option ((List ByteArray)) :=
(some ([(⟨#[106,101]⟩:ByteArray),(⟨#[106,110,101]⟩:ByteArray),(⟨#[106,108]⟩:ByteArray),(⟨#[106,108,101]⟩:ByteArray),(⟨#[106,103]⟩:ByteArray),(⟨#[106,103,101]⟩:ByteArray),(⟨#[106,98]⟩:ByteArray),(⟨#[106,98,101]⟩:ByteArray),(⟨#[106,97]⟩:ByteArray),(⟨#[106,97,101]⟩:ByteArray)])).bind fun l1 =>
 some l1
noncomputable def zet(v2:(List ByteArray))(p0:ByteArray):Int->Option ((Int) ⊕ ((Unit) ⊕ (Int × Int × Bool)))
 | i11 =>
 if decide (i11<(v2.length:Int))=true then (if InB i11 v2.length then (if decide ((rd v2 i11)=p0)=true then (some (.inr (.inr ((IntKind.wrap .i64 (i11+1)),0,true)))) else (some (.inl (IntKind.wrap .i64 (i11+1))))) else none) else (some (.inr (.inl ())))
noncomputable def zes(v19:(List ByteArray))(p0:ByteArray):Int->Option ((Int) ⊕ ((Unit) ⊕ (Int × Int × Bool)))
 | i28 =>
 if decide (i28<(v19.length:Int))=true then (if InB i28 v19.length then (if decide ((rd v19 i28)=p0)=true then (some (.inr (.inr (11,(IntKind.wrap .i64 (i28+1)),true)))) else (some (.inl (IntKind.wrap .i64 (i28+1))))) else none) else (some (.inr (.inl ())))
noncomputable def zeu(p0:ByteArray):Option (Int × Int × Bool) :=
if decide (p0=(⟨#[]⟩:ByteArray))=true then (some (0,0,false)) else ((zfM).bind fun v2 =>
  (zaY (zet v2 p0) 0).bind (zcl (fun er15 =>
  (zer).bind fun v19 =>
    (zaY (zes v19 p0) 0).bind (zcl (fun er32 =>
    some (0,0,false)) (fun qr32=>some qr32))) (fun qr15=>some qr15)))
noncomputable def zcf(p0:ByteArray):Option (Bool) :=
(some ((decide (p0=(⟨#[115,121,109]⟩:ByteArray))||decide (p0=(⟨#[116,104,114,101,97,100]⟩:ByteArray)))||decide (p0=(⟨#[108,111,99,107]⟩:ByteArray)))).bind fun b1 =>
 if b1=true then (some true) else ((zc0 p0).bind fun v4 =>
  if v4.2=true then (some true) else ((zeu p0).bind fun v7 =>
   some v7.2.2))
noncomputable def zcg(v1:(List zak)):(Int × Int)->Option ((Int × Int) ⊕ ((Int) ⊕ (Bool)))
 | (i19,i20) =>
 if decide (i20<(v1.length:Int))=true then (if InB i20 v1.length then ((if (!(rd v1 i20).Bad)=true then zcp ((rd v1 i20).Rune) else some default).bind fun v32 =>
   (if (((!(rd v1 i20).Bad)&&(!v32))&&(!(i19==0)))=true then zcI ((rd v1 i20).Rune) else some default).bind fun v34 =>
   if ((rd v1 i20).Bad||((!v32)&&((i19==0)||(!v34))))=true then (some (.inr (.inr false))) else (some (.inl ((IntKind.wrap .i64 (i19+1)),(IntKind.wrap .i64 (i20+1)))))) else none) else (some (.inr (.inl i19)))
noncomputable def zdI(p0:ByteArray):Option (Bool) :=
(zdf p0).bind fun v1 =>
 (zaY (zcg v1) (0,0)).bind (zcl (fun er29 =>
 (if (decide (er29≥1)&&decide (er29<=16))=true then zcf p0 else some default).bind fun v37 =>
   some ((decide (er29≥1)&&decide (er29<=16))&&(!v37))) (fun qr29=>some qr29))
noncomputable def zcZ(p0:Int):Option (Bool) :=
some (decide (p0≥0)&&decide (p0<=7))
noncomputable def zdu(p0:zaw):Option (Bool) :=
if (p0.Kind==1)=true then ((zcZ p0.Reg).bind fun v2 =>
  some ((v2&&(p0.Sym==0))&&(p0.N==0))) else (if (p0.Kind==2)=true then (some ((p0.Reg==0)&&(p0.Sym==0))) else (if (p0.Kind==3)=true then (some ((decide (p0.Sym≥0)&&decide (p0.N≥0))&&(p0.Reg==0))) else (if (p0.Kind==4)=true then ((if decide (p0.Sym≥0)=true then zcZ p0.Reg else some default).bind fun v7 =>
     some ((decide (p0.Sym≥0)&&v7)&&(p0.N==0))) else (some false))))
noncomputable def zf8(p0:zaw):Option (zbo × Bool) :=
(zdu p0).bind fun v1 =>
 if (!v1)=true then (some (zbo.nil,false)) else (if (p0.Kind==1)=true then (some ((zbo.RegPart (zd8.mk p0.Reg)),true)) else (if (p0.Kind==2)=true then (some ((zbo.NumPart (zd9.mk p0.N)),true)) else (if (p0.Kind==3)=true then (some ((zbo.AtPart (zdr.mk p0.Sym p0.N)),true)) else (some ((zbo.ByPart (zdq.mk p0.Sym p0.Reg)),true)))))
noncomputable def zcN(p0:zaw):Option (Bool) :=
(zf8 p0).bind fun v1 =>
 if (!v1.2)=true then (some false) else ((some v1.1).bind fun z4 =>
  (match z4 with | .nil=>(some false) | .RegPart x6=>(some true) | .NumPart x7=>(some false) | .AtPart x8=>(some false) | .ByPart x9=>(some false)))
noncomputable def zeq(p0:zbo):Option (Int × Bool) :=
(match p0 with | .nil=>(some (0,false)) | .RegPart x1=>(some (0,false)) | .NumPart x2=>(some (0,false)) | .AtPart x3=>(some (x3.Sym,true)) | .ByPart x4=>(some (x4.Sym,true)))
noncomputable def zcA(p0:zaw):Option (Bool) :=
(zf8 p0).bind fun v1 =>
 if (!v1.2)=true then (some false) else ((zeq v1.1).bind fun v4 =>
  some v4.2)
noncomputable def zej(p0:zaw):Option (Bool) :=
(zdu p0).bind fun v1 =>
 (if v1=true then zcA p0 else some default).bind fun v3 =>
 some (v1&&(!v3))
noncomputable def zew(p0:Int):Option (Bool) :=
some (decide (p0≥2)&&decide (p0<=6))
noncomputable def zde(p0:zao):Option (Bool) :=
 (zcN p0.A).bind fun v1 =>
  (if v1=true then zej p0.B else some default).bind fun v3 =>
  (if (v1&&(!v3))=true then zcA p0.B else some default).bind fun v5 =>
  (if (!(v1&&(v3||v5)))=true then zcA p0.A else some default).bind fun v7 =>
  (if ((!(v1&&(v3||v5)))&&v7)=true then zej p0.B else some default).bind fun v9 =>
  if ((p0.Op==1)||(p0.Op==7))=true then (some (((v1&&(v3||v5))||(v7&&v9))&&(!p0.Lock))) else ((zew p0.Op).bind fun v17 =>
   if v17=true then ((if (((v1&&(v3||v5))||(v7&&v9))&&(!(!p0.Lock)))=true then zcA p0.A else some default).bind fun v20 =>
    some (((v1&&(v3||v5))||(v7&&v9))&&((!p0.Lock)||v20))) else (if ((p0.Op==8)||(p0.Op==9))=true then ((zcA p0.A).bind fun v23 =>
     (if v23=true then zcN p0.B else some default).bind fun v25 =>
     some ((v23&&v25)&&(p0.Lock==(p0.Op==9)))) else (if (decide (p0.Op≥10)&&decide (p0.Op<=14))=true then ((some (((!p0.Lock)&&((p0.A.Kind==0)&&((p0.A.Reg==0)&&((p0.A.Sym==0)&&(p0.A.N==0)))))&&((p0.B.Kind==0)&&((p0.B.Reg==0)&&((p0.B.Sym==0)&&(p0.B.N==0)))))).bind fun b28 =>
      some b28) else (some false))))
noncomputable def zfR(p0:zao):Option (Bool) :=
if (p0.Op==11)=true then (if (decide (p0.Cond<1)||decide (p0.Cond>10))=true then (some false) else (zde p0)) else (if (p0.Cond != 0)=true then (some false) else (zde p0))
noncomputable def zeM(p0:zao):Option (Int) :=
(zfR p0).bind fun v1 =>
 (some ((!v1)||((!((p0.Op==10)||(p0.Op==11)))&&(!decide (p0.To=(⟨#[]⟩:ByteArray)))))).bind fun b3 =>
 if b3=true then (some 4) else ((if ((p0.Op==10)||(p0.Op==11))=true then zdI p0.To else some default).bind fun v6 =>
  if (((p0.Op==10)||(p0.Op==11))&&(!v6))=true then (some 3) else (some 0))
end Go.Vs
