import Derived.Test.YtkgpofmbegonfaaGreatDoorPalT
import Derived.Test.YtkgpofmbegonfaaGreatDoorPalA
import Derived.Test.YtkgpofmbegonfaaGreatDoorPalUtf
set_option linter.all false
namespace Go.Vs
noncomputable def zcp(l38:List zam)(p0:ByteArray)(n37:Nat)(i35:Int)(i36:Int)(i58:Int)(b59:Bool):Option ((Int × Int × Nat × (List zam)) ⊕ ((List zam))) :=
 if Fits (l38.length+1) then ((some (l38++([(zam.mk ((Utf8.decode p0 n37).1:Int) (n37:Int) i58 i35 i36 b59)]))).bind fun l61 =>
    (zdM i35 i36 ((Utf8.decode p0 n37).1:Int)).bind fun v63 =>
    some (.inl (v63.1,v63.2,(n37+(Utf8.decode p0 n37).2),l61))) else none
noncomputable def zbX(p0:ByteArray):(Int × Int × Nat × (List zam))->Option ((Int × Int × Nat × (List zam)) ⊕ ((List zam)))
 | (i35,i36,n37,l38) =>
 if n37<p0.size then (if (((Utf8.decode p0 n37).1:Int)==65533)=true then (if Bnd (n37:Int) p0.size then ((zbE (p0.extract ((n37:Int).toNat) p0.size)).bind fun v67 =>
         zcp l38 p0 n37 i35 i36 v67.2 (v67.2==1)) else none) else ((zcO ((Utf8.decode p0 n37).1:Int)).bind fun v69 =>
         zcp l38 p0 n37 i35 i36 v69 false)) else (some (.inr l38))
noncomputable def zdq(p0:ByteArray):Option ((List zam)) :=
(zbn (zbX p0) (1,1,0,[])).bind fun r56 =>
 some r56
noncomputable def ze7:Option ((List ByteArray)) :=
(some ([(⟨#[114,97,120]⟩:ByteArray),(⟨#[114,98,120]⟩:ByteArray),(⟨#[114,99,120]⟩:ByteArray),(⟨#[114,100,120]⟩:ByteArray),(⟨#[114,115,105]⟩:ByteArray),(⟨#[114,100,105]⟩:ByteArray),(⟨#[114,56]⟩:ByteArray),(⟨#[114,57]⟩:ByteArray)])).bind fun l1 =>
 some l1
noncomputable def zd9(v1:(List ByteArray))(p0:ByteArray):Int->Option ((Int) ⊕ ((Unit) ⊕ (Int × Bool)))
 | i10 =>
 if decide (i10<(v1.length:Int))=true then (if InB i10 v1.length then (if decide ((rd v1 i10)=p0)=true then (some (.inr (.inr (i10,true)))) else (some (.inl (IntKind.wrap .i64 (i10+1))))) else none) else (some (.inr (.inl ())))
noncomputable def zde(p0:ByteArray):Option (Int × Bool) :=
(ze7).bind fun v1 =>
 (zbn (zd9 v1 p0) 0).bind (zcG (fun er14 =>
 some (0,false)) (fun qr14=>some qr14))
noncomputable def zfU:Option ((List ByteArray)) :=
(some ([(⟨#[109,111,118]⟩:ByteArray),(⟨#[97,100,100]⟩:ByteArray),(⟨#[115,117,98]⟩:ByteArray),(⟨#[97,110,100]⟩:ByteArray),(⟨#[111,114]⟩:ByteArray),(⟨#[120,111,114]⟩:ByteArray),(⟨#[99,109,112]⟩:ByteArray),(⟨#[120,99,104,103]⟩:ByteArray),(⟨#[99,109,112,120,99,104,103]⟩:ByteArray),(⟨#[106,109,112]⟩:ByteArray),(⟨#[]⟩:ByteArray),(⟨#[109,102,101,110,99,101]⟩:ByteArray),(⟨#[110,111,112]⟩:ByteArray),(⟨#[104,108,116]⟩:ByteArray)])).bind fun l1 =>
 some l1
noncomputable def zex:Option ((List ByteArray)) :=
(some ([(⟨#[106,101]⟩:ByteArray),(⟨#[106,110,101]⟩:ByteArray),(⟨#[106,108]⟩:ByteArray),(⟨#[106,108,101]⟩:ByteArray),(⟨#[106,103]⟩:ByteArray),(⟨#[106,103,101]⟩:ByteArray),(⟨#[106,98]⟩:ByteArray),(⟨#[106,98,101]⟩:ByteArray),(⟨#[106,97]⟩:ByteArray),(⟨#[106,97,101]⟩:ByteArray)])).bind fun l1 =>
 some l1
noncomputable def zez(v2:(List ByteArray))(p0:ByteArray):Int->Option ((Int) ⊕ ((Unit) ⊕ (Int × Int × Bool)))
 | i11 =>
 if decide (i11<(v2.length:Int))=true then (if InB i11 v2.length then (if decide ((rd v2 i11)=p0)=true then (some (.inr (.inr ((IntKind.wrap .i64 (i11+1)),0,true)))) else (some (.inl (IntKind.wrap .i64 (i11+1))))) else none) else (some (.inr (.inl ())))
noncomputable def zey(v19:(List ByteArray))(p0:ByteArray):Int->Option ((Int) ⊕ ((Unit) ⊕ (Int × Int × Bool)))
 | i28 =>
 if decide (i28<(v19.length:Int))=true then (if InB i28 v19.length then (if decide ((rd v19 i28)=p0)=true then (some (.inr (.inr (11,(IntKind.wrap .i64 (i28+1)),true)))) else (some (.inl (IntKind.wrap .i64 (i28+1))))) else none) else (some (.inr (.inl ())))
noncomputable def zeA(p0:ByteArray):Option (Int × Int × Bool) :=
if decide (p0=(⟨#[]⟩:ByteArray))=true then (some (0,0,false)) else ((zfU).bind fun v2 =>
  (zbn (zez v2 p0) 0).bind (zcG (fun er15 =>
  (zex).bind fun v19 =>
    (zbn (zey v19 p0) 0).bind (zcG (fun er32 =>
    some (0,0,false)) (fun qr32=>some qr32))) (fun qr15=>some qr15)))
noncomputable def zcn(p0:ByteArray):Option (Bool) :=
(some ((decide (p0=(⟨#[115,121,109]⟩:ByteArray))||decide (p0=(⟨#[116,104,114,101,97,100]⟩:ByteArray)))||decide (p0=(⟨#[108,111,99,107]⟩:ByteArray)))).bind fun b1 =>
 if b1=true then (some true) else ((zde p0).bind fun v4 =>
  if v4.2=true then (some true) else ((zeA p0).bind fun v7 =>
   some v7.2.2))
noncomputable def zco(v1:(List zam)):(Int × Int)->Option ((Int × Int) ⊕ ((Int) ⊕ (Bool)))
 | (i19,i20) =>
 if decide (i20<(v1.length:Int))=true then (if InB i20 v1.length then ((if (!(rd v1 i20).Bad)=true then zcy ((rd v1 i20).Rune) else some default).bind fun v32 =>
   (if (((!(rd v1 i20).Bad)&&(!v32))&&(!(i19==0)))=true then zc0 ((rd v1 i20).Rune) else some default).bind fun v34 =>
   if ((rd v1 i20).Bad||((!v32)&&((i19==0)||(!v34))))=true then (some (.inr (.inr false))) else (some (.inl ((IntKind.wrap .i64 (i19+1)),(IntKind.wrap .i64 (i20+1)))))) else none) else (some (.inr (.inl i19)))
noncomputable def zdU(p0:ByteArray):Option (Bool) :=
(zdq p0).bind fun v1 =>
 (zbn (zco v1) (0,0)).bind (zcG (fun er29 =>
 (if (decide (er29≥1)&&decide (er29<=16))=true then zcn p0 else some default).bind fun v37 =>
   some ((decide (er29≥1)&&decide (er29<=16))&&(!v37))) (fun qr29=>some qr29))
noncomputable def zdd(p0:Int):Option (Bool) :=
some (decide (p0≥0)&&decide (p0<=7))
noncomputable def zdH(p0:zax):Option (Bool) :=
if (p0.Kind==1)=true then ((zdd p0.Reg).bind fun v2 =>
  some ((v2&&(p0.Sym==0))&&(p0.N==0))) else (if (p0.Kind==2)=true then (some ((p0.Reg==0)&&(p0.Sym==0))) else (if (p0.Kind==3)=true then (some ((decide (p0.Sym≥0)&&decide (p0.N≥0))&&(p0.Reg==0))) else (if (p0.Kind==4)=true then ((if decide (p0.Sym≥0)=true then zdd p0.Reg else some default).bind fun v7 =>
     some ((decide (p0.Sym≥0)&&v7)&&(p0.N==0))) else (some false))))
noncomputable def zgd(p0:zax):Option (zbb × Bool) :=
(zdH p0).bind fun v1 =>
 if (!v1)=true then (some (zbb.nil,false)) else (if (p0.Kind==1)=true then (some ((zbb.RegPart (za3.mk p0.Reg)),true)) else (if (p0.Kind==2)=true then (some ((zbb.NumPart (za4.mk p0.N)),true)) else (if (p0.Kind==3)=true then (some ((zbb.AtPart (zbi.mk p0.Sym p0.N)),true)) else (some ((zbb.ByPart (zbh.mk p0.Sym p0.Reg)),true)))))
noncomputable def zc4(p0:zax):Option (Bool) :=
(zgd p0).bind fun v1 =>
 if (!v1.2)=true then (some false) else ((some v1.1).bind fun z4 =>
  (match z4 with | .nil=>(some false) | .RegPart x6=>(some true) | .NumPart x7=>(some false) | .AtPart x8=>(some false) | .ByPart x9=>(some false)))
noncomputable def zew(p0:zbb):Option (Int × Bool) :=
(match p0 with | .nil=>(some (0,false)) | .RegPart x1=>(some (0,false)) | .NumPart x2=>(some (0,false)) | .AtPart x3=>(some (x3.Sym,true)) | .ByPart x4=>(some (x4.Sym,true)))
noncomputable def zcL(p0:zax):Option (Bool) :=
(zgd p0).bind fun v1 =>
 if (!v1.2)=true then (some false) else ((zew v1.1).bind fun v4 =>
  some v4.2)
noncomputable def zen(p0:zax):Option (Bool) :=
(zdH p0).bind fun v1 =>
 (if v1=true then zcL p0 else some default).bind fun v3 =>
 some (v1&&(!v3))
noncomputable def zeC(p0:Int):Option (Bool) :=
some (decide (p0≥2)&&decide (p0<=6))
noncomputable def zdp(p0:zao):Option (Bool) :=
 (zc4 p0.A).bind fun v1 =>
  (if v1=true then zen p0.B else some default).bind fun v3 =>
  (if (v1&&(!v3))=true then zcL p0.B else some default).bind fun v5 =>
  (if (!(v1&&(v3||v5)))=true then zcL p0.A else some default).bind fun v7 =>
  (if ((!(v1&&(v3||v5)))&&v7)=true then zen p0.B else some default).bind fun v9 =>
  if ((p0.Op==1)||(p0.Op==7))=true then (some (((v1&&(v3||v5))||(v7&&v9))&&(!p0.Lock))) else ((zeC p0.Op).bind fun v17 =>
   if v17=true then ((if (((v1&&(v3||v5))||(v7&&v9))&&(!(!p0.Lock)))=true then zcL p0.A else some default).bind fun v20 =>
    some (((v1&&(v3||v5))||(v7&&v9))&&((!p0.Lock)||v20))) else (if ((p0.Op==8)||(p0.Op==9))=true then ((zcL p0.A).bind fun v23 =>
     (if v23=true then zc4 p0.B else some default).bind fun v25 =>
     some ((v23&&v25)&&(p0.Lock==(p0.Op==9)))) else (if (decide (p0.Op≥10)&&decide (p0.Op<=14))=true then ((some (((!p0.Lock)&&((p0.A.Kind==0)&&((p0.A.Reg==0)&&((p0.A.Sym==0)&&(p0.A.N==0)))))&&((p0.B.Kind==0)&&((p0.B.Reg==0)&&((p0.B.Sym==0)&&(p0.B.N==0)))))).bind fun b28 =>
      some b28) else (some false))))
noncomputable def zfZ(p0:zao):Option (Bool) :=
if (p0.Op==11)=true then (if (decide (p0.Cond<1)||decide (p0.Cond>10))=true then (some false) else (zdp p0)) else (if (p0.Cond != 0)=true then (some false) else (zdp p0))
noncomputable def zeX(p0:zao):Option (Int) :=
(zfZ p0).bind fun v1 =>
 (some ((!v1)||((!((p0.Op==10)||(p0.Op==11)))&&(!decide (p0.To=(⟨#[]⟩:ByteArray)))))).bind fun b3 =>
 if b3=true then (some 4) else ((if ((p0.Op==10)||(p0.Op==11))=true then zdU p0.To else some default).bind fun v6 =>
  if (((p0.Op==10)||(p0.Op==11))&&(!v6))=true then (some 3) else (some 0))
end Go.Vs
