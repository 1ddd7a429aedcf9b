import Derived.Test.YtocjejladeeckaaGreatDoorPalT
import Derived.Test.YtocjejladeeckaaGreatDoorPalB
import Derived.Test.YtocjejladeeckaaGreatDoorPalNum
set_option linter.all false
namespace Go.Vs
noncomputable def za9(p0:ByteArray)(n24:Nat)(i22:Int)(i23:Int)(l42:List zao):Option ((Int × Int × Nat × (List zao)) ⊕ ((List zao))) :=
 if Fits (l42.length+1) then ((some (l42++([(zao.mk ((Utf8.decode p0 n24).1:Int) (n24:Int) 0 i22 i23 false)]))).bind fun l44 =>
    if (((Utf8.decode p0 n24).1:Int)==10)=true then (some (.inl ((IntKind.wrap .i64 (i22+1)),1,(n24+(Utf8.decode p0 n24).2),l44))) else (some (.inl (i22,(IntKind.wrap .i64 (i23+1)),(n24+(Utf8.decode p0 n24).2),l44)))) else none
noncomputable def zaQ(p0:ByteArray):(Int × Int × Nat × (List zao))->Option ((Int × Int × Nat × (List zao)) ⊕ ((List zao)))
 | (i22,i23,n24,l25) =>
 if n24<p0.size then (if decide ((l25.length:Int)>0)=true then (if InB (IntKind.wrap .i64 ((l25.length:Int)-1)) l25.length then (if InB (IntKind.wrap .i64 ((l25.length:Int)-1)) l25.length then ((some (l25.set (IntKind.wrap .i64 ((l25.length:Int)-1)).toNat (zao.mk ((rd l25 (IntKind.wrap .i64 ((l25.length:Int)-1))).Rune) ((rd l25 (IntKind.wrap .i64 ((l25.length:Int)-1))).At) (IntKind.wrap .i64 ((n24:Int)-(rd l25 (IntKind.wrap .i64 ((l25.length:Int)-1))).At)) ((rd l25 (IntKind.wrap .i64 ((l25.length:Int)-1))).Line) ((rd l25 (IntKind.wrap .i64 ((l25.length:Int)-1))).Col) ((rd l25 (IntKind.wrap .i64 ((l25.length:Int)-1))).Bad)))).bind fun l50 =>
         za9 p0 n24 i22 i23 l50) else none) else none) else (za9 p0 n24 i22 i23 l25)) else (some (.inr l25))
noncomputable def za8:(Int × (List zao))->Option ((Int × (List zao)) ⊕ ((List zao)))
 | (i67,l68) =>
 if decide (i67<(l68.length:Int))=true then (if InB i67 l68.length then (if (((rd l68 i67).Rune==65533)=true->InB i67 l68.length) then (if InB i67 l68.length then ((some (l68.set i67.toNat (zao.mk ((rd l68 i67).Rune) ((rd l68 i67).At) ((rd l68 i67).Size) ((rd l68 i67).Line) ((rd l68 i67).Col) (((rd l68 i67).Rune==65533)&&((rd l68 i67).Size==1))))).bind fun l81 =>
         some (.inl ((IntKind.wrap .i64 (i67+1)),l81))) else none) else none) else none) else (some (.inr l68))
noncomputable def zcb(l52:List zao):Option ((List zao)) :=
 (zaL (za8) (0,l52)).bind fun r76 =>
   some r76
noncomputable def zct(p0:ByteArray):Option ((List zao)) :=
(zaL (zaQ p0) (1,1,0,[])).bind fun r40 =>
 if decide ((r40.length:Int)>0)=true then (if InB (IntKind.wrap .i64 ((r40.length:Int)-1)) r40.length then (if InB (IntKind.wrap .i64 ((r40.length:Int)-1)) r40.length then ((some (r40.set (IntKind.wrap .i64 ((r40.length:Int)-1)).toNat (zao.mk ((rd r40 (IntKind.wrap .i64 ((r40.length:Int)-1))).Rune) ((rd r40 (IntKind.wrap .i64 ((r40.length:Int)-1))).At) (IntKind.wrap .i64 ((p0.size:Int)-(rd r40 (IntKind.wrap .i64 ((r40.length:Int)-1))).At)) ((rd r40 (IntKind.wrap .i64 ((r40.length:Int)-1))).Line) ((rd r40 (IntKind.wrap .i64 ((r40.length:Int)-1))).Col) ((rd r40 (IntKind.wrap .i64 ((r40.length:Int)-1))).Bad)))).bind fun l86 =>
    zcb  l86) else none) else none) else (zcb  r40)
noncomputable def zde:Option ((List ByteArray)) :=
(some ([(⟨#[114,97,120]⟩:ByteArray),(⟨#[114,98,120]⟩:ByteArray),(⟨#[114,99,120]⟩:ByteArray),(⟨#[114,100,120]⟩:ByteArray),(⟨#[114,115,105]⟩:ByteArray),(⟨#[114,100,105]⟩:ByteArray),(⟨#[114,56]⟩:ByteArray),(⟨#[114,57]⟩:ByteArray)])).bind fun l1 =>
 some l1
noncomputable def zdn(p0:(List ByteArray))(p1:ByteArray):Int->Option ((Int) ⊕ ((Unit) ⊕ (Int)))
 | i9 =>
 if decide (i9<(p0.length:Int))=true then (if InB i9 p0.length then (if decide ((rd p0 i9)=p1)=true then (some (.inr (.inr i9))) else (some (.inl (IntKind.wrap .i64 (i9+1))))) else none) else (some (.inr (.inl ())))
noncomputable def zaP(p0:(List ByteArray))(p1:ByteArray):Option (Int) :=
(zaL (zdn p0 p1) 0).bind (zbu (fun er13 =>
 some (-1)) (fun qr13=>some qr13))
noncomputable def zdw:Option ((List ByteArray)) :=
(some ([(⟨#[]⟩:ByteArray),(⟨#[109,111,118]⟩:ByteArray),(⟨#[97,100,100]⟩:ByteArray),(⟨#[115,117,98]⟩:ByteArray),(⟨#[97,110,100]⟩:ByteArray),(⟨#[111,114]⟩:ByteArray),(⟨#[120,111,114]⟩:ByteArray),(⟨#[99,109,112]⟩:ByteArray),(⟨#[120,99,104,103]⟩:ByteArray),(⟨#[99,109,112,120,99,104,103]⟩:ByteArray),(⟨#[106,109,112]⟩:ByteArray),(⟨#[]⟩:ByteArray),(⟨#[109,102,101,110,99,101]⟩:ByteArray),(⟨#[110,111,112]⟩:ByteArray),(⟨#[104,108,116]⟩:ByteArray)])).bind fun l1 =>
 some l1
noncomputable def zcR:Option ((List ByteArray)) :=
(some ([(⟨#[]⟩:ByteArray),(⟨#[106,101]⟩:ByteArray),(⟨#[106,110,101]⟩:ByteArray),(⟨#[106,108]⟩:ByteArray),(⟨#[106,108,101]⟩:ByteArray),(⟨#[106,103]⟩:ByteArray),(⟨#[106,103,101]⟩:ByteArray),(⟨#[106,98]⟩:ByteArray),(⟨#[106,98,101]⟩:ByteArray),(⟨#[106,97]⟩:ByteArray),(⟨#[106,97,101]⟩:ByteArray)])).bind fun l1 =>
 some l1
noncomputable def zcG(p0:ByteArray):Option (Bool) :=
(if ((!decide (p0=(⟨#[]⟩:ByteArray)))&&(!((decide (p0=(⟨#[115,121,109]⟩:ByteArray))||decide (p0=(⟨#[116,104,114,101,97,100]⟩:ByteArray)))||decide (p0=(⟨#[108,111,99,107]⟩:ByteArray)))))=true then zde else some default).bind fun v1 =>
 (if ((!decide (p0=(⟨#[]⟩:ByteArray)))&&(!((decide (p0=(⟨#[115,121,109]⟩:ByteArray))||decide (p0=(⟨#[116,104,114,101,97,100]⟩:ByteArray)))||decide (p0=(⟨#[108,111,99,107]⟩:ByteArray)))))=true then zaP v1 p0 else some default).bind fun v3 =>
 (if ((!decide (p0=(⟨#[]⟩:ByteArray)))&&(!(((decide (p0=(⟨#[115,121,109]⟩:ByteArray))||decide (p0=(⟨#[116,104,114,101,97,100]⟩:ByteArray)))||decide (p0=(⟨#[108,111,99,107]⟩:ByteArray)))||decide (v3≥0))))=true then zdw else some default).bind fun v5 =>
 (if ((!decide (p0=(⟨#[]⟩:ByteArray)))&&(!(((decide (p0=(⟨#[115,121,109]⟩:ByteArray))||decide (p0=(⟨#[116,104,114,101,97,100]⟩:ByteArray)))||decide (p0=(⟨#[108,111,99,107]⟩:ByteArray)))||decide (v3≥0))))=true then zaP v5 p0 else some default).bind fun v7 =>
 (if ((!decide (p0=(⟨#[]⟩:ByteArray)))&&(!((((decide (p0=(⟨#[115,121,109]⟩:ByteArray))||decide (p0=(⟨#[116,104,114,101,97,100]⟩:ByteArray)))||decide (p0=(⟨#[108,111,99,107]⟩:ByteArray)))||decide (v3≥0))||decide (v7>0))))=true then zcR else some default).bind fun v9 =>
 (if ((!decide (p0=(⟨#[]⟩:ByteArray)))&&(!((((decide (p0=(⟨#[115,121,109]⟩:ByteArray))||decide (p0=(⟨#[116,104,114,101,97,100]⟩:ByteArray)))||decide (p0=(⟨#[108,111,99,107]⟩:ByteArray)))||decide (v3≥0))||decide (v7>0))))=true then zaP v9 p0 else some default).bind fun v11 =>
 (some ((!decide (p0=(⟨#[]⟩:ByteArray)))&&(((((decide (p0=(⟨#[115,121,109]⟩:ByteArray))||decide (p0=(⟨#[116,104,114,101,97,100]⟩:ByteArray)))||decide (p0=(⟨#[108,111,99,107]⟩:ByteArray)))||decide (v3≥0))||decide (v7>0))||decide (v11>0)))).bind fun b13 =>
 some b13
noncomputable def zbr(v1:(List zao)):Int->Option ((Int) ⊕ ((Unit) ⊕ (Bool)))
 | i25 =>
 if decide (i25<(v1.length:Int))=true then (if InB i25 v1.length then (if ((!(rd v1 i25).Bad)=true->InB i25 v1.length) then ((if (!(rd v1 i25).Bad)=true then zbz ((rd v1 i25).Rune) else some default).bind fun v39 =>
    if ((((!(rd v1 i25).Bad)&&(!v39))&&(!(i25==0)))=true->InB i25 v1.length) then ((if (((!(rd v1 i25).Bad)&&(!v39))&&(!(i25==0)))=true then zcv ((rd v1 i25).Rune) else some default).bind fun v42 =>
    if ((rd v1 i25).Bad||((!v39)&&((i25==0)||(!v42))))=true then (some (.inr (.inr false))) else (some (.inl (IntKind.wrap .i64 (i25+1))))) else none) else none) else none) else (some (.inr (.inl ())))
noncomputable def zcu(p0:ByteArray):Option (Bool) :=
(zct p0).bind fun v1 =>
 (if (!(decide ((v1.length:Int)<1)||decide ((v1.length:Int)>16)))=true then zcG p0 else some default).bind fun v3 =>
 if ((decide ((v1.length:Int)<1)||decide ((v1.length:Int)>16))||v3)=true then (some false) else ((zaL (zbr v1) 0).bind (zbu (fun er35 =>
  some true) (fun qr35=>some qr35)))
noncomputable def zdp(p0:zae):(Int × Int)->Option ((Int × Int) ⊕ (Int))
 | (i9,i10) =>
 if decide (i10<(p0.Ins.length:Int))=true then (if InB i10 p0.Ins.length then (if ((rd p0.Ins i10).Op != 12)=true then (some (.inl ((IntKind.wrap .i64 (i9+1)),(IntKind.wrap .i64 (i10+1))))) else (some (.inl (i9,(IntKind.wrap .i64 (i10+1)))))) else none) else (some (.inr i9))
noncomputable def zdr(p0:zae):Option (Int) :=
(zaL (zdp p0) (0,0)).bind fun r15 =>
 some r15
noncomputable def zbs(p0:zak):Option (Bool) :=
if (p0.Kind==1)=true then (some (((decide (p0.Reg≥0)&&decide (p0.Reg<=7))&&(p0.Sym==0))&&(p0.N==0))) else (if (p0.Kind==2)=true then (some ((p0.Reg==0)&&(p0.Sym==0))) else (if (p0.Kind==3)=true then (some ((decide (p0.Sym≥0)&&decide (p0.N≥0))&&(p0.Reg==0))) else (if (p0.Kind==4)=true then (some (((decide (p0.Sym≥0)&&decide (p0.Reg≥0))&&decide (p0.Reg<=7))&&(p0.N==0))) else (some false))))
noncomputable def zaR(p0:zak):Option (Bool) :=
some ((p0.Kind==3)||(p0.Kind==4))
noncomputable def zcQ(p0:zak):Option (Bool) :=
some ((p0.Kind==1)||(p0.Kind==2))
noncomputable def zcY(p0:Int):Option (Bool) :=
some (decide (p0≥2)&&decide (p0<=6))
noncomputable def zdv(p0:zad):Option (Bool) :=
if (decide (p0.Op<1)||decide (p0.Op>9))=true then ((some ((((p0.A.Kind==0)&&((p0.A.Reg==0)&&((p0.A.Sym==0)&&(p0.A.N==0))))&&((p0.B.Kind==0)&&((p0.B.Reg==0)&&((p0.B.Sym==0)&&(p0.B.N==0)))))&&(!p0.Lock))).bind fun b2 =>
  some b2) else ((zbs p0.A).bind fun v4 =>
  (if (!(!v4))=true then zbs p0.B else some default).bind fun v6 =>
  if ((!v4)||(!v6))=true then (some false) else (if (p0.Op==8)=true then ((zaR p0.A).bind fun v11 =>
    some ((v11&&(p0.B.Kind==1))&&(!p0.Lock))) else (if (p0.Op==9)=true then ((zaR p0.A).bind fun v14 =>
     some ((v14&&(p0.B.Kind==1))&&p0.Lock)) else (if (p0.A.Kind==1)=true then ((zcQ p0.B).bind fun v17 =>
      (if (!v17)=true then zaR p0.B else some default).bind fun v19 =>
      some ((v17||v19)&&(!p0.Lock))) else ((zaR p0.A).bind fun v21 =>
      (if v21=true then zcQ p0.B else some default).bind fun v23 =>
      (if ((v21&&v23)&&(!(!p0.Lock)))=true then zcY p0.Op else some default).bind fun v25 =>
      some ((v21&&v23)&&((!p0.Lock)||v25)))))))
noncomputable def za1(p0:Int):Option (Bool) :=
some ((p0==10)||(p0==11))
noncomputable def zcc(p0:zad):Option (Int) :=
(if (!(decide (p0.Op<1)||decide (p0.Op>14)))=true then zdv p0 else some default).bind fun v1 =>
 (if (!((decide (p0.Op<1)||decide (p0.Op>14))||(!v1)))=true then za1 p0.Op else some default).bind fun v3 =>
 (some (((decide (p0.Op<1)||decide (p0.Op>14))||(!v1))||((!v3)&&(!decide (p0.To=(⟨#[]⟩:ByteArray)))))).bind fun b5 =>
 if b5=true then (some 4) else ((some (((p0.Op==11)&&(decide (p0.Cond<1)||decide (p0.Cond>10)))||((p0.Op != 11)&&(p0.Cond != 0)))).bind fun b8 =>
  if b8=true then (some 4) else ((za1 p0.Op).bind fun v11 =>
   (if v11=true then zcu p0.To else some default).bind fun v13 =>
   if (v11&&(!v13))=true then (some 3) else (some 0)))
noncomputable def zcm(p0:zaf)(p1:zak):Option (Int) :=
(zaR p1).bind fun v1 =>
 if (!v1)=true then (some 0) else (if decide (p1.Sym≥(p0.zSy.length:Int))=true then (some 7) else (if ((p1.Kind==3)=true->InB p1.Sym p0.zSy.length) then (if ((p1.Kind==3)&&decide (p1.N≥(rd p0.zSy p1.Sym).Size))=true then (some 8) else (some 0)) else none))
noncomputable def zcr(p0:zae)(p1:ByteArray):Int->Option ((Int) ⊕ ((Unit) ⊕ (Int)))
 | i12 =>
 if decide (i12<(p0.Ins.length:Int))=true then (if InB i12 p0.Ins.length then ((zaP ((rd p0.Ins i12).zLb) p1).bind fun v21 =>
   if decide (v21≥0)=true then (some (.inr (.inr i12))) else (some (.inl (IntKind.wrap .i64 (i12+1))))) else none) else (some (.inr (.inl ())))
noncomputable def zdg(p0:zae)(p1:ByteArray):Option (Int) :=
(zaL (zcr p0 p1) 0).bind (zbu (fun er18 =>
 some (-1)) (fun qr18=>some qr18))
noncomputable def zbj(p1:zae)(i125:Int):(Int × (List ByteArray))->Option ((Int × (List ByteArray)) ⊕ (((List ByteArray)) ⊕ (Int)))
 | (i219,l220) =>
 if decide (i219<(((rd p1.Ins i125).zLb).length:Int))=true then (if InB i219 ((rd p1.Ins i125).zLb).length then ((zcu (rd ((rd p1.Ins i125).zLb) i219)).bind fun v240 =>
           if (!v240)=true then (some (.inr (.inr 3))) else (if InB i219 ((rd p1.Ins i125).zLb).length then ((zaP l220 (rd ((rd p1.Ins i125).zLb) i219)).bind fun v244 =>
       if decide (v244≥0)=true then (some (.inr (.inr 6))) else (if InB i219 ((rd p1.Ins i125).zLb).length then (if Fits (l220.length+1) then ((some (l220++([(rd ((rd p1.Ins i125).zLb) i219)]))).bind fun l249 =>
        some (.inl ((IntKind.wrap .i64 (i219+1)),l249))) else none) else none)) else none)) else none) else (some (.inr (.inl l220)))
noncomputable def zbk(p1:zae)(p0:zaf):(Int × (List ByteArray))->Option ((Int × (List ByteArray)) ⊕ ((Unit) ⊕ (Int)))
 | (i125,l126) =>
 if decide (i125<(p1.Ins.length:Int))=true then (if InB i125 p1.Ins.length then ((zaL (zbj p1 i125) (0,l126)).bind (zbu (fun er237 =>
    (zcc (rd p1.Ins i125)).bind fun v251 =>
      if (v251 != 0)=true then (some (.inr (.inr v251))) else ((zcm p0 ((rd p1.Ins i125).A)).bind fun v254 =>
       if (v254 != 0)=true then (some (.inr (.inr v254))) else ((zcm p0 ((rd p1.Ins i125).B)).bind fun v257 =>
        if (v257 != 0)=true then (some (.inr (.inr v257))) else (some (.inl ((IntKind.wrap .i64 (i125+1)),er237)))))) (fun qr237=>some (.inr (.inr qr237))))) else none) else (some (.inr (.inl ())))
noncomputable def zbi(p1:zae):Int->Option ((Int) ⊕ ((Unit) ⊕ (Int)))
 | i282 =>
 if decide (i282<(p1.Ins.length:Int))=true then (if InB i282 p1.Ins.length then ((za1 ((rd p1.Ins i282).Op)).bind fun v294 =>
               if (v294=true->InB i282 p1.Ins.length) then ((if v294=true then zdg p1 ((rd p1.Ins i282).To) else some default).bind fun v297 =>
               if (v294&&decide (v297<0))=true then (some (.inr (.inr 7))) else (some (.inl (IntKind.wrap .i64 (i282+1))))) else none) else none) else (some (.inr (.inl ())))
noncomputable def zdb(p0:zaf)(p1:zae):Option (Int) :=
(zdr p1).bind fun v1 =>
 if decide (v1>4096)=true then (some 10) else ((zaL (zbk p1 p0) (0,[])).bind (zbu (fun er187 =>
  if ((p1.Ins.length:Int)==0)=true then (some 9) else (if InB (IntKind.wrap .i64 ((p1.Ins.length:Int)-1)) p1.Ins.length then ((some ((rd p1.Ins (IntKind.wrap .i64 ((p1.Ins.length:Int)-1))).Op)).bind fun n262 =>
     if ((n262 != 10)&&(n262 != 14))=true then (some 9) else ((zaL (zbi p1) 0).bind (zbu (fun er291 =>
      some 0) (fun qr291=>some qr291)))) else none)) (fun qr187=>some qr187)))
noncomputable def zbt(i33:Int)(p0:zaf):Int->Option ((Int) ⊕ ((Unit) ⊕ (Int)))
 | i67 =>
 if decide (i67<i33)=true then (if InB i67 p0.zSy.length then (if decide ((rd p0.zSy i67).Name=(rd p0.zSy i33).Name)=true then (some (.inr (.inr 6))) else (some (.inl (IntKind.wrap .i64 (i67+1))))) else none) else (some (.inr (.inl ())))
noncomputable def zbb(p0:zaf):Int->Option ((Int) ⊕ ((Unit) ⊕ (Int)))
 | i33 =>
 if decide (i33<(p0.zSy.length:Int))=true then (if InB i33 p0.zSy.length then ((zcu ((rd p0.zSy i33).Name)).bind fun v57 =>
    if (!v57)=true then (some (.inr (.inr 3))) else ((zaL (zbt i33 p0) 0).bind (zbu (fun er71 =>
     (some ((decide ((rd p0.zSy i33).Size<1)||decide ((rd p0.zSy i33).Size>64))||decide ((((rd p0.zSy i33).Init).length:Int)>(rd p0.zSy i33).Size))).bind fun b75 =>
       if b75=true then (some (.inr (.inr 5))) else (some (.inl (IntKind.wrap .i64 (i33+1))))) (fun qr71=>some (.inr (.inr qr71)))))) else none) else (some (.inr (.inl ())))
noncomputable def zcd(p0:zaf):Int->Option ((Int) ⊕ ((Unit) ⊕ (Int)))
 | i89 =>
 if decide (i89<(p0.zTh.length:Int))=true then (if InB i89 p0.zTh.length then ((zdb p0 (rd p0.zTh i89)).bind fun v98 =>
           if (v98 != 0)=true then (some (.inr (.inr v98))) else (some (.inl (IntKind.wrap .i64 (i89+1))))) else none) else (some (.inr (.inl ())))
noncomputable def zcS(p0:zaf):Option (Int) :=
if (decide ((p0.zSy.length:Int)>64)||decide ((p0.zTh.length:Int)>64))=true then (some 10) else ((zaL (zbb p0) 0).bind (zbu (fun er54 =>
  (zaL (zcd p0) 0).bind (zbu (fun er95 =>
    some 0) (fun qr95=>some qr95))) (fun qr54=>some qr54)))
noncomputable def zbo(p0:zaf):(Int × (List ByteArray))->Option ((Int × (List ByteArray)) ⊕ ((List ByteArray)))
 | (i14,l15) =>
 if decide (i14<(p0.zSy.length:Int))=true then (if InB i14 p0.zSy.length then (if Fits (l15.length+1) then ((some (l15++([(rd p0.zSy i14).Name]))).bind fun l28 =>
   some (.inl ((IntKind.wrap .i64 (i14+1)),l28))) else none) else none) else (some (.inr l15))
noncomputable def zcH(p0:zaf):Option ((List ByteArray)) :=
(zaL (zbo p0) (0,[])).bind fun r24 =>
 some r24
noncomputable def zdf(p0:Int)(p1:Int):Option (ByteArray) :=
if (((p0==11)&&decide (p1≥1))&&decide (p1<=10))=true then ((zcR).bind fun v2 =>
  if InB p1 v2.length then (some (rd v2 p1)) else none) else (if ((decide (p0≥1)&&decide (p0<=14))&&(p1==0))=true then ((zdw).bind fun v6 =>
   if InB p0 v6.length then (some (rd v6 p0)) else none) else (some (⟨#[]⟩:ByteArray)))
noncomputable def zcp(p0:Int):Option (ByteArray) :=
if (decide (p0<0)||decide (p0>7))=true then (some (⟨#[]⟩:ByteArray)) else ((zde).bind fun v2 =>
  if InB p0 v2.length then (some (rd v2 p0)) else none)
noncomputable def zcq(p0:zak)(p1:(List ByteArray)):Option (ByteArray) :=
(zbs p0).bind fun v1 =>
 if (!v1)=true then (some (⟨#[]⟩:ByteArray)) else (if (p0.Kind==1)=true then ((zcp p0.Reg).bind fun v5 =>
   some v5) else (if (p0.Kind==2)=true then ((zcl p0.N).bind fun v8 =>
    some v8) else (if decide (p0.Sym≥(p1.length:Int))=true then (some (⟨#[]⟩:ByteArray)) else (if (p0.Kind==3)=true then (if InB p0.Sym p1.length then (if zbm (rd p1 p0.Sym) (⟨#[91]⟩:ByteArray) then ((zcl p0.N).bind fun v14 =>
      if zbm ((rd p1 p0.Sym)++(⟨#[91]⟩:ByteArray)) v14 then (if zbm (((rd p1 p0.Sym)++(⟨#[91]⟩:ByteArray))++v14) (⟨#[93]⟩:ByteArray) then ((some ((((rd p1 p0.Sym)++(⟨#[91]⟩:ByteArray))++v14)++(⟨#[93]⟩:ByteArray))).bind fun s18 =>
      some s18) else none) else none) else none) else none) else (if InB p0.Sym p1.length then (if zbm (rd p1 p0.Sym) (⟨#[91]⟩:ByteArray) then ((zcp p0.Reg).bind fun v22 =>
      if zbm ((rd p1 p0.Sym)++(⟨#[91]⟩:ByteArray)) v22 then (if zbm (((rd p1 p0.Sym)++(⟨#[91]⟩:ByteArray))++v22) (⟨#[93]⟩:ByteArray) then ((some ((((rd p1 p0.Sym)++(⟨#[91]⟩:ByteArray))++v22)++(⟨#[93]⟩:ByteArray))).bind fun s26 =>
      some s26) else none) else none) else none) else none)))))
noncomputable def zby(p0:zad)(p1:(List ByteArray))(s4:ByteArray):Option (ByteArray) :=
 (zdf p0.Op p0.Cond).bind fun v5 =>
   if zbm s4 v5 then ((za1 p0.Op).bind fun v8 =>
   if v8=true then (if zbm (s4++v5) (⟨#[32]⟩:ByteArray) then (if zbm ((s4++v5)++(⟨#[32]⟩:ByteArray)) p0.To then (some (((s4++v5)++(⟨#[32]⟩:ByteArray))++p0.To)) else none) else none) else (if decide (p0.Op>9)=true then (some (s4++v5)) else ((zaR p0.A).bind fun v14 =>
     (if (!(v14&&decide (p0.A.Sym≥(p1.length:Int))))=true then zaR p0.B else some default).bind fun v16 =>
     (some ((v14&&decide (p0.A.Sym≥(p1.length:Int)))||(v16&&decide (p0.B.Sym≥(p1.length:Int))))).bind fun b18 =>
     if b18=true then (some (⟨#[]⟩:ByteArray)) else (if zbm (s4++v5) (⟨#[32]⟩:ByteArray) then ((zcq p0.A p1).bind fun v26 =>
      if zbm ((s4++v5)++(⟨#[32]⟩:ByteArray)) v26 then (if zbm (((s4++v5)++(⟨#[32]⟩:ByteArray))++v26) (⟨#[44,32]⟩:ByteArray) then ((zcq p0.B p1).bind fun v30 =>
      if zbm ((((s4++v5)++(⟨#[32]⟩:ByteArray))++v26)++(⟨#[44,32]⟩:ByteArray)) v30 then ((some (((((s4++v5)++(⟨#[32]⟩:ByteArray))++v26)++(⟨#[44,32]⟩:ByteArray))++v30)).bind fun s33 =>
      some s33) else none) else none) else none) else none)))) else none
noncomputable def zcW(p0:zad)(p1:(List ByteArray)):Option (ByteArray) :=
(zcc p0).bind fun v1 =>
 if (v1 != 0)=true then (some (⟨#[]⟩:ByteArray)) else (if p0.Lock=true then (zby p0 p1 (⟨#[108,111,99,107,32]⟩:ByteArray)) else (zby p0 p1 (⟨#[]⟩:ByteArray)))
noncomputable def zbQ(i91:Int)(p0:zaf):(ByteArray × Int)->Option ((ByteArray × Int) ⊕ (ByteArray))
 | (s165,i166) =>
 if InB i91 p0.zSy.length then (if decide (i166<(((rd p0.zSy i91).Init).length:Int))=true then (if InB i91 p0.zSy.length then (if InB i166 ((rd p0.zSy i91).Init).length then ((zcl (rd ((rd p0.zSy i91).Init) i166)).bind fun v181 =>
           if zbm (⟨#[32]⟩:ByteArray) v181 then (if zbm s165 ((⟨#[32]⟩:ByteArray)++v181) then (some (.inl ((s165++((⟨#[32]⟩:ByteArray)++v181)),(IntKind.wrap .i64 (i166+1))))) else none) else none) else none) else none) else (some (.inr s165))) else none
noncomputable def zbR(p0:zaf):(ByteArray × Int)->Option ((ByteArray × Int) ⊕ (ByteArray))
 | (s90,i91) =>
 if decide (i91<(p0.zSy.length:Int))=true then (if InB i91 p0.zSy.length then (if zbm (⟨#[115,121,109,32]⟩:ByteArray) ((rd p0.zSy i91).Name) then (if zbm ((⟨#[115,121,109,32]⟩:ByteArray)++((rd p0.zSy i91).Name)) (⟨#[32]⟩:ByteArray) then (if InB i91 p0.zSy.length then ((zcl ((rd p0.zSy i91).Size)).bind fun v141 =>
    if zbm (((⟨#[115,121,109,32]⟩:ByteArray)++((rd p0.zSy i91).Name))++(⟨#[32]⟩:ByteArray)) v141 then (if zbm s90 ((((⟨#[115,121,109,32]⟩:ByteArray)++((rd p0.zSy i91).Name))++(⟨#[32]⟩:ByteArray))++v141) then ((some (s90++((((⟨#[115,121,109,32]⟩:ByteArray)++((rd p0.zSy i91).Name))++(⟨#[32]⟩:ByteArray))++v141))).bind fun s145 =>
    (zaL (zbQ i91 p0) (s145,0)).bind fun r176 =>
    if zbm r176 (⟨#[10]⟩:ByteArray) then (some (.inl ((r176++(⟨#[10]⟩:ByteArray)),(IntKind.wrap .i64 (i91+1))))) else none) else none) else none) else none) else none) else none) else none) else (some (.inr s90))
noncomputable def zbO(l610:List ByteArray):(ByteArray × Int)->Option ((ByteArray × Int) ⊕ (ByteArray))
 | (s622,i623) =>
 if decide (i623<(l610.length:Int))=true then (if InB i623 l610.length then (if zbm (rd l610 i623) (⟨#[58,10]⟩:ByteArray) then (if zbm s622 ((rd l610 i623)++(⟨#[58,10]⟩:ByteArray)) then (some (.inl ((s622++((rd l610 i623)++(⟨#[58,10]⟩:ByteArray))),(IntKind.wrap .i64 (i623+1))))) else none) else none) else none) else (some (.inr s622))
noncomputable def zbP(i397:Int)(p0:zaf)(v186:(List ByteArray)):(ByteArray × Int)->Option ((ByteArray × Int) ⊕ (ByteArray))
 | (s571,i572) =>
 if InB i397 p0.zTh.length then (if decide (i572<(((rd p0.zTh i397).Ins).length:Int))=true then (if InB i397 p0.zTh.length then (if InB i572 ((rd p0.zTh i397).Ins).length then ((some ((rd ((rd p0.zTh i397).Ins) i572).zLb)).bind fun l610 =>
             (zaL (zbO l610) (s571,0)).bind fun r629 =>
             (zcW (zad.mk ((rd ((rd p0.zTh i397).Ins) i572).Op) ((rd ((rd p0.zTh i397).Ins) i572).Lock) ((rd ((rd p0.zTh i397).Ins) i572).Cond) ((rd ((rd p0.zTh i397).Ins) i572).A) ((rd ((rd p0.zTh i397).Ins) i572).B) ((rd ((rd p0.zTh i397).Ins) i572).To) l610) v186).bind fun v634 =>
        if zbm (⟨#[9]⟩:ByteArray) v634 then (if zbm ((⟨#[9]⟩:ByteArray)++v634) (⟨#[10]⟩:ByteArray) then (if zbm r629 (((⟨#[9]⟩:ByteArray)++v634)++(⟨#[10]⟩:ByteArray)) then ((some (r629++(((⟨#[9]⟩:ByteArray)++v634)++(⟨#[10]⟩:ByteArray)))).bind fun s639 =>
        some (.inl (s639,(IntKind.wrap .i64 (i572+1))))) else none) else none) else none) else none) else none) else (some (.inr s571))) else none
noncomputable def zco(p0:zaf)(v186:(List ByteArray)):(ByteArray × Int)->Option ((ByteArray × Int) ⊕ (ByteArray))
 | (s396,i397) =>
 if decide (i397<(p0.zTh.length:Int))=true then (if zbm s396 (⟨#[116,104,114,101,97,100,10]⟩:ByteArray) then ((zaL (zbP i397 p0 v186) ((s396++(⟨#[116,104,114,101,97,100,10]⟩:ByteArray)),0)).bind fun r605 =>
         some (.inl (r605,(IntKind.wrap .i64 (i397+1))))) else none) else (some (.inr s396))
noncomputable def zdd(p0:zaf):Option (ByteArray) :=
(zcS p0).bind fun v1 =>
 if (v1 != 0)=true then (some (⟨#[]⟩:ByteArray)) else ((zaL (zbR p0) ((⟨#[]⟩:ByteArray),0)).bind fun r135 =>
  (zcH p0).bind fun v186 =>
   (zaL (zco p0 v186) (r135,0)).bind fun r502 =>
   some r502)
end Go.Vs
