import Derived.Test.YtgdchoahbiagbaaDoorPalTo
import Derived.Test.YtgdchoahbiagbaaDoorPalT
import Derived.Test.YtgdchoahbiagbaaDoorPalA
import Derived.Test.YtgdchoahbiagbaaDoorPalUtf
set_option linter.unusedVariables false
set_option linter.unusedSectionVars false
namespace Go.Vs
noncomputable def palingbook_GreatIns_s1(p0:T_api_Ins):Int → Option ((Int) ⊕ ((Unit) ⊕ (Bool)))
  | i9 =>
  if decide (i9<(p0.Labels.length:Int))=true then (if InB i9 p0.Labels.length then (if decide (((rd p0.Labels i9).size:Int)>60)=true then (some (.inr (.inr true))) else (some (.inl (IntKind.wrap .i64 (i9+1))))) else none) else (some (.inr (.inl ())))

noncomputable def palingbook_GreatIns(p0:T_api_Ins):Option (Bool) :=
if (decide ((p0.Labels.length:Int)>6)||decide ((p0.To.size:Int)>60))=true then (some true) else ((loopO (palingbook_GreatIns_s1 p0) 0).bind (onSum (fun er13 =>
    some false) (fun qr13=>some qr13)))
noncomputable def palingbook_GreatThread_s1(p0:T_api_Thread):Int → Option ((Int) ⊕ ((Unit) ⊕ (Bool)))
  | i13 =>
  if decide (i13<(p0.Ins.length:Int))=true then (if InB i13 p0.Ins.length then ((palingbook_GreatIns (rd p0.Ins i13)).bind fun v22 =>
        if v22=true then (some (.inr (.inr true))) else (some (.inl (IntKind.wrap .i64 (i13+1))))) else none) else (some (.inr (.inl ())))

noncomputable def palingbook_GreatThread(p0:T_api_Thread):Option (Bool) :=
if decide ((p0.Ins.length:Int)>12)=true then (some true) else ((loopO (palingbook_GreatThread_s1 p0) 0).bind (onSum (fun er19 =>
    some false) (fun qr19=>some qr19)))
noncomputable def palingbook_Great_s1(p0:T_api_Prog):Int → Option ((Int) ⊕ ((Unit) ⊕ (Bool)))
  | i17 =>
  if decide (i17<(p0.Syms.length:Int))=true then (if InB i17 p0.Syms.length then (if ((!decide ((((rd p0.Syms i17).Name).size:Int)>60))=true → InB i17 p0.Syms.length) then ((some (decide ((((rd p0.Syms i17).Name).size:Int)>60)||decide ((((rd p0.Syms i17).Init).length:Int)>66))).bind fun b28 =>
        if b28=true then (some (.inr (.inr true))) else (some (.inl (IntKind.wrap .i64 (i17+1))))) else none) else none) else (some (.inr (.inl ())))

noncomputable def palingbook_Great_s2(p0:T_api_Prog):Int → Option ((Int) ⊕ ((Unit) ⊕ (Bool)))
  | i42 =>
  if decide (i42<(p0.Threads.length:Int))=true then (if InB i42 p0.Threads.length then ((palingbook_GreatThread (rd p0.Threads i42)).bind fun v51 =>
            if v51=true then (some (.inr (.inr true))) else (some (.inl (IntKind.wrap .i64 (i42+1))))) else none) else (some (.inr (.inl ())))

noncomputable def palingbook_Great(p0:T_api_Prog):Option (Bool) :=
if (decide ((p0.Syms.length:Int)>66)||decide ((p0.Threads.length:Int)>66))=true then (some true) else ((loopO (palingbook_Great_s1 p0) 0).bind (onSum (fun er24 =>
    (loopO (palingbook_Great_s2 p0) 0).bind (onSum (fun er48 =>
        some false) (fun qr48=>some qr48))) (fun qr24=>some qr24)))
noncomputable def glyph_Spots_j1(l38:List T_glyph_Spot)(p0:ByteArray)(n37:Nat)(i35:Int)(i36:Int)(i58:Int)(b59:Bool):Option ((Int × Int × Nat × (List T_glyph_Spot)) ⊕ ((List T_glyph_Spot))) :=
  if Fits (l38.length+1) then ((some (l38++([(T_glyph_Spot.mk ((Utf8.decode p0 n37).1:Int) (n37:Int) i58 i35 i36 b59)]))).bind fun l61 =>
        (glyph_step i35 i36 ((Utf8.decode p0 n37).1:Int)).bind fun v63 =>
        some (.inl (v63.1,v63.2,(n37+(Utf8.decode p0 n37).2),l61))) else none

noncomputable def glyph_Spots_s1(p0:ByteArray):(Int × Int × Nat × (List T_glyph_Spot)) → Option ((Int × Int × Nat × (List T_glyph_Spot)) ⊕ ((List T_glyph_Spot)))
  | (i35,i36,n37,l38) =>
  if n37<p0.size then (if (((Utf8.decode p0 n37).1:Int)==65533)=true then (if Bnd (n37:Int) p0.size then ((unicode_utf8_DecodeRuneInString (p0.extract ((n37:Int).toNat) p0.size)).bind fun v67 =>
          glyph_Spots_j1 l38 p0 n37 i35 i36 v67.2 (v67.2==1)) else none) else ((unicode_utf8_RuneLen ((Utf8.decode p0 n37).1:Int)).bind fun v69 =>
          glyph_Spots_j1 l38 p0 n37 i35 i36 v69 false)) else (some (.inr l38))

noncomputable def glyph_Spots(p0:ByteArray):Option ((List T_glyph_Spot)) :=
(loopO (glyph_Spots_s1 p0) (1,1,0,[])).bind fun r56 =>
  some r56
noncomputable def names_regs:Option ((List ByteArray)) :=
(some ([(⟨#[114,97,120]⟩:ByteArray),(⟨#[114,98,120]⟩:ByteArray),(⟨#[114,99,120]⟩:ByteArray),(⟨#[114,100,120]⟩:ByteArray),(⟨#[114,115,105]⟩:ByteArray),(⟨#[114,100,105]⟩:ByteArray),(⟨#[114,56]⟩:ByteArray),(⟨#[114,57]⟩:ByteArray)])).bind fun l1 =>
  some l1
noncomputable def names_Reg_s1(v1:(List ByteArray))(p0:ByteArray):Int → Option ((Int) ⊕ ((Unit) ⊕ (Int × Bool)))
  | i10 =>
  if decide (i10<(v1.length:Int))=true then (if InB i10 v1.length then (if decide ((rd v1 i10)=p0)=true then (some (.inr (.inr (i10,true)))) else (some (.inl (IntKind.wrap .i64 (i10+1))))) else none) else (some (.inr (.inl ())))

noncomputable def names_Reg(p0:ByteArray):Option (Int × Bool) :=
(names_regs).bind fun v1 =>
  (loopO (names_Reg_s1 v1 p0) 0).bind (onSum (fun er14 =>
  some (0,false)) (fun qr14=>some qr14))
noncomputable def names_ops:Option ((List ByteArray)) :=
(some ([(⟨#[109,111,118]⟩:ByteArray),(⟨#[97,100,100]⟩:ByteArray),(⟨#[115,117,98]⟩:ByteArray),(⟨#[97,110,100]⟩:ByteArray),(⟨#[111,114]⟩:ByteArray),(⟨#[120,111,114]⟩:ByteArray),(⟨#[99,109,112]⟩:ByteArray),(⟨#[120,99,104,103]⟩:ByteArray),(⟨#[99,109,112,120,99,104,103]⟩:ByteArray),(⟨#[106,109,112]⟩:ByteArray),(⟨#[]⟩:ByteArray),(⟨#[109,102,101,110,99,101]⟩:ByteArray),(⟨#[110,111,112]⟩:ByteArray),(⟨#[104,108,116]⟩:ByteArray)])).bind fun l1 =>
  some l1
noncomputable def names_jumps:Option ((List ByteArray)) :=
(some ([(⟨#[106,101]⟩:ByteArray),(⟨#[106,110,101]⟩:ByteArray),(⟨#[106,108]⟩:ByteArray),(⟨#[106,108,101]⟩:ByteArray),(⟨#[106,103]⟩:ByteArray),(⟨#[106,103,101]⟩:ByteArray),(⟨#[106,98]⟩:ByteArray),(⟨#[106,98,101]⟩:ByteArray),(⟨#[106,97]⟩:ByteArray),(⟨#[106,97,101]⟩:ByteArray)])).bind fun l1 =>
  some l1
noncomputable def names_Op_s1(v2:(List ByteArray))(p0:ByteArray):Int → Option ((Int) ⊕ ((Unit) ⊕ (Int × Int × Bool)))
  | i11 =>
  if decide (i11<(v2.length:Int))=true then (if InB i11 v2.length then (if decide ((rd v2 i11)=p0)=true then (some (.inr (.inr ((IntKind.wrap .i64 (i11+1)),0,true)))) else (some (.inl (IntKind.wrap .i64 (i11+1))))) else none) else (some (.inr (.inl ())))

noncomputable def names_Op_s2(v19:(List ByteArray))(p0:ByteArray):Int → Option ((Int) ⊕ ((Unit) ⊕ (Int × Int × Bool)))
  | i28 =>
  if decide (i28<(v19.length:Int))=true then (if InB i28 v19.length then (if decide ((rd v19 i28)=p0)=true then (some (.inr (.inr (11,(IntKind.wrap .i64 (i28+1)),true)))) else (some (.inl (IntKind.wrap .i64 (i28+1))))) else none) else (some (.inr (.inl ())))

noncomputable def names_Op(p0:ByteArray):Option (Int × Int × Bool) :=
if decide (p0=(⟨#[]⟩:ByteArray))=true then (some (0,0,false)) else ((names_ops).bind fun v2 =>
    (loopO (names_Op_s1 v2 p0) 0).bind (onSum (fun er15 =>
    (names_jumps).bind fun v19 =>
        (loopO (names_Op_s2 v19 p0) 0).bind (onSum (fun er32 =>
        some (0,0,false)) (fun qr32=>some qr32))) (fun qr15=>some qr15)))
noncomputable def names_Word(p0:ByteArray):Option (Bool) :=
(some ((decide (p0=(⟨#[115,121,109]⟩:ByteArray))||decide (p0=(⟨#[116,104,114,101,97,100]⟩:ByteArray)))||decide (p0=(⟨#[108,111,99,107]⟩:ByteArray)))).bind fun b1 =>
  if b1=true then (some true) else ((names_Reg p0).bind fun v4 =>
    if v4.2=true then (some true) else ((names_Op p0).bind fun v7 =>
      some v7.2.2))
noncomputable def names_Right_s1(v1:(List T_glyph_Spot)):(Int × Int) → Option ((Int × Int) ⊕ ((Int) ⊕ (Bool)))
  | (i19,i20) =>
  if decide (i20<(v1.length:Int))=true then (if InB i20 v1.length then ((if (!(rd v1 i20).Bad)=true then glyph_Letter ((rd v1 i20).Rune) else some default).bind fun v32 =>
      (if (((!(rd v1 i20).Bad)&&(!v32))&&(!(i19==0)))=true then glyph_Digit ((rd v1 i20).Rune) else some default).bind fun v34 =>
      if ((rd v1 i20).Bad||((!v32)&&((i19==0)||(!v34))))=true then (some (.inr (.inr false))) else (some (.inl ((IntKind.wrap .i64 (i19+1)),(IntKind.wrap .i64 (i20+1)))))) else none) else (some (.inr (.inl i19)))

noncomputable def names_Right(p0:ByteArray):Option (Bool) :=
(glyph_Spots p0).bind fun v1 =>
  (loopO (names_Right_s1 v1) (0,0)).bind (onSum (fun er29 =>
  (if (decide (er29≥1)&&decide (er29 ≤ 16))=true then names_Word p0 else some default).bind fun v37 =>
      some ((decide (er29≥1)&&decide (er29 ≤ 16))&&(!v37))) (fun qr29=>some qr29))
noncomputable def valid_Count_s1(p0:T_api_Thread):(Int × Int) → Option ((Int × Int) ⊕ (Int))
  | (i9,i10) =>
  if decide (i10<(p0.Ins.length:Int))=true then (if InB i10 p0.Ins.length then (if ((rd p0.Ins i10).Op != 12)=true then (some (.inl ((IntKind.wrap .i64 (i9+1)),(IntKind.wrap .i64 (i10+1))))) else (some (.inl (i9,(IntKind.wrap .i64 (i10+1)))))) else none) else (some (.inr i9))

noncomputable def valid_Count(p0:T_api_Thread):Option (Int) :=
(loopO (valid_Count_s1 p0) (0,0)).bind fun r15 =>
  some r15
noncomputable def opnd_register(p0:Int):Option (Bool) :=
some (decide (p0≥0)&&decide (p0 ≤ 7))
noncomputable def opnd_Right(p0:T_api_Opd):Option (Bool) :=
if (p0.Kind==1)=true then ((opnd_register p0.Reg).bind fun v2 =>
    some ((v2&&(p0.Sym==0))&&(p0.N==0))) else (if (p0.Kind==2)=true then (some ((p0.Reg==0)&&(p0.Sym==0))) else (if (p0.Kind==3)=true then (some ((decide (p0.Sym≥0)&&decide (p0.N≥0))&&(p0.Reg==0))) else (if (p0.Kind==4)=true then ((if decide (p0.Sym≥0)=true then opnd_register p0.Reg else some default).bind fun v7 =>
          some ((decide (p0.Sym≥0)&&v7)&&(p0.N==0))) else (some false))))
noncomputable def opnd_Of(p0:T_api_Opd):Option (I_opnd_Part × Bool) :=
(opnd_Right p0).bind fun v1 =>
  if (!v1)=true then (some (I_opnd_Part.nil,false)) else (if (p0.Kind==1)=true then (some ((I_opnd_Part.RegPart (T_opnd_RegPart.mk p0.Reg)),true)) else (if (p0.Kind==2)=true then (some ((I_opnd_Part.NumPart (T_opnd_NumPart.mk p0.N)),true)) else (if (p0.Kind==3)=true then (some ((I_opnd_Part.AtPart (T_opnd_AtPart.mk p0.Sym p0.N)),true)) else (some ((I_opnd_Part.ByPart (T_opnd_ByPart.mk p0.Sym p0.Reg)),true)))))
noncomputable def ins_register(p0:T_api_Opd):Option (Bool) :=
(opnd_Of p0).bind fun v1 =>
  if (!v1.2)=true then (some false) else ((some v1.1).bind fun z4 =>
    (match z4 with | .nil=>(some false) | .RegPart x6=>(some true) | .NumPart x7=>(some false) | .AtPart x8=>(some false) | .ByPart x9=>(some false)))
noncomputable def opnd_Memory(p0:I_opnd_Part):Option (Int × Bool) :=
(match p0 with | .nil=>(some (0,false)) | .RegPart x1=>(some (0,false)) | .NumPart x2=>(some (0,false)) | .AtPart x3=>(some (x3.Sym,true)) | .ByPart x4=>(some (x4.Sym,true)))
noncomputable def ins_memory(p0:T_api_Opd):Option (Bool) :=
(opnd_Of p0).bind fun v1 =>
  if (!v1.2)=true then (some false) else ((opnd_Memory v1.1).bind fun v4 =>
    some v4.2)
noncomputable def ins_plain(p0:T_api_Opd):Option (Bool) :=
(opnd_Right p0).bind fun v1 =>
  (if v1=true then ins_memory p0 else some default).bind fun v3 =>
  some (v1&&(!v3))
noncomputable def ins_reckons(p0:Int):Option (Bool) :=
some (decide (p0≥2)&&decide (p0 ≤ 6))
noncomputable def ins_fits_j1(p0:T_api_Ins):Option (Bool) :=
  (ins_register p0.A).bind fun v1 =>
    (if v1=true then ins_plain p0.B else some default).bind fun v3 =>
    (if (v1&&(!v3))=true then ins_memory p0.B else some default).bind fun v5 =>
    (if (!(v1&&(v3||v5)))=true then ins_memory p0.A else some default).bind fun v7 =>
    (if ((!(v1&&(v3||v5)))&&v7)=true then ins_plain p0.B else some default).bind fun v9 =>
    if ((p0.Op==1)||(p0.Op==7))=true then (some (((v1&&(v3||v5))||(v7&&v9))&&(!p0.Lock))) else ((ins_reckons p0.Op).bind fun v17 =>
      if v17=true then ((if (((v1&&(v3||v5))||(v7&&v9))&&(!(!p0.Lock)))=true then ins_memory p0.A else some default).bind fun v20 =>
        some (((v1&&(v3||v5))||(v7&&v9))&&((!p0.Lock)||v20))) else (if ((p0.Op==8)||(p0.Op==9))=true then ((ins_memory p0.A).bind fun v23 =>
          (if v23=true then ins_register p0.B else some default).bind fun v25 =>
          some ((v23&&v25)&&(p0.Lock==(p0.Op==9)))) else (if (decide (p0.Op≥10)&&decide (p0.Op ≤ 14))=true then ((some (((!p0.Lock)&&((p0.A.Kind==0)&&((p0.A.Reg==0)&&((p0.A.Sym==0)&&(p0.A.N==0)))))&&((p0.B.Kind==0)&&((p0.B.Reg==0)&&((p0.B.Sym==0)&&(p0.B.N==0)))))).bind fun b28 =>
            some b28) else (some false))))

noncomputable def ins_fits(p0:T_api_Ins):Option (Bool) :=
if (p0.Op==11)=true then (if (decide (p0.Cond<1)||decide (p0.Cond>10))=true then (some false) else (ins_fits_j1 p0)) else (if (p0.Cond != 0)=true then (some false) else (ins_fits_j1 p0))
noncomputable def ins_Right(p0:T_api_Ins):Option (Int) :=
(ins_fits p0).bind fun v1 =>
  (some ((!v1)||((!((p0.Op==10)||(p0.Op==11)))&&(!decide (p0.To=(⟨#[]⟩:ByteArray)))))).bind fun b3 =>
  if b3=true then (some 4) else ((if ((p0.Op==10)||(p0.Op==11))=true then names_Right p0.To else some default).bind fun v6 =>
    if (((p0.Op==10)||(p0.Op==11))&&(!v6))=true then (some 3) else (some 0))
noncomputable def valid_place(p0:T_api_Prog)(p1:T_api_Opd):Option (Int) :=
if ((p1.Kind != 3)&&(p1.Kind != 4))=true then (some 0) else (if (decide (p1.Sym<0)||decide (p1.Sym≥(p0.Syms.length:Int)))=true then (some 7) else (if ((p1.Kind==3)=true → InB p1.Sym p0.Syms.length) then (if ((p1.Kind==3)&&decide (p1.N≥(rd p0.Syms p1.Sym).Size))=true then (some 8) else (some 0)) else none))
noncomputable def ins_Leads(p0:T_api_Ins):Option (Bool × Bool) :=
(ins_Right p0).bind fun v1 =>
  if (v1 != 0)=true then (some (false,false)) else (some (((p0.Op != 10)&&(p0.Op != 14)),((p0.Op==10)||(p0.Op==11))))
end Go.Vs
