import Derived.Test.YtgdchoahbiagbaaDoorPalT
import Derived.Test.YtgdchoahbiagbaaDoorPalB
import Derived.Test.YtgdchoahbiagbaaDoorPalNum
set_option linter.unusedVariables false
set_option linter.unusedSectionVars false
namespace Go.Vs
noncomputable def valid_thread_j1(i95:Int)(l144:(List (ByteArray × Bool))):Option ((Int × (List (ByteArray × Bool))) ⊕ (((List (ByteArray × Bool))) ⊕ (Int))) :=
  some (.inl ((IntKind.wrap .i64 (i95+1)),l144))

noncomputable def valid_thread_s2(p1:T_api_Thread)(i95:Int):(Int × (List (ByteArray × Bool))) → Option ((Int × (List (ByteArray × Bool))) ⊕ (((List (ByteArray × Bool))) ⊕ (Int)))
  | (i164,l165) =>
  if decide (i164<(((rd p1.Ins i95).Labels).length:Int))=true then (if InB i164 ((rd p1.Ins i95).Labels).length then ((names_Right (rd ((rd p1.Ins i95).Labels) i164)).bind fun v178 =>
              if (!v178)=true then (some (.inr (.inr 3))) else (if ((mat l165 (mixS l165 (rd ((rd p1.Ins i95).Labels) i164))).getD false)=true then (some (.inr (.inr 6))) else ((some (mst l165 (mixS l165 (rd ((rd p1.Ins i95).Labels) i164)) (rd ((rd p1.Ins i95).Labels) i164) true)).bind fun l182 =>
                  some (.inl ((IntKind.wrap .i64 (i164+1)),l182))))) else none) else (some (.inr (.inl l165)))

noncomputable def valid_thread_j3(i95:Int)(er175:(List (ByteArray × Bool)))(i187:Int):Option ((Int × (List (ByteArray × Bool))) ⊕ (((List (ByteArray × Bool))) ⊕ (Int))) :=
  if (i187 != 0)=true then (some (.inr (.inr i187))) else (valid_thread_j1 i95 er175)

noncomputable def valid_thread_j2(p0:T_api_Prog)(p1:T_api_Thread)(i95:Int)(er175:(List (ByteArray × Bool)))(i186:Int):Option ((Int × (List (ByteArray × Bool))) ⊕ (((List (ByteArray × Bool))) ⊕ (Int))) :=
  if (i186==0)=true then ((valid_place p0 ((rd p1.Ins i95).B)).bind fun v190 =>
                    valid_thread_j3 i95 er175 v190) else (valid_thread_j3 i95 er175 i186)

noncomputable def valid_thread_s1(p1:T_api_Thread)(p0:T_api_Prog):(Int × (List (ByteArray × Bool))) → Option ((Int × (List (ByteArray × Bool))) ⊕ (((List (ByteArray × Bool))) ⊕ (Int)))
  | (i95,l96) =>
  if decide (i95<(p1.Ins.length:Int))=true then (if InB i95 p1.Ins.length then ((loopO (valid_thread_s2 p1 i95) (0,l96)).bind (onSum (fun er175 =>
          (ins_Right (rd p1.Ins i95)).bind fun v184 =>
              if (v184==0)=true then ((valid_place p0 ((rd p1.Ins i95).A)).bind fun v193 =>
                  valid_thread_j2 p0 p1 i95 er175 v193) else (valid_thread_j2 p0 p1 i95 er175 v184)) (fun qr175=>some (.inr (.inr qr175))))) else none) else (some (.inr (.inl l96)))

noncomputable def valid_thread_s3(p1:T_api_Thread)(er142:(List (ByteArray × Bool))):Int → Option ((Int) ⊕ ((Unit) ⊕ (Int)))
  | i211 =>
  if decide (i211<(p1.Ins.length:Int))=true then (if InB i211 p1.Ins.length then ((ins_Leads (rd p1.Ins i211)).bind fun v220 =>
              if (v220.2&&(!((mat er142 (mixS er142 ((rd p1.Ins i211).To))).getD false)))=true then (some (.inr (.inr 7))) else (some (.inl (IntKind.wrap .i64 (i211+1))))) else none) else (some (.inr (.inl ())))

noncomputable def valid_thread(p0:T_api_Prog)(p1:T_api_Thread):Option (Int) :=
(valid_Count p1).bind fun v1 =>
  if decide (v1>4096)=true then (some 10) else ((loopO (valid_thread_s1 p1 p0) (0,([]:(List (ByteArray × Bool))))).bind (onSum (fun er142 =>
    if ((!((p1.Ins.length:Int)==0))=true → InB (IntKind.wrap .i64 ((p1.Ins.length:Int)-1)) p1.Ins.length) then (if (((!((p1.Ins.length:Int)==0))&&((rd p1.Ins (IntKind.wrap .i64 ((p1.Ins.length:Int)-1))).Op != 10))=true → InB (IntKind.wrap .i64 ((p1.Ins.length:Int)-1)) p1.Ins.length) then ((some (((p1.Ins.length:Int)==0)||(((rd p1.Ins (IntKind.wrap .i64 ((p1.Ins.length:Int)-1))).Op != 10)&&((rd p1.Ins (IntKind.wrap .i64 ((p1.Ins.length:Int)-1))).Op != 14)))).bind fun b197 =>
        if b197=true then (some 9) else ((loopO (valid_thread_s3 p1 er142) 0).bind (onSum (fun er217 =>
          some 0) (fun qr217=>some qr217)))) else none) else none) (fun qr142=>some qr142)))
noncomputable def valid_Check_s1(p0:T_api_Prog):(Int × (List (ByteArray × Bool))) → Option ((Int × (List (ByteArray × Bool))) ⊕ ((Unit) ⊕ (Int)))
  | (i28,l29) =>
  if decide (i28<(p0.Syms.length:Int))=true then (if InB i28 p0.Syms.length then ((names_Right ((rd p0.Syms i28).Name)).bind fun v44 =>
        if (!v44)=true then (some (.inr (.inr 3))) else (if ((mat l29 (mixS l29 ((rd p0.Syms i28).Name))).getD false)=true then (some (.inr (.inr 6))) else ((some ((decide ((rd p0.Syms i28).Size<1)||decide ((rd p0.Syms i28).Size>64))||decide ((((rd p0.Syms i28).Init).length:Int)>(rd p0.Syms i28).Size))).bind fun b48 =>
            if b48=true then (some (.inr (.inr 5))) else ((some (mst l29 (mixS l29 ((rd p0.Syms i28).Name)) ((rd p0.Syms i28).Name) true)).bind fun l51 =>
              some (.inl ((IntKind.wrap .i64 (i28+1)),l51)))))) else none) else (some (.inr (.inl ())))

noncomputable def valid_Check_s2(p0:T_api_Prog):Int → Option ((Int) ⊕ ((Unit) ⊕ (Int)))
  | i65 =>
  if decide (i65<(p0.Threads.length:Int))=true then (if InB i65 p0.Threads.length then ((valid_thread p0 (rd p0.Threads i65)).bind fun v74 =>
            if (v74 != 0)=true then (some (.inr (.inr v74))) else (some (.inl (IntKind.wrap .i64 (i65+1))))) else none) else (some (.inr (.inl ())))

noncomputable def valid_Check(p0:T_api_Prog):Option (Int) :=
if (decide ((p0.Syms.length:Int)>64)||decide ((p0.Threads.length:Int)>64))=true then (some 10) else ((loopO (valid_Check_s1 p0) (0,([]:(List (ByteArray × Bool))))).bind (onSum (fun er41 =>
    (loopO (valid_Check_s2 p0) 0).bind (onSum (fun er71 =>
        some 0) (fun qr71=>some qr71))) (fun qr41=>some qr41)))
noncomputable def names_OpText(p0:Int)(p1:Int):Option (ByteArray) :=
(names_jumps).bind fun v1 =>
  if (((p0==11)&&decide (p1≥1))&&decide (p1 ≤ (v1.length:Int)))=true then (if InB (IntKind.wrap .i64 (p1-1)) v1.length then (some (rd v1 (IntKind.wrap .i64 (p1-1)))) else none) else ((names_ops).bind fun v5 =>
    if (((p1==0)&&decide (p0≥1))&&decide (p0 ≤ (v5.length:Int)))=true then (if InB (IntKind.wrap .i64 (p0-1)) v5.length then (some (rd v5 (IntKind.wrap .i64 (p0-1)))) else none) else (some (⟨#[]⟩:ByteArray)))
noncomputable def show_lacks(p0:T_api_Opd)(p1:(List ByteArray)):Option (Bool) :=
some (((p0.Kind==3)||(p0.Kind==4))&&decide (p0.Sym≥(p1.length:Int)))
noncomputable def palingref1_Spots_j1(p0:ByteArray)(n24:Nat)(i22:Int)(i23:Int)(l42:List T_palingref1_Spot):Option ((Int × Int × Nat × (List T_palingref1_Spot)) ⊕ ((List T_palingref1_Spot))) :=
  if Fits (l42.length+1) then ((some (l42++([(T_palingref1_Spot.mk ((Utf8.decode p0 n24).1:Int) (n24:Int) 0 i22 i23 false)]))).bind fun l44 =>
        if (((Utf8.decode p0 n24).1:Int)==10)=true then (some (.inl ((IntKind.wrap .i64 (i22+1)),1,(n24+(Utf8.decode p0 n24).2),l44))) else (some (.inl (i22,(IntKind.wrap .i64 (i23+1)),(n24+(Utf8.decode p0 n24).2),l44)))) else none

noncomputable def palingref1_Spots_s1(p0:ByteArray):(Int × Int × Nat × (List T_palingref1_Spot)) → Option ((Int × Int × Nat × (List T_palingref1_Spot)) ⊕ ((List T_palingref1_Spot)))
  | (i22,i23,n24,l25) =>
  if n24<p0.size then (if decide ((l25.length:Int)>0)=true then (if InB (IntKind.wrap .i64 ((l25.length:Int)-1)) l25.length then (if InB (IntKind.wrap .i64 ((l25.length:Int)-1)) l25.length then ((some (l25.set (IntKind.wrap .i64 ((l25.length:Int)-1)).toNat (T_palingref1_Spot.mk ((rd l25 (IntKind.wrap .i64 ((l25.length:Int)-1))).Rune) ((rd l25 (IntKind.wrap .i64 ((l25.length:Int)-1))).At) (IntKind.wrap .i64 ((n24:Int)-(rd l25 (IntKind.wrap .i64 ((l25.length:Int)-1))).At)) ((rd l25 (IntKind.wrap .i64 ((l25.length:Int)-1))).Line) ((rd l25 (IntKind.wrap .i64 ((l25.length:Int)-1))).Col) ((rd l25 (IntKind.wrap .i64 ((l25.length:Int)-1))).Bad)))).bind fun l50 =>
          palingref1_Spots_j1 p0 n24 i22 i23 l50) else none) else none) else (palingref1_Spots_j1 p0 n24 i22 i23 l25)) else (some (.inr l25))

noncomputable def palingref1_Spots_s2:(Int × (List T_palingref1_Spot)) → Option ((Int × (List T_palingref1_Spot)) ⊕ ((List T_palingref1_Spot)))
  | (i67,l68) =>
  if decide (i67<(l68.length:Int))=true then (if InB i67 l68.length then (if (((rd l68 i67).Rune==65533)=true → InB i67 l68.length) then (if InB i67 l68.length then ((some (l68.set i67.toNat (T_palingref1_Spot.mk ((rd l68 i67).Rune) ((rd l68 i67).At) ((rd l68 i67).Size) ((rd l68 i67).Line) ((rd l68 i67).Col) (((rd l68 i67).Rune==65533)&&((rd l68 i67).Size==1))))).bind fun l81 =>
          some (.inl ((IntKind.wrap .i64 (i67+1)),l81))) else none) else none) else none) else (some (.inr l68))

noncomputable def palingref1_Spots_j2(l52:List T_palingref1_Spot):Option ((List T_palingref1_Spot)) :=
  (loopO (palingref1_Spots_s2) (0,l52)).bind fun r76 =>
      some r76

noncomputable def palingref1_Spots(p0:ByteArray):Option ((List T_palingref1_Spot)) :=
(loopO (palingref1_Spots_s1 p0) (1,1,0,[])).bind fun r40 =>
  if decide ((r40.length:Int)>0)=true then (if InB (IntKind.wrap .i64 ((r40.length:Int)-1)) r40.length then (if InB (IntKind.wrap .i64 ((r40.length:Int)-1)) r40.length then ((some (r40.set (IntKind.wrap .i64 ((r40.length:Int)-1)).toNat (T_palingref1_Spot.mk ((rd r40 (IntKind.wrap .i64 ((r40.length:Int)-1))).Rune) ((rd r40 (IntKind.wrap .i64 ((r40.length:Int)-1))).At) (IntKind.wrap .i64 ((p0.size:Int)-(rd r40 (IntKind.wrap .i64 ((r40.length:Int)-1))).At)) ((rd r40 (IntKind.wrap .i64 ((r40.length:Int)-1))).Line) ((rd r40 (IntKind.wrap .i64 ((r40.length:Int)-1))).Col) ((rd r40 (IntKind.wrap .i64 ((r40.length:Int)-1))).Bad)))).bind fun l86 =>
        palingref1_Spots_j2  l86) else none) else none) else (palingref1_Spots_j2  r40)
noncomputable def palingref1_Regs:Option ((List ByteArray)) :=
(some ([(⟨#[114,97,120]⟩:ByteArray),(⟨#[114,98,120]⟩:ByteArray),(⟨#[114,99,120]⟩:ByteArray),(⟨#[114,100,120]⟩:ByteArray),(⟨#[114,115,105]⟩:ByteArray),(⟨#[114,100,105]⟩:ByteArray),(⟨#[114,56]⟩:ByteArray),(⟨#[114,57]⟩:ByteArray)])).bind fun l1 =>
  some l1
noncomputable def palingref1_index_s1(p0:(List ByteArray))(p1:ByteArray):Int → Option ((Int) ⊕ ((Unit) ⊕ (Int)))
  | i9 =>
  if decide (i9<(p0.length:Int))=true then (if InB i9 p0.length then (if decide ((rd p0 i9)=p1)=true then (some (.inr (.inr i9))) else (some (.inl (IntKind.wrap .i64 (i9+1))))) else none) else (some (.inr (.inl ())))

noncomputable def palingref1_index(p0:(List ByteArray))(p1:ByteArray):Option (Int) :=
(loopO (palingref1_index_s1 p0 p1) 0).bind (onSum (fun er13 =>
  some (-1)) (fun qr13=>some qr13))
noncomputable def palingref1_ops:Option ((List ByteArray)) :=
(some ([(⟨#[]⟩:ByteArray),(⟨#[109,111,118]⟩:ByteArray),(⟨#[97,100,100]⟩:ByteArray),(⟨#[115,117,98]⟩:ByteArray),(⟨#[97,110,100]⟩:ByteArray),(⟨#[111,114]⟩:ByteArray),(⟨#[120,111,114]⟩:ByteArray),(⟨#[99,109,112]⟩:ByteArray),(⟨#[120,99,104,103]⟩:ByteArray),(⟨#[99,109,112,120,99,104,103]⟩:ByteArray),(⟨#[106,109,112]⟩:ByteArray),(⟨#[]⟩:ByteArray),(⟨#[109,102,101,110,99,101]⟩:ByteArray),(⟨#[110,111,112]⟩:ByteArray),(⟨#[104,108,116]⟩:ByteArray)])).bind fun l1 =>
  some l1
noncomputable def palingref1_conds:Option ((List ByteArray)) :=
(some ([(⟨#[]⟩:ByteArray),(⟨#[106,101]⟩:ByteArray),(⟨#[106,110,101]⟩:ByteArray),(⟨#[106,108]⟩:ByteArray),(⟨#[106,108,101]⟩:ByteArray),(⟨#[106,103]⟩:ByteArray),(⟨#[106,103,101]⟩:ByteArray),(⟨#[106,98]⟩:ByteArray),(⟨#[106,98,101]⟩:ByteArray),(⟨#[106,97]⟩:ByteArray),(⟨#[106,97,101]⟩:ByteArray)])).bind fun l1 =>
  some l1
noncomputable def palingref1_Word(p0:ByteArray):Option (Bool) :=
(if ((!decide (p0=(⟨#[]⟩:ByteArray)))&&(!((decide (p0=(⟨#[115,121,109]⟩:ByteArray))||decide (p0=(⟨#[116,104,114,101,97,100]⟩:ByteArray)))||decide (p0=(⟨#[108,111,99,107]⟩:ByteArray)))))=true then palingref1_Regs else some default).bind fun v1 =>
  (if ((!decide (p0=(⟨#[]⟩:ByteArray)))&&(!((decide (p0=(⟨#[115,121,109]⟩:ByteArray))||decide (p0=(⟨#[116,104,114,101,97,100]⟩:ByteArray)))||decide (p0=(⟨#[108,111,99,107]⟩:ByteArray)))))=true then palingref1_index v1 p0 else some default).bind fun v3 =>
  (if ((!decide (p0=(⟨#[]⟩:ByteArray)))&&(!(((decide (p0=(⟨#[115,121,109]⟩:ByteArray))||decide (p0=(⟨#[116,104,114,101,97,100]⟩:ByteArray)))||decide (p0=(⟨#[108,111,99,107]⟩:ByteArray)))||decide (v3≥0))))=true then palingref1_ops else some default).bind fun v5 =>
  (if ((!decide (p0=(⟨#[]⟩:ByteArray)))&&(!(((decide (p0=(⟨#[115,121,109]⟩:ByteArray))||decide (p0=(⟨#[116,104,114,101,97,100]⟩:ByteArray)))||decide (p0=(⟨#[108,111,99,107]⟩:ByteArray)))||decide (v3≥0))))=true then palingref1_index v5 p0 else some default).bind fun v7 =>
  (if ((!decide (p0=(⟨#[]⟩:ByteArray)))&&(!((((decide (p0=(⟨#[115,121,109]⟩:ByteArray))||decide (p0=(⟨#[116,104,114,101,97,100]⟩:ByteArray)))||decide (p0=(⟨#[108,111,99,107]⟩:ByteArray)))||decide (v3≥0))||decide (v7>0))))=true then palingref1_conds else some default).bind fun v9 =>
  (if ((!decide (p0=(⟨#[]⟩:ByteArray)))&&(!((((decide (p0=(⟨#[115,121,109]⟩:ByteArray))||decide (p0=(⟨#[116,104,114,101,97,100]⟩:ByteArray)))||decide (p0=(⟨#[108,111,99,107]⟩:ByteArray)))||decide (v3≥0))||decide (v7>0))))=true then palingref1_index v9 p0 else some default).bind fun v11 =>
  (some ((!decide (p0=(⟨#[]⟩:ByteArray)))&&(((((decide (p0=(⟨#[115,121,109]⟩:ByteArray))||decide (p0=(⟨#[116,104,114,101,97,100]⟩:ByteArray)))||decide (p0=(⟨#[108,111,99,107]⟩:ByteArray)))||decide (v3≥0))||decide (v7>0))||decide (v11>0)))).bind fun b13 =>
  some b13
noncomputable def palingref1_Right_s1(v1:(List T_palingref1_Spot)):Int → Option ((Int) ⊕ ((Unit) ⊕ (Bool)))
  | i25 =>
  if decide (i25<(v1.length:Int))=true then (if InB i25 v1.length then (if ((!(rd v1 i25).Bad)=true → InB i25 v1.length) then ((if (!(rd v1 i25).Bad)=true then palingref1_Letter ((rd v1 i25).Rune) else some default).bind fun v39 =>
        if ((((!(rd v1 i25).Bad)&&(!v39))&&(!(i25==0)))=true → InB i25 v1.length) then ((if (((!(rd v1 i25).Bad)&&(!v39))&&(!(i25==0)))=true then palingref1_Digit ((rd v1 i25).Rune) else some default).bind fun v42 =>
        if ((rd v1 i25).Bad||((!v39)&&((i25==0)||(!v42))))=true then (some (.inr (.inr false))) else (some (.inl (IntKind.wrap .i64 (i25+1))))) else none) else none) else none) else (some (.inr (.inl ())))

noncomputable def palingref1_Right(p0:ByteArray):Option (Bool) :=
(palingref1_Spots p0).bind fun v1 =>
  (if (!(decide ((v1.length:Int)<1)||decide ((v1.length:Int)>16)))=true then palingref1_Word p0 else some default).bind fun v3 =>
  if ((decide ((v1.length:Int)<1)||decide ((v1.length:Int)>16))||v3)=true then (some false) else ((loopO (palingref1_Right_s1 v1) 0).bind (onSum (fun er35 =>
    some true) (fun qr35=>some qr35)))
noncomputable def palingref1_Count_s1(p0:T_api_Thread):(Int × Int) → Option ((Int × Int) ⊕ (Int))
  | (i9,i10) =>
  if decide (i10<(p0.Ins.length:Int))=true then (if InB i10 p0.Ins.length then (if ((rd p0.Ins i10).Op != 12)=true then (some (.inl ((IntKind.wrap .i64 (i9+1)),(IntKind.wrap .i64 (i10+1))))) else (some (.inl (i9,(IntKind.wrap .i64 (i10+1)))))) else none) else (some (.inr i9))

noncomputable def palingref1_Count(p0:T_api_Thread):Option (Int) :=
(loopO (palingref1_Count_s1 p0) (0,0)).bind fun r15 =>
  some r15
noncomputable def palingref1_OpdRight(p0:T_api_Opd):Option (Bool) :=
if (p0.Kind==1)=true then (some (((decide (p0.Reg≥0)&&decide (p0.Reg ≤ 7))&&(p0.Sym==0))&&(p0.N==0))) else (if (p0.Kind==2)=true then (some ((p0.Reg==0)&&(p0.Sym==0))) else (if (p0.Kind==3)=true then (some ((decide (p0.Sym≥0)&&decide (p0.N≥0))&&(p0.Reg==0))) else (if (p0.Kind==4)=true then (some (((decide (p0.Sym≥0)&&decide (p0.Reg≥0))&&decide (p0.Reg ≤ 7))&&(p0.N==0))) else (some false))))
noncomputable def palingref1_Memory(p0:T_api_Opd):Option (Bool) :=
some ((p0.Kind==3)||(p0.Kind==4))
noncomputable def palingref1_plain(p0:T_api_Opd):Option (Bool) :=
some ((p0.Kind==1)||(p0.Kind==2))
noncomputable def palingref1_Reckons(p0:Int):Option (Bool) :=
some (decide (p0≥2)&&decide (p0 ≤ 6))
noncomputable def palingref1_row(p0:T_api_Ins):Option (Bool) :=
if (decide (p0.Op<1)||decide (p0.Op>9))=true then ((some ((((p0.A.Kind==0)&&((p0.A.Reg==0)&&((p0.A.Sym==0)&&(p0.A.N==0))))&&((p0.B.Kind==0)&&((p0.B.Reg==0)&&((p0.B.Sym==0)&&(p0.B.N==0)))))&&(!p0.Lock))).bind fun b2 =>
    some b2) else ((palingref1_OpdRight p0.A).bind fun v4 =>
    (if (!(!v4))=true then palingref1_OpdRight p0.B else some default).bind fun v6 =>
    if ((!v4)||(!v6))=true then (some false) else (if (p0.Op==8)=true then ((palingref1_Memory p0.A).bind fun v11 =>
        some ((v11&&(p0.B.Kind==1))&&(!p0.Lock))) else (if (p0.Op==9)=true then ((palingref1_Memory p0.A).bind fun v14 =>
          some ((v14&&(p0.B.Kind==1))&&p0.Lock)) else (if (p0.A.Kind==1)=true then ((palingref1_plain p0.B).bind fun v17 =>
            (if (!v17)=true then palingref1_Memory p0.B else some default).bind fun v19 =>
            some ((v17||v19)&&(!p0.Lock))) else ((palingref1_Memory p0.A).bind fun v21 =>
            (if v21=true then palingref1_plain p0.B else some default).bind fun v23 =>
            (if ((v21&&v23)&&(!(!p0.Lock)))=true then palingref1_Reckons p0.Op else some default).bind fun v25 =>
            some ((v21&&v23)&&((!p0.Lock)||v25)))))))
noncomputable def palingref1_Jumps(p0:Int):Option (Bool) :=
some ((p0==10)||(p0==11))
noncomputable def palingref1_InsRight(p0:T_api_Ins):Option (Int) :=
(if (!(decide (p0.Op<1)||decide (p0.Op>14)))=true then palingref1_row p0 else some default).bind fun v1 =>
  (if (!((decide (p0.Op<1)||decide (p0.Op>14))||(!v1)))=true then palingref1_Jumps p0.Op else some default).bind fun v3 =>
  (some (((decide (p0.Op<1)||decide (p0.Op>14))||(!v1))||((!v3)&&(!decide (p0.To=(⟨#[]⟩:ByteArray)))))).bind fun b5 =>
  if b5=true then (some 4) else ((some (((p0.Op==11)&&(decide (p0.Cond<1)||decide (p0.Cond>10)))||((p0.Op != 11)&&(p0.Cond != 0)))).bind fun b8 =>
    if b8=true then (some 4) else ((palingref1_Jumps p0.Op).bind fun v11 =>
      (if v11=true then palingref1_Right p0.To else some default).bind fun v13 =>
      if (v11&&(!v13))=true then (some 3) else (some 0)))
noncomputable def palingref1_operand(p0:T_api_Prog)(p1:T_api_Opd):Option (Int) :=
(palingref1_Memory p1).bind fun v1 =>
  if (!v1)=true then (some 0) else (if decide (p1.Sym≥(p0.Syms.length:Int))=true then (some 7) else (if ((p1.Kind==3)=true → InB p1.Sym p0.Syms.length) then (if ((p1.Kind==3)&&decide (p1.N≥(rd p0.Syms p1.Sym).Size))=true then (some 8) else (some 0)) else none))
noncomputable def palingref1_Find_s1(p0:T_api_Thread)(p1:ByteArray):Int → Option ((Int) ⊕ ((Unit) ⊕ (Int)))
  | i12 =>
  if decide (i12<(p0.Ins.length:Int))=true then (if InB i12 p0.Ins.length then ((palingref1_index ((rd p0.Ins i12).Labels) p1).bind fun v21 =>
      if decide (v21≥0)=true then (some (.inr (.inr i12))) else (some (.inl (IntKind.wrap .i64 (i12+1))))) else none) else (some (.inr (.inl ())))

noncomputable def palingref1_Find(p0:T_api_Thread)(p1:ByteArray):Option (Int) :=
(loopO (palingref1_Find_s1 p0 p1) 0).bind (onSum (fun er18 =>
  some (-1)) (fun qr18=>some qr18))
noncomputable def palingref1_thread_s2(p1:T_api_Thread)(i125:Int):(Int × (List ByteArray)) → Option ((Int × (List ByteArray)) ⊕ (((List ByteArray)) ⊕ (Int)))
  | (i219,l220) =>
  if decide (i219<(((rd p1.Ins i125).Labels).length:Int))=true then (if InB i219 ((rd p1.Ins i125).Labels).length then ((palingref1_Right (rd ((rd p1.Ins i125).Labels) i219)).bind fun v240 =>
            if (!v240)=true then (some (.inr (.inr 3))) else (if InB i219 ((rd p1.Ins i125).Labels).length then ((palingref1_index l220 (rd ((rd p1.Ins i125).Labels) i219)).bind fun v244 =>
              if decide (v244≥0)=true then (some (.inr (.inr 6))) else (if InB i219 ((rd p1.Ins i125).Labels).length then (if Fits (l220.length+1) then ((some (l220++([(rd ((rd p1.Ins i125).Labels) i219)]))).bind fun l249 =>
                some (.inl ((IntKind.wrap .i64 (i219+1)),l249))) else none) else none)) else none)) else none) else (some (.inr (.inl l220)))

noncomputable def palingref1_thread_s1(p1:T_api_Thread)(p0:T_api_Prog):(Int × (List ByteArray)) → Option ((Int × (List ByteArray)) ⊕ ((Unit) ⊕ (Int)))
  | (i125,l126) =>
  if decide (i125<(p1.Ins.length:Int))=true then (if InB i125 p1.Ins.length then ((loopO (palingref1_thread_s2 p1 i125) (0,l126)).bind (onSum (fun er237 =>
        (palingref1_InsRight (rd p1.Ins i125)).bind fun v251 =>
            if (v251 != 0)=true then (some (.inr (.inr v251))) else ((palingref1_operand p0 ((rd p1.Ins i125).A)).bind fun v254 =>
              if (v254 != 0)=true then (some (.inr (.inr v254))) else ((palingref1_operand p0 ((rd p1.Ins i125).B)).bind fun v257 =>
                if (v257 != 0)=true then (some (.inr (.inr v257))) else (some (.inl ((IntKind.wrap .i64 (i125+1)),er237)))))) (fun qr237=>some (.inr (.inr qr237))))) else none) else (some (.inr (.inl ())))

noncomputable def palingref1_thread_s3(p1:T_api_Thread):Int → Option ((Int) ⊕ ((Unit) ⊕ (Int)))
  | i282 =>
  if decide (i282<(p1.Ins.length:Int))=true then (if InB i282 p1.Ins.length then ((palingref1_Jumps ((rd p1.Ins i282).Op)).bind fun v294 =>
                if (v294=true → InB i282 p1.Ins.length) then ((if v294=true then palingref1_Find p1 ((rd p1.Ins i282).To) else some default).bind fun v297 =>
                if (v294&&decide (v297<0))=true then (some (.inr (.inr 7))) else (some (.inl (IntKind.wrap .i64 (i282+1))))) else none) else none) else (some (.inr (.inl ())))

noncomputable def palingref1_thread(p0:T_api_Prog)(p1:T_api_Thread):Option (Int) :=
(palingref1_Count p1).bind fun v1 =>
  if decide (v1>4096)=true then (some 10) else ((loopO (palingref1_thread_s1 p1 p0) (0,[])).bind (onSum (fun er187 =>
    if ((p1.Ins.length:Int)==0)=true then (some 9) else (if InB (IntKind.wrap .i64 ((p1.Ins.length:Int)-1)) p1.Ins.length then ((some ((rd p1.Ins (IntKind.wrap .i64 ((p1.Ins.length:Int)-1))).Op)).bind fun n262 =>
          if ((n262 != 10)&&(n262 != 14))=true then (some 9) else ((loopO (palingref1_thread_s3 p1) 0).bind (onSum (fun er291 =>
            some 0) (fun qr291=>some qr291)))) else none)) (fun qr187=>some qr187)))
noncomputable def palingref1_Check_s2(i33:Int)(p0:T_api_Prog):Int → Option ((Int) ⊕ ((Unit) ⊕ (Int)))
  | i67 =>
  if decide (i67<i33)=true then (if InB i67 p0.Syms.length then (if decide ((rd p0.Syms i67).Name=(rd p0.Syms i33).Name)=true then (some (.inr (.inr 6))) else (some (.inl (IntKind.wrap .i64 (i67+1))))) else none) else (some (.inr (.inl ())))

noncomputable def palingref1_Check_s1(p0:T_api_Prog):Int → Option ((Int) ⊕ ((Unit) ⊕ (Int)))
  | i33 =>
  if decide (i33<(p0.Syms.length:Int))=true then (if InB i33 p0.Syms.length then ((palingref1_Right ((rd p0.Syms i33).Name)).bind fun v57 =>
        if (!v57)=true then (some (.inr (.inr 3))) else ((loopO (palingref1_Check_s2 i33 p0) 0).bind (onSum (fun er71 =>
          (some ((decide ((rd p0.Syms i33).Size<1)||decide ((rd p0.Syms i33).Size>64))||decide ((((rd p0.Syms i33).Init).length:Int)>(rd p0.Syms i33).Size))).bind fun b75 =>
              if b75=true then (some (.inr (.inr 5))) else (some (.inl (IntKind.wrap .i64 (i33+1))))) (fun qr71=>some (.inr (.inr qr71)))))) else none) else (some (.inr (.inl ())))

noncomputable def palingref1_Check_s3(p0:T_api_Prog):Int → Option ((Int) ⊕ ((Unit) ⊕ (Int)))
  | i89 =>
  if decide (i89<(p0.Threads.length:Int))=true then (if InB i89 p0.Threads.length then ((palingref1_thread p0 (rd p0.Threads i89)).bind fun v98 =>
            if (v98 != 0)=true then (some (.inr (.inr v98))) else (some (.inl (IntKind.wrap .i64 (i89+1))))) else none) else (some (.inr (.inl ())))

noncomputable def palingref1_Check(p0:T_api_Prog):Option (Int) :=
if (decide ((p0.Syms.length:Int)>64)||decide ((p0.Threads.length:Int)>64))=true then (some 10) else ((loopO (palingref1_Check_s1 p0) 0).bind (onSum (fun er54 =>
    (loopO (palingref1_Check_s3 p0) 0).bind (onSum (fun er95 =>
        some 0) (fun qr95=>some qr95))) (fun qr54=>some qr54)))
noncomputable def palingref1_SymNames_s1(p0:T_api_Prog):(Int × (List ByteArray)) → Option ((Int × (List ByteArray)) ⊕ ((List ByteArray)))
  | (i14,l15) =>
  if decide (i14<(p0.Syms.length:Int))=true then (if InB i14 p0.Syms.length then (if Fits (l15.length+1) then ((some (l15++([(rd p0.Syms i14).Name]))).bind fun l28 =>
      some (.inl ((IntKind.wrap .i64 (i14+1)),l28))) else none) else none) else (some (.inr l15))

noncomputable def palingref1_SymNames(p0:T_api_Prog):Option ((List ByteArray)) :=
(loopO (palingref1_SymNames_s1 p0) (0,[])).bind fun r24 =>
  some r24
noncomputable def palingref1_OpText(p0:Int)(p1:Int):Option (ByteArray) :=
if (((p0==11)&&decide (p1≥1))&&decide (p1 ≤ 10))=true then ((palingref1_conds).bind fun v2 =>
    if InB p1 v2.length then (some (rd v2 p1)) else none) else (if ((decide (p0≥1)&&decide (p0 ≤ 14))&&(p1==0))=true then ((palingref1_ops).bind fun v6 =>
      if InB p0 v6.length then (some (rd v6 p0)) else none) else (some (⟨#[]⟩:ByteArray)))
noncomputable def palingref1_RegText(p0:Int):Option (ByteArray) :=
if (decide (p0<0)||decide (p0>7))=true then (some (⟨#[]⟩:ByteArray)) else ((palingref1_Regs).bind fun v2 =>
    if InB p0 v2.length then (some (rd v2 p0)) else none)
noncomputable def palingref1_OpdText(p0:T_api_Opd)(p1:(List ByteArray)):Option (ByteArray) :=
(palingref1_OpdRight p0).bind fun v1 =>
  if (!v1)=true then (some (⟨#[]⟩:ByteArray)) else (if (p0.Kind==1)=true then ((palingref1_RegText p0.Reg).bind fun v5 =>
      some v5) else (if (p0.Kind==2)=true then ((palingref1_Text p0.N).bind fun v8 =>
        some v8) else (if decide (p0.Sym≥(p1.length:Int))=true then (some (⟨#[]⟩:ByteArray)) else (if (p0.Kind==3)=true then (if InB p0.Sym p1.length then (if CatOk (rd p1 p0.Sym) (⟨#[91]⟩:ByteArray) then ((palingref1_Text p0.N).bind fun v14 =>
            if CatOk ((rd p1 p0.Sym)++(⟨#[91]⟩:ByteArray)) v14 then (if CatOk (((rd p1 p0.Sym)++(⟨#[91]⟩:ByteArray))++v14) (⟨#[93]⟩:ByteArray) then ((some ((((rd p1 p0.Sym)++(⟨#[91]⟩:ByteArray))++v14)++(⟨#[93]⟩:ByteArray))).bind fun s18 =>
            some s18) else none) else none) else none) else none) else (if InB p0.Sym p1.length then (if CatOk (rd p1 p0.Sym) (⟨#[91]⟩:ByteArray) then ((palingref1_RegText p0.Reg).bind fun v22 =>
            if CatOk ((rd p1 p0.Sym)++(⟨#[91]⟩:ByteArray)) v22 then (if CatOk (((rd p1 p0.Sym)++(⟨#[91]⟩:ByteArray))++v22) (⟨#[93]⟩:ByteArray) then ((some ((((rd p1 p0.Sym)++(⟨#[91]⟩:ByteArray))++v22)++(⟨#[93]⟩:ByteArray))).bind fun s26 =>
            some s26) else none) else none) else none) else none)))))
noncomputable def palingref1_ShowIns_j1(p0:T_api_Ins)(p1:(List ByteArray))(s4:ByteArray):Option (ByteArray) :=
  (palingref1_OpText p0.Op p0.Cond).bind fun v5 =>
      if CatOk s4 v5 then ((palingref1_Jumps p0.Op).bind fun v8 =>
      if v8=true then (if CatOk (s4++v5) (⟨#[32]⟩:ByteArray) then (if CatOk ((s4++v5)++(⟨#[32]⟩:ByteArray)) p0.To then (some (((s4++v5)++(⟨#[32]⟩:ByteArray))++p0.To)) else none) else none) else (if decide (p0.Op>9)=true then (some (s4++v5)) else ((palingref1_Memory p0.A).bind fun v14 =>
          (if (!(v14&&decide (p0.A.Sym≥(p1.length:Int))))=true then palingref1_Memory p0.B else some default).bind fun v16 =>
          (some ((v14&&decide (p0.A.Sym≥(p1.length:Int)))||(v16&&decide (p0.B.Sym≥(p1.length:Int))))).bind fun b18 =>
          if b18=true then (some (⟨#[]⟩:ByteArray)) else (if CatOk (s4++v5) (⟨#[32]⟩:ByteArray) then ((palingref1_OpdText p0.A p1).bind fun v26 =>
            if CatOk ((s4++v5)++(⟨#[32]⟩:ByteArray)) v26 then (if CatOk (((s4++v5)++(⟨#[32]⟩:ByteArray))++v26) (⟨#[44,32]⟩:ByteArray) then ((palingref1_OpdText p0.B p1).bind fun v30 =>
            if CatOk ((((s4++v5)++(⟨#[32]⟩:ByteArray))++v26)++(⟨#[44,32]⟩:ByteArray)) v30 then ((some (((((s4++v5)++(⟨#[32]⟩:ByteArray))++v26)++(⟨#[44,32]⟩:ByteArray))++v30)).bind fun s33 =>
            some s33) else none) else none) else none) else none)))) else none

noncomputable def palingref1_ShowIns(p0:T_api_Ins)(p1:(List ByteArray)):Option (ByteArray) :=
(palingref1_InsRight p0).bind fun v1 =>
  if (v1 != 0)=true then (some (⟨#[]⟩:ByteArray)) else (if p0.Lock=true then (palingref1_ShowIns_j1 p0 p1 (⟨#[108,111,99,107,32]⟩:ByteArray)) else (palingref1_ShowIns_j1 p0 p1 (⟨#[]⟩:ByteArray)))
noncomputable def palingref1_Show_s2(i91:Int)(p0:T_api_Prog):(ByteArray × Int) → Option ((ByteArray × Int) ⊕ (ByteArray))
  | (s165,i166) =>
  if InB i91 p0.Syms.length then (if decide (i166<(((rd p0.Syms i91).Init).length:Int))=true then (if InB i91 p0.Syms.length then (if InB i166 ((rd p0.Syms i91).Init).length then ((palingref1_Text (rd ((rd p0.Syms i91).Init) i166)).bind fun v181 =>
            if CatOk (⟨#[32]⟩:ByteArray) v181 then (if CatOk s165 ((⟨#[32]⟩:ByteArray)++v181) then (some (.inl ((s165++((⟨#[32]⟩:ByteArray)++v181)),(IntKind.wrap .i64 (i166+1))))) else none) else none) else none) else none) else (some (.inr s165))) else none

noncomputable def palingref1_Show_s1(p0:T_api_Prog):(ByteArray × Int) → Option ((ByteArray × Int) ⊕ (ByteArray))
  | (s90,i91) =>
  if decide (i91<(p0.Syms.length:Int))=true then (if InB i91 p0.Syms.length then (if CatOk (⟨#[115,121,109,32]⟩:ByteArray) ((rd p0.Syms i91).Name) then (if CatOk ((⟨#[115,121,109,32]⟩:ByteArray)++((rd p0.Syms i91).Name)) (⟨#[32]⟩:ByteArray) then (if InB i91 p0.Syms.length then ((palingref1_Text ((rd p0.Syms i91).Size)).bind fun v141 =>
        if CatOk (((⟨#[115,121,109,32]⟩:ByteArray)++((rd p0.Syms i91).Name))++(⟨#[32]⟩:ByteArray)) v141 then (if CatOk s90 ((((⟨#[115,121,109,32]⟩:ByteArray)++((rd p0.Syms i91).Name))++(⟨#[32]⟩:ByteArray))++v141) then ((some (s90++((((⟨#[115,121,109,32]⟩:ByteArray)++((rd p0.Syms i91).Name))++(⟨#[32]⟩:ByteArray))++v141))).bind fun s145 =>
        (loopO (palingref1_Show_s2 i91 p0) (s145,0)).bind fun r176 =>
        if CatOk r176 (⟨#[10]⟩:ByteArray) then (some (.inl ((r176++(⟨#[10]⟩:ByteArray)),(IntKind.wrap .i64 (i91+1))))) else none) else none) else none) else none) else none) else none) else none) else (some (.inr s90))

noncomputable def palingref1_Show_s5(l610:List ByteArray):(ByteArray × Int) → Option ((ByteArray × Int) ⊕ (ByteArray))
  | (s622,i623) =>
  if decide (i623<(l610.length:Int))=true then (if InB i623 l610.length then (if CatOk (rd l610 i623) (⟨#[58,10]⟩:ByteArray) then (if CatOk s622 ((rd l610 i623)++(⟨#[58,10]⟩:ByteArray)) then (some (.inl ((s622++((rd l610 i623)++(⟨#[58,10]⟩:ByteArray))),(IntKind.wrap .i64 (i623+1))))) else none) else none) else none) else (some (.inr s622))

noncomputable def palingref1_Show_s4(i397:Int)(p0:T_api_Prog)(v186:(List ByteArray)):(ByteArray × Int) → Option ((ByteArray × Int) ⊕ (ByteArray))
  | (s571,i572) =>
  if InB i397 p0.Threads.length then (if decide (i572<(((rd p0.Threads i397).Ins).length:Int))=true then (if InB i397 p0.Threads.length then (if InB i572 ((rd p0.Threads i397).Ins).length then ((some ((rd ((rd p0.Threads i397).Ins) i572).Labels)).bind fun l610 =>
              (loopO (palingref1_Show_s5 l610) (s571,0)).bind fun r629 =>
              (palingref1_ShowIns (T_api_Ins.mk ((rd ((rd p0.Threads i397).Ins) i572).Op) ((rd ((rd p0.Threads i397).Ins) i572).Lock) ((rd ((rd p0.Threads i397).Ins) i572).Cond) ((rd ((rd p0.Threads i397).Ins) i572).A) ((rd ((rd p0.Threads i397).Ins) i572).B) ((rd ((rd p0.Threads i397).Ins) i572).To) l610) v186).bind fun v634 =>
                if CatOk (⟨#[9]⟩:ByteArray) v634 then (if CatOk ((⟨#[9]⟩:ByteArray)++v634) (⟨#[10]⟩:ByteArray) then (if CatOk r629 (((⟨#[9]⟩:ByteArray)++v634)++(⟨#[10]⟩:ByteArray)) then ((some (r629++(((⟨#[9]⟩:ByteArray)++v634)++(⟨#[10]⟩:ByteArray)))).bind fun s639 =>
                some (.inl (s639,(IntKind.wrap .i64 (i572+1))))) else none) else none) else none) else none) else none) else (some (.inr s571))) else none

noncomputable def palingref1_Show_s3(p0:T_api_Prog)(v186:(List ByteArray)):(ByteArray × Int) → Option ((ByteArray × Int) ⊕ (ByteArray))
  | (s396,i397) =>
  if decide (i397<(p0.Threads.length:Int))=true then (if CatOk s396 (⟨#[116,104,114,101,97,100,10]⟩:ByteArray) then ((loopO (palingref1_Show_s4 i397 p0 v186) ((s396++(⟨#[116,104,114,101,97,100,10]⟩:ByteArray)),0)).bind fun r605 =>
          some (.inl (r605,(IntKind.wrap .i64 (i397+1))))) else none) else (some (.inr s396))

noncomputable def palingref1_Show(p0:T_api_Prog):Option (ByteArray) :=
(palingref1_Check p0).bind fun v1 =>
  if (v1 != 0)=true then (some (⟨#[]⟩:ByteArray)) else ((loopO (palingref1_Show_s1 p0) ((⟨#[]⟩:ByteArray),0)).bind fun r135 =>
    (palingref1_SymNames p0).bind fun v186 =>
      (loopO (palingref1_Show_s3 p0 v186) (r135,0)).bind fun r502 =>
      some r502)
end Go.Vs
