import Derived.Test.YtgdchoahbiagbaaDoorPalT
import Derived.Test.YtgdchoahbiagbaaDoorPalA
import Derived.Test.YtgdchoahbiagbaaDoorPalUtf
set_option linter.unusedVariables false
set_option linter.unusedSectionVars false
namespace Go.Vs
noncomputable def palingbook_register(p0:Int):Option (T_api_Opd) :=
(palingbook_Pick p0 4).bind fun v1 =>
  some (T_api_Opd.mk 1 v1 0 0)
noncomputable def palingbook_plain(p0:Int)(p1:Int):Option (T_api_Opd) :=
(palingbook_Pick p0 3).bind fun v1 =>
  if (v1==0)=true then ((palingbook_register (IntKind.wrap .i64 (Int.tdiv p0 3))).bind fun v4 =>
    some v4) else (some (T_api_Opd.mk 2 0 0 p1))
noncomputable def palingbook_memory(p0:Int):Option (T_api_Opd) :=
(palingbook_Pick p0 60).bind fun v1 =>
  (some ([1,2,1])).bind fun l3 =>
  if ((Int.tmod v1 5)==4)=true then (some (T_api_Opd.mk 4 (IntKind.wrap .i64 (Int.tdiv v1 15)) (Int.tmod (IntKind.wrap .i64 (Int.tdiv v1 5)) 3) 0)) else (if InB (Int.tmod (IntKind.wrap .i64 (Int.tdiv v1 5)) 3) l3.length then (if ¬(rd l3 (Int.tmod (IntKind.wrap .i64 (Int.tdiv v1 5)) 3))=0 then ((some (Int.tmod (Int.tmod v1 5) (rd l3 (Int.tmod (IntKind.wrap .i64 (Int.tdiv v1 5)) 3)))).bind fun n8 =>
    some (T_api_Opd.mk 3 0 (Int.tmod (IntKind.wrap .i64 (Int.tdiv v1 5)) 3) n8)) else none) else none)
noncomputable def palingbook_label(p0:Int):Option (ByteArray) :=
if CatOk (⟨#[108]⟩:ByteArray) (bytesI ([(IntKind.wrap .u8 (IntKind.wrap .i64 (48+(IntKind.wrap .i64 (Int.tdiv p0 10))))),(IntKind.wrap .u8 (IntKind.wrap .i64 (48+(Int.tmod p0 10))))])) then ((some ((⟨#[108]⟩:ByteArray)++(bytesI ([(IntKind.wrap .u8 (IntKind.wrap .i64 (48+(IntKind.wrap .i64 (Int.tdiv p0 10))))),(IntKind.wrap .u8 (IntKind.wrap .i64 (48+(Int.tmod p0 10))))])))).bind fun s2 =>
  some s2) else none
noncomputable def palingbook_Ins_j1:Option (T_api_Ins) :=
  some (T_api_Ins.mk 13 false 0 (T_api_Opd.mk 0 0 0 0) (T_api_Opd.mk 0 0 0 0) (⟨#[]⟩:ByteArray) ([]))

noncomputable def palingbook_Ins_j4(p0:T_palingbook_Act)(v1:Int)(v3:Int)(p1:Int)(b32:Bool):Option (T_api_Ins) :=
  if b32=true then ((palingbook_memory p0.A).bind fun v34 =>
                      (palingbook_plain p0.B p0.N).bind fun v36 =>
                      some (T_api_Ins.mk (IntKind.wrap .i64 (2+v1)) false 0 v34 v36 (⟨#[]⟩:ByteArray) ([]))) else (if (v3==6)=true then ((palingbook_register p0.A).bind fun v39 =>
                        (palingbook_memory p0.B).bind fun v41 =>
                        some (T_api_Ins.mk 7 false 0 v39 v41 (⟨#[]⟩:ByteArray) ([]))) else (if (v3==7)=true then ((palingbook_memory p0.A).bind fun v44 =>
                          (palingbook_plain p0.B p0.N).bind fun v46 =>
                          some (T_api_Ins.mk 7 false 0 v44 v46 (⟨#[]⟩:ByteArray) ([]))) else (if (v3==8)=true then ((palingbook_memory p0.A).bind fun v49 =>
                            (palingbook_register p0.B).bind fun v51 =>
                            some (T_api_Ins.mk 8 false 0 v49 v51 (⟨#[]⟩:ByteArray) ([]))) else (if (v3==9)=true then ((palingbook_memory p0.A).bind fun v54 =>
                              (palingbook_register p0.B).bind fun v56 =>
                              some (T_api_Ins.mk 9 true 0 v54 v56 (⟨#[]⟩:ByteArray) ([]))) else (if (v3==10)=true then ((palingbook_memory p0.A).bind fun v59 =>
                                (palingbook_plain p0.B p0.N).bind fun v61 =>
                                some (T_api_Ins.mk (IntKind.wrap .i64 (2+v1)) true 0 v59 v61 (⟨#[]⟩:ByteArray) ([]))) else (if (v3==11)=true then ((palingbook_Pick p0.A p1).bind fun v64 =>
                                  (palingbook_label v64).bind fun v66 =>
                                  some (T_api_Ins.mk 10 false 0 (T_api_Opd.mk 0 0 0 0) (T_api_Opd.mk 0 0 0 0) v66 ([]))) else (if (v3==12)=true then ((palingbook_Pick p0.C 10).bind fun v69 =>
                                    (palingbook_Pick p0.A p1).bind fun v71 =>
                                    (palingbook_label v71).bind fun v73 =>
                                    some (T_api_Ins.mk 11 false (IntKind.wrap .i64 (1+v69)) (T_api_Opd.mk 0 0 0 0) (T_api_Opd.mk 0 0 0 0) v73 ([]))) else (if (v3==13)=true then (some (T_api_Ins.mk 12 false 0 (T_api_Opd.mk 0 0 0 0) (T_api_Opd.mk 0 0 0 0) (⟨#[]⟩:ByteArray) ([]))) else (if (v3==14)=true then ((palingbook_register p0.A).bind fun v77 =>
                                        (palingbook_plain p0.B p0.N).bind fun v79 =>
                                        some (T_api_Ins.mk 7 false 0 v77 v79 (⟨#[]⟩:ByteArray) ([]))) else (palingbook_Ins_j1 ))))))))))

noncomputable def palingbook_Ins_j3(p0:T_palingbook_Act)(v3:Int)(v1:Int)(p1:Int)(b16:Bool):Option (T_api_Ins) :=
  if b16=true then ((palingbook_memory p0.A).bind fun v18 =>
              (palingbook_plain p0.B p0.N).bind fun v20 =>
              some (T_api_Ins.mk 1 false 0 v18 v20 (⟨#[]⟩:ByteArray) ([]))) else (if (v3==3)=true then ((palingbook_register p0.A).bind fun v23 =>
                (palingbook_plain p0.B p0.N).bind fun v25 =>
                some (T_api_Ins.mk (IntKind.wrap .i64 (2+v1)) false 0 v23 v25 (⟨#[]⟩:ByteArray) ([]))) else (if (v3==4)=true then ((palingbook_register p0.A).bind fun v28 =>
                  (palingbook_memory p0.B).bind fun v30 =>
                  some (T_api_Ins.mk (IntKind.wrap .i64 (2+v1)) false 0 v28 v30 (⟨#[]⟩:ByteArray) ([]))) else (if (v3==5)=true then (palingbook_Ins_j4 p0 v1 v3 p1 (v3==5)) else (palingbook_Ins_j4 p0 v1 v3 p1 (v3==21)))))

noncomputable def palingbook_Ins_j2(p0:T_palingbook_Act)(v3:Int)(v1:Int)(p1:Int)(b10:Bool):Option (T_api_Ins) :=
  if b10=true then ((palingbook_register p0.A).bind fun v12 =>
          (palingbook_memory p0.B).bind fun v14 =>
          some (T_api_Ins.mk 1 false 0 v12 v14 (⟨#[]⟩:ByteArray) ([]))) else (if (v3==2)=true then (palingbook_Ins_j3 p0 v3 v1 p1 (v3==2)) else (if (v3==18)=true then (palingbook_Ins_j3 p0 v3 v1 p1 (v3==18)) else (if (v3==19)=true then (palingbook_Ins_j3 p0 v3 v1 p1 (v3==19)) else (palingbook_Ins_j3 p0 v3 v1 p1 (v3==20)))))

noncomputable def palingbook_Ins(p0:T_palingbook_Act)(p1:Int):Option (T_api_Ins) :=
(palingbook_Pick p0.C 5).bind fun v1 =>
  (palingbook_Pick p0.Kind 22).bind fun v3 =>
    if (v3==0)=true then ((palingbook_register p0.A).bind fun v6 =>
      (palingbook_plain p0.B p0.N).bind fun v8 =>
      some (T_api_Ins.mk 1 false 0 v6 v8 (⟨#[]⟩:ByteArray) ([]))) else (if (v3==1)=true then (palingbook_Ins_j2 p0 v3 v1 p1 (v3==1)) else (if (v3==16)=true then (palingbook_Ins_j2 p0 v3 v1 p1 (v3==16)) else (palingbook_Ins_j2 p0 v3 v1 p1 (v3==17))))
noncomputable def palingbook_Prog_s2(n563:Int)(i373:Int)(p0:(List (List T_palingbook_Act))):(Int × (List T_api_Ins)) → Option ((Int × (List T_api_Ins)) ⊕ ((List T_api_Ins)))
  | (i583,l584) =>
  if decide (i583<n563)=true then (if InB i373 p0.length then (if InB i583 (rd p0 i373).length then ((palingbook_Ins (rd (rd p0 i373) i583) (IntKind.wrap .i64 (n563+1))).bind fun v598 =>
          if Fits (l584.length+1) then ((some (l584++([v598]))).bind fun l601 =>
          some (.inl ((IntKind.wrap .i64 (i583+1)),l601))) else none) else none) else none) else (some (.inr l584))

noncomputable def palingbook_Prog_j1(i700:Int)(l751:List T_api_Ins):Option ((Int × (List T_api_Ins)) ⊕ ((List T_api_Ins))) :=
  some (.inl ((IntKind.wrap .i64 (i700+1)),l751))

noncomputable def palingbook_Prog_j2(i780:Int)(l797:List T_api_Ins):Option ((Int × (List T_api_Ins)) ⊕ ((List T_api_Ins))) :=
  some (.inl ((IntKind.wrap .i64 (i780+1)),l797))

noncomputable def palingbook_Prog_s4(n563:Int)(i700:Int):(Int × (List T_api_Ins)) → Option ((Int × (List T_api_Ins)) ⊕ ((List T_api_Ins)))
  | (i780,l781) =>
  if decide (i780 ≤ n563)=true then ((palingbook_label i780).bind fun v798 =>
                      if InB i700 l781.length then (if (decide (v798=(rd l781 i700).To)=true → InB i780 l781.length) then (if (decide (v798=(rd l781 i700).To)&&((((rd l781 i780).Labels).length:Int)==0))=true then ((palingbook_label i780).bind fun v803 =>
                        if InB i780 l781.length then ((some (l781.set i780.toNat (T_api_Ins.mk ((rd l781 i780).Op) ((rd l781 i780).Lock) ((rd l781 i780).Cond) ((rd l781 i780).A) ((rd l781 i780).B) ((rd l781 i780).To) ([v803])))).bind fun l806 =>
                        palingbook_Prog_j2 i780 l806) else none) else (palingbook_Prog_j2 i780 l781)) else none) else none) else (some (.inr l781))

noncomputable def palingbook_Prog_s3(n563:Int):(Int × (List T_api_Ins)) → Option ((Int × (List T_api_Ins)) ⊕ ((List T_api_Ins)))
  | (i700,l701) =>
  if decide (i700<n563)=true then (if InB i700 l701.length then (if decide ((rd l701 i700).To=(⟨#[]⟩:ByteArray))=true then (palingbook_Prog_j1 i700 l701) else ((loopO (palingbook_Prog_s4 n563 i700) (0,l701)).bind fun r795 =>
                palingbook_Prog_j1 i700 r795)) else none) else (some (.inr l701))

noncomputable def palingbook_Prog_s1(p0:(List (List T_palingbook_Act)))(p1:Int)(p2:Int):(Int × (List T_api_Thread)) → Option ((Int × (List T_api_Thread)) ⊕ ((List T_api_Thread)))
  | (i373,l374) =>
  if (decide (i373<(p0.length:Int))&&decide (i373<p1))=true then (if InB i373 p0.length then ((some (if p2<((rd p0 i373).length:Int) then p2 else ((rd p0 i373).length:Int))).bind fun n563 =>
      (loopO (palingbook_Prog_s2 n563 i373 p0) (0,([]:List T_api_Ins))).bind fun r594 =>
      if Fits (r594.length+1) then ((some (r594++([(T_api_Ins.mk 14 false 0 (T_api_Opd.mk 0 0 0 0) (T_api_Opd.mk 0 0 0 0) (⟨#[]⟩:ByteArray) ([]))]))).bind fun l604 =>
        (loopO (palingbook_Prog_s3 n563) (0,l604)).bind fun r749 =>
        if Fits (l374.length+1) then ((some (l374++[(T_api_Thread.mk r749)])).bind fun l809 =>
          some (.inl ((IntKind.wrap .i64 (i373+1)),l809))) else none) else none) else none) else (some (.inr l374))

noncomputable def palingbook_Prog(p0:(List (List T_palingbook_Act)))(p1:Int)(p2:Int):Option (T_api_Prog) :=
(some ([(T_api_Sym.mk (⟨#[120]⟩:ByteArray) 1 ([])),(T_api_Sym.mk (⟨#[121]⟩:ByteArray) 2 ([1])),(T_api_Sym.mk (⟨#[122]⟩:ByteArray) 1 ([0]))])).bind fun l1 =>
  (loopO (palingbook_Prog_s1 p0 p1 p2) (0,([]:List T_api_Thread))).bind fun r560 =>
  some (T_api_Prog.mk l1 r560)
end Go.Vs
