import Derived.Test.YtocjejladeeckaaGreatDoorPalT
import Derived.Test.YtocjejladeeckaaGreatDoorPalC
import Derived.Test.YtocjejladeeckaaGreatDoorPalK
import Derived.Test.YtocjejladeeckaaGreatDoorPalL
set_option linter.all false
namespace Go.Vs
noncomputable def zlP(p0:ByteArray):Option (Int × Int × Bool) :=
if decide (p0=(⟨#[]⟩:ByteArray))=true then (some (0,0,false)) else ((zdw).bind fun v2 =>
  (zaP v2 p0).bind fun v4 =>
  if decide (v4>0)=true then (some (v4,0,true)) else ((zcR).bind fun v7 =>
   (zaP v7 p0).bind fun v9 =>
   if decide (v9>0)=true then (some (11,v9,true)) else (some (0,0,false))))
noncomputable def zhI(p0:ByteArray):Option (Int × Bool) :=
(zde).bind fun v1 =>
 (zaP v1 p0).bind fun v3 =>
 if decide (v3<0)=true then (some (0,false)) else (some (v3,true))
noncomputable def zgc(p0:zaf):(Int × (List ByteArray))->Option ((Int × (List ByteArray)) ⊕ ((List ByteArray)))
 | (i14,l15) =>
 if decide (i14<(p0.zSy.length:Int))=true then (if InB i14 p0.zSy.length then (if Fits (l15.length+1) then ((some (l15++([(rd p0.zSy i14).Name]))).bind fun l28 =>
   some (.inl ((IntKind.wrap .i64 (i14+1)),l28))) else none) else none) else (some (.inr l15))
noncomputable def zeQ(p0:zaf):Option ((List ByteArray)) :=
(zaL (zgc p0) (0,[])).bind fun r24 =>
 some r24
noncomputable def zg2(p0:(List ByteArray))(p1:ByteArray):Int->Option ((Int) ⊕ ((Unit) ⊕ (Int)))
 | i9 =>
 if decide (i9<(p0.length:Int))=true then (if InB i9 p0.length then (if decide ((rd p0 i9)=p1)=true then (some (.inr (.inr i9))) else (some (.inl (IntKind.wrap .i64 (i9+1))))) else none) else (some (.inr (.inl ())))
noncomputable def zik(p0:(List ByteArray))(p1:ByteArray):Option (Int) :=
(zaL (zg2 p0 p1) 0).bind (zbu (fun er13 =>
 some (-1)) (fun qr13=>some qr13))
noncomputable def zaB(p0:zac)(p1:Int)(p2:zaa):Option (Bool × zac) :=
some (false,(zac.mk p0.T p0.I p0.P p0.zHd p0.First p0.To p0.Left p0.All p0.Wait (zai.mk p1 p2.Line p2.Col)))
noncomputable def zaK(p0:zac)(p1:Int)(p2:zaa):Option (Bool × zac) :=
some (false,(zac.mk p0.T p0.I p0.P p0.zHd p0.First p0.To p0.Left p0.All p0.Wait (zai.mk p1 p2.Line p2.Col)))
noncomputable def zey(p0:zac):Option (Bool × zac) :=
if InB p0.I p0.T.length then (if ((rd p0.T p0.I).Kind != 1)=true then ((zaB p0 4 (rd p0.T p0.I)).bind fun v3 =>
  some (v3.1,v3.2)) else ((zcG ((rd p0.T p0.I).Text)).bind fun v5 =>
  if v5=true then ((zaB p0 3 (rd p0.T p0.I)).bind fun v8 =>
   some (v8.1,v8.2)) else (some (true,p0)))) else none
noncomputable def zef(p0:zac):Option (Bool × zac) :=
if InB p0.I p0.T.length then (if ((rd p0.T p0.I).Kind != 1)=true then ((zaK (zac.mk p0.T p0.I p0.P p0.zHd p0.First p0.To p0.Left p0.All p0.Wait p0.Bad) 4 (rd p0.T p0.I)).bind fun v3 =>
  some (v3.1,(zac.mk v3.2.T v3.2.I v3.2.P v3.2.zHd v3.2.First v3.2.To v3.2.Left v3.2.All p0.Wait v3.2.Bad))) else ((zcG ((rd p0.T p0.I).Text)).bind fun v5 =>
  if v5=true then ((zaK (zac.mk p0.T p0.I p0.P p0.zHd p0.First p0.To p0.Left p0.All p0.Wait p0.Bad) 3 (rd p0.T p0.I)).bind fun v8 =>
   some (v8.1,(zac.mk v8.2.T v8.2.I v8.2.P v8.2.zHd v8.2.First v8.2.To v8.2.Left v8.2.All p0.Wait v8.2.Bad))) else (some (true,(zac.mk p0.T p0.I p0.P p0.zHd p0.First p0.To p0.Left p0.All p0.Wait p0.Bad))))) else none
noncomputable def zdk(v8:Bool × zac)(p0:zac)(v13:Int)(i37:Int)(i38:Int)(i39:Int):Option (zak × Bool × zac) :=
 (some (IntKind.wrap .i64 ((IntKind.wrap .i64 ((IntKind.wrap .i64 (v8.2.I+1))+1))+1))).bind fun n40 =>
             if InB n40 v8.2.T.length then (if ((!((rd v8.2.T n40).Kind != 3))=true->InB n40 v8.2.T.length) then (if (((rd v8.2.T n40).Kind != 3)||(!decide ((rd v8.2.T n40).Text=(⟨#[93]⟩:ByteArray))))=true then (if InB n40 v8.2.T.length then ((zaK (zac.mk v8.2.T n40 v8.2.P v8.2.zHd v8.2.First v8.2.To v8.2.Left v8.2.All p0.Wait v8.2.Bad) 4 (rd v8.2.T n40)).bind fun v46 =>
        some ((zak.mk 0 0 0 0),v46.1,(zac.mk v46.2.T v46.2.I v46.2.P v46.2.zHd v46.2.First v46.2.To v46.2.Left v46.2.All p0.Wait v46.2.Bad))) else none) else (some ((zak.mk i37 i38 v13 i39),true,(zac.mk v8.2.T (IntKind.wrap .i64 (n40+1)) v8.2.P v8.2.zHd v8.2.First v8.2.To v8.2.Left v8.2.All p0.Wait v8.2.Bad)))) else none) else none
noncomputable def zdH(p0:zac):Option (zak × Bool × zac) :=
if InB p0.I p0.T.length then (if ((rd p0.T p0.I).Kind==2)=true then ((zcI ((rd p0.T p0.I).Text)).bind fun v3 =>
  some ((zak.mk 2 0 0 v3.1),true,(zac.mk p0.T (IntKind.wrap .i64 (p0.I+1)) p0.P p0.zHd p0.First p0.To p0.Left p0.All p0.Wait p0.Bad))) else ((zhI ((rd p0.T p0.I).Text)).bind fun v5 =>
  if (v5.2&&((rd p0.T p0.I).Kind==1))=true then (some ((zak.mk 1 v5.1 0 0),true,(zac.mk p0.T (IntKind.wrap .i64 (p0.I+1)) p0.P p0.zHd p0.First p0.To p0.Left p0.All p0.Wait p0.Bad))) else ((zef (zac.mk p0.T p0.I p0.P p0.zHd p0.First p0.To p0.Left p0.All p0.Wait p0.Bad)).bind fun v8 =>
   if (!v8.1)=true then (some ((zak.mk 0 0 0 0),false,(zac.mk v8.2.T v8.2.I v8.2.P v8.2.zHd v8.2.First v8.2.To v8.2.Left v8.2.All p0.Wait v8.2.Bad))) else ((zeQ (zaf.mk v8.2.P.zSy v8.2.P.zTh)).bind fun v11 =>
    (zaP v11 ((rd p0.T p0.I).Text)).bind fun v13 =>
    if decide (v13<0)=true then ((zaK (zac.mk v8.2.T v8.2.I v8.2.P v8.2.zHd v8.2.First v8.2.To v8.2.Left v8.2.All p0.Wait v8.2.Bad) 7 (rd p0.T p0.I)).bind fun v16 =>
     some ((zak.mk 0 0 0 0),v16.1,(zac.mk v16.2.T v16.2.I v16.2.P v16.2.zHd v16.2.First v16.2.To v16.2.Left v16.2.All p0.Wait v16.2.Bad))) else (if InB (IntKind.wrap .i64 (v8.2.I+1)) v8.2.T.length then (if ((!((rd v8.2.T (IntKind.wrap .i64 (v8.2.I+1))).Kind != 3))=true->InB (IntKind.wrap .i64 (v8.2.I+1)) v8.2.T.length) then ((some (((rd v8.2.T (IntKind.wrap .i64 (v8.2.I+1))).Kind != 3)||(!decide ((rd v8.2.T (IntKind.wrap .i64 (v8.2.I+1))).Text=(⟨#[91]⟩:ByteArray))))).bind fun b20 =>
     if b20=true then (if InB (IntKind.wrap .i64 (v8.2.I+1)) v8.2.T.length then ((zaK (zac.mk v8.2.T (IntKind.wrap .i64 (v8.2.I+1)) v8.2.P v8.2.zHd v8.2.First v8.2.To v8.2.Left v8.2.All p0.Wait v8.2.Bad) 4 (rd v8.2.T (IntKind.wrap .i64 (v8.2.I+1)))).bind fun v24 =>
      some ((zak.mk 0 0 0 0),v24.1,(zac.mk v24.2.T v24.2.I v24.2.P v24.2.zHd v24.2.First v24.2.To v24.2.Left v24.2.All p0.Wait v24.2.Bad))) else none) else (if InB (IntKind.wrap .i64 ((IntKind.wrap .i64 (v8.2.I+1))+1)) v8.2.T.length then ((some ((rd v8.2.T (IntKind.wrap .i64 ((IntKind.wrap .i64 (v8.2.I+1))+1))).Kind)).bind fun n27 =>
      (some ((rd v8.2.T (IntKind.wrap .i64 ((IntKind.wrap .i64 (v8.2.I+1))+1))).Line)).bind fun n29 =>
      (some ((rd v8.2.T (IntKind.wrap .i64 ((IntKind.wrap .i64 (v8.2.I+1))+1))).Col)).bind fun n31 =>
      (some ((rd v8.2.T (IntKind.wrap .i64 ((IntKind.wrap .i64 (v8.2.I+1))+1))).Text)).bind fun s33 =>
      (zhI s33).bind fun v35 =>
      if (n27==2)=true then ((zcI s33).bind fun v49 =>
        if ((!decide (v49.1<0))=true->InB v13 v8.2.P.zSy.length) then (if (decide (v49.1<0)||decide (v49.1≥(rd v8.2.P.zSy v13).Size))=true then ((zaK (zac.mk v8.2.T (IntKind.wrap .i64 ((IntKind.wrap .i64 (v8.2.I+1))+1)) v8.2.P v8.2.zHd v8.2.First v8.2.To v8.2.Left v8.2.All p0.Wait v8.2.Bad) 8 (zaa.mk n27 n29 n31 s33)).bind fun v53 =>
         some ((zak.mk 0 0 0 0),v53.1,(zac.mk v53.2.T v53.2.I v53.2.P v53.2.zHd v53.2.First v53.2.To v53.2.Left v53.2.All p0.Wait v53.2.Bad))) else (zdk v8 p0 v13 3 0 v49.1)) else none) else (if (v35.2&&(n27==1))=true then (zdk v8 p0 v13 4 v35.1 0) else ((zaK (zac.mk v8.2.T (IntKind.wrap .i64 ((IntKind.wrap .i64 (v8.2.I+1))+1)) v8.2.P v8.2.zHd v8.2.First v8.2.To v8.2.Left v8.2.All p0.Wait v8.2.Bad) 4 (zaa.mk n27 n29 n31 s33)).bind fun v56 =>
         some ((zak.mk 0 0 0 0),v56.1,(zac.mk v56.2.T v56.2.I v56.2.P v56.2.zHd v56.2.First v56.2.To v56.2.Left v56.2.All p0.Wait v56.2.Bad))))) else none)) else none) else none))))) else none
noncomputable def ze4(p0:zac)(p1:zad):Option (Bool × zac × zad) :=
if InB p0.I p0.T.length then ((zdH (zac.mk p0.T p0.I p0.P p0.zHd p0.First p0.To p0.Left p0.All p0.Wait p0.Bad)).bind fun v2 =>
 if (!v2.2.1)=true then (some (false,(zac.mk v2.2.2.T v2.2.2.I v2.2.2.P v2.2.2.zHd v2.2.2.First v2.2.2.To v2.2.2.Left v2.2.2.All p0.Wait v2.2.2.Bad),(zad.mk p1.Op p1.Lock p1.Cond v2.1 p1.B p1.To p0.Wait))) else (if ((v2.1.Kind==2)||((v2.1.Kind==1)&&(p1.Lock||(p1.Op==8))))=true then ((zaK (zac.mk v2.2.2.T v2.2.2.I v2.2.2.P v2.2.2.zHd v2.2.2.First v2.2.2.To v2.2.2.Left v2.2.2.All p0.Wait v2.2.2.Bad) 4 (rd p0.T p0.I)).bind fun v6 =>
   some (v6.1,(zac.mk v6.2.T v6.2.I v6.2.P v6.2.zHd v6.2.First v6.2.To v6.2.Left v6.2.All p0.Wait v6.2.Bad),(zad.mk p1.Op p1.Lock p1.Cond v2.1 p1.B p1.To p0.Wait))) else (if InB v2.2.2.I v2.2.2.T.length then (if ((!((rd v2.2.2.T v2.2.2.I).Kind != 3))=true->InB v2.2.2.I v2.2.2.T.length) then ((some (((rd v2.2.2.T v2.2.2.I).Kind != 3)||(!decide ((rd v2.2.2.T v2.2.2.I).Text=(⟨#[44]⟩:ByteArray))))).bind fun b10 =>
   if b10=true then (if InB v2.2.2.I v2.2.2.T.length then ((zaK (zac.mk v2.2.2.T v2.2.2.I v2.2.2.P v2.2.2.zHd v2.2.2.First v2.2.2.To v2.2.2.Left v2.2.2.All p0.Wait v2.2.2.Bad) 4 (rd v2.2.2.T v2.2.2.I)).bind fun v14 =>
    some (v14.1,(zac.mk v14.2.T v14.2.I v14.2.P v14.2.zHd v14.2.First v14.2.To v14.2.Left v14.2.All p0.Wait v14.2.Bad),(zad.mk p1.Op p1.Lock p1.Cond v2.1 p1.B p1.To p0.Wait))) else none) else (if InB (IntKind.wrap .i64 (v2.2.2.I+1)) v2.2.2.T.length then ((zdH (zac.mk v2.2.2.T (IntKind.wrap .i64 (v2.2.2.I+1)) v2.2.2.P v2.2.2.zHd v2.2.2.First v2.2.2.To v2.2.2.Left v2.2.2.All p0.Wait v2.2.2.Bad)).bind fun v17 =>
    if (!v17.2.1)=true then (some (false,(zac.mk v17.2.2.T v17.2.2.I v17.2.2.P v17.2.2.zHd v17.2.2.First v17.2.2.To v17.2.2.Left v17.2.2.All p0.Wait v17.2.2.Bad),(zad.mk p1.Op p1.Lock p1.Cond v2.1 v17.1 p1.To p0.Wait))) else ((zdv (zad.mk p1.Op p1.Lock p1.Cond v2.1 v17.1 p1.To p0.Wait)).bind fun v20 =>
     if (!v20)=true then ((zaK (zac.mk v17.2.2.T v17.2.2.I v17.2.2.P v17.2.2.zHd v17.2.2.First v17.2.2.To v17.2.2.Left v17.2.2.All p0.Wait v17.2.2.Bad) 4 (rd v2.2.2.T (IntKind.wrap .i64 (v2.2.2.I+1)))).bind fun v23 =>
      some (v23.1,(zac.mk v23.2.T v23.2.I v23.2.P v23.2.zHd v23.2.First v23.2.To v23.2.Left v23.2.All p0.Wait v23.2.Bad),(zad.mk p1.Op p1.Lock p1.Cond v2.1 v17.1 p1.To p0.Wait))) else (some (true,(zac.mk v17.2.2.T v17.2.2.I v17.2.2.P v17.2.2.zHd v17.2.2.First v17.2.2.To v17.2.2.Left v17.2.2.All p0.Wait v17.2.2.Bad),(zad.mk p1.Op p1.Lock p1.Cond v2.1 v17.1 p1.To p0.Wait))))) else none)) else none) else none))) else none
noncomputable def zdc(p0:zac)(l21:List zaa)(i22:Int)(l23:List zan)(l24:List zae)(l25:List zaa)(l26:List (List zaa))(l27:List (List zaa))(l28:List Int)(l29:List ByteArray)(i30:Int)(i31:Int)(i33:Int)(i34:Int)(b35:Bool)(i36:Int)(i37:Int)(i38:Int)(i39:Int)(i40:Int)(i41:Int)(i42:Int)(i43:Int)(i44:Int)(s45:ByteArray)(i46:Int)(i47:Int)(i48:Int)(s49:ByteArray):Option (Bool × zac) :=
 if InB (IntKind.wrap .i64 ((l24.length:Int)-1)) l24.length then (if Fits (((rd l24 (IntKind.wrap .i64 ((l24.length:Int)-1))).Ins).length+1) then (if InB (IntKind.wrap .i64 ((l24.length:Int)-1)) l24.length then ((some (l24.set ((IntKind.wrap .i64 ((l24.length:Int)-1)).toNat) (zae.mk (((rd l24 (IntKind.wrap .i64 ((l24.length:Int)-1))).Ins)++([(zad.mk i34 b35 i36 (zak.mk i37 i38 i39 i40) (zak.mk i41 i42 i43 i44) s45 p0.Wait)]))))).bind fun l53 =>
         if InB (IntKind.wrap .i64 ((l24.length:Int)-1)) l26.length then (if Fits ((rd l26 (IntKind.wrap .i64 ((l24.length:Int)-1))).length+1) then (if InB (IntKind.wrap .i64 ((l24.length:Int)-1)) l27.length then (if Fits ((rd l27 (IntKind.wrap .i64 ((l24.length:Int)-1))).length+1) then (if InB (IntKind.wrap .i64 ((l24.length:Int)-1)) l26.length then (if InB (IntKind.wrap .i64 ((l24.length:Int)-1)) l27.length then ((some (l26.set ((IntKind.wrap .i64 ((l24.length:Int)-1)).toNat) ((rd l26 (IntKind.wrap .i64 ((l24.length:Int)-1)))++([(rd p0.T p0.I)])))).bind fun l61 =>
         (some (l27.set ((IntKind.wrap .i64 ((l24.length:Int)-1)).toNat) ((rd l27 (IntKind.wrap .i64 ((l24.length:Int)-1)))++([(zaa.mk i46 i47 i48 s49)])))).bind fun l63 =>
         some (true,(zac.mk l21 i22 (zaf.mk l23 l53) l25 l61 l63 l28 l29 ([]:List ByteArray) (zai.mk i30 i31 i33)))) else none) else none) else none) else none) else none) else none) else none) else none) else none
noncomputable def zeg(p0:zac)(i5:Int)(b6:Bool)(i7:Int)(i9:Int)(i10:Int)(s11:ByteArray):Option (Bool × zac) :=
 (zlP s11).bind fun v12 =>
   (if ((!((i7 != 1)||(!v12.2.2)))&&b6)=true then zcY v12.1 else some default).bind fun v14 =>
   (some ((((i7 != 1)||(!v12.2.2))||((b6&&(!v14))&&(v12.1 != 9)))||((!b6)&&(v12.1==9)))).bind fun b16 =>
   if b16=true then ((zaB (zac.mk p0.T i5 p0.P p0.zHd p0.First p0.To p0.Left p0.All p0.Wait p0.Bad) 4 (zaa.mk i7 i9 i10 s11)).bind fun v19 =>
    some (v19.1,v19.2)) else ((za1 v12.1).bind fun v65 =>
     if v65=true then ((zef (zac.mk p0.T (IntKind.wrap .i64 (i5+1)) p0.P p0.zHd p0.First p0.To p0.Left p0.All p0.Wait p0.Bad)).bind fun v68 =>
      if (!v68.1)=true then (some (false,(zac.mk v68.2.T v68.2.I v68.2.P v68.2.zHd v68.2.First v68.2.To v68.2.Left v68.2.All p0.Wait v68.2.Bad))) else (if InB v68.2.I v68.2.T.length then (zdc p0 v68.2.T (IntKind.wrap .i64 (v68.2.I+1)) v68.2.P.zSy v68.2.P.zTh v68.2.zHd v68.2.First v68.2.To v68.2.Left v68.2.All v68.2.Bad.Code v68.2.Bad.Line v68.2.Bad.Col v12.1 b6 v12.2.1 0 0 0 0 0 0 0 0 ((rd v68.2.T v68.2.I).Text) ((rd v68.2.T v68.2.I).Kind) ((rd v68.2.T v68.2.I).Line) ((rd v68.2.T v68.2.I).Col) ((rd v68.2.T v68.2.I).Text)) else none)) else (if decide (v12.1<=9)=true then ((ze4 (zac.mk p0.T (IntKind.wrap .i64 (i5+1)) p0.P p0.zHd p0.First p0.To p0.Left p0.All p0.Wait p0.Bad) (zad.mk v12.1 b6 v12.2.1 (zak.mk 0 0 0 0) (zak.mk 0 0 0 0) (⟨#[]⟩:ByteArray) p0.Wait)).bind fun v73 =>
       if (!v73.1)=true then (some (false,(zac.mk v73.2.1.T v73.2.1.I v73.2.1.P v73.2.1.zHd v73.2.1.First v73.2.1.To v73.2.1.Left v73.2.1.All p0.Wait v73.2.1.Bad))) else (zdc p0 v73.2.1.T v73.2.1.I v73.2.1.P.zSy v73.2.1.P.zTh v73.2.1.zHd v73.2.1.First v73.2.1.To v73.2.1.Left v73.2.1.All v73.2.1.Bad.Code v73.2.1.Bad.Line v73.2.1.Bad.Col v73.2.2.Op v73.2.2.Lock v73.2.2.Cond v73.2.2.A.Kind v73.2.2.A.Reg v73.2.2.A.Sym v73.2.2.A.N v73.2.2.B.Kind v73.2.2.B.Reg v73.2.2.B.Sym v73.2.2.B.N v73.2.2.To 0 0 0 (⟨#[]⟩:ByteArray))) else (zdc p0 p0.T (IntKind.wrap .i64 (i5+1)) p0.P.zSy p0.P.zTh p0.zHd p0.First p0.To p0.Left p0.All p0.Bad.Code p0.Bad.Line p0.Bad.Col v12.1 b6 v12.2.1 0 0 0 0 0 0 0 0 (⟨#[]⟩:ByteArray) 0 0 0 (⟨#[]⟩:ByteArray))))
noncomputable def zg1(p0:zac):Option (Bool × zac) :=
if InB p0.I p0.T.length then (if ((rd p0.T p0.I).Kind != 1)=true then ((zaB p0 4 (rd p0.T p0.I)).bind fun v3 =>
  some (v3.1,v3.2)) else (if decide ((rd p0.T p0.I).Text=(⟨#[108,111,99,107]⟩:ByteArray))=true then (if InB (IntKind.wrap .i64 (p0.I+1)) p0.T.length then (zeg p0 (IntKind.wrap .i64 (p0.I+1)) true ((rd p0.T (IntKind.wrap .i64 (p0.I+1))).Kind) ((rd p0.T (IntKind.wrap .i64 (p0.I+1))).Line) ((rd p0.T (IntKind.wrap .i64 (p0.I+1))).Col) ((rd p0.T (IntKind.wrap .i64 (p0.I+1))).Text)) else none) else (zeg p0 p0.I false ((rd p0.T p0.I).Kind) ((rd p0.T p0.I).Line) ((rd p0.T p0.I).Col) ((rd p0.T p0.I).Text)))) else none
noncomputable def zfS:((List zaa) × Int × (List zan) × (List zae) × (List zaa) × (List (List zaa)) × (List (List zaa)) × (List Int) × (List ByteArray) × (List ByteArray) × Int × Int × Int)->Option (((List zaa) × Int × (List zan) × (List zae) × (List zaa) × (List (List zaa)) × (List (List zaa)) × (List Int) × (List ByteArray) × (List ByteArray) × Int × Int × Int) ⊕ (((List zaa) × Int × (List zan) × (List zae) × (List zaa) × (List (List zaa)) × (List (List zaa)) × (List Int) × (List ByteArray) × (List ByteArray) × Int × Int × Int) ⊕ (Bool × zac)))
 | (l62,i63,l64,l65,l66,l67,l68,l69,l70,l71,i72,i73,i74) =>
 if InB i63 l62.length then (if (((rd l62 i63).Kind==1)=true->InB (IntKind.wrap .i64 (i63+1)) l62.length) then (if ((((rd l62 i63).Kind==1)&&((rd l62 (IntKind.wrap .i64 (i63+1))).Kind==3))=true->InB (IntKind.wrap .i64 (i63+1)) l62.length) then ((some ((((rd l62 i63).Kind==1)&&((rd l62 (IntKind.wrap .i64 (i63+1))).Kind==3))&&decide ((rd l62 (IntKind.wrap .i64 (i63+1))).Text=(⟨#[58]⟩:ByteArray)))).bind fun b114 =>
   if b114=true then ((zey (zac.mk l62 i63 (zaf.mk l64 l65) l66 l67 l68 l69 l70 l71 (zai.mk i72 i73 i74))).bind fun v117 =>
    if (!v117.1)=true then (some (.inr (.inr (false,v117.2)))) else (if InB v117.2.I v117.2.T.length then ((zik v117.2.All ((rd v117.2.T v117.2.I).Text)).bind fun v121 =>
     if decide (v121≥0)=true then (if InB v117.2.I v117.2.T.length then ((zaB v117.2 6 (rd v117.2.T v117.2.I)).bind fun v125 =>
      some (.inr (.inr (v125.1,v125.2)))) else none) else (if Fits (v117.2.All.length+1) then (if Fits (v117.2.Wait.length+1) then ((some (v117.2.All++([(rd v117.2.T v117.2.I).Text]))).bind fun l129 =>
      (some (v117.2.Wait++([(rd v117.2.T v117.2.I).Text]))).bind fun l131 =>
      some (.inl (v117.2.T,(IntKind.wrap .i64 (v117.2.I+2)),v117.2.P.zSy,v117.2.P.zTh,v117.2.zHd,v117.2.First,v117.2.To,v117.2.Left,l129,l131,v117.2.Bad.Code,v117.2.Bad.Line,v117.2.Bad.Col))) else none) else none)) else none)) else (some (.inr (.inl (l62,i63,l64,l65,l66,l67,l68,l69,l70,l71,i72,i73,i74))))) else none) else none) else none
noncomputable def zgN(p0:zac):Option (Bool × zac) :=
if ((p0.P.zTh.length:Int)==0)=true then (if InB p0.I p0.T.length then ((zaB p0 4 (rd p0.T p0.I)).bind fun v3 =>
  some (v3.1,v3.2)) else none) else ((zaL (zfS) (p0.T,p0.I,p0.P.zSy,p0.P.zTh,p0.zHd,p0.First,p0.To,p0.Left,p0.All,p0.Wait,p0.Bad.Code,p0.Bad.Line,p0.Bad.Col)).bind (zbu (fun er110 =>
  if InB er110.2.1 er110.1.length then (if ((rd er110.1 er110.2.1).Kind==4)=true then (some (true,(zac.mk er110.1 er110.2.1 (zaf.mk er110.2.2.1 er110.2.2.2.1) er110.2.2.2.2.1 er110.2.2.2.2.2.1 er110.2.2.2.2.2.2.1 er110.2.2.2.2.2.2.2.1 er110.2.2.2.2.2.2.2.2.1 er110.2.2.2.2.2.2.2.2.2.1 (zai.mk er110.2.2.2.2.2.2.2.2.2.2.1 er110.2.2.2.2.2.2.2.2.2.2.2.1 er110.2.2.2.2.2.2.2.2.2.2.2.2)))) else ((zg1 (zac.mk er110.1 er110.2.1 (zaf.mk er110.2.2.1 er110.2.2.2.1) er110.2.2.2.2.1 er110.2.2.2.2.2.1 er110.2.2.2.2.2.2.1 er110.2.2.2.2.2.2.2.1 er110.2.2.2.2.2.2.2.2.1 er110.2.2.2.2.2.2.2.2.2.1 (zai.mk er110.2.2.2.2.2.2.2.2.2.2.1 er110.2.2.2.2.2.2.2.2.2.2.2.1 er110.2.2.2.2.2.2.2.2.2.2.2.2))).bind fun v135 =>
     some (v135.1,v135.2))) else none) (fun qr110=>some qr110)))
noncomputable def zex(p0:zac):Option (zac) :=
if decide ((p0.P.zTh.length:Int)>0)=true then (if Fits (p0.Left.length+1) then ((some (p0.Left++([(p0.Wait.length:Int)]))).bind fun l3 =>
  some (zac.mk p0.T p0.I p0.P p0.zHd p0.First p0.To l3 ([]:List ByteArray) ([]:List ByteArray) p0.Bad)) else none) else (some (zac.mk p0.T p0.I p0.P p0.zHd p0.First p0.To p0.Left ([]:List ByteArray) ([]:List ByteArray) p0.Bad))
noncomputable def zf9(p0:zac):Option (Bool × zac) :=
if ((p0.P.zTh.length:Int)==64)=true then (if InB p0.I p0.T.length then ((zaB p0 10 (rd p0.T p0.I)).bind fun v3 =>
  some (v3.1,v3.2)) else none) else ((zex p0).bind fun v5 =>
  if Fits (v5.P.zTh.length+1) then ((some (v5.P.zTh++[(zae.mk ([]:List zad))])).bind fun l8 =>
  if InB v5.I v5.T.length then (if Fits (v5.zHd.length+1) then ((some (v5.zHd++([(rd v5.T v5.I)]))).bind fun l12 =>
  if Fits (v5.First.length+1) then (if Fits (v5.To.length+1) then ((some (v5.First++[([]:List zaa)])).bind fun l16 =>
  (some (v5.To++[([]:List zaa)])).bind fun l18 =>
  some (true,(zac.mk v5.T (IntKind.wrap .i64 (v5.I+1)) (zaf.mk v5.P.zSy l8) l12 l16 l18 v5.Left v5.All v5.Wait v5.Bad))) else none) else none) else none) else none) else none)
noncomputable def zga(v9:Bool × zac)(v25:Int × Bool):(Int × (List Int))->Option ((Int × (List Int)) ⊕ ((Int × (List Int)) ⊕ (Bool × zac)))
 | (i59,l60) =>
 if InB i59 v9.2.T.length then (if ((rd v9.2.T i59).Kind==2)=true then (if ((l60.length:Int)==v25.1)=true then (if InB i59 v9.2.T.length then ((zaB (zac.mk v9.2.T i59 v9.2.P v9.2.zHd v9.2.First v9.2.To v9.2.Left v9.2.All v9.2.Wait v9.2.Bad) 5 (rd v9.2.T i59)).bind fun v82 =>
                   some (.inr (.inr (v82.1,v82.2)))) else none) else (if InB i59 v9.2.T.length then ((zcI ((rd v9.2.T i59).Text)).bind fun v85 =>
                   if Fits (l60.length+1) then ((some (l60++([v85.1]))).bind fun l88 =>
                   some (.inl ((IntKind.wrap .i64 (i59+1)),l88))) else none) else none)) else (some (.inr (.inl (i59,l60))))) else none
noncomputable def zg0(p0:zac):Option (Bool × zac) :=
if decide ((p0.P.zTh.length:Int)>0)=true then (if InB p0.I p0.T.length then ((zaB p0 4 (rd p0.T p0.I)).bind fun v3 =>
  some (v3.1,v3.2)) else none) else (if ((p0.P.zSy.length:Int)==64)=true then (if InB p0.I p0.T.length then ((zaB p0 10 (rd p0.T p0.I)).bind fun v7 =>
   some (v7.1,v7.2)) else none) else ((zey (zac.mk p0.T (IntKind.wrap .i64 (p0.I+1)) p0.P p0.zHd p0.First p0.To p0.Left p0.All p0.Wait p0.Bad)).bind fun v9 =>
   if (!v9.1)=true then (some (false,v9.2)) else (if InB v9.2.I v9.2.T.length then ((zeQ (zaf.mk v9.2.P.zSy v9.2.P.zTh)).bind fun v13 =>
    (zaP v13 ((rd v9.2.T v9.2.I).Text)).bind fun v15 =>
    if decide (v15≥0)=true then (if InB v9.2.I v9.2.T.length then ((zaB v9.2 6 (rd v9.2.T v9.2.I)).bind fun v19 =>
     some (v19.1,v19.2)) else none) else (if InB (IntKind.wrap .i64 (v9.2.I+1)) v9.2.T.length then (if ((rd v9.2.T (IntKind.wrap .i64 (v9.2.I+1))).Kind != 2)=true then ((zaB (zac.mk v9.2.T (IntKind.wrap .i64 (v9.2.I+1)) v9.2.P v9.2.zHd v9.2.First v9.2.To v9.2.Left v9.2.All v9.2.Wait v9.2.Bad) 4 (rd v9.2.T (IntKind.wrap .i64 (v9.2.I+1)))).bind fun v23 =>
      some (v23.1,v23.2)) else ((zcI ((rd v9.2.T (IntKind.wrap .i64 (v9.2.I+1))).Text)).bind fun v25 =>
      if (decide (v25.1<1)||decide (v25.1>64))=true then ((zaB (zac.mk v9.2.T (IntKind.wrap .i64 (v9.2.I+1)) v9.2.P v9.2.zHd v9.2.First v9.2.To v9.2.Left v9.2.All v9.2.Wait v9.2.Bad) 5 (rd v9.2.T (IntKind.wrap .i64 (v9.2.I+1)))).bind fun v28 =>
       some (v28.1,v28.2)) else ((zaL (zga v9 v25) ((IntKind.wrap .i64 ((IntKind.wrap .i64 (v9.2.I+1))+1)),[])).bind (zbu (fun er77 =>
       if Fits (v9.2.P.zSy.length+1) then ((some (v9.2.P.zSy++([(zan.mk ((rd v9.2.T v9.2.I).Text) v25.1 er77.2)]))).bind fun l91 =>
         some (true,(zac.mk v9.2.T er77.1 (zaf.mk l91 v9.2.P.zTh) v9.2.zHd v9.2.First v9.2.To v9.2.Left v9.2.All v9.2.Wait v9.2.Bad))) else none) (fun qr77=>some qr77))))) else none)) else none)))
noncomputable def zch(b2:Bool)(l3:List zaa)(i4:Int)(l5:List zan)(l6:List zae)(l7:List zaa)(l8:List (List zaa))(l9:List (List zaa))(l10:List Int)(l11:List ByteArray)(l12:List ByteArray)(i13:Int)(i14:Int)(i15:Int):Option (Bool × zac) :=
 if (b2=true->InB i4 l3.length) then (if (b2&&((rd l3 i4).Kind != 4))=true then (if InB i4 l3.length then ((zaB (zac.mk l3 i4 (zaf.mk l5 l6) l7 l8 l9 l10 l11 l12 (zai.mk i13 i14 i15)) 4 (rd l3 i4)).bind fun v19 =>
   some (v19.1,v19.2)) else none) else (some (b2,(zac.mk l3 (IntKind.wrap .i64 (i4+1)) (zaf.mk l5 l6) l7 l8 l9 l10 l11 l12 (zai.mk i13 i14 i15))))) else none
noncomputable def zgO(p0:zac):Option (Bool × zac) :=
if InB p0.I p0.T.length then (if ((rd p0.T p0.I).Kind==4)=true then (zch  true p0.T p0.I p0.P.zSy p0.P.zTh p0.zHd p0.First p0.To p0.Left p0.All p0.Wait p0.Bad.Code p0.Bad.Line p0.Bad.Col) else ((some (((rd p0.T p0.I).Kind==1)&&decide ((rd p0.T p0.I).Text=(⟨#[115,121,109]⟩:ByteArray)))).bind fun b22 =>
   if b22=true then ((zg0 p0).bind fun v25 =>
    zch  v25.1 v25.2.T v25.2.I v25.2.P.zSy v25.2.P.zTh v25.2.zHd v25.2.First v25.2.To v25.2.Left v25.2.All v25.2.Wait v25.2.Bad.Code v25.2.Bad.Line v25.2.Bad.Col) else ((some (((rd p0.T p0.I).Kind==1)&&decide ((rd p0.T p0.I).Text=(⟨#[116,104,114,101,97,100]⟩:ByteArray)))).bind fun b27 =>
    if b27=true then ((zf9 p0).bind fun v30 =>
     zch  v30.1 v30.2.T v30.2.I v30.2.P.zSy v30.2.P.zTh v30.2.zHd v30.2.First v30.2.To v30.2.Left v30.2.All v30.2.Wait v30.2.Bad.Code v30.2.Bad.Line v30.2.Bad.Col) else ((zgN p0).bind fun v32 =>
     zch  v32.1 v32.2.T v32.2.I v32.2.P.zSy v32.2.P.zTh v32.2.zHd v32.2.First v32.2.To v32.2.Left v32.2.All v32.2.Wait v32.2.Bad.Code v32.2.Bad.Line v32.2.Bad.Col)))) else none
noncomputable def zd1(i36:Int)(i49:Int):Option ((Int × Int) ⊕ ((Unit) ⊕ (Bool × zac))) :=
 some (.inl (i49,(IntKind.wrap .i64 (i36+1))))
noncomputable def zfU(l2:List zad)(p1:Int)(p0:zac):(Int × Int)->Option ((Int × Int) ⊕ ((Unit) ⊕ (Bool × zac)))
 | (i35,i36) =>
 if decide (i36<(l2.length:Int))=true then (if InB i36 l2.length then (if ((rd l2 i36).Op==12)=true then (zd1 i36 i35) else (if (i35==4096)=true then (if InB p1 p0.First.length then (if InB i36 ((rd p0.First p1).length) then (if InB i36 (rd p0.First p1).length then ((zaB (zac.mk p0.T p0.I (zaf.mk p0.P.zSy (p0.P.zTh.set p1.toNat (zae.mk l2))) p0.zHd p0.First p0.To p0.Left p0.All p0.Wait p0.Bad) 10 (rd (rd p0.First p1) i36)).bind fun v56 =>
             some (.inr (.inr (v56.1,v56.2)))) else none) else none) else none) else (zd1 i36 (IntKind.wrap .i64 (i35+1))))) else none) else (some (.inr (.inl ())))
noncomputable def zfT(l2:List zad)(p1:Int)(p0:zac):Int->Option ((Int) ⊕ ((Unit) ⊕ (Bool × zac)))
 | i87 =>
 if decide (i87<(l2.length:Int))=true then (if InB i87 l2.length then ((za1 ((rd l2 i87).Op)).bind fun v105 =>
           if (v105=true->InB p1 p0.P.zTh.length) then (if (v105=true->InB i87 l2.length) then ((if v105=true then zdg (zae.mk l2) ((rd l2 i87).To) else some default).bind fun v109 =>
           if (v105&&decide (v109<0))=true then (if InB p1 p0.To.length then (if InB i87 ((rd p0.To p1).length) then (if InB i87 (rd p0.To p1).length then ((zaB (zac.mk p0.T p0.I (zaf.mk p0.P.zSy (p0.P.zTh.set p1.toNat (zae.mk l2))) p0.zHd p0.First p0.To p0.Left p0.All p0.Wait p0.Bad) 7 (rd (rd p0.To p1) i87)).bind fun v116 =>
       some (.inr (.inr (v116.1,v116.2)))) else none) else none) else none) else (some (.inl (IntKind.wrap .i64 (i87+1))))) else none) else none) else none) else (some (.inr (.inl ())))
noncomputable def zgP(p0:zac)(p1:Int):Option (Bool × zac) :=
if InB p1 p0.P.zTh.length then ((some ((rd p0.P.zTh p1).Ins)).bind fun l2 =>
 if ((!((l2.length:Int)==0))=true->InB p1 p0.Left.length) then (if ((!(((l2.length:Int)==0)||decide ((rd p0.Left p1)>0)))=true->InB (IntKind.wrap .i64 ((l2.length:Int)-1)) l2.length) then (if (((!(((l2.length:Int)==0)||decide ((rd p0.Left p1)>0)))&&((rd l2 (IntKind.wrap .i64 ((l2.length:Int)-1))).Op != 10))=true->InB (IntKind.wrap .i64 ((l2.length:Int)-1)) l2.length) then ((some ((((l2.length:Int)==0)||decide ((rd p0.Left p1)>0))||(((rd l2 (IntKind.wrap .i64 ((l2.length:Int)-1))).Op != 10)&&((rd l2 (IntKind.wrap .i64 ((l2.length:Int)-1))).Op != 14)))).bind fun b7 =>
 if b7=true then (if InB p1 p0.zHd.length then ((zaB (zac.mk p0.T p0.I (zaf.mk p0.P.zSy (p0.P.zTh.set p1.toNat (zae.mk l2))) p0.zHd p0.First p0.To p0.Left p0.All p0.Wait p0.Bad) 9 (rd p0.zHd p1)).bind fun v11 =>
  some (v11.1,v11.2)) else none) else ((zaL (zfU l2 p1 p0) (0,0)).bind (zbu (fun er47 =>
  (zaL (zfT l2 p1 p0) 0).bind (zbu (fun er102 =>
    (some (p0.P.zTh.set p1.toNat (zae.mk l2))).bind fun l118 =>
      some (true,(zac.mk p0.T p0.I (zaf.mk p0.P.zSy l118) p0.zHd p0.First p0.To p0.Left p0.All p0.Wait p0.Bad))) (fun qr102=>some qr102))) (fun qr47=>some qr47)))) else none) else none) else none) else none
noncomputable def zhY(v1:(List zaa) × zai):((List zaa) × Int × (List zan) × (List zae) × (List zaa) × (List (List zaa)) × (List (List zaa)) × (List Int) × (List ByteArray) × (List ByteArray) × Int × Int × Int)->Option (((List zaa) × Int × (List zan) × (List zae) × (List zaa) × (List (List zaa)) × (List (List zaa)) × (List Int) × (List ByteArray) × (List ByteArray) × Int × Int × Int) ⊕ (((List zaa) × Int × (List zan) × (List zae) × (List zaa) × (List (List zaa)) × (List (List zaa)) × (List Int) × (List ByteArray) × (List ByteArray) × Int × Int × Int) ⊕ (zaf × zai)))
 | (l25,i26,l27,l28,l29,l30,l31,l32,l33,l34,i35,i36,i37) =>
 if decide (i26<(v1.1.length:Int))=true then ((zgO (zac.mk l25 i26 (zaf.mk l27 l28) l29 l30 l31 l32 l33 l34 (zai.mk i35 i36 i37))).bind fun v57 =>
    if (!v57.1)=true then (some (.inr (.inr ((zaf.mk ([]:List zan) ([]:List zae)),v57.2.Bad)))) else (some (.inl (v57.2.T,v57.2.I,v57.2.P.zSy,v57.2.P.zTh,v57.2.zHd,v57.2.First,v57.2.To,v57.2.Left,v57.2.All,v57.2.Wait,v57.2.Bad.Code,v57.2.Bad.Line,v57.2.Bad.Col)))) else (some (.inr (.inl (l25,i26,l27,l28,l29,l30,l31,l32,l33,l34,i35,i36,i37))))
noncomputable def zhX:(Int × (List zaa) × Int × (List zan) × (List zae) × (List zaa) × (List (List zaa)) × (List (List zaa)) × (List Int) × (List ByteArray) × (List ByteArray) × Int × Int × Int)->Option ((Int × (List zaa) × Int × (List zan) × (List zae) × (List zaa) × (List (List zaa)) × (List (List zaa)) × (List Int) × (List ByteArray) × (List ByteArray) × Int × Int × Int) ⊕ (((List zaa) × Int × (List zan) × (List zae) × (List zaa) × (List (List zaa)) × (List (List zaa)) × (List Int) × (List ByteArray) × (List ByteArray) × Int × Int × Int) ⊕ (zaf × zai)))
 | (i84,l85,i86,l87,l88,l89,l90,l91,l92,l93,l94,i95,i96,i97) =>
 if decide (i84<(l88.length:Int))=true then ((zgP (zac.mk l85 i86 (zaf.mk l87 l88) l89 l90 l91 l92 l93 l94 (zai.mk i95 i96 i97)) i84).bind fun v117 =>
           if (!v117.1)=true then (some (.inr (.inr ((zaf.mk ([]:List zan) ([]:List zae)),v117.2.Bad)))) else (some (.inl ((IntKind.wrap .i64 (i84+1)),v117.2.T,v117.2.I,v117.2.P.zSy,v117.2.P.zTh,v117.2.zHd,v117.2.First,v117.2.To,v117.2.Left,v117.2.All,v117.2.Wait,v117.2.Bad.Code,v117.2.Bad.Line,v117.2.Bad.Col)))) else (some (.inr (.inl (l85,i86,l87,l88,l89,l90,l91,l92,l93,l94,i95,i96,i97))))
noncomputable def zjr(p0:ByteArray):Option (zaf × zai) :=
(ziW p0).bind fun v1 =>
 if (v1.2.Code != 0)=true then (some ((zaf.mk ([]:List zan) ([]:List zae)),v1.2)) else ((zaL (zhY v1) (v1.1,0,([]:List zan),([]:List zae),([]:List zaa),([]:List (List zaa)),([]:List (List zaa)),([]:List Int),([]:List ByteArray),([]:List ByteArray),0,0,0)).bind (zbu (fun er55 =>
  (zex (zac.mk er55.1 er55.2.1 (zaf.mk er55.2.2.1 er55.2.2.2.1) er55.2.2.2.2.1 er55.2.2.2.2.2.1 er55.2.2.2.2.2.2.1 er55.2.2.2.2.2.2.2.1 er55.2.2.2.2.2.2.2.2.1 er55.2.2.2.2.2.2.2.2.2.1 (zai.mk er55.2.2.2.2.2.2.2.2.2.2.1 er55.2.2.2.2.2.2.2.2.2.2.2.1 er55.2.2.2.2.2.2.2.2.2.2.2.2))).bind fun v60 =>
    (zaL (zhX) (0,v60.T,v60.I,v60.P.zSy,v60.P.zTh,v60.zHd,v60.First,v60.To,v60.Left,v60.All,v60.Wait,v60.Bad.Code,v60.Bad.Line,v60.Bad.Col)).bind (zbu (fun er115 =>
    some ((zaf.mk er115.2.2.1 er115.2.2.2.1),(zai.mk 0 0 0))) (fun qr115=>some qr115))) (fun qr55=>some qr55)))
end Go.Vs
