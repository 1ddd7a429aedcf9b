import Derived.Test.YtocjejladeeckaaGreatDoorPalT
import Derived.Test.YtocjejladeeckaaGreatDoorPalC
import Derived.Test.YtocjejladeeckaaGreatDoorPalK
import Derived.Test.YtocjejladeeckaaGreatDoorPalL
set_option linter.all false
namespace Go.Vs
noncomputable def zeH(p0:ByteArray):Option (Int × Int × Bool) :=
if decide (p0=(⟨#[]⟩:ByteArray))=true then (some (0,0,false)) else ((zet).bind fun v2 =>
  (za6 v2 p0).bind fun v4 =>
  if decide (v4>0)=true then (some (v4,0,true)) else ((zdM).bind fun v7 =>
   (za6 v7 p0).bind fun v9 =>
   if decide (v9>0)=true then (some (11,v9,true)) else (some (0,0,false))))
noncomputable def zeu(p0:ByteArray):Option (Int × Bool) :=
(zd9).bind fun v1 =>
 (za6 v1 p0).bind fun v3 =>
 if decide (v3<0)=true then (some (0,false)) else (some (v3,true))
noncomputable def zd8(p0:zaj):(Int × (List ByteArray))->Option ((Int × (List ByteArray)) ⊕ ((List ByteArray)))
 | (i14,l15) =>
 if decide (i14<(p0.zSy.length:Int))=true then (if InB i14 p0.zSy.length then (if Fits (l15.length+1) then ((some (l15++([(rd p0.zSy i14).Name]))).bind fun l28 =>
   some (.inl ((IntKind.wrap .i64 (i14+1)),l28))) else none) else none) else (some (.inr l15))
noncomputable def zda(p0:zaj):Option ((List ByteArray)) :=
(zaP (zd8 p0) (0,[])).bind fun r24 =>
 some r24
noncomputable def zeD(p0:(List ByteArray))(p1:ByteArray):Int->Option ((Int) ⊕ ((Unit) ⊕ (Int)))
 | i9 =>
 if decide (i9<(p0.length:Int))=true then (if InB i9 p0.length then (if decide ((rd p0 i9)=p1)=true then (some (.inr (.inr i9))) else (some (.inl (IntKind.wrap .i64 (i9+1))))) else none) else (some (.inr (.inl ())))
noncomputable def zdR(p0:(List ByteArray))(p1:ByteArray):Option (Int) :=
(zaP (zeD p0 p1) 0).bind (zb0 (fun er13 =>
 some (-1)) (fun qr13=>some qr13))
noncomputable def zaG(p0:zab)(p1:Int)(p2:zaa):Option (Bool × zab) :=
some (false,(zab.mk p0.T p0.I p0.P p0.zHd p0.First p0.To p0.Left p0.All p0.Wait (zak.mk p1 p2.Line p2.Col)))
noncomputable def zaN(p0:zab)(p1:Int)(p2:zaa):Option (Bool × zab) :=
some (false,(zab.mk p0.T p0.I p0.P p0.zHd p0.First p0.To p0.Left p0.All p0.Wait (zak.mk p1 p2.Line p2.Col)))
noncomputable def zca(p0:zab):Option (Bool × zab) :=
if InB p0.I p0.T.length then (if ((rd p0.T p0.I).Kind != 1)=true then ((zaG p0 4 (rd p0.T p0.I)).bind fun v3 =>
  some (v3.1,v3.2)) else ((zdA ((rd p0.T p0.I).Text)).bind fun v5 =>
  if v5=true then ((zaG p0 3 (rd p0.T p0.I)).bind fun v8 =>
   some (v8.1,v8.2)) else (some (true,p0)))) else none
noncomputable def zbM(p0:zab):Option (Bool × zab) :=
if InB p0.I p0.T.length then (if ((rd p0.T p0.I).Kind != 1)=true then ((zaN (zab.mk p0.T p0.I p0.P p0.zHd p0.First p0.To p0.Left p0.All p0.Wait p0.Bad) 4 (rd p0.T p0.I)).bind fun v3 =>
  some (v3.1,(zab.mk v3.2.T v3.2.I v3.2.P v3.2.zHd v3.2.First v3.2.To v3.2.Left v3.2.All p0.Wait v3.2.Bad))) else ((zdA ((rd p0.T p0.I).Text)).bind fun v5 =>
  if v5=true then ((zaN (zab.mk p0.T p0.I p0.P p0.zHd p0.First p0.To p0.Left p0.All p0.Wait p0.Bad) 3 (rd p0.T p0.I)).bind fun v8 =>
   some (v8.1,(zab.mk v8.2.T v8.2.I v8.2.P v8.2.zHd v8.2.First v8.2.To v8.2.Left v8.2.All p0.Wait v8.2.Bad))) else (some (true,(zab.mk p0.T p0.I p0.P p0.zHd p0.First p0.To p0.Left p0.All p0.Wait p0.Bad))))) else none
noncomputable def zaZ(v8:Bool × zab)(p0:zab)(v13:Int)(i37:Int)(i38:Int)(i39:Int):Option (zap × Bool × zab) :=
 (some (IntKind.wrap .i64 ((IntKind.wrap .i64 ((IntKind.wrap .i64 (v8.2.I+1))+1))+1))).bind fun n40 =>
             if InB n40 v8.2.T.length then (if ((!((rd v8.2.T n40).Kind != 3))=true->InB n40 v8.2.T.length) then (if (((rd v8.2.T n40).Kind != 3)||(!decide ((rd v8.2.T n40).Text=(⟨#[93]⟩:ByteArray))))=true then (if InB n40 v8.2.T.length then ((zaN (zab.mk v8.2.T n40 v8.2.P v8.2.zHd v8.2.First v8.2.To v8.2.Left v8.2.All p0.Wait v8.2.Bad) 4 (rd v8.2.T n40)).bind fun v46 =>
        some ((zap.mk 0 0 0 0),v46.1,(zab.mk v46.2.T v46.2.I v46.2.P v46.2.zHd v46.2.First v46.2.To v46.2.Left v46.2.All p0.Wait v46.2.Bad))) else none) else (some ((zap.mk i37 i38 v13 i39),true,(zab.mk v8.2.T (IntKind.wrap .i64 (n40+1)) v8.2.P v8.2.zHd v8.2.First v8.2.To v8.2.Left v8.2.All p0.Wait v8.2.Bad)))) else none) else none
noncomputable def zbo(p0:zab):Option (zap × Bool × zab) :=
if InB p0.I p0.T.length then (if ((rd p0.T p0.I).Kind==2)=true then ((zce ((rd p0.T p0.I).Text)).bind fun v3 =>
  some ((zap.mk 2 0 0 v3.1),true,(zab.mk p0.T (IntKind.wrap .i64 (p0.I+1)) p0.P p0.zHd p0.First p0.To p0.Left p0.All p0.Wait p0.Bad))) else ((zeu ((rd p0.T p0.I).Text)).bind fun v5 =>
  if (v5.2&&((rd p0.T p0.I).Kind==1))=true then (some ((zap.mk 1 v5.1 0 0),true,(zab.mk p0.T (IntKind.wrap .i64 (p0.I+1)) p0.P p0.zHd p0.First p0.To p0.Left p0.All p0.Wait p0.Bad))) else ((zbM (zab.mk p0.T p0.I p0.P p0.zHd p0.First p0.To p0.Left p0.All p0.Wait p0.Bad)).bind fun v8 =>
   if (!v8.1)=true then (some ((zap.mk 0 0 0 0),false,(zab.mk v8.2.T v8.2.I v8.2.P v8.2.zHd v8.2.First v8.2.To v8.2.Left v8.2.All p0.Wait v8.2.Bad))) else ((zda (zaj.mk v8.2.P.zSy v8.2.P.zTh)).bind fun v11 =>
    (za6 v11 ((rd p0.T p0.I).Text)).bind fun v13 =>
    if decide (v13<0)=true then ((zaN (zab.mk v8.2.T v8.2.I v8.2.P v8.2.zHd v8.2.First v8.2.To v8.2.Left v8.2.All p0.Wait v8.2.Bad) 7 (rd p0.T p0.I)).bind fun v16 =>
     some ((zap.mk 0 0 0 0),v16.1,(zab.mk v16.2.T v16.2.I v16.2.P v16.2.zHd v16.2.First v16.2.To v16.2.Left v16.2.All p0.Wait v16.2.Bad))) else (if InB (IntKind.wrap .i64 (v8.2.I+1)) v8.2.T.length then (if ((!((rd v8.2.T (IntKind.wrap .i64 (v8.2.I+1))).Kind != 3))=true->InB (IntKind.wrap .i64 (v8.2.I+1)) v8.2.T.length) then ((some (((rd v8.2.T (IntKind.wrap .i64 (v8.2.I+1))).Kind != 3)||(!decide ((rd v8.2.T (IntKind.wrap .i64 (v8.2.I+1))).Text=(⟨#[91]⟩:ByteArray))))).bind fun b20 =>
     if b20=true then (if InB (IntKind.wrap .i64 (v8.2.I+1)) v8.2.T.length then ((zaN (zab.mk v8.2.T (IntKind.wrap .i64 (v8.2.I+1)) v8.2.P v8.2.zHd v8.2.First v8.2.To v8.2.Left v8.2.All p0.Wait v8.2.Bad) 4 (rd v8.2.T (IntKind.wrap .i64 (v8.2.I+1)))).bind fun v24 =>
      some ((zap.mk 0 0 0 0),v24.1,(zab.mk v24.2.T v24.2.I v24.2.P v24.2.zHd v24.2.First v24.2.To v24.2.Left v24.2.All p0.Wait v24.2.Bad))) else none) else (if InB (IntKind.wrap .i64 ((IntKind.wrap .i64 (v8.2.I+1))+1)) v8.2.T.length then ((some ((rd v8.2.T (IntKind.wrap .i64 ((IntKind.wrap .i64 (v8.2.I+1))+1))).Kind)).bind fun n27 =>
      (some ((rd v8.2.T (IntKind.wrap .i64 ((IntKind.wrap .i64 (v8.2.I+1))+1))).Line)).bind fun n29 =>
      (some ((rd v8.2.T (IntKind.wrap .i64 ((IntKind.wrap .i64 (v8.2.I+1))+1))).Col)).bind fun n31 =>
      (some ((rd v8.2.T (IntKind.wrap .i64 ((IntKind.wrap .i64 (v8.2.I+1))+1))).Text)).bind fun s33 =>
      (zeu s33).bind fun v35 =>
      if (n27==2)=true then ((zce s33).bind fun v49 =>
        if ((!decide (v49.1<0))=true->InB v13 v8.2.P.zSy.length) then (if (decide (v49.1<0)||decide (v49.1≥(rd v8.2.P.zSy v13).Size))=true then ((zaN (zab.mk v8.2.T (IntKind.wrap .i64 ((IntKind.wrap .i64 (v8.2.I+1))+1)) v8.2.P v8.2.zHd v8.2.First v8.2.To v8.2.Left v8.2.All p0.Wait v8.2.Bad) 8 (zaa.mk n27 n29 n31 s33)).bind fun v53 =>
         some ((zap.mk 0 0 0 0),v53.1,(zab.mk v53.2.T v53.2.I v53.2.P v53.2.zHd v53.2.First v53.2.To v53.2.Left v53.2.All p0.Wait v53.2.Bad))) else (zaZ v8 p0 v13 3 0 v49.1)) else none) else (if (v35.2&&(n27==1))=true then (zaZ v8 p0 v13 4 v35.1 0) else ((zaN (zab.mk v8.2.T (IntKind.wrap .i64 ((IntKind.wrap .i64 (v8.2.I+1))+1)) v8.2.P v8.2.zHd v8.2.First v8.2.To v8.2.Left v8.2.All p0.Wait v8.2.Bad) 4 (zaa.mk n27 n29 n31 s33)).bind fun v56 =>
         some ((zap.mk 0 0 0 0),v56.1,(zab.mk v56.2.T v56.2.I v56.2.P v56.2.zHd v56.2.First v56.2.To v56.2.Left v56.2.All p0.Wait v56.2.Bad))))) else none)) else none) else none))))) else none
noncomputable def zbG(p0:zab)(p1:zae):Option (Bool × zab × zae) :=
if InB p0.I p0.T.length then ((zbo (zab.mk p0.T p0.I p0.P p0.zHd p0.First p0.To p0.Left p0.All p0.Wait p0.Bad)).bind fun v2 =>
 if (!v2.2.1)=true then (some (false,(zab.mk v2.2.2.T v2.2.2.I v2.2.2.P v2.2.2.zHd v2.2.2.First v2.2.2.To v2.2.2.Left v2.2.2.All p0.Wait v2.2.2.Bad),(zae.mk p1.Op p1.Lock p1.Cond v2.1 p1.B p1.To p0.Wait))) else (if ((v2.1.Kind==2)||((v2.1.Kind==1)&&(p1.Lock||(p1.Op==8))))=true then ((zaN (zab.mk v2.2.2.T v2.2.2.I v2.2.2.P v2.2.2.zHd v2.2.2.First v2.2.2.To v2.2.2.Left v2.2.2.All p0.Wait v2.2.2.Bad) 4 (rd p0.T p0.I)).bind fun v6 =>
   some (v6.1,(zab.mk v6.2.T v6.2.I v6.2.P v6.2.zHd v6.2.First v6.2.To v6.2.Left v6.2.All p0.Wait v6.2.Bad),(zae.mk p1.Op p1.Lock p1.Cond v2.1 p1.B p1.To p0.Wait))) else (if InB v2.2.2.I v2.2.2.T.length then (if ((!((rd v2.2.2.T v2.2.2.I).Kind != 3))=true->InB v2.2.2.I v2.2.2.T.length) then ((some (((rd v2.2.2.T v2.2.2.I).Kind != 3)||(!decide ((rd v2.2.2.T v2.2.2.I).Text=(⟨#[44]⟩:ByteArray))))).bind fun b10 =>
   if b10=true then (if InB v2.2.2.I v2.2.2.T.length then ((zaN (zab.mk v2.2.2.T v2.2.2.I v2.2.2.P v2.2.2.zHd v2.2.2.First v2.2.2.To v2.2.2.Left v2.2.2.All p0.Wait v2.2.2.Bad) 4 (rd v2.2.2.T v2.2.2.I)).bind fun v14 =>
    some (v14.1,(zab.mk v14.2.T v14.2.I v14.2.P v14.2.zHd v14.2.First v14.2.To v14.2.Left v14.2.All p0.Wait v14.2.Bad),(zae.mk p1.Op p1.Lock p1.Cond v2.1 p1.B p1.To p0.Wait))) else none) else (if InB (IntKind.wrap .i64 (v2.2.2.I+1)) v2.2.2.T.length then ((zbo (zab.mk v2.2.2.T (IntKind.wrap .i64 (v2.2.2.I+1)) v2.2.2.P v2.2.2.zHd v2.2.2.First v2.2.2.To v2.2.2.Left v2.2.2.All p0.Wait v2.2.2.Bad)).bind fun v17 =>
    if (!v17.2.1)=true then (some (false,(zab.mk v17.2.2.T v17.2.2.I v17.2.2.P v17.2.2.zHd v17.2.2.First v17.2.2.To v17.2.2.Left v17.2.2.All p0.Wait v17.2.2.Bad),(zae.mk p1.Op p1.Lock p1.Cond v2.1 v17.1 p1.To p0.Wait))) else ((zes (zae.mk p1.Op p1.Lock p1.Cond v2.1 v17.1 p1.To p0.Wait)).bind fun v20 =>
     if (!v20)=true then ((zaN (zab.mk v17.2.2.T v17.2.2.I v17.2.2.P v17.2.2.zHd v17.2.2.First v17.2.2.To v17.2.2.Left v17.2.2.All p0.Wait v17.2.2.Bad) 4 (rd v2.2.2.T (IntKind.wrap .i64 (v2.2.2.I+1)))).bind fun v23 =>
      some (v23.1,(zab.mk v23.2.T v23.2.I v23.2.P v23.2.zHd v23.2.First v23.2.To v23.2.Left v23.2.All p0.Wait v23.2.Bad),(zae.mk p1.Op p1.Lock p1.Cond v2.1 v17.1 p1.To p0.Wait))) else (some (true,(zab.mk v17.2.2.T v17.2.2.I v17.2.2.P v17.2.2.zHd v17.2.2.First v17.2.2.To v17.2.2.Left v17.2.2.All p0.Wait v17.2.2.Bad),(zae.mk p1.Op p1.Lock p1.Cond v2.1 v17.1 p1.To p0.Wait))))) else none)) else none) else none))) else none
noncomputable def zbp(p0:zab)(l21:List zaa)(i22:Int)(l23:List zam)(l24:List zad)(l25:List zaa)(l26:List (List zaa))(l27:List (List zaa))(l28:List Int)(l29:List ByteArray)(i30:Int)(i31:Int)(i33:Int)(i34:Int)(b35:Bool)(i36:Int)(i37:Int)(i38:Int)(i39:Int)(i40:Int)(i41:Int)(i42:Int)(i43:Int)(i44:Int)(s45:ByteArray)(i46:Int)(i47:Int)(i48:Int)(s49:ByteArray):Option (Bool × zab) :=
 if InB (IntKind.wrap .i64 ((l24.length:Int)-1)) l24.length then (if Fits (((rd l24 (IntKind.wrap .i64 ((l24.length:Int)-1))).Ins).length+1) then (if InB (IntKind.wrap .i64 ((l24.length:Int)-1)) l24.length then ((some (l24.set ((IntKind.wrap .i64 ((l24.length:Int)-1)).toNat) (zad.mk (((rd l24 (IntKind.wrap .i64 ((l24.length:Int)-1))).Ins)++([(zae.mk i34 b35 i36 (zap.mk i37 i38 i39 i40) (zap.mk i41 i42 i43 i44) s45 p0.Wait)]))))).bind fun l53 =>
         if InB (IntKind.wrap .i64 ((l24.length:Int)-1)) l26.length then (if Fits ((rd l26 (IntKind.wrap .i64 ((l24.length:Int)-1))).length+1) then (if InB (IntKind.wrap .i64 ((l24.length:Int)-1)) l27.length then (if Fits ((rd l27 (IntKind.wrap .i64 ((l24.length:Int)-1))).length+1) then (if InB (IntKind.wrap .i64 ((l24.length:Int)-1)) l26.length then (if InB (IntKind.wrap .i64 ((l24.length:Int)-1)) l27.length then ((some (l26.set ((IntKind.wrap .i64 ((l24.length:Int)-1)).toNat) ((rd l26 (IntKind.wrap .i64 ((l24.length:Int)-1)))++([(rd p0.T p0.I)])))).bind fun l61 =>
         (some (l27.set ((IntKind.wrap .i64 ((l24.length:Int)-1)).toNat) ((rd l27 (IntKind.wrap .i64 ((l24.length:Int)-1)))++([(zaa.mk i46 i47 i48 s49)])))).bind fun l63 =>
         some (true,(zab.mk l21 i22 (zaj.mk l23 l53) l25 l61 l63 l28 l29 ([]:List ByteArray) (zak.mk i30 i31 i33)))) else none) else none) else none) else none) else none) else none) else none) else none) else none
noncomputable def zbN(p0:zab)(i5:Int)(b6:Bool)(i7:Int)(i9:Int)(i10:Int)(s11:ByteArray):Option (Bool × zab) :=
 (zeH s11).bind fun v12 =>
   (if ((!((i7 != 1)||(!v12.2.2)))&&b6)=true then zdh v12.1 else some default).bind fun v14 =>
   (some ((((i7 != 1)||(!v12.2.2))||((b6&&(!v14))&&(v12.1 != 9)))||((!b6)&&(v12.1==9)))).bind fun b16 =>
   if b16=true then ((zaG (zab.mk p0.T i5 p0.P p0.zHd p0.First p0.To p0.Left p0.All p0.Wait p0.Bad) 4 (zaa.mk i7 i9 i10 s11)).bind fun v19 =>
    some (v19.1,v19.2)) else ((zbm v12.1).bind fun v65 =>
     if v65=true then ((zbM (zab.mk p0.T (IntKind.wrap .i64 (i5+1)) p0.P p0.zHd p0.First p0.To p0.Left p0.All p0.Wait p0.Bad)).bind fun v68 =>
      if (!v68.1)=true then (some (false,(zab.mk v68.2.T v68.2.I v68.2.P v68.2.zHd v68.2.First v68.2.To v68.2.Left v68.2.All p0.Wait v68.2.Bad))) else (if InB v68.2.I v68.2.T.length then (zbp p0 v68.2.T (IntKind.wrap .i64 (v68.2.I+1)) v68.2.P.zSy v68.2.P.zTh v68.2.zHd v68.2.First v68.2.To v68.2.Left v68.2.All v68.2.Bad.Code v68.2.Bad.Line v68.2.Bad.Col v12.1 b6 v12.2.1 0 0 0 0 0 0 0 0 ((rd v68.2.T v68.2.I).Text) ((rd v68.2.T v68.2.I).Kind) ((rd v68.2.T v68.2.I).Line) ((rd v68.2.T v68.2.I).Col) ((rd v68.2.T v68.2.I).Text)) else none)) else (if decide (v12.1<=9)=true then ((zbG (zab.mk p0.T (IntKind.wrap .i64 (i5+1)) p0.P p0.zHd p0.First p0.To p0.Left p0.All p0.Wait p0.Bad) (zae.mk v12.1 b6 v12.2.1 (zap.mk 0 0 0 0) (zap.mk 0 0 0 0) (⟨#[]⟩:ByteArray) p0.Wait)).bind fun v73 =>
       if (!v73.1)=true then (some (false,(zab.mk v73.2.1.T v73.2.1.I v73.2.1.P v73.2.1.zHd v73.2.1.First v73.2.1.To v73.2.1.Left v73.2.1.All p0.Wait v73.2.1.Bad))) else (zbp p0 v73.2.1.T v73.2.1.I v73.2.1.P.zSy v73.2.1.P.zTh v73.2.1.zHd v73.2.1.First v73.2.1.To v73.2.1.Left v73.2.1.All v73.2.1.Bad.Code v73.2.1.Bad.Line v73.2.1.Bad.Col v73.2.2.Op v73.2.2.Lock v73.2.2.Cond v73.2.2.A.Kind v73.2.2.A.Reg v73.2.2.A.Sym v73.2.2.A.N v73.2.2.B.Kind v73.2.2.B.Reg v73.2.2.B.Sym v73.2.2.B.N v73.2.2.To 0 0 0 (⟨#[]⟩:ByteArray))) else (zbp p0 p0.T (IntKind.wrap .i64 (i5+1)) p0.P.zSy p0.P.zTh p0.zHd p0.First p0.To p0.Left p0.All p0.Bad.Code p0.Bad.Line p0.Bad.Col v12.1 b6 v12.2.1 0 0 0 0 0 0 0 0 (⟨#[]⟩:ByteArray) 0 0 0 (⟨#[]⟩:ByteArray))))
noncomputable def zc8(p0:zab):Option (Bool × zab) :=
if InB p0.I p0.T.length then (if ((rd p0.T p0.I).Kind != 1)=true then ((zaG p0 4 (rd p0.T p0.I)).bind fun v3 =>
  some (v3.1,v3.2)) else (if decide ((rd p0.T p0.I).Text=(⟨#[108,111,99,107]⟩:ByteArray))=true then (if InB (IntKind.wrap .i64 (p0.I+1)) p0.T.length then (zbN p0 (IntKind.wrap .i64 (p0.I+1)) true ((rd p0.T (IntKind.wrap .i64 (p0.I+1))).Kind) ((rd p0.T (IntKind.wrap .i64 (p0.I+1))).Line) ((rd p0.T (IntKind.wrap .i64 (p0.I+1))).Col) ((rd p0.T (IntKind.wrap .i64 (p0.I+1))).Text)) else none) else (zbN p0 p0.I false ((rd p0.T p0.I).Kind) ((rd p0.T p0.I).Line) ((rd p0.T p0.I).Col) ((rd p0.T p0.I).Text)))) else none
noncomputable def za9:((List zaa) × Int × (List zam) × (List zad) × (List zaa) × (List (List zaa)) × (List (List zaa)) × (List Int) × (List ByteArray) × (List ByteArray) × Int × Int × Int)->Option (((List zaa) × Int × (List zam) × (List zad) × (List zaa) × (List (List zaa)) × (List (List zaa)) × (List Int) × (List ByteArray) × (List ByteArray) × Int × Int × Int) ⊕ (((List zaa) × Int × (List zam) × (List zad) × (List zaa) × (List (List zaa)) × (List (List zaa)) × (List Int) × (List ByteArray) × (List ByteArray) × Int × Int × Int) ⊕ (Bool × zab)))
 | (l62,i63,l64,l65,l66,l67,l68,l69,l70,l71,i72,i73,i74) =>
 if InB i63 l62.length then (if (((rd l62 i63).Kind==1)=true->InB (IntKind.wrap .i64 (i63+1)) l62.length) then (if ((((rd l62 i63).Kind==1)&&((rd l62 (IntKind.wrap .i64 (i63+1))).Kind==3))=true->InB (IntKind.wrap .i64 (i63+1)) l62.length) then ((some ((((rd l62 i63).Kind==1)&&((rd l62 (IntKind.wrap .i64 (i63+1))).Kind==3))&&decide ((rd l62 (IntKind.wrap .i64 (i63+1))).Text=(⟨#[58]⟩:ByteArray)))).bind fun b114 =>
   if b114=true then ((zca (zab.mk l62 i63 (zaj.mk l64 l65) l66 l67 l68 l69 l70 l71 (zak.mk i72 i73 i74))).bind fun v117 =>
    if (!v117.1)=true then (some (.inr (.inr (false,v117.2)))) else (if InB v117.2.I v117.2.T.length then ((zdR v117.2.All ((rd v117.2.T v117.2.I).Text)).bind fun v121 =>
     if decide (v121≥0)=true then (if InB v117.2.I v117.2.T.length then ((zaG v117.2 6 (rd v117.2.T v117.2.I)).bind fun v125 =>
      some (.inr (.inr (v125.1,v125.2)))) else none) else (if Fits (v117.2.All.length+1) then (if Fits (v117.2.Wait.length+1) then ((some (v117.2.All++([(rd v117.2.T v117.2.I).Text]))).bind fun l129 =>
      (some (v117.2.Wait++([(rd v117.2.T v117.2.I).Text]))).bind fun l131 =>
      some (.inl (v117.2.T,(IntKind.wrap .i64 (v117.2.I+2)),v117.2.P.zSy,v117.2.P.zTh,v117.2.zHd,v117.2.First,v117.2.To,v117.2.Left,l129,l131,v117.2.Bad.Code,v117.2.Bad.Line,v117.2.Bad.Col))) else none) else none)) else none)) else (some (.inr (.inl (l62,i63,l64,l65,l66,l67,l68,l69,l70,l71,i72,i73,i74))))) else none) else none) else none
noncomputable def zb9(p0:zab):Option (Bool × zab) :=
if ((p0.P.zTh.length:Int)==0)=true then (if InB p0.I p0.T.length then ((zaG p0 4 (rd p0.T p0.I)).bind fun v3 =>
  some (v3.1,v3.2)) else none) else ((zaP (za9) (p0.T,p0.I,p0.P.zSy,p0.P.zTh,p0.zHd,p0.First,p0.To,p0.Left,p0.All,p0.Wait,p0.Bad.Code,p0.Bad.Line,p0.Bad.Col)).bind (zb0 (fun er110 =>
  if InB er110.2.1 er110.1.length then (if ((rd er110.1 er110.2.1).Kind==4)=true then (some (true,(zab.mk er110.1 er110.2.1 (zaj.mk er110.2.2.1 er110.2.2.2.1) er110.2.2.2.2.1 er110.2.2.2.2.2.1 er110.2.2.2.2.2.2.1 er110.2.2.2.2.2.2.2.1 er110.2.2.2.2.2.2.2.2.1 er110.2.2.2.2.2.2.2.2.2.1 (zak.mk er110.2.2.2.2.2.2.2.2.2.2.1 er110.2.2.2.2.2.2.2.2.2.2.2.1 er110.2.2.2.2.2.2.2.2.2.2.2.2)))) else ((zc8 (zab.mk er110.1 er110.2.1 (zaj.mk er110.2.2.1 er110.2.2.2.1) er110.2.2.2.2.1 er110.2.2.2.2.2.1 er110.2.2.2.2.2.2.1 er110.2.2.2.2.2.2.2.1 er110.2.2.2.2.2.2.2.2.1 er110.2.2.2.2.2.2.2.2.2.1 (zak.mk er110.2.2.2.2.2.2.2.2.2.2.1 er110.2.2.2.2.2.2.2.2.2.2.2.1 er110.2.2.2.2.2.2.2.2.2.2.2.2))).bind fun v135 =>
     some (v135.1,v135.2))) else none) (fun qr110=>some qr110)))
noncomputable def zbc(p0:zab):Option (zab) :=
if decide ((p0.P.zTh.length:Int)>0)=true then (if Fits (p0.Left.length+1) then ((some (p0.Left++([(p0.Wait.length:Int)]))).bind fun l3 =>
  some (zab.mk p0.T p0.I p0.P p0.zHd p0.First p0.To l3 ([]:List ByteArray) ([]:List ByteArray) p0.Bad)) else none) else (some (zab.mk p0.T p0.I p0.P p0.zHd p0.First p0.To p0.Left ([]:List ByteArray) ([]:List ByteArray) p0.Bad))
noncomputable def zco(p0:zab):Option (Bool × zab) :=
if ((p0.P.zTh.length:Int)==64)=true then (if InB p0.I p0.T.length then ((zaG p0 10 (rd p0.T p0.I)).bind fun v3 =>
  some (v3.1,v3.2)) else none) else ((zbc p0).bind fun v5 =>
  if Fits (v5.P.zTh.length+1) then ((some (v5.P.zTh++[(zad.mk ([]:List zae))])).bind fun l8 =>
  if InB v5.I v5.T.length then (if Fits (v5.zHd.length+1) then ((some (v5.zHd++([(rd v5.T v5.I)]))).bind fun l12 =>
  if Fits (v5.First.length+1) then (if Fits (v5.To.length+1) then ((some (v5.First++[([]:List zaa)])).bind fun l16 =>
  (some (v5.To++[([]:List zaa)])).bind fun l18 =>
  some (true,(zab.mk v5.T (IntKind.wrap .i64 (v5.I+1)) (zaj.mk v5.P.zSy l8) l12 l16 l18 v5.Left v5.All v5.Wait v5.Bad))) else none) else none) else none) else none) else none)
noncomputable def zbn(v9:Bool × zab)(v25:Int × Bool):(Int × (List Int))->Option ((Int × (List Int)) ⊕ ((Int × (List Int)) ⊕ (Bool × zab)))
 | (i59,l60) =>
 if InB i59 v9.2.T.length then (if ((rd v9.2.T i59).Kind==2)=true then (if ((l60.length:Int)==v25.1)=true then (if InB i59 v9.2.T.length then ((zaG (zab.mk v9.2.T i59 v9.2.P v9.2.zHd v9.2.First v9.2.To v9.2.Left v9.2.All v9.2.Wait v9.2.Bad) 5 (rd v9.2.T i59)).bind fun v82 =>
                   some (.inr (.inr (v82.1,v82.2)))) else none) else (if InB i59 v9.2.T.length then ((zce ((rd v9.2.T i59).Text)).bind fun v85 =>
                   if Fits (l60.length+1) then ((some (l60++([v85.1]))).bind fun l88 =>
                   some (.inl ((IntKind.wrap .i64 (i59+1)),l88))) else none) else none)) else (some (.inr (.inl (i59,l60))))) else none
noncomputable def zc7(p0:zab):Option (Bool × zab) :=
if decide ((p0.P.zTh.length:Int)>0)=true then (if InB p0.I p0.T.length then ((zaG p0 4 (rd p0.T p0.I)).bind fun v3 =>
  some (v3.1,v3.2)) else none) else (if ((p0.P.zSy.length:Int)==64)=true then (if InB p0.I p0.T.length then ((zaG p0 10 (rd p0.T p0.I)).bind fun v7 =>
   some (v7.1,v7.2)) else none) else ((zca (zab.mk p0.T (IntKind.wrap .i64 (p0.I+1)) p0.P p0.zHd p0.First p0.To p0.Left p0.All p0.Wait p0.Bad)).bind fun v9 =>
   if (!v9.1)=true then (some (false,v9.2)) else (if InB v9.2.I v9.2.T.length then ((zda (zaj.mk v9.2.P.zSy v9.2.P.zTh)).bind fun v13 =>
    (za6 v13 ((rd v9.2.T v9.2.I).Text)).bind fun v15 =>
    if decide (v15≥0)=true then (if InB v9.2.I v9.2.T.length then ((zaG v9.2 6 (rd v9.2.T v9.2.I)).bind fun v19 =>
     some (v19.1,v19.2)) else none) else (if InB (IntKind.wrap .i64 (v9.2.I+1)) v9.2.T.length then (if ((rd v9.2.T (IntKind.wrap .i64 (v9.2.I+1))).Kind != 2)=true then ((zaG (zab.mk v9.2.T (IntKind.wrap .i64 (v9.2.I+1)) v9.2.P v9.2.zHd v9.2.First v9.2.To v9.2.Left v9.2.All v9.2.Wait v9.2.Bad) 4 (rd v9.2.T (IntKind.wrap .i64 (v9.2.I+1)))).bind fun v23 =>
      some (v23.1,v23.2)) else ((zce ((rd v9.2.T (IntKind.wrap .i64 (v9.2.I+1))).Text)).bind fun v25 =>
      if (decide (v25.1<1)||decide (v25.1>64))=true then ((zaG (zab.mk v9.2.T (IntKind.wrap .i64 (v9.2.I+1)) v9.2.P v9.2.zHd v9.2.First v9.2.To v9.2.Left v9.2.All v9.2.Wait v9.2.Bad) 5 (rd v9.2.T (IntKind.wrap .i64 (v9.2.I+1)))).bind fun v28 =>
       some (v28.1,v28.2)) else ((zaP (zbn v9 v25) ((IntKind.wrap .i64 ((IntKind.wrap .i64 (v9.2.I+1))+1)),[])).bind (zb0 (fun er77 =>
       if Fits (v9.2.P.zSy.length+1) then ((some (v9.2.P.zSy++([(zam.mk ((rd v9.2.T v9.2.I).Text) v25.1 er77.2)]))).bind fun l91 =>
         some (true,(zab.mk v9.2.T er77.1 (zaj.mk l91 v9.2.P.zTh) v9.2.zHd v9.2.First v9.2.To v9.2.Left v9.2.All v9.2.Wait v9.2.Bad))) else none) (fun qr77=>some qr77))))) else none)) else none)))
noncomputable def zaY(b2:Bool)(l3:List zaa)(i4:Int)(l5:List zam)(l6:List zad)(l7:List zaa)(l8:List (List zaa))(l9:List (List zaa))(l10:List Int)(l11:List ByteArray)(l12:List ByteArray)(i13:Int)(i14:Int)(i15:Int):Option (Bool × zab) :=
 if (b2=true->InB i4 l3.length) then (if (b2&&((rd l3 i4).Kind != 4))=true then (if InB i4 l3.length then ((zaG (zab.mk l3 i4 (zaj.mk l5 l6) l7 l8 l9 l10 l11 l12 (zak.mk i13 i14 i15)) 4 (rd l3 i4)).bind fun v19 =>
   some (v19.1,v19.2)) else none) else (some (b2,(zab.mk l3 (IntKind.wrap .i64 (i4+1)) (zaj.mk l5 l6) l7 l8 l9 l10 l11 l12 (zak.mk i13 i14 i15))))) else none
noncomputable def zcb(p0:zab):Option (Bool × zab) :=
if InB p0.I p0.T.length then (if ((rd p0.T p0.I).Kind==4)=true then (zaY  true p0.T p0.I p0.P.zSy p0.P.zTh p0.zHd p0.First p0.To p0.Left p0.All p0.Wait p0.Bad.Code p0.Bad.Line p0.Bad.Col) else ((some (((rd p0.T p0.I).Kind==1)&&decide ((rd p0.T p0.I).Text=(⟨#[115,121,109]⟩:ByteArray)))).bind fun b22 =>
   if b22=true then ((zc7 p0).bind fun v25 =>
    zaY  v25.1 v25.2.T v25.2.I v25.2.P.zSy v25.2.P.zTh v25.2.zHd v25.2.First v25.2.To v25.2.Left v25.2.All v25.2.Wait v25.2.Bad.Code v25.2.Bad.Line v25.2.Bad.Col) else ((some (((rd p0.T p0.I).Kind==1)&&decide ((rd p0.T p0.I).Text=(⟨#[116,104,114,101,97,100]⟩:ByteArray)))).bind fun b27 =>
    if b27=true then ((zco p0).bind fun v30 =>
     zaY  v30.1 v30.2.T v30.2.I v30.2.P.zSy v30.2.P.zTh v30.2.zHd v30.2.First v30.2.To v30.2.Left v30.2.All v30.2.Wait v30.2.Bad.Code v30.2.Bad.Line v30.2.Bad.Col) else ((zb9 p0).bind fun v32 =>
     zaY  v32.1 v32.2.T v32.2.I v32.2.P.zSy v32.2.P.zTh v32.2.zHd v32.2.First v32.2.To v32.2.Left v32.2.All v32.2.Wait v32.2.Bad.Code v32.2.Bad.Line v32.2.Bad.Col)))) else none
noncomputable def zbz(i36:Int)(i49:Int):Option ((Int × Int) ⊕ ((Unit) ⊕ (Bool × zab))) :=
 some (.inl (i49,(IntKind.wrap .i64 (i36+1))))
noncomputable def zby(l2:List zae)(p1:Int)(p0:zab):(Int × Int)->Option ((Int × Int) ⊕ ((Unit) ⊕ (Bool × zab)))
 | (i35,i36) =>
 if decide (i36<(l2.length:Int))=true then (if InB i36 l2.length then (if ((rd l2 i36).Op==12)=true then (zbz i36 i35) else (if (i35==4096)=true then (if InB p1 p0.First.length then (if InB i36 ((rd p0.First p1).length) then (if InB i36 (rd p0.First p1).length then ((zaG (zab.mk p0.T p0.I (zaj.mk p0.P.zSy (p0.P.zTh.set p1.toNat (zad.mk l2))) p0.zHd p0.First p0.To p0.Left p0.All p0.Wait p0.Bad) 10 (rd (rd p0.First p1) i36)).bind fun v56 =>
             some (.inr (.inr (v56.1,v56.2)))) else none) else none) else none) else (zbz i36 (IntKind.wrap .i64 (i35+1))))) else none) else (some (.inr (.inl ())))
noncomputable def zbx(l2:List zae)(p1:Int)(p0:zab):Int->Option ((Int) ⊕ ((Unit) ⊕ (Bool × zab)))
 | i87 =>
 if decide (i87<(l2.length:Int))=true then (if InB i87 l2.length then ((zbm ((rd l2 i87).Op)).bind fun v105 =>
           if (v105=true->InB p1 p0.P.zTh.length) then (if (v105=true->InB i87 l2.length) then ((if v105=true then zdb (zad.mk l2) ((rd l2 i87).To) else some default).bind fun v109 =>
           if (v105&&decide (v109<0))=true then (if InB p1 p0.To.length then (if InB i87 ((rd p0.To p1).length) then (if InB i87 (rd p0.To p1).length then ((zaG (zab.mk p0.T p0.I (zaj.mk p0.P.zSy (p0.P.zTh.set p1.toNat (zad.mk l2))) p0.zHd p0.First p0.To p0.Left p0.All p0.Wait p0.Bad) 7 (rd (rd p0.To p1) i87)).bind fun v116 =>
       some (.inr (.inr (v116.1,v116.2)))) else none) else none) else none) else (some (.inl (IntKind.wrap .i64 (i87+1))))) else none) else none) else none) else (some (.inr (.inl ())))
noncomputable def zbF(p0:zab)(p1:Int):Option (Bool × zab) :=
if InB p1 p0.P.zTh.length then ((some ((rd p0.P.zTh p1).Ins)).bind fun l2 =>
 if ((!((l2.length:Int)==0))=true->InB p1 p0.Left.length) then (if ((!(((l2.length:Int)==0)||decide ((rd p0.Left p1)>0)))=true->InB (IntKind.wrap .i64 ((l2.length:Int)-1)) l2.length) then (if (((!(((l2.length:Int)==0)||decide ((rd p0.Left p1)>0)))&&((rd l2 (IntKind.wrap .i64 ((l2.length:Int)-1))).Op != 10))=true->InB (IntKind.wrap .i64 ((l2.length:Int)-1)) l2.length) then ((some ((((l2.length:Int)==0)||decide ((rd p0.Left p1)>0))||(((rd l2 (IntKind.wrap .i64 ((l2.length:Int)-1))).Op != 10)&&((rd l2 (IntKind.wrap .i64 ((l2.length:Int)-1))).Op != 14)))).bind fun b7 =>
 if b7=true then (if InB p1 p0.zHd.length then ((zaG (zab.mk p0.T p0.I (zaj.mk p0.P.zSy (p0.P.zTh.set p1.toNat (zad.mk l2))) p0.zHd p0.First p0.To p0.Left p0.All p0.Wait p0.Bad) 9 (rd p0.zHd p1)).bind fun v11 =>
  some (v11.1,v11.2)) else none) else ((zaP (zby l2 p1 p0) (0,0)).bind (zb0 (fun er47 =>
  (zaP (zbx l2 p1 p0) 0).bind (zb0 (fun er102 =>
    (some (p0.P.zTh.set p1.toNat (zad.mk l2))).bind fun l118 =>
      some (true,(zab.mk p0.T p0.I (zaj.mk p0.P.zSy l118) p0.zHd p0.First p0.To p0.Left p0.All p0.Wait p0.Bad))) (fun qr102=>some qr102))) (fun qr47=>some qr47)))) else none) else none) else none) else none
noncomputable def zbu(v1:(List zaa) × zak):((List zaa) × Int × (List zam) × (List zad) × (List zaa) × (List (List zaa)) × (List (List zaa)) × (List Int) × (List ByteArray) × (List ByteArray) × Int × Int × Int)->Option (((List zaa) × Int × (List zam) × (List zad) × (List zaa) × (List (List zaa)) × (List (List zaa)) × (List Int) × (List ByteArray) × (List ByteArray) × Int × Int × Int) ⊕ (((List zaa) × Int × (List zam) × (List zad) × (List zaa) × (List (List zaa)) × (List (List zaa)) × (List Int) × (List ByteArray) × (List ByteArray) × Int × Int × Int) ⊕ (zaj × zak)))
 | (l25,i26,l27,l28,l29,l30,l31,l32,l33,l34,i35,i36,i37) =>
 if decide (i26<(v1.1.length:Int))=true then ((zcb (zab.mk l25 i26 (zaj.mk l27 l28) l29 l30 l31 l32 l33 l34 (zak.mk i35 i36 i37))).bind fun v57 =>
    if (!v57.1)=true then (some (.inr (.inr ((zaj.mk ([]:List zam) ([]:List zad)),v57.2.Bad)))) else (some (.inl (v57.2.T,v57.2.I,v57.2.P.zSy,v57.2.P.zTh,v57.2.zHd,v57.2.First,v57.2.To,v57.2.Left,v57.2.All,v57.2.Wait,v57.2.Bad.Code,v57.2.Bad.Line,v57.2.Bad.Col)))) else (some (.inr (.inl (l25,i26,l27,l28,l29,l30,l31,l32,l33,l34,i35,i36,i37))))
noncomputable def zcW:(Int × (List zaa) × Int × (List zam) × (List zad) × (List zaa) × (List (List zaa)) × (List (List zaa)) × (List Int) × (List ByteArray) × (List ByteArray) × Int × Int × Int)->Option ((Int × (List zaa) × Int × (List zam) × (List zad) × (List zaa) × (List (List zaa)) × (List (List zaa)) × (List Int) × (List ByteArray) × (List ByteArray) × Int × Int × Int) ⊕ (((List zaa) × Int × (List zam) × (List zad) × (List zaa) × (List (List zaa)) × (List (List zaa)) × (List Int) × (List ByteArray) × (List ByteArray) × Int × Int × Int) ⊕ (zaj × zak)))
 | (i84,l85,i86,l87,l88,l89,l90,l91,l92,l93,l94,i95,i96,i97) =>
 if decide (i84<(l88.length:Int))=true then ((zbF (zab.mk l85 i86 (zaj.mk l87 l88) l89 l90 l91 l92 l93 l94 (zak.mk i95 i96 i97)) i84).bind fun v117 =>
           if (!v117.1)=true then (some (.inr (.inr ((zaj.mk ([]:List zam) ([]:List zad)),v117.2.Bad)))) else (some (.inl ((IntKind.wrap .i64 (i84+1)),v117.2.T,v117.2.I,v117.2.P.zSy,v117.2.P.zTh,v117.2.zHd,v117.2.First,v117.2.To,v117.2.Left,v117.2.All,v117.2.Wait,v117.2.Bad.Code,v117.2.Bad.Line,v117.2.Bad.Col)))) else (some (.inr (.inl (l85,i86,l87,l88,l89,l90,l91,l92,l93,l94,i95,i96,i97))))
noncomputable def zdN(p0:ByteArray):Option (zaj × zak) :=
(zdx p0).bind fun v1 =>
 if (v1.2.Code != 0)=true then (some ((zaj.mk ([]:List zam) ([]:List zad)),v1.2)) else ((zaP (zbu v1) (v1.1,0,([]:List zam),([]:List zad),([]:List zaa),([]:List (List zaa)),([]:List (List zaa)),([]:List Int),([]:List ByteArray),([]:List ByteArray),0,0,0)).bind (zb0 (fun er55 =>
  (zbc (zab.mk er55.1 er55.2.1 (zaj.mk er55.2.2.1 er55.2.2.2.1) er55.2.2.2.2.1 er55.2.2.2.2.2.1 er55.2.2.2.2.2.2.1 er55.2.2.2.2.2.2.2.1 er55.2.2.2.2.2.2.2.2.1 er55.2.2.2.2.2.2.2.2.2.1 (zak.mk er55.2.2.2.2.2.2.2.2.2.2.1 er55.2.2.2.2.2.2.2.2.2.2.2.1 er55.2.2.2.2.2.2.2.2.2.2.2.2))).bind fun v60 =>
    (zaP (zcW) (0,v60.T,v60.I,v60.P.zSy,v60.P.zTh,v60.zHd,v60.First,v60.To,v60.Left,v60.All,v60.Wait,v60.Bad.Code,v60.Bad.Line,v60.Bad.Col)).bind (zb0 (fun er115 =>
    some ((zaj.mk er115.2.2.1 er115.2.2.2.1),(zak.mk 0 0 0))) (fun qr115=>some qr115))) (fun qr55=>some qr55)))
end Go.Vs
