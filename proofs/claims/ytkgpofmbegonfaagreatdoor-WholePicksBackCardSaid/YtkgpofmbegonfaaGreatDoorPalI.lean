import Derived.Test.YtkgpofmbegonfaaGreatDoorPalT
import Derived.Test.YtkgpofmbegonfaaGreatDoorPalB
import Derived.Test.YtkgpofmbegonfaaGreatDoorPalC
import Derived.Test.YtkgpofmbegonfaaGreatDoorPalX
set_option linter.all false
namespace Go.Vs
noncomputable def zaI(p0:zaa)(p1:Int)(p2:zac):Option (Bool × zaa) :=
some (false,(zaa.mk p0.l p0.at_ p0.p p0.b (zah.mk p1 p2.Line p2.Col)))
noncomputable def za2(p0:zaa):Option (Bool × zaa) :=
if InB p0.at_ p0.l.length then (if ((rd p0.l p0.at_).Kind != 4)=true then (if InB p0.at_ p0.l.length then ((zaI p0 4 (rd p0.l p0.at_)).bind fun v4 =>
  some (v4.1,v4.2)) else none) else (some (true,(zaa.mk p0.l (IntKind.wrap .i64 (p0.at_+1)) p0.p p0.b p0.f)))) else none
noncomputable def zcQ(p0:zaa)(p1:ByteArray):Int->Option ((Int) ⊕ ((Unit) ⊕ (Int × Bool × zaa)))
 | i9 =>
 if decide (i9<(p0.p.zSy.length:Int))=true then (if InB i9 p0.p.zSy.length then (if decide ((rd p0.p.zSy i9).Name=p1)=true then (some (.inr (.inr (i9,true,p0)))) else (some (.inl (IntKind.wrap .i64 (i9+1))))) else none) else (some (.inr (.inl ())))
noncomputable def zcD(p0:zaa)(p1:ByteArray):Option (Int × Bool × zaa) :=
(zbn (zcQ p0 p1) 0).bind (zcG (fun er13 =>
 some (0,false,p0)) (fun qr13=>some qr13))
noncomputable def za0(v16:Int × Bool × zaa)(v25:Int × Bool):(Int × (List Int))->Option ((Int × (List Int)) ⊕ ((Int × (List Int)) ⊕ (Bool × zaa)))
 | (i59,l60) =>
 if InB i59 v16.2.2.l.length then (if ((rd v16.2.2.l i59).Kind==2)=true then (if ((l60.length:Int)==v25.1)=true then (if InB i59 v16.2.2.l.length then ((zaI (zaa.mk v16.2.2.l i59 v16.2.2.p v16.2.2.b v16.2.2.f) 5 (rd v16.2.2.l i59)).bind fun v82 =>
                     some (.inr (.inr (v82.1,v82.2)))) else none) else (if InB i59 v16.2.2.l.length then ((zcH ((rd v16.2.2.l i59).Text)).bind fun v85 =>
                     if Fits (l60.length+1) then ((some (l60++([v85.1]))).bind fun l88 =>
                     some (.inl ((IntKind.wrap .i64 (i59+1)),l88))) else none) else none)) else (some (.inr (.inl (i59,l60))))) else none
noncomputable def zbF(p0:zaa)(p1:zac):Option (Bool × zaa) :=
if decide ((p0.b.length:Int)>0)=true then ((zaI p0 4 p1).bind fun v2 =>
  some (v2.1,v2.2)) else (if decide ((p0.p.zSy.length:Int)≥64)=true then ((zaI p0 10 p1).bind fun v5 =>
   some (v5.1,v5.2)) else (if InB (IntKind.wrap .i64 (p0.at_+1)) p0.l.length then (if ((rd p0.l (IntKind.wrap .i64 (p0.at_+1))).Kind != 1)=true then ((zaI p0 4 (rd p0.l (IntKind.wrap .i64 (p0.at_+1)))).bind fun v9 =>
    some (v9.1,v9.2)) else ((zcn ((rd p0.l (IntKind.wrap .i64 (p0.at_+1))).Text)).bind fun v11 =>
    if v11=true then ((zaI p0 3 (rd p0.l (IntKind.wrap .i64 (p0.at_+1)))).bind fun v14 =>
     some (v14.1,v14.2)) else ((zcD p0 ((rd p0.l (IntKind.wrap .i64 (p0.at_+1))).Text)).bind fun v16 =>
     if v16.2.1=true then ((zaI v16.2.2 6 (rd p0.l (IntKind.wrap .i64 (p0.at_+1)))).bind fun v19 =>
      some (v19.1,v19.2)) else (if InB (IntKind.wrap .i64 (v16.2.2.at_+2)) v16.2.2.l.length then (if ((rd v16.2.2.l (IntKind.wrap .i64 (v16.2.2.at_+2))).Kind != 2)=true then ((zaI v16.2.2 4 (rd v16.2.2.l (IntKind.wrap .i64 (v16.2.2.at_+2)))).bind fun v23 =>
       some (v23.1,v23.2)) else ((zcH ((rd v16.2.2.l (IntKind.wrap .i64 (v16.2.2.at_+2))).Text)).bind fun v25 =>
       if (decide (v25.1<1)||decide (v25.1>64))=true then ((zaI v16.2.2 5 (rd v16.2.2.l (IntKind.wrap .i64 (v16.2.2.at_+2)))).bind fun v28 =>
        some (v28.1,v28.2)) else ((zbn (za0 v16 v25) ((IntKind.wrap .i64 (v16.2.2.at_+3)),[])).bind (zcG (fun er77 =>
        if Fits (v16.2.2.p.zSy.length+1) then ((some (v16.2.2.p.zSy++([(zaz.mk ((rd p0.l (IntKind.wrap .i64 (p0.at_+1))).Text) v25.1 er77.2)]))).bind fun l91 =>
          (za2 (zaa.mk v16.2.2.l er77.1 (zaE.mk l91 v16.2.2.p.zTh) v16.2.2.b v16.2.2.f)).bind fun v93 =>
          some (v93.1,v93.2)) else none) (fun qr77=>some qr77))))) else none)))) else none))
noncomputable def zaw(p0:zaa)(p1:Int)(p2:zac):Option (Bool × zaa) :=
some (false,(zaa.mk p0.l p0.at_ p0.p p0.b (zah.mk p1 p2.Line p2.Col)))
noncomputable def zb8(p0:zaa):Option (Bool × zaa) :=
if InB p0.at_ p0.l.length then (if ((rd p0.l p0.at_).Kind != 4)=true then (if InB p0.at_ p0.l.length then ((zaw (zaa.mk p0.l p0.at_ p0.p p0.b p0.f) 4 (rd p0.l p0.at_)).bind fun v4 =>
  some (v4.1,(zaa.mk v4.2.l v4.2.at_ v4.2.p p0.b v4.2.f))) else none) else (some (true,(zaa.mk p0.l (IntKind.wrap .i64 (p0.at_+1)) p0.p p0.b p0.f)))) else none
noncomputable def zaN(p0:zaa)(p1:Int)(p2:ByteArray):Option (Bool × zaa) :=
if InB p1 p0.l.length then (if (((rd p0.l p1).Kind==3)=true->InB p1 p0.l.length) then (some ((((rd p0.l p1).Kind==3)&&decide ((rd p0.l p1).Text=p2)),(zaa.mk p0.l p0.at_ p0.p p0.b p0.f))) else none) else none
noncomputable def zb5(p0:zaa)(p1:ByteArray):Int->Option ((Int) ⊕ ((Unit) ⊕ (Int × Bool × zaa)))
 | i9 =>
 if decide (i9<(p0.p.zSy.length:Int))=true then (if InB i9 p0.p.zSy.length then (if decide ((rd p0.p.zSy i9).Name=p1)=true then (some (.inr (.inr (i9,true,(zaa.mk p0.l p0.at_ p0.p p0.b p0.f))))) else (some (.inl (IntKind.wrap .i64 (i9+1))))) else none) else (some (.inr (.inl ())))
noncomputable def zbG(p0:zaa)(p1:ByteArray):Option (Int × Bool × zaa) :=
(zbn (zb5 p0 p1) 0).bind (zcG (fun er13 =>
 some (0,false,(zaa.mk p0.l p0.at_ p0.p p0.b p0.f))) (fun qr13=>some qr13))
noncomputable def zbM(p0:zaa)(p1:Int)(p2:zao):Option (Bool × zaa × zao) :=
if InB p0.at_ p0.l.length then (if ((rd p0.l p0.at_).Kind==2)=true then ((zcH ((rd p0.l p0.at_).Text)).bind fun v3 =>
  if ((!decide (v3.1<0))=true->InB p1 p0.p.zSy.length) then (if (decide (v3.1<0)||decide (v3.1≥(rd p0.p.zSy p1).Size))=true then ((zaw (zaa.mk p0.l p0.at_ p0.p p0.b p0.f) 8 (rd p0.l p0.at_)).bind fun v7 =>
   some (v7.1,(zaa.mk v7.2.l v7.2.at_ v7.2.p p0.b v7.2.f),p2)) else (some (true,(zaa.mk p0.l (IntKind.wrap .i64 (p0.at_+1)) p0.p p0.b p0.f),(zao.mk p2.Op p2.Lock p2.Cond (zax.mk 3 0 p1 v3.1) p2.B p2.To p2.zLb)))) else none) else ((zde ((rd p0.l p0.at_).Text)).bind fun v9 =>
  if (((rd p0.l p0.at_).Kind != 1)||(!v9.2))=true then ((zaw (zaa.mk p0.l p0.at_ p0.p p0.b p0.f) 4 (rd p0.l p0.at_)).bind fun v12 =>
   some (v12.1,(zaa.mk v12.2.l v12.2.at_ v12.2.p p0.b v12.2.f),p2)) else (some (true,(zaa.mk p0.l (IntKind.wrap .i64 (p0.at_+1)) p0.p p0.b p0.f),(zao.mk p2.Op p2.Lock p2.Cond (zax.mk 4 v9.1 p1 0) p2.B p2.To p2.zLb))))) else none
noncomputable def zbL(p0:zaa)(p1:Int)(p2:zao):Option (Bool × zaa × zao) :=
if InB p0.at_ p0.l.length then (if ((rd p0.l p0.at_).Kind==2)=true then ((zcH ((rd p0.l p0.at_).Text)).bind fun v3 =>
  if ((!decide (v3.1<0))=true->InB p1 p0.p.zSy.length) then (if (decide (v3.1<0)||decide (v3.1≥(rd p0.p.zSy p1).Size))=true then ((zaw (zaa.mk p0.l p0.at_ p0.p p0.b p0.f) 8 (rd p0.l p0.at_)).bind fun v7 =>
   some (v7.1,(zaa.mk v7.2.l v7.2.at_ v7.2.p p0.b v7.2.f),p2)) else (some (true,(zaa.mk p0.l (IntKind.wrap .i64 (p0.at_+1)) p0.p p0.b p0.f),(zao.mk p2.Op p2.Lock p2.Cond p2.A (zax.mk 3 0 p1 v3.1) p2.To p2.zLb)))) else none) else ((zde ((rd p0.l p0.at_).Text)).bind fun v9 =>
  if (((rd p0.l p0.at_).Kind != 1)||(!v9.2))=true then ((zaw (zaa.mk p0.l p0.at_ p0.p p0.b p0.f) 4 (rd p0.l p0.at_)).bind fun v12 =>
   some (v12.1,(zaa.mk v12.2.l v12.2.at_ v12.2.p p0.b v12.2.f),p2)) else (some (true,(zaa.mk p0.l (IntKind.wrap .i64 (p0.at_+1)) p0.p p0.b p0.f),(zao.mk p2.Op p2.Lock p2.Cond p2.A (zax.mk 4 v9.1 p1 0) p2.To p2.zLb))))) else none
noncomputable def zbr(p0:zaa)(p1:zao):Option (Bool × zaa × zao) :=
if InB p0.at_ p0.l.length then (if ((rd p0.l p0.at_).Kind==2)=true then ((zcH ((rd p0.l p0.at_).Text)).bind fun v3 =>
  some (true,(zaa.mk p0.l (IntKind.wrap .i64 (p0.at_+1)) p0.p p0.b p0.f),(zao.mk p1.Op p1.Lock p1.Cond (zax.mk 2 0 0 v3.1) p1.B p1.To p1.zLb))) else (if ((rd p0.l p0.at_).Kind != 1)=true then ((zaw (zaa.mk p0.l p0.at_ p0.p p0.b p0.f) 4 (rd p0.l p0.at_)).bind fun v6 =>
   some (v6.1,(zaa.mk v6.2.l v6.2.at_ v6.2.p p0.b v6.2.f),p1)) else ((zde ((rd p0.l p0.at_).Text)).bind fun v8 =>
   if v8.2=true then (some (true,(zaa.mk p0.l (IntKind.wrap .i64 (p0.at_+1)) p0.p p0.b p0.f),(zao.mk p1.Op p1.Lock p1.Cond (zax.mk 1 v8.1 0 0) p1.B p1.To p1.zLb))) else ((zcn ((rd p0.l p0.at_).Text)).bind fun v11 =>
    if v11=true then ((zaw (zaa.mk p0.l p0.at_ p0.p p0.b p0.f) 3 (rd p0.l p0.at_)).bind fun v14 =>
     some (v14.1,(zaa.mk v14.2.l v14.2.at_ v14.2.p p0.b v14.2.f),p1)) else ((zbG (zaa.mk p0.l p0.at_ p0.p p0.b p0.f) ((rd p0.l p0.at_).Text)).bind fun v16 =>
     if (!v16.2.1)=true then ((zaw (zaa.mk v16.2.2.l v16.2.2.at_ v16.2.2.p p0.b v16.2.2.f) 7 (rd p0.l p0.at_)).bind fun v19 =>
      some (v19.1,(zaa.mk v19.2.l v19.2.at_ v19.2.p p0.b v19.2.f),p1)) else ((zaN (zaa.mk v16.2.2.l (IntKind.wrap .i64 (v16.2.2.at_+1)) v16.2.2.p p0.b v16.2.2.f) (IntKind.wrap .i64 (v16.2.2.at_+1)) (⟨#[91]⟩:ByteArray)).bind fun v21 =>
      if (!v21.1)=true then (if InB v21.2.at_ v21.2.l.length then ((zaw (zaa.mk v21.2.l v21.2.at_ v21.2.p p0.b v21.2.f) 4 (rd v21.2.l v21.2.at_)).bind fun v25 =>
       some (v25.1,(zaa.mk v25.2.l v25.2.at_ v25.2.p p0.b v25.2.f),p1)) else none) else ((zbM (zaa.mk v21.2.l (IntKind.wrap .i64 (v21.2.at_+1)) v21.2.p p0.b v21.2.f) v16.1 p1).bind fun v27 =>
       if (!v27.1)=true then (some (false,(zaa.mk v27.2.1.l v27.2.1.at_ v27.2.1.p p0.b v27.2.1.f),v27.2.2)) else ((zaN (zaa.mk v27.2.1.l v27.2.1.at_ v27.2.1.p p0.b v27.2.1.f) v27.2.1.at_ (⟨#[93]⟩:ByteArray)).bind fun v30 =>
        if (!v30.1)=true then (if InB v30.2.at_ v30.2.l.length then ((zaw (zaa.mk v30.2.l v30.2.at_ v30.2.p p0.b v30.2.f) 4 (rd v30.2.l v30.2.at_)).bind fun v34 =>
         some (v34.1,(zaa.mk v34.2.l v34.2.at_ v34.2.p p0.b v34.2.f),v27.2.2)) else none) else (some (true,(zaa.mk v30.2.l (IntKind.wrap .i64 (v30.2.at_+1)) v30.2.p p0.b v30.2.f),v27.2.2)))))))))) else none
noncomputable def zbq(p0:zaa)(p1:zao):Option (Bool × zaa × zao) :=
if InB p0.at_ p0.l.length then (if ((rd p0.l p0.at_).Kind==2)=true then ((zcH ((rd p0.l p0.at_).Text)).bind fun v3 =>
  some (true,(zaa.mk p0.l (IntKind.wrap .i64 (p0.at_+1)) p0.p p0.b p0.f),(zao.mk p1.Op p1.Lock p1.Cond p1.A (zax.mk 2 0 0 v3.1) p1.To p1.zLb))) else (if ((rd p0.l p0.at_).Kind != 1)=true then ((zaw (zaa.mk p0.l p0.at_ p0.p p0.b p0.f) 4 (rd p0.l p0.at_)).bind fun v6 =>
   some (v6.1,(zaa.mk v6.2.l v6.2.at_ v6.2.p p0.b v6.2.f),p1)) else ((zde ((rd p0.l p0.at_).Text)).bind fun v8 =>
   if v8.2=true then (some (true,(zaa.mk p0.l (IntKind.wrap .i64 (p0.at_+1)) p0.p p0.b p0.f),(zao.mk p1.Op p1.Lock p1.Cond p1.A (zax.mk 1 v8.1 0 0) p1.To p1.zLb))) else ((zcn ((rd p0.l p0.at_).Text)).bind fun v11 =>
    if v11=true then ((zaw (zaa.mk p0.l p0.at_ p0.p p0.b p0.f) 3 (rd p0.l p0.at_)).bind fun v14 =>
     some (v14.1,(zaa.mk v14.2.l v14.2.at_ v14.2.p p0.b v14.2.f),p1)) else ((zbG (zaa.mk p0.l p0.at_ p0.p p0.b p0.f) ((rd p0.l p0.at_).Text)).bind fun v16 =>
     if (!v16.2.1)=true then ((zaw (zaa.mk v16.2.2.l v16.2.2.at_ v16.2.2.p p0.b v16.2.2.f) 7 (rd p0.l p0.at_)).bind fun v19 =>
      some (v19.1,(zaa.mk v19.2.l v19.2.at_ v19.2.p p0.b v19.2.f),p1)) else ((zaN (zaa.mk v16.2.2.l (IntKind.wrap .i64 (v16.2.2.at_+1)) v16.2.2.p p0.b v16.2.2.f) (IntKind.wrap .i64 (v16.2.2.at_+1)) (⟨#[91]⟩:ByteArray)).bind fun v21 =>
      if (!v21.1)=true then (if InB v21.2.at_ v21.2.l.length then ((zaw (zaa.mk v21.2.l v21.2.at_ v21.2.p p0.b v21.2.f) 4 (rd v21.2.l v21.2.at_)).bind fun v25 =>
       some (v25.1,(zaa.mk v25.2.l v25.2.at_ v25.2.p p0.b v25.2.f),p1)) else none) else ((zbL (zaa.mk v21.2.l (IntKind.wrap .i64 (v21.2.at_+1)) v21.2.p p0.b v21.2.f) v16.1 p1).bind fun v27 =>
       if (!v27.1)=true then (some (false,(zaa.mk v27.2.1.l v27.2.1.at_ v27.2.1.p p0.b v27.2.1.f),v27.2.2)) else ((zaN (zaa.mk v27.2.1.l v27.2.1.at_ v27.2.1.p p0.b v27.2.1.f) v27.2.1.at_ (⟨#[93]⟩:ByteArray)).bind fun v30 =>
        if (!v30.1)=true then (if InB v30.2.at_ v30.2.l.length then ((zaw (zaa.mk v30.2.l v30.2.at_ v30.2.p p0.b v30.2.f) 4 (rd v30.2.l v30.2.at_)).bind fun v34 =>
         some (v34.1,(zaa.mk v34.2.l v34.2.at_ v34.2.p p0.b v34.2.f),v27.2.2)) else none) else (some (true,(zaa.mk v30.2.l (IntKind.wrap .i64 (v30.2.at_+1)) v30.2.p p0.b v30.2.f),v27.2.2)))))))))) else none
noncomputable def za6(p0:zaa)(p1:zao):Option (zao × Bool × zaa) :=
if InB p0.at_ p0.l.length then ((zbr (zaa.mk p0.l p0.at_ p0.p p0.b p0.f) p1).bind fun v2 =>
 if (!v2.1)=true then (some (v2.2.2,false,(zaa.mk v2.2.1.l v2.2.1.at_ v2.2.1.p p0.b v2.2.1.f))) else ((some ((v2.2.2.A.Kind==2)||((v2.2.2.A.Kind==1)&&(!(((v2.2.2.A.Kind==1)&&(!v2.2.2.Lock))&&(v2.2.2.Op != 8)))))).bind fun b5 =>
  if b5=true then ((zaw (zaa.mk v2.2.1.l v2.2.1.at_ v2.2.1.p p0.b v2.2.1.f) 4 (rd p0.l p0.at_)).bind fun v8 =>
   some (v2.2.2,v8.1,(zaa.mk v8.2.l v8.2.at_ v8.2.p p0.b v8.2.f))) else ((zaN (zaa.mk v2.2.1.l v2.2.1.at_ v2.2.1.p p0.b v2.2.1.f) v2.2.1.at_ (⟨#[44]⟩:ByteArray)).bind fun v10 =>
   if (!v10.1)=true then (if InB v10.2.at_ v10.2.l.length then ((zaw (zaa.mk v10.2.l v10.2.at_ v10.2.p p0.b v10.2.f) 4 (rd v10.2.l v10.2.at_)).bind fun v14 =>
    some (v2.2.2,v14.1,(zaa.mk v14.2.l v14.2.at_ v14.2.p p0.b v14.2.f))) else none) else (if InB (IntKind.wrap .i64 (v10.2.at_+1)) v10.2.l.length then ((zbq (zaa.mk v10.2.l (IntKind.wrap .i64 (v10.2.at_+1)) v10.2.p p0.b v10.2.f) v2.2.2).bind fun v17 =>
    if (!v17.1)=true then (some (v17.2.2,false,(zaa.mk v17.2.1.l v17.2.1.at_ v17.2.1.p p0.b v17.2.1.f))) else ((zeX v17.2.2).bind fun v20 =>
     if (v20 != 0)=true then ((zaw (zaa.mk v17.2.1.l v17.2.1.at_ v17.2.1.p p0.b v17.2.1.f) 4 (rd v10.2.l (IntKind.wrap .i64 (v10.2.at_+1)))).bind fun v23 =>
      some (v17.2.2,v23.1,(zaa.mk v23.2.l v23.2.at_ v23.2.p p0.b v23.2.f))) else (some (v17.2.2,true,(zaa.mk v17.2.1.l v17.2.1.at_ v17.2.1.p p0.b v17.2.1.f))))) else none)))) else none
noncomputable def zaT(p0:zaa)(p1:Int)(i5:Int)(b6:Bool)(i7:Int)(i9:Int)(i10:Int)(s11:ByteArray):Option (zao × Bool × zaa) :=
 (zeA s11).bind fun v12 =>
   (some (((i7 != 1)||(!v12.2.2))||((b6 != (v12.1==9))&&(!((b6&&decide (v12.1≥2))&&decide (v12.1<=6)))))).bind fun b14 =>
   if b14=true then ((zaw (zaa.mk p0.l i5 p0.p p0.b p0.f) 4 (zac.mk i7 i9 i10 s11)).bind fun v17 =>
    some ((zao.mk 0 b6 0 (zax.mk 0 0 0 0) (zax.mk 0 0 0 0) (⟨#[]⟩:ByteArray) ([])),v17.1,(zaa.mk v17.2.l v17.2.at_ v17.2.p p0.b v17.2.f))) else (if ((v12.1==10)||(v12.1==11))=true then (if InB (IntKind.wrap .i64 (i5+1)) p0.l.length then (if ((rd p0.l (IntKind.wrap .i64 (i5+1))).Kind != 1)=true then ((zaw (zaa.mk p0.l (IntKind.wrap .i64 (i5+1)) p0.p p0.b p0.f) 4 (rd p0.l (IntKind.wrap .i64 (i5+1)))).bind fun v22 =>
      some ((zao.mk v12.1 b6 v12.2.1 (zax.mk 0 0 0 0) (zax.mk 0 0 0 0) (⟨#[]⟩:ByteArray) ([])),v22.1,(zaa.mk v22.2.l v22.2.at_ v22.2.p p0.b v22.2.f))) else ((zcn ((rd p0.l (IntKind.wrap .i64 (i5+1))).Text)).bind fun v24 =>
      if v24=true then ((zaw (zaa.mk p0.l (IntKind.wrap .i64 (i5+1)) p0.p p0.b p0.f) 3 (rd p0.l (IntKind.wrap .i64 (i5+1)))).bind fun v27 =>
       some ((zao.mk v12.1 b6 v12.2.1 (zax.mk 0 0 0 0) (zax.mk 0 0 0 0) (⟨#[]⟩:ByteArray) ([])),v27.1,(zaa.mk v27.2.l v27.2.at_ v27.2.p p0.b v27.2.f))) else (if InB p1 p0.b.length then (if InB (IntKind.wrap .i64 ((((rd p0.b p1).zTg).length:Int)-1)) (((rd p0.b p1).zTg).length) then (if InB (IntKind.wrap .i64 ((((rd p0.b p1).zTg).length:Int)-1)) ((rd p0.b p1).zTg).length then ((some (p0.b.set p1.toNat (zat.mk ((rd p0.b p1).head) ((rd p0.b p1).labels) ((rd p0.b p1).open_) ((rd p0.b p1).zFi) (((rd p0.b p1).zTg).set (IntKind.wrap .i64 ((((rd p0.b p1).zTg).length:Int)-1)).toNat (rd p0.l (IntKind.wrap .i64 (i5+1))))))).bind fun l32 =>
       some ((zao.mk v12.1 b6 v12.2.1 (zax.mk 0 0 0 0) (zax.mk 0 0 0 0) ((rd p0.l (IntKind.wrap .i64 (i5+1))).Text) ([])),true,(zaa.mk p0.l (IntKind.wrap .i64 ((IntKind.wrap .i64 (i5+1))+1)) p0.p l32 p0.f))) else none) else none) else none))) else none) else (if decide (v12.1<=9)=true then ((za6 (zaa.mk p0.l (IntKind.wrap .i64 (i5+1)) p0.p p0.b p0.f) (zao.mk v12.1 b6 v12.2.1 (zax.mk 0 0 0 0) (zax.mk 0 0 0 0) (⟨#[]⟩:ByteArray) ([]))).bind fun v35 =>
      some (v35.1,v35.2.1,(zaa.mk v35.2.2.l v35.2.2.at_ v35.2.2.p p0.b v35.2.2.f))) else (some ((zao.mk v12.1 b6 v12.2.1 (zax.mk 0 0 0 0) (zax.mk 0 0 0 0) (⟨#[]⟩:ByteArray) ([])),true,(zaa.mk p0.l (IntKind.wrap .i64 (i5+1)) p0.p p0.b p0.f)))))
noncomputable def zaW(p0:zaa)(p1:Int):Option (zao × Bool × zaa) :=
if InB p1 p0.b.length then (if InB p0.at_ p0.l.length then (if ((rd p0.l p0.at_).Kind != 1)=true then ((zaw (zaa.mk p0.l p0.at_ p0.p p0.b p0.f) 4 (rd p0.l p0.at_)).bind fun v3 =>
  some ((zao.mk 0 false 0 (zax.mk 0 0 0 0) (zax.mk 0 0 0 0) (⟨#[]⟩:ByteArray) ([])),v3.1,(zaa.mk v3.2.l v3.2.at_ v3.2.p p0.b v3.2.f))) else (if decide ((rd p0.l p0.at_).Text=(⟨#[108,111,99,107]⟩:ByteArray))=true then (if InB (IntKind.wrap .i64 (p0.at_+1)) p0.l.length then (zaT p0 p1 (IntKind.wrap .i64 (p0.at_+1)) true ((rd p0.l (IntKind.wrap .i64 (p0.at_+1))).Kind) ((rd p0.l (IntKind.wrap .i64 (p0.at_+1))).Line) ((rd p0.l (IntKind.wrap .i64 (p0.at_+1))).Col) ((rd p0.l (IntKind.wrap .i64 (p0.at_+1))).Text)) else none) else (zaT p0 p1 p0.at_ false ((rd p0.l p0.at_).Kind) ((rd p0.l p0.at_).Line) ((rd p0.l p0.at_).Col) ((rd p0.l p0.at_).Text)))) else none) else none
noncomputable def zbw(p0:zaa):((List zac) × Int × (List zaz) × (List zaj) × Int × Int × Int × (List zat))->Option (((List zac) × Int × (List zaz) × (List zaj) × Int × Int × Int × (List zat)) ⊕ (((List zac) × Int × (List zaz) × (List zaj) × Int × Int × Int × (List zat)) ⊕ (Bool × zaa)))
 | (l60,i61,l62,l63,i65,i66,i67,l68) =>
 if InB i61 l60.length then ((if ((rd l60 i61).Kind==1)=true then zaN (zaa.mk l60 i61 (zaE.mk l62 l63) l68 (zah.mk i65 i66 i67)) (IntKind.wrap .i64 (i61+1)) (⟨#[58]⟩:ByteArray) else some (false,(zaa.mk l60 i61 (zaE.mk l62 l63) l68 (zah.mk i65 i66 i67)))).bind fun v102 =>
   if (((rd l60 i61).Kind==1)&&v102.1)=true then (if InB v102.2.at_ v102.2.l.length then ((zcn ((rd v102.2.l v102.2.at_).Text)).bind fun v107 =>
    if v107=true then ((zaI (zaa.mk v102.2.l v102.2.at_ v102.2.p l68 v102.2.f) 3 (rd v102.2.l v102.2.at_)).bind fun v110 =>
     some (.inr (.inr (v110.1,v110.2)))) else (if InB (IntKind.wrap .i64 ((p0.b.length:Int)-1)) l68.length then ((some ((mat ((rd l68 (IntKind.wrap .i64 ((p0.b.length:Int)-1))).labels) (mixS ((rd l68 (IntKind.wrap .i64 ((p0.b.length:Int)-1))).labels) ((rd v102.2.l v102.2.at_).Text))).getD false)).bind fun b113 =>
     if b113=true then ((zaI (zaa.mk v102.2.l v102.2.at_ v102.2.p l68 v102.2.f) 6 (rd v102.2.l v102.2.at_)).bind fun v116 =>
      some (.inr (.inr (v116.1,v116.2)))) else (if InB (IntKind.wrap .i64 ((p0.b.length:Int)-1)) l68.length then ((some (l68.set ((IntKind.wrap .i64 ((p0.b.length:Int)-1)).toNat) (zat.mk ((rd l68 (IntKind.wrap .i64 ((p0.b.length:Int)-1))).head) (mst ((rd l68 (IntKind.wrap .i64 ((p0.b.length:Int)-1))).labels) (mixS ((rd l68 (IntKind.wrap .i64 ((p0.b.length:Int)-1))).labels) ((rd v102.2.l v102.2.at_).Text)) ((rd v102.2.l v102.2.at_).Text) true) ((rd l68 (IntKind.wrap .i64 ((p0.b.length:Int)-1))).open_) ((rd l68 (IntKind.wrap .i64 ((p0.b.length:Int)-1))).zFi) ((rd l68 (IntKind.wrap .i64 ((p0.b.length:Int)-1))).zTg)))).bind fun l119 =>
      if InB (IntKind.wrap .i64 ((p0.b.length:Int)-1)) l119.length then (if Fits (((rd l119 (IntKind.wrap .i64 ((p0.b.length:Int)-1))).open_).length+1) then ((some (l119.set ((IntKind.wrap .i64 ((p0.b.length:Int)-1)).toNat) (zat.mk ((rd l119 (IntKind.wrap .i64 ((p0.b.length:Int)-1))).head) ((rd l119 (IntKind.wrap .i64 ((p0.b.length:Int)-1))).labels) (((rd l119 (IntKind.wrap .i64 ((p0.b.length:Int)-1))).open_)++([(rd v102.2.l v102.2.at_).Text])) ((rd l119 (IntKind.wrap .i64 ((p0.b.length:Int)-1))).zFi) ((rd l119 (IntKind.wrap .i64 ((p0.b.length:Int)-1))).zTg)))).bind fun l123 =>
      some (.inl (v102.2.l,(IntKind.wrap .i64 (v102.2.at_+2)),v102.2.p.zSy,v102.2.p.zTh,v102.2.f.Code,v102.2.f.Line,v102.2.f.Col,l123))) else none) else none) else none)) else none)) else none) else (some (.inr (.inl (v102.2.l,v102.2.at_,v102.2.p.zSy,v102.2.p.zTh,v102.2.f.Code,v102.2.f.Line,v102.2.f.Col,l68))))) else none
noncomputable def zbH(p0:zaa)(p1:zac):Option (Bool × zaa) :=
if ((p0.b.length:Int)==0)=true then ((zaI p0 4 p1).bind fun v2 =>
  some (v2.1,v2.2)) else (if InB (IntKind.wrap .i64 ((p0.b.length:Int)-1)) p0.b.length then ((zbn (zbw p0) (p0.l,p0.at_,p0.p.zSy,p0.p.zTh,p0.f.Code,p0.f.Line,p0.f.Col,p0.b)).bind (zcG (fun er100 =>
  if InB er100.2.1 er100.1.length then (if ((rd er100.1 er100.2.1).Kind==4)=true then ((za2 (zaa.mk er100.1 er100.2.1 (zaE.mk er100.2.2.1 er100.2.2.2.1) er100.2.2.2.2.2.2.2 (zah.mk er100.2.2.2.2.1 er100.2.2.2.2.2.1 er100.2.2.2.2.2.2.1))).bind fun v127 =>
     some (v127.1,v127.2)) else (if InB (IntKind.wrap .i64 ((p0.b.length:Int)-1)) er100.2.2.2.2.2.2.2.length then (if InB er100.2.1 er100.1.length then (if Fits (((rd er100.2.2.2.2.2.2.2 (IntKind.wrap .i64 ((p0.b.length:Int)-1))).zFi).length+1) then ((some (er100.2.2.2.2.2.2.2.set ((IntKind.wrap .i64 ((p0.b.length:Int)-1)).toNat) (zat.mk ((rd er100.2.2.2.2.2.2.2 (IntKind.wrap .i64 ((p0.b.length:Int)-1))).head) ((rd er100.2.2.2.2.2.2.2 (IntKind.wrap .i64 ((p0.b.length:Int)-1))).labels) ((rd er100.2.2.2.2.2.2.2 (IntKind.wrap .i64 ((p0.b.length:Int)-1))).open_) (((rd er100.2.2.2.2.2.2.2 (IntKind.wrap .i64 ((p0.b.length:Int)-1))).zFi)++([(rd er100.1 er100.2.1)])) ((rd er100.2.2.2.2.2.2.2 (IntKind.wrap .i64 ((p0.b.length:Int)-1))).zTg)))).bind fun l132 =>
     if InB (IntKind.wrap .i64 ((p0.b.length:Int)-1)) l132.length then (if Fits (((rd l132 (IntKind.wrap .i64 ((p0.b.length:Int)-1))).zTg).length+1) then ((some (l132.set ((IntKind.wrap .i64 ((p0.b.length:Int)-1)).toNat) (zat.mk ((rd l132 (IntKind.wrap .i64 ((p0.b.length:Int)-1))).head) ((rd l132 (IntKind.wrap .i64 ((p0.b.length:Int)-1))).labels) ((rd l132 (IntKind.wrap .i64 ((p0.b.length:Int)-1))).open_) ((rd l132 (IntKind.wrap .i64 ((p0.b.length:Int)-1))).zFi) (((rd l132 (IntKind.wrap .i64 ((p0.b.length:Int)-1))).zTg)++([(zac.mk 0 0 0 (⟨#[]⟩:ByteArray))]))))).bind fun l136 =>
     (zaW (zaa.mk er100.1 er100.2.1 (zaE.mk er100.2.2.1 er100.2.2.2.1) l136 (zah.mk er100.2.2.2.2.1 er100.2.2.2.2.2.1 er100.2.2.2.2.2.2.1)) (IntKind.wrap .i64 ((p0.b.length:Int)-1))).bind fun v138 =>
     (if (!(!v138.2.1))=true then zb8 (zaa.mk v138.2.2.l v138.2.2.at_ v138.2.2.p v138.2.2.b v138.2.2.f) else some (false,(zaa.mk v138.2.2.l v138.2.2.at_ v138.2.2.p v138.2.2.b v138.2.2.f))).bind fun v140 =>
     if ((!v138.2.1)||(!v140.1))=true then (some (false,(zaa.mk v140.2.l v140.2.at_ v140.2.p v138.2.2.b v140.2.f))) else (if InB (IntKind.wrap .i64 ((p0.b.length:Int)-1)) v138.2.2.b.length then ((some ((rd v138.2.2.b (IntKind.wrap .i64 ((p0.b.length:Int)-1))).open_)).bind fun l145 =>
      (some (v138.2.2.b.set ((IntKind.wrap .i64 ((p0.b.length:Int)-1)).toNat) (zat.mk ((rd v138.2.2.b (IntKind.wrap .i64 ((p0.b.length:Int)-1))).head) ((rd v138.2.2.b (IntKind.wrap .i64 ((p0.b.length:Int)-1))).labels) ([]:List ByteArray) ((rd v138.2.2.b (IntKind.wrap .i64 ((p0.b.length:Int)-1))).zFi) ((rd v138.2.2.b (IntKind.wrap .i64 ((p0.b.length:Int)-1))).zTg)))).bind fun l147 =>
      if InB (IntKind.wrap .i64 ((v140.2.p.zTh.length:Int)-1)) v140.2.p.zTh.length then (if InB (IntKind.wrap .i64 ((v140.2.p.zTh.length:Int)-1)) v140.2.p.zTh.length then (if Fits (((rd v140.2.p.zTh (IntKind.wrap .i64 ((v140.2.p.zTh.length:Int)-1))).Ins).length+1) then ((some (v140.2.p.zTh.set ((IntKind.wrap .i64 ((v140.2.p.zTh.length:Int)-1)).toNat) (zaj.mk (((rd v140.2.p.zTh (IntKind.wrap .i64 ((v140.2.p.zTh.length:Int)-1))).Ins)++([(zao.mk v138.1.Op v138.1.Lock v138.1.Cond v138.1.A v138.1.B v138.1.To l145)]))))).bind fun l152 =>
      some (true,(zaa.mk v140.2.l v140.2.at_ (zaE.mk v140.2.p.zSy l152) l147 v140.2.f))) else none) else none) else none) else none)) else none) else none) else none) else none) else none)) else none) (fun qr100=>some qr100))) else none)
noncomputable def zbY(p0:zaa):Option (Bool × zaa) :=
if InB p0.at_ p0.l.length then (if ((rd p0.l p0.at_).Kind==4)=true then (some (true,(zaa.mk p0.l (IntKind.wrap .i64 (p0.at_+1)) p0.p p0.b p0.f))) else ((some (((rd p0.l p0.at_).Kind==1)&&decide ((rd p0.l p0.at_).Text=(⟨#[115,121,109]⟩:ByteArray)))).bind fun b3 =>
  if b3=true then ((zbF p0 (rd p0.l p0.at_)).bind fun v6 =>
   some (v6.1,v6.2)) else ((some (((rd p0.l p0.at_).Kind==1)&&decide ((rd p0.l p0.at_).Text=(⟨#[116,104,114,101,97,100]⟩:ByteArray)))).bind fun b8 =>
   if b8=true then (if decide ((p0.b.length:Int)≥64)=true then ((zaI p0 10 (rd p0.l p0.at_)).bind fun v12 =>
     some (v12.1,v12.2)) else (if Fits (p0.b.length+1) then ((some (p0.b++[(zat.mk (rd p0.l p0.at_) ([]:(List (ByteArray × Bool))) ([]:List ByteArray) ([]:List zac) ([]:List zac))])).bind fun l15 =>
     if Fits (p0.p.zTh.length+1) then ((some (p0.p.zTh++[(zaj.mk ([]:List zao))])).bind fun l18 =>
     (za2 (zaa.mk p0.l (IntKind.wrap .i64 (p0.at_+1)) (zaE.mk p0.p.zSy l18) l15 p0.f)).bind fun v20 =>
     some (v20.1,v20.2)) else none) else none)) else ((zbH p0 (rd p0.l p0.at_)).bind fun v22 =>
    some (v22.1,v22.2))))) else none
noncomputable def zbm(i39:Int)(i50:Int):Option ((Int × Int) ⊕ ((Unit) ⊕ (Bool × zaa))) :=
 some (.inl (i50,(IntKind.wrap .i64 (i39+1))))
noncomputable def zbl(l11:List zao)(l7:List zac)(p0:zaa)(p1:Int)(l3:(List (ByteArray × Bool)))(l5:List ByteArray)(l9:List zac):(Int × Int)->Option ((Int × Int) ⊕ ((Unit) ⊕ (Bool × zaa)))
 | (i38,i39) =>
 if decide (i39<(l11.length:Int))=true then (if InB i39 l11.length then (if ((rd l11 i39).Op==12)=true then (zbm i39 i38) else (if (i38==4096)=true then (if InB i39 l7.length then ((zaI (zaa.mk p0.l p0.at_ (zaE.mk p0.p.zSy (p0.p.zTh.set p1.toNat (zaj.mk l11))) (p0.b.set p1.toNat (zat.mk ((rd p0.b p1).head) l3 l5 l7 l9)) p0.f) 10 (rd l7 i39)).bind fun v55 =>
             some (.inr (.inr (v55.1,v55.2)))) else none) else (zbm i39 (IntKind.wrap .i64 (i38+1))))) else none) else (some (.inr (.inl ())))
noncomputable def zbk(l11:List zao)(l3:(List (ByteArray × Bool)))(l9:List zac)(p0:zaa)(p1:Int)(l5:List ByteArray)(l7:List zac):Int->Option ((Int) ⊕ ((Unit) ⊕ (Bool × zaa)))
 | i74 =>
 if decide (i74<(l11.length:Int))=true then (if InB i74 l11.length then ((some ((!decide ((rd l11 i74).To=(⟨#[]⟩:ByteArray)))&&(!((mat l3 (mixS l3 ((rd l11 i74).To))).getD false)))).bind fun b86 =>
           if b86=true then (if InB i74 l9.length then ((zaI (zaa.mk p0.l p0.at_ (zaE.mk p0.p.zSy (p0.p.zTh.set p1.toNat (zaj.mk l11))) (p0.b.set p1.toNat (zat.mk ((rd p0.b p1).head) l3 l5 l7 l9)) p0.f) 7 (rd l9 i74)).bind fun v90 =>
       some (.inr (.inr (v90.1,v90.2)))) else none) else (some (.inl (IntKind.wrap .i64 (i74+1))))) else none) else (some (.inr (.inl ())))
noncomputable def zbp(p0:zaa)(p1:Int):Option (Bool × zaa) :=
if InB p1 p0.b.length then (if InB p1 p0.p.zTh.length then ((some ((rd p0.b p1).labels)).bind fun l3 =>
 (some ((rd p0.b p1).open_)).bind fun l5 =>
 (some ((rd p0.b p1).zFi)).bind fun l7 =>
 (some ((rd p0.b p1).zTg)).bind fun l9 =>
 (some ((rd p0.p.zTh p1).Ins)).bind fun l11 =>
 if ((!(((l11.length:Int)==0)||decide ((l5.length:Int)>0)))=true->InB (IntKind.wrap .i64 ((l11.length:Int)-1)) l11.length) then (if (((!(((l11.length:Int)==0)||decide ((l5.length:Int)>0)))&&((rd l11 (IntKind.wrap .i64 ((l11.length:Int)-1))).Op != 10))=true->InB (IntKind.wrap .i64 ((l11.length:Int)-1)) l11.length) then ((some ((((l11.length:Int)==0)||decide ((l5.length:Int)>0))||(((rd l11 (IntKind.wrap .i64 ((l11.length:Int)-1))).Op != 10)&&((rd l11 (IntKind.wrap .i64 ((l11.length:Int)-1))).Op != 14)))).bind fun b15 =>
 if b15=true then ((zaI (zaa.mk p0.l p0.at_ (zaE.mk p0.p.zSy (p0.p.zTh.set p1.toNat (zaj.mk l11))) (p0.b.set p1.toNat (zat.mk ((rd p0.b p1).head) l3 l5 l7 l9)) p0.f) 9 ((rd p0.b p1).head)).bind fun v18 =>
  some (v18.1,v18.2)) else ((zbn (zbl l11 l7 p0 p1 l3 l5 l9) (0,0)).bind (zcG (fun er48 =>
  (zbn (zbk l11 l3 l9 p0 p1 l5 l7) 0).bind (zcG (fun er83 =>
    (some (p0.p.zTh.set p1.toNat (zaj.mk l11))).bind fun l92 =>
      (some (p0.b.set p1.toNat (zat.mk ((rd p0.b p1).head) l3 l5 l7 l9))).bind fun l94 =>
      some (true,(zaa.mk p0.l p0.at_ (zaE.mk p0.p.zSy l92) l94 p0.f))) (fun qr83=>some qr83))) (fun qr48=>some qr48)))) else none) else none) else none) else none
end Go.Vs
