import Derived.Test.YtocjejladeeckaaDoorPalT
import Derived.Test.YtocjejladeeckaaDoorPalA
import Derived.Test.YtocjejladeeckaaDoorPalUtf
set_option linter.all false
namespace Go.Vs
noncomputable def zev(p0:(List Int))(p1:(List Int)):Int->Option ((Int) ⊕ ((Unit) ⊕ (Bool)))
 | i11 =>
 if decide (i11<(p0.length:Int))=true then (if InB i11 p0.length then (if InB i11 p1.length then (if ((rd p0 i11) != (rd p1 i11))=true then (some (.inr (.inr false))) else (some (.inl (IntKind.wrap .i64 (i11+1))))) else none) else none) else (some (.inr (.inl ())))
noncomputable def zfl(p0:(List Int))(p1:(List Int)):Option (Bool) :=
if ((p0.length:Int) != (p1.length:Int))=true then (some false) else ((zbg (zev p0 p1) 0).bind (zcj (fun er16 =>
  some true) (fun qr16=>some qr16)))
noncomputable def zee(p0:(List ByteArray))(p1:(List ByteArray)):Int->Option ((Int) ⊕ ((Unit) ⊕ (Bool)))
 | i11 =>
 if decide (i11<(p0.length:Int))=true then (if InB i11 p0.length then (if InB i11 p1.length then (if (!decide ((rd p0 i11)=(rd p1 i11)))=true then (some (.inr (.inr false))) else (some (.inl (IntKind.wrap .i64 (i11+1))))) else none) else none) else (some (.inr (.inl ())))
noncomputable def ze7(p0:(List ByteArray))(p1:(List ByteArray)):Option (Bool) :=
if ((p0.length:Int) != (p1.length:Int))=true then (some false) else ((zbg (zee p0 p1) 0).bind (zcj (fun er16 =>
  some true) (fun qr16=>some qr16)))
noncomputable def zfD(p0:zak)(p1:zak):Option (Bool) :=
(if ((((((p0.Op==p1.Op)&&(p0.Lock==p1.Lock))&&(p0.Cond==p1.Cond))&&((p0.A.Kind==p1.A.Kind)&&((p0.A.Reg==p1.A.Reg)&&((p0.A.Sym==p1.A.Sym)&&(p0.A.N==p1.A.N)))))&&((p0.B.Kind==p1.B.Kind)&&((p0.B.Reg==p1.B.Reg)&&((p0.B.Sym==p1.B.Sym)&&(p0.B.N==p1.B.N)))))&&decide (p0.To=p1.To))=true then ze7 p0.zLb p1.zLb else some default).bind fun v1 =>
 (some (((((((p0.Op==p1.Op)&&(p0.Lock==p1.Lock))&&(p0.Cond==p1.Cond))&&((p0.A.Kind==p1.A.Kind)&&((p0.A.Reg==p1.A.Reg)&&((p0.A.Sym==p1.A.Sym)&&(p0.A.N==p1.A.N)))))&&((p0.B.Kind==p1.B.Kind)&&((p0.B.Reg==p1.B.Reg)&&((p0.B.Sym==p1.B.Sym)&&(p0.B.N==p1.B.N)))))&&decide (p0.To=p1.To))&&v1)).bind fun b3 =>
 some b3
noncomputable def zey(p0:zat)(p1:zat):Int->Option ((Int) ⊕ ((Unit) ⊕ (Bool)))
 | i30 =>
 if decide (i30<(p0.zSy.length:Int))=true then (if InB i30 p0.zSy.length then (if InB i30 p1.zSy.length then (if ((!(!decide ((rd p0.zSy i30).Name=(rd p1.zSy i30).Name)))=true->InB i30 p0.zSy.length) then (if ((!(!decide ((rd p0.zSy i30).Name=(rd p1.zSy i30).Name)))=true->InB i30 p1.zSy.length) then (if ((!((!decide ((rd p0.zSy i30).Name=(rd p1.zSy i30).Name))||((rd p0.zSy i30).Size != (rd p1.zSy i30).Size)))=true->InB i30 p0.zSy.length) then (if ((!((!decide ((rd p0.zSy i30).Name=(rd p1.zSy i30).Name))||((rd p0.zSy i30).Size != (rd p1.zSy i30).Size)))=true->InB i30 p1.zSy.length) then ((if (!((!decide ((rd p0.zSy i30).Name=(rd p1.zSy i30).Name))||((rd p0.zSy i30).Size != (rd p1.zSy i30).Size)))=true then zfl ((rd p0.zSy i30).Init) ((rd p1.zSy i30).Init) else some default).bind fun v51 =>
    (some (((!decide ((rd p0.zSy i30).Name=(rd p1.zSy i30).Name))||((rd p0.zSy i30).Size != (rd p1.zSy i30).Size))||(!v51))).bind fun b53 =>
    if b53=true then (some (.inr (.inr false))) else (some (.inl (IntKind.wrap .i64 (i30+1))))) else none) else none) else none) else none) else none) else none) else (some (.inr (.inl ())))
noncomputable def zew(p0:zat)(i107:Int)(p1:zat):Int->Option ((Int) ⊕ ((Unit) ⊕ (Bool)))
 | i151 =>
 if decide (i151<(((rd p0.zTh i107).Ins).length:Int))=true then (if InB i151 ((rd p0.zTh i107).Ins).length then (if InB i151 ((rd p1.zTh i107).Ins).length then ((zfD (rd ((rd p0.zTh i107).Ins) i151) (rd ((rd p1.zTh i107).Ins) i151)).bind fun v162 =>
                if (!v162)=true then (some (.inr (.inr false))) else (some (.inl (IntKind.wrap .i64 (i151+1))))) else none) else none) else (some (.inr (.inl ())))
noncomputable def zex(p0:zat)(p1:zat):Int->Option ((Int) ⊕ ((Unit) ⊕ (Bool)))
 | i107 =>
 if decide (i107<(p0.zTh.length:Int))=true then (if InB i107 p0.zTh.length then (if InB i107 p1.zTh.length then (if ((((rd p0.zTh i107).Ins).length:Int) != (((rd p1.zTh i107).Ins).length:Int))=true then (some (.inr (.inr false))) else ((zbg (zew p0 i107 p1) 0).bind (zcj (fun er158 =>
             some (.inl (IntKind.wrap .i64 (i107+1)))) (fun qr158=>some (.inr (.inr qr158)))))) else none) else none) else (some (.inr (.inl ())))
noncomputable def zfm(p0:zat)(p1:zat):Option (Bool) :=
(some (((p0.zSy.length:Int) != (p1.zSy.length:Int))||((p0.zTh.length:Int) != (p1.zTh.length:Int)))).bind fun b1 =>
 if b1=true then (some false) else ((zbg (zey p0 p1) 0).bind (zcj (fun er43 =>
  (zbg (zex p0 p1) 0).bind (zcj (fun er133 =>
    some true) (fun qr133=>some qr133))) (fun qr43=>some qr43)))
end Go.Vs
