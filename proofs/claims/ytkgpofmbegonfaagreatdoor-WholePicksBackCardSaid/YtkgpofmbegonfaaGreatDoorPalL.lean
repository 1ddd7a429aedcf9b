import Derived.Test.YtkgpofmbegonfaaGreatDoorPalT
import Derived.Test.YtkgpofmbegonfaaGreatDoorPalB
import Derived.Test.YtkgpofmbegonfaaGreatDoorPalC
import Derived.Test.YtkgpofmbegonfaaGreatDoorPalX
set_option linter.all false
namespace Go.Vs
noncomputable def zdV(p0:zac)(p1:Int):Option (Int) :=
if ((p0.Kind==1)&&decide (p1>16))=true then (some 3) else (if (p0.Kind==2)=true then ((zcH p0.Text).bind fun v3 =>
   if (!v3.2)=true then (some 2) else (some 0)) else (some 0))
noncomputable def zck(v1:(List zam)):Int->Option ((Int) ⊕ ((Int) ⊕ ((List zac) × zah)))
 | i195 =>
 if (decide (i195<(v1.length:Int))=true->InB i195 v1.length) then (if (decide (i195<(v1.length:Int))&&((rd v1 i195).Rune != 10))=true then (if InB i195 v1.length then (if (rd v1 i195).Bad=true then (if InB i195 v1.length then ((zdg 1 (rd v1 i195)).bind fun v210 =>
                 some (.inr (.inr ([],v210)))) else none) else (some (.inl (IntKind.wrap .i64 (i195+1))))) else none) else (some (.inr (.inl i195)))) else none
noncomputable def zca(v1:(List zam))(p0:ByteArray):(Int × (List zac))->Option ((Int × (List zac)) ⊕ (((List zac)) ⊕ ((List zac) × zah)))
 | (i112,l113) =>
 if decide (i112<(v1.length:Int))=true then (if InB i112 v1.length then (if (rd v1 i112).Bad=true then ((zdg 1 (rd v1 i112)).bind fun v174 =>
    some (.inr (.inr ([],v174)))) else ((zeD ((rd v1 i112).Rune)).bind fun v176 =>
    if v176=true then (some (.inl ((IntKind.wrap .i64 (i112+1)),l113))) else (if ((rd v1 i112).Rune==59)=true then ((zbn (zck v1) i112).bind (zcG (fun er204 =>
      some (.inl (er204,l113))) (fun qr204=>some (.inr (.inr qr204))))) else ((zfy v1 i112).bind fun v212 =>
      if (v212.2==0)=true then ((zdg 1 (rd v1 i112)).bind fun v215 =>
       some (.inr (.inr ([],v215)))) else (if InB (IntKind.wrap .i64 (v212.1-1)) v1.length then (if InB (IntKind.wrap .i64 (v212.1-1)) v1.length then (if Bnd (IntKind.wrap .i64 ((rd v1 (IntKind.wrap .i64 (v212.1-1))).At+(rd v1 (IntKind.wrap .i64 (v212.1-1))).Size)) p0.size then (if Bnd ((rd v1 i112).At) ((IntKind.wrap .i64 ((rd v1 (IntKind.wrap .i64 (v212.1-1))).At+(rd v1 (IntKind.wrap .i64 (v212.1-1))).Size)).toNat) then ((some (p0.extract (((rd v1 i112).At).toNat) ((IntKind.wrap .i64 ((rd v1 (IntKind.wrap .i64 (v212.1-1))).At+(rd v1 (IntKind.wrap .i64 (v212.1-1))).Size)).toNat))).bind fun s221 =>
       (zdV (zac.mk v212.2 ((rd v1 i112).Line) ((rd v1 i112).Col) s221) (IntKind.wrap .i64 (v212.1-i112))).bind fun v223 =>
       if (v223 != 0)=true then ((zdg v223 (rd v1 i112)).bind fun v226 =>
        some (.inr (.inr ([],v226)))) else (if Fits (l113.length+1) then ((some (l113++([(zac.mk v212.2 ((rd v1 i112).Line) ((rd v1 i112).Col) s221)]))).bind fun l229 =>
        some (.inl (v212.1,l229))) else none)) else none) else none) else none) else none))))) else none) else (some (.inr (.inl l113)))
noncomputable def zel(p0:ByteArray):Option ((List zac) × zah) :=
(zdq p0).bind fun v1 =>
 (zbn (zca v1 p0) (0,[])).bind (zcG (fun er170 =>
 (zeY p0).bind fun v231 =>
   if Fits (er170.length+1) then ((some (er170++([(zac.mk 4 v231.1 v231.2 (⟨#[]⟩:ByteArray))]))).bind fun l234 =>
   some (l234,(zah.mk 0 0 0))) else none) (fun qr170=>some qr170))
noncomputable def zdz(i291:Int)(l300:List zac):Option ((Int × (List zac)) ⊕ (((List zac)) ⊕ ((List zac) × zah))) :=
 some (.inl (i291,l300))
noncomputable def zbT(i292:Int)(l192:List zac)(v1:(List zb0))(i191:Int)(s297:ByteArray)(i291:Int):Option ((Int × (List zac)) ⊕ (((List zac)) ⊕ ((List zac) × zah))) :=
 if (i292 != 0)=true then (if Fits (l192.length+1) then ((some (l192++([(zac.mk i292 ((rd v1 i191).Line) ((rd v1 i191).Col) s297)]))).bind fun l304 =>
               zdz i291 l304) else none) else (zdz i291 l192)
noncomputable def zaS(v1:(List zb0))(p0:ByteArray)(i191:Int)(l192:List zac)(i291:Int)(i292:Int):Option ((Int × (List zac)) ⊕ (((List zac)) ⊕ ((List zac) × zah))) :=
 if InB (IntKind.wrap .i64 (i291-1)) v1.length then (if InB (IntKind.wrap .i64 (i291-1)) v1.length then (if Bnd (IntKind.wrap .i64 ((rd v1 (IntKind.wrap .i64 (i291-1))).At+(rd v1 (IntKind.wrap .i64 (i291-1))).Size)) p0.size then (if Bnd ((rd v1 i191).At) ((IntKind.wrap .i64 ((rd v1 (IntKind.wrap .i64 (i291-1))).At+(rd v1 (IntKind.wrap .i64 (i291-1))).Size)).toNat) then ((some (p0.extract (((rd v1 i191).At).toNat) ((IntKind.wrap .i64 ((rd v1 (IntKind.wrap .i64 (i291-1))).At+(rd v1 (IntKind.wrap .i64 (i291-1))).Size)).toNat))).bind fun s297 =>
    if ((i292==1)&&decide ((IntKind.wrap .i64 (i291-i191))>16))=true then (some (.inr (.inr ([],(zah.mk 3 ((rd v1 i191).Line) ((rd v1 i191).Col)))))) else (if (i292==2)=true then ((zdS s297).bind fun v307 =>
       if (!v307.2)=true then (some (.inr (.inr ([],(zah.mk 2 ((rd v1 i191).Line) ((rd v1 i191).Col)))))) else (zbT i292 l192 v1 i191 s297 i291)) else (zbT i292 l192 v1 i191 s297 i291))) else none) else none) else none) else none
noncomputable def zcg(v1:(List zb0)):Int->Option ((Int) ⊕ ((Int) ⊕ ((List zac) × zah)))
 | i330 =>
 if (decide (i330<(v1.length:Int))=true->InB i330 v1.length) then (if (decide (i330<(v1.length:Int))&&((rd v1 i330).Rune != 10))=true then (if InB i330 v1.length then (if (rd v1 i330).Bad=true then (if InB i330 v1.length then (if InB i330 v1.length then (some (.inr (.inr ([],(zah.mk 1 ((rd v1 i330).Line) ((rd v1 i330).Col)))))) else none) else none) else (some (.inl (IntKind.wrap .i64 (i330+1))))) else none) else (some (.inr (.inl i330)))) else none
noncomputable def zcf(v1:(List zb0)):Int->Option ((Int) ⊕ (Int))
 | i373 =>
 if (decide (i373<(v1.length:Int))=true->InB i373 v1.length) then (if ((decide (i373<(v1.length:Int))&&(!(rd v1 i373).Bad))=true->InB i373 v1.length) then ((if (decide (i373<(v1.length:Int))&&(!(rd v1 i373).Bad))=true then zcE ((rd v1 i373).Rune) else some default).bind fun v386 =>
                     if (((decide (i373<(v1.length:Int))&&(!(rd v1 i373).Bad))&&(!v386))=true->InB i373 v1.length) then ((if ((decide (i373<(v1.length:Int))&&(!(rd v1 i373).Bad))&&(!v386))=true then zdw ((rd v1 i373).Rune) else some default).bind fun v389 =>
                     if ((decide (i373<(v1.length:Int))&&(!(rd v1 i373).Bad))&&(v386||v389))=true then (some (.inl (IntKind.wrap .i64 (i373+1)))) else (some (.inr i373))) else none) else none) else none
noncomputable def zbS(v1:(List zb0))(p0:ByteArray):(Int × (List zac))->Option ((Int × (List zac)) ⊕ (((List zac)) ⊕ ((List zac) × zah)))
 | (i191,l192) =>
 if decide (i191<(v1.length:Int))=true then (if InB i191 v1.length then (if (rd v1 i191).Bad=true then (some (.inr (.inr ([],(zah.mk 1 ((rd v1 i191).Line) ((rd v1 i191).Col)))))) else ((zeH ((rd v1 i191).Rune)).bind fun v311 =>
         if v311=true then (zaS v1 p0 i191 l192 (IntKind.wrap .i64 (i191+1)) 0) else (if ((rd v1 i191).Rune==59)=true then ((zbn (zcg v1) (IntKind.wrap .i64 (i191+1))).bind (zcG (fun er338 =>
       zaS v1 p0 i191 l192 er338 0) (fun qr338=>some (.inr (.inr qr338))))) else (if ((rd v1 i191).Rune==10)=true then (zaS v1 p0 i191 l192 (IntKind.wrap .i64 (i191+1)) 4) else ((some (((((rd v1 i191).Rune==44)||((rd v1 i191).Rune==91))||((rd v1 i191).Rune==93))||((rd v1 i191).Rune==58))).bind fun b346 =>
        if b346=true then (zaS v1 p0 i191 l192 (IntKind.wrap .i64 (i191+1)) 3) else ((zcE ((rd v1 i191).Rune)).bind fun v349 =>
         (if (!v349)=true then zdw ((rd v1 i191).Rune) else some default).bind fun v351 =>
         if ((v349||v351)||((rd v1 i191).Rune==45))=true then ((zbn (zcf v1) (IntKind.wrap .i64 (i191+1))).bind fun r383 =>
          (zcE ((rd v1 i191).Rune)).bind fun v392 =>
           if v392=true then (zaS v1 p0 i191 l192 r383 1) else (zaS v1 p0 i191 l192 r383 2)) else (some (.inr (.inr ([],(zah.mk 1 ((rd v1 i191).Line) ((rd v1 i191).Col)))))))))))) else none) else (some (.inr (.inl l192)))
end Go.Vs
