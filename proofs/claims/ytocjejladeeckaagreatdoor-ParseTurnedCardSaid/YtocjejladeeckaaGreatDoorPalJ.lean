import Derived.Test.YtocjejladeeckaaGreatDoorPalT
import Derived.Test.YtocjejladeeckaaGreatDoorPalI
import Derived.Test.YtocjejladeeckaaGreatDoorPalL
set_option linter.all false
namespace Go.Vs
noncomputable def zc4(v1:(List zaa) × zak):((List zaa) × Int × (List zam) × (List zad) × (List zaz) × Int × Int × Int)->Option (((List zaa) × Int × (List zam) × (List zad) × (List zaz) × Int × Int × Int) ⊕ (((List zaa) × Int × (List zam) × (List zad) × (List zaz) × Int × Int × Int) ⊕ (zaj × zak)))
 | (l20,i21,l22,l23,l24,i25,i26,i27) =>
 if decide (i21<(v1.1.length:Int))=true then ((zdw (zac.mk l20 i21 (zaj.mk l22 l23) l24 (zak.mk i25 i26 i27))).bind fun v42 =>
    if (!v42.1)=true then (some (.inr (.inr ((zaj.mk ([]:List zam) ([]:List zad)),v42.2.f)))) else (some (.inl (v42.2.l,v42.2.at_,v42.2.p.zSy,v42.2.p.zTh,v42.2.b,v42.2.f.Code,v42.2.f.Line,v42.2.f.Col)))) else (some (.inr (.inl (l20,i21,l22,l23,l24,i25,i26,i27))))
noncomputable def zer(er40:(List zaa) × Int × (List zam) × (List zad) × (List zaz) × Int × Int × Int):(Int × (List zaa) × Int × (List zam) × (List zad) × (List zaz) × Int × Int × Int)->Option ((Int × (List zaa) × Int × (List zam) × (List zad) × (List zaz) × Int × Int × Int) ⊕ (((List zaa) × Int × (List zam) × (List zad) × (List zaz) × Int × Int × Int) ⊕ (zaj × zak)))
 | (i62,l63,i65,l66,l67,l68,i69,i70,i71) =>
 if decide (i62<(er40.2.2.2.2.1.length:Int))=true then ((zcv (zac.mk l63 i65 (zaj.mk l66 l67) l68 (zak.mk i69 i70 i71)) i62).bind fun v86 =>
           if (!v86.1)=true then (some (.inr (.inr ((zaj.mk ([]:List zam) ([]:List zad)),v86.2.f)))) else (some (.inl ((IntKind.wrap .i64 (i62+1)),v86.2.l,v86.2.at_,v86.2.p.zSy,v86.2.p.zTh,v86.2.b,v86.2.f.Code,v86.2.f.Line,v86.2.f.Col)))) else (some (.inr (.inl (l63,i65,l66,l67,l68,i69,i70,i71))))
noncomputable def zeB(p0:ByteArray):Option (zaj × zak) :=
(zg1 p0).bind fun v1 =>
 if (v1.2.Code != 0)=true then (some ((zaj.mk ([]:List zam) ([]:List zad)),v1.2)) else ((zaP (zc4 v1) (v1.1,0,([]:List zam),([]:List zad),([]:List zaz),0,0,0)).bind (zb0 (fun er40 =>
  (zaP (zer er40) (0,er40.1,er40.2.1,er40.2.2.1,er40.2.2.2.1,er40.2.2.2.2.1,er40.2.2.2.2.2.1,er40.2.2.2.2.2.2.1,er40.2.2.2.2.2.2.2)).bind (zb0 (fun er84 =>
    some ((zaj.mk er84.2.2.1 er84.2.2.2.1),(zak.mk 0 0 0))) (fun qr84=>some qr84))) (fun qr40=>some qr40)))
end Go.Vs
