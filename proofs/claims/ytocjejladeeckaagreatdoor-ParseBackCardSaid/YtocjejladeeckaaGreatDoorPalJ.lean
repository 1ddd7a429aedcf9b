import Derived.Test.YtocjejladeeckaaGreatDoorPalT
import Derived.Test.YtocjejladeeckaaGreatDoorPalI
import Derived.Test.YtocjejladeeckaaGreatDoorPalL
set_option linter.all false
namespace Go.Vs
noncomputable def zcv(v1:(List zab) × zaj):((List zab) × Int × (List zak) × (List zad) × (List zaw) × Int × Int × Int)->Option (((List zab) × Int × (List zak) × (List zad) × (List zaw) × Int × Int × Int) ⊕ (((List zab) × Int × (List zak) × (List zad) × (List zaw) × Int × Int × Int) ⊕ (zag × zaj)))
 | (l20,i21,l22,l23,l24,i25,i26,i27) =>
 if decide (i21<(v1.1.length:Int))=true then ((zcT (zaa.mk l20 i21 (zag.mk l22 l23) l24 (zaj.mk i25 i26 i27))).bind fun v42 =>
    if (!v42.1)=true then (some (.inr (.inr ((zag.mk ([]:List zak) ([]:List zad)),v42.2.f)))) else (some (.inl (v42.2.l,v42.2.at_,v42.2.p.zSy,v42.2.p.zTh,v42.2.b,v42.2.f.Code,v42.2.f.Line,v42.2.f.Col)))) else (some (.inr (.inl (l20,i21,l22,l23,l24,i25,i26,i27))))
noncomputable def zdO(er40:(List zab) × Int × (List zak) × (List zad) × (List zaw) × Int × Int × Int):(Int × (List zab) × Int × (List zak) × (List zad) × (List zaw) × Int × Int × Int)->Option ((Int × (List zab) × Int × (List zak) × (List zad) × (List zaw) × Int × Int × Int) ⊕ (((List zab) × Int × (List zak) × (List zad) × (List zaw) × Int × Int × Int) ⊕ (zag × zaj)))
 | (i62,l63,i65,l66,l67,l68,i69,i70,i71) =>
 if decide (i62<(er40.2.2.2.2.1.length:Int))=true then ((zb1 (zaa.mk l63 i65 (zag.mk l66 l67) l68 (zaj.mk i69 i70 i71)) i62).bind fun v86 =>
           if (!v86.1)=true then (some (.inr (.inr ((zag.mk ([]:List zak) ([]:List zad)),v86.2.f)))) else (some (.inl ((IntKind.wrap .i64 (i62+1)),v86.2.l,v86.2.at_,v86.2.p.zSy,v86.2.p.zTh,v86.2.b,v86.2.f.Code,v86.2.f.Line,v86.2.f.Col)))) else (some (.inr (.inl (l63,i65,l66,l67,l68,i69,i70,i71))))
noncomputable def zdE(p0:ByteArray):Option (zag × zaj) :=
(zgj p0).bind fun v1 =>
 if (v1.2.Code != 0)=true then (some ((zag.mk ([]:List zak) ([]:List zad)),v1.2)) else ((zaN (zcv v1) (v1.1,0,([]:List zak),([]:List zad),([]:List zaw),0,0,0)).bind (zbM (fun er40 =>
  (zaN (zdO er40) (0,er40.1,er40.2.1,er40.2.2.1,er40.2.2.2.1,er40.2.2.2.2.1,er40.2.2.2.2.2.1,er40.2.2.2.2.2.2.1,er40.2.2.2.2.2.2.2)).bind (zbM (fun er84 =>
    some ((zag.mk er84.2.2.1 er84.2.2.2.1),(zaj.mk 0 0 0))) (fun qr84=>some qr84))) (fun qr40=>some qr40)))
end Go.Vs
