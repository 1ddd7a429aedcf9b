import Derived.Test.YtocjejladeeckaaDoorPalT
import Derived.Test.YtocjejladeeckaaDoorPalI
import Derived.Test.YtocjejladeeckaaDoorPalL
set_option linter.all false
namespace Go.Vs
noncomputable def zbp(v1:(List zab) × zag):((List zab) × Int × (List zar) × (List zak) × (List zan) × Int × Int × Int)->Option (((List zab) × Int × (List zar) × (List zak) × (List zan) × Int × Int × Int) ⊕ (((List zab) × Int × (List zar) × (List zak) × (List zan) × Int × Int × Int) ⊕ (zaw × zag)))
 | (l20,i21,l22,l23,l24,i25,i26,i27) =>
 if decide (i21<(v1.1.length:Int))=true then ((zbz (zaa.mk l20 i21 (zaw.mk l22 l23) l24 (zag.mk i25 i26 i27))).bind fun v42 =>
    if (!v42.1)=true then (some (.inr (.inr ((zaw.mk ([]:List zar) ([]:List zak)),v42.2.f)))) else (some (.inl (v42.2.l,v42.2.at_,v42.2.p.zSy,v42.2.p.zTh,v42.2.b,v42.2.f.Code,v42.2.f.Line,v42.2.f.Col)))) else (some (.inr (.inl (l20,i21,l22,l23,l24,i25,i26,i27))))
noncomputable def zb4(er40:(List zab) × Int × (List zar) × (List zak) × (List zan) × Int × Int × Int):(Int × (List zab) × Int × (List zar) × (List zak) × (List zan) × Int × Int × Int)->Option ((Int × (List zab) × Int × (List zar) × (List zak) × (List zan) × Int × Int × Int) ⊕ (((List zab) × Int × (List zar) × (List zak) × (List zan) × Int × Int × Int) ⊕ (zaw × zag)))
 | (i62,l63,i65,l66,l67,l68,i69,i70,i71) =>
 if decide (i62<(er40.2.2.2.2.1.length:Int))=true then ((za2 (zaa.mk l63 i65 (zaw.mk l66 l67) l68 (zag.mk i69 i70 i71)) i62).bind fun v86 =>
           if (!v86.1)=true then (some (.inr (.inr ((zaw.mk ([]:List zar) ([]:List zak)),v86.2.f)))) else (some (.inl ((IntKind.wrap .i64 (i62+1)),v86.2.l,v86.2.at_,v86.2.p.zSy,v86.2.p.zTh,v86.2.b,v86.2.f.Code,v86.2.f.Line,v86.2.f.Col)))) else (some (.inr (.inl (l63,i65,l66,l67,l68,i69,i70,i71))))
noncomputable def zb1(p0:ByteArray):Option (zaw × zag) :=
(zdO p0).bind fun v1 =>
 if (v1.2.Code != 0)=true then (some ((zaw.mk ([]:List zar) ([]:List zak)),v1.2)) else ((za7 (zbp v1) (v1.1,0,([]:List zar),([]:List zak),([]:List zan),0,0,0)).bind (zbQ (fun er40 =>
  (za7 (zb4 er40) (0,er40.1,er40.2.1,er40.2.2.1,er40.2.2.2.1,er40.2.2.2.2.1,er40.2.2.2.2.2.1,er40.2.2.2.2.2.2.1,er40.2.2.2.2.2.2.2)).bind (zbQ (fun er84 =>
    some ((zaw.mk er84.2.2.1 er84.2.2.2.1),(zag.mk 0 0 0))) (fun qr84=>some qr84))) (fun qr40=>some qr40)))
end Go.Vs
