import Derived.Test.YtocjejladeeckaaGreatDoorPalT
import Derived.Test.YtocjejladeeckaaGreatDoorPalI
import Derived.Test.YtocjejladeeckaaGreatDoorPalL
set_option linter.all false
namespace Go.Vs
noncomputable def zcg(v1:(List zaa) × zai):((List zaa) × Int × (List zan) × (List zae) × (List zat) × Int × Int × Int)->Option (((List zaa) × Int × (List zan) × (List zae) × (List zat) × Int × Int × Int) ⊕ (((List zaa) × Int × (List zan) × (List zae) × (List zat) × Int × Int × Int) ⊕ (zaf × zai)))
 | (l20,i21,l22,l23,l24,i25,i26,i27) =>
 if decide (i21<(v1.1.length:Int))=true then ((zcC (zab.mk l20 i21 (zaf.mk l22 l23) l24 (zai.mk i25 i26 i27))).bind fun v42 =>
    if (!v42.1)=true then (some (.inr (.inr ((zaf.mk ([]:List zan) ([]:List zae)),v42.2.f)))) else (some (.inl (v42.2.l,v42.2.at_,v42.2.p.zSy,v42.2.p.zTh,v42.2.b,v42.2.f.Code,v42.2.f.Line,v42.2.f.Col)))) else (some (.inr (.inl (l20,i21,l22,l23,l24,i25,i26,i27))))
noncomputable def zdu(er40:(List zaa) × Int × (List zan) × (List zae) × (List zat) × Int × Int × Int):(Int × (List zaa) × Int × (List zan) × (List zae) × (List zat) × Int × Int × Int)->Option ((Int × (List zaa) × Int × (List zan) × (List zae) × (List zat) × Int × Int × Int) ⊕ (((List zaa) × Int × (List zan) × (List zae) × (List zat) × Int × Int × Int) ⊕ (zaf × zai)))
 | (i62,l63,i65,l66,l67,l68,i69,i70,i71) =>
 if decide (i62<(er40.2.2.2.2.1.length:Int))=true then ((zbJ (zab.mk l63 i65 (zaf.mk l66 l67) l68 (zai.mk i69 i70 i71)) i62).bind fun v86 =>
           if (!v86.1)=true then (some (.inr (.inr ((zaf.mk ([]:List zan) ([]:List zae)),v86.2.f)))) else (some (.inl ((IntKind.wrap .i64 (i62+1)),v86.2.l,v86.2.at_,v86.2.p.zSy,v86.2.p.zTh,v86.2.b,v86.2.f.Code,v86.2.f.Line,v86.2.f.Col)))) else (some (.inr (.inl (l63,i65,l66,l67,l68,i69,i70,i71))))
noncomputable def zc3(p0:ByteArray):Option (zaf × zai) :=
(zgh p0).bind fun v1 =>
 if (v1.2.Code != 0)=true then (some ((zaf.mk ([]:List zan) ([]:List zae)),v1.2)) else ((zaL (zcg v1) (v1.1,0,([]:List zan),([]:List zae),([]:List zat),0,0,0)).bind (zbu (fun er40 =>
  (zaL (zdu er40) (0,er40.1,er40.2.1,er40.2.2.1,er40.2.2.2.1,er40.2.2.2.2.1,er40.2.2.2.2.2.1,er40.2.2.2.2.2.2.1,er40.2.2.2.2.2.2.2)).bind (zbu (fun er84 =>
    some ((zaf.mk er84.2.2.1 er84.2.2.2.1),(zai.mk 0 0 0))) (fun qr84=>some qr84))) (fun qr40=>some qr40)))
end Go.Vs
