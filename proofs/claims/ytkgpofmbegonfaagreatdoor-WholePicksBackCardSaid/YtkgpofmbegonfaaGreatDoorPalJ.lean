import Derived.Test.YtkgpofmbegonfaaGreatDoorPalT
import Derived.Test.YtkgpofmbegonfaaGreatDoorPalI
import Derived.Test.YtkgpofmbegonfaaGreatDoorPalL
set_option linter.all false
namespace Go.Vs
noncomputable def zbK(v1:(List zac) × zah):((List zac) × Int × (List zaz) × (List zaj) × (List zat) × Int × Int × Int)->Option (((List zac) × Int × (List zaz) × (List zaj) × (List zat) × Int × Int × Int) ⊕ (((List zac) × Int × (List zaz) × (List zaj) × (List zat) × Int × Int × Int) ⊕ (zaE × zah)))
 | (l20,i21,l22,l23,l24,i25,i26,i27) =>
 if decide (i21<(v1.1.length:Int))=true then ((zbY (zaa.mk l20 i21 (zaE.mk l22 l23) l24 (zah.mk i25 i26 i27))).bind fun v42 =>
    if (!v42.1)=true then (some (.inr (.inr ((zaE.mk ([]:List zaz) ([]:List zaj)),v42.2.f)))) else (some (.inl (v42.2.l,v42.2.at_,v42.2.p.zSy,v42.2.p.zTh,v42.2.b,v42.2.f.Code,v42.2.f.Line,v42.2.f.Col)))) else (some (.inr (.inl (l20,i21,l22,l23,l24,i25,i26,i27))))
noncomputable def zcm(er40:(List zac) × Int × (List zaz) × (List zaj) × (List zat) × Int × Int × Int):(Int × (List zac) × Int × (List zaz) × (List zaj) × (List zat) × Int × Int × Int)->Option ((Int × (List zac) × Int × (List zaz) × (List zaj) × (List zat) × Int × Int × Int) ⊕ (((List zac) × Int × (List zaz) × (List zaj) × (List zat) × Int × Int × Int) ⊕ (zaE × zah)))
 | (i62,l63,i65,l66,l67,l68,i69,i70,i71) =>
 if decide (i62<(er40.2.2.2.2.1.length:Int))=true then ((zbp (zaa.mk l63 i65 (zaE.mk l66 l67) l68 (zah.mk i69 i70 i71)) i62).bind fun v86 =>
           if (!v86.1)=true then (some (.inr (.inr ((zaE.mk ([]:List zaz) ([]:List zaj)),v86.2.f)))) else (some (.inl ((IntKind.wrap .i64 (i62+1)),v86.2.l,v86.2.at_,v86.2.p.zSy,v86.2.p.zTh,v86.2.b,v86.2.f.Code,v86.2.f.Line,v86.2.f.Col)))) else (some (.inr (.inl (l63,i65,l66,l67,l68,i69,i70,i71))))
noncomputable def zdl(p0:ByteArray):Option (zaE × zah) :=
(zel p0).bind fun v1 =>
 if (v1.2.Code != 0)=true then (some ((zaE.mk ([]:List zaz) ([]:List zaj)),v1.2)) else ((zbn (zbK v1) (v1.1,0,([]:List zaz),([]:List zaj),([]:List zat),0,0,0)).bind (zcG (fun er40 =>
  (zbn (zcm er40) (0,er40.1,er40.2.1,er40.2.2.1,er40.2.2.2.1,er40.2.2.2.2.1,er40.2.2.2.2.2.1,er40.2.2.2.2.2.2.1,er40.2.2.2.2.2.2.2)).bind (zcG (fun er84 =>
    some ((zaE.mk er84.2.2.1 er84.2.2.2.1),(zah.mk 0 0 0))) (fun qr84=>some qr84))) (fun qr40=>some qr40)))
end Go.Vs
