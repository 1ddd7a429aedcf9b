import Derived.Test.YtocjejladeeckaaDoorPalT
import Derived.Test.YtocjejladeeckaaDoorPalI
import Derived.Test.YtocjejladeeckaaDoorPalL
set_option linter.all false
namespace Go.Vs
noncomputable def zbF(v1:(List zab) × zag):((List zab) × Int × (List zau) × (List zaj) × (List zao) × Int × Int × Int)->Option (((List zab) × Int × (List zau) × (List zaj) × (List zao) × Int × Int × Int) ⊕ (((List zab) × Int × (List zau) × (List zaj) × (List zao) × Int × Int × Int) ⊕ (zat × zag)))
 | (l20,i21,l22,l23,l24,i25,i26,i27) =>
 if decide (i21<(v1.1.length:Int))=true then ((zbO (zaa.mk l20 i21 (zat.mk l22 l23) l24 (zag.mk i25 i26 i27))).bind fun v42 =>
    if (!v42.1)=true then (some (.inr (.inr ((zat.mk ([]:List zau) ([]:List zaj)),v42.2.f)))) else (some (.inl (v42.2.l,v42.2.at_,v42.2.p.zSy,v42.2.p.zTh,v42.2.b,v42.2.f.Code,v42.2.f.Line,v42.2.f.Col)))) else (some (.inr (.inl (l20,i21,l22,l23,l24,i25,i26,i27))))
noncomputable def zce(er40:(List zab) × Int × (List zau) × (List zaj) × (List zao) × Int × Int × Int):(Int × (List zab) × Int × (List zau) × (List zaj) × (List zao) × Int × Int × Int)->Option ((Int × (List zab) × Int × (List zau) × (List zaj) × (List zao) × Int × Int × Int) ⊕ (((List zab) × Int × (List zau) × (List zaj) × (List zao) × Int × Int × Int) ⊕ (zat × zag)))
 | (i62,l63,i65,l66,l67,l68,i69,i70,i71) =>
 if decide (i62<(er40.2.2.2.2.1.length:Int))=true then ((zbr (zaa.mk l63 i65 (zat.mk l66 l67) l68 (zag.mk i69 i70 i71)) i62).bind fun v86 =>
           if (!v86.1)=true then (some (.inr (.inr ((zat.mk ([]:List zau) ([]:List zaj)),v86.2.f)))) else (some (.inl ((IntKind.wrap .i64 (i62+1)),v86.2.l,v86.2.at_,v86.2.p.zSy,v86.2.p.zTh,v86.2.b,v86.2.f.Code,v86.2.f.Line,v86.2.f.Col)))) else (some (.inr (.inl (l63,i65,l66,l67,l68,i69,i70,i71))))
noncomputable def zb4(p0:ByteArray):Option (zat × zag) :=
(zd3 p0).bind fun v1 =>
 if (v1.2.Code != 0)=true then (some ((zat.mk ([]:List zau) ([]:List zaj)),v1.2)) else ((zbg (zbF v1) (v1.1,0,([]:List zau),([]:List zaj),([]:List zao),0,0,0)).bind (zcj (fun er40 =>
  (zbg (zce er40) (0,er40.1,er40.2.1,er40.2.2.1,er40.2.2.2.1,er40.2.2.2.2.1,er40.2.2.2.2.2.1,er40.2.2.2.2.2.2.1,er40.2.2.2.2.2.2.2)).bind (zcj (fun er84 =>
    some ((zat.mk er84.2.2.1 er84.2.2.2.1),(zag.mk 0 0 0))) (fun qr84=>some qr84))) (fun qr40=>some qr40)))
end Go.Vs
