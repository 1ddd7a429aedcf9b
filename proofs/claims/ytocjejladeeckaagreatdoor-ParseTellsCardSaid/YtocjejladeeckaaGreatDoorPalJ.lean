import Derived.Test.YtocjejladeeckaaGreatDoorPalT
import Derived.Test.YtocjejladeeckaaGreatDoorPalI
import Derived.Test.YtocjejladeeckaaGreatDoorPalL
set_option linter.all false
namespace Go.Vs
noncomputable def zci (v1 : (List zad) × zao) : ((List zad) × Int × (List zaq) × (List zai) × (List zay) × Int × Int × Int) -> Option (((List zad) × Int × (List zaq) × (List zai) × (List zay) × Int × Int × Int) ⊕ (((List zad) × Int × (List zaq) × (List zai) × (List zay) × Int × Int × Int) ⊕ (zat × zao)))
 | (l20, i21, l22, l23, l24, i25, i26, i27) =>
 if decide (i21 < (v1.1.length : Int)) = true then ((zcx (zae.mk l20 i21 (zat.mk l22 l23) l24 (zao.mk i25 i26 i27))).bind fun v42 =>
    if (!v42.1) = true then (some (.inr (.inr ((zat.mk ([] : List zaq) ([] : List zai)), v42.2.f)))) else (some (.inl (v42.2.l, v42.2.at_, v42.2.p.zSy, v42.2.p.zTh, v42.2.b, v42.2.f.Code, v42.2.f.Line, v42.2.f.Col)))) else (some (.inr (.inl (l20, i21, l22, l23, l24, i25, i26, i27))))
noncomputable def zdg (er40 : (List zad) × Int × (List zaq) × (List zai) × (List zay) × Int × Int × Int) : (Int × (List zad) × Int × (List zaq) × (List zai) × (List zay) × Int × Int × Int) -> Option ((Int × (List zad) × Int × (List zaq) × (List zai) × (List zay) × Int × Int × Int) ⊕ (((List zad) × Int × (List zaq) × (List zai) × (List zay) × Int × Int × Int) ⊕ (zat × zao)))
 | (i62, l63, i65, l66, l67, l68, i69, i70, i71) =>
 if decide (i62 < (er40.2.2.2.2.1.length : Int)) = true then ((zbO (zae.mk l63 i65 (zat.mk l66 l67) l68 (zao.mk i69 i70 i71)) i62).bind fun v86 =>
           if (!v86.1) = true then (some (.inr (.inr ((zat.mk ([] : List zaq) ([] : List zai)), v86.2.f)))) else (some (.inl ((IntKind.wrap .i64 (i62 + 1)), v86.2.l, v86.2.at_, v86.2.p.zSy, v86.2.p.zTh, v86.2.b, v86.2.f.Code, v86.2.f.Line, v86.2.f.Col)))) else (some (.inr (.inl (l63, i65, l66, l67, l68, i69, i70, i71))))
noncomputable def zdm (p0 : ByteArray) : Option (zat × zao) :=
(zfq p0).bind fun v1 =>
 if (v1.2.Code != 0) = true then (some ((zat.mk ([] : List zaq) ([] : List zai)), v1.2)) else ((zba (zci v1) (v1.1, 0, ([] : List zaq), ([] : List zai), ([] : List zay), 0, 0, 0)).bind (zbU (fun er40 =>
  (zba (zdg er40) (0, er40.1, er40.2.1, er40.2.2.1, er40.2.2.2.1, er40.2.2.2.2.1, er40.2.2.2.2.2.1, er40.2.2.2.2.2.2.1, er40.2.2.2.2.2.2.2)).bind (zbU (fun er84 =>
    some ((zat.mk er84.2.2.1 er84.2.2.2.1), (zao.mk 0 0 0))) (fun qr84 => some qr84))) (fun qr40 => some qr40)))
end Go.Vs
