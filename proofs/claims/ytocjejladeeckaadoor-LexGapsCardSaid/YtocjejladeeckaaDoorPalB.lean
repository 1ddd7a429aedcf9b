import Derived.Test.YtocjejladeeckaaDoorPalT
import Derived.Test.YtocjejladeeckaaDoorPalA
import Derived.Test.YtocjejladeeckaaDoorPalUtf
set_option linter.all false
namespace Go.Vs
noncomputable def zaW(l38:List zab)(p0:ByteArray)(n37:Nat)(i35:Int)(i36:Int)(i58:Int)(b59:Bool):Option ((Int × Int × Nat × (List zab)) ⊕ ((List zab))) :=
 if Fits (l38.length+1) then ((some (l38++([(zab.mk ((Utf8.decode p0 n37).1:Int) (n37:Int) i58 i35 i36 b59)]))).bind fun l61 =>
    (zbC i35 i36 ((Utf8.decode p0 n37).1:Int)).bind fun v63 =>
    some (.inl (v63.1,v63.2,(n37+(Utf8.decode p0 n37).2),l61))) else none
noncomputable def zaC(p0:ByteArray):(Int × Int × Nat × (List zab))->Option ((Int × Int × Nat × (List zab)) ⊕ ((List zab)))
 | (i35,i36,n37,l38) =>
 if n37<p0.size then (if (((Utf8.decode p0 n37).1:Int)==65533)=true then (if Bnd (n37:Int) p0.size then ((zas (p0.extract ((n37:Int).toNat) p0.size)).bind fun v67 =>
         zaW l38 p0 n37 i35 i36 v67.2 (v67.2==1)) else none) else ((za7 ((Utf8.decode p0 n37).1:Int)).bind fun v69 =>
         zaW l38 p0 n37 i35 i36 v69 false)) else (some (.inr l38))
noncomputable def zbI(p0:ByteArray):Option ((List zab)) :=
(za9 (zaC p0) (1,1,0,[])).bind fun r56 =>
 some r56
end Go.Vs
