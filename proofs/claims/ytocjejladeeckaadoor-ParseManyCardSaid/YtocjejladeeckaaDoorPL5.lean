import Derived.Test.YtocjejladeeckaaDoorPL4
import Derived.Test.YtocjejladeeckaaDoorPP4
set_option linter.all false
set_option maxRecDepth 100000
namespace Go.Vs
local instance tabPalY2:Tab:=⟨fun _=>none⟩
def hltW:ByteArray:=⟨#[104,108,116]⟩
def sN(i:Nat):ByteArray:=(⟨#[115]⟩:ByteArray)++zdj (i:Int)
def ziG(i:Nat):List It:=[kwI zpt,spI,kwI (sN i),spI,nuI 1,nlI]
def thIt:List It:=[kwI zps,nlI,kwI hltW,nlI]
def zdg(a:Nat):List It:=(List.range a).flatMap ziG
def zhi:Nat->List It
 | 0=>[]
 | n+1=>zhi n++thIt
def zcT(a b:Nat):List It:=zdg a++zhi b
theorem zv8:∀i:Nat,i<66->kwOk (sN i)=true:=by decide +kernel
theorem zwe:I64 1:=by unfold I64; decide
theorem zj9(i:Nat)(h:i<66):(∀a∈ziG i,ItOk a)/\Ln (ziG i):=by
 refine ⟨fun a ha=>?_,zmG [kwI zpt,spI,kwI (sN i),spI,nuI 1] nlI rfl rfl⟩
 unfold ziG at ha
 simp only [List.mem_cons,List.mem_nil_iff,or_false] at ha
 rcases ha with rfl | rfl | rfl | rfl | rfl | rfl
 ·exact zkr (by decide)
 ·exact zoR
 ·exact zkr (zv8 i h)
 ·exact zoR
 ·exact zrc zwe
 ·exact zmy
theorem zlX:(∀a∈thIt,ItOk a)/\Ln thIt:=by
 refine ⟨fun a ha=>?_,zmH (zmG [kwI zps] nlI rfl rfl) (zmG [kwI hltW] nlI rfl rfl)⟩
 unfold thIt at ha
 simp only [List.mem_cons,List.mem_nil_iff,or_false] at ha
 rcases ha with rfl | rfl | rfl | rfl
 ·exact zkr (by decide)
 ·exact zmy
 ·exact zkr (by decide)
 ·exact zmy
theorem zj7:∀n,(∀a∈zhi n,ItOk a)/\Ln (zhi n)
 | 0=>⟨fun a ha=>by (cases ha),⟨rfl,fun m h=>h⟩⟩
 | n+1=>by
  obtain ⟨h1,h2⟩:=zj7 n
  refine ⟨fun a ha=>?_,zmH h2 zlX.2⟩
  rcases List.mem_append.1 ha with ha | ha
  ·exact h1 a ha
  ·exact zlX.1 a ha
theorem zmE(a b:Nat)(h:a<=66):(∀x∈zcT a b,ItOk x)/\sep (zcT a b)=true:=by
 have h1:=zj7 b
 refine ⟨fun x hx=>?_,(zmH (zmF ziG _ fun i hi=>(zj9 i (by have:=List.mem_range.1 hi; omega)).2) h1.2).1⟩
 rcases List.mem_append.1 hx with hx | hx
 ·obtain ⟨i,hi,hx⟩:=List.mem_flatMap.1 hx
  exact (zj9 i (by have:=List.mem_range.1 hi; omega)).1 x hx
 ·exact h1.1 x hx
def chkM(a b:Nat)(c l k:Int):Bool :=
 let r:=ziW (mkI (zcT a b) (1,1))
 ((r.2.Code==c)&&((r.2.Line==l)&&(r.2.Col==k)))&&((r.2.Code != 0)||(((r.1.zSy.length:Int)==(a:Int))&&((r.1.zTh.length:Int)==(b:Int))))
theorem m00:chkM 63 63 0 0 0=true:=by decide +kernel
theorem m01:chkM 63 64 0 0 0=true:=by decide +kernel
theorem m02:chkM 63 65 10 192 1=true:=by decide +kernel
theorem m10:chkM 64 63 0 0 0=true:=by decide +kernel
theorem m11:chkM 64 64 0 0 0=true:=by decide +kernel
theorem m12:chkM 64 65 10 193 1=true:=by decide +kernel
theorem m20:chkM 65 63 10 65 1=true:=by decide +kernel
theorem m21:chkM 65 64 10 65 1=true:=by decide +kernel
theorem m22:chkM 65 65 10 65 1=true:=by decide +kernel
end Go.Vs
