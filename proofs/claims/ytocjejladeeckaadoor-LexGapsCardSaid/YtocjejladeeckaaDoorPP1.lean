import Derived.Test.YtocjejladeeckaaDoorPalT
import Derived.Test.YtocjejladeeckaaDoorPS0
import Derived.Lib.ItoaLen
import Derived.Test.YtocjejladeeckaaDoorPalNum
import Derived.Test.YtocjejladeeckaaDoorPalA
import Derived.Test.YtocjejladeeckaaDoorPalUtf
import Derived.Test.YtocjejladeeckaaDoorPalB
import Derived.Test.YtocjejladeeckaaDoorPalC
import Derived.Test.YtocjejladeeckaaDoorPalX
import Derived.Test.YtocjejladeeckaaDoorPalL
import Derived.Test.YtocjejladeeckaaDoorPT1
set_option linter.all false
section
end
section
namespace Go.Vs
end Go.Vs
end
section
namespace Go.Vs
open Go.Lib
local instance tabPalShow3:Tab:=⟨fun _=>none⟩
def zSy(syms:List ByteArray):Prop:=∀s∈syms,s.size<=1000000
end Go.Vs
end
section
namespace Go.Vs
open Go.Lib
local instance tabPalShow4:Tab:=⟨fun _=>none⟩
def has(l:List ByteArray)(s:ByteArray):Bool:=l.any fun x=>decide (x=s)
def seen(l:List ByteArray):List (ByteArray × Bool):=l.map fun k=>(k,true)
end Go.Vs
end
section
namespace Go.Vs
open Go.Lib
local instance tabPalShow5:Tab:=⟨fun _=>none⟩
end Go.Vs
end
section
namespace Go.Vs
open Go.Lib
local instance tabPalShow6:Tab:=⟨fun _=>none⟩
end Go.Vs
end
section
namespace Go.Vs
open Go.Lib
local instance tabPalShow7:Tab:=⟨fun _=>none⟩
section sizes
theorem z1:(⟨#[32]⟩:ByteArray).size=1:=rfl
theorem z2:(⟨#[10]⟩:ByteArray).size=1:=rfl
theorem z3:(⟨#[115,121,109,32]⟩:ByteArray).size=4:=rfl
theorem z4:(⟨#[58,10]⟩:ByteArray).size=2:=rfl
theorem z5:(⟨#[9]⟩:ByteArray).size=1:=rfl
theorem z9:(⟨#[93]⟩:ByteArray).size=1:=rfl
def zi4(syms:List ByteArray):Prop:=∀s∈syms,s.size<=1000
theorem zi4.syms{syms}(h:zi4 syms):zSy syms:=fun s hs=>by have:=h s hs; omega
end sizes
end Go.Vs
end
section
namespace Go.Vs
open Go.Lib
local instance tabPalShow8:Tab:=⟨fun _=>none⟩
end Go.Vs
end
section
namespace Go.Vs
end Go.Vs
end
section
namespace Go.Vs
def Wi(k:IntKind)(n:Int):Prop:=k.min<=n/\n<=k.max
theorem Wi.i64{n:Int}(h:Wi .i64 n):I64 n:=h
end Go.Vs
end
section
namespace Go.Vs
open Go.Lib
local instance tabPalShow9:Tab:=⟨fun _=>none⟩
end Go.Vs
end
section
namespace Go.Vs
end Go.Vs
end
section
namespace Go.Vs
local instance tabPalSame:Tab:=⟨fun _=>none⟩
end Go.Vs
end
section
namespace Go.Vs
end Go.Vs
end
section
namespace Go.Vs
end Go.Vs
end
section
namespace Go.Vs
end Go.Vs
end
section
namespace Go.Vs
end Go.Vs
end
section
namespace Go.Vs
local instance tabPalP1:Tab:=⟨fun _=>none⟩
structure zgX (T:List zaa):Prop where
 len:T.length<=100000
 name:∀t∈T,t.Kind=1->t.Text≠⟨#[]⟩
 next:∀(i:Nat),i<T.length->(rd T (i:Int)).Kind≠4->i+1<T.length
 txt:∀t∈T,t.Text.size<=1000000
abbrev tk(T:List zaa)(i:Nat):zaa:=rd T (i:Int)
theorem zgX.size{T:List zaa}(h:zgX T){i:Nat}(hi:i<T.length):(tk T i).Text.size<=1000000:=by
 have:tk T i=T[i]:=zhf (List.getElem?_eq_getElem hi)
 rw [this]; exact h.txt _ (List.getElem_mem hi)
theorem zgX.read{T:List zaa}(h:zgX T){i:Nat}(hi:i<T.length):zcd (tk T i).Text=some (zbY (tk T i).Text):=zgv (by have:=h.size hi; omega)
theorem w1{i:Nat}(h:i<=2000010):IntKind.wrap .i64 ((i:Int)+1)=((i+1:Nat):Int):=by rw [zaR ⟨by omega,by omega⟩]; omega
theorem w2{i:Nat}(h:i<=2000010):IntKind.wrap .i64 ((i:Int)+2)=((i+2:Nat):Int):=by rw [zaR ⟨by omega,by omega⟩]; omega
theorem w3{i:Nat}(h:i<=2000010):IntKind.wrap .i64 ((i:Int)+3)=((i+3:Nat):Int):=by rw [zaR ⟨by omega,by omega⟩]; omega
def zkd(syms:List zgY):List ByteArray:=syms.map (·.Name)
end Go.Vs
end
