import Derived.Test.YtocjejladeeckaaDoorPL1
import Derived.Test.YtocjejladeeckaaDoorPS1
import Derived.Test.YtocjejladeeckaaDoorPS0
import Derived.Test.YtocjejladeeckaaDoorPP4
set_option linter.all false
section
namespace Go.Vs
local instance tabPalLx5:Tab:=⟨fun _=>none⟩
abbrev It:=Int × List Rn
def zda(l:List It):List Rn:=l.flatMap (·.2)
def itB(l:List It):ByteArray:=bs (flat (zda l))
def ItOk(a:It):Prop:=(∀x∈a.2,Dec x)/\((a.1=0/\∃x,a.2=[x]/\x.bad=false/\zdy x.r=true)\/(a.1≠0/\∃x w,a.2=x::w/\Tk a.1 x w))
def wk2(k:Int):Bool:=(k==1)||(k==2)
def sep:List It->Bool
 | []=>true
 | a::r=>(!wk2 a.1||(match r with | []=>true | b::_=>!wk2 b.1))&&sep r
theorem zf0(a:It)(l:List It):zda (a::l)=a.2++zda l:=by simp [zda]
theorem zl8(a b:List It):zda (a++b)=zda a++zda b:=by simp [zda]
theorem zil(a b:List It):itB (a++b)=itB a++itB b:=by unfold itB; rw [zl8,zcE,zjh]
theorem zjI:itB []=⟨#[]⟩:=rfl
theorem zku(a:It)(l:List It):itB (a::l)=bs (flat a.2)++itB l:=by unfold itB; rw [zf0,zcE,zjh]
theorem zjs:∀(l:List It) (a:It) (m:List It),wk2 a.1=false->sep l=true->sep m=true->sep (l++a::m)=true
 | [],a,m,h,_,hm=>by simp [sep,h,hm]
 | b::l,a,m,h,hl,hm=>by
  unfold sep at hl
  simp only [Bool.and_eq_true] at hl
  have ih:=zjs l a m h hl.2 hm
  rw [List.cons_append]
  unfold sep
  simp only [Bool.and_eq_true]
  refine ⟨?_,ih⟩
  cases l with
  | nil=>simp [h]
  | cons c l=>exact hl.1
def Ln(l:List It):Prop:=sep l=true/\∀m,sep m=true->sep (l++m)=true
theorem zmG(l:List It)(a:It)(h:wk2 a.1=false)(hl:sep l=true):Ln (l++[a]) :=
 ⟨zjs l a [] h hl rfl,fun m hm=>by rw [List.append_assoc]; exact zjs l a m h hl hm⟩
theorem zmF{α:Type}(f:α->List It):∀(l:List α),(∀x∈l,Ln (f x))->Ln (l.flatMap f)
 | [],_=>⟨rfl,fun m h=>h⟩
 | x::l,h=>by
  have h1:=h x (by simp)
  have h2:=zmF f l fun y hy=>h y (by simp [hy])
  rw [List.flatMap_cons]
  exact ⟨h1.2 _ h2.1,fun m hm=>by rw [List.append_assoc]; exact h1.2 _ (h2.2 m hm)⟩
theorem zmH{a b:List It}(h1:Ln a)(h2:Ln b):Ln (a++b):=⟨h1.2 _ h2.1,fun m hm=>by rw [List.append_assoc]; exact h1.2 _ (h2.2 m hm)⟩
def spI:It:=(0,[asc 32])
def nlI:It:=(4,[asc 10])
def kwI(s:ByteArray):It:=(1,ascs s)
def nuI(v:Int):It:=(2,ascs (zdj v))
theorem zqS{k:Int}{s:ByteArray}{l:List Rn}(hk:k≠0)(h:Wd k s l):ItOk (k,l):=⟨h.dec,.inr ⟨hk,h.tk⟩⟩
theorem zoR:ItOk spI:=⟨fun x hx=>by rw [List.mem_singleton.1 hx]; exact zit (by decide),.inl ⟨rfl,_,rfl,rfl,rfl⟩⟩
theorem zmy:ItOk nlI:=⟨fun x hx=>by rw [List.mem_singleton.1 hx]; exact zit (by decide),.inr ⟨by decide,_,_,rfl,rfl,rfl,by decide,.inl ⟨rfl,rfl,rfl⟩⟩⟩
theorem zkr{s:ByteArray}(h:kwOk s=true):ItOk (kwI s):=zqS (by decide) (zwq h)
theorem zrc{v:Int}(h:I64 v):ItOk (nuI v):=zqS (by decide) (zrb h)
theorem zro(s:ByteArray):bs (flat (kwI s).2)=s:=by show bs (flat (ascs s))=s; rw [zeR,zlp]
theorem zwi(v:Int):bs (flat (nuI v).2)=zdj v:=by show bs (flat (ascs _))=_; rw [zeR,zlp]
def zpt:ByteArray:=⟨#[115,121,109]⟩
def zps:ByteArray:=⟨#[116,104,114,101,97,100]⟩
end Go.Vs
end
section
namespace Go.Vs
local instance tabPalLx6:Tab:=⟨fun _=>none⟩
end Go.Vs
end
section
namespace Go.Vs
local instance tabPalLx7:Tab:=⟨fun _=>none⟩
end Go.Vs
end
