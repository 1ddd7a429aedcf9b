import Derived.Test.YtkgpofmbegonfaaGreatDoorPalPk0
import Derived.Test.YtkgpofmbegonfaaGreatDoorPalT
set_option linter.all false
namespace Go.Vs
open Go.Lib
def sufF(w:List UInt8):Bool:=hasSuffix w [102]
def cutF(w:List UInt8):List UInt8:=trimSuffix w [102]
theorem zik(w:List UInt8):sufF w=true ↔ ∃t,w=t++[102]:=by
 unfold sufF hasSuffix
 rw [List.isSuffixOf_iff_suffix]
 exact ⟨fun ⟨t,h⟩=>⟨t,h.symm⟩,fun ⟨t,h⟩=>⟨t,h.symm⟩⟩
theorem zkl(t:List UInt8):cutF (t++[102])=t:=by
 have:hasSuffix (t++[102]) [102]=true:=(zik _).2 ⟨t,rfl⟩
 unfold cutF trimSuffix
 rw [if_pos this]
 simp
theorem znH{w:List UInt8}(h:sufF w=false):cutF w=w:=by
 unfold cutF trimSuffix
 rw [if_neg (by show ¬sufF w=true; rw [h]; decide)]
def zgM(w:List UInt8):Option zaj:=(zf7 (cutF w)).map fun n=>zaj.mk n (sufF w)
def zf3(x:zaj):List UInt8:=itoa x.Thread++(if x.Flush then [102] else [])
theorem zks{w:List UInt8}{x:zaj}(h:zgM w=some x):w=zf3 x/\I64 x.Thread:=by
 unfold zgM at h
 rw [Option.map_eq_some_iff] at h
 obtain ⟨n,hn,rfl⟩:=h
 obtain ⟨h1,h2⟩:=zeX.1 hn
 refine ⟨?_,h1⟩
 unfold zf3
 cases hs:sufF w with
 | true =>
  obtain ⟨t,e⟩:=(zik _).1 hs
  rw [e,zkl] at h2
  rw [e,h2]; simp
 | false =>
  rw [znH hs] at h2
  simp [h2]
def zdF:List (List UInt8)->Option (List zaj)
 | []=>some []
 | w::ws=>(zgM w).bind fun x=>(zdF ws).map (x::·)
theorem zfm:∀{ws:List (List UInt8)} {l:List zaj},zdF ws=some l->ws=l.map zf3/\∀x∈l,I64 x.Thread
 | [],l,h=>by obtain rfl:=Option.some.inj h; exact ⟨rfl,by simp⟩
 | w::ws,l,h=>by
  unfold zdF at h
  rw [Option.bind_eq_some_iff] at h
  obtain ⟨x,hx,h⟩:=h
  rw [Option.map_eq_some_iff] at h
  obtain ⟨r,hr,rfl⟩:=h
  obtain ⟨e1,i1⟩:=zks hx
  obtain ⟨e2,i2⟩:=zfm hr
  refine ⟨by rw [e1,e2]; rfl,fun y hy=>?_⟩
  rcases List.mem_cons.1 hy with h | h
  ·subst h; exact i1
  ·exact i2 y h
def zez(s:ByteArray):List zaj × Bool:=if s=(⟨#[]⟩:ByteArray) then ([],true) else match zdF (zbp s.data.toList) with
 | some l=>(l,true)
 | none=>([],false)
def zj0(l:List zaj):ByteArray:=bs (zhB (l.map zf3))
theorem zkF{s:ByteArray}{l:List zaj}(h:zez s=(l,true)):zj0 l=s/\∀x∈l,I64 x.Thread:=by
 unfold zez at h
 split at h
 ·rename_i e
  obtain ⟨rfl,_⟩:=Prod.mk.inj h
  rw [e]; exact ⟨rfl,by simp⟩
 ·split at h
  ·rename_i r hr
   obtain ⟨rfl,_⟩:=Prod.mk.inj h
   obtain ⟨e1,e2⟩:=zfm hr
   unfold zj0
   rw [← e1,zhY,zmg]
   exact ⟨rfl,e2⟩
  ·obtain ⟨_,h2⟩:=Prod.mk.inj h
   cases h2
end Go.Vs
