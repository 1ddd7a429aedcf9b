import Derived.Test.YtkgpofmbegonfaaGreatDoorPalPk0
import Derived.Test.YtkgpofmbegonfaaGreatDoorPalT
set_option linter.all false
namespace Go.Vs
open Go.Lib
def sufF(w:List UInt8):Bool:=hasSuffix w [102]
def cutF(w:List UInt8):List UInt8:=trimSuffix w [102]
theorem zjG(w:List UInt8):sufF w=true ↔ ∃t,w=t++[102]:=by
 unfold sufF hasSuffix
 rw [List.isSuffixOf_iff_suffix]
 exact ⟨fun ⟨t,h⟩=>⟨t,h.symm⟩,fun ⟨t,h⟩=>⟨t,h.symm⟩⟩
theorem zoP(t:List UInt8):cutF (t++[102])=t:=by
 have:hasSuffix (t++[102]) [102]=true:=(zjG _).2 ⟨t,rfl⟩
 unfold cutF trimSuffix
 rw [if_pos this]
 simp
theorem zsb{w:List UInt8}(h:sufF w=false):cutF w=w:=by
 unfold cutF trimSuffix
 rw [if_neg (by show ¬sufF w=true; rw [h]; decide)]
def zkQ(w:List UInt8):Option zan:=(zgE (cutF w)).map fun n=>zan.mk n (sufF w)
def zc6(x:zan):List UInt8:=itoa x.Thread++(if x.Flush then [102] else [])
theorem zif(n:Int):∀c∈itoa n,c=45\/zdo c=true:=by
 have hd:∀u,∀c∈decDigits u,zdo c=true:=fun u=>List.all_eq_true.1 (zb4 u).2.1
 intro c hc
 unfold itoa at hc
 split at hc
 ·rcases List.mem_cons.1 hc with h | h
  ·exact .inl h
  ·exact .inr (hd _ c h)
 ·exact .inr (hd _ c hc)
theorem zie(n:Int):sufF (itoa n)=false:=by
 cases h:sufF (itoa n) with
 | false=>rfl
 | true =>
  obtain ⟨t,e⟩:=(zjG _).1 h
  have hm:(102:UInt8)∈itoa n:=by rw [e]; simp
  rcases zif n _ hm with h | h
  ·exact absurd h (by decide)
  ·exact absurd h (by decide)
theorem zkP{x:zan}(h:I64 x.Thread):zkQ (zc6 x)=some x:=by
 obtain ⟨n,f⟩:=x
 unfold zkQ zc6
 cases f with
 | true =>
  have e:sufF (itoa n++[102])=true:=(zjG _).2 ⟨_,rfl⟩
  simp only [if_true]
  rw [zoP,e,zgc h]; rfl
 | false =>
  simp only [Bool.false_eq_true,if_false,List.append_nil]
  rw [zsb (zie n),zie n,zgc h]; rfl
theorem zjF(x:zan):∀c∈zc6 x,c≠32:=by
 intro c hc e
 subst e
 unfold zc6 at hc
 rcases List.mem_append.1 hc with h | h
 ·rcases zif _ _ h with h | h
  ·exact absurd h (by decide)
  ·exact absurd h (by decide)
 ·split at h
  ·simp at h
  ·simp at h
theorem zlq(n:Int):itoa n≠[]:=by
 unfold itoa
 split
 ·simp
 ·exact (zb4 _).2.2.1
theorem zn0(x:zan):zc6 x≠[]:=by
 unfold zc6
 simp [zlq]
def zfL:List (List UInt8)->Option (List zan)
 | []=>some []
 | w::ws=>(zkQ w).bind fun x=>(zfL ws).map (x::·)
theorem zhc:∀{l:List zan},(∀x∈l,I64 x.Thread)->zfL (l.map zc6)=some l
 | [],_=>rfl
 | x::l,h=>by
  rw [List.map_cons,zfL,zkP (h x (List.mem_cons_self ..)),Option.bind_some,zhc fun y hy=>h y (List.mem_cons_of_mem _ hy)]
  rfl
def zhd(s:ByteArray):List zan × Bool:=if s=(⟨#[]⟩:ByteArray) then ([],true) else match zfL (zcd s.data.toList) with
 | some l=>(l,true)
 | none=>([],false)
def zfi(l:List zan):ByteArray:=bs (zgF (l.map zc6))
theorem zlb{l:List zan}(h:∀x∈l,I64 x.Thread):zhd (zfi l)=(l,true):=by
 cases l with
 | nil=>rfl
 | cons x l =>
  have hw:∀w∈(x::l).map zc6,∀c∈w,c≠32:=by
   intro w hw
   obtain ⟨y,_,rfl⟩:=List.mem_map.1 hw
   exact zjF y
  have hs:=zh1 ((x::l).map zc6) (by simp) hw
  have hne:¬zfi (x::l)=(⟨#[]⟩:ByteArray):=by
   intro e
   have e2:=congrArg (fun b:ByteArray=>b.data.toList) e
   unfold zfi at e2
   simp only [zcW] at e2
   cases l with
   | nil=>rw [List.map_cons,List.map_nil,zhl] at e2; exact zn0 x e2
   | cons y l=>rw [List.map_cons,List.map_cons,zid] at e2; simp at e2
  unfold zhd
  rw [if_neg hne]
  unfold zfi
  rw [zcW,hs,zhc h]
end Go.Vs
