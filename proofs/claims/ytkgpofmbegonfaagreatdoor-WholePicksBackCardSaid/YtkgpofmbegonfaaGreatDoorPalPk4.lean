import Derived.Test.YtkgpofmbegonfaaGreatDoorPalPk3
set_option linter.all false
set_option maxRecDepth 10000
namespace Go.Vs
open Go.Lib
local instance tabPalPk4:Tab:=⟨fun _=>none⟩
theorem zoe(t:List UInt8):zcC (bs t)=match zgE t with | some v=>(v,true) | none=>(0,false):=by unfold zcC; rw [zcW]; cases zgE t <;> rfl
theorem zqj(w:List UInt8):(cutF w).length<=w.length:=by
 unfold cutF trimSuffix
 split
 ·simp
 ·omega
def zi2(a:List zan)(w:List UInt8):List zan ⊕ (List zan ⊕ (List zan × Bool)):=match zkQ w with
 | some x=>.inl (a++[x])
 | none=>.inr (.inr ([],false))
theorem zhr:∀(ws:List (List UInt8)) (i:Nat) (a:List zan),zcN (fun _ a w=>zi2 a w) (fun a=>(.inl a:List zan ⊕ (List zan × Bool))) i a ws=match zfL ws with
  | some r=>.inl (a++r)
  | none=>.inr ([],false)
 | [],i,a=>by simp [zcN,zfL]
 | w::ws,i,a=>by
  simp only [zcN,zfL]
  cases hw:zkQ w with
  | none =>
   have e:zi2 a w=.inr (.inr ([],false)):=by unfold zi2; rw [hw]
   rw [e]; rfl
  | some x =>
   have e:zi2 a w=.inl (a++[x]):=by unfold zi2; rw [hw]
   rw [e]
   simp only [Option.bind_some]
   rw [zhr ws (i+1)]
   cases zfL ws with
   | none=>rfl
   | some r=>simp
theorem zh0:∀(l:List UInt8),(zcd l).length<=l.length+1/\∀w∈zcd l,w.length<=l.length
 | []=>⟨by simp [zcd],by simp [zcd]⟩
 | c::l=>by
  obtain ⟨h1,h2⟩:=zh0 l
  unfold zcd
  split
  ·refine ⟨by simp; omega,fun w hw=>?_⟩
   rcases List.mem_cons.1 hw with h | h
   ·subst h; simp
   ·have:=h2 w h; simp; omega
  ·split
   ·rename_i w ws e
    rw [e] at h1 h2
    refine ⟨by simp at h1 ⊢; omega,fun x hx=>?_⟩
    rcases List.mem_cons.1 hx with h | h
    ·subst h
     have:=h2 w (List.mem_cons_self ..)
     simp; omega
    ·have:=h2 x (List.mem_cons_of_mem _ h)
     simp; omega
   ·rename_i e; exact absurd e (zmg l)
theorem zdE(s:ByteArray)(hs:s.size<=4000):zbW s=some (zhd s):=by
 unfold zbW zhd
 by_cases h0:s=(⟨#[]⟩:ByteArray)
 ·rw [if_pos (by simpa using h0),if_pos h0]
 ·have hsp:strings_Split s ⟨#[32]⟩=some ((zcd s.data.toList).map bs):=by unfold strings_Split; rw [if_pos ⟨rfl,by omega⟩]
  rw [if_neg (by simpa using h0),if_neg h0,hsp,Option.bind_some]
  have hl:s.data.toList.length=s.size:=(ziT s).symm
  obtain ⟨g1,g2⟩:=zh0 s.data.toList
  generalize zcd s.data.toList=ws at g1 g2
  have L:=zcU ws (fun i (a:List zan)=>(i,a)) (zb2 (ws.map bs)) (fun _ a w=>zi2 a w) (fun a=>.inl a) (fun i a=>a.length=i)
   (fun i w hw a ha=>by
    have hi:=(List.getElem?_eq_some_iff.1 hw).1
    have hm:(ws.map bs)[i]?=some (bs w):=by rw [List.getElem?_map,hw]; rfl
    have hwl:=g2 w (List.mem_of_getElem? hw)
    have hc:=zqj w
    have hcs:strings_CutSuffix (bs w) ⟨#[102]⟩=some (bs (cutF w),sufF w):=by unfold strings_CutSuffix; rw [if_pos ⟨rfl,by rw [zbJ]; omega⟩,zcW]
    refine ⟨?_,fun a' ha'=>?_⟩
    ·simp only [zb2]
     rw [if_pos (zhj hm),if_pos (zdD hm),zeL hm,hcs,Option.bind_some,zjN (by rw [zbJ]; omega),Option.bind_some,zoe]
     unfold zi2 zkQ
     cases hr:zgE (cutF w) with
     | none=>simp
     | some v =>
      simp only [Option.map_some,Bool.not_true,Bool.false_eq_true,if_false]
      rw [if_pos (by unfold Fits; omega),wi (by omega)]
      rfl
    ·unfold zi2 at ha'
     split at ha'
     ·obtain rfl:=Sum.inl.inj ha'; simp [ha]
     ·cases ha')
   (fun a ha=>by
    simp only [zb2]
    rw [if_neg (by simp)]) [] rfl
  show (zbn (zb2 (ws.map bs)) (0,[])).bind _=_
  rw [L,zhr,Option.bind_some]
  cases zfL ws with
  | none=>rfl
  | some r=>simp [zcG]
theorem zh3(l:List zan)(h:l.length<=5000):zbx l l=some true:=by
 unfold zbx
 rw [if_neg (by simp)]
 have L:=zcU l (fun i (_:Unit)=>i) (za9 l l) (fun _ _ _=>(.inl ():Unit ⊕ (Unit ⊕ Bool))) (fun _=>.inl ()) (fun _ _=>True)
  (fun i x hx a _=>⟨by
   have hi:=(List.getElem?_eq_some_iff.1 hx).1
   simp only [za9]
   rw [if_pos (zhj hx),if_pos (zdD hx),if_pos (zdD hx),zeL hx,Option.bind_some,if_neg (by simp),wi (by omega)],fun _ _=>trivial⟩)
  (fun _ _=>by
   simp only [za9]
   rw [if_neg (by simp)]) () trivial
 rw [L]
 have key:∀(q:List zan) (i:Nat),zcN (fun _ _ _=>(.inl ():Unit ⊕ (Unit ⊕ Bool))) (fun _=>.inl ()) i () q=.inl ():=by
  intro q
  induction q with
  | nil=>intro i; rfl
  | cons x q ih=>intro i; simp only [zcN]; exact ih _
 rw [key]
 rfl
end Go.Vs
