import Derived.Test.YtkgpofmbegonfaaGreatDoorPalPk3
set_option linter.all false
set_option maxRecDepth 10000
namespace Go.Vs
open Go.Lib
local instance tabPalPk4:Tab:=⟨fun _=>none⟩
theorem zjZ(t:List UInt8):zcs (bs t)=match zf7 t with | some v=>(v,true) | none=>(0,false):=by unfold zcs; rw [zey]; cases zf7 t <;> rfl
theorem zma(w:List UInt8):(cutF w).length<=w.length:=by
 unfold cutF trimSuffix
 split
 ·simp
 ·omega
def ziL(a:List zaj)(w:List UInt8):List zaj ⊕ (List zaj ⊕ (List zaj × Bool)):=match zgM w with
 | some x=>.inl (a++[x])
 | none=>.inr (.inr ([],false))
theorem zhf:∀(ws:List (List UInt8)) (i:Nat) (a:List zaj),zcQ (fun _ a w=>ziL a w) (fun a=>(.inl a:List zaj ⊕ (List zaj × Bool))) i a ws=match zdF ws with
  | some r=>.inl (a++r)
  | none=>.inr ([],false)
 | [],i,a=>by simp [zcQ,zdF]
 | w::ws,i,a=>by
  simp only [zcQ,zdF]
  cases hw:zgM w with
  | none =>
   have e:ziL a w=.inr (.inr ([],false)):=by unfold ziL; rw [hw]
   rw [e]; rfl
  | some x =>
   have e:ziL a w=.inl (a++[x]):=by unfold ziL; rw [hw]
   rw [e]
   simp only [Option.bind_some]
   rw [zhf ws (i+1)]
   cases zdF ws with
   | none=>rfl
   | some r=>simp
theorem zf4:∀(l:List UInt8),(zbp l).length<=l.length+1/\∀w∈zbp l,w.length<=l.length
 | []=>⟨by simp [zbp],by simp [zbp]⟩
 | c::l=>by
  obtain ⟨h1,h2⟩:=zf4 l
  unfold zbp
  split
  ·refine ⟨by simp; omega,fun w hw=>?_⟩
   rcases List.mem_cons.1 hw with h | h
   ·subst h; simp
   ·have:=h2 w h; simp; omega
  ·split
   ·rename_i w ws e
    rw [e] at h1 h2
    refine ⟨by simp at h1 ⊢; omega,fun x hx=>?_⟩
    rcases List.mem_cons.1 hx with h | h
    ·subst h
     have:=h2 w (List.mem_cons_self ..)
     simp; omega
    ·have:=h2 x (List.mem_cons_of_mem _ h)
     simp; omega
   ·rename_i e; exact absurd e (zeF l)
theorem zdp(s:ByteArray)(hs:s.size<=4000):zbD s=some (zez s):=by
 unfold zbD zez
 by_cases h0:s=(⟨#[]⟩:ByteArray)
 ·rw [if_pos (by simpa using h0),if_pos h0]
 ·have hsp:strings_Split s ⟨#[32]⟩=some ((zbp s.data.toList).map bs):=by unfold strings_Split; rw [if_pos ⟨rfl,by omega⟩]
  rw [if_neg (by simpa using h0),if_neg h0,hsp,Option.bind_some]
  have hl:s.data.toList.length=s.size:=(zgf s).symm
  obtain ⟨g1,g2⟩:=zf4 s.data.toList
  generalize zbp s.data.toList=ws at g1 g2
  have L:=zc2 ws (fun i (a:List zaj)=>(i,a)) (zbM (ws.map bs)) (fun _ a w=>ziL a w) (fun a=>.inl a) (fun i a=>a.length=i)
   (fun i w hw a ha=>by
    have hi:=(List.getElem?_eq_some_iff.1 hw).1
    have hm:(ws.map bs)[i]?=some (bs w):=by rw [List.getElem?_map,hw]; rfl
    have hwl:=g2 w (List.mem_of_getElem? hw)
    have hc:=zma w
    have hcs:strings_CutSuffix (bs w) ⟨#[102]⟩=some (bs (cutF w),sufF w):=by unfold strings_CutSuffix; rw [if_pos ⟨rfl,by rw [zby]; omega⟩,zey]
    refine ⟨?_,fun a' ha'=>?_⟩
    ·simp only [zbM]
     rw [if_pos (zhA hm),if_pos (zd1 hm),zeH hm,hcs,Option.bind_some,zjv (by rw [zby]; omega),Option.bind_some,zjZ]
     unfold ziL zgM
     cases hr:zf7 (cutF w) with
     | none=>simp
     | some v =>
      simp only [Option.map_some,Bool.not_true,Bool.false_eq_true,if_false]
      rw [if_pos (by unfold Fits; omega),wi (by omega)]
      rfl
    ·unfold ziL at ha'
     split at ha'
     ·obtain rfl:=Sum.inl.inj ha'; simp [ha]
     ·cases ha')
   (fun a ha=>by
    simp only [zbM]
    rw [if_neg (by simp)]) [] rfl
  show (zaY (zbM (ws.map bs)) (0,[])).bind _=_
  rw [L,zhf,Option.bind_some]
  cases zdF ws with
  | none=>rfl
  | some r=>simp [zcl]
theorem zoX(w:List UInt8)(hw:w.length<=5000):(decide (((bs w).size:Int)>0)&&((bt (bs w) (IntKind.wrap .i64 (((bs w).size:Int)-1)))==102))=sufF w:=by
 rcases zhM w with rfl | ⟨t,c,rfl⟩
 ·rfl
 ·have hz:((bs (t++[c])).size:Int)=t.length+1:=by rw [zby]; simp
  rw [hz,zbg ⟨by omega,by simp at hw; omega⟩]
  have e1:((t.length:Int)+1-1)=((t.length:Nat):Int):=by omega
  rw [e1,zk1 (t++[c]) t.length (by simp)]
  have e2:(t++[c])[t.length]'(by simp)=c:=by simp
  rw [e2]
  have e3:decide ((t.length:Int)+1>0)=true:=decide_eq_true (by omega)
  rw [e3,Bool.true_and,Bool.eq_iff_iff,zik]
  constructor
  ·intro h
   have hc:c=102:=by
    have h2:(c.toNat:Int)=102:=by simpa using h
    have:c.toNat=102:=by omega
    exact UInt8.toNat_inj.1 this
   exact ⟨t,by rw [hc]⟩
  ·rintro ⟨t',h⟩
   have:=(List.append_inj' h rfl).2
   have hc:c=102:=by simpa using this
   subst hc; rfl
theorem zok(w:List UInt8)(hw:w.length<=5000)(h:sufF w=true):Bnd (IntKind.wrap .i64 (((bs w).size:Int)-1)) (bs w).size/\(bs w).extract 0 ((IntKind.wrap .i64 (((bs w).size:Int)-1)).toNat)=bs (cutF w):=by
 obtain ⟨t,rfl⟩:=(zik _).1 h
 have hz:((bs (t++[102])).size:Int)=t.length+1:=by rw [zby]; simp
 rw [hz,zbg ⟨by omega,by simp at hw; omega⟩,zkl]
 refine ⟨⟨by omega,by rw [hz]; omega⟩,?_⟩
 have e1:((t.length:Int)+1-1).toNat=t.length:=by omega
 rw [e1]
 apply bext
 rw [Lib.extract_from_zero,zey,zey]
 simp
theorem zjX(s:ByteArray)(pre cur suf:List UInt8)(out:List zaj)(h:s.data.toList=pre++cur++suf)(hs:s.size<=4000)(hn:suf=[]\/suf.head?=some 32)(ho:out.length<=pre.length) :
  zaJ s ((pre.length:Nat),((pre.length+cur.length:Nat):Int),out)=some (match zgM cur with
   | some x=>.inl (((pre.length+cur.length+1:Nat):Int),((pre.length+cur.length+1:Nat):Int),out++[x])
   | none=>.inr (.inr ([],false))):=by
 have hl:s.size=pre.length+cur.length+suf.length:=by rw [zgf,h]; simp; omega
 have hsb:s=bs (pre++cur++suf):=by rw [← h,zmg]
 have e0:s.extract (pre.length:Int).toNat ((pre.length+cur.length:Nat):Int).toNat=bs cur:=by
  apply bext
  rw [Int.toNat_natCast,Int.toNat_natCast,Lib.extract_data,h,zey]
  simp
 have hc2:(decide (((pre.length+cur.length:Nat):Int)<(s.size:Int))&&((bt s ((pre.length+cur.length:Nat):Int)) != 32))=false:=by
  rcases hn with rfl | hn
  ·have:decide (((pre.length+cur.length:Nat):Int)<(s.size:Int))=false:=decide_eq_false (by rw [hl]; simp)
   rw [this]; rfl
  ·obtain ⟨r,rfl⟩:∃r,suf=32::r:=by
    cases suf with
    | nil=>cases hn
    | cons c r=>exact ⟨r,by simp at hn; rw [hn]⟩
   have e:bt s ((pre.length+cur.length:Nat):Int)=32:=by
    rw [hsb,zk1 _ (pre.length+cur.length) (by simp)]
    have:(pre++cur++32::r)[pre.length+cur.length]'(by simp)=32:=by
     rw [List.getElem_append_right (by simp)]
     simp
    rw [this]; rfl
   rw [e]; simp
 simp only [zaJ]
 rw [if_pos (by simp; omega),if_pos (fun hlt=>⟨by omega,by simp at hlt; omega⟩),if_neg (by rw [hc2]; decide),if_pos ⟨by omega,by omega⟩,if_pos ⟨by omega,by omega⟩,e0]
 have hcl:cur.length<=5000:=by omega
 have hz:(bs cur).size=cur.length:=zby cur
 rw [if_pos (fun hlt=>by
  have hp:0<cur.length:=by rw [hz] at hlt; simpa using hlt
  rw [hz,zbg ⟨by omega,by omega⟩]
  exact ⟨by omega,by omega⟩),Option.bind_some,zoX cur hcl]
 have w1:IntKind.wrap .i64 (((pre.length+cur.length:Nat):Int)+1)=((pre.length+cur.length+1:Nat):Int):=by rw [wi (by omega)]; omega
 have j2:zbl out (sufF cur) ((pre.length+cur.length:Nat):Int) (bs (cutF cur))=some (match zgM cur with
   | some x=>.inl (((pre.length+cur.length+1:Nat):Int),((pre.length+cur.length+1:Nat):Int),out++[x])
   | none=>.inr (.inr ([],false))):=by
  have hcc:=zma cur
  unfold zbl
  rw [zdY _ (by rw [zby]; omega),Option.bind_some,zjZ]
  unfold zgM
  cases hr:zf7 (cutF cur) with
  | none=>simp
  | some v =>
   simp only [Option.map_some,Bool.not_true,Bool.false_eq_true,if_false]
   rw [if_pos (by unfold Fits; omega),Option.bind_some]
   unfold zbm
   rw [w1]
 cases hf:sufF cur with
 | true =>
  obtain ⟨b1,b2⟩:=zok cur hcl hf
  rw [hf] at j2
  rw [if_pos rfl,if_pos b1,Option.bind_some,b2]
  exact j2
 | false =>
  rw [hf,znH hf] at j2
  rw [if_neg (by decide)]
  exact j2
def goOn(cur suf:List UInt8):List (List UInt8):=match zbp suf with
 | w::ws=>(cur++w)::ws
 | []=>[cur]
theorem zke(suf:List UInt8):goOn [] suf=zbp suf:=by
 unfold goOn
 cases h:zbp suf with
 | nil=>exact absurd h (zeF suf)
 | cons w ws=>rfl
theorem zmL(s:ByteArray)(hs:s.size<=4000):∀(suf pre cur:List UInt8) (out:List zaj),s.data.toList=pre++cur++suf->out.length<=pre.length ->
  zaY (zaJ s) ((pre.length:Nat),((pre.length+cur.length:Nat):Int),out)=some (match zdF (goOn cur suf) with
   | some r=>.inl (out++r)
   | none=>.inr ([],false)):=by
 intro suf
 induction suf with
 | nil =>
  intro pre cur out h ho
  have hl:s.size=pre.length+cur.length:=by rw [zgf,h]; simp
  have hw:=zjX s pre cur [] out h hs (.inl rfl) ho
  have e:goOn cur []=[cur]:=by simp [goOn,zbp]
  rw [e]
  unfold zdF
  cases hp:zgM cur with
  | none =>
   rw [hp] at hw
   rw [zaD hw]; rfl
  | some x =>
   rw [hp] at hw
   rw [za9 hw,Option.bind_some]
   refine zaD ?_
   simp only [zaJ]
   rw [if_neg (by simp; omega)]
   simp [zdF]
 | cons c r ih =>
  intro pre cur out h ho
  have hl:s.size=pre.length+cur.length+(r.length+1):=by rw [zgf,h]; simp; omega
  by_cases hc:c=32
  ·subst hc
   have hw:=zjX s pre cur (32::r) out h hs (.inr rfl) ho
   have e:goOn cur (32::r)=cur::zbp r:=by simp [goOn,zbp]
   rw [e]
   unfold zdF
   cases hp:zgM cur with
   | none =>
    rw [hp] at hw
    rw [zaD hw]; rfl
   | some x =>
    rw [hp] at hw
    rw [za9 hw,Option.bind_some]
    have hi:=ih (pre++cur++[32]) [] (out++[x]) (by rw [h]; simp) (by simp; omega)
    have e2:(pre++cur++[32]).length=pre.length+cur.length+1:=by simp; omega
    rw [e2,List.length_nil,Nat.add_zero,zke] at hi
    rw [hi]
    cases zdF (zbp r) with
    | none=>rfl
    | some q=>simp
  ·have hb:bt s ((pre.length+cur.length:Nat):Int)=(c.toNat:Int):=by
    have hsb:s=bs (pre++cur++c::r):=by rw [← h,zmg]
    rw [hsb,zk1 _ (pre.length+cur.length) (by simp)]
    have:(pre++cur++c::r)[pre.length+cur.length]'(by simp)=c:=by
     rw [List.getElem_append_right (by simp)]
     simp
    rw [this]
   have hne:((c.toNat:Int) != 32)=true:=by
    have:c.toNat≠32:=fun e=>hc (UInt8.toNat_inj.1 e)
    simp; omega
   have hstep:zaJ s ((pre.length:Nat),((pre.length+cur.length:Nat):Int),out)=some (.inl ((pre.length:Nat),((pre.length+(cur++[c]).length:Nat):Int),out)):=by
    simp only [zaJ]
    rw [if_pos (by simp; omega),if_pos (fun hlt=>⟨by omega,by simp at hlt; omega⟩),hb,hne,if_pos (by simp; omega)]
    unfold zbm
    rw [wi (by omega)]
    simp; omega
   rw [za9 hstep,ih pre (cur++[c]) out (by rw [h]; simp) ho]
   have e:goOn (cur++[c]) r=goOn cur (c::r):=by
    unfold goOn
    rw [zbp,if_neg hc]
    cases hq:zbp r with
    | nil=>exact absurd hq (zeF r)
    | cons w ws=>simp
   rw [e]
theorem ziS(s:ByteArray)(hs:s.size<=4000):zca s=some (zez s):=by
 unfold zca zez
 by_cases h0:s=(⟨#[]⟩:ByteArray)
 ·rw [if_pos (by simpa using h0),if_pos h0]
 ·rw [if_neg (by simpa using h0),if_neg h0]
  have L:=zmL s hs s.data.toList [] [] [] rfl (by simp)
  rw [zke] at L
  show (zaY (zaJ s) (0,0,[])).bind _=_
  have e:((([]:List UInt8).length:Nat):Int)=0:=rfl
  have L2:zaY (zaJ s) (0,0,[])=_:=L
  rw [L2,Option.bind_some]
  cases zdF (zbp s.data.toList) with
  | none=>rfl
  | some r=>simp [zcl]
theorem zhO(l:List zaj)(h:l.length<=5000):zbc l l=some true:=by
 unfold zbc
 rw [if_neg (by simp)]
 have L:=zc2 l (fun i (_:Unit)=>i) (zaW l l) (fun _ _ _=>(.inl ():Unit ⊕ (Unit ⊕ Bool))) (fun _=>.inl ()) (fun _ _=>True)
  (fun i x hx a _=>⟨by
   have hi:=(List.getElem?_eq_some_iff.1 hx).1
   simp only [zaW]
   rw [if_pos (zhA hx),if_pos (zd1 hx),if_pos (zd1 hx),zeH hx,Option.bind_some,if_neg (by simp),wi (by omega)],fun _ _=>trivial⟩)
  (fun _ _=>by
   simp only [zaW]
   rw [if_neg (by simp)]) () trivial
 rw [L]
 have key:∀(q:List zaj) (i:Nat),zcQ (fun _ _ _=>(.inl ():Unit ⊕ (Unit ⊕ Bool))) (fun _=>.inl ()) i () q=.inl ():=by
  intro q
  induction q with
  | nil=>intro i; rfl
  | cons x q ih=>intro i; simp only [zcQ]; exact ih _
 rw [key]
 rfl
end Go.Vs
