import Derived.Test.YtkgpofmbegonfaaGreatDoorPS0
import Derived.Test.YtkgpofmbegonfaaGreatDoorPalK
import Derived.Test.YtkgpofmbegonfaaGreatDoorPT1
import Derived.Test.YtkgpofmbegonfaaGreatDoorPalJ
set_option linter.all false
section
namespace Go.Vs
local instance tabPalSame:Tab:=⟨fun _=>none⟩
end Go.Vs
end
section
namespace Go.Vs
local instance tabPalP1:Tab:=⟨fun _=>none⟩
def flt(c:Int)(t:zac):zai:=⟨c,t.Line,t.Col⟩
structure zcG (T:List zac):Prop where
 len:T.length<=100000
 name:∀t∈T,t.Kind=1->t.Text≠⟨#[]⟩
 next:∀(i:Nat),i<T.length->(rd T (i:Int)).Kind≠4->i+1<T.length
 txt:∀t∈T,t.Text.size<=1000000
abbrev tk(T:List zac)(i:Nat):zac:=rd T (i:Int)
theorem zbf{α:Type}{T:List α}{i:Nat}(h:i<T.length):InB (i:Int) T.length:=⟨by omega,by simpa using h⟩
theorem zcG.size{T:List zac}(h:zcG T){i:Nat}(hi:i<T.length):(tk T i).Text.size<=1000000:=by
 have:tk T i=T[i]:=zeH (List.getElem?_eq_getElem hi)
 rw [this]; exact h.txt _ (List.getElem_mem hi)
theorem zcG.read{T:List zac}(h:zcG T){i:Nat}(hi:i<T.length):zcw (tk T i).Text=some (zcs (tk T i).Text):=zjv (by have:=h.size hi; omega)
theorem w1{i:Nat}(h:i<=2000010):IntKind.wrap .i64 ((i:Int)+1)=((i+1:Nat):Int):=by rw [zbg ⟨by omega,by omega⟩]; omega
theorem w2{i:Nat}(h:i<=2000010):IntKind.wrap .i64 ((i:Int)+2)=((i+2:Nat):Int):=by rw [zbg ⟨by omega,by omega⟩]; omega
theorem w3{i:Nat}(h:i<=2000010):IntKind.wrap .i64 ((i:Int)+3)=((i+3:Nat):Int):=by rw [zbg ⟨by omega,by omega⟩]; omega
def zfr(syms:List zav):List ByteArray:=syms.map (·.Name)
theorem zhg(R:zaa)(s:ByteArray)(hn:R.p.zSy.length<=1000000):zbj R s=some (match fnd (zfr R.p.zSy) s with | some i=>((i:Int),true,R) | none=>(0,false,R)):=by
 unfold zbj
 have hl:(zfr R.p.zSy).length=R.p.zSy.length:=by simp [zfr]
 rw [zfT (zfr R.p.zSy) s (by omega) (fun i=>(i,true,R)) _ (fun i=>?_)]
 ·cases fnd (zfr R.p.zSy) s <;> rfl
 ·simp only [zbO,hl]
  by_cases h:InB i R.p.zSy.length
  ·have e:rd (zfr R.p.zSy) i=(rd R.p.zSy i).Name:=by
    unfold zfr rd
    rw [List.getD_eq_getElem?_getD,List.getD_eq_getElem?_getD,List.getElem?_map,List.getElem?_eq_getElem h.2]; rfl
   rw [e]
  ·simp [h]
theorem zof(R:zaa)(s:ByteArray)(hn:R.p.zSy.length<=1000000):zct R s=some (match fnd (zfr R.p.zSy) s with | some i=>((i:Int),true,R) | none=>(0,false,R)):=zhg R s hn
def sgB(T:List zac)(i:Nat)(s:ByteArray):Bool:=((tk T i).Kind==3)&&decide ((tk T i).Text=s)
theorem zlq(R:zaa)(i:Nat)(s:ByteArray)(h:i<R.l.length):zaE R (i:Int) s=some (sgB R.l i s,R):=by
 unfold zaE
 rw [if_pos (zbf h),if_pos (fun _=>zbf h)]; rfl
theorem zea{l:List zac}{a:Int}{p:zaH}{b:List zap}{f:zai}(i:Nat)(s:ByteArray)(h:i<l.length):zaE ⟨l,a,p,b,f⟩ (i:Int) s=some (sgB l i s,⟨l,a,p,b,f⟩):=zlq ⟨l,a,p,b,f⟩ i s h
end Go.Vs
end
section
namespace Go.Vs
local instance tabPalP2:Tab:=⟨fun _=>none⟩
abbrev Res(α:Type):=zai ⊕ (α × Nat)
def idxP(T:List zac)(syms:List zav)(k i:Nat):Res zaw :=
 if (tk T i).Kind==2 then
  (if decide ((zcs (tk T i).Text).1<0)||decide ((zcs (tk T i).Text).1≥(rd syms (k:Int)).Size) then .inl (flt 8 (tk T i)) else .inr (⟨3,0,k,(zcs (tk T i).Text).1⟩,i+1))
 else match fnd zf6 (tk T i).Text with
  | some r=>if (tk T i).Kind==1 then .inr (⟨4,r,k,0⟩,i+1) else .inl (flt 4 (tk T i))
  | none=>.inl (flt 4 (tk T i))
def opdP(T:List zac)(syms:List zav)(i:Nat):Res zaw :=
 if (tk T i).Kind==2 then .inr (⟨2,0,0,(zcs (tk T i).Text).1⟩,i+1)
 else if (tk T i).Kind != 1 then .inl (flt 4 (tk T i))
 else match fnd zf6 (tk T i).Text with
  | some r=>.inr (⟨1,r,0,0⟩,i+1)
  | none=>if zfy (tk T i).Text then .inl (flt 3 (tk T i)) else match fnd (zfr syms) (tk T i).Text with
   | none=>.inl (flt 7 (tk T i))
   | some k=>if !sgB T (i+1) ⟨#[91]⟩ then .inl (flt 4 (tk T (i+1))) else match idxP T syms k (i+2) with
    | .inl f=>.inl f
    | .inr (o,j)=>if !sgB T j ⟨#[93]⟩ then .inl (flt 4 (tk T j)) else .inr (o,j+1)
theorem zj4{syms:List zav}{s:ByteArray}{k:Nat}(h:fnd (zfr syms) s=some k):k<syms.length:=by
 have:=(zji h).1
 simpa [zfr] using this
theorem zdd{T:List zac}{i:Nat}{n:Int}(h:((tk T i).Kind==n)=true)(hn:n≠4):(rd T (i:Int)).Kind≠4:=by
 have h':(rd T (i:Int)).Kind=n:=by simpa using h
 omega
theorem zdV{T:List zac}{i:Nat}{s:ByteArray}(h:sgB T i s=true):(tk T i).Kind≠4:=by
 unfold sgB at h
 simp only [Bool.and_eq_true,beq_iff_eq] at h
 omega
theorem zhd{T syms k i o j}(hT:zcG T)(hi:i<T.length)(h:idxP T syms k i=.inr (o,j)):j=i+1/\j<T.length:=by
 unfold idxP at h
 split at h
 ·rename_i h2
  split at h
  ·cases h
  ·cases h
   exact ⟨rfl,hT.next i hi (zdd h2 (by decide))⟩
 ·split at h
  ·split at h
   ·rename_i h1
    cases h
    exact ⟨rfl,hT.next i hi (zdd h1 (by decide))⟩
   ·cases h
  ·cases h
theorem zg4{T syms i o j}(hT:zcG T)(hi:i<T.length)(h:opdP T syms i=.inr (o,j)):i<j/\j<T.length:=by
 unfold opdP at h
 split at h
 ·rename_i h2
  cases h
  exact ⟨by omega,hT.next i hi (zdd h2 (by decide))⟩
 ·split at h
  ·cases h
  ·rename_i h1
   have hn:i+1<T.length:=hT.next i hi (zdd (n:=1) (by simpa using h1) (by decide))
   split at h
   ·cases h; exact ⟨by omega,hn⟩
   ·split at h
    ·cases h
    ·split at h
     ·cases h
     ·split at h
      ·cases h
      ·rename_i hs
       have hs':sgB T (i+1) ⟨#[91]⟩=true:=by simpa using hs
       have hn2:i+2<T.length:=hT.next (i+1) hn (zdV hs')
       split at h
       ·cases h
       ·rename_i o' j' hx
        obtain ⟨e,hj⟩:=zhd hT hn2 hx
        split at h
        ·cases h
        ·rename_i hs2
         cases h
         exact ⟨by omega,hT.next j' hj (zdV (by simpa using hs2))⟩
def zml(R:zaa)(ok:Bool)(R':zaa)(q:zai ⊕ Nat):Prop:=match q with
 | .inl f=>ok=false/\R'.f=f
 | .inr j=>ok=true/\R'=⟨R.l,(j:Int),R.p,R.b,R.f⟩
def pos{α:Type}:Res α->zai ⊕ Nat
 | .inl f=>.inl f
 | .inr (_,j)=>.inr j
theorem zlX(R:zaa)(x:zao){i k:Nat}(hT:zcG R.l)(hi:i<R.l.length)(hk:k<R.p.zSy.length)(ha:R.at_=(i:Int)) :
  ∃ok R' x',zbt R (k:Int) x=some (ok,R',x')/\zml R ok R' (pos (idxP R.l R.p.zSy k i))/\∀o j,idxP R.l R.p.zSy k i=.inr (o,j)->x'=⟨x.Op,x.Lock,x.Cond,o,x.B,x.To,x.zLb⟩:=by
 have hl:=hT.len
 unfold zbt idxP
 rw [ha,if_pos (zbf hi),hT.read hi,zcM]
 simp only [Option.bind_some]
 by_cases h2:((tk R.l i).Kind==2)=true
 ·rw [if_pos h2,if_pos h2,if_pos (fun _=>zbf hk)]
  split
  ·exact ⟨_,_,_,rfl,⟨rfl,rfl⟩,fun o j e=>by cases e⟩
  ·exact ⟨_,_,_,rfl,⟨rfl,by rw [w1 (by omega)]⟩,fun o j e=>by cases e; rfl⟩
 ·rw [if_neg h2,if_neg h2]
  cases hr:fnd zf6 (tk R.l i).Text with
  | none =>
   simp only [Bool.not_false,Bool.or_true,if_true]
   exact ⟨_,_,_,rfl,⟨rfl,rfl⟩,fun o j e=>by cases e⟩
  | some r =>
   by_cases h1:(tk R.l i).Kind=1
   ·simp only [h1,bne_self_eq_false,Bool.not_true,Bool.or_self,Bool.false_eq_true,if_false,beq_self_eq_true,if_true]
    exact ⟨_,_,_,rfl,⟨rfl,by rw [w1 (by omega)]⟩,fun o j e=>by cases e; rfl⟩
   ·have e1:((tk R.l i).Kind != 1)=true:=by simpa using h1
    have e2:((tk R.l i).Kind==1)=false:=by simpa using h1
    simp only [e1,e2,Bool.true_or,if_true,Bool.false_eq_true,if_false]
    exact ⟨_,_,_,rfl,⟨rfl,rfl⟩,fun o j e=>by cases e⟩
theorem zlW(R:zaa)(x:zao){i k:Nat}(hT:zcG R.l)(hi:i<R.l.length)(hk:k<R.p.zSy.length)(ha:R.at_=(i:Int)) :
  ∃ok R' x',zbs R (k:Int) x=some (ok,R',x')/\zml R ok R' (pos (idxP R.l R.p.zSy k i))/\∀o j,idxP R.l R.p.zSy k i=.inr (o,j)->x'=⟨x.Op,x.Lock,x.Cond,x.A,o,x.To,x.zLb⟩:=by
 have hl:=hT.len
 unfold zbs idxP
 rw [ha,if_pos (zbf hi),hT.read hi,zcM]
 simp only [Option.bind_some]
 by_cases h2:((tk R.l i).Kind==2)=true
 ·rw [if_pos h2,if_pos h2,if_pos (fun _=>zbf hk)]
  split
  ·exact ⟨_,_,_,rfl,⟨rfl,rfl⟩,fun o j e=>by cases e⟩
  ·exact ⟨_,_,_,rfl,⟨rfl,by rw [w1 (by omega)]⟩,fun o j e=>by cases e; rfl⟩
 ·rw [if_neg h2,if_neg h2]
  cases hr:fnd zf6 (tk R.l i).Text with
  | none =>
   simp only [Bool.not_false,Bool.or_true,if_true]
   exact ⟨_,_,_,rfl,⟨rfl,rfl⟩,fun o j e=>by cases e⟩
  | some r =>
   by_cases h1:(tk R.l i).Kind=1
   ·simp only [h1,bne_self_eq_false,Bool.not_true,Bool.or_self,Bool.false_eq_true,if_false,beq_self_eq_true,if_true]
    exact ⟨_,_,_,rfl,⟨rfl,by rw [w1 (by omega)]⟩,fun o j e=>by cases e; rfl⟩
   ·have e1:((tk R.l i).Kind != 1)=true:=by simpa using h1
    have e2:((tk R.l i).Kind==1)=false:=by simpa using h1
    simp only [e1,e2,Bool.true_or,if_true,Bool.false_eq_true,if_false]
    exact ⟨_,_,_,rfl,⟨rfl,rfl⟩,fun o j e=>by cases e⟩
end Go.Vs
end
section
namespace Go.Vs
local instance tabPalP3:Tab:=⟨fun _=>none⟩
theorem zlU(R:zaa)(x:zao){i:Nat}(hT:zcG R.l)(hi:i<R.l.length)(hs:R.p.zSy.length<=64)(ha:R.at_=(i:Int)) :
  ∃ok R' x',za8 R x=some (ok,R',x')/\zml R ok R' (pos (opdP R.l R.p.zSy i))/\∀o j,opdP R.l R.p.zSy i=.inr (o,j)->x'=⟨x.Op,x.Lock,x.Cond,o,x.B,x.To,x.zLb⟩:=by
 have hl:=hT.len
 unfold za8 opdP
 rw [ha,if_pos (zbf hi),hT.read hi,zcM,zcy]
 simp only [Option.bind_some]
 by_cases h2:((tk R.l i).Kind==2)=true
 ·rw [if_pos h2,if_pos h2]
  exact ⟨_,_,_,rfl,⟨rfl,by rw [w1 (by omega)]⟩,fun o j e=>by cases e; rfl⟩
 rw [if_neg h2,if_neg h2]
 by_cases h1:((tk R.l i).Kind != 1)=true
 ·rw [if_pos h1,if_pos h1]
  exact ⟨_,_,_,rfl,⟨rfl,rfl⟩,fun o j e=>by cases e⟩
 rw [if_neg h1,if_neg h1]
 have hn:i+1<R.l.length:=hT.next i hi (zdd (n:=1) (by simpa using h1) (by decide))
 cases hr:fnd zf6 (tk R.l i).Text with
 | some r =>
  simp only [if_true]
  exact ⟨_,_,_,rfl,⟨rfl,by rw [w1 (by omega)]⟩,fun o j e=>by cases e; rfl⟩
 | none =>
  simp only [Bool.false_eq_true,if_false]
  cases hw:zfy (tk R.l i).Text with
  | true =>
   simp only [if_true]
   exact ⟨_,_,_,rfl,⟨rfl,rfl⟩,fun o j e=>by cases e⟩
  | false =>
   simp only [Bool.false_eq_true,if_false]
   rw [zhg _ _ (by show R.p.zSy.length<=_; omega)]
   simp only [Option.bind_some]
   cases hf:fnd (zfr R.p.zSy) (tk R.l i).Text with
   | none =>
    simp only [Bool.not_false,if_true]
    exact ⟨_,_,_,rfl,⟨rfl,rfl⟩,fun o j e=>by cases e⟩
   | some k =>
    simp only [Bool.not_true,Bool.false_eq_true,if_false,w1 (show i<=2000010 by omega)]
    rw [zea (i+1) _ hn]
    simp only [Option.bind_some]
    cases hg:sgB R.l (i+1) ⟨#[91]⟩ with
    | false =>
     simp only [Bool.not_false,if_true]
     rw [if_pos (zbf hn)]
     exact ⟨_,_,_,rfl,⟨rfl,rfl⟩,fun o j e=>by cases e⟩
    | true =>
     have hn2:i+2<R.l.length:=hT.next (i+1) hn (zdV hg)
     simp only [Bool.not_true,Bool.false_eq_true,if_false]
     have hw2:IntKind.wrap .i64 (((i+1:Nat):Int)+1)=((i+2:Nat):Int):=w1 (by omega)
     rw [hw2]
     obtain ⟨ok,R',x',e1,e2,e3⟩:=zlX ⟨R.l,((i+2:Nat):Int),R.p,R.b,R.f⟩ x hT hn2 (zj4 hf) rfl
     rw [e1]
     simp only [Option.bind_some]
     cases hx:idxP R.l R.p.zSy k (i+2) with
     | inl f =>
      rw [show pos (idxP R.l R.p.zSy k (i+2))=.inl f by rw [hx]; rfl] at e2
      obtain ⟨rfl,e4⟩:=e2
      simp only [Bool.not_false,if_true]
      exact ⟨_,_,_,rfl,⟨rfl,e4⟩,fun o j e=>by cases e⟩
     | inr q =>
      obtain ⟨o,j⟩:=q
      rw [show pos (idxP R.l R.p.zSy k (i+2))=.inr j by rw [hx]; rfl] at e2
      obtain ⟨rfl,rfl⟩:=e2
      obtain ⟨_,hj⟩:=zhd hT hn2 hx
      have e5:=e3 o j hx
      subst e5
      simp only [Bool.not_true,Bool.false_eq_true,if_false]
      rw [zea j _ hj]
      simp only [Option.bind_some]
      cases hg2:sgB R.l j ⟨#[93]⟩ with
      | false =>
       simp only [Bool.not_false,if_true]
       rw [if_pos (zbf hj)]
       exact ⟨_,_,_,rfl,⟨rfl,rfl⟩,fun o j e=>by cases e⟩
      | true =>
       simp only [Bool.not_true,Bool.false_eq_true,if_false]
       exact ⟨_,_,_,rfl,⟨rfl,by rw [w1 (by omega)]⟩,fun o' j' e=>by cases e; rfl⟩
theorem zlT(R:zaa)(x:zao){i:Nat}(hT:zcG R.l)(hi:i<R.l.length)(hs:R.p.zSy.length<=64)(ha:R.at_=(i:Int)) :
  ∃ok R' x',za7 R x=some (ok,R',x')/\zml R ok R' (pos (opdP R.l R.p.zSy i))/\∀o j,opdP R.l R.p.zSy i=.inr (o,j)->x'=⟨x.Op,x.Lock,x.Cond,x.A,o,x.To,x.zLb⟩:=by
 have hl:=hT.len
 unfold za7 opdP
 rw [ha,if_pos (zbf hi),hT.read hi,zcM,zcy]
 simp only [Option.bind_some]
 by_cases h2:((tk R.l i).Kind==2)=true
 ·rw [if_pos h2,if_pos h2]
  exact ⟨_,_,_,rfl,⟨rfl,by rw [w1 (by omega)]⟩,fun o j e=>by cases e; rfl⟩
 rw [if_neg h2,if_neg h2]
 by_cases h1:((tk R.l i).Kind != 1)=true
 ·rw [if_pos h1,if_pos h1]
  exact ⟨_,_,_,rfl,⟨rfl,rfl⟩,fun o j e=>by cases e⟩
 rw [if_neg h1,if_neg h1]
 have hn:i+1<R.l.length:=hT.next i hi (zdd (n:=1) (by simpa using h1) (by decide))
 cases hr:fnd zf6 (tk R.l i).Text with
 | some r =>
  simp only [if_true]
  exact ⟨_,_,_,rfl,⟨rfl,by rw [w1 (by omega)]⟩,fun o j e=>by cases e; rfl⟩
 | none =>
  simp only [Bool.false_eq_true,if_false]
  cases hw:zfy (tk R.l i).Text with
  | true =>
   simp only [if_true]
   exact ⟨_,_,_,rfl,⟨rfl,rfl⟩,fun o j e=>by cases e⟩
  | false =>
   simp only [Bool.false_eq_true,if_false]
   rw [zhg _ _ (by show R.p.zSy.length<=_; omega)]
   simp only [Option.bind_some]
   cases hf:fnd (zfr R.p.zSy) (tk R.l i).Text with
   | none =>
    simp only [Bool.not_false,if_true]
    exact ⟨_,_,_,rfl,⟨rfl,rfl⟩,fun o j e=>by cases e⟩
   | some k =>
    simp only [Bool.not_true,Bool.false_eq_true,if_false,w1 (show i<=2000010 by omega)]
    rw [zea (i+1) _ hn]
    simp only [Option.bind_some]
    cases hg:sgB R.l (i+1) ⟨#[91]⟩ with
    | false =>
     simp only [Bool.not_false,if_true]
     rw [if_pos (zbf hn)]
     exact ⟨_,_,_,rfl,⟨rfl,rfl⟩,fun o j e=>by cases e⟩
    | true =>
     have hn2:i+2<R.l.length:=hT.next (i+1) hn (zdV hg)
     simp only [Bool.not_true,Bool.false_eq_true,if_false]
     have hw2:IntKind.wrap .i64 (((i+1:Nat):Int)+1)=((i+2:Nat):Int):=w1 (by omega)
     rw [hw2]
     obtain ⟨ok,R',x',e1,e2,e3⟩:=zlW ⟨R.l,((i+2:Nat):Int),R.p,R.b,R.f⟩ x hT hn2 (zj4 hf) rfl
     rw [e1]
     simp only [Option.bind_some]
     cases hx:idxP R.l R.p.zSy k (i+2) with
     | inl f =>
      rw [show pos (idxP R.l R.p.zSy k (i+2))=.inl f by rw [hx]; rfl] at e2
      obtain ⟨rfl,e4⟩:=e2
      simp only [Bool.not_false,if_true]
      exact ⟨_,_,_,rfl,⟨rfl,e4⟩,fun o j e=>by cases e⟩
     | inr q =>
      obtain ⟨o,j⟩:=q
      rw [show pos (idxP R.l R.p.zSy k (i+2))=.inr j by rw [hx]; rfl] at e2
      obtain ⟨rfl,rfl⟩:=e2
      obtain ⟨_,hj⟩:=zhd hT hn2 hx
      have e5:=e3 o j hx
      subst e5
      simp only [Bool.not_true,Bool.false_eq_true,if_false]
      rw [zea j _ hj]
      simp only [Option.bind_some]
      cases hg2:sgB R.l j ⟨#[93]⟩ with
      | false =>
       simp only [Bool.not_false,if_true]
       rw [if_pos (zbf hj)]
       exact ⟨_,_,_,rfl,⟨rfl,rfl⟩,fun o j e=>by cases e⟩
      | true =>
       simp only [Bool.not_true,Bool.false_eq_true,if_false]
       exact ⟨_,_,_,rfl,⟨rfl,by rw [w1 (by omega)]⟩,fun o' j' e=>by cases e; rfl⟩
end Go.Vs
end
section
namespace Go.Vs
local instance tabPalP4:Tab:=⟨fun _=>none⟩
def zkI(T:List zac)(i:Nat):Option zai:=if (tk T i).Kind != 1 then some (flt 4 (tk T i)) else if zfy (tk T i).Text then some (flt 3 (tk T i)) else none
end Go.Vs
end
section
namespace Go.Vs
local instance tabPalP5:Tab:=⟨fun _=>none⟩
def row0(op:Int)(lk:Bool)(a b:zaw):Bool:=rowB ⟨op,lk,0,a,b,⟨#[]⟩,[]⟩
theorem znV(x:zao):rowB x=row0 x.Op x.Lock x.A x.B:=rfl
def zkg(op:Int)(lk:Bool)(a:zaw):Bool:=(a.Kind==2)||((a.Kind==1)&&(lk||(op==8)))
def opsP(T:List zac)(syms:List zav)(op:Int)(lk:Bool)(i:Nat):Res (zaw × zaw) :=
 match opdP T syms i with
 | .inl f=>.inl f
 | .inr (a,j)=>if zkg op lk a then .inl (flt 4 (tk T i)) else if !sgB T j ⟨#[44]⟩ then .inl (flt 4 (tk T j)) else match opdP T syms (j+1) with
  | .inl f=>.inl f
  | .inr (b,k)=>if !row0 op lk a b then .inl (flt 4 (tk T (j+1))) else .inr ((a,b),k)
theorem zlF{T syms op lk i ab k}(hT:zcG T)(hi:i<T.length)(h:opsP T syms op lk i=.inr (ab,k)):i<k/\k<T.length:=by
 unfold opsP at h
 split at h
 ·cases h
 ·rename_i a j h1
  obtain ⟨e1,e2⟩:=zg4 hT hi h1
  split at h
  ·cases h
  split at h
  ·cases h
  ·rename_i hs
   have hn:j+1<T.length:=hT.next j e2 (zdV (by simpa using hs))
   split at h
   ·cases h
   ·rename_i b k' h2
    obtain ⟨e3,e4⟩:=zg4 hT hn h2
    split at h
    ·cases h
    ·cases h; exact ⟨by omega,e4⟩
theorem zmY{x:zao}(h1:1<=x.Op)(h2:x.Op<=9)(hc:x.Cond=0)(ht:x.To=⟨#[]⟩):(insN x != 0)=!rowB x:=by
 unfold insN zkX zmc zlQ
 have e1:(x.Op==11)=false:=by simp; omega
 have e2:(x.Op==10)=false:=by simp; omega
 have e3:decide (x.Op≥1)=true:=by simp; omega
 have e4:decide (x.Op<=14)=true:=by simp; omega
 rw [e1,e2,e3,e4,hc,ht]
 cases rowB x <;> simp
theorem zjI(k op:Int)(lk:Bool):((k==2)||((k==1)&&(!(((k==1)&&(!lk))&&(op != 8)))))=((k==2)||((k==1)&&(lk||(op==8)))):=by
 cases h:(k==1) <;> cases lk <;> cases h2:(op==8) <;> simp [bne,h2]
theorem zmZ(R:zaa)(x:zao){i:Nat}(hT:zcG R.l)(hi:i<R.l.length)(hs:R.p.zSy.length<=64)(ha:R.at_=(i:Int))(h1:1<=x.Op)(h2:x.Op<=9)(hc:x.Cond=0)(ht:x.To=⟨#[]⟩) :
  ∃ok R' x',zaV R x=some (x',ok,R')/\zml R ok R' (pos (opsP R.l R.p.zSy x.Op x.Lock i))/\∀a b j,opsP R.l R.p.zSy x.Op x.Lock i=.inr ((a,b),j)->x'=⟨x.Op,x.Lock,x.Cond,a,b,x.To,x.zLb⟩:=by
 have hl:=hT.len
 unfold zaV opsP
 rw [ha,if_pos (zbf hi)]
 obtain ⟨ok,R',x',e1,e2,e3⟩:=zlU ⟨R.l,(i:Int),R.p,R.b,R.f⟩ x hT hi hs rfl
 rw [e1]
 simp only [Option.bind_some]
 cases hx:opdP R.l R.p.zSy i with
 | inl f =>
  rw [show pos (opdP R.l R.p.zSy i)=.inl f by rw [hx]; rfl] at e2
  obtain ⟨rfl,e4⟩:=e2
  simp only [Bool.not_false,if_true]
  exact ⟨_,_,_,rfl,⟨rfl,e4⟩,fun a b j e=>by cases e⟩
 | inr q =>
  obtain ⟨a,j⟩:=q
  rw [show pos (opdP R.l R.p.zSy i)=.inr j by rw [hx]; rfl] at e2
  obtain ⟨rfl,rfl⟩:=e2
  obtain ⟨_,hj⟩:=zg4 hT hi hx
  have e5:=e3 a j hx
  subst e5
  simp only [Bool.not_true,Bool.false_eq_true,if_false,zjI]
  cases hb:zkg x.Op x.Lock a with
  | true =>
   have hb':((a.Kind==2)||((a.Kind==1)&&(x.Lock||(x.Op==8))))=true:=hb
   rw [if_pos hb']
   exact ⟨_,_,_,rfl,⟨rfl,rfl⟩,fun a b j e=>by cases e⟩
  | false =>
   have hb':((a.Kind==2)||((a.Kind==1)&&(x.Lock||(x.Op==8))))=false:=hb
   rw [if_neg (by rw [hb']; decide),zea j _ hj]
   simp only [Option.bind_some,Bool.false_eq_true,if_false]
   cases hg:sgB R.l j ⟨#[44]⟩ with
   | false =>
    simp only [Bool.not_false,if_true]
    rw [if_pos (zbf hj)]
    exact ⟨_,_,_,rfl,⟨rfl,rfl⟩,fun a b j e=>by cases e⟩
   | true =>
    have hn:j+1<R.l.length:=hT.next j hj (zdV hg)
    simp only [Bool.not_true,Bool.false_eq_true,if_false,w1 (show j<=2000010 by omega)]
    rw [if_pos (zbf hn)]
    obtain ⟨ok2,R2,x2,k1,k2,k3⟩:=zlT ⟨R.l,((j+1:Nat):Int),R.p,R.b,R.f⟩ ⟨x.Op,x.Lock,x.Cond,a,x.B,x.To,x.zLb⟩ hT hn hs rfl
    rw [k1]
    simp only [Option.bind_some]
    cases hy:opdP R.l R.p.zSy (j+1) with
    | inl f =>
     rw [show pos (opdP R.l R.p.zSy (j+1))=.inl f by rw [hy]; rfl] at k2
     obtain ⟨rfl,e4⟩:=k2
     simp only [Bool.not_false,if_true]
     exact ⟨_,_,_,rfl,⟨rfl,e4⟩,fun a b j e=>by cases e⟩
    | inr q =>
     obtain ⟨b,k⟩:=q
     rw [show pos (opdP R.l R.p.zSy (j+1))=.inr k by rw [hy]; rfl] at k2
     obtain ⟨rfl,rfl⟩:=k2
     have e6:=k3 b k hy
     subst e6
     simp only [Bool.not_true,Bool.false_eq_true,if_false]
     rw [zjc _ (by show x.To.size<=1000000; rw [ht]; decide)]
     simp only [Option.bind_some]
     rw [zmY (x:=⟨x.Op,x.Lock,x.Cond,a,b,x.To,x.zLb⟩) h1 h2 hc ht,znV]
     cases hr:row0 x.Op x.Lock a b with
     | false =>
      simp only [Bool.not_false,if_true]
      exact ⟨_,_,_,rfl,⟨rfl,rfl⟩,fun a b j e=>by cases e⟩
     | true =>
      simp only [Bool.not_true,Bool.false_eq_true,if_false]
      exact ⟨_,_,_,rfl,⟨rfl,rfl⟩,fun a b j e=>by cases e; rfl⟩
end Go.Vs
end
