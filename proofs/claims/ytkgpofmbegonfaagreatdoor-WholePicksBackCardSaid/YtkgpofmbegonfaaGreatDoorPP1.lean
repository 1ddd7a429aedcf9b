import Derived.Test.YtkgpofmbegonfaaGreatDoorPS0
import Derived.Test.YtkgpofmbegonfaaGreatDoorPalK
import Derived.Test.YtkgpofmbegonfaaGreatDoorPT1
import Derived.Test.YtkgpofmbegonfaaGreatDoorPalJ
set_option linter.all false
section
namespace Go.Vs
local instance tabPalSame:Tab:=⟨fun _=>none⟩
end Go.Vs
end
section
namespace Go.Vs
local instance tabPalP1:Tab:=⟨fun _=>none⟩
def flt(c:Int)(t:zac):zah:=⟨c,t.Line,t.Col⟩
structure zcT (T:List zac):Prop where
 len:T.length<=100000
 name:∀t∈T,t.Kind=1->t.Text≠⟨#[]⟩
 next:∀(i:Nat),i<T.length->(rd T (i:Int)).Kind≠4->i+1<T.length
 txt:∀t∈T,t.Text.size<=1000000
abbrev tk(T:List zac)(i:Nat):zac:=rd T (i:Int)
theorem zbD{α:Type}{T:List α}{i:Nat}(h:i<T.length):InB (i:Int) T.length:=⟨by omega,by simpa using h⟩
theorem zcT.size{T:List zac}(h:zcT T){i:Nat}(hi:i<T.length):(tk T i).Text.size<=1000000:=by
 have:tk T i=T[i]:=zeL (List.getElem?_eq_getElem hi)
 rw [this]; exact h.txt _ (List.getElem_mem hi)
theorem zcT.read{T:List zac}(h:zcT T){i:Nat}(hi:i<T.length):zcH (tk T i).Text=some (zcC (tk T i).Text):=zjN (by have:=h.size hi; omega)
theorem w1{i:Nat}(h:i<=2000010):IntKind.wrap .i64 ((i:Int)+1)=((i+1:Nat):Int):=by rw [zbV ⟨by omega,by omega⟩]; omega
theorem w2{i:Nat}(h:i<=2000010):IntKind.wrap .i64 ((i:Int)+2)=((i+2:Nat):Int):=by rw [zbV ⟨by omega,by omega⟩]; omega
theorem w3{i:Nat}(h:i<=2000010):IntKind.wrap .i64 ((i:Int)+3)=((i+3:Nat):Int):=by rw [zbV ⟨by omega,by omega⟩]; omega
def zfw(syms:List zaz):List ByteArray:=syms.map (·.Name)
theorem zhs(R:zaa)(s:ByteArray)(hn:R.p.zSy.length<=1000000):zbG R s=some (match fnd (zfw R.p.zSy) s with | some i=>((i:Int),true,R) | none=>(0,false,R)):=by
 unfold zbG
 have hl:(zfw R.p.zSy).length=R.p.zSy.length:=by simp [zfw]
 rw [zf1 (zfw R.p.zSy) s (by omega) (fun i=>(i,true,R)) _ (fun i=>?_)]
 ·cases fnd (zfw R.p.zSy) s <;> rfl
 ·simp only [zb5,hl]
  by_cases h:InB i R.p.zSy.length
  ·have e:rd (zfw R.p.zSy) i=(rd R.p.zSy i).Name:=by
    unfold zfw rd
    rw [List.getD_eq_getElem?_getD,List.getD_eq_getElem?_getD,List.getElem?_map,List.getElem?_eq_getElem h.2]; rfl
   rw [e]
  ·simp [h]
theorem zqd(R:zaa)(s:ByteArray)(hn:R.p.zSy.length<=1000000):zcD R s=some (match fnd (zfw R.p.zSy) s with | some i=>((i:Int),true,R) | none=>(0,false,R)):=zhs R s hn
def sgB(T:List zac)(i:Nat)(s:ByteArray):Bool:=((tk T i).Kind==3)&&decide ((tk T i).Text=s)
theorem zmi(R:zaa)(i:Nat)(s:ByteArray)(h:i<R.l.length):zaN R (i:Int) s=some (sgB R.l i s,R):=by
 unfold zaN
 rw [if_pos (zbD h),if_pos (fun _=>zbD h)]; rfl
theorem zef{l:List zac}{a:Int}{p:zaE}{b:List zat}{f:zah}(i:Nat)(s:ByteArray)(h:i<l.length):zaN ⟨l,a,p,b,f⟩ (i:Int) s=some (sgB l i s,⟨l,a,p,b,f⟩):=zmi ⟨l,a,p,b,f⟩ i s h
end Go.Vs
end
section
namespace Go.Vs
local instance tabPalP2:Tab:=⟨fun _=>none⟩
abbrev Res(α:Type):=zah ⊕ (α × Nat)
def idxP(T:List zac)(syms:List zaz)(k i:Nat):Res zax :=
 if (tk T i).Kind==2 then
  (if decide ((zcC (tk T i).Text).1<0)||decide ((zcC (tk T i).Text).1≥(rd syms (k:Int)).Size) then .inl (flt 8 (tk T i)) else .inr (⟨3,0,k,(zcC (tk T i).Text).1⟩,i+1))
 else match fnd zga (tk T i).Text with
  | some r=>if (tk T i).Kind==1 then .inr (⟨4,r,k,0⟩,i+1) else .inl (flt 4 (tk T i))
  | none=>.inl (flt 4 (tk T i))
def opdP(T:List zac)(syms:List zaz)(i:Nat):Res zax :=
 if (tk T i).Kind==2 then .inr (⟨2,0,0,(zcC (tk T i).Text).1⟩,i+1)
 else if (tk T i).Kind != 1 then .inl (flt 4 (tk T i))
 else match fnd zga (tk T i).Text with
  | some r=>.inr (⟨1,r,0,0⟩,i+1)
  | none=>if zfD (tk T i).Text then .inl (flt 3 (tk T i)) else match fnd (zfw syms) (tk T i).Text with
   | none=>.inl (flt 7 (tk T i))
   | some k=>if !sgB T (i+1) ⟨#[91]⟩ then .inl (flt 4 (tk T (i+1))) else match idxP T syms k (i+2) with
    | .inl f=>.inl f
    | .inr (o,j)=>if !sgB T j ⟨#[93]⟩ then .inl (flt 4 (tk T j)) else .inr (o,j+1)
theorem zkr{syms:List zaz}{s:ByteArray}{k:Nat}(h:fnd (zfw syms) s=some k):k<syms.length:=by
 have:=(zjy h).1
 simpa [zfw] using this
theorem zdn{T:List zac}{i:Nat}{n:Int}(h:((tk T i).Kind==n)=true)(hn:n≠4):(rd T (i:Int)).Kind≠4:=by
 have h':(rd T (i:Int)).Kind=n:=by simpa using h
 omega
theorem zd7{T:List zac}{i:Nat}{s:ByteArray}(h:sgB T i s=true):(tk T i).Kind≠4:=by
 unfold sgB at h
 simp only [Bool.and_eq_true,beq_iff_eq] at h
 omega
theorem zhp{T syms k i o j}(hT:zcT T)(hi:i<T.length)(h:idxP T syms k i=.inr (o,j)):j=i+1/\j<T.length:=by
 unfold idxP at h
 split at h
 ·rename_i h2
  split at h
  ·cases h
  ·cases h
   exact ⟨rfl,hT.next i hi (zdn h2 (by decide))⟩
 ·split at h
  ·split at h
   ·rename_i h1
    cases h
    exact ⟨rfl,hT.next i hi (zdn h1 (by decide))⟩
   ·cases h
  ·cases h
theorem zhf{T syms i o j}(hT:zcT T)(hi:i<T.length)(h:opdP T syms i=.inr (o,j)):i<j/\j<T.length:=by
 unfold opdP at h
 split at h
 ·rename_i h2
  cases h
  exact ⟨by omega,hT.next i hi (zdn h2 (by decide))⟩
 ·split at h
  ·cases h
  ·rename_i h1
   have hn:i+1<T.length:=hT.next i hi (zdn (n:=1) (by simpa using h1) (by decide))
   split at h
   ·cases h; exact ⟨by omega,hn⟩
   ·split at h
    ·cases h
    ·split at h
     ·cases h
     ·split at h
      ·cases h
      ·rename_i hs
       have hs':sgB T (i+1) ⟨#[91]⟩=true:=by simpa using hs
       have hn2:i+2<T.length:=hT.next (i+1) hn (zd7 hs')
       split at h
       ·cases h
       ·rename_i o' j' hx
        obtain ⟨e,hj⟩:=zhp hT hn2 hx
        split at h
        ·cases h
        ·rename_i hs2
         cases h
         exact ⟨by omega,hT.next j' hj (zd7 (by simpa using hs2))⟩
def znu(R:zaa)(ok:Bool)(R':zaa)(q:zah ⊕ Nat):Prop:=match q with
 | .inl f=>ok=false/\R'.f=f
 | .inr j=>ok=true/\R'=⟨R.l,(j:Int),R.p,R.b,R.f⟩
def pos{α:Type}:Res α->zah ⊕ Nat
 | .inl f=>.inl f
 | .inr (_,j)=>.inr j
theorem zm4(R:zaa)(x:zao){i k:Nat}(hT:zcT R.l)(hi:i<R.l.length)(hk:k<R.p.zSy.length)(ha:R.at_=(i:Int)) :
  ∃ok R' x',zbM R (k:Int) x=some (ok,R',x')/\znu R ok R' (pos (idxP R.l R.p.zSy k i))/\∀o j,idxP R.l R.p.zSy k i=.inr (o,j)->x'=⟨x.Op,x.Lock,x.Cond,o,x.B,x.To,x.zLb⟩:=by
 have hl:=hT.len
 unfold zbM idxP
 rw [ha,if_pos (zbD hi),hT.read hi,zc3]
 simp only [Option.bind_some]
 by_cases h2:((tk R.l i).Kind==2)=true
 ·rw [if_pos h2,if_pos h2,if_pos (fun _=>zbD hk)]
  split
  ·exact ⟨_,_,_,rfl,⟨rfl,rfl⟩,fun o j e=>by cases e⟩
  ·exact ⟨_,_,_,rfl,⟨rfl,by rw [w1 (by omega)]⟩,fun o j e=>by cases e; rfl⟩
 ·rw [if_neg h2,if_neg h2]
  cases hr:fnd zga (tk R.l i).Text with
  | none =>
   simp only [Bool.not_false,Bool.or_true,if_true]
   exact ⟨_,_,_,rfl,⟨rfl,rfl⟩,fun o j e=>by cases e⟩
  | some r =>
   by_cases h1:(tk R.l i).Kind=1
   ·simp only [h1,bne_self_eq_false,Bool.not_true,Bool.or_self,Bool.false_eq_true,if_false,beq_self_eq_true,if_true]
    exact ⟨_,_,_,rfl,⟨rfl,by rw [w1 (by omega)]⟩,fun o j e=>by cases e; rfl⟩
   ·have e1:((tk R.l i).Kind != 1)=true:=by simpa using h1
    have e2:((tk R.l i).Kind==1)=false:=by simpa using h1
    simp only [e1,e2,Bool.true_or,if_true,Bool.false_eq_true,if_false]
    exact ⟨_,_,_,rfl,⟨rfl,rfl⟩,fun o j e=>by cases e⟩
theorem zm3(R:zaa)(x:zao){i k:Nat}(hT:zcT R.l)(hi:i<R.l.length)(hk:k<R.p.zSy.length)(ha:R.at_=(i:Int)) :
  ∃ok R' x',zbL R (k:Int) x=some (ok,R',x')/\znu R ok R' (pos (idxP R.l R.p.zSy k i))/\∀o j,idxP R.l R.p.zSy k i=.inr (o,j)->x'=⟨x.Op,x.Lock,x.Cond,x.A,o,x.To,x.zLb⟩:=by
 have hl:=hT.len
 unfold zbL idxP
 rw [ha,if_pos (zbD hi),hT.read hi,zc3]
 simp only [Option.bind_some]
 by_cases h2:((tk R.l i).Kind==2)=true
 ·rw [if_pos h2,if_pos h2,if_pos (fun _=>zbD hk)]
  split
  ·exact ⟨_,_,_,rfl,⟨rfl,rfl⟩,fun o j e=>by cases e⟩
  ·exact ⟨_,_,_,rfl,⟨rfl,by rw [w1 (by omega)]⟩,fun o j e=>by cases e; rfl⟩
 ·rw [if_neg h2,if_neg h2]
  cases hr:fnd zga (tk R.l i).Text with
  | none =>
   simp only [Bool.not_false,Bool.or_true,if_true]
   exact ⟨_,_,_,rfl,⟨rfl,rfl⟩,fun o j e=>by cases e⟩
  | some r =>
   by_cases h1:(tk R.l i).Kind=1
   ·simp only [h1,bne_self_eq_false,Bool.not_true,Bool.or_self,Bool.false_eq_true,if_false,beq_self_eq_true,if_true]
    exact ⟨_,_,_,rfl,⟨rfl,by rw [w1 (by omega)]⟩,fun o j e=>by cases e; rfl⟩
   ·have e1:((tk R.l i).Kind != 1)=true:=by simpa using h1
    have e2:((tk R.l i).Kind==1)=false:=by simpa using h1
    simp only [e1,e2,Bool.true_or,if_true,Bool.false_eq_true,if_false]
    exact ⟨_,_,_,rfl,⟨rfl,rfl⟩,fun o j e=>by cases e⟩
end Go.Vs
end
section
namespace Go.Vs
local instance tabPalP3:Tab:=⟨fun _=>none⟩
theorem zm1(R:zaa)(x:zao){i:Nat}(hT:zcT R.l)(hi:i<R.l.length)(hs:R.p.zSy.length<=64)(ha:R.at_=(i:Int)) :
  ∃ok R' x',zbr R x=some (ok,R',x')/\znu R ok R' (pos (opdP R.l R.p.zSy i))/\∀o j,opdP R.l R.p.zSy i=.inr (o,j)->x'=⟨x.Op,x.Lock,x.Cond,o,x.B,x.To,x.zLb⟩:=by
 have hl:=hT.len
 unfold zbr opdP
 rw [ha,if_pos (zbD hi),hT.read hi,zc3,zcJ]
 simp only [Option.bind_some]
 by_cases h2:((tk R.l i).Kind==2)=true
 ·rw [if_pos h2,if_pos h2]
  exact ⟨_,_,_,rfl,⟨rfl,by rw [w1 (by omega)]⟩,fun o j e=>by cases e; rfl⟩
 rw [if_neg h2,if_neg h2]
 by_cases h1:((tk R.l i).Kind != 1)=true
 ·rw [if_pos h1,if_pos h1]
  exact ⟨_,_,_,rfl,⟨rfl,rfl⟩,fun o j e=>by cases e⟩
 rw [if_neg h1,if_neg h1]
 have hn:i+1<R.l.length:=hT.next i hi (zdn (n:=1) (by simpa using h1) (by decide))
 cases hr:fnd zga (tk R.l i).Text with
 | some r =>
  simp only [if_true]
  exact ⟨_,_,_,rfl,⟨rfl,by rw [w1 (by omega)]⟩,fun o j e=>by cases e; rfl⟩
 | none =>
  simp only [Bool.false_eq_true,if_false]
  cases hw:zfD (tk R.l i).Text with
  | true =>
   simp only [if_true]
   exact ⟨_,_,_,rfl,⟨rfl,rfl⟩,fun o j e=>by cases e⟩
  | false =>
   simp only [Bool.false_eq_true,if_false]
   rw [zhs _ _ (by show R.p.zSy.length<=_; omega)]
   simp only [Option.bind_some]
   cases hf:fnd (zfw R.p.zSy) (tk R.l i).Text with
   | none =>
    simp only [Bool.not_false,if_true]
    exact ⟨_,_,_,rfl,⟨rfl,rfl⟩,fun o j e=>by cases e⟩
   | some k =>
    simp only [Bool.not_true,Bool.false_eq_true,if_false,w1 (show i<=2000010 by omega)]
    rw [zef (i+1) _ hn]
    simp only [Option.bind_some]
    cases hg:sgB R.l (i+1) ⟨#[91]⟩ with
    | false =>
     simp only [Bool.not_false,if_true]
     rw [if_pos (zbD hn)]
     exact ⟨_,_,_,rfl,⟨rfl,rfl⟩,fun o j e=>by cases e⟩
    | true =>
     have hn2:i+2<R.l.length:=hT.next (i+1) hn (zd7 hg)
     simp only [Bool.not_true,Bool.false_eq_true,if_false]
     have hw2:IntKind.wrap .i64 (((i+1:Nat):Int)+1)=((i+2:Nat):Int):=w1 (by omega)
     rw [hw2]
     obtain ⟨ok,R',x',e1,e2,e3⟩:=zm4 ⟨R.l,((i+2:Nat):Int),R.p,R.b,R.f⟩ x hT hn2 (zkr hf) rfl
     rw [e1]
     simp only [Option.bind_some]
     cases hx:idxP R.l R.p.zSy k (i+2) with
     | inl f =>
      rw [show pos (idxP R.l R.p.zSy k (i+2))=.inl f by rw [hx]; rfl] at e2
      obtain ⟨rfl,e4⟩:=e2
      simp only [Bool.not_false,if_true]
      exact ⟨_,_,_,rfl,⟨rfl,e4⟩,fun o j e=>by cases e⟩
     | inr q =>
      obtain ⟨o,j⟩:=q
      rw [show pos (idxP R.l R.p.zSy k (i+2))=.inr j by rw [hx]; rfl] at e2
      obtain ⟨rfl,rfl⟩:=e2
      obtain ⟨_,hj⟩:=zhp hT hn2 hx
      have e5:=e3 o j hx
      subst e5
      simp only [Bool.not_true,Bool.false_eq_true,if_false]
      rw [zef j _ hj]
      simp only [Option.bind_some]
      cases hg2:sgB R.l j ⟨#[93]⟩ with
      | false =>
       simp only [Bool.not_false,if_true]
       rw [if_pos (zbD hj)]
       exact ⟨_,_,_,rfl,⟨rfl,rfl⟩,fun o j e=>by cases e⟩
      | true =>
       simp only [Bool.not_true,Bool.false_eq_true,if_false]
       exact ⟨_,_,_,rfl,⟨rfl,by rw [w1 (by omega)]⟩,fun o' j' e=>by cases e; rfl⟩
theorem zm0(R:zaa)(x:zao){i:Nat}(hT:zcT R.l)(hi:i<R.l.length)(hs:R.p.zSy.length<=64)(ha:R.at_=(i:Int)) :
  ∃ok R' x',zbq R x=some (ok,R',x')/\znu R ok R' (pos (opdP R.l R.p.zSy i))/\∀o j,opdP R.l R.p.zSy i=.inr (o,j)->x'=⟨x.Op,x.Lock,x.Cond,x.A,o,x.To,x.zLb⟩:=by
 have hl:=hT.len
 unfold zbq opdP
 rw [ha,if_pos (zbD hi),hT.read hi,zc3,zcJ]
 simp only [Option.bind_some]
 by_cases h2:((tk R.l i).Kind==2)=true
 ·rw [if_pos h2,if_pos h2]
  exact ⟨_,_,_,rfl,⟨rfl,by rw [w1 (by omega)]⟩,fun o j e=>by cases e; rfl⟩
 rw [if_neg h2,if_neg h2]
 by_cases h1:((tk R.l i).Kind != 1)=true
 ·rw [if_pos h1,if_pos h1]
  exact ⟨_,_,_,rfl,⟨rfl,rfl⟩,fun o j e=>by cases e⟩
 rw [if_neg h1,if_neg h1]
 have hn:i+1<R.l.length:=hT.next i hi (zdn (n:=1) (by simpa using h1) (by decide))
 cases hr:fnd zga (tk R.l i).Text with
 | some r =>
  simp only [if_true]
  exact ⟨_,_,_,rfl,⟨rfl,by rw [w1 (by omega)]⟩,fun o j e=>by cases e; rfl⟩
 | none =>
  simp only [Bool.false_eq_true,if_false]
  cases hw:zfD (tk R.l i).Text with
  | true =>
   simp only [if_true]
   exact ⟨_,_,_,rfl,⟨rfl,rfl⟩,fun o j e=>by cases e⟩
  | false =>
   simp only [Bool.false_eq_true,if_false]
   rw [zhs _ _ (by show R.p.zSy.length<=_; omega)]
   simp only [Option.bind_some]
   cases hf:fnd (zfw R.p.zSy) (tk R.l i).Text with
   | none =>
    simp only [Bool.not_false,if_true]
    exact ⟨_,_,_,rfl,⟨rfl,rfl⟩,fun o j e=>by cases e⟩
   | some k =>
    simp only [Bool.not_true,Bool.false_eq_true,if_false,w1 (show i<=2000010 by omega)]
    rw [zef (i+1) _ hn]
    simp only [Option.bind_some]
    cases hg:sgB R.l (i+1) ⟨#[91]⟩ with
    | false =>
     simp only [Bool.not_false,if_true]
     rw [if_pos (zbD hn)]
     exact ⟨_,_,_,rfl,⟨rfl,rfl⟩,fun o j e=>by cases e⟩
    | true =>
     have hn2:i+2<R.l.length:=hT.next (i+1) hn (zd7 hg)
     simp only [Bool.not_true,Bool.false_eq_true,if_false]
     have hw2:IntKind.wrap .i64 (((i+1:Nat):Int)+1)=((i+2:Nat):Int):=w1 (by omega)
     rw [hw2]
     obtain ⟨ok,R',x',e1,e2,e3⟩:=zm3 ⟨R.l,((i+2:Nat):Int),R.p,R.b,R.f⟩ x hT hn2 (zkr hf) rfl
     rw [e1]
     simp only [Option.bind_some]
     cases hx:idxP R.l R.p.zSy k (i+2) with
     | inl f =>
      rw [show pos (idxP R.l R.p.zSy k (i+2))=.inl f by rw [hx]; rfl] at e2
      obtain ⟨rfl,e4⟩:=e2
      simp only [Bool.not_false,if_true]
      exact ⟨_,_,_,rfl,⟨rfl,e4⟩,fun o j e=>by cases e⟩
     | inr q =>
      obtain ⟨o,j⟩:=q
      rw [show pos (idxP R.l R.p.zSy k (i+2))=.inr j by rw [hx]; rfl] at e2
      obtain ⟨rfl,rfl⟩:=e2
      obtain ⟨_,hj⟩:=zhp hT hn2 hx
      have e5:=e3 o j hx
      subst e5
      simp only [Bool.not_true,Bool.false_eq_true,if_false]
      rw [zef j _ hj]
      simp only [Option.bind_some]
      cases hg2:sgB R.l j ⟨#[93]⟩ with
      | false =>
       simp only [Bool.not_false,if_true]
       rw [if_pos (zbD hj)]
       exact ⟨_,_,_,rfl,⟨rfl,rfl⟩,fun o j e=>by cases e⟩
      | true =>
       simp only [Bool.not_true,Bool.false_eq_true,if_false]
       exact ⟨_,_,_,rfl,⟨rfl,by rw [w1 (by omega)]⟩,fun o' j' e=>by cases e; rfl⟩
end Go.Vs
end
section
namespace Go.Vs
local instance tabPalP4:Tab:=⟨fun _=>none⟩
def zle(T:List zac)(i:Nat):Option zah:=if (tk T i).Kind != 1 then some (flt 4 (tk T i)) else if zfD (tk T i).Text then some (flt 3 (tk T i)) else none
end Go.Vs
end
section
namespace Go.Vs
local instance tabPalP5:Tab:=⟨fun _=>none⟩
def row0(op:Int)(lk:Bool)(a b:zax):Bool:=rowB ⟨op,lk,0,a,b,⟨#[]⟩,[]⟩
theorem zpP(x:zao):rowB x=row0 x.Op x.Lock x.A x.B:=rfl
def zkC(op:Int)(lk:Bool)(a:zax):Bool:=(a.Kind==2)||((a.Kind==1)&&(lk||(op==8)))
def opsP(T:List zac)(syms:List zaz)(op:Int)(lk:Bool)(i:Nat):Res (zax × zax) :=
 match opdP T syms i with
 | .inl f=>.inl f
 | .inr (a,j)=>if zkC op lk a then .inl (flt 4 (tk T i)) else if !sgB T j ⟨#[44]⟩ then .inl (flt 4 (tk T j)) else match opdP T syms (j+1) with
  | .inl f=>.inl f
  | .inr (b,k)=>if !row0 op lk a b then .inl (flt 4 (tk T (j+1))) else .inr ((a,b),k)
theorem zmF{T syms op lk i ab k}(hT:zcT T)(hi:i<T.length)(h:opsP T syms op lk i=.inr (ab,k)):i<k/\k<T.length:=by
 unfold opsP at h
 split at h
 ·cases h
 ·rename_i a j h1
  obtain ⟨e1,e2⟩:=zhf hT hi h1
  split at h
  ·cases h
  split at h
  ·cases h
  ·rename_i hs
   have hn:j+1<T.length:=hT.next j e2 (zd7 (by simpa using hs))
   split at h
   ·cases h
   ·rename_i b k' h2
    obtain ⟨e3,e4⟩:=zhf hT hn h2
    split at h
    ·cases h
    ·cases h; exact ⟨by omega,e4⟩
theorem zov{x:zao}(h1:1<=x.Op)(h2:x.Op<=9)(hc:x.Cond=0)(ht:x.To=⟨#[]⟩):(insN x != 0)=!rowB x:=by
 unfold insN zly znj zmX
 have e1:(x.Op==11)=false:=by simp; omega
 have e2:(x.Op==10)=false:=by simp; omega
 have e3:decide (x.Op≥1)=true:=by simp; omega
 have e4:decide (x.Op<=14)=true:=by simp; omega
 rw [e1,e2,e3,e4,hc,ht]
 cases rowB x <;> simp
theorem zjZ(k op:Int)(lk:Bool):((k==2)||((k==1)&&(!(((k==1)&&(!lk))&&(op != 8)))))=((k==2)||((k==1)&&(lk||(op==8)))):=by
 cases h:(k==1) <;> cases lk <;> cases h2:(op==8) <;> simp [bne,h2]
theorem zow(R:zaa)(x:zao){i:Nat}(hT:zcT R.l)(hi:i<R.l.length)(hs:R.p.zSy.length<=64)(ha:R.at_=(i:Int))(h1:1<=x.Op)(h2:x.Op<=9)(hc:x.Cond=0)(ht:x.To=⟨#[]⟩) :
  ∃ok R' x',za6 R x=some (x',ok,R')/\znu R ok R' (pos (opsP R.l R.p.zSy x.Op x.Lock i))/\∀a b j,opsP R.l R.p.zSy x.Op x.Lock i=.inr ((a,b),j)->x'=⟨x.Op,x.Lock,x.Cond,a,b,x.To,x.zLb⟩:=by
 have hl:=hT.len
 unfold za6 opsP
 rw [ha,if_pos (zbD hi)]
 obtain ⟨ok,R',x',e1,e2,e3⟩:=zm1 ⟨R.l,(i:Int),R.p,R.b,R.f⟩ x hT hi hs rfl
 rw [e1]
 simp only [Option.bind_some]
 cases hx:opdP R.l R.p.zSy i with
 | inl f =>
  rw [show pos (opdP R.l R.p.zSy i)=.inl f by rw [hx]; rfl] at e2
  obtain ⟨rfl,e4⟩:=e2
  simp only [Bool.not_false,if_true]
  exact ⟨_,_,_,rfl,⟨rfl,e4⟩,fun a b j e=>by cases e⟩
 | inr q =>
  obtain ⟨a,j⟩:=q
  rw [show pos (opdP R.l R.p.zSy i)=.inr j by rw [hx]; rfl] at e2
  obtain ⟨rfl,rfl⟩:=e2
  obtain ⟨_,hj⟩:=zhf hT hi hx
  have e5:=e3 a j hx
  subst e5
  simp only [Bool.not_true,Bool.false_eq_true,if_false,zjZ]
  cases hb:zkC x.Op x.Lock a with
  | true =>
   have hb':((a.Kind==2)||((a.Kind==1)&&(x.Lock||(x.Op==8))))=true:=hb
   rw [if_pos hb']
   exact ⟨_,_,_,rfl,⟨rfl,rfl⟩,fun a b j e=>by cases e⟩
  | false =>
   have hb':((a.Kind==2)||((a.Kind==1)&&(x.Lock||(x.Op==8))))=false:=hb
   rw [if_neg (by rw [hb']; decide),zef j _ hj]
   simp only [Option.bind_some,Bool.false_eq_true,if_false]
   cases hg:sgB R.l j ⟨#[44]⟩ with
   | false =>
    simp only [Bool.not_false,if_true]
    rw [if_pos (zbD hj)]
    exact ⟨_,_,_,rfl,⟨rfl,rfl⟩,fun a b j e=>by cases e⟩
   | true =>
    have hn:j+1<R.l.length:=hT.next j hj (zd7 hg)
    simp only [Bool.not_true,Bool.false_eq_true,if_false,w1 (show j<=2000010 by omega)]
    rw [if_pos (zbD hn)]
    obtain ⟨ok2,R2,x2,k1,k2,k3⟩:=zm0 ⟨R.l,((j+1:Nat):Int),R.p,R.b,R.f⟩ ⟨x.Op,x.Lock,x.Cond,a,x.B,x.To,x.zLb⟩ hT hn hs rfl
    rw [k1]
    simp only [Option.bind_some]
    cases hy:opdP R.l R.p.zSy (j+1) with
    | inl f =>
     rw [show pos (opdP R.l R.p.zSy (j+1))=.inl f by rw [hy]; rfl] at k2
     obtain ⟨rfl,e4⟩:=k2
     simp only [Bool.not_false,if_true]
     exact ⟨_,_,_,rfl,⟨rfl,e4⟩,fun a b j e=>by cases e⟩
    | inr q =>
     obtain ⟨b,k⟩:=q
     rw [show pos (opdP R.l R.p.zSy (j+1))=.inr k by rw [hy]; rfl] at k2
     obtain ⟨rfl,rfl⟩:=k2
     have e6:=k3 b k hy
     subst e6
     simp only [Bool.not_true,Bool.false_eq_true,if_false]
     rw [zjt _ (by show x.To.size<=1000000; rw [ht]; decide)]
     simp only [Option.bind_some]
     rw [zov (x:=⟨x.Op,x.Lock,x.Cond,a,b,x.To,x.zLb⟩) h1 h2 hc ht,zpP]
     cases hr:row0 x.Op x.Lock a b with
     | false =>
      simp only [Bool.not_false,if_true]
      exact ⟨_,_,_,rfl,⟨rfl,rfl⟩,fun a b j e=>by cases e⟩
     | true =>
      simp only [Bool.not_true,Bool.false_eq_true,if_false]
      exact ⟨_,_,_,rfl,⟨rfl,rfl⟩,fun a b j e=>by cases e; rfl⟩
end Go.Vs
end
