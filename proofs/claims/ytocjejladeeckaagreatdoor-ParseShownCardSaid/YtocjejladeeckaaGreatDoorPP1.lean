import Derived.Test.YtocjejladeeckaaGreatDoorPS1
import Derived.Test.YtocjejladeeckaaGreatDoorPalK
import Derived.Test.YtocjejladeeckaaGreatDoorPT1
import Derived.Test.YtocjejladeeckaaGreatDoorPalM
import Derived.Test.YtocjejladeeckaaGreatDoorPalJ
set_option linter.all false
section
namespace Go.Vs
local instance tabPalSame:Tab:=⟨fun _=>none⟩
theorem ziI{α:Type}[DecidableEq α](a b:List α)(hl:a.length=b.length)(step:Int->Option (Int ⊕ (Unit ⊕ Bool)))
  (hs:∀(i:Nat) x y,a[i]?=some x->b[i]?=some y->step (i:Int)=some (if x=y then .inl ((i:Int)+1) else .inr (.inr false))) (he:step (a.length:Int)=some (.inr (.inl ()))) :
  zaL step 0=some (if a=b then .inl () else .inr false):=by
 have main:∀(n k:Nat),a.length-k=n->k<=a.length->zaL step (k:Int)=some (if a.drop k=b.drop k then .inl () else .inr false):=by
  intro n
  induction n with
  | zero =>
   intro k h1 h2
   obtain rfl:k=a.length:=by omega
   rw [List.drop_length,hl,List.drop_length,← hl,zaJ he]
   simp
  | succ n ih =>
   intro k h1 h2
   have ha:k<a.length:=by omega
   have hb:k<b.length:=by omega
   have e:=hs k a[k] b[k] (List.getElem?_eq_getElem ha) (List.getElem?_eq_getElem hb)
   rw [List.drop_eq_getElem_cons ha,List.drop_eq_getElem_cons hb]
   by_cases hx:a[k]=b[k]
   ·rw [if_pos hx] at e
    rw [zbg e]
    have:=ih (k+1) (by omega) (by omega)
    rw [show ((k+1:Nat):Int)=(k:Int)+1 by omega] at this
    rw [this,hx]
    simp only [List.cons.injEq,true_and]
   ·rw [if_neg hx] at e
    rw [zaJ e,if_neg (fun e=>hx (List.cons.inj e).1)]
 exact main a.length 0 (by omega) (by omega)
theorem zjk{α β:Type}{a:List α}{b:List β}:(((a.length:Int) != (b.length:Int))=true) ↔ a.length≠b.length:=by
 simp; omega
theorem zmq(a b:List ByteArray)(ha:a.length<=1000000):zcz a b=some (decide (a=b)):=by
 unfold zcz
 by_cases hl:a.length=b.length
 ·rw [if_neg (by rw [zjk]; simpa using hl),ziI a b hl _ (fun i x y hx hy=>?_) ?_]
  ·by_cases e:a=b <;> simp [e,zbu]
  ·simp only [zbU]
   rw [if_neg (by simp)]
  ·simp only [zbU]
   rw [if_pos (zfp hx),if_pos (zb6 hx),if_pos (zb6 hy),zci hx,zci hy,wi (by have:=(List.getElem?_eq_some_iff.1 hx).1; omega)]
   by_cases e:x=y <;> simp [e]
 ·rw [if_pos (zjk.2 hl)]
  have:a≠b:=fun e=>hl (by rw [e])
  simp [this]
theorem znx(a b:List Int)(ha:a.length<=1000000):zcE a b=some (decide (a=b)):=by
 unfold zcE
 by_cases hl:a.length=b.length
 ·rw [if_neg (by rw [zjk]; simpa using hl),ziI a b hl _ (fun i x y hx hy=>?_) ?_]
  ·by_cases e:a=b <;> simp [e,zbu]
  ·simp only [zb2]
   rw [if_neg (by simp)]
  ·simp only [zb2]
   rw [if_pos (zfp hx),if_pos (zb6 hx),if_pos (zb6 hy),zci hx,zci hy,wi (by have:=(List.getElem?_eq_some_iff.1 hx).1; omega)]
   by_cases e:x=y <;> simp [e]
 ·rw [if_pos (zjk.2 hl)]
  have:a≠b:=fun e=>hl (by rw [e])
  simp [this]
theorem zpd(x y:zad)(hx:x.zLb.length<=1000000):zcX x y=some (decide (x=y)):=by
 unfold zcX
 rw [zmq _ _ hx]
 obtain ⟨op,lk,cd,⟨a1,a2,a3,a4⟩,⟨b1,b2,b3,b4⟩,to,lb⟩:=x
 obtain ⟨op',lk',cd',⟨a1',a2',a3',a4'⟩,⟨b1',b2',b3',b4'⟩,to',lb'⟩:=y
 simp only [zad.mk.injEq,zak.mk.injEq]
 by_cases h1:op=op' <;> by_cases h2:lk=lk' <;> by_cases h3:cd=cd' <;> by_cases h4:a1=a1' <;> by_cases h5:a2=a2' <;> by_cases h6:a3=a3' <;> simp [h1,h2,h3,h4,h5,h6]
 by_cases h7:a4=a4' <;> by_cases h8:b1=b1' <;> by_cases h9:b2=b2' <;> by_cases h10:b3=b3' <;> by_cases h11:b4=b4' <;> by_cases h12:to=to' <;> simp [h7,h8,h9,h10,h11,h12]
theorem zjZ(p q:zaf)(hs:p.zSy.length<=1000000)(ht:p.zTh.length<=1000000)(hi:∀s∈p.zSy,s.Init.length<=1000000)(hn:∀t∈p.zTh,t.Ins.length<=1000000/\∀x∈t.Ins,x.zLb.length<=1000000) :
  zba p q=some (decide (p=q)):=by
 obtain ⟨ps,pt⟩:=p
 obtain ⟨qs,qt⟩:=q
 unfold zba
 simp only [Option.bind_some] at *
 simp only [zaf.mk.injEq]
 by_cases h1:ps.length=qs.length
 rotate_left
 ·have e1:((ps.length:Int) != (qs.length:Int))=true:=zjk.2 h1
  rw [e1]
  have:ps≠qs:=fun e=>h1 (by rw [e])
  simp [this]
 by_cases h2:pt.length=qt.length
 rotate_left
 ·have e1:((pt.length:Int) != (qt.length:Int))=true:=zjk.2 h2
  rw [e1]
  have:pt≠qt:=fun e=>h2 (by rw [e])
  simp [this]
 have e1:((ps.length:Int) != (qs.length:Int))=false:=by simp [h1]
 have e2:((pt.length:Int) != (qt.length:Int))=false:=by simp [h2]
 rw [e1,e2]
 simp only [Bool.or_self,Bool.false_eq_true,if_false]
 rw [ziI ps qs h1 _ (fun i x y hx hy=>?_) ?_]
 ·by_cases es:ps=qs
  rotate_left
  ·simp [es,zbu]
  simp only [es,if_true,zbu,true_and]
  rw [ziI pt qt h2 _ (fun i x y hx hy=>?_) ?_]
  ·by_cases et:pt=qt <;> simp [et,zbu]
  ·simp only [zb4]
   rw [if_neg (by simp)]
  ·have hxn:=hn x (List.mem_of_getElem? hx)
   simp only [zb4]
   rw [if_pos (zfp hx),if_pos (zb6 hx),if_pos (zb6 hy),zci hx,zci hy]
   by_cases hl:x.Ins.length=y.Ins.length
   ·rw [if_neg (by rw [zjk]; simpa using hl),ziI x.Ins y.Ins hl _ (fun k u v hu hv=>?_) ?_]
    ·obtain ⟨xi⟩:=x
     obtain ⟨yi⟩:=y
     simp only [zae.mk.injEq,Option.bind_some]
     rw [wi (by have:=(List.getElem?_eq_some_iff.1 hx).1; omega)]
     by_cases e:xi=yi <;> simp [e,zbu]
    ·simp only [zb3]
     rw [zci hx,if_neg (by simp)]
    ·have hun:=hxn.2 u (List.mem_of_getElem? hu)
     simp only [zb3]
     rw [zci hx,zci hy,if_pos (zfp hu),if_pos (zb6 hu),if_pos (zb6 hv),zci hu,zci hv,zpd _ _ hun]
     simp only [Option.bind_some]
     rw [wi (by have:=(List.getElem?_eq_some_iff.1 hu).1; omega)]
     by_cases e:u=v <;> simp [e]
   ·rw [if_pos (zjk.2 hl)]
    have:x≠y:=fun e=>hl (by rw [e])
    simp [this]
 ·simp only [zb5]
  rw [if_neg (by simp)]
 ·have hxn:=hi x (List.mem_of_getElem? hx)
  simp only [zb5]
  rw [if_pos (zfp hx),if_pos (zb6 hx),if_pos (zb6 hy)]
  simp only [zci hx,zci hy,zb6 hx,zb6 hy,implies_true,if_true]
  rw [znx _ _ hxn,wi (by have:=(List.getElem?_eq_some_iff.1 hx).1; omega)]
  obtain ⟨n1,z1,i1⟩:=x
  obtain ⟨n2,z2,i2⟩:=y
  simp only [zan.mk.injEq]
  by_cases q1:n1=n2 <;> by_cases q2:z1=z2 <;> by_cases q3:i1=i2 <;> simp [q1,q2,q3]
end Go.Vs
end
section
namespace Go.Vs
local instance tabPalP1:Tab:=⟨fun _=>none⟩
def flt(c:Int)(t:zaa):zai:=⟨c,t.Line,t.Col⟩
structure zdt (T:List zaa):Prop where
 len:T.length<=100000
 name:∀t∈T,t.Kind=1->t.Text≠⟨#[]⟩
 next:∀(i:Nat),i<T.length->(rd T (i:Int)).Kind≠4->i+1<T.length
 txt:∀t∈T,t.Text.size<=1000000
abbrev tk(T:List zaa)(i:Nat):zaa:=rd T (i:Int)
theorem zbV{α:Type}{T:List α}{i:Nat}(h:i<T.length):InB (i:Int) T.length:=⟨by omega,by simpa using h⟩
theorem zdt.size{T:List zaa}(h:zdt T){i:Nat}(hi:i<T.length):(tk T i).Text.size<=1000000:=by
 have:tk T i=T[i]:=zci (List.getElem?_eq_getElem hi)
 rw [this]; exact h.txt _ (List.getElem_mem hi)
theorem zdt.read{T:List zaa}(h:zdt T){i:Nat}(hi:i<T.length):zd5 (tk T i).Text=some (zcP (tk T i).Text):=zqA (by have:=h.size hi; omega)
theorem w1{i:Nat}(h:i<=2000010):IntKind.wrap .i64 ((i:Int)+1)=((i+1:Nat):Int):=by rw [zbG ⟨by omega,by omega⟩]; omega
theorem w2{i:Nat}(h:i<=2000010):IntKind.wrap .i64 ((i:Int)+2)=((i+2:Nat):Int):=by rw [zbG ⟨by omega,by omega⟩]; omega
theorem w3{i:Nat}(h:i<=2000010):IntKind.wrap .i64 ((i:Int)+3)=((i+3:Nat):Int):=by rw [zbG ⟨by omega,by omega⟩]; omega
def ze5(syms:List zan):List ByteArray:=syms.map (·.Name)
theorem zkq(R:zab)(s:ByteArray)(hn:R.p.zSy.length<=1000000):zb9 R s=some (match fnd (ze5 R.p.zSy) s with | some i=>((i:Int),true,R) | none=>(0,false,R)):=by
 unfold zb9
 have hl:(ze5 R.p.zSy).length=R.p.zSy.length:=by simp [ze5]
 rw [zhf (ze5 R.p.zSy) s (by omega) (fun i=>(i,true,R)) _ (fun i=>?_)]
 ·cases fnd (ze5 R.p.zSy) s <;> rfl
 ·simp only [zcM,hl]
  by_cases h:InB i R.p.zSy.length
  ·have e:rd (ze5 R.p.zSy) i=(rd R.p.zSy i).Name:=by
    unfold ze5 rd
    rw [List.getD_eq_getElem?_getD,List.getD_eq_getElem?_getD,List.getElem?_map,List.getElem?_eq_getElem h.2]; rfl
   rw [e]
  ·simp [h]
theorem ztK(R:zab)(s:ByteArray)(hn:R.p.zSy.length<=1000000):zdL R s=some (match fnd (ze5 R.p.zSy) s with | some i=>((i:Int),true,R) | none=>(0,false,R)):=zkq R s hn
def sgB(T:List zaa)(i:Nat)(s:ByteArray):Bool:=((tk T i).Kind==3)&&decide ((tk T i).Text=s)
theorem zpZ(R:zab)(i:Nat)(s:ByteArray)(h:i<R.l.length):zaO R (i:Int) s=some (sgB R.l i s,R):=by
 unfold zaO
 rw [if_pos (zbV h),if_pos (fun _=>zbV h)]; rfl
theorem zf2{l:List zaa}{a:Int}{p:zaf}{b:List zat}{f:zai}(i:Nat)(s:ByteArray)(h:i<l.length):zaO ⟨l,a,p,b,f⟩ (i:Int) s=some (sgB l i s,⟨l,a,p,b,f⟩):=zpZ ⟨l,a,p,b,f⟩ i s h
end Go.Vs
end
section
namespace Go.Vs
local instance tabPalP2:Tab:=⟨fun _=>none⟩
abbrev Res(α:Type):=zai ⊕ (α × Nat)
def idxP(T:List zaa)(syms:List zan)(k i:Nat):Res zak :=
 if (tk T i).Kind==2 then
  (if decide ((zcP (tk T i).Text).1<0)||decide ((zcP (tk T i).Text).1≥(rd syms (k:Int)).Size) then .inl (flt 8 (tk T i)) else .inr (⟨3,0,k,(zcP (tk T i).Text).1⟩,i+1))
 else match fnd zfj (tk T i).Text with
  | some r=>if (tk T i).Kind==1 then .inr (⟨4,r,k,0⟩,i+1) else .inl (flt 4 (tk T i))
  | none=>.inl (flt 4 (tk T i))
def opdP(T:List zaa)(syms:List zan)(i:Nat):Res zak :=
 if (tk T i).Kind==2 then .inr (⟨2,0,0,(zcP (tk T i).Text).1⟩,i+1)
 else if (tk T i).Kind != 1 then .inl (flt 4 (tk T i))
 else match fnd zfj (tk T i).Text with
  | some r=>.inr (⟨1,r,0,0⟩,i+1)
  | none=>if ze3 (tk T i).Text then .inl (flt 3 (tk T i)) else match fnd (ze5 syms) (tk T i).Text with
   | none=>.inl (flt 7 (tk T i))
   | some k=>if !sgB T (i+1) ⟨#[91]⟩ then .inl (flt 4 (tk T (i+1))) else match idxP T syms k (i+2) with
    | .inl f=>.inl f
    | .inr (o,j)=>if !sgB T j ⟨#[93]⟩ then .inl (flt 4 (tk T j)) else .inr (o,j+1)
theorem zou{syms:List zan}{s:ByteArray}{k:Nat}(h:fnd (ze5 syms) s=some k):k<syms.length:=by
 have:=(zng h).1
 simpa [ze5] using this
theorem zet{T:List zaa}{i:Nat}{n:Int}(h:((tk T i).Kind==n)=true)(hn:n≠4):(rd T (i:Int)).Kind≠4:=by
 have h':(rd T (i:Int)).Kind=n:=by simpa using h
 omega
theorem zfF{T:List zaa}{i:Nat}{s:ByteArray}(h:sgB T i s=true):(tk T i).Kind≠4:=by
 unfold sgB at h
 simp only [Bool.and_eq_true,beq_iff_eq] at h
 omega
theorem zkn{T syms k i o j}(hT:zdt T)(hi:i<T.length)(h:idxP T syms k i=.inr (o,j)):j=i+1/\j<T.length:=by
 unfold idxP at h
 split at h
 ·rename_i h2
  split at h
  ·cases h
  ·cases h
   exact ⟨rfl,hT.next i hi (zet h2 (by decide))⟩
 ·split at h
  ·split at h
   ·rename_i h1
    cases h
    exact ⟨rfl,hT.next i hi (zet h1 (by decide))⟩
   ·cases h
  ·cases h
theorem zke{T syms i o j}(hT:zdt T)(hi:i<T.length)(h:opdP T syms i=.inr (o,j)):i<j/\j<T.length:=by
 unfold opdP at h
 split at h
 ·rename_i h2
  cases h
  exact ⟨by omega,hT.next i hi (zet h2 (by decide))⟩
 ·split at h
  ·cases h
  ·rename_i h1
   have hn:i+1<T.length:=hT.next i hi (zet (n:=1) (by simpa using h1) (by decide))
   split at h
   ·cases h; exact ⟨by omega,hn⟩
   ·split at h
    ·cases h
    ·split at h
     ·cases h
     ·split at h
      ·cases h
      ·rename_i hs
       have hs':sgB T (i+1) ⟨#[91]⟩=true:=by simpa using hs
       have hn2:i+2<T.length:=hT.next (i+1) hn (zfF hs')
       split at h
       ·cases h
       ·rename_i o' j' hx
        obtain ⟨e,hj⟩:=zkn hT hn2 hx
        split at h
        ·cases h
        ·rename_i hs2
         cases h
         exact ⟨by omega,hT.next j' hj (zfF (by simpa using hs2))⟩
def zrk(R:zab)(ok:Bool)(R':zab)(q:zai ⊕ Nat):Prop:=match q with
 | .inl f=>ok=false/\R'.f=f
 | .inr j=>ok=true/\R'=⟨R.l,(j:Int),R.p,R.b,R.f⟩
def pos{α:Type}:Res α->zai ⊕ Nat
 | .inl f=>.inl f
 | .inr (_,j)=>.inr j
theorem zqZ(R:zab)(x:zad){i k:Nat}(hT:zdt R.l)(hi:i<R.l.length)(hk:k<R.p.zSy.length)(ha:R.at_=(i:Int)) :
  ∃ok R' x',zck R (k:Int) x=some (ok,R',x')/\zrk R ok R' (pos (idxP R.l R.p.zSy k i))/\∀o j,idxP R.l R.p.zSy k i=.inr (o,j)->x'=⟨x.Op,x.Lock,x.Cond,o,x.B,x.To,x.zLb⟩:=by
 have hl:=hT.len
 unfold zck idxP
 rw [ha,if_pos (zbV hi),hT.read hi,zeh]
 simp only [Option.bind_some]
 by_cases h2:((tk R.l i).Kind==2)=true
 ·rw [if_pos h2,if_pos h2,if_pos (fun _=>zbV hk)]
  split
  ·exact ⟨_,_,_,rfl,⟨rfl,rfl⟩,fun o j e=>by cases e⟩
  ·exact ⟨_,_,_,rfl,⟨rfl,by rw [w1 (by omega)]⟩,fun o j e=>by cases e; rfl⟩
 ·rw [if_neg h2,if_neg h2]
  cases hr:fnd zfj (tk R.l i).Text with
  | none =>
   simp only [Bool.not_false,Bool.or_true,if_true]
   exact ⟨_,_,_,rfl,⟨rfl,rfl⟩,fun o j e=>by cases e⟩
  | some r =>
   by_cases h1:(tk R.l i).Kind=1
   ·simp only [h1,bne_self_eq_false,Bool.not_true,Bool.or_self,Bool.false_eq_true,if_false,beq_self_eq_true,if_true]
    exact ⟨_,_,_,rfl,⟨rfl,by rw [w1 (by omega)]⟩,fun o j e=>by cases e; rfl⟩
   ·have e1:((tk R.l i).Kind != 1)=true:=by simpa using h1
    have e2:((tk R.l i).Kind==1)=false:=by simpa using h1
    simp only [e1,e2,Bool.true_or,if_true,Bool.false_eq_true,if_false]
    exact ⟨_,_,_,rfl,⟨rfl,rfl⟩,fun o j e=>by cases e⟩
theorem zqY(R:zab)(x:zad){i k:Nat}(hT:zdt R.l)(hi:i<R.l.length)(hk:k<R.p.zSy.length)(ha:R.at_=(i:Int)) :
  ∃ok R' x',zcj R (k:Int) x=some (ok,R',x')/\zrk R ok R' (pos (idxP R.l R.p.zSy k i))/\∀o j,idxP R.l R.p.zSy k i=.inr (o,j)->x'=⟨x.Op,x.Lock,x.Cond,x.A,o,x.To,x.zLb⟩:=by
 have hl:=hT.len
 unfold zcj idxP
 rw [ha,if_pos (zbV hi),hT.read hi,zeh]
 simp only [Option.bind_some]
 by_cases h2:((tk R.l i).Kind==2)=true
 ·rw [if_pos h2,if_pos h2,if_pos (fun _=>zbV hk)]
  split
  ·exact ⟨_,_,_,rfl,⟨rfl,rfl⟩,fun o j e=>by cases e⟩
  ·exact ⟨_,_,_,rfl,⟨rfl,by rw [w1 (by omega)]⟩,fun o j e=>by cases e; rfl⟩
 ·rw [if_neg h2,if_neg h2]
  cases hr:fnd zfj (tk R.l i).Text with
  | none =>
   simp only [Bool.not_false,Bool.or_true,if_true]
   exact ⟨_,_,_,rfl,⟨rfl,rfl⟩,fun o j e=>by cases e⟩
  | some r =>
   by_cases h1:(tk R.l i).Kind=1
   ·simp only [h1,bne_self_eq_false,Bool.not_true,Bool.or_self,Bool.false_eq_true,if_false,beq_self_eq_true,if_true]
    exact ⟨_,_,_,rfl,⟨rfl,by rw [w1 (by omega)]⟩,fun o j e=>by cases e; rfl⟩
   ·have e1:((tk R.l i).Kind != 1)=true:=by simpa using h1
    have e2:((tk R.l i).Kind==1)=false:=by simpa using h1
    simp only [e1,e2,Bool.true_or,if_true,Bool.false_eq_true,if_false]
    exact ⟨_,_,_,rfl,⟨rfl,rfl⟩,fun o j e=>by cases e⟩
end Go.Vs
end
section
namespace Go.Vs
local instance tabPalP3:Tab:=⟨fun _=>none⟩
theorem zqW(R:zab)(x:zad){i:Nat}(hT:zdt R.l)(hi:i<R.l.length)(hs:R.p.zSy.length<=64)(ha:R.at_=(i:Int)) :
  ∃ok R' x',zbN R x=some (ok,R',x')/\zrk R ok R' (pos (opdP R.l R.p.zSy i))/\∀o j,opdP R.l R.p.zSy i=.inr (o,j)->x'=⟨x.Op,x.Lock,x.Cond,o,x.B,x.To,x.zLb⟩:=by
 have hl:=hT.len
 unfold zbN opdP
 rw [ha,if_pos (zbV hi),hT.read hi,zeh,zdO]
 simp only [Option.bind_some]
 by_cases h2:((tk R.l i).Kind==2)=true
 ·rw [if_pos h2,if_pos h2]
  exact ⟨_,_,_,rfl,⟨rfl,by rw [w1 (by omega)]⟩,fun o j e=>by cases e; rfl⟩
 rw [if_neg h2,if_neg h2]
 by_cases h1:((tk R.l i).Kind != 1)=true
 ·rw [if_pos h1,if_pos h1]
  exact ⟨_,_,_,rfl,⟨rfl,rfl⟩,fun o j e=>by cases e⟩
 rw [if_neg h1,if_neg h1]
 have hn:i+1<R.l.length:=hT.next i hi (zet (n:=1) (by simpa using h1) (by decide))
 cases hr:fnd zfj (tk R.l i).Text with
 | some r =>
  simp only [if_true]
  exact ⟨_,_,_,rfl,⟨rfl,by rw [w1 (by omega)]⟩,fun o j e=>by cases e; rfl⟩
 | none =>
  simp only [Bool.false_eq_true,if_false]
  cases hw:ze3 (tk R.l i).Text with
  | true =>
   simp only [if_true]
   exact ⟨_,_,_,rfl,⟨rfl,rfl⟩,fun o j e=>by cases e⟩
  | false =>
   simp only [Bool.false_eq_true,if_false]
   rw [zkq _ _ (by show R.p.zSy.length<=_; omega)]
   simp only [Option.bind_some]
   cases hf:fnd (ze5 R.p.zSy) (tk R.l i).Text with
   | none =>
    simp only [Bool.not_false,if_true]
    exact ⟨_,_,_,rfl,⟨rfl,rfl⟩,fun o j e=>by cases e⟩
   | some k =>
    simp only [Bool.not_true,Bool.false_eq_true,if_false,w1 (show i<=2000010 by omega)]
    rw [zf2 (i+1) _ hn]
    simp only [Option.bind_some]
    cases hg:sgB R.l (i+1) ⟨#[91]⟩ with
    | false =>
     simp only [Bool.not_false,if_true]
     rw [if_pos (zbV hn)]
     exact ⟨_,_,_,rfl,⟨rfl,rfl⟩,fun o j e=>by cases e⟩
    | true =>
     have hn2:i+2<R.l.length:=hT.next (i+1) hn (zfF hg)
     simp only [Bool.not_true,Bool.false_eq_true,if_false]
     have hw2:IntKind.wrap .i64 (((i+1:Nat):Int)+1)=((i+2:Nat):Int):=w1 (by omega)
     rw [hw2]
     obtain ⟨ok,R',x',e1,e2,e3⟩:=zqZ ⟨R.l,((i+2:Nat):Int),R.p,R.b,R.f⟩ x hT hn2 (zou hf) rfl
     rw [e1]
     simp only [Option.bind_some]
     cases hx:idxP R.l R.p.zSy k (i+2) with
     | inl f =>
      rw [show pos (idxP R.l R.p.zSy k (i+2))=.inl f by rw [hx]; rfl] at e2
      obtain ⟨rfl,e4⟩:=e2
      simp only [Bool.not_false,if_true]
      exact ⟨_,_,_,rfl,⟨rfl,e4⟩,fun o j e=>by cases e⟩
     | inr q =>
      obtain ⟨o,j⟩:=q
      rw [show pos (idxP R.l R.p.zSy k (i+2))=.inr j by rw [hx]; rfl] at e2
      obtain ⟨rfl,rfl⟩:=e2
      obtain ⟨_,hj⟩:=zkn hT hn2 hx
      have e5:=e3 o j hx
      subst e5
      simp only [Bool.not_true,Bool.false_eq_true,if_false]
      rw [zf2 j _ hj]
      simp only [Option.bind_some]
      cases hg2:sgB R.l j ⟨#[93]⟩ with
      | false =>
       simp only [Bool.not_false,if_true]
       rw [if_pos (zbV hj)]
       exact ⟨_,_,_,rfl,⟨rfl,rfl⟩,fun o j e=>by cases e⟩
      | true =>
       simp only [Bool.not_true,Bool.false_eq_true,if_false]
       exact ⟨_,_,_,rfl,⟨rfl,by rw [w1 (by omega)]⟩,fun o' j' e=>by cases e; rfl⟩
theorem zqV(R:zab)(x:zad){i:Nat}(hT:zdt R.l)(hi:i<R.l.length)(hs:R.p.zSy.length<=64)(ha:R.at_=(i:Int)) :
  ∃ok R' x',zbM R x=some (ok,R',x')/\zrk R ok R' (pos (opdP R.l R.p.zSy i))/\∀o j,opdP R.l R.p.zSy i=.inr (o,j)->x'=⟨x.Op,x.Lock,x.Cond,x.A,o,x.To,x.zLb⟩:=by
 have hl:=hT.len
 unfold zbM opdP
 rw [ha,if_pos (zbV hi),hT.read hi,zeh,zdO]
 simp only [Option.bind_some]
 by_cases h2:((tk R.l i).Kind==2)=true
 ·rw [if_pos h2,if_pos h2]
  exact ⟨_,_,_,rfl,⟨rfl,by rw [w1 (by omega)]⟩,fun o j e=>by cases e; rfl⟩
 rw [if_neg h2,if_neg h2]
 by_cases h1:((tk R.l i).Kind != 1)=true
 ·rw [if_pos h1,if_pos h1]
  exact ⟨_,_,_,rfl,⟨rfl,rfl⟩,fun o j e=>by cases e⟩
 rw [if_neg h1,if_neg h1]
 have hn:i+1<R.l.length:=hT.next i hi (zet (n:=1) (by simpa using h1) (by decide))
 cases hr:fnd zfj (tk R.l i).Text with
 | some r =>
  simp only [if_true]
  exact ⟨_,_,_,rfl,⟨rfl,by rw [w1 (by omega)]⟩,fun o j e=>by cases e; rfl⟩
 | none =>
  simp only [Bool.false_eq_true,if_false]
  cases hw:ze3 (tk R.l i).Text with
  | true =>
   simp only [if_true]
   exact ⟨_,_,_,rfl,⟨rfl,rfl⟩,fun o j e=>by cases e⟩
  | false =>
   simp only [Bool.false_eq_true,if_false]
   rw [zkq _ _ (by show R.p.zSy.length<=_; omega)]
   simp only [Option.bind_some]
   cases hf:fnd (ze5 R.p.zSy) (tk R.l i).Text with
   | none =>
    simp only [Bool.not_false,if_true]
    exact ⟨_,_,_,rfl,⟨rfl,rfl⟩,fun o j e=>by cases e⟩
   | some k =>
    simp only [Bool.not_true,Bool.false_eq_true,if_false,w1 (show i<=2000010 by omega)]
    rw [zf2 (i+1) _ hn]
    simp only [Option.bind_some]
    cases hg:sgB R.l (i+1) ⟨#[91]⟩ with
    | false =>
     simp only [Bool.not_false,if_true]
     rw [if_pos (zbV hn)]
     exact ⟨_,_,_,rfl,⟨rfl,rfl⟩,fun o j e=>by cases e⟩
    | true =>
     have hn2:i+2<R.l.length:=hT.next (i+1) hn (zfF hg)
     simp only [Bool.not_true,Bool.false_eq_true,if_false]
     have hw2:IntKind.wrap .i64 (((i+1:Nat):Int)+1)=((i+2:Nat):Int):=w1 (by omega)
     rw [hw2]
     obtain ⟨ok,R',x',e1,e2,e3⟩:=zqY ⟨R.l,((i+2:Nat):Int),R.p,R.b,R.f⟩ x hT hn2 (zou hf) rfl
     rw [e1]
     simp only [Option.bind_some]
     cases hx:idxP R.l R.p.zSy k (i+2) with
     | inl f =>
      rw [show pos (idxP R.l R.p.zSy k (i+2))=.inl f by rw [hx]; rfl] at e2
      obtain ⟨rfl,e4⟩:=e2
      simp only [Bool.not_false,if_true]
      exact ⟨_,_,_,rfl,⟨rfl,e4⟩,fun o j e=>by cases e⟩
     | inr q =>
      obtain ⟨o,j⟩:=q
      rw [show pos (idxP R.l R.p.zSy k (i+2))=.inr j by rw [hx]; rfl] at e2
      obtain ⟨rfl,rfl⟩:=e2
      obtain ⟨_,hj⟩:=zkn hT hn2 hx
      have e5:=e3 o j hx
      subst e5
      simp only [Bool.not_true,Bool.false_eq_true,if_false]
      rw [zf2 j _ hj]
      simp only [Option.bind_some]
      cases hg2:sgB R.l j ⟨#[93]⟩ with
      | false =>
       simp only [Bool.not_false,if_true]
       rw [if_pos (zbV hj)]
       exact ⟨_,_,_,rfl,⟨rfl,rfl⟩,fun o j e=>by cases e⟩
      | true =>
       simp only [Bool.not_true,Bool.false_eq_true,if_false]
       exact ⟨_,_,_,rfl,⟨rfl,by rw [w1 (by omega)]⟩,fun o' j' e=>by cases e; rfl⟩
end Go.Vs
end
section
namespace Go.Vs
local instance tabPalP4:Tab:=⟨fun _=>none⟩
def zzP(Q:zac)(ok:Bool)(Q':zac)(q:zai ⊕ Nat):Prop:=match q with
 | .inl f=>ok=false/\Q'.Bad=f
 | .inr j=>ok=true/\Q'=⟨Q.T,(j:Int),Q.P,Q.zHd,Q.First,Q.To,Q.Left,Q.All,Q.Wait,Q.Bad⟩
def nameP(T:List zaa)(i:Nat):Option zai:=if (tk T i).Kind != 1 then some (flt 4 (tk T i)) else if ze3 (tk T i).Text then some (flt 3 (tk T i)) else none
end Go.Vs
end
section
namespace Go.Vs
local instance tabPalP5:Tab:=⟨fun _=>none⟩
def row0(op:Int)(lk:Bool)(a b:zak):Bool:=rowB ⟨op,lk,0,a,b,⟨#[]⟩,[]⟩
theorem zth(x:zad):rowB x=row0 x.Op x.Lock x.A x.B:=rfl
def ziD(op:Int)(lk:Bool)(a:zak):Bool:=(a.Kind==2)||((a.Kind==1)&&(lk||(op==8)))
def opsP(T:List zaa)(syms:List zan)(op:Int)(lk:Bool)(i:Nat):Res (zak × zak) :=
 match opdP T syms i with
 | .inl f=>.inl f
 | .inr (a,j)=>if ziD op lk a then .inl (flt 4 (tk T i)) else if !sgB T j ⟨#[44]⟩ then .inl (flt 4 (tk T j)) else match opdP T syms (j+1) with
  | .inl f=>.inl f
  | .inr (b,k)=>if !row0 op lk a b then .inl (flt 4 (tk T (j+1))) else .inr ((a,b),k)
theorem zqu{T syms op lk i ab k}(hT:zdt T)(hi:i<T.length)(h:opsP T syms op lk i=.inr (ab,k)):i<k/\k<T.length:=by
 unfold opsP at h
 split at h
 ·cases h
 ·rename_i a j h1
  obtain ⟨e1,e2⟩:=zke hT hi h1
  split at h
  ·cases h
  split at h
  ·cases h
  ·rename_i hs
   have hn:j+1<T.length:=hT.next j e2 (zfF (by simpa using hs))
   split at h
   ·cases h
   ·rename_i b k' h2
    obtain ⟨e3,e4⟩:=zke hT hn h2
    split at h
    ·cases h
    ·cases h; exact ⟨by omega,e4⟩
theorem zr9{x:zad}(h1:1<=x.Op)(h2:x.Op<=9)(hc:x.Cond=0)(ht:x.To=⟨#[]⟩):(insN x != 0)=!rowB x:=by
 unfold insN zju ziH zdP
 have e1:(x.Op==11)=false:=by simp; omega
 have e2:(x.Op==10)=false:=by simp; omega
 have e3:decide (x.Op≥1)=true:=by simp; omega
 have e4:decide (x.Op<=14)=true:=by simp; omega
 rw [e1,e2,e3,e4,hc,ht]
 cases rowB x <;> simp
theorem znY(k op:Int)(lk:Bool):((k==2)||((k==1)&&(!(((k==1)&&(!lk))&&(op != 8)))))=((k==2)||((k==1)&&(lk||(op==8)))):=by
 cases h:(k==1) <;> cases lk <;> cases h2:(op==8) <;> simp [bne,h2]
theorem zsc(R:zab)(x:zad){i:Nat}(hT:zdt R.l)(hi:i<R.l.length)(hs:R.p.zSy.length<=64)(ha:R.at_=(i:Int))(h1:1<=x.Op)(h2:x.Op<=9)(hc:x.Cond=0)(ht:x.To=⟨#[]⟩) :
  ∃ok R' x',zbe R x=some (x',ok,R')/\zrk R ok R' (pos (opsP R.l R.p.zSy x.Op x.Lock i))/\∀a b j,opsP R.l R.p.zSy x.Op x.Lock i=.inr ((a,b),j)->x'=⟨x.Op,x.Lock,x.Cond,a,b,x.To,x.zLb⟩:=by
 have hl:=hT.len
 unfold zbe opsP
 rw [ha,if_pos (zbV hi)]
 obtain ⟨ok,R',x',e1,e2,e3⟩:=zqW ⟨R.l,(i:Int),R.p,R.b,R.f⟩ x hT hi hs rfl
 rw [e1]
 simp only [Option.bind_some]
 cases hx:opdP R.l R.p.zSy i with
 | inl f =>
  rw [show pos (opdP R.l R.p.zSy i)=.inl f by rw [hx]; rfl] at e2
  obtain ⟨rfl,e4⟩:=e2
  simp only [Bool.not_false,if_true]
  exact ⟨_,_,_,rfl,⟨rfl,e4⟩,fun a b j e=>by cases e⟩
 | inr q =>
  obtain ⟨a,j⟩:=q
  rw [show pos (opdP R.l R.p.zSy i)=.inr j by rw [hx]; rfl] at e2
  obtain ⟨rfl,rfl⟩:=e2
  obtain ⟨_,hj⟩:=zke hT hi hx
  have e5:=e3 a j hx
  subst e5
  simp only [Bool.not_true,Bool.false_eq_true,if_false,znY]
  cases hb:ziD x.Op x.Lock a with
  | true =>
   have hb':((a.Kind==2)||((a.Kind==1)&&(x.Lock||(x.Op==8))))=true:=hb
   rw [if_pos hb']
   exact ⟨_,_,_,rfl,⟨rfl,rfl⟩,fun a b j e=>by cases e⟩
  | false =>
   have hb':((a.Kind==2)||((a.Kind==1)&&(x.Lock||(x.Op==8))))=false:=hb
   rw [if_neg (by rw [hb']; decide),zf2 j _ hj]
   simp only [Option.bind_some,Bool.false_eq_true,if_false]
   cases hg:sgB R.l j ⟨#[44]⟩ with
   | false =>
    simp only [Bool.not_false,if_true]
    rw [if_pos (zbV hj)]
    exact ⟨_,_,_,rfl,⟨rfl,rfl⟩,fun a b j e=>by cases e⟩
   | true =>
    have hn:j+1<R.l.length:=hT.next j hj (zfF hg)
    simp only [Bool.not_true,Bool.false_eq_true,if_false,w1 (show j<=2000010 by omega)]
    rw [if_pos (zbV hn)]
    obtain ⟨ok2,R2,x2,k1,k2,k3⟩:=zqV ⟨R.l,((j+1:Nat):Int),R.p,R.b,R.f⟩ ⟨x.Op,x.Lock,x.Cond,a,x.B,x.To,x.zLb⟩ hT hn hs rfl
    rw [k1]
    simp only [Option.bind_some]
    cases hy:opdP R.l R.p.zSy (j+1) with
    | inl f =>
     rw [show pos (opdP R.l R.p.zSy (j+1))=.inl f by rw [hy]; rfl] at k2
     obtain ⟨rfl,e4⟩:=k2
     simp only [Bool.not_false,if_true]
     exact ⟨_,_,_,rfl,⟨rfl,e4⟩,fun a b j e=>by cases e⟩
    | inr q =>
     obtain ⟨b,k⟩:=q
     rw [show pos (opdP R.l R.p.zSy (j+1))=.inr k by rw [hy]; rfl] at k2
     obtain ⟨rfl,rfl⟩:=k2
     have e6:=k3 b k hy
     subst e6
     simp only [Bool.not_true,Bool.false_eq_true,if_false]
     rw [zm5 _ (by show x.To.size<=1000000; rw [ht]; decide)]
     simp only [Option.bind_some]
     rw [zr9 (x:=⟨x.Op,x.Lock,x.Cond,a,b,x.To,x.zLb⟩) h1 h2 hc ht,zth]
     cases hr:row0 x.Op x.Lock a b with
     | false =>
      simp only [Bool.not_false,if_true]
      exact ⟨_,_,_,rfl,⟨rfl,rfl⟩,fun a b j e=>by cases e⟩
     | true =>
      simp only [Bool.not_true,Bool.false_eq_true,if_false]
      exact ⟨_,_,_,rfl,⟨rfl,rfl⟩,fun a b j e=>by cases e; rfl⟩
end Go.Vs
end
