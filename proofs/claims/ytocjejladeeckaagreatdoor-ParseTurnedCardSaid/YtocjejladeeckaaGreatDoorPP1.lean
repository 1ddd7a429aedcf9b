import Derived.Test.YtocjejladeeckaaGreatDoorPS1
import Derived.Test.YtocjejladeeckaaGreatDoorPalK
import Derived.Test.YtocjejladeeckaaGreatDoorPT1
import Derived.Test.YtocjejladeeckaaGreatDoorPalM
import Derived.Test.YtocjejladeeckaaGreatDoorPalJ
set_option linter.all false
section
namespace Go.Vs
local instance tabPalSame:Tab:=⟨fun _=>none⟩
theorem zjb{α:Type}[DecidableEq α](a b:List α)(hl:a.length=b.length)(step:Int->Option (Int ⊕ (Unit ⊕ Bool)))
  (hs:∀(i:Nat) x y,a[i]?=some x->b[i]?=some y->step (i:Int)=some (if x=y then .inl ((i:Int)+1) else .inr (.inr false))) (he:step (a.length:Int)=some (.inr (.inl ()))) :
  zaP step 0=some (if a=b then .inl () else .inr false):=by
 have main:∀(n k:Nat),a.length-k=n->k<=a.length->zaP step (k:Int)=some (if a.drop k=b.drop k then .inl () else .inr false):=by
  intro n
  induction n with
  | zero =>
   intro k h1 h2
   obtain rfl:k=a.length:=by omega
   rw [List.drop_length,hl,List.drop_length,← hl,zaH he]
   simp
  | succ n ih =>
   intro k h1 h2
   have ha:k<a.length:=by omega
   have hb:k<b.length:=by omega
   have e:=hs k a[k] b[k] (List.getElem?_eq_getElem ha) (List.getElem?_eq_getElem hb)
   rw [List.drop_eq_getElem_cons ha,List.drop_eq_getElem_cons hb]
   by_cases hx:a[k]=b[k]
   ·rw [if_pos hx] at e
    rw [za4 e]
    have:=ih (k+1) (by omega) (by omega)
    rw [show ((k+1:Nat):Int)=(k:Int)+1 by omega] at this
    rw [this,hx]
    simp only [List.cons.injEq,true_and]
   ·rw [if_neg hx] at e
    rw [zaH e,if_neg (fun e=>hx (List.cons.inj e).1)]
 exact main a.length 0 (by omega) (by omega)
theorem zjL{α β:Type}{a:List α}{b:List β}:(((a.length:Int) != (b.length:Int))=true) ↔ a.length≠b.length:=by
 simp; omega
theorem zmO(a b:List ByteArray)(ha:a.length<=1000000):zds a b=some (decide (a=b)):=by
 unfold zds
 by_cases hl:a.length=b.length
 ·rw [if_neg (by rw [zjL]; simpa using hl),zjb a b hl _ (fun i x y hx hy=>?_) ?_]
  ·by_cases e:a=b <;> simp [e,zb0]
  ·simp only [zcC]
   rw [if_neg (by simp)]
  ·simp only [zcC]
   rw [if_pos (zfO hx),if_pos (zbj hx),if_pos (zbj hy),zcd hx,zcd hy,wi (by have:=(List.getElem?_eq_some_iff.1 hx).1; omega)]
   by_cases e:x=y <;> simp [e]
 ·rw [if_pos (zjL.2 hl)]
  have:a≠b:=fun e=>hl (by rw [e])
  simp [this]
theorem zn0(a b:List Int)(ha:a.length<=1000000):zdz a b=some (decide (a=b)):=by
 unfold zdz
 by_cases hl:a.length=b.length
 ·rw [if_neg (by rw [zjL]; simpa using hl),zjb a b hl _ (fun i x y hx hy=>?_) ?_]
  ·by_cases e:a=b <;> simp [e,zb0]
  ·simp only [zcN]
   rw [if_neg (by simp)]
  ·simp only [zcN]
   rw [if_pos (zfO hx),if_pos (zbj hx),if_pos (zbj hy),zcd hx,zcd hy,wi (by have:=(List.getElem?_eq_some_iff.1 hx).1; omega)]
   by_cases e:x=y <;> simp [e]
 ·rw [if_pos (zjL.2 hl)]
  have:a≠b:=fun e=>hl (by rw [e])
  simp [this]
theorem zpw(x y:zae)(hx:x.zLb.length<=1000000):zdT x y=some (decide (x=y)):=by
 unfold zdT
 rw [zmO _ _ hx]
 obtain ⟨op,lk,cd,⟨a1,a2,a3,a4⟩,⟨b1,b2,b3,b4⟩,to,lb⟩:=x
 obtain ⟨op',lk',cd',⟨a1',a2',a3',a4'⟩,⟨b1',b2',b3',b4'⟩,to',lb'⟩:=y
 simp only [zae.mk.injEq,zap.mk.injEq]
 by_cases h1:op=op' <;> by_cases h2:lk=lk' <;> by_cases h3:cd=cd' <;> by_cases h4:a1=a1' <;> by_cases h5:a2=a2' <;> by_cases h6:a3=a3' <;> simp [h1,h2,h3,h4,h5,h6]
 by_cases h7:a4=a4' <;> by_cases h8:b1=b1' <;> by_cases h9:b2=b2' <;> by_cases h10:b3=b3' <;> by_cases h11:b4=b4' <;> by_cases h12:to=to' <;> simp [h7,h8,h9,h10,h11,h12]
theorem znZ(p q:zaj)(hs:p.zSy.length<=1000000)(ht:p.zTh.length<=1000000)(hi:∀s∈p.zSy,s.Init.length<=1000000)(hn:∀t∈p.zTh,t.Ins.length<=1000000/\∀x∈t.Ins,x.zLb.length<=1000000) :
  zdD p q=some (decide (p=q)):=by
 obtain ⟨ps,pt⟩:=p
 obtain ⟨qs,qt⟩:=q
 unfold zdD
 simp only [Option.bind_some] at *
 simp only [zaj.mk.injEq]
 by_cases h1:ps.length=qs.length
 rotate_left
 ·have e1:((ps.length:Int) != (qs.length:Int))=true:=zjL.2 h1
  rw [e1]
  have:ps≠qs:=fun e=>h1 (by rw [e])
  simp [this]
 by_cases h2:pt.length=qt.length
 rotate_left
 ·have e1:((pt.length:Int) != (qt.length:Int))=true:=zjL.2 h2
  rw [e1]
  have:pt≠qt:=fun e=>h2 (by rw [e])
  simp [this]
 have e1:((ps.length:Int) != (qs.length:Int))=false:=by simp [h1]
 have e2:((pt.length:Int) != (qt.length:Int))=false:=by simp [h2]
 rw [e1,e2]
 simp only [Bool.or_self,Bool.false_eq_true,if_false]
 rw [zjb ps qs h1 _ (fun i x y hx hy=>?_) ?_]
 ·by_cases es:ps=qs
  rotate_left
  ·simp [es,zb0]
  simp only [es,if_true,zb0,true_and]
  rw [zjb pt qt h2 _ (fun i x y hx hy=>?_) ?_]
  ·by_cases et:pt=qt <;> simp [et,zb0]
  ·simp only [zcP]
   rw [if_neg (by simp)]
  ·have hxn:=hn x (List.mem_of_getElem? hx)
   simp only [zcP]
   rw [if_pos (zfO hx),if_pos (zbj hx),if_pos (zbj hy),zcd hx,zcd hy]
   by_cases hl:x.Ins.length=y.Ins.length
   ·rw [if_neg (by rw [zjL]; simpa using hl),zjb x.Ins y.Ins hl _ (fun k u v hu hv=>?_) ?_]
    ·obtain ⟨xi⟩:=x
     obtain ⟨yi⟩:=y
     simp only [zad.mk.injEq,Option.bind_some]
     rw [wi (by have:=(List.getElem?_eq_some_iff.1 hx).1; omega)]
     by_cases e:xi=yi <;> simp [e,zb0]
    ·simp only [zcO]
     rw [zcd hx,if_neg (by simp)]
    ·have hun:=hxn.2 u (List.mem_of_getElem? hu)
     simp only [zcO]
     rw [zcd hx,zcd hy,if_pos (zfO hu),if_pos (zbj hu),if_pos (zbj hv),zcd hu,zcd hv,zpw _ _ hun]
     simp only [Option.bind_some]
     rw [wi (by have:=(List.getElem?_eq_some_iff.1 hu).1; omega)]
     by_cases e:u=v <;> simp [e]
   ·rw [if_pos (zjL.2 hl)]
    have:x≠y:=fun e=>hl (by rw [e])
    simp [this]
 ·simp only [zcQ]
  rw [if_neg (by simp)]
 ·have hxn:=hi x (List.mem_of_getElem? hx)
  simp only [zcQ]
  rw [if_pos (zfO hx),if_pos (zbj hx),if_pos (zbj hy)]
  simp only [zcd hx,zcd hy,zbj hx,zbj hy,implies_true,if_true]
  rw [zn0 _ _ hxn,wi (by have:=(List.getElem?_eq_some_iff.1 hx).1; omega)]
  obtain ⟨n1,z1,i1⟩:=x
  obtain ⟨n2,z2,i2⟩:=y
  simp only [zam.mk.injEq]
  by_cases q1:n1=n2 <;> by_cases q2:z1=z2 <;> by_cases q3:i1=i2 <;> simp [q1,q2,q3]
end Go.Vs
end
section
namespace Go.Vs
local instance tabPalP1:Tab:=⟨fun _=>none⟩
def flt(c:Int)(t:zaa):zak:=⟨c,t.Line,t.Col⟩
structure zdr (T:List zaa):Prop where
 len:T.length<=100000
 name:∀t∈T,t.Kind=1->t.Text≠⟨#[]⟩
 next:∀(i:Nat),i<T.length->(rd T (i:Int)).Kind≠4->i+1<T.length
 txt:∀t∈T,t.Text.size<=1000000
abbrev tk(T:List zaa)(i:Nat):zaa:=rd T (i:Int)
theorem zaO{α:Type}{T:List α}{i:Nat}(h:i<T.length):InB (i:Int) T.length:=⟨by omega,by simpa using h⟩
theorem zdr.size{T:List zaa}(h:zdr T){i:Nat}(hi:i<T.length):(tk T i).Text.size<=1000000:=by
 have:tk T i=T[i]:=zcd (List.getElem?_eq_getElem hi)
 rw [this]; exact h.txt _ (List.getElem_mem hi)
theorem zdr.read{T:List zaa}(h:zdr T){i:Nat}(hi:i<T.length):zeW (tk T i).Text=some (zd0 (tk T i).Text):=zq2 (by have:=h.size hi; omega)
theorem zdr.rread{T:List zaa}(h:zdr T){i:Nat}(hi:i<T.length):zce (tk T i).Text=some (zd0 (tk T i).Text):=zgu _ (by have:=h.size hi; omega)
theorem w1{i:Nat}(h:i<=2000010):IntKind.wrap .i64 ((i:Int)+1)=((i+1:Nat):Int):=by rw [zbO ⟨by omega,by omega⟩]; omega
theorem w2{i:Nat}(h:i<=2000010):IntKind.wrap .i64 ((i:Int)+2)=((i+2:Nat):Int):=by rw [zbO ⟨by omega,by omega⟩]; omega
theorem w3{i:Nat}(h:i<=2000010):IntKind.wrap .i64 ((i:Int)+3)=((i+3:Nat):Int):=by rw [zbO ⟨by omega,by omega⟩]; omega
def zge(syms:List zam):List ByteArray:=syms.map (·.Name)
theorem zlw(s:ByteArray):zeu s=some (match fnd zgB s with | some i=>((i:Int),true) | none=>(0,false)):=by
 unfold zeu
 rw [zl5]
 simp only [Option.bind_some]
 rw [zfH _ _ (by decide)]
 cases h:fnd zgB s with
 | none=>simp
 | some i=>simp
theorem zqK(s:ByteArray):zeH s=zgx s:=by
 rw [zgd]
 unfold zeH
 by_cases h0:s=⟨#[]⟩
 ·simp [h0]
 have h0':¬(⟨#[]⟩:ByteArray)=s:=fun e=>h0 e.symm
 rw [zn6,zkA]
 simp only [Option.bind_some,h0,decide_false,Bool.false_eq_true,if_false]
 rw [zfH _ _ (by decide),zfH _ _ (by decide),zkj,zkj,if_neg h0',if_neg h0']
 cases h1:fnd opsL s with
 | some i =>
  simp
 | none =>
  simp
  cases h2:fnd zfW s with
  | some i=>simp
  | none=>simp
theorem ziM(p:zaj)(hn:p.zSy.length<=1000000):zda p=some (zge p.zSy):=by
 have:=zhD p hn
 exact this
theorem zpR(l:List ByteArray)(s:ByteArray)(hl:l.length<=1000000):zdR l s=some (match fnd l s with | some i=>(i:Int) | none=>-1):=zfH l s hl
theorem zkX(R:zac)(s:ByteArray)(hn:R.p.zSy.length<=1000000):zcT R s=some (match fnd (zge R.p.zSy) s with | some i=>((i:Int),true,R) | none=>(0,false,R)):=by
 unfold zcT
 have hl:(zge R.p.zSy).length=R.p.zSy.length:=by simp [zge]
 rw [zhV (zge R.p.zSy) s (by omega) (fun i=>(i,true,R)) _ (fun i=>?_)]
 ·cases fnd (zge R.p.zSy) s <;> rfl
 ·simp only [zdF,hl]
  by_cases h:InB i R.p.zSy.length
  ·have e:rd (zge R.p.zSy) i=(rd R.p.zSy i).Name:=by
    unfold zge rd
    rw [List.getD_eq_getElem?_getD,List.getD_eq_getElem?_getD,List.getElem?_map,List.getElem?_eq_getElem h.2]; rfl
   rw [e]
  ·simp [h]
theorem zuj(R:zac)(s:ByteArray)(hn:R.p.zSy.length<=1000000):zeG R s=some (match fnd (zge R.p.zSy) s with | some i=>((i:Int),true,R) | none=>(0,false,R)):=zkX R s hn
def sgB(T:List zaa)(i:Nat)(s:ByteArray):Bool:=((tk T i).Kind==3)&&decide ((tk T i).Text=s)
theorem zqt(R:zac)(i:Nat)(s:ByteArray)(h:i<R.l.length):za5 R (i:Int) s=some (sgB R.l i s,R):=by
 unfold za5
 rw [if_pos (zaO h),if_pos (fun _=>zaO h)]; rfl
theorem zgN{l:List zaa}{a:Int}{p:zaj}{b:List zaz}{f:zak}(i:Nat)(s:ByteArray)(h:i<l.length):za5 ⟨l,a,p,b,f⟩ (i:Int) s=some (sgB l i s,⟨l,a,p,b,f⟩):=zqt ⟨l,a,p,b,f⟩ i s h
end Go.Vs
end
section
namespace Go.Vs
local instance tabPalP2:Tab:=⟨fun _=>none⟩
abbrev Res(α:Type):=zak ⊕ (α × Nat)
def idxP(T:List zaa)(syms:List zam)(k i:Nat):Res zap :=
 if (tk T i).Kind==2 then
  (if decide ((zd0 (tk T i).Text).1<0)||decide ((zd0 (tk T i).Text).1≥(rd syms (k:Int)).Size) then .inl (flt 8 (tk T i)) else .inr (⟨3,0,k,(zd0 (tk T i).Text).1⟩,i+1))
 else match fnd zgB (tk T i).Text with
  | some r=>if (tk T i).Kind==1 then .inr (⟨4,r,k,0⟩,i+1) else .inl (flt 4 (tk T i))
  | none=>.inl (flt 4 (tk T i))
def opdP(T:List zaa)(syms:List zam)(i:Nat):Res zap :=
 if (tk T i).Kind==2 then .inr (⟨2,0,0,(zd0 (tk T i).Text).1⟩,i+1)
 else if (tk T i).Kind != 1 then .inl (flt 4 (tk T i))
 else match fnd zgB (tk T i).Text with
  | some r=>.inr (⟨1,r,0,0⟩,i+1)
  | none=>if zgn (tk T i).Text then .inl (flt 3 (tk T i)) else match fnd (zge syms) (tk T i).Text with
   | none=>.inl (flt 7 (tk T i))
   | some k=>if !sgB T (i+1) ⟨#[91]⟩ then .inl (flt 4 (tk T (i+1))) else match idxP T syms k (i+2) with
    | .inl f=>.inl f
    | .inr (o,j)=>if !sgB T j ⟨#[93]⟩ then .inl (flt 4 (tk T j)) else .inr (o,j+1)
theorem zmd{syms:List zam}{s:ByteArray}{k:Nat}(h:fnd (zge syms) s=some k):k<syms.length:=by
 have:=(znC h).1
 simpa [zge] using this
theorem zed{T:List zaa}{i:Nat}{n:Int}(h:((tk T i).Kind==n)=true)(hn:n≠4):(rd T (i:Int)).Kind≠4:=by
 have h':(rd T (i:Int)).Kind=n:=by simpa using h
 omega
theorem zfi{T:List zaa}{i:Nat}{s:ByteArray}(h:sgB T i s=true):(tk T i).Kind≠4:=by
 unfold sgB at h
 simp only [Bool.and_eq_true,beq_iff_eq] at h
 omega
theorem zkU{T syms k i o j}(hT:zdr T)(hi:i<T.length)(h:idxP T syms k i=.inr (o,j)):j=i+1/\j<T.length:=by
 unfold idxP at h
 split at h
 ·rename_i h2
  split at h
  ·cases h
  ·cases h
   exact ⟨rfl,hT.next i hi (zed h2 (by decide))⟩
 ·split at h
  ·split at h
   ·rename_i h1
    cases h
    exact ⟨rfl,hT.next i hi (zed h1 (by decide))⟩
   ·cases h
  ·cases h
theorem ziX{T syms i o j}(hT:zdr T)(hi:i<T.length)(h:opdP T syms i=.inr (o,j)):i<j/\j<T.length:=by
 unfold opdP at h
 split at h
 ·rename_i h2
  cases h
  exact ⟨by omega,hT.next i hi (zed h2 (by decide))⟩
 ·split at h
  ·cases h
  ·rename_i h1
   have hn:i+1<T.length:=hT.next i hi (zed (n:=1) (by simpa using h1) (by decide))
   split at h
   ·cases h; exact ⟨by omega,hn⟩
   ·split at h
    ·cases h
    ·split at h
     ·cases h
     ·split at h
      ·cases h
      ·rename_i hs
       have hs':sgB T (i+1) ⟨#[91]⟩=true:=by simpa using hs
       have hn2:i+2<T.length:=hT.next (i+1) hn (zfi hs')
       split at h
       ·cases h
       ·rename_i o' j' hx
        obtain ⟨e,hj⟩:=zkU hT hn2 hx
        split at h
        ·cases h
        ·rename_i hs2
         cases h
         exact ⟨by omega,hT.next j' hj (zfi (by simpa using hs2))⟩
def zrO(R:zac)(ok:Bool)(R':zac)(q:zak ⊕ Nat):Prop:=match q with
 | .inl f=>ok=false/\R'.f=f
 | .inr j=>ok=true/\R'=⟨R.l,(j:Int),R.p,R.b,R.f⟩
def pos{α:Type}:Res α->zak ⊕ Nat
 | .inl f=>.inl f
 | .inr (_,j)=>.inr j
theorem zrr(R:zac)(x:zae){i k:Nat}(hT:zdr R.l)(hi:i<R.l.length)(hk:k<R.p.zSy.length)(ha:R.at_=(i:Int)) :
  ∃ok R' x',zc6 R (k:Int) x=some (ok,R',x')/\zrO R ok R' (pos (idxP R.l R.p.zSy k i))/\∀o j,idxP R.l R.p.zSy k i=.inr (o,j)->x'=⟨x.Op,x.Lock,x.Cond,o,x.B,x.To,x.zLb⟩:=by
 have hl:=hT.len
 unfold zc6 idxP
 rw [ha,if_pos (zaO hi),hT.read hi,zfc]
 simp only [Option.bind_some]
 by_cases h2:((tk R.l i).Kind==2)=true
 ·rw [if_pos h2,if_pos h2,if_pos (fun _=>zaO hk)]
  split
  ·exact ⟨_,_,_,rfl,⟨rfl,rfl⟩,fun o j e=>by cases e⟩
  ·exact ⟨_,_,_,rfl,⟨rfl,by rw [w1 (by omega)]⟩,fun o j e=>by cases e; rfl⟩
 ·rw [if_neg h2,if_neg h2]
  cases hr:fnd zgB (tk R.l i).Text with
  | none =>
   simp only [Bool.not_false,Bool.or_true,if_true]
   exact ⟨_,_,_,rfl,⟨rfl,rfl⟩,fun o j e=>by cases e⟩
  | some r =>
   by_cases h1:(tk R.l i).Kind=1
   ·simp only [h1,bne_self_eq_false,Bool.not_true,Bool.or_self,Bool.false_eq_true,if_false,beq_self_eq_true,if_true]
    exact ⟨_,_,_,rfl,⟨rfl,by rw [w1 (by omega)]⟩,fun o j e=>by cases e; rfl⟩
   ·have e1:((tk R.l i).Kind != 1)=true:=by simpa using h1
    have e2:((tk R.l i).Kind==1)=false:=by simpa using h1
    simp only [e1,e2,Bool.true_or,if_true,Bool.false_eq_true,if_false]
    exact ⟨_,_,_,rfl,⟨rfl,rfl⟩,fun o j e=>by cases e⟩
theorem zrq(R:zac)(x:zae){i k:Nat}(hT:zdr R.l)(hi:i<R.l.length)(hk:k<R.p.zSy.length)(ha:R.at_=(i:Int)) :
  ∃ok R' x',zc5 R (k:Int) x=some (ok,R',x')/\zrO R ok R' (pos (idxP R.l R.p.zSy k i))/\∀o j,idxP R.l R.p.zSy k i=.inr (o,j)->x'=⟨x.Op,x.Lock,x.Cond,x.A,o,x.To,x.zLb⟩:=by
 have hl:=hT.len
 unfold zc5 idxP
 rw [ha,if_pos (zaO hi),hT.read hi,zfc]
 simp only [Option.bind_some]
 by_cases h2:((tk R.l i).Kind==2)=true
 ·rw [if_pos h2,if_pos h2,if_pos (fun _=>zaO hk)]
  split
  ·exact ⟨_,_,_,rfl,⟨rfl,rfl⟩,fun o j e=>by cases e⟩
  ·exact ⟨_,_,_,rfl,⟨rfl,by rw [w1 (by omega)]⟩,fun o j e=>by cases e; rfl⟩
 ·rw [if_neg h2,if_neg h2]
  cases hr:fnd zgB (tk R.l i).Text with
  | none =>
   simp only [Bool.not_false,Bool.or_true,if_true]
   exact ⟨_,_,_,rfl,⟨rfl,rfl⟩,fun o j e=>by cases e⟩
  | some r =>
   by_cases h1:(tk R.l i).Kind=1
   ·simp only [h1,bne_self_eq_false,Bool.not_true,Bool.or_self,Bool.false_eq_true,if_false,beq_self_eq_true,if_true]
    exact ⟨_,_,_,rfl,⟨rfl,by rw [w1 (by omega)]⟩,fun o j e=>by cases e; rfl⟩
   ·have e1:((tk R.l i).Kind != 1)=true:=by simpa using h1
    have e2:((tk R.l i).Kind==1)=false:=by simpa using h1
    simp only [e1,e2,Bool.true_or,if_true,Bool.false_eq_true,if_false]
    exact ⟨_,_,_,rfl,⟨rfl,rfl⟩,fun o j e=>by cases e⟩
end Go.Vs
end
section
namespace Go.Vs
local instance tabPalP3:Tab:=⟨fun _=>none⟩
theorem zro(R:zac)(x:zae){i:Nat}(hT:zdr R.l)(hi:i<R.l.length)(hs:R.p.zSy.length<=64)(ha:R.at_=(i:Int)) :
  ∃ok R' x',zcx R x=some (ok,R',x')/\zrO R ok R' (pos (opdP R.l R.p.zSy i))/\∀o j,opdP R.l R.p.zSy i=.inr (o,j)->x'=⟨x.Op,x.Lock,x.Cond,o,x.B,x.To,x.zLb⟩:=by
 have hl:=hT.len
 unfold zcx opdP
 rw [ha,if_pos (zaO hi),hT.read hi,zfc,zeJ]
 simp only [Option.bind_some]
 by_cases h2:((tk R.l i).Kind==2)=true
 ·rw [if_pos h2,if_pos h2]
  exact ⟨_,_,_,rfl,⟨rfl,by rw [w1 (by omega)]⟩,fun o j e=>by cases e; rfl⟩
 rw [if_neg h2,if_neg h2]
 by_cases h1:((tk R.l i).Kind != 1)=true
 ·rw [if_pos h1,if_pos h1]
  exact ⟨_,_,_,rfl,⟨rfl,rfl⟩,fun o j e=>by cases e⟩
 rw [if_neg h1,if_neg h1]
 have hn:i+1<R.l.length:=hT.next i hi (zed (n:=1) (by simpa using h1) (by decide))
 cases hr:fnd zgB (tk R.l i).Text with
 | some r =>
  simp only [if_true]
  exact ⟨_,_,_,rfl,⟨rfl,by rw [w1 (by omega)]⟩,fun o j e=>by cases e; rfl⟩
 | none =>
  simp only [Bool.false_eq_true,if_false]
  cases hw:zgn (tk R.l i).Text with
  | true =>
   simp only [if_true]
   exact ⟨_,_,_,rfl,⟨rfl,rfl⟩,fun o j e=>by cases e⟩
  | false =>
   simp only [Bool.false_eq_true,if_false]
   rw [zkX _ _ (by show R.p.zSy.length<=_; omega)]
   simp only [Option.bind_some]
   cases hf:fnd (zge R.p.zSy) (tk R.l i).Text with
   | none =>
    simp only [Bool.not_false,if_true]
    exact ⟨_,_,_,rfl,⟨rfl,rfl⟩,fun o j e=>by cases e⟩
   | some k =>
    simp only [Bool.not_true,Bool.false_eq_true,if_false,w1 (show i<=2000010 by omega)]
    rw [zgN (i+1) _ hn]
    simp only [Option.bind_some]
    cases hg:sgB R.l (i+1) ⟨#[91]⟩ with
    | false =>
     simp only [Bool.not_false,if_true]
     rw [if_pos (zaO hn)]
     exact ⟨_,_,_,rfl,⟨rfl,rfl⟩,fun o j e=>by cases e⟩
    | true =>
     have hn2:i+2<R.l.length:=hT.next (i+1) hn (zfi hg)
     simp only [Bool.not_true,Bool.false_eq_true,if_false]
     have hw2:IntKind.wrap .i64 (((i+1:Nat):Int)+1)=((i+2:Nat):Int):=w1 (by omega)
     rw [hw2]
     obtain ⟨ok,R',x',e1,e2,e3⟩:=zrr ⟨R.l,((i+2:Nat):Int),R.p,R.b,R.f⟩ x hT hn2 (zmd hf) rfl
     rw [e1]
     simp only [Option.bind_some]
     cases hx:idxP R.l R.p.zSy k (i+2) with
     | inl f =>
      rw [show pos (idxP R.l R.p.zSy k (i+2))=.inl f by rw [hx]; rfl] at e2
      obtain ⟨rfl,e4⟩:=e2
      simp only [Bool.not_false,if_true]
      exact ⟨_,_,_,rfl,⟨rfl,e4⟩,fun o j e=>by cases e⟩
     | inr q =>
      obtain ⟨o,j⟩:=q
      rw [show pos (idxP R.l R.p.zSy k (i+2))=.inr j by rw [hx]; rfl] at e2
      obtain ⟨rfl,rfl⟩:=e2
      obtain ⟨_,hj⟩:=zkU hT hn2 hx
      have e5:=e3 o j hx
      subst e5
      simp only [Bool.not_true,Bool.false_eq_true,if_false]
      rw [zgN j _ hj]
      simp only [Option.bind_some]
      cases hg2:sgB R.l j ⟨#[93]⟩ with
      | false =>
       simp only [Bool.not_false,if_true]
       rw [if_pos (zaO hj)]
       exact ⟨_,_,_,rfl,⟨rfl,rfl⟩,fun o j e=>by cases e⟩
      | true =>
       simp only [Bool.not_true,Bool.false_eq_true,if_false]
       exact ⟨_,_,_,rfl,⟨rfl,by rw [w1 (by omega)]⟩,fun o' j' e=>by cases e; rfl⟩
theorem zrn(R:zac)(x:zae){i:Nat}(hT:zdr R.l)(hi:i<R.l.length)(hs:R.p.zSy.length<=64)(ha:R.at_=(i:Int)) :
  ∃ok R' x',zcw R x=some (ok,R',x')/\zrO R ok R' (pos (opdP R.l R.p.zSy i))/\∀o j,opdP R.l R.p.zSy i=.inr (o,j)->x'=⟨x.Op,x.Lock,x.Cond,x.A,o,x.To,x.zLb⟩:=by
 have hl:=hT.len
 unfold zcw opdP
 rw [ha,if_pos (zaO hi),hT.read hi,zfc,zeJ]
 simp only [Option.bind_some]
 by_cases h2:((tk R.l i).Kind==2)=true
 ·rw [if_pos h2,if_pos h2]
  exact ⟨_,_,_,rfl,⟨rfl,by rw [w1 (by omega)]⟩,fun o j e=>by cases e; rfl⟩
 rw [if_neg h2,if_neg h2]
 by_cases h1:((tk R.l i).Kind != 1)=true
 ·rw [if_pos h1,if_pos h1]
  exact ⟨_,_,_,rfl,⟨rfl,rfl⟩,fun o j e=>by cases e⟩
 rw [if_neg h1,if_neg h1]
 have hn:i+1<R.l.length:=hT.next i hi (zed (n:=1) (by simpa using h1) (by decide))
 cases hr:fnd zgB (tk R.l i).Text with
 | some r =>
  simp only [if_true]
  exact ⟨_,_,_,rfl,⟨rfl,by rw [w1 (by omega)]⟩,fun o j e=>by cases e; rfl⟩
 | none =>
  simp only [Bool.false_eq_true,if_false]
  cases hw:zgn (tk R.l i).Text with
  | true =>
   simp only [if_true]
   exact ⟨_,_,_,rfl,⟨rfl,rfl⟩,fun o j e=>by cases e⟩
  | false =>
   simp only [Bool.false_eq_true,if_false]
   rw [zkX _ _ (by show R.p.zSy.length<=_; omega)]
   simp only [Option.bind_some]
   cases hf:fnd (zge R.p.zSy) (tk R.l i).Text with
   | none =>
    simp only [Bool.not_false,if_true]
    exact ⟨_,_,_,rfl,⟨rfl,rfl⟩,fun o j e=>by cases e⟩
   | some k =>
    simp only [Bool.not_true,Bool.false_eq_true,if_false,w1 (show i<=2000010 by omega)]
    rw [zgN (i+1) _ hn]
    simp only [Option.bind_some]
    cases hg:sgB R.l (i+1) ⟨#[91]⟩ with
    | false =>
     simp only [Bool.not_false,if_true]
     rw [if_pos (zaO hn)]
     exact ⟨_,_,_,rfl,⟨rfl,rfl⟩,fun o j e=>by cases e⟩
    | true =>
     have hn2:i+2<R.l.length:=hT.next (i+1) hn (zfi hg)
     simp only [Bool.not_true,Bool.false_eq_true,if_false]
     have hw2:IntKind.wrap .i64 (((i+1:Nat):Int)+1)=((i+2:Nat):Int):=w1 (by omega)
     rw [hw2]
     obtain ⟨ok,R',x',e1,e2,e3⟩:=zrq ⟨R.l,((i+2:Nat):Int),R.p,R.b,R.f⟩ x hT hn2 (zmd hf) rfl
     rw [e1]
     simp only [Option.bind_some]
     cases hx:idxP R.l R.p.zSy k (i+2) with
     | inl f =>
      rw [show pos (idxP R.l R.p.zSy k (i+2))=.inl f by rw [hx]; rfl] at e2
      obtain ⟨rfl,e4⟩:=e2
      simp only [Bool.not_false,if_true]
      exact ⟨_,_,_,rfl,⟨rfl,e4⟩,fun o j e=>by cases e⟩
     | inr q =>
      obtain ⟨o,j⟩:=q
      rw [show pos (idxP R.l R.p.zSy k (i+2))=.inr j by rw [hx]; rfl] at e2
      obtain ⟨rfl,rfl⟩:=e2
      obtain ⟨_,hj⟩:=zkU hT hn2 hx
      have e5:=e3 o j hx
      subst e5
      simp only [Bool.not_true,Bool.false_eq_true,if_false]
      rw [zgN j _ hj]
      simp only [Option.bind_some]
      cases hg2:sgB R.l j ⟨#[93]⟩ with
      | false =>
       simp only [Bool.not_false,if_true]
       rw [if_pos (zaO hj)]
       exact ⟨_,_,_,rfl,⟨rfl,rfl⟩,fun o j e=>by cases e⟩
      | true =>
       simp only [Bool.not_true,Bool.false_eq_true,if_false]
       exact ⟨_,_,_,rfl,⟨rfl,by rw [w1 (by omega)]⟩,fun o' j' e=>by cases e; rfl⟩
end Go.Vs
end
section
namespace Go.Vs
local instance tabPalP4:Tab:=⟨fun _=>none⟩
def zuy(Q:zab)(ok:Bool)(Q':zab)(q:zak ⊕ Nat):Prop:=match q with
 | .inl f=>ok=false/\Q'.Bad=f
 | .inr j=>ok=true/\Q'=⟨Q.T,(j:Int),Q.P,Q.zHd,Q.First,Q.To,Q.Left,Q.All,Q.Wait,Q.Bad⟩
def ziE(T:List zaa)(i:Nat):Option zak:=if (tk T i).Kind != 1 then some (flt 4 (tk T i)) else if zgn (tk T i).Text then some (flt 3 (tk T i)) else none
theorem zlv(Q:zab){i:Nat}(hi:i<Q.T.length)(ha:Q.I=(i:Int)) :
  ∃ok Q',zbM Q=some (ok,Q')/\match ziE Q.T i with | some f=>ok=false/\Q'.Bad=f | none=>ok=true/\Q'=Q:=by
 unfold zbM ziE
 rw [ha,if_pos (zaO hi),zix]
 simp only [Option.bind_some]
 by_cases h1:((tk Q.T i).Kind != 1)=true
 ·rw [if_pos h1,if_pos h1]
  exact ⟨_,_,rfl,rfl,rfl⟩
 rw [if_neg h1,if_neg h1]
 cases hw:zgn (tk Q.T i).Text with
 | true=>exact ⟨_,_,rfl,rfl,rfl⟩
 | false=>exact ⟨_,_,rfl,rfl,by rw [← ha]⟩
theorem zoM(Q:zab){i:Nat}(hi:i<Q.T.length)(ha:Q.I=(i:Int)) :
  ∃ok Q',zca Q=some (ok,Q')/\match ziE Q.T i with | some f=>ok=false/\Q'.Bad=f | none=>ok=true/\Q'=Q:=by
 unfold zca ziE
 rw [ha,if_pos (zaO hi),zix]
 simp only [Option.bind_some]
 by_cases h1:((tk Q.T i).Kind != 1)=true
 ·rw [if_pos h1,if_pos h1]
  exact ⟨_,_,rfl,rfl,rfl⟩
 rw [if_neg h1,if_neg h1]
 cases hw:zgn (tk Q.T i).Text with
 | true=>exact ⟨_,_,rfl,rfl,rfl⟩
 | false=>exact ⟨_,_,rfl,rfl,rfl⟩
theorem ztH{T:List zaa}{i:Nat}{s:ByteArray}:(((tk T i).Kind != 3)||(!decide ((tk T i).Text=s)))=!sgB T i s:=by
 unfold sgB
 cases h:((tk T i).Kind==3) <;> simp [bne,h]
theorem zpF(v8:Bool × zab)(p0:zab)(v13 a b c:Int){i:Nat}(hT:zdr v8.2.T)(hi:i+3<v8.2.T.length)(ha:v8.2.I=(i:Int)) :
  ∃o ok Q',zaZ v8 p0 v13 a b c=some (o,ok,Q')/\(if sgB v8.2.T (i+3) ⟨#[93]⟩ then o=⟨a,b,v13,c⟩/\ok=true/\Q'=⟨v8.2.T,((i+4:Nat):Int),v8.2.P,v8.2.zHd,v8.2.First,v8.2.To,v8.2.Left,v8.2.All,p0.Wait,v8.2.Bad⟩ else ok=false/\Q'.Bad=flt 4 (tk v8.2.T (i+3))):=by
 have hl:=hT.len
 have e1:IntKind.wrap .i64 ((i:Int)+1)=((i+1:Nat):Int):=w1 (by omega)
 have e2:IntKind.wrap .i64 (((i+1:Nat):Int)+1)=((i+2:Nat):Int):=w1 (by omega)
 have e3:IntKind.wrap .i64 (((i+2:Nat):Int)+1)=((i+3:Nat):Int):=w1 (by omega)
 have e4:IntKind.wrap .i64 (((i+3:Nat):Int)+1)=((i+4:Nat):Int):=w1 (by omega)
 unfold zaZ
 rw [ha,e1,e2,e3]
 simp only [Option.bind_some]
 rw [if_pos (zaO hi),if_pos (fun _=>zaO hi),ztH,e4]
 cases hg:sgB v8.2.T (i+3) ⟨#[93]⟩ with
 | false =>
  simp only [Bool.not_false,if_true]
  rw [if_pos (zaO hi)]
  exact ⟨_,_,_,rfl,rfl,rfl⟩
 | true =>
  simp only [Bool.not_true,Bool.false_eq_true,if_false]
  exact ⟨_,_,_,rfl,rfl,rfl,rfl⟩
theorem zqF(Q:zab){i:Nat}(hT:zdr Q.T)(hi:i<Q.T.length)(hs:Q.P.zSy.length<=64)(ha:Q.I=(i:Int)) :
  ∃o ok Q',zbo Q=some (o,ok,Q')/\zuy Q ok Q' (pos (opdP Q.T Q.P.zSy i))/\∀o' j,opdP Q.T Q.P.zSy i=.inr (o',j)->o=o':=by
 have hl:=hT.len
 unfold zbo opdP
 rw [ha,if_pos (zaO hi),hT.rread hi,zlw]
 simp only [Option.bind_some]
 by_cases h2:((tk Q.T i).Kind==2)=true
 ·rw [if_pos h2,if_pos h2]
  exact ⟨_,_,_,rfl,⟨rfl,by rw [w1 (by omega)]⟩,fun o j e=>by cases e; rfl⟩
 rw [if_neg h2,if_neg h2]
 obtain ⟨ok,Q',en,hn⟩:=zlv ⟨Q.T,(i:Int),Q.P,Q.zHd,Q.First,Q.To,Q.Left,Q.All,Q.Wait,Q.Bad⟩ hi rfl
 rw [en]
 unfold ziE at hn
 by_cases h1:((tk Q.T i).Kind != 1)=true
 ·rw [if_pos h1]
  have h1':((tk Q.T i).Kind==1)=false:=by simpa [bne] using h1
  rw [if_pos h1] at hn
  obtain ⟨rfl,hb⟩:=hn
  simp only [h1',Bool.and_false,Bool.false_eq_true,if_false,Option.bind_some,Bool.not_false,if_true]
  exact ⟨_,_,_,rfl,⟨rfl,hb⟩,fun o j e=>by cases e⟩
 rw [if_neg h1]
 have h1':((tk Q.T i).Kind==1)=true:=by simpa [bne] using h1
 rw [if_neg h1] at hn
 have hn1:i+1<Q.T.length:=hT.next i hi (zed h1' (by decide))
 cases hr:fnd zgB (tk Q.T i).Text with
 | some r =>
  simp only [h1',Bool.and_true,if_true]
  exact ⟨_,_,_,rfl,⟨rfl,by rw [w1 (by omega)]⟩,fun o j e=>by cases e; rfl⟩
 | none =>
  simp only [Bool.false_and,Bool.false_eq_true,if_false,Option.bind_some]
  cases hw:zgn (tk Q.T i).Text with
  | true =>
   rw [if_pos hw] at hn
   obtain ⟨rfl,hb⟩:=hn
   simp only [Bool.not_false,if_true]
   exact ⟨_,_,_,rfl,⟨rfl,hb⟩,fun o j e=>by cases e⟩
  | false =>
   rw [if_neg (by rw [hw]; decide)] at hn
   obtain ⟨rfl,rfl⟩:=hn
   simp only [Bool.not_true,Bool.false_eq_true,if_false]
   rw [ziM _ (by show Q.P.zSy.length<=_; omega)]
   simp only [Option.bind_some]
   rw [zfH _ _ (by show (zge Q.P.zSy).length<=_; simp [zge]; omega)]
   simp only [Option.bind_some]
   cases hf:fnd (zge Q.P.zSy) (tk Q.T i).Text with
   | none =>
    simp only [show decide ((-1:Int)<0)=true from rfl,if_true]
    exact ⟨_,_,_,rfl,⟨rfl,rfl⟩,fun o j e=>by cases e⟩
   | some k =>
    have hk:=zmd hf
    have hk0:decide ((k:Int)<0)=false:=by simp
    have e1:IntKind.wrap .i64 ((i:Int)+1)=((i+1:Nat):Int):=w1 (by omega)
    have e2:IntKind.wrap .i64 (((i+1:Nat):Int)+1)=((i+2:Nat):Int):=w1 (by omega)
    simp only [hk0,Bool.false_eq_true,if_false,e1,e2]
    rw [if_pos (zaO hn1),if_pos (fun _=>zaO hn1)]
    rw [ztH]
    cases hg:sgB Q.T (i+1) ⟨#[91]⟩ with
    | false =>
     simp only [Bool.not_false,if_true]
     rw [if_pos (zaO hn1)]
     exact ⟨_,_,_,rfl,⟨rfl,rfl⟩,fun o j e=>by cases e⟩
    | true =>
     have hn2:i+2<Q.T.length:=hT.next (i+1) hn1 (zfi hg)
     simp only [Bool.not_true,Bool.false_eq_true,if_false]
     rw [if_pos (zaO hn2),zlw,hT.rread hn2]
     simp only [Option.bind_some]
     unfold idxP
     have join:∀(a b c:Int),i+3<Q.T.length->∃o ok Q',zaZ (true,⟨Q.T,(i:Int),Q.P,Q.zHd,Q.First,Q.To,Q.Left,Q.All,Q.Wait,Q.Bad⟩) Q (k:Int) a b c=some (o,ok,Q') /\
       zuy Q ok Q' (pos (if (!sgB Q.T (i+3) ⟨#[93]⟩)=true then (.inl (flt 4 (tk Q.T (i+3))):Res zap) else .inr (⟨a,b,k,c⟩,i+4)))/\∀o' j,(if (!sgB Q.T (i+3) ⟨#[93]⟩)=true then (.inl (flt 4 (tk Q.T (i+3))):Res zap) else .inr (⟨a,b,k,c⟩,i+4))=.inr (o',j)->o=o':=by
      intro a b c h3
      obtain ⟨o,ok,Q',j1,j2⟩:=zpF (true,⟨Q.T,(i:Int),Q.P,Q.zHd,Q.First,Q.To,Q.Left,Q.All,Q.Wait,Q.Bad⟩) Q (k:Int) a b c hT h3 rfl
      refine ⟨o,ok,Q',j1,?_⟩
      cases hg3:sgB Q.T (i+3) ⟨#[93]⟩ with
      | false =>
       rw [if_neg (by show ¬sgB Q.T (i+3) ⟨#[93]⟩=true; rw [hg3]; decide)] at j2
       exact ⟨j2,fun o' j e=>by cases e⟩
      | true =>
       rw [if_pos (show sgB Q.T (i+3) ⟨#[93]⟩=true from hg3)] at j2
       obtain ⟨rfl,rfl,rfl⟩:=j2
       exact ⟨⟨rfl,rfl⟩,fun o' j e=>by cases e; rfl⟩
     by_cases u2:((tk Q.T (i+2)).Kind==2)=true
     ·rw [if_pos u2,if_pos u2,if_pos (fun _=>zaO hk)]
      have h3:i+3<Q.T.length:=hT.next (i+2) hn2 (zed u2 (by decide))
      cases hc:(decide ((zd0 (tk Q.T (i+2)).Text).1<0)||decide ((zd0 (tk Q.T (i+2)).Text).1≥(rd Q.P.zSy (k:Int)).Size)) with
      | true =>
       simp only [if_true]
       exact ⟨_,_,_,rfl,⟨rfl,rfl⟩,fun o j e=>by cases e⟩
      | false =>
       simp only [Bool.false_eq_true,if_false]
       exact join 3 0 _ h3
     ·rw [if_neg u2,if_neg u2]
      cases hr2:fnd zgB (tk Q.T (i+2)).Text with
      | none =>
       simp only [Bool.false_and,Bool.false_eq_true,if_false]
       exact ⟨_,_,_,rfl,⟨rfl,rfl⟩,fun o j e=>by cases e⟩
      | some r =>
       by_cases u1:((tk Q.T (i+2)).Kind==1)=true
       ·have h3:i+3<Q.T.length:=hT.next (i+2) hn2 (zed u1 (by decide))
        simp only [u1,Bool.and_self,if_true]
        exact join 4 r 0 h3
       ·have u1':((tk Q.T (i+2)).Kind==1)=false:=by simpa using u1
        simp only [u1',Bool.and_false,Bool.false_eq_true,if_false]
        exact ⟨_,_,_,rfl,⟨rfl,rfl⟩,fun o j e=>by cases e⟩
end Go.Vs
end
section
namespace Go.Vs
local instance tabPalP5:Tab:=⟨fun _=>none⟩
def row0(op:Int)(lk:Bool)(a b:zap):Bool:=rowB ⟨op,lk,0,a,b,⟨#[]⟩,[]⟩
theorem zqB(x:zae):rowB x=row0 x.Op x.Lock x.A x.B:=rfl
def zmv(op:Int)(lk:Bool)(a:zap):Bool:=(a.Kind==2)||((a.Kind==1)&&(lk||(op==8)))
def opsP(T:List zaa)(syms:List zam)(op:Int)(lk:Bool)(i:Nat):Res (zap × zap) :=
 match opdP T syms i with
 | .inl f=>.inl f
 | .inr (a,j)=>if zmv op lk a then .inl (flt 4 (tk T i)) else if !sgB T j ⟨#[44]⟩ then .inl (flt 4 (tk T j)) else match opdP T syms (j+1) with
  | .inl f=>.inl f
  | .inr (b,k)=>if !row0 op lk a b then .inl (flt 4 (tk T (j+1))) else .inr ((a,b),k)
theorem zqW{T syms op lk i ab k}(hT:zdr T)(hi:i<T.length)(h:opsP T syms op lk i=.inr (ab,k)):i<k/\k<T.length:=by
 unfold opsP at h
 split at h
 ·cases h
 ·rename_i a j h1
  obtain ⟨e1,e2⟩:=ziX hT hi h1
  split at h
  ·cases h
  split at h
  ·cases h
  ·rename_i hs
   have hn:j+1<T.length:=hT.next j e2 (zfi (by simpa using hs))
   split at h
   ·cases h
   ·rename_i b k' h2
    obtain ⟨e3,e4⟩:=ziX hT hn h2
    split at h
    ·cases h
    ·cases h; exact ⟨by omega,e4⟩
theorem zsC{x:zae}(h1:1<=x.Op)(h2:x.Op<=9)(hc:x.Cond=0)(ht:x.To=⟨#[]⟩):(insN x != 0)=!rowB x:=by
 unfold insN zll zja zeE
 have e1:(x.Op==11)=false:=by simp; omega
 have e2:(x.Op==10)=false:=by simp; omega
 have e3:decide (x.Op≥1)=true:=by simp; omega
 have e4:decide (x.Op<=14)=true:=by simp; omega
 rw [e1,e2,e3,e4,hc,ht]
 cases rowB x <;> simp
theorem zoq(k op:Int)(lk:Bool):((k==2)||((k==1)&&(!(((k==1)&&(!lk))&&(op != 8)))))=((k==2)||((k==1)&&(lk||(op==8)))):=by
 cases h:(k==1) <;> cases lk <;> cases h2:(op==8) <;> simp [bne,h2]
theorem zsF(R:zac)(x:zae){i:Nat}(hT:zdr R.l)(hi:i<R.l.length)(hs:R.p.zSy.length<=64)(ha:R.at_=(i:Int))(h1:1<=x.Op)(h2:x.Op<=9)(hc:x.Cond=0)(ht:x.To=⟨#[]⟩) :
  ∃ok R' x',zbY R x=some (x',ok,R')/\zrO R ok R' (pos (opsP R.l R.p.zSy x.Op x.Lock i))/\∀a b j,opsP R.l R.p.zSy x.Op x.Lock i=.inr ((a,b),j)->x'=⟨x.Op,x.Lock,x.Cond,a,b,x.To,x.zLb⟩:=by
 have hl:=hT.len
 unfold zbY opsP
 rw [ha,if_pos (zaO hi)]
 obtain ⟨ok,R',x',e1,e2,e3⟩:=zro ⟨R.l,(i:Int),R.p,R.b,R.f⟩ x hT hi hs rfl
 rw [e1]
 simp only [Option.bind_some]
 cases hx:opdP R.l R.p.zSy i with
 | inl f =>
  rw [show pos (opdP R.l R.p.zSy i)=.inl f by rw [hx]; rfl] at e2
  obtain ⟨rfl,e4⟩:=e2
  simp only [Bool.not_false,if_true]
  exact ⟨_,_,_,rfl,⟨rfl,e4⟩,fun a b j e=>by cases e⟩
 | inr q =>
  obtain ⟨a,j⟩:=q
  rw [show pos (opdP R.l R.p.zSy i)=.inr j by rw [hx]; rfl] at e2
  obtain ⟨rfl,rfl⟩:=e2
  obtain ⟨_,hj⟩:=ziX hT hi hx
  have e5:=e3 a j hx
  subst e5
  simp only [Bool.not_true,Bool.false_eq_true,if_false,zoq]
  cases hb:zmv x.Op x.Lock a with
  | true =>
   have hb':((a.Kind==2)||((a.Kind==1)&&(x.Lock||(x.Op==8))))=true:=hb
   rw [if_pos hb']
   exact ⟨_,_,_,rfl,⟨rfl,rfl⟩,fun a b j e=>by cases e⟩
  | false =>
   have hb':((a.Kind==2)||((a.Kind==1)&&(x.Lock||(x.Op==8))))=false:=hb
   rw [if_neg (by rw [hb']; decide),zgN j _ hj]
   simp only [Option.bind_some,Bool.false_eq_true,if_false]
   cases hg:sgB R.l j ⟨#[44]⟩ with
   | false =>
    simp only [Bool.not_false,if_true]
    rw [if_pos (zaO hj)]
    exact ⟨_,_,_,rfl,⟨rfl,rfl⟩,fun a b j e=>by cases e⟩
   | true =>
    have hn:j+1<R.l.length:=hT.next j hj (zfi hg)
    simp only [Bool.not_true,Bool.false_eq_true,if_false,w1 (show j<=2000010 by omega)]
    rw [if_pos (zaO hn)]
    obtain ⟨ok2,R2,x2,k1,k2,k3⟩:=zrn ⟨R.l,((j+1:Nat):Int),R.p,R.b,R.f⟩ ⟨x.Op,x.Lock,x.Cond,a,x.B,x.To,x.zLb⟩ hT hn hs rfl
    rw [k1]
    simp only [Option.bind_some]
    cases hy:opdP R.l R.p.zSy (j+1) with
    | inl f =>
     rw [show pos (opdP R.l R.p.zSy (j+1))=.inl f by rw [hy]; rfl] at k2
     obtain ⟨rfl,e4⟩:=k2
     simp only [Bool.not_false,if_true]
     exact ⟨_,_,_,rfl,⟨rfl,e4⟩,fun a b j e=>by cases e⟩
    | inr q =>
     obtain ⟨b,k⟩:=q
     rw [show pos (opdP R.l R.p.zSy (j+1))=.inr k by rw [hy]; rfl] at k2
     obtain ⟨rfl,rfl⟩:=k2
     have e6:=k3 b k hy
     subst e6
     simp only [Bool.not_true,Bool.false_eq_true,if_false]
     rw [znt _ (by show x.To.size<=1000000; rw [ht]; decide)]
     simp only [Option.bind_some]
     rw [zsC (x:=⟨x.Op,x.Lock,x.Cond,a,b,x.To,x.zLb⟩) h1 h2 hc ht,zqB]
     cases hr:row0 x.Op x.Lock a b with
     | false =>
      simp only [Bool.not_false,if_true]
      exact ⟨_,_,_,rfl,⟨rfl,rfl⟩,fun a b j e=>by cases e⟩
     | true =>
      simp only [Bool.not_true,Bool.false_eq_true,if_false]
      exact ⟨_,_,_,rfl,⟨rfl,rfl⟩,fun a b j e=>by cases e; rfl⟩
theorem ztS(Q:zab)(x:zae){i:Nat}(hT:zdr Q.T)(hi:i<Q.T.length)(hs:Q.P.zSy.length<=64)(ha:Q.I=(i:Int)) :
  ∃ok Q' x',zbG Q x=some (ok,Q',x')/\zuy Q ok Q' (pos (opsP Q.T Q.P.zSy x.Op x.Lock i))/\∀a b j,opsP Q.T Q.P.zSy x.Op x.Lock i=.inr ((a,b),j)->x'=⟨x.Op,x.Lock,x.Cond,a,b,x.To,Q.Wait⟩:=by
 have hl:=hT.len
 unfold zbG opsP
 rw [ha,if_pos (zaO hi)]
 obtain ⟨o,ok,Q',e1,e2,e3⟩:=zqF ⟨Q.T,(i:Int),Q.P,Q.zHd,Q.First,Q.To,Q.Left,Q.All,Q.Wait,Q.Bad⟩ hT hi hs rfl
 rw [e1]
 simp only [Option.bind_some]
 cases hx:opdP Q.T Q.P.zSy i with
 | inl f =>
  rw [show pos (opdP Q.T Q.P.zSy i)=.inl f by rw [hx]; rfl] at e2
  obtain ⟨rfl,e4⟩:=e2
  simp only [Bool.not_false,if_true]
  exact ⟨_,_,_,rfl,⟨rfl,e4⟩,fun a b j e=>by cases e⟩
 | inr q =>
  obtain ⟨a,j⟩:=q
  rw [show pos (opdP Q.T Q.P.zSy i)=.inr j by rw [hx]; rfl] at e2
  obtain ⟨rfl,rfl⟩:=e2
  obtain ⟨_,hj⟩:=ziX hT hi hx
  have e5:=e3 a j hx
  subst e5
  simp only [Bool.not_true,Bool.false_eq_true,if_false]
  cases hb:zmv x.Op x.Lock o with
  | true =>
   have hb':((o.Kind==2)||((o.Kind==1)&&(x.Lock||(x.Op==8))))=true:=hb
   rw [if_pos hb']
   exact ⟨_,_,_,rfl,⟨rfl,rfl⟩,fun a b j e=>by cases e⟩
  | false =>
   have hb':((o.Kind==2)||((o.Kind==1)&&(x.Lock||(x.Op==8))))=false:=hb
   rw [if_neg (by rw [hb']; decide),if_pos (zaO hj),if_pos (fun _=>zaO hj),ztH]
   simp only [Option.bind_some,Bool.false_eq_true,if_false]
   cases hg:sgB Q.T j ⟨#[44]⟩ with
   | false =>
    simp only [Bool.not_false,if_true]
    rw [if_pos (zaO hj)]
    exact ⟨_,_,_,rfl,⟨rfl,rfl⟩,fun a b j e=>by cases e⟩
   | true =>
    have hn:j+1<Q.T.length:=hT.next j hj (zfi hg)
    simp only [Bool.not_true,Bool.false_eq_true,if_false,w1 (show j<=2000010 by omega)]
    rw [if_pos (zaO hn)]
    obtain ⟨b,ok2,Q2,k1,k2,k3⟩:=zqF ⟨Q.T,((j+1:Nat):Int),Q.P,Q.zHd,Q.First,Q.To,Q.Left,Q.All,Q.Wait,Q.Bad⟩ hT hn hs rfl
    rw [k1]
    simp only [Option.bind_some]
    cases hy:opdP Q.T Q.P.zSy (j+1) with
    | inl f =>
     rw [show pos (opdP Q.T Q.P.zSy (j+1))=.inl f by rw [hy]; rfl] at k2
     obtain ⟨rfl,e4⟩:=k2
     simp only [Bool.not_false,if_true]
     exact ⟨_,_,_,rfl,⟨rfl,e4⟩,fun a b j e=>by cases e⟩
    | inr q =>
     obtain ⟨b',k⟩:=q
     rw [show pos (opdP Q.T Q.P.zSy (j+1))=.inr k by rw [hy]; rfl] at k2
     obtain ⟨rfl,rfl⟩:=k2
     have e6:=k3 b' k hy
     subst e6
     simp only [Bool.not_true,Bool.false_eq_true,if_false]
     rw [zlu,zqB]
     simp only [Option.bind_some]
     cases hr:row0 x.Op x.Lock o b with
     | false =>
      simp only [Bool.not_false,if_true]
      exact ⟨_,_,_,rfl,⟨rfl,rfl⟩,fun a b j e=>by cases e⟩
     | true =>
      simp only [Bool.not_true,Bool.false_eq_true,if_false]
      exact ⟨_,_,_,rfl,⟨rfl,rfl⟩,fun a b j e=>by cases e; rfl⟩
end Go.Vs
end
