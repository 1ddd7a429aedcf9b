import Derived.Test.YtocjejladeeckaaDoorPS1
import Derived.Test.YtocjejladeeckaaDoorPalK
import Derived.Test.YtocjejladeeckaaDoorPT1
import Derived.Test.YtocjejladeeckaaDoorPS0
import Derived.Test.YtocjejladeeckaaDoorPalJ
set_option linter.all false
section
namespace Go.Vs
local instance tabPalSame:Tab:=⟨fun _=>none⟩
theorem zfu{α:Type}[DecidableEq α](a b:List α)(hl:a.length=b.length)(step:Int->Option (Int ⊕ (Unit ⊕ Bool)))
  (hs:∀(i:Nat) x y,a[i]?=some x->b[i]?=some y->step (i:Int)=some (if x=y then .inl ((i:Int)+1) else .inr (.inr false))) (he:step (a.length:Int)=some (.inr (.inl ()))) :
  za7 step 0=some (if a=b then .inl () else .inr false):=by
 have main:∀(n k:Nat),a.length-k=n->k<=a.length->za7 step (k:Int)=some (if a.drop k=b.drop k then .inl () else .inr false):=by
  intro n
  induction n with
  | zero =>
   intro k h1 h2
   obtain rfl:k=a.length:=by omega
   rw [List.drop_length,hl,List.drop_length,← hl,zaE he]
   simp
  | succ n ih =>
   intro k h1 h2
   have ha:k<a.length:=by omega
   have hb:k<b.length:=by omega
   have e:=hs k a[k] b[k] (List.getElem?_eq_getElem ha) (List.getElem?_eq_getElem hb)
   rw [List.drop_eq_getElem_cons ha,List.drop_eq_getElem_cons hb]
   by_cases hx:a[k]=b[k]
   ·rw [if_pos hx] at e
    rw [zbs e]
    have:=ih (k+1) (by omega) (by omega)
    rw [show ((k+1:Nat):Int)=(k:Int)+1 by omega] at this
    rw [this,hx]
    simp only [List.cons.injEq,true_and]
   ·rw [if_neg hx] at e
    rw [zaE e,if_neg (fun e=>hx (List.cons.inj e).1)]
 exact main a.length 0 (by omega) (by omega)
theorem zfR{α β:Type}{a:List α}{b:List β}:(((a.length:Int) != (b.length:Int))=true) ↔ a.length≠b.length:=by
 simp; omega
theorem zh3(a b:List ByteArray)(ha:a.length<=1000000):zbx a b=some (decide (a=b)):=by
 unfold zbx
 by_cases hl:a.length=b.length
 ·rw [if_neg (by rw [zfR]; simpa using hl),zfu a b hl _ (fun i x y hx hy=>?_) ?_]
  ·by_cases e:a=b <;> simp [e,zbQ]
  ·simp only [za6]
   rw [if_neg (by simp)]
  ·simp only [za6]
   rw [if_pos (zhH hx),if_pos (zcS hx),if_pos (zcS hy),zcq hx,zcq hy,wi (by have:=(List.getElem?_eq_some_iff.1 hx).1; omega)]
   by_cases e:x=y <;> simp [e]
 ·rw [if_pos (zfR.2 hl)]
  have:a≠b:=fun e=>hl (by rw [e])
  simp [this]
theorem ziH(a b:List Int)(ha:a.length<=1000000):zbB a b=some (decide (a=b)):=by
 unfold zbB
 by_cases hl:a.length=b.length
 ·rw [if_neg (by rw [zfR]; simpa using hl),zfu a b hl _ (fun i x y hx hy=>?_) ?_]
  ·by_cases e:a=b <;> simp [e,zbQ]
  ·simp only [zbd]
   rw [if_neg (by simp)]
  ·simp only [zbd]
   rw [if_pos (zhH hx),if_pos (zcS hx),if_pos (zcS hy),zcq hx,zcq hy,wi (by have:=(List.getElem?_eq_some_iff.1 hx).1; omega)]
   by_cases e:x=y <;> simp [e]
 ·rw [if_pos (zfR.2 hl)]
  have:a≠b:=fun e=>hl (by rw [e])
  simp [this]
theorem zjQ(x y:zaj)(hx:x.zLb.length<=1000000):zbK x y=some (decide (x=y)):=by
 unfold zbK
 rw [zh3 _ _ hx]
 obtain ⟨op,lk,cd,⟨a1,a2,a3,a4⟩,⟨b1,b2,b3,b4⟩,to,lb⟩:=x
 obtain ⟨op',lk',cd',⟨a1',a2',a3',a4'⟩,⟨b1',b2',b3',b4'⟩,to',lb'⟩:=y
 simp only [zaj.mk.injEq,zau.mk.injEq]
 by_cases h1:op=op' <;> by_cases h2:lk=lk' <;> by_cases h3:cd=cd' <;> by_cases h4:a1=a1' <;> by_cases h5:a2=a2' <;> by_cases h6:a3=a3' <;> simp [h1,h2,h3,h4,h5,h6]
 by_cases h7:a4=a4' <;> by_cases h8:b1=b1' <;> by_cases h9:b2=b2' <;> by_cases h10:b3=b3' <;> by_cases h11:b4=b4' <;> by_cases h12:to=to' <;> simp [h7,h8,h9,h10,h11,h12]
theorem ziG(p q:zaw)(hs:p.zSy.length<=1000000)(ht:p.zTh.length<=1000000)(hi:∀s∈p.zSy,s.Init.length<=1000000)(hn:∀t∈p.zTh,t.Ins.length<=1000000/\∀x∈t.Ins,x.zLb.length<=1000000) :
  zbm p q=some (decide (p=q)):=by
 obtain ⟨ps,pt⟩:=p
 obtain ⟨qs,qt⟩:=q
 unfold zbm
 simp only [Option.bind_some] at *
 simp only [zaw.mk.injEq]
 by_cases h1:ps.length=qs.length
 rotate_left
 ·have e1:((ps.length:Int) != (qs.length:Int))=true:=zfR.2 h1
  rw [e1]
  have:ps≠qs:=fun e=>h1 (by rw [e])
  simp [this]
 by_cases h2:pt.length=qt.length
 rotate_left
 ·have e1:((pt.length:Int) != (qt.length:Int))=true:=zfR.2 h2
  rw [e1]
  have:pt≠qt:=fun e=>h2 (by rw [e])
  simp [this]
 have e1:((ps.length:Int) != (qs.length:Int))=false:=by simp [h1]
 have e2:((pt.length:Int) != (qt.length:Int))=false:=by simp [h2]
 rw [e1,e2]
 simp only [Bool.or_self,Bool.false_eq_true,if_false]
 rw [zfu ps qs h1 _ (fun i x y hx hy=>?_) ?_]
 ·by_cases es:ps=qs
  rotate_left
  ·simp [es,zbQ]
  simp only [es,if_true,zbQ,true_and]
  rw [zfu pt qt h2 _ (fun i x y hx hy=>?_) ?_]
  ·by_cases et:pt=qt <;> simp [et,zbQ]
  ·simp only [zbf]
   rw [if_neg (by simp)]
  ·have hxn:=hn x (List.mem_of_getElem? hx)
   simp only [zbf]
   rw [if_pos (zhH hx),if_pos (zcS hx),if_pos (zcS hy),zcq hx,zcq hy]
   by_cases hl:x.Ins.length=y.Ins.length
   ·rw [if_neg (by rw [zfR]; simpa using hl),zfu x.Ins y.Ins hl _ (fun k u v hu hv=>?_) ?_]
    ·obtain ⟨xi⟩:=x
     obtain ⟨yi⟩:=y
     simp only [zak.mk.injEq,Option.bind_some]
     rw [wi (by have:=(List.getElem?_eq_some_iff.1 hx).1; omega)]
     by_cases e:xi=yi <;> simp [e,zbQ]
    ·simp only [zbe]
     rw [zcq hx,if_neg (by simp)]
    ·have hun:=hxn.2 u (List.mem_of_getElem? hu)
     simp only [zbe]
     rw [zcq hx,zcq hy,if_pos (zhH hu),if_pos (zcS hu),if_pos (zcS hv),zcq hu,zcq hv,zjQ _ _ hun]
     simp only [Option.bind_some]
     rw [wi (by have:=(List.getElem?_eq_some_iff.1 hu).1; omega)]
     by_cases e:u=v <;> simp [e]
   ·rw [if_pos (zfR.2 hl)]
    have:x≠y:=fun e=>hl (by rw [e])
    simp [this]
 ·simp only [zbg]
  rw [if_neg (by simp)]
 ·have hxn:=hi x (List.mem_of_getElem? hx)
  simp only [zbg]
  rw [if_pos (zhH hx),if_pos (zcS hx),if_pos (zcS hy)]
  simp only [zcq hx,zcq hy,zcS hx,zcS hy,implies_true,if_true]
  rw [ziH _ _ hxn,wi (by have:=(List.getElem?_eq_some_iff.1 hx).1; omega)]
  obtain ⟨n1,z1,i1⟩:=x
  obtain ⟨n2,z2,i2⟩:=y
  simp only [zar.mk.injEq]
  by_cases q1:n1=n2 <;> by_cases q2:z1=z2 <;> by_cases q3:i1=i2 <;> simp [q1,q2,q3]
end Go.Vs
end
section
namespace Go.Vs
local instance tabPalP1:Tab:=⟨fun _=>none⟩
def flt(c:Int)(t:zab):zag:=⟨c,t.Line,t.Col⟩
structure zcb (T:List zab):Prop where
 len:T.length<=100000
 name:∀t∈T,t.Kind=1->t.Text≠⟨#[]⟩
 next:∀(i:Nat),i<T.length->(rd T (i:Int)).Kind≠4->i+1<T.length
 txt:∀t∈T,t.Text.size<=1000000
abbrev tk(T:List zab)(i:Nat):zab:=rd T (i:Int)
theorem zba{α:Type}{T:List α}{i:Nat}(h:i<T.length):InB (i:Int) T.length:=⟨by omega,by simpa using h⟩
theorem zcb.size{T:List zab}(h:zcb T){i:Nat}(hi:i<T.length):(tk T i).Text.size<=1000000:=by
 have:tk T i=T[i]:=zcq (List.getElem?_eq_getElem hi)
 rw [this]; exact h.txt _ (List.getElem_mem hi)
theorem zcb.read{T:List zab}(h:zcb T){i:Nat}(hi:i<T.length):zcs (tk T i).Text=some (zbH (tk T i).Text):=zkP (by have:=h.size hi; omega)
theorem w1{i:Nat}(h:i<=2000010):IntKind.wrap .i64 ((i:Int)+1)=((i+1:Nat):Int):=by rw [zbP ⟨by omega,by omega⟩]; omega
theorem w2{i:Nat}(h:i<=2000010):IntKind.wrap .i64 ((i:Int)+2)=((i+2:Nat):Int):=by rw [zbP ⟨by omega,by omega⟩]; omega
theorem w3{i:Nat}(h:i<=2000010):IntKind.wrap .i64 ((i:Int)+3)=((i+3:Nat):Int):=by rw [zbP ⟨by omega,by omega⟩]; omega
def zem(syms:List zar):List ByteArray:=syms.map (·.Name)
theorem zgA(R:zaa)(s:ByteArray)(hn:R.p.zSy.length<=1000000):zbk R s=some (match fnd (zem R.p.zSy) s with | some i=>((i:Int),true,R) | none=>(0,false,R)):=by
 unfold zbk
 have hl:(zem R.p.zSy).length=R.p.zSy.length:=by simp [zem]
 rw [zfr (zem R.p.zSy) s (by omega) (fun i=>(i,true,R)) _ (fun i=>?_)]
 ·cases fnd (zem R.p.zSy) s <;> rfl
 ·simp only [zbE,hl]
  by_cases h:InB i R.p.zSy.length
  ·have e:rd (zem R.p.zSy) i=(rd R.p.zSy i).Name:=by
    unfold zem rd
    rw [List.getD_eq_getElem?_getD,List.getD_eq_getElem?_getD,List.getElem?_map,List.getElem?_eq_getElem h.2]; rfl
   rw [e]
  ·simp [h]
theorem znn(R:zaa)(s:ByteArray)(hn:R.p.zSy.length<=1000000):zcf R s=some (match fnd (zem R.p.zSy) s with | some i=>((i:Int),true,R) | none=>(0,false,R)):=zgA R s hn
def sgB(T:List zab)(i:Nat)(s:ByteArray):Bool:=((tk T i).Kind==3)&&decide ((tk T i).Text=s)
theorem zkt(R:zaa)(i:Nat)(s:ByteArray)(h:i<R.l.length):zaD R (i:Int) s=some (sgB R.l i s,R):=by
 unfold zaD
 rw [if_pos (zba h),if_pos (fun _=>zba h)]; rfl
theorem zdH{l:List zab}{a:Int}{p:zaw}{b:List zan}{f:zag}(i:Nat)(s:ByteArray)(h:i<l.length):zaD ⟨l,a,p,b,f⟩ (i:Int) s=some (sgB l i s,⟨l,a,p,b,f⟩):=zkt ⟨l,a,p,b,f⟩ i s h
end Go.Vs
end
section
namespace Go.Vs
local instance tabPalP2:Tab:=⟨fun _=>none⟩
abbrev Res(α:Type):=zag ⊕ (α × Nat)
def idxP(T:List zab)(syms:List zar)(k i:Nat):Res zau :=
 if (tk T i).Kind==2 then
  (if decide ((zbH (tk T i).Text).1<0)||decide ((zbH (tk T i).Text).1≥(rd syms (k:Int)).Size) then .inl (flt 8 (tk T i)) else .inr (⟨3,0,k,(zbH (tk T i).Text).1⟩,i+1))
 else match fnd zeW (tk T i).Text with
  | some r=>if (tk T i).Kind==1 then .inr (⟨4,r,k,0⟩,i+1) else .inl (flt 4 (tk T i))
  | none=>.inl (flt 4 (tk T i))
def opdP(T:List zab)(syms:List zar)(i:Nat):Res zau :=
 if (tk T i).Kind==2 then .inr (⟨2,0,0,(zbH (tk T i).Text).1⟩,i+1)
 else if (tk T i).Kind != 1 then .inl (flt 4 (tk T i))
 else match fnd zeW (tk T i).Text with
  | some r=>.inr (⟨1,r,0,0⟩,i+1)
  | none=>if zeh (tk T i).Text then .inl (flt 3 (tk T i)) else match fnd (zem syms) (tk T i).Text with
   | none=>.inl (flt 7 (tk T i))
   | some k=>if !sgB T (i+1) ⟨#[91]⟩ then .inl (flt 4 (tk T (i+1))) else match idxP T syms k (i+2) with
    | .inl f=>.inl f
    | .inr (o,j)=>if !sgB T j ⟨#[93]⟩ then .inl (flt 4 (tk T j)) else .inr (o,j+1)
theorem zjm{syms:List zar}{s:ByteArray}{k:Nat}(h:fnd (zem syms) s=some k):k<syms.length:=by
 have:=(zix h).1
 simpa [zem] using this
theorem zcO{T:List zab}{i:Nat}{n:Int}(h:((tk T i).Kind==n)=true)(hn:n≠4):(rd T (i:Int)).Kind≠4:=by
 have h':(rd T (i:Int)).Kind=n:=by simpa using h
 omega
theorem zdw{T:List zab}{i:Nat}{s:ByteArray}(h:sgB T i s=true):(tk T i).Kind≠4:=by
 unfold sgB at h
 simp only [Bool.and_eq_true,beq_iff_eq] at h
 omega
theorem zgy{T syms k i o j}(hT:zcb T)(hi:i<T.length)(h:idxP T syms k i=.inr (o,j)):j=i+1/\j<T.length:=by
 unfold idxP at h
 split at h
 ·rename_i h2
  split at h
  ·cases h
  ·cases h
   exact ⟨rfl,hT.next i hi (zcO h2 (by decide))⟩
 ·split at h
  ·split at h
   ·rename_i h1
    cases h
    exact ⟨rfl,hT.next i hi (zcO h1 (by decide))⟩
   ·cases h
  ·cases h
theorem zgs{T syms i o j}(hT:zcb T)(hi:i<T.length)(h:opdP T syms i=.inr (o,j)):i<j/\j<T.length:=by
 unfold opdP at h
 split at h
 ·rename_i h2
  cases h
  exact ⟨by omega,hT.next i hi (zcO h2 (by decide))⟩
 ·split at h
  ·cases h
  ·rename_i h1
   have hn:i+1<T.length:=hT.next i hi (zcO (n:=1) (by simpa using h1) (by decide))
   split at h
   ·cases h; exact ⟨by omega,hn⟩
   ·split at h
    ·cases h
    ·split at h
     ·cases h
     ·split at h
      ·cases h
      ·rename_i hs
       have hs':sgB T (i+1) ⟨#[91]⟩=true:=by simpa using hs
       have hn2:i+2<T.length:=hT.next (i+1) hn (zdw hs')
       split at h
       ·cases h
       ·rename_i o' j' hx
        obtain ⟨e,hj⟩:=zgy hT hn2 hx
        split at h
        ·cases h
        ·rename_i hs2
         cases h
         exact ⟨by omega,hT.next j' hj (zdw (by simpa using hs2))⟩
def zlB(R:zaa)(ok:Bool)(R':zaa)(q:zag ⊕ Nat):Prop:=match q with
 | .inl f=>ok=false/\R'.f=f
 | .inr j=>ok=true/\R'=⟨R.l,(j:Int),R.p,R.b,R.f⟩
def pos{α:Type}:Res α->zag ⊕ Nat
 | .inl f=>.inl f
 | .inr (_,j)=>.inr j
theorem zlc(R:zaa)(x:zaj){i k:Nat}(hT:zcb R.l)(hi:i<R.l.length)(hk:k<R.p.zSy.length)(ha:R.at_=(i:Int)) :
  ∃ok R' x',zbr R (k:Int) x=some (ok,R',x')/\zlB R ok R' (pos (idxP R.l R.p.zSy k i))/\∀o j,idxP R.l R.p.zSy k i=.inr (o,j)->x'=⟨x.Op,x.Lock,x.Cond,o,x.B,x.To,x.zLb⟩:=by
 have hl:=hT.len
 unfold zbr idxP
 rw [ha,if_pos (zba hi),hT.read hi,zcz]
 simp only [Option.bind_some]
 by_cases h2:((tk R.l i).Kind==2)=true
 ·rw [if_pos h2,if_pos h2,if_pos (fun _=>zba hk)]
  split
  ·exact ⟨_,_,_,rfl,⟨rfl,rfl⟩,fun o j e=>by cases e⟩
  ·exact ⟨_,_,_,rfl,⟨rfl,by rw [w1 (by omega)]⟩,fun o j e=>by cases e; rfl⟩
 ·rw [if_neg h2,if_neg h2]
  cases hr:fnd zeW (tk R.l i).Text with
  | none =>
   simp only [Bool.not_false,Bool.or_true,if_true]
   exact ⟨_,_,_,rfl,⟨rfl,rfl⟩,fun o j e=>by cases e⟩
  | some r =>
   by_cases h1:(tk R.l i).Kind=1
   ·simp only [h1,bne_self_eq_false,Bool.not_true,Bool.or_self,Bool.false_eq_true,if_false,beq_self_eq_true,if_true]
    exact ⟨_,_,_,rfl,⟨rfl,by rw [w1 (by omega)]⟩,fun o j e=>by cases e; rfl⟩
   ·have e1:((tk R.l i).Kind != 1)=true:=by simpa using h1
    have e2:((tk R.l i).Kind==1)=false:=by simpa using h1
    simp only [e1,e2,Bool.true_or,if_true,Bool.false_eq_true,if_false]
    exact ⟨_,_,_,rfl,⟨rfl,rfl⟩,fun o j e=>by cases e⟩
theorem zlb(R:zaa)(x:zaj){i k:Nat}(hT:zcb R.l)(hi:i<R.l.length)(hk:k<R.p.zSy.length)(ha:R.at_=(i:Int)) :
  ∃ok R' x',zbq R (k:Int) x=some (ok,R',x')/\zlB R ok R' (pos (idxP R.l R.p.zSy k i))/\∀o j,idxP R.l R.p.zSy k i=.inr (o,j)->x'=⟨x.Op,x.Lock,x.Cond,x.A,o,x.To,x.zLb⟩:=by
 have hl:=hT.len
 unfold zbq idxP
 rw [ha,if_pos (zba hi),hT.read hi,zcz]
 simp only [Option.bind_some]
 by_cases h2:((tk R.l i).Kind==2)=true
 ·rw [if_pos h2,if_pos h2,if_pos (fun _=>zba hk)]
  split
  ·exact ⟨_,_,_,rfl,⟨rfl,rfl⟩,fun o j e=>by cases e⟩
  ·exact ⟨_,_,_,rfl,⟨rfl,by rw [w1 (by omega)]⟩,fun o j e=>by cases e; rfl⟩
 ·rw [if_neg h2,if_neg h2]
  cases hr:fnd zeW (tk R.l i).Text with
  | none =>
   simp only [Bool.not_false,Bool.or_true,if_true]
   exact ⟨_,_,_,rfl,⟨rfl,rfl⟩,fun o j e=>by cases e⟩
  | some r =>
   by_cases h1:(tk R.l i).Kind=1
   ·simp only [h1,bne_self_eq_false,Bool.not_true,Bool.or_self,Bool.false_eq_true,if_false,beq_self_eq_true,if_true]
    exact ⟨_,_,_,rfl,⟨rfl,by rw [w1 (by omega)]⟩,fun o j e=>by cases e; rfl⟩
   ·have e1:((tk R.l i).Kind != 1)=true:=by simpa using h1
    have e2:((tk R.l i).Kind==1)=false:=by simpa using h1
    simp only [e1,e2,Bool.true_or,if_true,Bool.false_eq_true,if_false]
    exact ⟨_,_,_,rfl,⟨rfl,rfl⟩,fun o j e=>by cases e⟩
end Go.Vs
end
section
namespace Go.Vs
local instance tabPalP3:Tab:=⟨fun _=>none⟩
theorem zk9(R:zaa)(x:zaj){i:Nat}(hT:zcb R.l)(hi:i<R.l.length)(hs:R.p.zSy.length<=64)(ha:R.at_=(i:Int)) :
  ∃ok R' x',za4 R x=some (ok,R',x')/\zlB R ok R' (pos (opdP R.l R.p.zSy i))/\∀o j,opdP R.l R.p.zSy i=.inr (o,j)->x'=⟨x.Op,x.Lock,x.Cond,o,x.B,x.To,x.zLb⟩:=by
 have hl:=hT.len
 unfold za4 opdP
 rw [ha,if_pos (zba hi),hT.read hi,zcz,zci]
 simp only [Option.bind_some]
 by_cases h2:((tk R.l i).Kind==2)=true
 ·rw [if_pos h2,if_pos h2]
  exact ⟨_,_,_,rfl,⟨rfl,by rw [w1 (by omega)]⟩,fun o j e=>by cases e; rfl⟩
 rw [if_neg h2,if_neg h2]
 by_cases h1:((tk R.l i).Kind != 1)=true
 ·rw [if_pos h1,if_pos h1]
  exact ⟨_,_,_,rfl,⟨rfl,rfl⟩,fun o j e=>by cases e⟩
 rw [if_neg h1,if_neg h1]
 have hn:i+1<R.l.length:=hT.next i hi (zcO (n:=1) (by simpa using h1) (by decide))
 cases hr:fnd zeW (tk R.l i).Text with
 | some r =>
  simp only [if_true]
  exact ⟨_,_,_,rfl,⟨rfl,by rw [w1 (by omega)]⟩,fun o j e=>by cases e; rfl⟩
 | none =>
  simp only [Bool.false_eq_true,if_false]
  cases hw:zeh (tk R.l i).Text with
  | true =>
   simp only [if_true]
   exact ⟨_,_,_,rfl,⟨rfl,rfl⟩,fun o j e=>by cases e⟩
  | false =>
   simp only [Bool.false_eq_true,if_false]
   rw [zgA _ _ (by show R.p.zSy.length<=_; omega)]
   simp only [Option.bind_some]
   cases hf:fnd (zem R.p.zSy) (tk R.l i).Text with
   | none =>
    simp only [Bool.not_false,if_true]
    exact ⟨_,_,_,rfl,⟨rfl,rfl⟩,fun o j e=>by cases e⟩
   | some k =>
    simp only [Bool.not_true,Bool.false_eq_true,if_false,w1 (show i<=2000010 by omega)]
    rw [zdH (i+1) _ hn]
    simp only [Option.bind_some]
    cases hg:sgB R.l (i+1) ⟨#[91]⟩ with
    | false =>
     simp only [Bool.not_false,if_true]
     rw [if_pos (zba hn)]
     exact ⟨_,_,_,rfl,⟨rfl,rfl⟩,fun o j e=>by cases e⟩
    | true =>
     have hn2:i+2<R.l.length:=hT.next (i+1) hn (zdw hg)
     simp only [Bool.not_true,Bool.false_eq_true,if_false]
     have hw2:IntKind.wrap .i64 (((i+1:Nat):Int)+1)=((i+2:Nat):Int):=w1 (by omega)
     rw [hw2]
     obtain ⟨ok,R',x',e1,e2,e3⟩:=zlc ⟨R.l,((i+2:Nat):Int),R.p,R.b,R.f⟩ x hT hn2 (zjm hf) rfl
     rw [e1]
     simp only [Option.bind_some]
     cases hx:idxP R.l R.p.zSy k (i+2) with
     | inl f =>
      rw [show pos (idxP R.l R.p.zSy k (i+2))=.inl f by rw [hx]; rfl] at e2
      obtain ⟨rfl,e4⟩:=e2
      simp only [Bool.not_false,if_true]
      exact ⟨_,_,_,rfl,⟨rfl,e4⟩,fun o j e=>by cases e⟩
     | inr q =>
      obtain ⟨o,j⟩:=q
      rw [show pos (idxP R.l R.p.zSy k (i+2))=.inr j by rw [hx]; rfl] at e2
      obtain ⟨rfl,rfl⟩:=e2
      obtain ⟨_,hj⟩:=zgy hT hn2 hx
      have e5:=e3 o j hx
      subst e5
      simp only [Bool.not_true,Bool.false_eq_true,if_false]
      rw [zdH j _ hj]
      simp only [Option.bind_some]
      cases hg2:sgB R.l j ⟨#[93]⟩ with
      | false =>
       simp only [Bool.not_false,if_true]
       rw [if_pos (zba hj)]
       exact ⟨_,_,_,rfl,⟨rfl,rfl⟩,fun o j e=>by cases e⟩
      | true =>
       simp only [Bool.not_true,Bool.false_eq_true,if_false]
       exact ⟨_,_,_,rfl,⟨rfl,by rw [w1 (by omega)]⟩,fun o' j' e=>by cases e; rfl⟩
theorem zk8(R:zaa)(x:zaj){i:Nat}(hT:zcb R.l)(hi:i<R.l.length)(hs:R.p.zSy.length<=64)(ha:R.at_=(i:Int)) :
  ∃ok R' x',za3 R x=some (ok,R',x')/\zlB R ok R' (pos (opdP R.l R.p.zSy i))/\∀o j,opdP R.l R.p.zSy i=.inr (o,j)->x'=⟨x.Op,x.Lock,x.Cond,x.A,o,x.To,x.zLb⟩:=by
 have hl:=hT.len
 unfold za3 opdP
 rw [ha,if_pos (zba hi),hT.read hi,zcz,zci]
 simp only [Option.bind_some]
 by_cases h2:((tk R.l i).Kind==2)=true
 ·rw [if_pos h2,if_pos h2]
  exact ⟨_,_,_,rfl,⟨rfl,by rw [w1 (by omega)]⟩,fun o j e=>by cases e; rfl⟩
 rw [if_neg h2,if_neg h2]
 by_cases h1:((tk R.l i).Kind != 1)=true
 ·rw [if_pos h1,if_pos h1]
  exact ⟨_,_,_,rfl,⟨rfl,rfl⟩,fun o j e=>by cases e⟩
 rw [if_neg h1,if_neg h1]
 have hn:i+1<R.l.length:=hT.next i hi (zcO (n:=1) (by simpa using h1) (by decide))
 cases hr:fnd zeW (tk R.l i).Text with
 | some r =>
  simp only [if_true]
  exact ⟨_,_,_,rfl,⟨rfl,by rw [w1 (by omega)]⟩,fun o j e=>by cases e; rfl⟩
 | none =>
  simp only [Bool.false_eq_true,if_false]
  cases hw:zeh (tk R.l i).Text with
  | true =>
   simp only [if_true]
   exact ⟨_,_,_,rfl,⟨rfl,rfl⟩,fun o j e=>by cases e⟩
  | false =>
   simp only [Bool.false_eq_true,if_false]
   rw [zgA _ _ (by show R.p.zSy.length<=_; omega)]
   simp only [Option.bind_some]
   cases hf:fnd (zem R.p.zSy) (tk R.l i).Text with
   | none =>
    simp only [Bool.not_false,if_true]
    exact ⟨_,_,_,rfl,⟨rfl,rfl⟩,fun o j e=>by cases e⟩
   | some k =>
    simp only [Bool.not_true,Bool.false_eq_true,if_false,w1 (show i<=2000010 by omega)]
    rw [zdH (i+1) _ hn]
    simp only [Option.bind_some]
    cases hg:sgB R.l (i+1) ⟨#[91]⟩ with
    | false =>
     simp only [Bool.not_false,if_true]
     rw [if_pos (zba hn)]
     exact ⟨_,_,_,rfl,⟨rfl,rfl⟩,fun o j e=>by cases e⟩
    | true =>
     have hn2:i+2<R.l.length:=hT.next (i+1) hn (zdw hg)
     simp only [Bool.not_true,Bool.false_eq_true,if_false]
     have hw2:IntKind.wrap .i64 (((i+1:Nat):Int)+1)=((i+2:Nat):Int):=w1 (by omega)
     rw [hw2]
     obtain ⟨ok,R',x',e1,e2,e3⟩:=zlb ⟨R.l,((i+2:Nat):Int),R.p,R.b,R.f⟩ x hT hn2 (zjm hf) rfl
     rw [e1]
     simp only [Option.bind_some]
     cases hx:idxP R.l R.p.zSy k (i+2) with
     | inl f =>
      rw [show pos (idxP R.l R.p.zSy k (i+2))=.inl f by rw [hx]; rfl] at e2
      obtain ⟨rfl,e4⟩:=e2
      simp only [Bool.not_false,if_true]
      exact ⟨_,_,_,rfl,⟨rfl,e4⟩,fun o j e=>by cases e⟩
     | inr q =>
      obtain ⟨o,j⟩:=q
      rw [show pos (idxP R.l R.p.zSy k (i+2))=.inr j by rw [hx]; rfl] at e2
      obtain ⟨rfl,rfl⟩:=e2
      obtain ⟨_,hj⟩:=zgy hT hn2 hx
      have e5:=e3 o j hx
      subst e5
      simp only [Bool.not_true,Bool.false_eq_true,if_false]
      rw [zdH j _ hj]
      simp only [Option.bind_some]
      cases hg2:sgB R.l j ⟨#[93]⟩ with
      | false =>
       simp only [Bool.not_false,if_true]
       rw [if_pos (zba hj)]
       exact ⟨_,_,_,rfl,⟨rfl,rfl⟩,fun o j e=>by cases e⟩
      | true =>
       simp only [Bool.not_true,Bool.false_eq_true,if_false]
       exact ⟨_,_,_,rfl,⟨rfl,by rw [w1 (by omega)]⟩,fun o' j' e=>by cases e; rfl⟩
end Go.Vs
end
section
namespace Go.Vs
local instance tabPalP4:Tab:=⟨fun _=>none⟩
def nameP(T:List zab)(i:Nat):Option zag:=if (tk T i).Kind != 1 then some (flt 4 (tk T i)) else if zeh (tk T i).Text then some (flt 3 (tk T i)) else none
end Go.Vs
end
section
namespace Go.Vs
local instance tabPalP5:Tab:=⟨fun _=>none⟩
def row0(op:Int)(lk:Bool)(a b:zau):Bool:=rowB ⟨op,lk,0,a,b,⟨#[]⟩,[]⟩
theorem zm4(x:zaj):rowB x=row0 x.Op x.Lock x.A x.B:=rfl
def zhT(op:Int)(lk:Bool)(a:zau):Bool:=(a.Kind==2)||((a.Kind==1)&&(lk||(op==8)))
def opsP(T:List zab)(syms:List zar)(op:Int)(lk:Bool)(i:Nat):Res (zau × zau) :=
 match opdP T syms i with
 | .inl f=>.inl f
 | .inr (a,j)=>if zhT op lk a then .inl (flt 4 (tk T i)) else if !sgB T j ⟨#[44]⟩ then .inl (flt 4 (tk T j)) else match opdP T syms (j+1) with
  | .inl f=>.inl f
  | .inr (b,k)=>if !row0 op lk a b then .inl (flt 4 (tk T (j+1))) else .inr ((a,b),k)
theorem zkL{T syms op lk i ab k}(hT:zcb T)(hi:i<T.length)(h:opsP T syms op lk i=.inr (ab,k)):i<k/\k<T.length:=by
 unfold opsP at h
 split at h
 ·cases h
 ·rename_i a j h1
  obtain ⟨e1,e2⟩:=zgs hT hi h1
  split at h
  ·cases h
  split at h
  ·cases h
  ·rename_i hs
   have hn:j+1<T.length:=hT.next j e2 (zdw (by simpa using hs))
   split at h
   ·cases h
   ·rename_i b k' h2
    obtain ⟨e3,e4⟩:=zgs hT hn h2
    split at h
    ·cases h
    ·cases h; exact ⟨by omega,e4⟩
theorem zme{x:zaj}(h1:1<=x.Op)(h2:x.Op<=9)(hc:x.Cond=0)(ht:x.To=⟨#[]⟩):(insN x != 0)=!rowB x:=by
 unfold insN zj3 zlu zk1
 have e1:(x.Op==11)=false:=by simp; omega
 have e2:(x.Op==10)=false:=by simp; omega
 have e3:decide (x.Op≥1)=true:=by simp; omega
 have e4:decide (x.Op<=14)=true:=by simp; omega
 rw [e1,e2,e3,e4,hc,ht]
 cases rowB x <;> simp
theorem zi1(k op:Int)(lk:Bool):((k==2)||((k==1)&&(!(((k==1)&&(!lk))&&(op != 8)))))=((k==2)||((k==1)&&(lk||(op==8)))):=by
 cases h:(k==1) <;> cases lk <;> cases h2:(op==8) <;> simp [bne,h2]
theorem zmf(R:zaa)(x:zaj){i:Nat}(hT:zcb R.l)(hi:i<R.l.length)(hs:R.p.zSy.length<=64)(ha:R.at_=(i:Int))(h1:1<=x.Op)(h2:x.Op<=9)(hc:x.Cond=0)(ht:x.To=⟨#[]⟩) :
  ∃ok R' x',zaQ R x=some (x',ok,R')/\zlB R ok R' (pos (opsP R.l R.p.zSy x.Op x.Lock i))/\∀a b j,opsP R.l R.p.zSy x.Op x.Lock i=.inr ((a,b),j)->x'=⟨x.Op,x.Lock,x.Cond,a,b,x.To,x.zLb⟩:=by
 have hl:=hT.len
 unfold zaQ opsP
 rw [ha,if_pos (zba hi)]
 obtain ⟨ok,R',x',e1,e2,e3⟩:=zk9 ⟨R.l,(i:Int),R.p,R.b,R.f⟩ x hT hi hs rfl
 rw [e1]
 simp only [Option.bind_some]
 cases hx:opdP R.l R.p.zSy i with
 | inl f =>
  rw [show pos (opdP R.l R.p.zSy i)=.inl f by rw [hx]; rfl] at e2
  obtain ⟨rfl,e4⟩:=e2
  simp only [Bool.not_false,if_true]
  exact ⟨_,_,_,rfl,⟨rfl,e4⟩,fun a b j e=>by cases e⟩
 | inr q =>
  obtain ⟨a,j⟩:=q
  rw [show pos (opdP R.l R.p.zSy i)=.inr j by rw [hx]; rfl] at e2
  obtain ⟨rfl,rfl⟩:=e2
  obtain ⟨_,hj⟩:=zgs hT hi hx
  have e5:=e3 a j hx
  subst e5
  simp only [Bool.not_true,Bool.false_eq_true,if_false,zi1]
  cases hb:zhT x.Op x.Lock a with
  | true =>
   have hb':((a.Kind==2)||((a.Kind==1)&&(x.Lock||(x.Op==8))))=true:=hb
   rw [if_pos hb']
   exact ⟨_,_,_,rfl,⟨rfl,rfl⟩,fun a b j e=>by cases e⟩
  | false =>
   have hb':((a.Kind==2)||((a.Kind==1)&&(x.Lock||(x.Op==8))))=false:=hb
   rw [if_neg (by rw [hb']; decide),zdH j _ hj]
   simp only [Option.bind_some,Bool.false_eq_true,if_false]
   cases hg:sgB R.l j ⟨#[44]⟩ with
   | false =>
    simp only [Bool.not_false,if_true]
    rw [if_pos (zba hj)]
    exact ⟨_,_,_,rfl,⟨rfl,rfl⟩,fun a b j e=>by cases e⟩
   | true =>
    have hn:j+1<R.l.length:=hT.next j hj (zdw hg)
    simp only [Bool.not_true,Bool.false_eq_true,if_false,w1 (show j<=2000010 by omega)]
    rw [if_pos (zba hn)]
    obtain ⟨ok2,R2,x2,k1,k2,k3⟩:=zk8 ⟨R.l,((j+1:Nat):Int),R.p,R.b,R.f⟩ ⟨x.Op,x.Lock,x.Cond,a,x.B,x.To,x.zLb⟩ hT hn hs rfl
    rw [k1]
    simp only [Option.bind_some]
    cases hy:opdP R.l R.p.zSy (j+1) with
    | inl f =>
     rw [show pos (opdP R.l R.p.zSy (j+1))=.inl f by rw [hy]; rfl] at k2
     obtain ⟨rfl,e4⟩:=k2
     simp only [Bool.not_false,if_true]
     exact ⟨_,_,_,rfl,⟨rfl,e4⟩,fun a b j e=>by cases e⟩
    | inr q =>
     obtain ⟨b,k⟩:=q
     rw [show pos (opdP R.l R.p.zSy (j+1))=.inr k by rw [hy]; rfl] at k2
     obtain ⟨rfl,rfl⟩:=k2
     have e6:=k3 b k hy
     subst e6
     simp only [Bool.not_true,Bool.false_eq_true,if_false]
     rw [zit _ (by show x.To.size<=1000000; rw [ht]; decide)]
     simp only [Option.bind_some]
     rw [zme (x:=⟨x.Op,x.Lock,x.Cond,a,b,x.To,x.zLb⟩) h1 h2 hc ht,zm4]
     cases hr:row0 x.Op x.Lock a b with
     | false =>
      simp only [Bool.not_false,if_true]
      exact ⟨_,_,_,rfl,⟨rfl,rfl⟩,fun a b j e=>by cases e⟩
     | true =>
      simp only [Bool.not_true,Bool.false_eq_true,if_false]
      exact ⟨_,_,_,rfl,⟨rfl,rfl⟩,fun a b j e=>by cases e; rfl⟩
end Go.Vs
end
