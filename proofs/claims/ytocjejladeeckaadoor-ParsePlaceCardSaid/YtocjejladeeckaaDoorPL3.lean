import Derived.Test.YtocjejladeeckaaDoorPP4
import Derived.Test.YtocjejladeeckaaDoorPP5
import Derived.Test.YtocjejladeeckaaDoorPL1
import Derived.Test.YtocjejladeeckaaDoorPalS
import Derived.Test.YtocjejladeeckaaDoorPP1
set_option linter.all false
section
namespace Go.Vs
local instance tabPalV1:Tab:=⟨fun _=>none⟩
structure RwT (T T':List zab):Prop where
 ok:zcb T
 len:T'.length=T.length
 kind:∀i:Nat,(tk T' i).Kind=(tk T i).Kind
 text:∀i:Nat,(tk T' i).Text=(tk T i).Text
def TkR(T T':List zab)(t t':zab):Prop:=∃i,i<T.length/\t=tk T i/\t'=tk T' i
def FltR(T T':List zab)(f f':zag):Prop:=∃c t t',c≠0/\TkR T T' t t'/\f=flt c t/\f'=flt c t'
def ResR(T T':List zab){α:Type}(q q':Res α):Prop:=match q,q' with
 | .inl f,.inl f'=>FltR T T' f f'
 | .inr x,.inr y=>y=x/\x.2<T.length
 | _,_=>False
def LabR(T T':List zab){α:Type}(q q':zag ⊕ (Nat × α)):Prop:=match q,q' with
 | .inl f,.inl f'=>FltR T T' f f'
 | .inr x,.inr y=>y=x/\x.1<T.length
 | _,_=>False
def InR(T T':List zab)(q q':Res (zaj × zab)):Prop:=match q,q' with
 | .inl f,.inl f'=>FltR T T' f f'
 | .inr x,.inr y=>y.1.1=x.1.1/\y.2=x.2/\x.2<T.length/\(x.1.1.To≠⟨#[]⟩->TkR T T' x.1.2 y.1.2)
 | _,_=>False
section
variable {T T':List zab} (R:RwT T T')
include R
theorem RwT.sg(i:Nat)(s:ByteArray):sgB T' i s=sgB T i s:=by unfold sgB; rw [R.kind,R.text]
theorem RwT.fl{c:Int}{i:Nat}(hc:c≠0)(h:i<T.length):FltR T T' (flt c (tk T i)) (flt c (tk T' i)):=⟨c,_,_,hc,⟨i,h,rfl,rfl⟩,rfl,rfl⟩
theorem RwT.nx{i:Nat}(h:i<T.length)(k:(tk T i).Kind≠4):i+1<T.length:=R.ok.next i h k
theorem RwT.nxs{i:Nat}{s:ByteArray}(h:i<T.length)(k:sgB T i s=true):i+1<T.length:=by
 refine R.nx h ?_
 unfold sgB at k
 simp only [Bool.and_eq_true,beq_iff_eq] at k
 rw [k.1]; decide
theorem RwT.idx{syms:List zar}{k i:Nat}(h:i<T.length):ResR T T' (idxP T syms k i) (idxP T' syms k i):=by
 unfold idxP
 rw [R.kind,R.text]
 by_cases c1:((tk T i).Kind==2)=true
 ·rw [if_pos c1,if_pos c1]
  by_cases c2:(decide ((zbH (tk T i).Text).1<0)||decide ((zbH (tk T i).Text).1≥(rd syms (k:Int)).Size))=true
  ·rw [if_pos c2,if_pos c2]; exact R.fl (by decide) h
  ·rw [if_neg c2,if_neg c2]; exact ⟨rfl,R.nx h (by rw [show (tk T i).Kind=2 by simpa using c1]; decide)⟩
 ·rw [if_neg c1,if_neg c1]
  cases fnd zeW (tk T i).Text with
  | none=>exact R.fl (by decide) h
  | some r =>
   simp only
   by_cases c3:((tk T i).Kind==1)=true
   ·rw [if_pos c3,if_pos c3]; exact ⟨rfl,R.nx h (by rw [show (tk T i).Kind=1 by simpa using c3]; decide)⟩
   ·rw [if_neg c3,if_neg c3]; exact R.fl (by decide) h
theorem RwT.opd{syms:List zar}{i:Nat}(h:i<T.length):ResR T T' (opdP T syms i) (opdP T' syms i):=by
 unfold opdP
 rw [R.kind i,R.text i,R.sg]
 by_cases c1:((tk T i).Kind==2)=true
 ·rw [if_pos c1,if_pos c1]; exact ⟨rfl,R.nx h (by rw [show (tk T i).Kind=2 by simpa using c1]; decide)⟩
 rw [if_neg c1,if_neg c1]
 by_cases c2:((tk T i).Kind != 1)=true
 ·rw [if_pos c2,if_pos c2]; exact R.fl (by decide) h
 rw [if_neg c2,if_neg c2]
 have h1:=R.nx h (by rw [show (tk T i).Kind=1 by simpa using c2]; decide)
 cases fnd zeW (tk T i).Text with
 | some r=>exact ⟨rfl,h1⟩
 | none =>
  simp only
  by_cases c3:zeh (tk T i).Text=true
  ·rw [if_pos c3,if_pos c3]; exact R.fl (by decide) h
  rw [if_neg c3,if_neg c3]
  cases fnd (zem syms) (tk T i).Text with
  | none=>exact R.fl (by decide) h
  | some k =>
   simp only
   by_cases c4:(!sgB T (i+1) ⟨#[91]⟩)=true
   ·rw [if_pos c4,if_pos c4]; exact R.fl (by decide) h1
   rw [if_neg c4,if_neg c4]
   have h2:=R.nxs h1 (by simpa using c4)
   have hx:=R.idx (syms:=syms) (k:=k) h2
   cases q:idxP T syms k (i+2) with
   | inl f=>cases q':idxP T' syms k (i+2) with
    | inl f'=>rw [q,q'] at hx; exact hx
    | inr x'=>rw [q,q'] at hx; exact hx.elim
   | inr x=>cases q':idxP T' syms k (i+2) with
    | inl f'=>rw [q,q'] at hx; exact hx.elim
    | inr x' =>
     rw [q,q'] at hx
     obtain ⟨rfl,hj⟩:=hx
     obtain ⟨o,j⟩:=x'
     simp only
     rw [R.sg]
     by_cases c5:(!sgB T j ⟨#[93]⟩)=true
     ·rw [if_pos c5,if_pos c5]; exact R.fl (by decide) hj
     ·rw [if_neg c5,if_neg c5]; exact ⟨rfl,R.nxs hj (by simpa using c5)⟩
theorem RwT.ops{syms:List zar}{op:Int}{lk:Bool}{i:Nat}(h:i<T.length):ResR T T' (opsP T syms op lk i) (opsP T' syms op lk i):=by
 unfold opsP
 have hx:=R.opd (syms:=syms) h
 cases q:opdP T syms i with
 | inl f=>cases q':opdP T' syms i with
  | inl f'=>rw [q,q'] at hx; exact hx
  | inr x'=>rw [q,q'] at hx; exact hx.elim
 | inr x=>cases q':opdP T' syms i with
  | inl f'=>rw [q,q'] at hx; exact hx.elim
  | inr x' =>
   rw [q,q'] at hx
   obtain ⟨rfl,hj⟩:=hx
   obtain ⟨a,j⟩:=x'
   simp only
   by_cases c1:zhT op lk a=true
   ·rw [if_pos c1,if_pos c1]; exact R.fl (by decide) h
   rw [if_neg c1,if_neg c1,R.sg]
   by_cases c2:(!sgB T j ⟨#[44]⟩)=true
   ·rw [if_pos c2,if_pos c2]; exact R.fl (by decide) hj
   rw [if_neg c2,if_neg c2]
   have h2:=R.nxs hj (by simpa using c2)
   have hy:=R.opd (syms:=syms) h2
   cases p:opdP T syms (j+1) with
   | inl f=>cases p':opdP T' syms (j+1) with
    | inl f'=>rw [p,p'] at hy; exact hy
    | inr x'=>rw [p,p'] at hy; exact hy.elim
   | inr y=>cases p':opdP T' syms (j+1) with
    | inl f'=>rw [p,p'] at hy; exact hy.elim
    | inr y' =>
     rw [p,p'] at hy
     obtain ⟨rfl,hk⟩:=hy
     obtain ⟨b,k⟩:=y'
     simp only
     by_cases c3:(!row0 op lk a b)=true
     ·rw [if_pos c3,if_pos c3]; exact R.fl (by decide) h2
     ·rw [if_neg c3,if_neg c3]; exact ⟨rfl,hk⟩
theorem RwT.nameP(i:Nat)(h:i<T.length):(nameP T i=none/\Go.Vs.nameP T' i=none/\(tk T i).Kind=1)\/∃f f',Go.Vs.nameP T i=some f/\Go.Vs.nameP T' i=some f'/\FltR T T' f f':=by
 unfold Go.Vs.nameP
 rw [R.kind,R.text]
 by_cases c1:((tk T i).Kind != 1)=true
 ·rw [if_pos c1,if_pos c1]; exact .inr ⟨_,_,rfl,rfl,R.fl (by decide) h⟩
 rw [if_neg c1,if_neg c1]
 by_cases c2:zeh (tk T i).Text=true
 ·rw [if_pos c2,if_pos c2]; exact .inr ⟨_,_,rfl,rfl,R.fl (by decide) h⟩
 ·rw [if_neg c2,if_neg c2]; exact .inl ⟨rfl,rfl,by simpa using c1⟩
theorem RwT.ins1{syms:List zar}{lk:Bool}{j:Nat}(h:j<T.length):InR T T' (zfX T syms lk j) (zfX T' syms lk j):=by
 unfold zfX
 rw [R.kind j,R.text j]
 obtain ⟨op,c,ok⟩:=opW (tk T j).Text
 simp only
 by_cases c1:((((tk T j).Kind != 1)||(!ok))||zkV lk op)=true
 ·rw [if_pos c1,if_pos c1]; exact R.fl (by decide) h
 rw [if_neg c1,if_neg c1]
 have hk:(tk T j).Kind=1:=by
  simp only [Bool.or_eq_true,not_or] at c1
  simpa using c1.1.1
 have h1:=R.nx h (by rw [hk]; decide)
 by_cases c2:((op==10)||(op==11))=true
 ·rw [if_pos c2,if_pos c2]
  rcases R.nameP (j+1) h1 with ⟨n1,n2,n3⟩ | ⟨f,f',n1,n2,n3⟩
  ·rw [n1,n2]
   exact ⟨by simp only; rw [R.text],rfl,R.nx h1 (by rw [n3]; decide),fun _=>⟨j+1,h1,rfl,rfl⟩⟩
  ·rw [n1,n2]; exact n3
 rw [if_neg c2,if_neg c2]
 by_cases c3:decide (op<=9)=true
 ·rw [if_pos c3,if_pos c3]
  have hx:=R.ops (syms:=syms) (op:=op) (lk:=lk) h1
  cases q:opsP T syms op lk (j+1) with
  | inl f=>cases q':opsP T' syms op lk (j+1) with
   | inl f'=>rw [q,q'] at hx; exact hx
   | inr x'=>rw [q,q'] at hx; exact hx.elim
  | inr x=>cases q':opsP T' syms op lk (j+1) with
   | inl f'=>rw [q,q'] at hx; exact hx.elim
   | inr x' =>
    rw [q,q'] at hx
    obtain ⟨rfl,hj⟩:=hx
    exact ⟨rfl,rfl,hj,fun e=>absurd rfl e⟩
 ·rw [if_neg c3,if_neg c3]; exact ⟨rfl,rfl,h1,fun e=>absurd rfl e⟩
theorem RwT.ins{syms:List zar}{i:Nat}(h:i<T.length):InR T T' (insP T syms i) (insP T' syms i):=by
 unfold insP
 rw [R.kind,R.text]
 by_cases c1:((tk T i).Kind != 1)=true
 ·rw [if_pos c1,if_pos c1]; exact R.fl (by decide) h
 rw [if_neg c1,if_neg c1]
 by_cases c2:(tk T i).Text=zng
 ·rw [if_pos c2,if_pos c2]; exact R.ins1 (R.nx h (by rw [show (tk T i).Kind=1 by simpa using c1]; decide))
 ·rw [if_neg c2,if_neg c2]; exact R.ins1 h
theorem RwT.labs:∀(n i:Nat) (al op:List ByteArray),i<T.length->LabR T T' (zdr T n i al op) (zdr T' n i al op)
 | 0,i,al,op,h=>⟨rfl,h⟩
 | n+1,i,al,op,h=>by
  unfold zdr
  rw [R.kind,R.text,R.sg]
  by_cases c1:(((tk T i).Kind==1)&&sgB T (i+1) zgH)=true
  ·rw [if_pos c1,if_pos c1]
   simp only [Bool.and_eq_true,beq_iff_eq] at c1
   have h1:=R.nx h (by rw [c1.1]; decide)
   by_cases c2:zeh (tk T i).Text=true
   ·rw [if_pos c2,if_pos c2]; exact R.fl (by decide) h
   rw [if_neg c2,if_neg c2]
   by_cases c3:has al (tk T i).Text=true
   ·rw [if_pos c3,if_pos c3]; exact R.fl (by decide) h
   rw [if_neg c3,if_neg c3]
   exact RwT.labs n (i+2) _ _ (R.nxs h1 c1.2)
  ·rw [if_neg c1,if_neg c1]; exact ⟨rfl,h⟩
theorem RwT.inits(n:Int):∀(k i:Nat) (l:List Int),i<T.length->LabR T T' (zb9 T n k i l) (zb9 T' n k i l)
 | 0,i,l,h=>⟨rfl,h⟩
 | k+1,i,l,h=>by
  unfold zb9
  rw [R.kind,R.text]
  by_cases c1:((tk T i).Kind==2)=true
  ·rw [if_pos c1,if_pos c1]
   by_cases c2:((l.length:Int)==n)=true
   ·rw [if_pos c2,if_pos c2]; exact R.fl (by decide) h
   ·rw [if_neg c2,if_neg c2]; exact RwT.inits n k (i+1) _ (R.nx h (by rw [show (tk T i).Kind=2 by simpa using c1]; decide))
  ·rw [if_neg c1,if_neg c1]; exact ⟨rfl,h⟩
end
structure BdR (T T':List zab) (b b':Bd):Prop where
 all:b'.all=b.all
 open_:b'.open_=b.open_
 ins:b'.ins=b.ins
 head:TkR T T' b.head b'.head
 fl:b.zFi.length=b.ins.length
 fl':b'.zFi.length=b.ins.length
 tl:b.zTg.length=b.ins.length
 tl':b'.zTg.length=b.ins.length
 f:∀k:Nat,k<b.ins.length->TkR T T' (rd b.zFi (k:Int)) (rd b'.zFi (k:Int))
 t:∀(k:Nat) x,b.ins[k]?=some x->x.To≠⟨#[]⟩->TkR T T' (rd b.zTg (k:Int)) (rd b'.zTg (k:Int))
def LsR(T T':List zab)(l l':List Bd):Prop:=l'.length=l.length/\∀(k:Nat) b b',l[k]?=some b->l'[k]?=some b'->BdR T T' b b'
def OpR(T T':List zab):Option Bd->Option Bd->Prop
 | none,none=>True
 | some b,some b'=>BdR T T' b b'
 | _,_=>False
structure StR (T T':List zab) (S S':PSt):Prop where
 at_:S'.at_=S.at_
 syms:S'.syms=S.syms
 done:LsR T T' S.done S'.done
 cur:OpR T T' S.cur S'.cur
def RsR(T T':List zab)(q q':zag ⊕ PSt):Prop:=match q,q' with
 | .inl f,.inl f'=>FltR T T' f f'
 | .inr S,.inr S'=>StR T T' S S'/\S.at_<T.length
 | _,_=>False
theorem zfc{α:Type}[Inhabited α]{l:List α}{a:α}{k:Nat}(h:k<l.length):rd (l++[a]) (k:Int)=rd l (k:Int):=by
 have:(l++[a])[k]?=l[k]?:=List.getElem?_append_left h
 have e1:l[k]?=some l[k]:=List.getElem?_eq_getElem h
 rw [zcq (this.trans e1),zcq e1]
theorem zfd{α:Type}[Inhabited α]{l:List α}{a:α}{k:Nat}(h:k=l.length):rd (l++[a]) (k:Int)=a:=zcq (by rw [h]; simp)
theorem LsR.app{T T':List zab}{l l' m m':List Bd}(h1:LsR T T' l l')(h2:LsR T T' m m'):LsR T T' (l++m) (l'++m'):=by
 refine ⟨by simp [h1.1,h2.1],fun k b b' hb hb'=>?_⟩
 by_cases hk:k<l.length
 ·rw [List.getElem?_append_left hk] at hb
  rw [List.getElem?_append_left (by have:=h1.1; omega)] at hb'
  exact h1.2 k b b' hb hb'
 ·rw [List.getElem?_append_right (by omega)] at hb
  rw [List.getElem?_append_right (by have:=h1.1; omega),h1.1] at hb'
  exact h2.2 _ b b' hb hb'
theorem OpR.list{T T':List zab}{o o':Option Bd}(h:OpR T T' o o'):LsR T T' o.toList o'.toList:=by
 cases o with
 | none=>cases o' with
  | none=>exact ⟨rfl,fun k b b' hb=>by simp at hb⟩
  | some b'=>exact h.elim
 | some b=>cases o' with
  | none=>exact h.elim
  | some b'=>exact ⟨rfl,fun k c c' hb hb'=>by
    cases k with
    | zero=>simp at hb hb'; subst hb; subst hb'; exact h
    | succ k=>simp at hb⟩
theorem StR.bs{T T':List zab}{S S':PSt}(h:StR T T' S S'):LsR T T' S.bs S'.bs:=h.done.app h.cur.list
section
variable {T T':List zab} (R:RwT T T')
include R
theorem RwT.rest{S S':PSt}(h:StR T T' S S')(hi:S.at_<T.length):RsR T T' (zfV T S) (zfV T' S'):=by
 unfold zfV
 have hc:=h.cur
 cases c0:S.cur with
 | none=>cases c0':S'.cur with
  | none=>rw [h.at_]; exact R.fl (by decide) hi
  | some c'=>rw [c0,c0'] at hc; exact hc.elim
 | some c=>cases c0':S'.cur with
  | none=>rw [c0,c0'] at hc; exact hc.elim
  | some c' =>
   rw [c0,c0'] at hc
   have hc:BdR T T' c c':=hc
   simp only
   rw [h.at_,hc.all,hc.open_,R.len]
   have hx:=R.labs T.length S.at_ c.all c.open_ hi
   cases q:zdr T T.length S.at_ c.all c.open_ with
   | inl f=>cases q':zdr T' T.length S.at_ c.all c.open_ with
    | inl f'=>rw [q,q'] at hx; exact hx
    | inr x'=>rw [q,q'] at hx; exact hx.elim
   | inr x=>cases q':zdr T' T.length S.at_ c.all c.open_ with
    | inl f'=>rw [q,q'] at hx; exact hx.elim
    | inr x' =>
     rw [q,q'] at hx
     obtain ⟨rfl,hj⟩:=hx
     obtain ⟨j,al,op⟩:=x'
     simp only at hj ⊢
     rw [R.kind]
     by_cases c1:((tk T j).Kind==4)=true
     ·rw [if_pos c1,if_pos c1]
      exact ⟨⟨rfl,h.syms,h.done,⟨rfl,rfl,hc.ins,hc.head,hc.fl,hc.fl',hc.tl,hc.tl',hc.f,hc.t⟩⟩,hj⟩
     ·rw [if_neg c1,if_neg c1,h.syms]
      have hy:=R.ins (syms:=S.syms) hj
      cases p:insP T S.syms j with
      | inl f=>cases p':insP T' S.syms j with
       | inl f'=>rw [p,p'] at hy; exact hy
       | inr x'=>rw [p,p'] at hy; exact hy.elim
      | inr y=>cases p':insP T' S.syms j with
       | inl f'=>rw [p,p'] at hy; exact hy.elim
       | inr y' =>
        rw [p,p'] at hy
        obtain ⟨⟨y1,t⟩,k⟩:=y
        obtain ⟨⟨y1',t'⟩,k'⟩:=y'
        obtain ⟨e1,e2,e3,e4⟩:=hy
        simp only at e1 e2 e3 e4
        subst e1; subst e2
        refine ⟨⟨rfl,rfl,h.done,⟨rfl,rfl,by simp only; rw [hc.ins],hc.head,by simp [hc.fl],by simp [hc.fl'],by simp [hc.tl],by simp [hc.tl'],?_,?_⟩⟩,e3⟩
        ·intro m hm
         simp only [List.length_append,List.length_singleton] at hm ⊢
         by_cases hlt:m<c.ins.length
         ·rw [zfc (by rw [hc.fl]; exact hlt),zfc (by rw [hc.fl']; exact hlt)]
          exact hc.f m hlt
         ·rw [zfd (by rw [hc.fl]; omega),zfd (by rw [hc.fl']; omega)]
          exact ⟨j,hj,rfl,rfl⟩
        ·intro m x hm hx
         simp only at hm ⊢
         by_cases hlt:m<c.ins.length
         ·rw [List.getElem?_append_left hlt] at hm
          rw [zfc (by rw [hc.tl]; exact hlt),zfc (by rw [hc.tl']; exact hlt)]
          exact hc.t m x hm hx
         ·have hl:=(List.getElem?_eq_some_iff.1 hm).1
          simp only [List.length_append,List.length_singleton] at hl
          rw [List.getElem?_append_right (by omega)] at hm
          have:m-c.ins.length=0:=by omega
          rw [this] at hm
          simp at hm
          rw [zfd (by rw [hc.tl]; omega),zfd (by rw [hc.tl']; omega)]
          subst hm
          exact e4 hx
theorem RwT.line0{S S':PSt}(h:StR T T' S S')(hi:S.at_<T.length):RsR T T' (zcA T S) (zcA T' S'):=by
 have hb:=h.bs
 unfold zcA
 rw [h.at_,R.kind,R.text]
 by_cases c1:((tk T S.at_).Kind==4)=true
 ·rw [if_pos c1,if_pos c1]; exact ⟨h,hi⟩
 rw [if_neg c1,if_neg c1]
 by_cases c2:(((tk T S.at_).Kind==1)&&decide ((tk T S.at_).Text=symW))=true
 ·rw [if_pos c2,if_pos c2]
  simp only [Bool.and_eq_true,beq_iff_eq] at c2
  have h1:=R.nx hi (by rw [c2.1]; decide)
  unfold symP
  rw [h.at_,hb.1,h.syms]
  by_cases d1:S.bs.length>0
  ·rw [if_pos d1,if_pos d1]; exact R.fl (by decide) hi
  rw [if_neg d1,if_neg d1]
  by_cases d2:S.syms.length≥64
  ·rw [if_pos d2,if_pos d2]; exact R.fl (by decide) hi
  rw [if_neg d2,if_neg d2]
  rcases R.nameP (S.at_+1) h1 with ⟨n1,n2,n3⟩ | ⟨f,f',n1,n2,n3⟩
  ·rw [n1,n2]
   simp only
   rw [R.text,R.kind,R.text]
   have h2:=R.nx h1 (by rw [n3]; decide)
   cases fnd (zem S.syms) (tk T (S.at_+1)).Text with
   | some k=>exact R.fl (by decide) h1
   | none =>
    simp only
    by_cases d3:((tk T (S.at_+2)).Kind != 2)=true
    ·rw [if_pos d3,if_pos d3]; exact R.fl (by decide) h2
    rw [if_neg d3,if_neg d3]
    by_cases d4:(decide ((zbH (tk T (S.at_+2)).Text).1<1)||decide ((zbH (tk T (S.at_+2)).Text).1>64))=true
    ·rw [if_pos d4,if_pos d4]; exact R.fl (by decide) h2
    rw [if_neg d4,if_neg d4,R.len]
    have h3:=R.nx h2 (by rw [show (tk T (S.at_+2)).Kind=2 by simpa using d3]; decide)
    have hx:=R.inits (zbH (tk T (S.at_+2)).Text).1 T.length (S.at_+3) [] h3
    cases q:zb9 T (zbH (tk T (S.at_+2)).Text).1 T.length (S.at_+3) [] with
    | inl f=>cases q':zb9 T' (zbH (tk T (S.at_+2)).Text).1 T.length (S.at_+3) [] with
     | inl f'=>rw [q,q'] at hx; exact hx
     | inr x'=>rw [q,q'] at hx; exact hx.elim
    | inr x=>cases q':zb9 T' (zbH (tk T (S.at_+2)).Text).1 T.length (S.at_+3) [] with
     | inl f'=>rw [q,q'] at hx; exact hx.elim
     | inr x' =>
      rw [q,q'] at hx
      obtain ⟨rfl,hj⟩:=hx
      exact ⟨⟨rfl,rfl,h.done,h.cur⟩,hj⟩
  ·rw [n1,n2]; exact n3
 rw [if_neg c2,if_neg c2]
 by_cases c3:(((tk T S.at_).Kind==1)&&decide ((tk T S.at_).Text=thrW))=true
 ·rw [if_pos c3,if_pos c3]
  simp only [Bool.and_eq_true,beq_iff_eq] at c3
  unfold thrP
  rw [h.at_,hb.1]
  by_cases d1:S.bs.length≥64
  ·rw [if_pos d1,if_pos d1]; exact R.fl (by decide) hi
  ·rw [if_neg d1,if_neg d1]
   exact ⟨⟨rfl,h.syms,hb,⟨rfl,rfl,rfl,⟨_,hi,rfl,rfl⟩,rfl,rfl,rfl,rfl,fun k hk=>by simp at hk,fun k x hx=>by simp at hx⟩⟩,R.nx hi (by rw [c3.1]; decide)⟩
 rw [if_neg c3,if_neg c3]
 exact R.rest h hi
theorem RwT.lines:∀(n:Nat) (S S':PSt),StR T T' S S'->(match zbY T n S,zbY T' n S' with | .inl f,.inl f'=>FltR T T' f f' | .inr S,.inr S'=>StR T T' S S' | _,_=>False)
 | 0,S,S',h=>h
 | n+1,S,S',h=>by
  unfold zbY
  rw [h.at_,R.len]
  by_cases hi:S.at_<T.length
  ·rw [if_pos hi,if_pos hi]
   have hx:=R.line0 h hi
   unfold ze1
   cases q:zcA T S with
   | inl f=>cases q':zcA T' S' with
    | inl f'=>rw [q,q'] at hx; exact hx
    | inr x'=>rw [q,q'] at hx; exact hx.elim
   | inr S1=>cases q':zcA T' S' with
    | inl f'=>rw [q,q'] at hx; exact hx.elim
    | inr S1' =>
     rw [q,q'] at hx
     obtain ⟨hs,hlt⟩:=hx
     unfold zfW
     simp only
     rw [hs.at_,R.kind]
     by_cases c1:((tk T S1.at_).Kind != 4)=true
     ·rw [if_pos c1,if_pos c1]; exact R.fl (by decide) hlt
     ·rw [if_neg c1,if_neg c1]
      exact RwT.lines n _ _ ⟨rfl,hs.syms,hs.done,hs.cur⟩
  ·rw [if_neg hi,if_neg hi]; exact h
theorem RwT.whole{b b':Bd}(h:BdR T T' b b'):(ze5 b=none/\ze5 b'=none)\/∃f f',ze5 b=some f/\ze5 b'=some f'/\FltR T T' f f':=by
 unfold ze5
 rw [h.ins,h.open_,h.all]
 obtain ⟨i0,hd1,hd2,hd3⟩:=h.head
 by_cases c1:((((b.ins.length:Int)==0)||decide ((b.open_.length:Int)>0))||((zip b.ins != 10)&&(zip b.ins != 14)))=true
 ·rw [if_pos c1,if_pos c1]; exact .inr ⟨_,_,rfl,rfl,9,_,_,by decide,h.head,rfl,rfl⟩
 rw [if_neg c1,if_neg c1]
 have cnt:∀(l:List zaj) (i:Nat) (a:Int),i+l.length<=b.ins.length->(zcr (cntF b.zFi) (fun _=>none) i a l=none/\zcr (cntF b'.zFi) (fun _=>none) i a l=none)\/∃f f',zcr (cntF b.zFi) (fun _=>none) i a l=some f/\zcr (cntF b'.zFi) (fun _=>none) i a l=some f'/\FltR T T' f f':=by
  intro l
  induction l with
  | nil=>intro i a _; exact .inl ⟨rfl,rfl⟩
  | cons x l ih =>
   intro i a hl
   simp only [List.length_cons] at hl
   unfold zcr cntF
   by_cases c:(x.Op==12)=true
   ·rw [if_pos c,if_pos c]; exact ih (i+1) a (by omega)
   rw [if_neg c,if_neg c]
   by_cases c2:(a==4096)=true
   ·rw [if_pos c2,if_pos c2]; exact .inr ⟨_,_,rfl,rfl,10,_,_,by decide,h.f i (by omega),rfl,rfl⟩
   ·rw [if_neg c2,if_neg c2]; exact ih (i+1) _ (by omega)
 rcases cnt b.ins 0 0 (by omega) with ⟨e1,e2⟩ | ⟨f,f',e1,e2,e3⟩
 ·rw [e1,e2]
  simp only
  have tos:∀(l:List zaj) (i:Nat),(∀k x,l[k]?=some x->b.ins[i+k]?=some x)->(zcr (toF b.all b.zTg) (fun _=>none) i () l=none/\zcr (toF b.all b'.zTg) (fun _=>none) i () l=none)\/∃f f',zcr (toF b.all b.zTg) (fun _=>none) i () l=some f/\zcr (toF b.all b'.zTg) (fun _=>none) i () l=some f'/\FltR T T' f f':=by
   intro l
   induction l with
   | nil=>intro i _; exact .inl ⟨rfl,rfl⟩
   | cons x l ih =>
    intro i hl
    unfold zcr toF
    by_cases c:((!decide (x.To=(⟨#[]⟩:ByteArray)))&&(!has b.all x.To))=true
    ·rw [if_pos c,if_pos c]
     simp only [Bool.and_eq_true,Bool.not_eq_true',decide_eq_false_iff_not] at c
     exact .inr ⟨_,_,rfl,rfl,7,_,_,by decide,h.t i x (by simpa using hl 0 x rfl) c.1,rfl,rfl⟩
    ·rw [if_neg c,if_neg c]
     exact ih (i+1) fun k y hy=>by have:=hl (k+1) y (by simpa using hy); rw [← this]; congr 1; omega
  exact tos b.ins 0 fun k x hx=>by simpa using hx
 ·rw [e1,e2]; exact .inr ⟨f,f',rfl,rfl,e3⟩
theorem RwT.wholes:∀(l l':List Bd) (i:Nat),LsR T T' l l'->(zcr zeM (fun _=>none) i () l=none/\zcr zeM (fun _=>none) i () l'=none/\l'.map toTh=l.map toTh)\/∃f f',zcr zeM (fun _=>none) i () l=some f/\zcr zeM (fun _=>none) i () l'=some f'/\FltR T T' f f'
 | [],[],i,h=>.inl ⟨rfl,rfl,rfl⟩
 | [],_::_,i,h=>by have:=h.1; simp at this
 | _::_,[],i,h=>by have:=h.1; simp at this
 | b::l,b'::l',i,h=>by
  have hb:=h.2 0 b b' rfl rfl
  unfold zcr zeM
  rcases R.whole hb with ⟨e1,e2⟩ | ⟨f,f',e1,e2,e3⟩
  ·rw [e1,e2]
   rcases RwT.wholes l l' (i+1) ⟨by simpa using h.1,fun k c c' hc hc'=>h.2 (k+1) c c' (by simpa using hc) (by simpa using hc')⟩ with ⟨q1,q2,q3⟩ | q
   ·refine .inl ⟨q1,q2,?_⟩
    rw [List.map_cons,List.map_cons,q3]
    congr 1
    unfold toTh; rw [hb.ins]
   ·exact .inr q
  ·rw [e1,e2]; exact .inr ⟨f,f',rfl,rfl,e3⟩
theorem RwT.parse:(zdy T).1=(zdy T').1/\(((zdy T).2=⟨0,0,0⟩/\(zdy T').2=⟨0,0,0⟩)\/(FltR T T' (zdy T).2 (zdy T').2/\(zdy T).1=nilP)):=by
 have h:=R.lines T.length St0 St0 ⟨rfl,rfl,⟨rfl,fun k b b' hb=>by simp [St0] at hb⟩,trivial⟩
 unfold zdy
 rw [R.len]
 cases q:zbY T T.length St0 with
 | inl f=>cases q':zbY T' T.length St0 with
  | inl f'=>rw [q,q'] at h; exact ⟨rfl,.inr ⟨h,rfl⟩⟩
  | inr x'=>rw [q,q'] at h; exact h.elim
 | inr S=>cases q':zbY T' T.length St0 with
  | inl f'=>rw [q,q'] at h; exact h.elim
  | inr S' =>
   rw [q,q'] at h
   have h:StR T T' S S':=h
   simp only
   unfold zfz
   rcases R.wholes S.bs S'.bs 0 h.bs with ⟨e1,e2,e3⟩ | ⟨f,f',e1,e2,e3⟩
   ·rw [e1,e2]
    simp only
    rw [h.syms,e3]
    exact ⟨rfl,.inl ⟨trivial,trivial⟩⟩
   ·rw [e1,e2]; exact ⟨rfl,.inr ⟨e3,rfl⟩⟩
end
end Go.Vs
end
section
namespace Go.Vs
local instance tabPalV2:Tab:=⟨fun _=>none⟩
theorem zh8{v:List zah}:∀(n:Nat) (i:Int) {q},remC v n i=.inr q->q.1=[]
 | 0,i,q,h=>by simp [remC] at h
 | n+1,i,q,h=>by
  unfold remC at h
  split at h
  ·exact zh8 n _ h
  ·rename_i r hr
   unfold zcD at hr
   repeat' split at hr
   all_goals first | (cases hr; done) | (injection hr with hr; subst hr; cases h; rfl) | (injection hr with hr; subst hr; cases h)
theorem zg6(s:ByteArray):∀(f pos:Nat) (line col:Int),1<=line->1<=col->∀y∈zbU s f pos line col,1<=y.Line/\1<=y.Col/\y.Line<=line+f
 | 0,pos,line,col,h1,h2,y,h=>by simp [zbU] at h
 | f+1,pos,line,col,h1,h2,y,h=>by
  rw [zbU] at h
  split at h
  ·rcases List.mem_cons.1 h with rfl | h
   ·exact ⟨h1,h2,by simp only; omega⟩
   ·have:=zg6 s f _ _ _ (by split <;> omega) (by split <;> omega) y h
    refine ⟨this.1,this.2.1,?_⟩
    have h3:=this.2.2
    split at h3 <;> omega
  ·simp at h
def PosV(v:List zah):Prop:=∀i,InB i v.length->1<=(rd v i).Line/\1<=(rd v i).Col/\(rd v i).Line<=150000
theorem posV(s:ByteArray)(hs:s.size<=99000):PosV (zaU s):=fun i h=>by
 have:=zg6 s _ _ _ _ (by decide) (by decide) _ (List.mem_of_getElem? (zhD h))
 have h3:=this.2.2
 exact ⟨this.1,this.2.1,by show (rd (zbU s s.size 0 1 1) i).Line<=150000; omega⟩
def PT(t:zab):Prop:=1<=t.Line/\1<=t.Col/\t.Line<=200000
def PF(f:zag):Prop:=1<=f.Line/\1<=f.Col/\f.Line<=200000
theorem zjK(v:List zah)(s:ByteArray)(i:Int)(l:List zab)(k kind:Int):(∃c,c≠0/\tail v s i l k kind=.inr (.inr ([],⟨c,(rd v i).Line,(rd v i).Col⟩)))\/∃x,tail v s i l k kind=.inl (k,l++[⟨kind,(rd v i).Line,(rd v i).Col,x⟩]):=by
 unfold tail
 dsimp only
 split
 ·exact .inl ⟨3,by decide,rfl⟩
 split
 ·exact .inl ⟨2,by decide,rfl⟩
 ·exact .inr ⟨_,rfl⟩
theorem ziJ(v:List zah):∀(n:Nat) (i:Int),i<=runC v n i
 | 0,i=>Int.le_refl _
 | n+1,i=>by
  rw [runC]
  split
  ·have:=ziJ v n (i+1); omega
  ·exact Int.le_refl _
theorem zkz(v:List zah):∀(n:Nat) (i k:Int),remC v n i=.inl k->i<=k
 | 0,i,k,h=>by simp only [remC,Sum.inl.injEq] at h; omega
 | n+1,i,k,h=>by
  rw [remC] at h
  unfold zcD at h
  split at h
  ·rename_i j hj
   split at hj
   ·split at hj
    ·cases hj
    ·cases hj; have:=zkz v n _ _ h; omega
   ·cases hj
  ·rename_i r hj
   split at hj
   ·split at hj
    ·cases hj; cases h
    ·cases hj
   ·cases hj; cases h; exact Int.le_refl _
theorem zgi(v:List zah)(s:ByteArray)(i:Int)(l:List zab):(∃c,c≠0/\zc0 v s i l=.inr (.inr ([],⟨c,(rd v i).Line,(rd v i).Col⟩)))\/(∃k,i<k/\zc0 v s i l=.inl (k,l))\/(∃k kind x,i<k/\zc0 v s i l=.inl (k,l++[⟨kind,(rd v i).Line,(rd v i).Col,x⟩]))\/∃q,remC v v.length (i+1)=.inr q/\zc0 v s i l=.inr (.inr q):=by
 have tl:∀k kind,i<k->(∃c,c≠0/\tail v s i l k kind=.inr (.inr ([],⟨c,(rd v i).Line,(rd v i).Col⟩)))\/(∃k',i<k'/\tail v s i l k kind=.inl (k',l))\/(∃k' kind' x,i<k'/\tail v s i l k kind=.inl (k',l++[⟨kind',(rd v i).Line,(rd v i).Col,x⟩]))\/∃q,remC v v.length (i+1)=.inr q/\tail v s i l k kind=.inr (.inr q):=by
  intro k kind hk
  rcases zjK v s i l k kind with h | ⟨x,h⟩
  ·exact .inl h
  ·exact .inr (.inr (.inl ⟨k,kind,x,hk,h⟩))
 have hr:=ziJ v v.length (i+1)
 unfold zc0
 by_cases c1:(rd v i).Bad=true
 ·rw [if_pos c1]; exact .inl ⟨1,by decide,rfl⟩
 rw [if_neg c1]
 by_cases c2:zeb (rd v i).Rune=true
 ·rw [if_pos c2]; exact .inr (.inl ⟨_,by omega,rfl⟩)
 rw [if_neg c2]
 by_cases c3:(rd v i).Rune=59
 ·rw [if_pos c3]
  cases hm:remC v v.length (i+1) with
  | inl k=>have:=zkz v _ _ _ hm; exact .inr (.inl ⟨k,by omega,rfl⟩)
  | inr q=>exact .inr (.inr (.inr ⟨q,rfl,rfl⟩))
 rw [if_neg c3]
 by_cases c4:(rd v i).Rune=10
 ·rw [if_pos c4]; exact tl _ _ (by omega)
 rw [if_neg c4]
 by_cases c5:zgO (rd v i).Rune=true
 ·rw [if_pos c5]; exact tl _ _ (by omega)
 rw [if_neg c5]
 by_cases c6:zcN (rd v i).Rune=true
 ·rw [if_pos c6]; exact tl _ _ (by omega)
 rw [if_neg c6]
 by_cases c7:(zev (rd v i).Rune||((rd v i).Rune==45))=true
 ·rw [if_pos c7]; exact tl _ _ (by omega)
 ·rw [if_neg c7]; exact .inl ⟨1,by decide,rfl⟩
theorem zjh{v:List zah}(hv:PosV v):∀(n:Nat) (i:Int),0<=i->∀q,remC v n i=.inr q->PF q.2
 | 0,i,h0,q,h=>by simp [remC] at h
 | n+1,i,h0,q,h=>by
  unfold remC at h
  split at h
  ·rename_i j hj
   unfold zcD at hj
   split at hj
   ·split at hj
    ·cases hj
    ·cases hj; exact zjh hv n _ (by omega) q h
   ·cases hj
  ·rename_i r hr
   unfold zcD at hr
   split at hr
   ·rename_i hc
    simp only [Bool.and_eq_true,decide_eq_true_eq] at hc
    split at hr
    ·cases hr; cases h; obtain ⟨q1,q2,q3⟩:=hv i ⟨h0,by omega⟩; exact ⟨q1,q2,by show (rd v i).Line<=200000; omega⟩
    ·cases hr
   ·cases hr; cases h
theorem zhy{v:List zah}{s:ByteArray}(hv:PosV v):∀(n:Nat) (i:Int) (l:List zab),0<=i->(∀t∈l,PT t)->(∀L,tokC v s n i l=.inl L->∀t∈L,PT t)/\∀q,tokC v s n i l=.inr q->PF q.2/\q.1=[]
 | 0,i,l,h0,hl=>⟨fun L h=>by simp only [tokC,Sum.inl.injEq] at h; subst h; exact hl,fun q h=>by simp [tokC] at h⟩
 | n+1,i,l,h0,hl=>by
  rw [tokC]
  by_cases hi:i<v.length
  ·rw [if_pos hi]
   have hp:1<=(rd v i).Line/\1<=(rd v i).Col/\(rd v i).Line<=200000:=by
    obtain ⟨q1,q2,q3⟩:=hv i ⟨h0,by omega⟩
    exact ⟨q1,q2,by omega⟩
   rcases zgi v s i l with ⟨c,_,h⟩ | ⟨k,hk,h⟩ | ⟨k,kind,x,hk,h⟩ | ⟨q,hq,h⟩
   ·rw [h]; exact ⟨fun L h=>(by cases h),fun q h=>by cases h; exact ⟨hp,rfl⟩⟩
   ·rw [h]; exact zhy hv n k l (by omega) hl
   ·rw [h]
    refine zhy hv n k _ (by omega) fun t ht=>?_
    rcases List.mem_append.1 ht with ht | ht
    ·exact hl t ht
    ·rw [List.mem_singleton.1 ht]; exact hp
   ·rw [h]; exact ⟨fun L h=>(by cases h),fun q' h=>by cases h; exact ⟨zjh hv _ _ (by omega) _ hq,zh8 _ _ hq⟩⟩
  ·rw [if_neg hi]
   exact ⟨fun L h=>by cases h; exact hl,fun q h=>by cases h⟩
theorem zlr{v:List zah}(hv:PosV v):1<=(zef v).1/\1<=(zef v).2/\(zef v).1<=200000:=by
 unfold zef
 cases hl:v.getLast? with
 | none=>exact ⟨by decide,by decide,by decide⟩
 | some x =>
  have hm:x∈v:=List.mem_of_getLast? hl
  obtain ⟨k,hk⟩:=List.getElem?_of_mem hm
  have hb:InB (k:Int) v.length:=⟨by omega,by simpa using (List.getElem?_eq_some_iff.1 hk).1⟩
  have:=hv k hb
  rw [zcq hk] at this
  simp only
  split
  ·exact ⟨by simp only; omega,Int.le_refl _,by simp only; omega⟩
  ·exact ⟨this.1,by simp only; omega,by simp only; omega⟩
theorem zjI(s:ByteArray)(hs:s.size<=99000):(∀t∈(zaM s).1,PT t)/\((zaM s).2.Code≠0->PF (zaM s).2):=by
 have hv:=posV s hs
 obtain ⟨h1,h2⟩:=zhy (s:=s) hv (zaU s).length 0 [] (by omega) (fun t h=>by cases h)
 unfold zaM
 cases hx:tokC (zaU s) s (zaU s).length 0 [] with
 | inl l =>
  refine ⟨fun t ht=>?_,fun h=>absurd rfl h⟩
  rcases List.mem_append.1 ht with ht | ht
  ·exact h1 l hx t ht
  ·rw [List.mem_singleton.1 ht]; exact zlr hv
 | inr q=>exact ⟨fun t ht=>(by rw [(h2 q hx).2] at ht; cases ht),fun _=>(h2 q hx).1⟩
end Go.Vs
end
section
namespace Go.Vs
local instance tabPalV6:Tab:=⟨fun _=>none⟩
def shR{α:Type}:Res α->Res α
 | .inl f=>.inl f
 | .inr (o,j)=>.inr (o,j+1)
def shL{α:Type}:zag ⊕ (Nat × α)->zag ⊕ (Nat × α)
 | .inl f=>.inl f
 | .inr (j,o)=>.inr (j+1,o)
def PSt.up(S:PSt):PSt:=⟨S.at_+1,S.syms,S.done,S.cur⟩
def shS:zag ⊕ PSt->zag ⊕ PSt
 | .inl f=>.inl f
 | .inr S=>.inr S.up
section
variable (x:zab) (T:List zab)
theorem tk_c(i:Nat):tk (x::T) (i+1)=tk T i:=by
 show rd _ _=rd _ _
 unfold rd
 simp only [Int.toNat_natCast]
 rfl
theorem zlU(i:Nat)(s:ByteArray):sgB (x::T) (i+1) s=sgB T i s:=by unfold sgB; rw [tk_c]
theorem zkT(i:Nat):nameP (x::T) (i+1)=nameP T i:=by unfold nameP; rw [tk_c]
theorem zoj(syms:List zar)(k i:Nat):idxP (x::T) syms k (i+1)=shR (idxP T syms k i):=by
 unfold idxP
 rw [tk_c]
 split
 ·split <;> rfl
 ·split
  ·split <;> rfl
  ·rfl
theorem zmF(syms:List zar)(i:Nat):opdP (x::T) syms (i+1)=shR (opdP T syms i):=by
 unfold opdP
 rw [tk_c,zlU x T (i+1),tk_c x T (i+1)]
 split
 ·rfl
 split
 ·rfl
 split
 ·rfl
 split
 ·rfl
 split
 ·rfl
 split
 ·rfl
 rename_i k _ _
 rw [show idxP (x::T) syms k (i+1+2)=shR (idxP T syms k (i+2)) from zoj x T syms k (i+2)]
 cases idxP T syms k (i+2) with
 | inl f=>rfl
 | inr q =>
  obtain ⟨o,j⟩:=q
  simp only [shR]
  rw [zlU,tk_c]
  split <;> rfl
theorem zn6(syms:List zar)(op:Int)(lk:Bool)(i:Nat):opsP (x::T) syms op lk (i+1)=shR (opsP T syms op lk i):=by
 unfold opsP
 rw [zmF,tk_c]
 cases opdP T syms i with
 | inl f=>rfl
 | inr q =>
  obtain ⟨a,j⟩:=q
  simp only [shR]
  rw [zlU,tk_c,zmF,tk_c]
  split
  ·rfl
  split
  ·rfl
  cases opdP T syms (j+1) with
  | inl f=>rfl
  | inr q =>
   obtain ⟨b,k⟩:=q
   simp only [shR]
   split <;> rfl
theorem zk7(syms:List zar)(lk:Bool)(j:Nat):zfX (x::T) syms lk (j+1)=shR (zfX T syms lk j):=by
 unfold zfX
 rw [tk_c,zkT x T (j+1),tk_c x T (j+1)]
 obtain ⟨op,c,ok⟩:=opW (tk T j).Text
 simp only
 split
 ·rfl
 split
 ·split <;> rfl
 split
 ·rw [show opsP (x::T) syms op lk (j+1+1)=shR (opsP T syms op lk (j+1)) from zn6 x T syms op lk (j+1)]
  cases opsP T syms op lk (j+1) with
  | inl f=>rfl
  | inr q=>rfl
 ·rfl
theorem zoh(syms:List zar)(i:Nat):insP (x::T) syms (i+1)=shR (insP T syms i):=by
 unfold insP
 rw [tk_c]
 split
 ·rfl
 split
 ·exact zk7 x T syms true (i+1)
 ·exact zk7 x T syms false i
theorem zk0:∀(n m i:Nat) (al op:List ByteArray),T.length<=i+n->T.length<=i+m->zdr (x::T) n (i+1) al op=shL (zdr T m i al op)
 | n,m,i,al,op,hn,hm=>by
  have out:T.length<=i->((tk T i).Kind==1)=false:=fun h=>by
   have:tk T i=default:=by
    show rd _ _=_
    unfold rd
    rw [List.getD_eq_getElem?_getD,List.getElem?_eq_none (by simp; omega)]; rfl
   rw [this]; rfl
  have z:∀k,T.length<=i->zdr T k i al op=.inr (i,al,op):=fun k h=>by
   cases k with
   | zero=>rfl
   | succ k=>unfold zdr; rw [out h]; rfl
  have z':∀k,T.length<=i->zdr (x::T) k (i+1) al op=.inr (i+1,al,op):=fun k h=>by
   cases k with
   | zero=>rfl
   | succ k=>unfold zdr; rw [tk_c,out h]; rfl
  by_cases hi:T.length<=i
  ·rw [z m hi,z' n hi]; rfl
  ·obtain ⟨n,rfl⟩:∃k,n=k+1:=⟨n-1,by omega⟩
   obtain ⟨m,rfl⟩:∃k,m=k+1:=⟨m-1,by omega⟩
   unfold zdr
   rw [tk_c,zlU x T (i+1)]
   split
   ·split
    ·rfl
    split
    ·rfl
    exact zk0 n m (i+2) _ _ (by omega) (by omega)
   ·rfl
 termination_by n=>n
theorem zjt(N:Int):∀(n m i:Nat) (l:List Int),T.length<=i+n->T.length<=i+m->zb9 (x::T) N n (i+1) l=shL (zb9 T N m i l)
 | n,m,i,l,hn,hm=>by
  have out:T.length<=i->((tk T i).Kind==2)=false:=fun h=>by
   have:tk T i=default:=by
    show rd _ _=_
    unfold rd
    rw [List.getD_eq_getElem?_getD,List.getElem?_eq_none (by simp; omega)]; rfl
   rw [this]; rfl
  by_cases hi:T.length<=i
  ·have e1:zb9 T N m i l=.inr (i,l):=by
    cases m with
    | zero=>rfl
    | succ k=>unfold zb9; rw [out hi]; rfl
   have e2:zb9 (x::T) N n (i+1) l=.inr (i+1,l):=by
    cases n with
    | zero=>rfl
    | succ k=>unfold zb9; rw [tk_c,out hi]; rfl
   rw [e1,e2]; rfl
  ·obtain ⟨n,rfl⟩:∃k,n=k+1:=⟨n-1,by omega⟩
   obtain ⟨m,rfl⟩:∃k,m=k+1:=⟨m-1,by omega⟩
   unfold zb9
   rw [tk_c]
   split
   ·split
    ·rfl
    ·exact zjt N n m (i+1) _ (by omega) (by omega)
   ·rfl
 termination_by n=>n
theorem zm6(S:PSt):zfV (x::T) S.up=shS (zfV T S):=by
 unfold zfV PSt.up
 simp only
 cases S.cur with
 | none=>simp only; rw [tk_c]; rfl
 | some c =>
  simp only
  rw [zk0 x T (x::T).length T.length S.at_ c.all c.open_ (by simp; omega) (by omega)]
  cases zdr T T.length S.at_ c.all c.open_ with
  | inl f=>rfl
  | inr q =>
   obtain ⟨j,al,op⟩:=q
   simp only [shL]
   rw [tk_c]
   split
   ·rfl
   rw [zoh]
   cases insP T S.syms j with
   | inl f=>rfl
   | inr q=>obtain ⟨⟨y,t⟩,k⟩:=q; rfl
theorem znh(S:PSt):ze1 (x::T) S.up=shS (ze1 T S):=by
 have h0:zcA (x::T) S.up=shS (zcA T S):=by
  unfold zcA
  have hr:=zm6 x T S
  have e1:S.up.at_=S.at_+1:=rfl
  rw [e1,tk_c,hr]
  split
  ·rfl
  split
  ·unfold symP
   have e2:S.up.bs=S.bs:=rfl
   have e3:S.up.syms=S.syms:=rfl
   rw [e1,e2,e3,tk_c,zkT x T (S.at_+1),tk_c x T (S.at_+1)]
   have e4:tk (x::T) (S.at_+1+2)=tk T (S.at_+2):=tk_c x T (S.at_+2)
   rw [e4]
   have e5:zb9 (x::T) (zbH (tk T (S.at_+2)).Text).1 (x::T).length (S.at_+1+3) []=shL (zb9 T (zbH (tk T (S.at_+2)).Text).1 T.length (S.at_+3) []):=zjt x T _ _ _ (S.at_+3) [] (by simp; omega) (by omega)
   rw [e5]
   split
   ·rfl
   split
   ·rfl
   split
   ·rfl
   split
   ·rfl
   split
   ·rfl
   split
   ·rfl
   cases zb9 T (zbH (tk T (S.at_+2)).Text).1 T.length (S.at_+3) [] with
   | inl f=>rfl
   | inr q=>obtain ⟨j,l⟩:=q; rfl
  split
  ·unfold thrP
   have e2:S.up.bs=S.bs:=rfl
   rw [e1,e2,tk_c]
   split <;> rfl
  ·rfl
 unfold ze1
 rw [h0]
 cases zcA T S with
 | inl f=>rfl
 | inr S1 =>
  unfold zfW
  simp only [shS]
  have e1:S1.up.at_=S1.at_+1:=rfl
  rw [e1,tk_c]
  split <;> rfl
theorem zjq:∀(n:Nat) (S:PSt),zbY (x::T) n S.up=shS (zbY T n S)
 | 0,S=>rfl
 | n+1,S=>by
  unfold zbY
  have e1:(S.up.at_<(x::T).length)=(S.at_<T.length):=by
   show (S.at_+1<T.length+1)=_
   exact propext ⟨fun h=>by omega,fun h=>by omega⟩
  rw [znh]
  simp only [e1]
  split
  ·cases ze1 T S with
   | inl f=>rfl
   | inr S'=>exact zjq n S'
  ·rfl
theorem zl4(hx:x.Kind=4):zdy (x::T)=zdy T:=by
 have h0:zbY (x::T) (x::T).length St0=shS (zbY T T.length St0):=by
  have:ze1 (x::T) St0=.inr St0.up:=by
   have e0:tk (x::T) 0=x:=rfl
   have e1:St0.at_=0:=rfl
   unfold ze1 zcA
   rw [e1,e0,hx,if_pos (by decide)]
   unfold zfW
   simp only
   rw [e1,e0,hx,if_neg (by decide)]
   rfl
  rw [List.length_cons,zbY,if_pos (by show 0<_; simp),this]
  exact zjq x T T.length St0
 unfold zdy
 rw [h0]
 cases zbY T T.length St0 with
 | inl f=>rfl
 | inr S=>rfl
end
end Go.Vs
end
section
namespace Go.Vs
local instance tabPalV7:Tab:=⟨fun _=>none⟩
def nlB:ByteArray:=⟨#[10]⟩
def up(y:zah):zah:={ Rune:=y.Rune,At:=y.At+1,Size:=y.Size,Line:=y.Line+1,Col:=y.Col,Bad:=y.Bad }
def upT(t:zab):zab:=⟨t.Kind,t.Line+1,t.Col,t.Text⟩
def upF(f:zag):zag:=⟨f.Code,f.Line+1,f.Col⟩
def x0:zah:={ Rune:=10,At:=0,Size:=1,Line:=1,Col:=1,Bad:=false }
theorem zl6(s:ByteArray):nlB++s=bs (10::s.data.toList):=bext (by rw [zlz,zg1]; rfl)
theorem zls(s:ByteArray)(pos:Nat)(h:pos<=s.size):Utf8.decode (nlB++s) (pos+1)=Utf8.decode s pos:=by
 have hl:=zly s
 have e1:nlB++s=bs ((10::s.data.toList.take pos)++s.data.toList.drop pos):=by rw [zl6,List.cons_append,List.take_append_drop]
 have e2:s=bs (s.data.toList.take pos++s.data.toList.drop pos):=by rw [List.take_append_drop,zow]
 have l1:(s.data.toList.take pos).length=pos:=by simp; omega
 have h1:=zgG (10::s.data.toList.take pos) (s.data.toList.drop pos)
 have h2:=zgG (s.data.toList.take pos) (s.data.toList.drop pos)
 rw [← e1,List.length_cons,l1] at h1
 rw [← e2,l1] at h2
 rw [h1,h2]
theorem zh1(s:ByteArray):∀(f pos:Nat) (line col:Int),pos<=s.size->zbU (nlB++s) f (pos+1) (line+1) col=(zbU s f pos line col).map up
 | 0,pos,line,col,h=>rfl
 | f+1,pos,line,col,h=>by
  have hz:(nlB++s).size=s.size+1:=by rw [ByteArray.size_append]; show 1+s.size=_; omega
  rw [zbU,zbU,hz,zls s pos h]
  by_cases hp:pos<s.size
  ·have hd:=zfA s 1 pos 1 1 { Rune:=((Utf8.decode s pos).1:Int),At:=(pos:Int),Size:=((Utf8.decode s pos).2:Int),Line:=1,Col:=1,Bad:=(Utf8.decode s pos).1==65533&&(Utf8.decode s pos).2==1 } (by rw [zbU,if_pos hp]; simp)
   obtain ⟨_,_,d3,_⟩:=hd
   simp only at d3
   have ih:=zh1 s f (pos+(Utf8.decode s pos).2) (if (Utf8.decode s pos).1=10 then line+1 else line) (if (Utf8.decode s pos).1=10 then 1 else col+1) (by omega)
   rw [if_pos (by omega),if_pos hp,List.map_cons,← ih]
   congr 1
   congr 1
   ·omega
   ·split <;> rfl
  ·rw [if_neg (by omega),if_neg hp]; rfl
theorem zlT(s:ByteArray):zaU (nlB++s)=x0::(zaU s).map up:=by
 have hz:(nlB++s).size=s.size+1:=by rw [ByteArray.size_append]; show 1+s.size=_; omega
 have hd:Utf8.decode (nlB++s) 0=(10,1):=by
  have:=zgG [] (10::s.data.toList)
  rw [List.nil_append,← zl6] at this
  rw [show ([]:List UInt8).length=0 from rfl] at this
  rw [this]
  unfold dec0 Lib.decodeN
  have:gB (10::s.data.toList) 0=10:=rfl
  rw [this,if_pos (by decide)]
 unfold zaU
 rw [hz,zbU,if_pos (by omega),hd]
 have:=zh1 s s.size 0 1 1 (by omega)
 simp only [Nat.zero_add] at this ⊢
 simp only [if_true]
 rw [show ((1:Int)+1)=1+1 from rfl] at this
 rw [this]
 rfl
section
variable {s:ByteArray} {v v':List zah} (g:Good s v) (hv:v'=x0::v.map up)
include hv
theorem zio:v'.length=v.length+1:=by rw [hv]; simp
theorem zkB{i:Int}(h:InB i v.length):rd v' (i+1)=up (rd v i):=by
 have h1:=zhD h
 have h2:v'[i.toNat+1]?=some (up (rd v i)):=by rw [hv,List.getElem?_cons_succ,List.getElem?_map,h1]; rfl
 have:=zcq h2
 rwa [show ((i.toNat+1:Nat):Int)=i+1 by have:=h.1; omega] at this
theorem zmS{i:Int}(h0:0<=i):zcQ v' (i+1)=zcQ v i:=by
 unfold zcQ
 have hl:=zio hv
 by_cases h:i<v.length
 ·rw [zkB hv ⟨h0,by omega⟩]
  have e1:decide (i+1<(v'.length:Int))=true:=decide_eq_true (by omega)
  have e2:decide (i<(v.length:Int))=true:=decide_eq_true h
  rw [e1,e2]; rfl
 ·have e1:decide (i+1<(v'.length:Int))=false:=decide_eq_false (by omega)
  have e2:decide (i<(v.length:Int))=false:=decide_eq_false h
  rw [e1,e2]; rfl
theorem zmA:∀(n:Nat) (i:Int),0<=i->runC v' n (i+1)=runC v n i+1
 | 0,i,h=>rfl
 | n+1,i,h=>by
  rw [runC,runC,zmS hv h]
  split
  ·exact zmA n (i+1) (by omega)
  ·rfl
def mapM:Int ⊕ ((List zab) × zag)->Int ⊕ ((List zab) × zag)
 | .inl k=>.inl (k+1)
 | .inr (l,f)=>.inr (l,upF f)
theorem zmC:∀(n:Nat) (i:Int),0<=i->remC v' n (i+1)=mapM (remC v n i)
 | 0,i,h=>rfl
 | n+1,i,h=>by
  have hl:=zio hv
  have hat:zcD v' (i+1)=(match zcD v i with | .inl k=>.inl (k+1) | .inr r=>.inr (mapM r)):=by
   unfold zcD
   by_cases hi:i<v.length
   ·rw [zkB hv ⟨h,by omega⟩]
    have e1:decide (i+1<(v'.length:Int))=true:=decide_eq_true (by omega)
    have e2:decide (i<(v.length:Int))=true:=decide_eq_true hi
    rw [e1,e2]
    have f1:(up (rd v i)).Rune=(rd v i).Rune:=rfl
    have f2:(up (rd v i)).Bad=(rd v i).Bad:=rfl
    rw [f1,f2]
    by_cases c1:(true&&(rd v i).Rune != 10)=true
    ·rw [if_pos c1,if_pos c1]
     by_cases c2:(rd v i).Bad=true
     ·rw [if_pos c2,if_pos c2]; rfl
     ·rw [if_neg c2,if_neg c2]
    ·rw [if_neg c1,if_neg c1]; rfl
   ·have e1:decide (i+1<(v'.length:Int))=false:=decide_eq_false (by omega)
    have e2:decide (i<(v.length:Int))=false:=decide_eq_false hi
    rw [e1,e2]; rfl
  rw [remC,remC,hat]
  cases hq:zcD v i with
  | inr r=>rfl
  | inl k =>
   have hk:k=i+1:=by
    unfold zcD at hq
    split at hq
    ·split at hq
     ·cases hq
     ·cases hq; rfl
    ·cases hq
   subst hk
   exact zmC n (i+1) (by omega)
end
theorem zjd(v:List zah):∀(n:Nat) (i:Int),0<=i->v.length<=i+n->runC v (n+1) i=runC v n i
 | 0,i,h0,h=>by
  rw [runC,runC]
  have:zcQ v i=false:=by
   unfold zcQ
   have:decide (i<(v.length:Int))=false:=decide_eq_false (by omega)
   rw [this]; rfl
  rw [this]; rfl
 | n+1,i,h0,h=>by
  rw [runC]
  conv=>rhs; rw [runC]
  split
  ·exact zjd v n (i+1) (by omega) (by omega)
  ·rfl
theorem zjg(v:List zah):∀(n:Nat) (i:Int),0<=i->v.length<=i+n->remC v (n+1) i=remC v n i
 | 0,i,h0,h=>by
  have:zcD v i=.inr (.inl i):=by
   unfold zcD
   have:decide (i<(v.length:Int))=false:=decide_eq_false (by omega)
   rw [this]; rfl
  have e1:remC v (0+1) i=(match zcD v i with | .inl j=>remC v 0 j | .inr r=>r):=rfl
  rw [e1,this]; rfl
 | n+1,i,h0,h=>by
  rw [remC]
  conv=>rhs; rw [remC]
  cases hq:zcD v i with
  | inr r=>rfl
  | inl k =>
   have hk:k=i+1:=by
    unfold zcD at hq
    split at hq
    ·split at hq
     ·cases hq
     ·cases hq; rfl
    ·cases hq
   subst hk
   exact zjg v n (i+1) (by omega) (by omega)
theorem zmB(v:List zah):∀(n:Nat) (i:Int),i<=v.length->runC v n i<=v.length
 | 0,i,h=>h
 | n+1,i,h=>by
  rw [runC]
  split
  ·rename_i hw
   refine zmB v n (i+1) ?_
   unfold zcQ at hw
   simp only [Bool.and_eq_true,decide_eq_true_eq] at hw
   omega
  ·exact h
def mapK(l0:List zab):(Int × List zab) ⊕ (List zab ⊕ ((List zab) × zag))->(Int × List zab) ⊕ (List zab ⊕ ((List zab) × zag))
 | .inl (k,l)=>.inl (k+1,l0++l.map upT)
 | .inr (.inl L)=>.inr (.inl L)
 | .inr (.inr (q,f))=>.inr (.inr (q,upF f))
def mapC(l0:List zab):List zab ⊕ ((List zab) × zag)->List zab ⊕ ((List zab) × zag)
 | .inl L=>.inl (l0++L.map upT)
 | .inr (q,f)=>.inr (q,upF f)
section
variable {s:ByteArray} {v v':List zah} (g:Good s v) (hv:v'=x0::v.map up) (l0:List zab)
include g hv
theorem zmZ{i k kind:Int}{l:List zab}(hi:InB i v.length)(hk:i<k)(hk2:k<=v.length):tail v' (nlB++s) (i+1) (l0++l.map upT) (k+1) kind=mapK l0 (tail v s i l k kind):=by
 have hb:InB (k-1) v.length:=⟨by have:=hi.1; omega,by have:=hi.1; omega⟩
 have e1:=zkB hv hi
 have e2:=zkB hv hb
 have a1:=(g.at0 i hi).1
 obtain ⟨a2,a3,a4⟩:=g.at0 (k-1) hb
 have ht:(nlB++s).extract (rd v' (i+1)).At.toNat ((rd v' (k+1-1)).At+(rd v' (k+1-1)).Size).toNat=s.extract (rd v i).At.toNat ((rd v (k-1)).At+(rd v (k-1)).Size).toNat:=by
  rw [show k+1-1=k-1+1 by omega,e1,e2]
  have f1:(up (rd v i)).At.toNat=(rd v i).At.toNat+1:=by show ((rd v i).At+1).toNat=_; omega
  have f2:((up (rd v (k-1))).At+(up (rd v (k-1))).Size).toNat=((rd v (k-1)).At+(rd v (k-1)).Size).toNat+1:=by show ((rd v (k-1)).At+1+(rd v (k-1)).Size).toNat=_; omega
  rw [f1,f2,zl6]
  apply bext
  rw [ByteArray.data_extract,ByteArray.data_extract]
  simp [bs]
 unfold tail
 dsimp only
 rw [ht,e1]
 have f3:(up (rd v i)).Line=(rd v i).Line+1:=rfl
 have f4:(up (rd v i)).Col=(rd v i).Col:=rfl
 rw [f3,f4,show k+1-(i+1)=k-i by omega]
 by_cases c1:kind=1/\k-i>16
 ·rw [if_pos c1,if_pos c1]; rfl
 rw [if_neg c1,if_neg c1]
 by_cases c2:kind=2/\(zbH (s.extract (rd v i).At.toNat ((rd v (k-1)).At+(rd v (k-1)).Size).toNat)).2=false
 ·rw [if_pos c2,if_pos c2]; rfl
 ·rw [if_neg c2,if_neg c2]
  simp [mapK,upT]
theorem zlS{i:Int}{l:List zab}(hi:InB i v.length):zc0 v' (nlB++s) (i+1) (l0++l.map upT)=mapK l0 (zc0 v s i l):=by
 have hl:=zio hv
 have h0:=hi.1
 have hlt:i<v.length:=by have:=hi.2; omega
 have er:runC v' v'.length (i+1+1)=runC v v.length (i+1)+1:=by rw [hl,zmA hv _ _ (by omega),zjd v _ _ (by omega) (by omega)]
 have em:remC v' v'.length (i+1+1)=mapM (remC v v.length (i+1)):=by rw [hl,zmC hv _ _ (by omega),zjg v _ _ (by omega) (by omega)]
 have hr1:=ziJ v v.length (i+1)
 have hr2:=zmB v v.length (i+1) (by omega)
 have tl:=fun k kind (h1:i<k) (h2:k<=v.length)=>zmZ g hv l0 (i:=i) (k:=k) (kind:=kind) (l:=l) hi h1 h2
 unfold zc0
 rw [er,em,zkB hv hi]
 have f1:(up (rd v i)).Rune=(rd v i).Rune:=rfl
 have f2:(up (rd v i)).Bad=(rd v i).Bad:=rfl
 have f3:(up (rd v i)).Line=(rd v i).Line+1:=rfl
 have f4:(up (rd v i)).Col=(rd v i).Col:=rfl
 rw [f1,f2,f3,f4]
 by_cases c1:(rd v i).Bad=true
 ·rw [if_pos c1,if_pos c1]; rfl
 rw [if_neg c1,if_neg c1]
 by_cases c2:zeb (rd v i).Rune=true
 ·rw [if_pos c2,if_pos c2]; rfl
 rw [if_neg c2,if_neg c2]
 by_cases c3:(rd v i).Rune=59
 ·rw [if_pos c3,if_pos c3]
  cases remC v v.length (i+1) with
  | inl k=>rfl
  | inr q=>rfl
 rw [if_neg c3,if_neg c3]
 by_cases c4:(rd v i).Rune=10
 ·rw [if_pos c4,if_pos c4]; exact tl (i+1) 4 (by omega) (by omega)
 rw [if_neg c4,if_neg c4]
 by_cases c5:zgO (rd v i).Rune=true
 ·rw [if_pos c5,if_pos c5]; exact tl (i+1) 3 (by omega) (by omega)
 rw [if_neg c5,if_neg c5]
 by_cases c6:zcN (rd v i).Rune=true
 ·rw [if_pos c6,if_pos c6]; exact tl _ 1 (by omega) hr2
 rw [if_neg c6,if_neg c6]
 by_cases c7:(zev (rd v i).Rune||((rd v i).Rune==45))=true
 ·rw [if_pos c7,if_pos c7]; exact tl _ 2 (by omega) hr2
 ·rw [if_neg c7,if_neg c7]; rfl
theorem zkm:∀(n:Nat) (i:Int) (l:List zab),0<=i->i<=v.length->l.length<=i.toNat->tokC v' (nlB++s) n (i+1) (l0++l.map upT)=mapC l0 (tokC v s n i l)
 | 0,i,l,h0,hi,hl=>rfl
 | n+1,i,l,h0,hi,hl=>by
  have hlen:=zio hv
  have h1:=g.sm
  have h2:=g.len
  unfold Sm at h1
  rw [tokC,tokC]
  by_cases hlt:i<v.length
  ·have hb:InB i v.length:=⟨h0,by omega⟩
   rw [if_pos (by omega),if_pos hlt,zlS g hv l0 hb]
   cases ht:zc0 v s i l with
   | inl q =>
    obtain ⟨k,l'⟩:=q
    obtain ⟨n1,n2,n3⟩:=zhx g hb (by omega) ht
    exact zkm n k l' (by omega) n2 (by omega)
   | inr r=>cases r with
    | inl L =>
     exfalso
     rcases zgi v s i l with ⟨c,_,h⟩ | ⟨k,_,h⟩ | ⟨k,kind,x,_,h⟩ | ⟨q,_,h⟩ <;> rw [h] at ht <;> cases ht
    | inr q=>obtain ⟨q1,f⟩:=q; rfl
  ·rw [if_neg (by omega),if_neg hlt]; rfl
end
def nlT:zab:=⟨4,1,1,nlB⟩
theorem zkl(s:ByteArray)(hs:Sm s):((zaM s).2.Code=0->(zaM (nlB++s)).1=nlT::(zaM s).1.map upT/\(zaM (nlB++s)).2=⟨0,0,0⟩/\(zaM s).2=⟨0,0,0⟩)/\((zaM s).2.Code≠0->(zaM (nlB++s)).2=upF (zaM s).2):=by
 have g:=zfI s hs
 have hv:=zlT s
 have h2:=g.len
 have hlen:=zio hv
 have hfirst:tokC (zaU (nlB++s)) (nlB++s) (zaU (nlB++s)).length 0 []=tokC (zaU (nlB++s)) (nlB++s) (zaU s).length 1 [nlT]:=by
  rw [hlen,tokC,if_pos (by omega)]
  have e0:rd (zaU (nlB++s)) 0=x0:=by rw [hv]; rfl
  have:zc0 (zaU (nlB++s)) (nlB++s) 0 []=.inl (1,[nlT]):=by
   unfold zc0
   rw [e0]
   have:tail (zaU (nlB++s)) (nlB++s) 0 [] (0+1) 4=.inl (1,[nlT]):=by
    unfold tail
    dsimp only
    rw [show (0:Int)+1-1=0 by rfl,e0]
    have:(nlB++s).extract x0.At.toNat (x0.At+x0.Size).toNat=nlB:=by
     apply bext
     rw [ByteArray.data_extract,zl6]
     simp [bs,x0,nlB]
    rw [this]
    rfl
   rw [this]
   rfl
  rw [this]
 have hrest:=zkm g hv [nlT] (zaU s).length 0 [] (by omega) (by omega) (by simp)
 have hrest':tokC (zaU (nlB++s)) (nlB++s) (zaU s).length 1 [nlT]=mapC [nlT] (tokC (zaU s) s (zaU s).length 0 []):=by simpa using hrest
 have hend:zef (zaU (nlB++s))=((zef (zaU s)).1+1,(zef (zaU s)).2):=by
  rw [hv]
  unfold zef
  cases hl:(zaU s).getLast? with
  | none =>
   have:zaU s=[]:=List.getLast?_eq_none_iff.1 hl
   rw [this]; rfl
  | some x =>
   have hne:zaU s≠[]:=by intro e; rw [e] at hl; cases hl
   have:(x0::(zaU s).map up).getLast?=some (up x):=by
    rw [List.getLast?_cons,List.getLast?_map,hl]; rfl
   rw [this]
   simp only
   have f1:(up x).Rune=x.Rune:=rfl
   have f3:(up x).Line=x.Line+1:=rfl
   have f4:(up x).Col=x.Col:=rfl
   rw [f1,f3,f4]
   split <;> rfl
 unfold zaM
 rw [hfirst,hrest',hend]
 cases hx:tokC (zaU s) s (zaU s).length 0 [] with
 | inl L=>exact ⟨fun _=>⟨by simp [mapC,upT,nlT],rfl,rfl⟩,fun h=>absurd rfl h⟩
 | inr q =>
  obtain ⟨q1,f⟩:=q
  refine ⟨fun h=>?_,fun _=>rfl⟩
  have hc:=(zkn g (zaU s).length 0 [] (by omega) (by omega) (by simp) (fun t ht=>by simp at ht)).2 _ hx
  exact absurd h hc
end Go.Vs
end
section
namespace Go.Vs
local instance tabPalQ8:Tab:=⟨fun _=>none⟩
theorem ziB:zbX=some true:=by
 unfold zbX
 rw [zeE ⟨#[115,121,109,32,120,32,50,32,55,10,116,104,114,101,97,100,10,97,58,32,106,109,112,32,97]⟩ (show (25:Nat)<=99000 by decide),zeE ⟨#[109,111,118,32,114,97,120,44,32,49]⟩ (show (10:Nat)<=99000 by decide),zqg,zqf]
 simp only [Option.bind_some]
 rw [if_pos (fun _=>⟨by decide,by decide⟩)]
 rfl
theorem zl3{s:ByteArray}(hs:s.size<=98000):(za5 (nlB++s)).1=(za5 s).1/\((za5 s).2.Code=0->(za5 (nlB++s)).2=(za5 s).2)/\((za5 s).2.Code≠0->(za5 (nlB++s)).2=upF (za5 s).2):=by
 have hsm:Sm s:=by unfold Sm; omega
 obtain ⟨u1,u2⟩:=zkl s hsm
 unfold za5
 by_cases hc:(zaM s).2.Code=0
 ·obtain ⟨h1,h2,h3⟩:=u1 hc
  rw [if_neg (by rw [h2]; decide),if_neg (by rw [hc]; decide),h1,zl4 nlT _ rfl]
  have hT:=ze6 s (by omega) hc
  generalize (zaM s).1=T at hT
  have R:RwT T (T.map upT):=by
   have key:∀i:Nat,tk (T.map upT) i=(if i<T.length then upT (tk T i) else tk T i):=by
    intro i
    by_cases hi:i<T.length
    ·rw [if_pos hi]
     have h1:T[i]?=some T[i]:=List.getElem?_eq_getElem hi
     have h2:(T.map upT)[i]?=some (upT T[i]):=by rw [List.getElem?_map,h1]; rfl
     show rd _ _=upT (rd _ _)
     rw [zcq h2,zcq h1]
    ·rw [if_neg hi]
     show rd _ _=rd _ _
     unfold rd
     rw [List.getD_eq_getElem?_getD,List.getElem?_eq_none (by simp; omega),List.getD_eq_getElem?_getD,List.getElem?_eq_none (by simp; omega)]
   exact ⟨hT,by simp,fun i=>by rw [key]; split <;> rfl,fun i=>by rw [key]; split <;> rfl⟩
  obtain ⟨p1,p2⟩:=R.parse
  refine ⟨p1.symm,fun h=>?_,fun h=>?_⟩
  ·rcases p2 with ⟨q1,q2⟩ | ⟨⟨c,t,t',q1,_,q2,_⟩,_⟩
   ·rw [q1,q2]
   ·rw [q2] at h; exact absurd h q1
  ·rcases p2 with ⟨q1,q2⟩ | ⟨⟨c,t,t',q1,⟨i,hi,e1,e2⟩,q2,q3⟩,_⟩
   ·rw [q1] at h; exact absurd rfl h
   ·have h1:T[i]?=some T[i]:=List.getElem?_eq_getElem hi
    have h2:(T.map upT)[i]?=some (upT T[i]):=by rw [List.getElem?_map,h1]; rfl
    have e3:tk T i=T[i]:=zcq h1
    have e4:tk (T.map upT) i=upT T[i]:=zcq h2
    rw [q3,q2,e1,e2,e3,e4]; rfl
 ·have h1:=u2 hc
  have hc':(zaM (nlB++s)).2.Code≠0:=by rw [h1]; exact hc
  rw [if_pos (by simpa using hc'),if_pos (by simpa using hc),h1]
  exact ⟨rfl,fun h=>absurd h hc,fun _=>rfl⟩
def nlN:Nat->ByteArray->ByteArray
 | 0,s=>s
 | n+1,s=>nlB++nlN n s
theorem zf7(s:ByteArray):∀n,(nlN n s).size=s.size+n
 | 0=>rfl
 | n+1=>by
  show (nlB++nlN n s).size=_
  rw [ByteArray.size_append,zf7 s n]
  show 1+(s.size+n)=_
  omega
theorem zie{s:ByteArray}(hs:s.size<=90000):∀n:Nat,n<=1000->(za5 (nlN n s)).1=(za5 s).1/\((za5 s).2.Code=0->(za5 (nlN n s)).2=(za5 s).2)/\((za5 s).2.Code≠0->(za5 (nlN n s)).2=⟨(za5 s).2.Code,(za5 s).2.Line+n,(za5 s).2.Col⟩)
 | 0,_=>⟨rfl,fun _=>rfl,fun _=>by show (za5 s).2=_; simp⟩
 | n+1,hn=>by
  obtain ⟨h1,h2,h3⟩:=zie hs n (by omega)
  obtain ⟨u1,u2,u3⟩:=zl3 (s:=nlN n s) (by rw [zf7]; omega)
  show (za5 (nlB++nlN n s)).1=_/\_
  refine ⟨u1.trans h1,fun h=>?_,fun h=>?_⟩
  ·show (za5 (nlB++nlN n s)).2=_
   rw [u2 (by rw [h2 h]; exact h),h2 h]
  ·show (za5 (nlB++nlN n s)).2=_
   have:=h3 h
   rw [u3 (by rw [this]; exact h),this]
   unfold upF
   simp only
   congr 1
   omega
theorem zjj(v3:Int)(n:Nat)(hn:v3=(n:Int))(hn5:n<=1000)(s:ByteArray)(hs:s.size<=90000):∀(k i:Nat),n-i=k->i<=n->za7 (zaF v3) (nlN i s,(i:Int))=some (nlN n s)
 | 0,i,hk,hi=>by
  have:i=n:=by omega
  subst this
  refine zaE ?_
  simp only [zaF]
  rw [if_neg (by simp; omega)]
 | k+1,i,hk,hi=>by
  have hst:zaF v3 (nlN i s,(i:Int))=some (.inl (nlN (i+1) s,((i+1:Nat):Int))):=by
   simp only [zaF]
   have hz:=zf7 s i
   have z1:(⟨#[10]⟩:ByteArray).size=1:=rfl
   have hwr:IntKind.wrap .i64 ((i:Int)+1)=(i:Int)+1:=zbP ⟨by omega,by omega⟩
   rw [if_pos (by simp; omega),if_pos (show zlC (⟨#[10]⟩:ByteArray) (nlN i s) by unfold zlC; omega),hwr]
   rfl
  rw [zbs hst]
  exact zjj v3 n hn hn5 s hs k (i+1) (by omega) (by omega)
theorem zkA{s:ByteArray}(hs:s.size<=99000)(hz:(za5 s).2.Code≠0):1<=(za5 s).2.Line/\(za5 s).2.Line<=200000:=by
 have hp:=zjI s hs
 unfold za5 at hz ⊢
 by_cases hc:((zaM s).2.Code != 0)=true
 ·rw [if_pos hc]
  obtain ⟨a,b,c⟩:=hp.2 (by simpa using hc)
  exact ⟨a,c⟩
 rw [if_neg hc] at hz ⊢
 have hT:=ze6 s hs (by simpa using hc)
 have R:RwT (zaM s).1 (zaM s).1:=⟨hT,rfl,fun _=>rfl,fun _=>rfl⟩
 rcases R.parse.2 with ⟨h1,_⟩ | ⟨⟨c,t,t',h1,⟨i,hi,e1,_⟩,h2,_⟩,h3⟩
 ·rw [h1] at hz; exact absurd rfl hz
 ·rw [h2,e1]
  have:tk (zaM s).1 i∈(zaM s).1:=List.mem_of_getElem? (zhD (zba hi))
  obtain ⟨a,b,c⟩:=hp.1 _ this
  exact ⟨a,c⟩
theorem zgM(s0:ByteArray)(n0:Int)(hn0:I64 n0):zbF s0 n0=some true:=by
 obtain ⟨s,ht,hs⟩:=zjN s0 (n:=400) (by decide)
 obtain ⟨k,e1,k0,k1⟩:=zkJ hn0 5 (by omega) (by omega)
 obtain ⟨n,rfl⟩:∃n:Nat,k=(n:Int):=⟨k.toNat,by omega⟩
 unfold zbF
 rw [ht]
 simp only [Option.bind_some]
 rw [e1]
 simp only [Option.bind_some]
 rw [zeE s (by omega)]
 simp only [Option.bind_some]
 have hl:=zjj (n:Int) n rfl (by omega) s (by omega) n 0 (by omega) (by omega)
 have hl':za7 (zaF (n:Int)) (s,0)=some (nlN n s):=hl
 rw [hl']
 simp only [Option.bind_some]
 rw [zeE _ (by rw [zf7]; omega)]
 simp only [Option.bind_some]
 obtain ⟨h1,h2,h3⟩:=zie (s:=s) (by omega) n (by omega)
 have ok:=zkK s (by omega)
 have hsame:zbm (za5 s).1 (za5 s).1=some true:=by
  rw [ziG _ _ (by have:=ok.syms; omega) (by have:=ok.th; omega) (fun s h=>by have:=ok.init s h; omega) (fun t h=>⟨by have:=(ok.ins t h).1; omega,fun x hx=>by have:=(ok.ins t h).2 x hx; omega⟩)]
  simp
 unfold zaW
 by_cases hz:(za5 s).2.Code=0
 ·rw [if_neg (by rw [hz]; decide),h1,h2 hz]
  simp only [beq_self_eq_true,Bool.and_self,if_true,hsame,Option.bind_some,ziB]
 ·obtain ⟨l1,l2⟩:=zkA (s:=s) (by omega) hz
  have hw:IntKind.wrap .i64 ((za5 s).2.Line+(n:Int))=(za5 s).2.Line+(n:Int):=zbP ⟨by omega,by omega⟩
  rw [if_pos (by simpa using hz),h1,h3 hz,hw]
  simp only [beq_self_eq_true,Bool.and_self,if_true,hsame,Option.bind_some,ziB]
end Go.Vs
end
