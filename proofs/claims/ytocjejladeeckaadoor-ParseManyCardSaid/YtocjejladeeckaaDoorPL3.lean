import Derived.Test.YtocjejladeeckaaDoorPP4
import Derived.Test.YtocjejladeeckaaDoorPP5
import Derived.Test.YtocjejladeeckaaDoorPL1
import Derived.Test.YtocjejladeeckaaDoorPalS
import Derived.Test.YtocjejladeeckaaDoorPP1
import Derived.Test.YtocjejladeeckaaDoorPL5
set_option linter.all false
section
namespace Go.Vs
local instance tabPalV1:Tab:=⟨fun _=>none⟩
structure RwT (T T':List zab):Prop where
 ok:zcx T
 len:T'.length=T.length
 kind:∀i:Nat,(tk T' i).Kind=(tk T i).Kind
 text:∀i:Nat,(tk T' i).Text=(tk T i).Text
def TkR(T T':List zab)(t t':zab):Prop:=∃i,i<T.length/\t=tk T i/\t'=tk T' i
def FltR(T T':List zab)(f f':zag):Prop:=∃c t t',c≠0/\TkR T T' t t'/\f=flt c t/\f'=flt c t'
def ResR(T T':List zab){α:Type}(q q':Res α):Prop:=match q,q' with
 | .inl f,.inl f'=>FltR T T' f f'
 | .inr x,.inr y=>y=x/\x.2<T.length
 | _,_=>False
def LabR(T T':List zab){α:Type}(q q':zag ⊕ (Nat × α)):Prop:=match q,q' with
 | .inl f,.inl f'=>FltR T T' f f'
 | .inr x,.inr y=>y=x/\x.1<T.length
 | _,_=>False
def InR(T T':List zab)(q q':Res (zak × zab)):Prop:=match q,q' with
 | .inl f,.inl f'=>FltR T T' f f'
 | .inr x,.inr y=>y.1.1=x.1.1/\y.2=x.2/\x.2<T.length/\(x.1.1.To≠⟨#[]⟩->TkR T T' x.1.2 y.1.2)
 | _,_=>False
section
variable {T T':List zab} (R:RwT T T')
include R
theorem RwT.sg(i:Nat)(s:ByteArray):sgB T' i s=sgB T i s:=by unfold sgB; rw [R.kind,R.text]
theorem RwT.fl{c:Int}{i:Nat}(hc:c≠0)(h:i<T.length):FltR T T' (flt c (tk T i)) (flt c (tk T' i)):=⟨c,_,_,hc,⟨i,h,rfl,rfl⟩,rfl,rfl⟩
theorem RwT.nx{i:Nat}(h:i<T.length)(k:(tk T i).Kind≠4):i+1<T.length:=R.ok.next i h k
theorem RwT.nxs{i:Nat}{s:ByteArray}(h:i<T.length)(k:sgB T i s=true):i+1<T.length:=by
 refine R.nx h ?_
 unfold sgB at k
 simp only [Bool.and_eq_true,beq_iff_eq] at k
 rw [k.1]; decide
theorem RwT.idx{syms:List zau}{k i:Nat}(h:i<T.length):ResR T T' (idxP T syms k i) (idxP T' syms k i):=by
 unfold idxP
 rw [R.kind,R.text]
 by_cases c1:((tk T i).Kind==2)=true
 ·rw [if_pos c1,if_pos c1]
  by_cases c2:(decide ((zbY (tk T i).Text).1<0)||decide ((zbY (tk T i).Text).1≥(rd syms (k:Int)).Size))=true
  ·rw [if_pos c2,if_pos c2]; exact R.fl (by decide) h
  ·rw [if_neg c2,if_neg c2]; exact ⟨rfl,R.nx h (by rw [show (tk T i).Kind=2 by simpa using c1]; decide)⟩
 ·rw [if_neg c1,if_neg c1]
  cases fnd zfi (tk T i).Text with
  | none=>exact R.fl (by decide) h
  | some r =>
   simp only
   by_cases c3:((tk T i).Kind==1)=true
   ·rw [if_pos c3,if_pos c3]; exact ⟨rfl,R.nx h (by rw [show (tk T i).Kind=1 by simpa using c3]; decide)⟩
   ·rw [if_neg c3,if_neg c3]; exact R.fl (by decide) h
theorem RwT.opd{syms:List zau}{i:Nat}(h:i<T.length):ResR T T' (opdP T syms i) (opdP T' syms i):=by
 unfold opdP
 rw [R.kind i,R.text i,R.sg]
 by_cases c1:((tk T i).Kind==2)=true
 ·rw [if_pos c1,if_pos c1]; exact ⟨rfl,R.nx h (by rw [show (tk T i).Kind=2 by simpa using c1]; decide)⟩
 rw [if_neg c1,if_neg c1]
 by_cases c2:((tk T i).Kind != 1)=true
 ·rw [if_pos c2,if_pos c2]; exact R.fl (by decide) h
 rw [if_neg c2,if_neg c2]
 have h1:=R.nx h (by rw [show (tk T i).Kind=1 by simpa using c2]; decide)
 cases fnd zfi (tk T i).Text with
 | some r=>exact ⟨rfl,h1⟩
 | none =>
  simp only
  by_cases c3:zeD (tk T i).Text=true
  ·rw [if_pos c3,if_pos c3]; exact R.fl (by decide) h
  rw [if_neg c3,if_neg c3]
  cases fnd (zeK syms) (tk T i).Text with
  | none=>exact R.fl (by decide) h
  | some k =>
   simp only
   by_cases c4:(!sgB T (i+1) ⟨#[91]⟩)=true
   ·rw [if_pos c4,if_pos c4]; exact R.fl (by decide) h1
   rw [if_neg c4,if_neg c4]
   have h2:=R.nxs h1 (by simpa using c4)
   have hx:=R.idx (syms:=syms) (k:=k) h2
   cases q:idxP T syms k (i+2) with
   | inl f=>cases q':idxP T' syms k (i+2) with
    | inl f'=>rw [q,q'] at hx; exact hx
    | inr x'=>rw [q,q'] at hx; exact hx.elim
   | inr x=>cases q':idxP T' syms k (i+2) with
    | inl f'=>rw [q,q'] at hx; exact hx.elim
    | inr x' =>
     rw [q,q'] at hx
     obtain ⟨rfl,hj⟩:=hx
     obtain ⟨o,j⟩:=x'
     simp only
     rw [R.sg]
     by_cases c5:(!sgB T j ⟨#[93]⟩)=true
     ·rw [if_pos c5,if_pos c5]; exact R.fl (by decide) hj
     ·rw [if_neg c5,if_neg c5]; exact ⟨rfl,R.nxs hj (by simpa using c5)⟩
theorem RwT.ops{syms:List zau}{op:Int}{lk:Bool}{i:Nat}(h:i<T.length):ResR T T' (opsP T syms op lk i) (opsP T' syms op lk i):=by
 unfold opsP
 have hx:=R.opd (syms:=syms) h
 cases q:opdP T syms i with
 | inl f=>cases q':opdP T' syms i with
  | inl f'=>rw [q,q'] at hx; exact hx
  | inr x'=>rw [q,q'] at hx; exact hx.elim
 | inr x=>cases q':opdP T' syms i with
  | inl f'=>rw [q,q'] at hx; exact hx.elim
  | inr x' =>
   rw [q,q'] at hx
   obtain ⟨rfl,hj⟩:=hx
   obtain ⟨a,j⟩:=x'
   simp only
   by_cases c1:zir op lk a=true
   ·rw [if_pos c1,if_pos c1]; exact R.fl (by decide) h
   rw [if_neg c1,if_neg c1,R.sg]
   by_cases c2:(!sgB T j ⟨#[44]⟩)=true
   ·rw [if_pos c2,if_pos c2]; exact R.fl (by decide) hj
   rw [if_neg c2,if_neg c2]
   have h2:=R.nxs hj (by simpa using c2)
   have hy:=R.opd (syms:=syms) h2
   cases p:opdP T syms (j+1) with
   | inl f=>cases p':opdP T' syms (j+1) with
    | inl f'=>rw [p,p'] at hy; exact hy
    | inr x'=>rw [p,p'] at hy; exact hy.elim
   | inr y=>cases p':opdP T' syms (j+1) with
    | inl f'=>rw [p,p'] at hy; exact hy.elim
    | inr y' =>
     rw [p,p'] at hy
     obtain ⟨rfl,hk⟩:=hy
     obtain ⟨b,k⟩:=y'
     simp only
     by_cases c3:(!row0 op lk a b)=true
     ·rw [if_pos c3,if_pos c3]; exact R.fl (by decide) h2
     ·rw [if_neg c3,if_neg c3]; exact ⟨rfl,hk⟩
theorem RwT.nameP(i:Nat)(h:i<T.length):(nameP T i=none/\Go.Vs.nameP T' i=none/\(tk T i).Kind=1)\/∃f f',Go.Vs.nameP T i=some f/\Go.Vs.nameP T' i=some f'/\FltR T T' f f':=by
 unfold Go.Vs.nameP
 rw [R.kind,R.text]
 by_cases c1:((tk T i).Kind != 1)=true
 ·rw [if_pos c1,if_pos c1]; exact .inr ⟨_,_,rfl,rfl,R.fl (by decide) h⟩
 rw [if_neg c1,if_neg c1]
 by_cases c2:zeD (tk T i).Text=true
 ·rw [if_pos c2,if_pos c2]; exact .inr ⟨_,_,rfl,rfl,R.fl (by decide) h⟩
 ·rw [if_neg c2,if_neg c2]; exact .inl ⟨rfl,rfl,by simpa using c1⟩
theorem RwT.ins1{syms:List zau}{lk:Bool}{j:Nat}(h:j<T.length):InR T T' (zim T syms lk j) (zim T' syms lk j):=by
 unfold zim
 rw [R.kind j,R.text j]
 obtain ⟨op,c,ok⟩:=opW (tk T j).Text
 simp only
 by_cases c1:((((tk T j).Kind != 1)||(!ok))||zmI lk op)=true
 ·rw [if_pos c1,if_pos c1]; exact R.fl (by decide) h
 rw [if_neg c1,if_neg c1]
 have hk:(tk T j).Kind=1:=by
  simp only [Bool.or_eq_true,not_or] at c1
  simpa using c1.1.1
 have h1:=R.nx h (by rw [hk]; decide)
 by_cases c2:((op==10)||(op==11))=true
 ·rw [if_pos c2,if_pos c2]
  rcases R.nameP (j+1) h1 with ⟨n1,n2,n3⟩ | ⟨f,f',n1,n2,n3⟩
  ·rw [n1,n2]
   exact ⟨by simp only; rw [R.text],rfl,R.nx h1 (by rw [n3]; decide),fun _=>⟨j+1,h1,rfl,rfl⟩⟩
  ·rw [n1,n2]; exact n3
 rw [if_neg c2,if_neg c2]
 by_cases c3:decide (op<=9)=true
 ·rw [if_pos c3,if_pos c3]
  have hx:=R.ops (syms:=syms) (op:=op) (lk:=lk) h1
  cases q:opsP T syms op lk (j+1) with
  | inl f=>cases q':opsP T' syms op lk (j+1) with
   | inl f'=>rw [q,q'] at hx; exact hx
   | inr x'=>rw [q,q'] at hx; exact hx.elim
  | inr x=>cases q':opsP T' syms op lk (j+1) with
   | inl f'=>rw [q,q'] at hx; exact hx.elim
   | inr x' =>
    rw [q,q'] at hx
    obtain ⟨rfl,hj⟩:=hx
    exact ⟨rfl,rfl,hj,fun e=>absurd rfl e⟩
 ·rw [if_neg c3,if_neg c3]; exact ⟨rfl,rfl,h1,fun e=>absurd rfl e⟩
theorem RwT.ins{syms:List zau}{i:Nat}(h:i<T.length):InR T T' (insP T syms i) (insP T' syms i):=by
 unfold insP
 rw [R.kind,R.text]
 by_cases c1:((tk T i).Kind != 1)=true
 ·rw [if_pos c1,if_pos c1]; exact R.fl (by decide) h
 rw [if_neg c1,if_neg c1]
 by_cases c2:(tk T i).Text=zpP
 ·rw [if_pos c2,if_pos c2]; exact R.ins1 (R.nx h (by rw [show (tk T i).Kind=1 by simpa using c1]; decide))
 ·rw [if_neg c2,if_neg c2]; exact R.ins1 h
theorem RwT.labs:∀(n i:Nat) (al op:List ByteArray),i<T.length->LabR T T' (zfL T n i al op) (zfL T' n i al op)
 | 0,i,al,op,h=>⟨rfl,h⟩
 | n+1,i,al,op,h=>by
  unfold zfL
  rw [R.kind,R.text,R.sg]
  by_cases c1:(((tk T i).Kind==1)&&sgB T (i+1) zg9)=true
  ·rw [if_pos c1,if_pos c1]
   simp only [Bool.and_eq_true,beq_iff_eq] at c1
   have h1:=R.nx h (by rw [c1.1]; decide)
   by_cases c2:zeD (tk T i).Text=true
   ·rw [if_pos c2,if_pos c2]; exact R.fl (by decide) h
   rw [if_neg c2,if_neg c2]
   by_cases c3:has al (tk T i).Text=true
   ·rw [if_pos c3,if_pos c3]; exact R.fl (by decide) h
   rw [if_neg c3,if_neg c3]
   exact RwT.labs n (i+2) _ _ (R.nxs h1 c1.2)
  ·rw [if_neg c1,if_neg c1]; exact ⟨rfl,h⟩
theorem RwT.inits(n:Int):∀(k i:Nat) (l:List Int),i<T.length->LabR T T' (zdN T n k i l) (zdN T' n k i l)
 | 0,i,l,h=>⟨rfl,h⟩
 | k+1,i,l,h=>by
  unfold zdN
  rw [R.kind,R.text]
  by_cases c1:((tk T i).Kind==2)=true
  ·rw [if_pos c1,if_pos c1]
   by_cases c2:((l.length:Int)==n)=true
   ·rw [if_pos c2,if_pos c2]; exact R.fl (by decide) h
   ·rw [if_neg c2,if_neg c2]; exact RwT.inits n k (i+1) _ (R.nx h (by rw [show (tk T i).Kind=2 by simpa using c1]; decide))
  ·rw [if_neg c1,if_neg c1]; exact ⟨rfl,h⟩
end
structure BdR (T T':List zab) (b b':Bd):Prop where
 all:b'.all=b.all
 open_:b'.open_=b.open_
 ins:b'.ins=b.ins
 head:TkR T T' b.head b'.head
 fl:b.zFi.length=b.ins.length
 fl':b'.zFi.length=b.ins.length
 tl:b.zTg.length=b.ins.length
 tl':b'.zTg.length=b.ins.length
 f:∀k:Nat,k<b.ins.length->TkR T T' (rd b.zFi (k:Int)) (rd b'.zFi (k:Int))
 t:∀(k:Nat) x,b.ins[k]?=some x->x.To≠⟨#[]⟩->TkR T T' (rd b.zTg (k:Int)) (rd b'.zTg (k:Int))
def LsR(T T':List zab)(l l':List Bd):Prop:=l'.length=l.length/\∀(k:Nat) b b',l[k]?=some b->l'[k]?=some b'->BdR T T' b b'
def OpR(T T':List zab):Option Bd->Option Bd->Prop
 | none,none=>True
 | some b,some b'=>BdR T T' b b'
 | _,_=>False
structure StR (T T':List zab) (S S':PSt):Prop where
 at_:S'.at_=S.at_
 syms:S'.syms=S.syms
 done:LsR T T' S.done S'.done
 cur:OpR T T' S.cur S'.cur
def RsR(T T':List zab)(q q':zag ⊕ PSt):Prop:=match q,q' with
 | .inl f,.inl f'=>FltR T T' f f'
 | .inr S,.inr S'=>StR T T' S S'/\S.at_<T.length
 | _,_=>False
theorem zfy{α:Type}[Inhabited α]{l:List α}{a:α}{k:Nat}(h:k<l.length):rd (l++[a]) (k:Int)=rd l (k:Int):=by
 have:(l++[a])[k]?=l[k]?:=List.getElem?_append_left h
 have e1:l[k]?=some l[k]:=List.getElem?_eq_getElem h
 rw [zfk (this.trans e1),zfk e1]
theorem zfz{α:Type}[Inhabited α]{l:List α}{a:α}{k:Nat}(h:k=l.length):rd (l++[a]) (k:Int)=a:=zfk (by rw [h]; simp)
theorem LsR.app{T T':List zab}{l l' m m':List Bd}(h1:LsR T T' l l')(h2:LsR T T' m m'):LsR T T' (l++m) (l'++m'):=by
 refine ⟨by simp [h1.1,h2.1],fun k b b' hb hb'=>?_⟩
 by_cases hk:k<l.length
 ·rw [List.getElem?_append_left hk] at hb
  rw [List.getElem?_append_left (by have:=h1.1; omega)] at hb'
  exact h1.2 k b b' hb hb'
 ·rw [List.getElem?_append_right (by omega)] at hb
  rw [List.getElem?_append_right (by have:=h1.1; omega),h1.1] at hb'
  exact h2.2 _ b b' hb hb'
theorem OpR.list{T T':List zab}{o o':Option Bd}(h:OpR T T' o o'):LsR T T' o.toList o'.toList:=by
 cases o with
 | none=>cases o' with
  | none=>exact ⟨rfl,fun k b b' hb=>by simp at hb⟩
  | some b'=>exact h.elim
 | some b=>cases o' with
  | none=>exact h.elim
  | some b'=>exact ⟨rfl,fun k c c' hb hb'=>by
    cases k with
    | zero=>simp at hb hb'; subst hb; subst hb'; exact h
    | succ k=>simp at hb⟩
theorem StR.bs{T T':List zab}{S S':PSt}(h:StR T T' S S'):LsR T T' S.bs S'.bs:=h.done.app h.cur.list
section
variable {T T':List zab} (R:RwT T T')
include R
theorem RwT.rest{S S':PSt}(h:StR T T' S S')(hi:S.at_<T.length):RsR T T' (ziM T S) (ziM T' S'):=by
 unfold ziM
 have hc:=h.cur
 cases c0:S.cur with
 | none=>cases c0':S'.cur with
  | none=>rw [h.at_]; exact R.fl (by decide) hi
  | some c'=>rw [c0,c0'] at hc; exact hc.elim
 | some c=>cases c0':S'.cur with
  | none=>rw [c0,c0'] at hc; exact hc.elim
  | some c' =>
   rw [c0,c0'] at hc
   have hc:BdR T T' c c':=hc
   simp only
   rw [h.at_,hc.all,hc.open_,R.len]
   have hx:=R.labs T.length S.at_ c.all c.open_ hi
   cases q:zfL T T.length S.at_ c.all c.open_ with
   | inl f=>cases q':zfL T' T.length S.at_ c.all c.open_ with
    | inl f'=>rw [q,q'] at hx; exact hx
    | inr x'=>rw [q,q'] at hx; exact hx.elim
   | inr x=>cases q':zfL T' T.length S.at_ c.all c.open_ with
    | inl f'=>rw [q,q'] at hx; exact hx.elim
    | inr x' =>
     rw [q,q'] at hx
     obtain ⟨rfl,hj⟩:=hx
     obtain ⟨j,al,op⟩:=x'
     simp only at hj ⊢
     rw [R.kind]
     by_cases c1:((tk T j).Kind==4)=true
     ·rw [if_pos c1,if_pos c1]
      exact ⟨⟨rfl,h.syms,h.done,⟨rfl,rfl,hc.ins,hc.head,hc.fl,hc.fl',hc.tl,hc.tl',hc.f,hc.t⟩⟩,hj⟩
     ·rw [if_neg c1,if_neg c1,h.syms]
      have hy:=R.ins (syms:=S.syms) hj
      cases p:insP T S.syms j with
      | inl f=>cases p':insP T' S.syms j with
       | inl f'=>rw [p,p'] at hy; exact hy
       | inr x'=>rw [p,p'] at hy; exact hy.elim
      | inr y=>cases p':insP T' S.syms j with
       | inl f'=>rw [p,p'] at hy; exact hy.elim
       | inr y' =>
        rw [p,p'] at hy
        obtain ⟨⟨y1,t⟩,k⟩:=y
        obtain ⟨⟨y1',t'⟩,k'⟩:=y'
        obtain ⟨e1,e2,e3,e4⟩:=hy
        simp only at e1 e2 e3 e4
        subst e1; subst e2
        refine ⟨⟨rfl,rfl,h.done,⟨rfl,rfl,by simp only; rw [hc.ins],hc.head,by simp [hc.fl],by simp [hc.fl'],by simp [hc.tl],by simp [hc.tl'],?_,?_⟩⟩,e3⟩
        ·intro m hm
         simp only [List.length_append,List.length_singleton] at hm ⊢
         by_cases hlt:m<c.ins.length
         ·rw [zfy (by rw [hc.fl]; exact hlt),zfy (by rw [hc.fl']; exact hlt)]
          exact hc.f m hlt
         ·rw [zfz (by rw [hc.fl]; omega),zfz (by rw [hc.fl']; omega)]
          exact ⟨j,hj,rfl,rfl⟩
        ·intro m x hm hx
         simp only at hm ⊢
         by_cases hlt:m<c.ins.length
         ·rw [List.getElem?_append_left hlt] at hm
          rw [zfy (by rw [hc.tl]; exact hlt),zfy (by rw [hc.tl']; exact hlt)]
          exact hc.t m x hm hx
         ·have hl:=(List.getElem?_eq_some_iff.1 hm).1
          simp only [List.length_append,List.length_singleton] at hl
          rw [List.getElem?_append_right (by omega)] at hm
          have:m-c.ins.length=0:=by omega
          rw [this] at hm
          simp at hm
          rw [zfz (by rw [hc.tl]; omega),zfz (by rw [hc.tl']; omega)]
          subst hm
          exact e4 hx
theorem RwT.line0{S S':PSt}(h:StR T T' S S')(hi:S.at_<T.length):RsR T T' (zd2 T S) (zd2 T' S'):=by
 have hb:=h.bs
 unfold zd2
 rw [h.at_,R.kind,R.text]
 by_cases c1:((tk T S.at_).Kind==4)=true
 ·rw [if_pos c1,if_pos c1]; exact ⟨h,hi⟩
 rw [if_neg c1,if_neg c1]
 by_cases c2:(((tk T S.at_).Kind==1)&&decide ((tk T S.at_).Text=symW))=true
 ·rw [if_pos c2,if_pos c2]
  simp only [Bool.and_eq_true,beq_iff_eq] at c2
  have h1:=R.nx hi (by rw [c2.1]; decide)
  unfold symP
  rw [h.at_,hb.1,h.syms]
  by_cases d1:S.bs.length>0
  ·rw [if_pos d1,if_pos d1]; exact R.fl (by decide) hi
  rw [if_neg d1,if_neg d1]
  by_cases d2:S.syms.length≥64
  ·rw [if_pos d2,if_pos d2]; exact R.fl (by decide) hi
  rw [if_neg d2,if_neg d2]
  rcases R.nameP (S.at_+1) h1 with ⟨n1,n2,n3⟩ | ⟨f,f',n1,n2,n3⟩
  ·rw [n1,n2]
   simp only
   rw [R.text,R.kind,R.text]
   have h2:=R.nx h1 (by rw [n3]; decide)
   cases fnd (zeK S.syms) (tk T (S.at_+1)).Text with
   | some k=>exact R.fl (by decide) h1
   | none =>
    simp only
    by_cases d3:((tk T (S.at_+2)).Kind != 2)=true
    ·rw [if_pos d3,if_pos d3]; exact R.fl (by decide) h2
    rw [if_neg d3,if_neg d3]
    by_cases d4:(decide ((zbY (tk T (S.at_+2)).Text).1<1)||decide ((zbY (tk T (S.at_+2)).Text).1>64))=true
    ·rw [if_pos d4,if_pos d4]; exact R.fl (by decide) h2
    rw [if_neg d4,if_neg d4,R.len]
    have h3:=R.nx h2 (by rw [show (tk T (S.at_+2)).Kind=2 by simpa using d3]; decide)
    have hx:=R.inits (zbY (tk T (S.at_+2)).Text).1 T.length (S.at_+3) [] h3
    cases q:zdN T (zbY (tk T (S.at_+2)).Text).1 T.length (S.at_+3) [] with
    | inl f=>cases q':zdN T' (zbY (tk T (S.at_+2)).Text).1 T.length (S.at_+3) [] with
     | inl f'=>rw [q,q'] at hx; exact hx
     | inr x'=>rw [q,q'] at hx; exact hx.elim
    | inr x=>cases q':zdN T' (zbY (tk T (S.at_+2)).Text).1 T.length (S.at_+3) [] with
     | inl f'=>rw [q,q'] at hx; exact hx.elim
     | inr x' =>
      rw [q,q'] at hx
      obtain ⟨rfl,hj⟩:=hx
      exact ⟨⟨rfl,rfl,h.done,h.cur⟩,hj⟩
  ·rw [n1,n2]; exact n3
 rw [if_neg c2,if_neg c2]
 by_cases c3:(((tk T S.at_).Kind==1)&&decide ((tk T S.at_).Text=thrW))=true
 ·rw [if_pos c3,if_pos c3]
  simp only [Bool.and_eq_true,beq_iff_eq] at c3
  unfold thrP
  rw [h.at_,hb.1]
  by_cases d1:S.bs.length≥64
  ·rw [if_pos d1,if_pos d1]; exact R.fl (by decide) hi
  ·rw [if_neg d1,if_neg d1]
   exact ⟨⟨rfl,h.syms,hb,⟨rfl,rfl,rfl,⟨_,hi,rfl,rfl⟩,rfl,rfl,rfl,rfl,fun k hk=>by simp at hk,fun k x hx=>by simp at hx⟩⟩,R.nx hi (by rw [c3.1]; decide)⟩
 rw [if_neg c3,if_neg c3]
 exact R.rest h hi
theorem RwT.lines:∀(n:Nat) (S S':PSt),StR T T' S S'->(match zes T n S,zes T' n S' with | .inl f,.inl f'=>FltR T T' f f' | .inr S,.inr S'=>StR T T' S S' | _,_=>False)
 | 0,S,S',h=>h
 | n+1,S,S',h=>by
  unfold zes
  rw [h.at_,R.len]
  by_cases hi:S.at_<T.length
  ·rw [if_pos hi,if_pos hi]
   have hx:=R.line0 h hi
   unfold zjD
   cases q:zd2 T S with
   | inl f=>cases q':zd2 T' S' with
    | inl f'=>rw [q,q'] at hx; exact hx
    | inr x'=>rw [q,q'] at hx; exact hx.elim
   | inr S1=>cases q':zd2 T' S' with
    | inl f'=>rw [q,q'] at hx; exact hx.elim
    | inr S1' =>
     rw [q,q'] at hx
     obtain ⟨hs,hlt⟩:=hx
     unfold zii
     simp only
     rw [hs.at_,R.kind]
     by_cases c1:((tk T S1.at_).Kind != 4)=true
     ·rw [if_pos c1,if_pos c1]; exact R.fl (by decide) hlt
     ·rw [if_neg c1,if_neg c1]
      exact RwT.lines n _ _ ⟨rfl,hs.syms,hs.done,hs.cur⟩
  ·rw [if_neg hi,if_neg hi]; exact h
theorem RwT.whole{b b':Bd}(h:BdR T T' b b'):(zft b=none/\zft b'=none)\/∃f f',zft b=some f/\zft b'=some f'/\FltR T T' f f':=by
 unfold zft
 rw [h.ins,h.open_,h.all]
 obtain ⟨i0,hd1,hd2,hd3⟩:=h.head
 by_cases c1:((((b.ins.length:Int)==0)||decide ((b.open_.length:Int)>0))||((zi7 b.ins != 10)&&(zi7 b.ins != 14)))=true
 ·rw [if_pos c1,if_pos c1]; exact .inr ⟨_,_,rfl,rfl,9,_,_,by decide,h.head,rfl,rfl⟩
 rw [if_neg c1,if_neg c1]
 have cnt:∀(l:List zak) (i:Nat) (a:Int),i+l.length<=b.ins.length->(zc5 (cntF b.zFi) (fun _=>none) i a l=none/\zc5 (cntF b'.zFi) (fun _=>none) i a l=none)\/∃f f',zc5 (cntF b.zFi) (fun _=>none) i a l=some f/\zc5 (cntF b'.zFi) (fun _=>none) i a l=some f'/\FltR T T' f f':=by
  intro l
  induction l with
  | nil=>intro i a _; exact .inl ⟨rfl,rfl⟩
  | cons x l ih =>
   intro i a hl
   simp only [List.length_cons] at hl
   unfold zc5 cntF
   by_cases c:(x.Op==12)=true
   ·rw [if_pos c,if_pos c]; exact ih (i+1) a (by omega)
   rw [if_neg c,if_neg c]
   by_cases c2:(a==4096)=true
   ·rw [if_pos c2,if_pos c2]; exact .inr ⟨_,_,rfl,rfl,10,_,_,by decide,h.f i (by omega),rfl,rfl⟩
   ·rw [if_neg c2,if_neg c2]; exact ih (i+1) _ (by omega)
 rcases cnt b.ins 0 0 (by omega) with ⟨e1,e2⟩ | ⟨f,f',e1,e2,e3⟩
 ·rw [e1,e2]
  simp only
  have tos:∀(l:List zak) (i:Nat),(∀k x,l[k]?=some x->b.ins[i+k]?=some x)->(zc5 (toF b.all b.zTg) (fun _=>none) i () l=none/\zc5 (toF b.all b'.zTg) (fun _=>none) i () l=none)\/∃f f',zc5 (toF b.all b.zTg) (fun _=>none) i () l=some f/\zc5 (toF b.all b'.zTg) (fun _=>none) i () l=some f'/\FltR T T' f f':=by
   intro l
   induction l with
   | nil=>intro i _; exact .inl ⟨rfl,rfl⟩
   | cons x l ih =>
    intro i hl
    unfold zc5 toF
    by_cases c:((!decide (x.To=(⟨#[]⟩:ByteArray)))&&(!has b.all x.To))=true
    ·rw [if_pos c,if_pos c]
     simp only [Bool.and_eq_true,Bool.not_eq_true',decide_eq_false_iff_not] at c
     exact .inr ⟨_,_,rfl,rfl,7,_,_,by decide,h.t i x (by simpa using hl 0 x rfl) c.1,rfl,rfl⟩
    ·rw [if_neg c,if_neg c]
     exact ih (i+1) fun k y hy=>by have:=hl (k+1) y (by simpa using hy); rw [← this]; congr 1; omega
  exact tos b.ins 0 fun k x hx=>by simpa using hx
 ·rw [e1,e2]; exact .inr ⟨f,f',rfl,rfl,e3⟩
end
end Go.Vs
end
section
namespace Go.Vs
local instance tabPalV2:Tab:=⟨fun _=>none⟩
def PosV(v:List zah):Prop:=∀i,InB i v.length->1<=(rd v i).Line/\1<=(rd v i).Col/\(rd v i).Line<=150000
def PT(t:zab):Prop:=1<=t.Line/\1<=t.Col/\t.Line<=200000
def PF(f:zag):Prop:=1<=f.Line/\1<=f.Col/\f.Line<=200000
end Go.Vs
end
section
namespace Go.Vs
local instance tabPalV6:Tab:=⟨fun _=>none⟩
def shR{α:Type}:Res α->Res α
 | .inl f=>.inl f
 | .inr (o,j)=>.inr (o,j+1)
def shL{α:Type}:zag ⊕ (Nat × α)->zag ⊕ (Nat × α)
 | .inl f=>.inl f
 | .inr (j,o)=>.inr (j+1,o)
def PSt.up(S:PSt):PSt:=⟨S.at_+1,S.syms,S.done,S.cur⟩
def shS:zag ⊕ PSt->zag ⊕ PSt
 | .inl f=>.inl f
 | .inr S=>.inr S.up
section
variable (x:zab) (T:List zab)
end
end Go.Vs
end
section
namespace Go.Vs
local instance tabPalV7:Tab:=⟨fun _=>none⟩
def nlB:ByteArray:=⟨#[10]⟩
def up(y:zah):zah:={ Rune:=y.Rune,At:=y.At+1,Size:=y.Size,Line:=y.Line+1,Col:=y.Col,Bad:=y.Bad }
def upT(t:zab):zab:=⟨t.Kind,t.Line+1,t.Col,t.Text⟩
def upF(f:zag):zag:=⟨f.Code,f.Line+1,f.Col⟩
def x0:zah:={ Rune:=10,At:=0,Size:=1,Line:=1,Col:=1,Bad:=false }
section
variable {s:ByteArray} {v v':List zah} (g:Good s v) (hv:v'=x0::v.map up)
include hv
def mapM:Int ⊕ ((List zab) × zag)->Int ⊕ ((List zab) × zag)
 | .inl k=>.inl (k+1)
 | .inr (l,f)=>.inr (l,upF f)
end
def mapK(l0:List zab):(Int × List zab) ⊕ (List zab ⊕ ((List zab) × zag))->(Int × List zab) ⊕ (List zab ⊕ ((List zab) × zag))
 | .inl (k,l)=>.inl (k+1,l0++l.map upT)
 | .inr (.inl L)=>.inr (.inl L)
 | .inr (.inr (q,f))=>.inr (.inr (q,upF f))
def mapC(l0:List zab):List zab ⊕ ((List zab) × zag)->List zab ⊕ ((List zab) × zag)
 | .inl L=>.inl (l0++L.map upT)
 | .inr (q,f)=>.inr (q,upF f)
section
variable {s:ByteArray} {v v':List zah} (g:Good s v) (hv:v'=x0::v.map up) (l0:List zab)
include g hv
end
def nlT:zab:=⟨4,1,1,nlB⟩
end Go.Vs
end
section
namespace Go.Vs
local instance tabPalQ8:Tab:=⟨fun _=>none⟩
theorem zno:zbP=some true:=by
 unfold zbP
 rw [zf6 ⟨#[115,121,109,32,120,32,50,32,55,10,116,104,114,101,97,100,10,97,58,32,106,109,112,32,97]⟩ (show (25:Nat)<=99000 by decide),zf6 ⟨#[109,111,118,32,114,97,120,44,32,49]⟩ (show (10:Nat)<=99000 by decide),zv6,zv5]
 simp only [Option.bind_some]
 rw [if_pos (fun _=>⟨by decide,by decide⟩)]
 rfl
def nlN:Nat->ByteArray->ByteArray
 | 0,s=>s
 | n+1,s=>nlB++nlN n s
end Go.Vs
end
section
namespace Go.Vs
local instance tabPalQ9:Tab:=⟨fun _=>none⟩
theorem zmU(i:Nat):itB (ziG i)=((⟨#[115,121,109,32,115]⟩:ByteArray)++zdj (i:Int))++(⟨#[32,49,10]⟩:ByteArray):=by
 have h1:zdj 1=⟨#[49]⟩:=by decide +kernel
 unfold ziG
 simp only [zku,zro,zwi,zjI,h1,sN]
 apply bext; simp [spI,nlI,asc,flat,bs,zpt]
theorem zo7:itB thIt=(⟨#[116,104,114,101,97,100,10,104,108,116,10]⟩:ByteArray):=by
 unfold thIt
 simp only [zku,zro,zjI]
 apply bext; simp [nlI,asc,flat,bs,zps,hltW]
theorem zgG(a:Nat):zdg (a+1)=zdg a++ziG a:=by unfold zdg; rw [List.range_succ,List.flatMap_append]; simp
theorem zgF:∀a:Nat,a<=1000->(itB (zdg a)).size<=30 * a
 | 0,_=>by show (itB []).size<=0; rw [zjI]; decide
 | a+1,h=>by
  have hz:=zhM (n:=(a:Int)) (by unfold I64; omega)
  rw [zgG,zil,ByteArray.size_append,zmU,ByteArray.size_append,ByteArray.size_append]
  have:=zgF a (by omega)
  have e1:(⟨#[115,121,109,32,115]⟩:ByteArray).size=5:=rfl
  have e2:(⟨#[32,49,10]⟩:ByteArray).size=3:=rfl
  omega
theorem zgU(a:Nat)(ha:a<=1000):∀b:Nat,b<=1000->(itB (zcT a b)).size<=30 * a+11 * b
 | 0,_=>by unfold zcT zhi; rw [List.append_nil]; exact zgF a ha
 | b+1,h=>by
  have:=zgU a ha b (by omega)
  have e:zcT a (b+1)=zcT a b++thIt:=by
   show zdg a++(zhi b++thIt)=zdg a++zhi b++thIt
   rw [List.append_assoc]
  rw [e,zil,ByteArray.size_append,zo7]
  have e1:(⟨#[116,104,114,101,97,100,10,104,108,116,10]⟩:ByteArray).size=11:=rfl
  omega
theorem zmD(v1:Int)(a:Nat)(hv:IntKind.wrap .i64 (IntKind.wrap .i64 (v1+64)-1)=(a:Int))(ha:a<=70):∀(k i:Nat),a-i=k->i<=a->zbg (zaO v1) (itB (zdg i),(i:Int))=some (itB (zdg a))
 | 0,i,hk,hi=>by
  have:i=a:=by omega
  subst this
  refine zaG ?_
  simp only [zaO]
  rw [hv,if_neg (by simp)]
 | k+1,i,hk,hi=>by
  have hI:I64 (i:Int):=by unfold I64; omega
  have hst:zaO v1 (itB (zdg i),(i:Int))=some (.inl (itB (zdg (i+1)),((i+1:Nat):Int))):=by
   simp only [zaO]
   have hz:=zhM hI
   have hs:=zgF i (by omega)
   have e1:(⟨#[115,121,109,32,115]⟩:ByteArray).size=5:=rfl
   have e2:(⟨#[32,49,10]⟩:ByteArray).size=3:=rfl
   have hwr:IntKind.wrap .i64 ((i:Int)+1)=(i:Int)+1:=zbQ ⟨by omega,by omega⟩
   rw [hv,if_pos (by simp; omega),zfC _ hI]
   simp only [Option.bind_some]
   rw [if_pos (show zeC _ _ by unfold zeC; omega),if_pos (show zeC _ _ by unfold zeC; rw [ByteArray.size_append]; omega),if_pos (show zeC _ _ by unfold zeC; rw [ByteArray.size_append,ByteArray.size_append]; omega),hwr,zgG,zil,zmU]
   rfl
  rw [zbu hst]
  exact zmD v1 a hv ha k (i+1) (by omega) (by omega)
theorem zmC(v3:Int)(a b:Nat)(ha:a<=70)(hv:IntKind.wrap .i64 (IntKind.wrap .i64 (v3+64)-1)=(b:Int))(hb:b<=70):∀(k i:Nat),b-i=k->i<=b->zbg (zaN v3) (itB (zcT a i),(i:Int))=some (itB (zcT a b))
 | 0,i,hk,hi=>by
  have:i=b:=by omega
  subst this
  refine zaG ?_
  simp only [zaN]
  rw [hv,if_neg (by simp)]
 | k+1,i,hk,hi=>by
  have hst:zaN v3 (itB (zcT a i),(i:Int))=some (.inl (itB (zcT a (i+1)),((i+1:Nat):Int))):=by
   simp only [zaN]
   have hs:=zgU a (by omega) i (by omega)
   have e1:(⟨#[116,104,114,101,97,100,10,104,108,116,10]⟩:ByteArray).size=11:=rfl
   have hwr:IntKind.wrap .i64 ((i:Int)+1)=(i:Int)+1:=zbQ ⟨by omega,by omega⟩
   have e:zcT a (i+1)=zcT a i++thIt:=by
    show zdg a++(zhi i++thIt)=zdg a++zhi i++thIt
    rw [List.append_assoc]
   rw [hv,if_pos (by simp; omega),if_pos (show zeC _ _ by unfold zeC; omega),hwr,e,zil,zo7]
   rfl
  rw [zbu hst]
  exact zmC v3 a b ha hv hb k (i+1) (by omega) (by omega)
theorem zek(v1 v3:Int)(a b:Nat)(h1:IntKind.wrap .i64 (IntKind.wrap .i64 (v1+64)-1)=(a:Int))(h3:IntKind.wrap .i64 (IntKind.wrap .i64 (v3+64)-1)=(b:Int))(c l k:Int)(h:chkM a b c l k=true):zaU (ziW (mkI (zcT a b) (1,1))) v1 v3 c l k=some true:=by
 unfold zaU
 unfold chkM at h
 simp only at h
 rw [h1,h3,h]
 simp only [if_true,zno,Option.bind_some,Bool.and_self]
theorem zhv(p0 p1:Int)(h0:I64 p0)(h1:I64 p1):zb0 p0 p1=some true:=by
 obtain ⟨i,e1,i0,i1⟩:=ziT h0 3 (by omega) (by omega)
 obtain ⟨j,e2,j0,j1⟩:=ziT h1 3 (by omega) (by omega)
 unfold zb0
 rw [e1]
 simp only [Option.bind_some]
 rw [e2]
 simp only [Option.bind_some]
 have wr:∀n:Int,0<=n->n<3->IntKind.wrap .i64 (IntKind.wrap .i64 (n+64)-1)=n+63:=by
  intro n a b
  have h1:IntKind.wrap .i64 (n+64)=n+64:=zbQ ⟨by omega,by omega⟩
  have h2:IntKind.wrap .i64 (n+64-1)=n+64-1:=zbQ ⟨by omega,by omega⟩
  rw [h1,h2]; omega
 obtain ⟨a,ha⟩:∃a:Nat,i+63=(a:Int):=⟨(i+63).toNat,by omega⟩
 obtain ⟨b,hb⟩:∃b:Nat,j+63=(b:Int):=⟨(j+63).toNat,by omega⟩
 have w1:=(wr i i0 i1).trans ha
 have w3:=(wr j j0 j1).trans hb
 have l1:zbg (zaO i) ((⟨#[]⟩:ByteArray),0)=some (itB (zdg a)):=zmD i a w1 (by omega) a 0 (by omega) (by omega)
 have l2:=zmC j a b (by omega) w3 (by omega) b 0 (by omega) (by omega)
 have l2':zbg (zaN j) (itB (zdg a),0)=some (itB (zcT a b)):=by
  have e:zcT a 0=zdg a:=by unfold zcT zhi; rw [List.append_nil]
  rw [e] at l2; exact l2
 rw [l1]
 simp only [Option.bind_some]
 rw [l2']
 simp only [Option.bind_some]
 have hsz:=zgU a (by omega) b (by omega)
 have hps:zgR (itB (zcT a b))=ziW (mkI (zcT a b) (1,1)):=by
  obtain ⟨k1,k2⟩:=zmE a b (by omega)
  unfold zgR
  rw [ziD k1 k2]; rfl
 rw [zf6 _ (by omega),hps]
 simp only [Option.bind_some]
 rw [w1,w3]
 have ai:a=63\/a=64\/a=65:=by omega
 have bi:b=63\/b=64\/b=65:=by omega
 have n1:IntKind.wrap .i64 (IntKind.wrap .i64 ((63:Int)+128)+1)=192:=by decide
 have n2:IntKind.wrap .i64 (IntKind.wrap .i64 ((64:Int)+128)+1)=193:=by decide
 rcases ai with rfl | rfl | rfl
 ·rw [if_neg (by decide)]
  rcases bi with rfl | rfl | rfl
  ·rw [if_neg (by decide)]; exact zek i j 63 63 w1 w3 0 0 0 m00
  ·rw [if_neg (by decide)]; exact zek i j 63 64 w1 w3 0 0 0 m01
  ·rw [if_pos (by decide)]
   rw [show IntKind.wrap .i64 (IntKind.wrap .i64 (((63:Nat):Int)+128)+1)=192 from n1]
   exact zek i j 63 65 w1 w3 10 192 1 m02
 ·rw [if_neg (by decide)]
  rcases bi with rfl | rfl | rfl
  ·rw [if_neg (by decide)]; exact zek i j 64 63 w1 w3 0 0 0 m10
  ·rw [if_neg (by decide)]; exact zek i j 64 64 w1 w3 0 0 0 m11
  ·rw [if_pos (by decide)]
   rw [show IntKind.wrap .i64 (IntKind.wrap .i64 (((64:Nat):Int)+128)+1)=193 from n2]
   exact zek i j 64 65 w1 w3 10 193 1 m12
 ·rw [if_pos (by decide)]
  rcases bi with rfl | rfl | rfl
  ·exact zek i j 65 63 w1 w3 10 65 1 m20
  ·exact zek i j 65 64 w1 w3 10 65 1 m21
  ·exact zek i j 65 65 w1 w3 10 65 1 m22
end Go.Vs
end
