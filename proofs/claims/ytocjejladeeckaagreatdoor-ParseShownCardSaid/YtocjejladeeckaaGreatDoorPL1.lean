import Derived.Test.YtocjejladeeckaaGreatDoorPT1
import Derived.Test.YtocjejladeeckaaGreatDoorPS0
set_option linter.all false
section
namespace Go.Vs
local instance tabPalLx0:Tab:=⟨fun _=>none⟩
structure Rn where
 r:Int
 bs:List UInt8
 bad:Bool
def Rn.word(x:Rn):Bool:=!x.bad&&(zbD x.r||zdK x.r)
def flat(l:List Rn):List UInt8:=l.flatMap (·.bs)
def Tk(kind:Int)(x:Rn)(w:List Rn):Prop :=
 x.bad=false/\zeB x.r=false/\x.r≠59 /\
 ((kind=4/\x.r=10/\w=[])\/(kind=3/\x.r≠10/\zhw x.r=true/\w=[]) \/
  (kind=1/\x.r≠10/\zhw x.r=false/\zbD x.r=true/\w.length<=15/\∀y∈w,y.word=true) \/
  (kind=2/\x.r≠10/\zhw x.r=false/\zbD x.r=false/\(zdK x.r=true\/x.r=45)/\(zcP (bs (flat (x::w)))).2=true/\∀y∈w,y.word=true))
def Ends(kind:Int)(r:List Rn):Prop:=(kind=1\/kind=2)->∀y,r.head?=some y->y.word=false
inductive Lx:List Rn->List (Int × List Rn)->Prop
 | nil:Lx [] []
 | blank {x r A} (h1:x.bad=false) (h2:zeB x.r=true) (h:Lx r A):Lx (x::r) A
 | rem {x a b A} (h1:x.bad=false) (h2:x.r=59) (h3:∀y∈a,y.bad=false/\y.r≠10) (h4:∀y,b.head?=some y->y.r=10) (h:Lx b A):Lx (x::(a++b)) A
 | tok {kind x w r A} (ht:Tk kind x w) (he:Ends kind r) (h:Lx r A):Lx (x::(w++r)) ((kind,x::w)::A)
def sp:Rn:=⟨32,[32],false⟩
def sc:Rn:=⟨59,[59],false⟩
def zo0(g:List Rn):Prop:=∀y∈g,y.bad=false/\zeB y.r=true
theorem Lx.blanks{g:List Rn}(hg:zo0 g){r A}(h:Lx r A):Lx (g++r) A:=by
 induction g with
 | nil=>exact h
 | cons y g ih =>
  have:=hg y (by simp)
  exact .blank this.1 this.2 (ih fun z hz=>hg z (by simp [hz]))
theorem zhM{y:Rn}(h:zeB y.r=true):y.word=false:=by
 unfold zeB at h
 simp only [Bool.or_eq_true,beq_iff_eq] at h
 rcases h with h | h <;> (unfold Rn.word; rw [h]; cases y.bad <;> rfl)
inductive Gap:List Rn->Prop
 | blanks {g} (h:zo0 g):Gap g
 | rem {g a} (h:zo0 g) (ha:∀y∈a,y.bad=false/\y.r≠10):Gap (g++sc::a)
inductive zsx:List (Int × List Rn)->List Rn->Prop
 | nil {g} (hg:Gap g):zsx [] g
 | cons {kind x w A g b t} (hg:Gap g) (h4:kind=4\/g=[]) (hb:zo0 b) (hb0:b≠[]) (h:zsx A t):zsx ((kind,x::w)::A) (g++(x::w)++b++t)
theorem Gap.lx{g:List Rn}(hg:Gap g):Lx g []:=by
 cases hg with
 | blanks h=>have:=Lx.blanks h Lx.nil; simpa using this
 | @rem g a h ha =>
  refine Lx.blanks h ?_
  have:=Lx.rem (x:=sc) (a:=a) (b:=[]) rfl rfl ha (fun y hy=>by simp at hy) Lx.nil
  simpa using this
theorem Lx.apart:∀{l A},Lx l A->∀{t},zsx A t->Lx t A:=by
 intro l A h
 induction h with
 | nil=>intro t ha; cases ha with | nil hg=>exact hg.lx
 | blank h1 h2 h ih=>exact ih
 | rem h1 h2 h3 h4 h ih=>exact ih
 | @tok kind x w r A ht he h ih =>
  intro t ha
  cases ha with
  | @cons _ _ _ _ g b t hg h4 hb hb0 ha =>
   have hin:Lx (b++t) A:=Lx.blanks hb (ih ha)
   have hends:Ends kind (b++t):=by
    intro _ y hy
    cases b with
    | nil=>exact absurd rfl hb0
    | cons z b =>
     simp at hy
     subst hy
     exact zhM (hb z (by simp)).2
   have htok:Lx (x::(w++(b++t))) ((kind,x::w)::A):=.tok ht hends hin
   have e:∀g':List Rn,g'++(x::w)++b++t=g'++(x::(w++(b++t))):=fun g'=>by simp
   rw [e]
   cases hg with
   | blanks hg=>exact Lx.blanks hg htok
   | @rem g a hg haa =>
    rw [List.append_assoc]
    refine Lx.blanks hg ?_
    have h10:x.r=10:=by
     rcases h4 with h4 | h4
     ·subst h4
      obtain ⟨_,_,_,h⟩:=ht
      rcases h with h | h | h | h
      ·exact h.2.1
      all_goals exact absurd h.1 (by decide)
     ·simp at h4
    exact Lx.rem (x:=sc) (a:=a) (b:=x::(w++(b++t))) rfl rfl haa (fun y hy=>by simp at hy; rw [← hy]; exact h10) htok
end Go.Vs
end
section
namespace Go.Vs
local instance tabPalLx1:Tab:=⟨fun _=>none⟩
open Go.Lib
def gB(l:List UInt8)(i:Nat):Nat:=(l.getD i 0).toNat
def dec0(l:List UInt8):Nat × Nat:=decodeN l.length (gB l 0) (gB l 1) (gB l 2) (gB l 3)
theorem zvp(l:List UInt8)(i:Nat):(bs l).get! i=l.getD i 0:=by
 by_cases h:i<l.length
 ·have h2:i<(bs l).size:=by rw [zdj]; exact h
  rw [Go.Proofs.Utf8W.get!_of_lt _ _ h2]
  show l.toArray[i]=_
  simp [List.getD_eq_getElem?_getD,h]
  rfl
 ·show l.toArray[i]! = _
  simp [List.getD_eq_getElem?_getD,h,getElem!_def]
  rfl
theorem znj(p l:List UInt8):Utf8.decode (bs (p++l)) p.length=dec0 l:=by
 have g:∀k,(bs (p++l)).get! (p.length+k)=l.getD k 0:=fun k=>by
  rw [zvp,List.getD_eq_getElem?_getD,List.getD_eq_getElem?_getD,List.getElem?_append_right (by omega)]
  congr 2; omega
 rw [decode_at,dec0]
 have g0:=g 0
 rw [Nat.add_zero] at g0
 rw [g0,g 1,g 2,g 3,zdj,List.length_append,Nat.add_sub_cancel_left]
 rfl
structure Dec (x:Rn):Prop where
 ok:x.bad=false
 len:1<=x.bs.length
 dec:∃r:Nat,x.r=(r:Int)/\(∀t,dec0 (x.bs++t)=(r,x.bs.length))/\¬(r=65533/\x.bs.length=1)
def asc(b:UInt8):Rn:=⟨(b.toNat:Int),[b],false⟩
theorem zi9{b:UInt8}(h:b.toNat<128):Dec (asc b):=by
 refine ⟨rfl,by simp [asc],b.toNat,rfl,fun t=>?_,fun h2=>by omega⟩
 show dec0 ([b]++t)=(b.toNat,1)
 unfold dec0 decodeN
 have:gB ([b]++t) 0=b.toNat:=rfl
 rw [this,if_pos h]
theorem ze6(a b:List Rn):flat (a++b)=flat a++flat b:=by simp [flat]
theorem zeU(x:Rn)(b:List Rn):flat (x::b)=x.bs++flat b:=by simp [flat]
theorem ztJ{T:List Rn}(h:∀x∈T,Dec x):T.length<=(flat T).length:=by
 induction T with
 | nil=>simp
 | cons x T ih =>
  rw [zeU,List.length_append,List.length_cons]
  have:=(h x (by simp)).len
  have:=ih fun y hy=>h y (by simp [hy])
  omega
theorem zk9:∀(T pre:List Rn) (f:Nat) (line col:Int),(∀x∈T,Dec x)->T.length<=f ->
  (zbF (bs (flat (pre++T))) f (flat pre).length line col).length=T.length/\∀(j:Nat) (x:Rn),T[j]?=some x->∃y,(zbF (bs (flat (pre++T))) f (flat pre).length line col)[j]?=some y/\y.Rune=x.r/\y.Bad=x.bad/\y.At=((flat (pre++T.take j)).length:Int)/\y.Size=(x.bs.length:Int)
 | [],pre,f,line,col,hd,hf=>by
  have h:¬(flat pre).length<(bs (flat (pre++[]))).size:=by rw [zdj]; simp
  cases f with
  | zero=>exact ⟨rfl,fun j x h=>by simp at h⟩
  | succ f=>rw [zbF,if_neg h]; exact ⟨rfl,fun j x h=>by simp at h⟩
 | x::T,pre,f,line,col,hd,hf=>by
  obtain ⟨h1,h2,r,h3,h4,h5⟩:=hd x (by simp)
  cases f with
  | zero=>simp at hf
  | succ f =>
   have hp:(flat pre).length<(bs (flat (pre++x::T))).size:=by rw [zdj,ze6,zeU]; simp; omega
   have hdec:Utf8.decode (bs (flat (pre++x::T))) (flat pre).length=(r,x.bs.length):=by
    rw [ze6,zeU,znj,h4]
   rw [zbF,if_pos hp,hdec]
   have e1:(flat pre).length+x.bs.length=(flat (pre++[x])).length:=by rw [ze6,zeU]; simp [flat]
   have e2:pre++x::T=(pre++[x])++T:=by simp
   have ih:=zk9 T (pre++[x]) f (if r=10 then line+1 else line) (if r=10 then 1 else col+1) (fun y hy=>hd y (by simp [hy])) (by simpa using hf)
   simp only
   rw [e1,e2]
   refine ⟨by rw [List.length_cons,ih.1]; rfl,fun j y hj=>?_⟩
   cases j with
   | zero =>
    simp at hj; subst hj
    refine ⟨_,rfl,h3.symm,?_,by simp,rfl⟩
    rw [h1]
    simp only [Bool.and_eq_false_iff,beq_eq_false_iff_ne]
    by_cases e:r=65533
    ·exact .inr fun h=>h5 ⟨e,h⟩
    ·exact .inl e
   | succ j =>
    simp at hj
    obtain ⟨z,z1,z2,z3,z4,z5⟩:=ih.2 j y hj
    refine ⟨z,by simpa using z1,z2,z3,?_,z5⟩
    rw [z4]; simp
structure Sp (s:ByteArray) (v:List zal) (all:List Rn):Prop where
 s:s=bs (flat all)
 len:v.length=all.length
 at_:∀(j:Nat) (x:Rn),all[j]?=some x->(rd v (j:Int)).Rune=x.r/\(rd v (j:Int)).Bad=x.bad/\(rd v (j:Int)).At=((flat (all.take j)).length:Int)/\(rd v (j:Int)).Size=(x.bs.length:Int)
theorem zuO(all:List Rn)(h:∀x∈all,Dec x):Sp (bs (flat all)) (zaX (bs (flat all))) all:=by
 have:=zk9 all [] (bs (flat all)).size 1 1 h (by rw [zdj]; exact ztJ h)
 refine ⟨rfl,this.1,fun j x hj=>?_⟩
 obtain ⟨y,h1,h2,h3,h4,h5⟩:=this.2 j x hj
 have e:rd (zaX (bs (flat all))) (j:Int)=y:=zci h1
 rw [e]
 exact ⟨h2,h3,h4,h5⟩
section
variable {s:ByteArray} {v:List zal} {all:List Rn} (sp:Sp s v all)
include sp
theorem Sp.get{pre r:List Rn}{x:Rn}(h:all=pre++x::r):InB (pre.length:Int) v.length/\(rd v (pre.length:Int)).Rune=x.r/\(rd v (pre.length:Int)).Bad=x.bad/\(rd v (pre.length:Int)).At=((flat pre).length:Int)/\(rd v (pre.length:Int)).Size=(x.bs.length:Int):=by
 have hj:all[pre.length]?=some x:=by rw [h]; simp
 obtain ⟨a,b,c,d⟩:=sp.at_ _ _ hj
 refine ⟨⟨by omega,by rw [sp.len,h]; simp⟩,a,b,?_,d⟩
 rw [c,h]; simp
theorem Sp.word{pre r:List Rn}(h:all=pre++r):wordAt v (pre.length:Int)=(match r with | []=>false | x::_=>x.word):=by
 cases r with
 | nil =>
  have:¬((pre.length:Int)<(v.length:Int)):=by rw [sp.len,h]; simp
  unfold wordAt
  rw [decide_eq_false this]; rfl
 | cons x r =>
  obtain ⟨a,b,c,_⟩:=sp.get h
  have:((pre.length:Int)<(v.length:Int)):=by have:=a.2; omega
  unfold wordAt Rn.word
  rw [decide_eq_true this,b,c]; rfl
theorem Sp.run:∀(w pre r:List Rn) (n:Nat),all=pre++(w++r)->(∀y∈w,y.word=true)->(∀y,r.head?=some y->y.word=false)->w.length<=n->runC v n (pre.length:Int)=((pre.length+w.length:Nat):Int)
 | [],pre,r,n,h,h1,h2,hn=>by
  cases n with
  | zero=>rfl
  | succ n =>
   rw [runC,sp.word h]
   cases r with
   | nil=>rfl
   | cons y r =>
    have:=h2 y rfl
    simp only [List.nil_append,this]; rfl
 | x::w,pre,r,n,h,h1,h2,hn=>by
  cases n with
  | zero=>simp at hn
  | succ n =>
   rw [runC,sp.word h]
   simp only [List.cons_append,h1 x (by simp),if_true]
   have:=Sp.run w (pre++[x]) r n (by rw [h]; simp) (fun y hy=>h1 y (by simp [hy])) h2 (by simpa using hn)
   simp only [List.length_append,List.length_singleton] at this
   rw [show ((pre.length:Int)+1)=((pre.length+1:Nat):Int) by omega,this]
   simp; omega
theorem Sp.rem:∀(a pre b:List Rn) (n:Nat),all=pre++(a++b)->(∀y∈a,y.bad=false/\y.r≠10)->(∀y,b.head?=some y->y.r=10)->a.length<n->remC v n (pre.length:Int)=.inl ((pre.length+a.length:Nat):Int)
 | [],pre,b,n,h,h1,h2,hn=>by
  cases n with
  | zero=>simp at hn
  | succ n =>
   have:zeG v (pre.length:Int)=.inr (.inl (pre.length:Int)):=by
    unfold zeG
    cases b with
    | nil =>
     have:¬((pre.length:Int)<(v.length:Int)):=by rw [sp.len,h]; simp
     rw [if_neg (by simp; omega)]
    | cons y b =>
     obtain ⟨_,e,_⟩:=sp.get h
     rw [if_neg (by rw [e,h2 y rfl]; simp)]
   rw [remC,this]; rfl
 | x::a,pre,b,n,h,h1,h2,hn=>by
  cases n with
  | zero=>simp at hn
  | succ n =>
   obtain ⟨q,e,c,_⟩:=sp.get h
   have hx:=h1 x (by simp)
   have:zeG v (pre.length:Int)=.inl ((pre.length:Int)+1):=by
    unfold zeG
    have hlt:((pre.length:Int)<(v.length:Int)):=by have:=q.2; omega
    rw [if_pos (by rw [e]; simp [hlt,hx.2]),c,hx.1]; rfl
   rw [remC,this]
   have ih:=Sp.rem a (pre++[x]) b n (by rw [h]; simp) (fun y hy=>h1 y (by simp [hy])) h2 (by simpa using hn)
   simp only [List.length_append,List.length_singleton] at ih
   simp only
   rw [show ((pre.length:Int)+1)=((pre.length+1:Nat):Int) by omega,ih]
   simp; omega
theorem Sp.txt{pre w r:List Rn}{x:Rn}(h:all=pre++(x::w++r)):s.extract (rd v (pre.length:Int)).At.toNat ((rd v ((pre.length+1+w.length:Nat)-1:Int)).At+(rd v ((pre.length+1+w.length:Nat)-1:Int)).Size).toNat=bs (flat (x::w)):=by
 obtain ⟨_,_,_,a1,_⟩:=sp.get (show all=pre++x::(w++r) by rw [h]; simp)
 have hl:∃y z,x::w=z++[y]:=by
  refine ⟨(x::w).getLast (by simp),(x::w).dropLast,(List.dropLast_concat_getLast (by simp)).symm⟩
 obtain ⟨y,z,hz⟩:=hl
 have hlen:z.length=w.length:=by
  have:=congrArg List.length hz
  simp at this; omega
 obtain ⟨_,_,_,b1,b2⟩:=sp.get (show all=(pre++z)++y::r by rw [h,hz]; simp)
 have e:((pre.length+1+w.length:Nat)-1:Int)=((pre++z).length:Int):=by rw [List.length_append,hlen]; omega
 rw [a1,e,b1,b2,sp.s,h]
 have e2:(((flat (pre++z)).length:Int)+(y.bs.length:Int)).toNat=(flat pre).length+(flat (x::w)).length:=by
  rw [hz,ze6,ze6,zeU]; simp [flat]; omega
 rw [e2,ze6,ze6]
 apply bext
 rw [ByteArray.data_extract]
 simp [bs]
end
end Go.Vs
end
section
namespace Go.Vs
local instance tabPalLx2:Tab:=⟨fun _=>none⟩
def kt(t:zaa):Int × ByteArray:=(t.Kind,t.Text)
def ka(a:Int × List Rn):Int × ByteArray:=(a.1,bs (flat a.2))
section
variable {s:ByteArray} {v:List zal} {all:List Rn} (sp:Sp s v all)
include sp
theorem Sp.tail{pre w r:List Rn}{x:Rn}{kind:Int}{l:List zaa}(h:all=pre++(x::w++r))(h1:kind=1->w.length<=15)(h2:kind=2->(zcP (bs (flat (x::w)))).2=true){k:Int}(hk:k=((pre.length+1+w.length:Nat):Int)) :
  ∃t,kt t=(kind,bs (flat (x::w)))/\tail v s (pre.length:Int) l k kind=.inl (k,l++[t]):=by
 subst hk
 unfold Go.Vs.tail
 simp only
 rw [sp.txt h]
 rw [if_neg (by rintro ⟨a,b⟩; have:=h1 a; omega),if_neg (by rintro ⟨a,b⟩; rw [h2 a] at b; cases b)]
 exact ⟨_,rfl,rfl⟩
theorem zvb{T:List Rn}{A:List (Int × List Rn)}(hx:Lx T A):∀(pre:List Rn),all=pre++T->∀(n:Nat),T.length<=n->∀(l:List zaa),∃L,tokC v s n (pre.length:Int) l=.inl (l++L)/\L.map kt=A.map ka:=by
 induction hx with
 | nil =>
  intro pre h n hn l
  refine ⟨[],?_,rfl⟩
  cases n with
  | zero=>simp [tokC]
  | succ n=>rw [tokC,if_neg (by rw [sp.len,h]; simp)]; simp
 | @blank x r A h1 h2 hx ih =>
  intro pre h n hn l
  cases n with
  | zero=>simp at hn
  | succ n =>
   obtain ⟨q,e,c,_⟩:=sp.get h
   have hlt:((pre.length:Int)<(v.length:Int)):=by have:=q.2; omega
   have ht:zeC v s (pre.length:Int) l=.inl ((pre.length:Int)+1,l):=by
    unfold zeC
    rw [c,h1,if_neg (by decide),e,if_pos h2]
   rw [tokC,if_pos hlt,ht]
   obtain ⟨L,e1,e2⟩:=ih (pre++[x]) (by rw [h]; simp) n (by simpa using hn) l
   refine ⟨L,?_,e2⟩
   simp only [List.length_append,List.length_singleton] at e1
   exact e1
 | @rem x a b A h1 h2 h3 h4 hx ih =>
  intro pre h n hn l
  cases n with
  | zero=>simp at hn
  | succ n =>
   obtain ⟨q,e,c,_⟩:=sp.get h
   have hlt:((pre.length:Int)<(v.length:Int)):=by have:=q.2; omega
   have hvl:v.length=pre.length+1+a.length+b.length:=by rw [sp.len,h]; simp; omega
   have hr:=sp.rem a (pre++[x]) b v.length (by rw [h]; simp) h3 h4 (by omega)
   simp only [List.length_append,List.length_singleton] at hr
   have ht:zeC v s (pre.length:Int) l=.inl (((pre.length+1+a.length:Nat):Int),l):=by
    unfold zeC
    rw [c,h1,if_neg (by decide),e,h2,if_neg (by decide),if_pos rfl,show ((pre.length:Int)+1)=((pre.length+1:Nat):Int) by omega,hr]
   rw [tokC,if_pos hlt,ht]
   obtain ⟨L,e1,e2⟩:=ih (pre++x::a) (by rw [h]; simp) n (by simp at hn ⊢; omega) l
   refine ⟨L,?_,e2⟩
   have e3:(pre++x::a).length=pre.length+1+a.length:=by simp; omega
   rw [e3] at e1
   exact e1
 | @tok kind x w r A ht he hx ih =>
  intro pre h n hn l
  cases n with
  | zero=>simp at hn
  | succ n =>
   have h':all=pre++x::(w++r):=by rw [h]
   obtain ⟨q,e,c,_⟩:=sp.get h'
   have hlt:((pre.length:Int)<(v.length:Int)):=by have:=q.2; omega
   obtain ⟨t0,t1,t2,t3⟩:=ht
   have hvl:v.length=pre.length+1+w.length+r.length:=by rw [sp.len,h]; simp; omega
   have key:∃t,kt t=(kind,bs (flat (x::w)))/\zeC v s (pre.length:Int) l=.inl (((pre.length+1+w.length:Nat):Int),l++[t]):=by
    have hA:all=pre++(x::w++r):=by rw [h]; simp
    unfold zeC
    rw [c,t0,if_neg (by decide),e,t1,if_neg (by decide),if_neg t2]
    rcases t3 with ⟨rfl,k1,rfl⟩ | ⟨rfl,k1,k2,rfl⟩ | ⟨rfl,k1,k2,k3,k4,k5⟩ | ⟨rfl,k1,k2,k3,k4,k5,k6⟩
    ·rw [if_pos k1]
     exact sp.tail hA (fun e=>absurd e (by decide)) (fun e=>absurd e (by decide)) (by simp)
    ·rw [if_neg k1,if_pos k2]
     exact sp.tail hA (fun e=>absurd e (by decide)) (fun e=>absurd e (by decide)) (by simp)
    ·have hrun:=sp.run w (pre++[x]) r v.length (by rw [h]; simp) k5 (he (.inl rfl)) (by omega)
     simp only [List.length_append,List.length_singleton] at hrun
     rw [if_neg k1,k2,if_neg (by decide),if_pos k3,show ((pre.length:Int)+1)=((pre.length+1:Nat):Int) by omega,hrun]
     exact sp.tail hA (fun _=>k4) (fun e=>absurd e (by decide)) rfl
    ·have hrun:=sp.run w (pre++[x]) r v.length (by rw [h]; simp) k6 (he (.inr rfl)) (by omega)
     simp only [List.length_append,List.length_singleton] at hrun
     have hd:(zdK x.r||(x.r==45))=true:=by
      rcases k4 with k4 | k4
      ·rw [k4]; rfl
      ·rw [k4]; decide
     rw [if_neg k1,k2,if_neg (by decide),k3,if_neg (by decide),if_pos hd,show ((pre.length:Int)+1)=((pre.length+1:Nat):Int) by omega,hrun]
     exact sp.tail hA (fun e=>absurd e (by decide)) (fun _=>k5) rfl
   obtain ⟨t,et,ht⟩:=key
   rw [tokC,if_pos hlt,ht]
   obtain ⟨L,e1,e2⟩:=ih (pre++x::w) (by rw [h]; simp) n (by simp at hn ⊢; omega) (l++[t])
   refine ⟨t::L,?_,by rw [List.map_cons,List.map_cons,e2,et]; rfl⟩
   have e3:(pre++x::w).length=pre.length+1+w.length:=by simp; omega
   rw [e3] at e1
   simp only [e1]
   simp
end
theorem zpS{T:List Rn}{A:List (Int × List Rn)}(hd:∀x∈T,Dec x)(hx:Lx T A):(zaS (bs (flat T))).2=⟨0,0,0⟩/\(zaS (bs (flat T))).1.map kt=A.map ka++[(4,⟨#[]⟩)]:=by
 have sp:=zuO T hd
 obtain ⟨L,e1,e2⟩:=zvb sp hx [] rfl (zaX (bs (flat T))).length (by rw [sp.len]; exact Nat.le_refl _) []
 unfold zaS
 have e1':tokC (zaX (bs (flat T))) (bs (flat T)) (zaX (bs (flat T))).length 0 []=.inl L:=e1
 rw [e1']
 refine ⟨rfl,?_⟩
 simp only [List.map_append,e2]; rfl
end Go.Vs
end
section
namespace Go.Vs
local instance tabPalLx3:Tab:=⟨fun _=>none⟩
open Go.Lib
theorem zsq{n m b0 b1 b2 b3 c1 c2 c3:Nat}(hm:(decodeN m b0 c1 c2 c3).2<=n)(hw:¬((decodeN m b0 c1 c2 c3).1=65533/\(decodeN m b0 c1 c2 c3).2=1))(h1:1<(decodeN m b0 c1 c2 c3).2->b1=c1)(h2:2<(decodeN m b0 c1 c2 c3).2->b2=c2)(h3:3<(decodeN m b0 c1 c2 c3).2->b3=c3) :
  decodeN n b0 b1 b2 b3=decodeN m b0 c1 c2 c3:=by
 unfold decodeN at hm hw h1 h2 h3 ⊢
 by_cases p0:b0<128
 ·rw [if_pos p0,if_pos p0]
 simp only [if_neg p0] at hm hw h1 h2 h3 ⊢
 by_cases q1:b0 / 32=6/\(1<m/\c1 / 64=2)
 ·simp only [if_pos q1] at hm hw h1 h2 h3 ⊢
  by_cases r:b0 % 32 * 64+c1 % 64≥128
  ·simp only [if_pos r] at hm hw h1 h2 h3 ⊢
   obtain rfl:=h1 (by omega)
   rw [if_pos ⟨q1.1,by omega,q1.2.2⟩,if_pos r]
  ·simp [if_neg r] at hw
 simp only [if_neg q1] at hm hw h1 h2 h3 ⊢
 by_cases q2:b0 / 16=14/\(1<m/\c1 / 64=2)/\(2<m/\c2 / 64=2)
 ·simp only [if_pos q2] at hm hw h1 h2 h3 ⊢
  split at hm
  ·rename_i r
   simp only [if_pos r] at hw h1 h2 h3 ⊢
   obtain rfl:=h1 (by omega)
   obtain rfl:=h2 (by omega)
   rw [if_neg (by omega),if_pos ⟨q2.1,⟨by omega,q2.2.1.2⟩,by omega,q2.2.2.2⟩,if_pos r]
  ·rename_i r
   simp [if_neg r] at hw
 simp only [if_neg q2] at hm hw h1 h2 h3 ⊢
 by_cases q3:b0 / 8=30/\(1<m/\c1 / 64=2)/\(2<m/\c2 / 64=2)/\(3<m/\c3 / 64=2)
 ·simp only [if_pos q3] at hm hw h1 h2 h3 ⊢
  split at hm
  ·rename_i r
   simp only [if_pos r] at hw h1 h2 h3 ⊢
   obtain rfl:=h1 (by omega)
   obtain rfl:=h2 (by omega)
   obtain rfl:=h3 (by omega)
   rw [if_neg (by omega),if_neg (by omega),if_pos ⟨q3.1,⟨by omega,q3.2.1.2⟩,⟨by omega,q3.2.2.1.2⟩,by omega,q3.2.2.2.2⟩,if_pos r]
  ·rename_i r
   simp [if_neg r] at hw
 ·simp [if_neg q3] at hw
theorem zrd{n m a0 b0 b1 b2 b3 c1 c2 c3:Nat}(h0:a0=b0)(hm:(decodeN m b0 c1 c2 c3).2<=n)(hw:¬((decodeN m b0 c1 c2 c3).1=65533/\(decodeN m b0 c1 c2 c3).2=1))(h1:1<(decodeN m b0 c1 c2 c3).2->b1=c1)(h2:2<(decodeN m b0 c1 c2 c3).2->b2=c2)(h3:3<(decodeN m b0 c1 c2 c3).2->b3=c3) :
  decodeN n a0 b1 b2 b3=decodeN m b0 c1 c2 c3:=by subst h0; exact zsq hm hw h1 h2 h3
def rnOf(s:ByteArray)(y:zal):Rn:=⟨y.Rune,(s.data.toList.drop y.At.toNat).take y.Size.toNat,y.Bad⟩
def rns(s:ByteArray):List Rn:=(zaX s).map (rnOf s)
theorem zkx(s:ByteArray)(pos:Nat)(h:pos<s.size):1<=(Utf8.decode s pos).2/\pos+(Utf8.decode s pos).2<=s.size:=by
 have:=zhl s 1 pos 1 1 { Rune:=((Utf8.decode s pos).1:Int),At:=(pos:Int),Size:=((Utf8.decode s pos).2:Int),Line:=1,Col:=1,Bad:=(Utf8.decode s pos).1==65533&&(Utf8.decode s pos).2==1 } (by rw [zbF,if_pos h]; simp)
 obtain ⟨a,b,c,_⟩:=this
 simp only at b c
 omega
theorem zti(s:ByteArray)(pos:Nat)(h:pos<s.size)(hb:((Utf8.decode s pos).1==65533&&(Utf8.decode s pos).2==1)=false):Dec ⟨((Utf8.decode s pos).1:Int),(s.data.toList.drop pos).take (Utf8.decode s pos).2,false⟩:=by
 obtain ⟨l1,l2⟩:=zkx s pos h
 have hsz:=zhh s
 have hlen:((s.data.toList.drop pos).take (Utf8.decode s pos).2).length=(Utf8.decode s pos).2:=by simp; omega
 have hs:s=bs (s.data.toList.take pos++s.data.toList.drop pos):=by rw [List.take_append_drop,zk0]
 have hd:Utf8.decode s pos=dec0 (s.data.toList.drop pos):=by
  have:=znj (s.data.toList.take pos) (s.data.toList.drop pos)
  rw [← hs] at this
  rw [← this]; congr 1; simp; omega
 refine ⟨rfl,by rw [hlen]; exact l1,(Utf8.decode s pos).1,rfl,fun t=>?_,?_⟩
 ·rw [hlen]
  have e:(Utf8.decode s pos)=((Utf8.decode s pos).1,(Utf8.decode s pos).2):=rfl
  rw [← e]
  generalize hL:s.data.toList.drop pos=l at hd hlen
  have hg:∀k,k<(Utf8.decode s pos).2->gB (l.take (Utf8.decode s pos).2++t) k=gB l k:=fun k hk=>by
   unfold gB
   rw [List.getD_eq_getElem?_getD,List.getD_eq_getElem?_getD,List.getElem?_append_left (by rw [hlen]; exact hk),List.getElem?_take_of_lt hk]
  rw [hd] at hg hlen l1 hb ⊢
  have hb':¬((dec0 l).1=65533/\(dec0 l).2=1):=by
   rintro ⟨a,b⟩
   rw [a,b] at hb; exact absurd hb (by decide)
  have key:dec0 (l.take (dec0 l).2++t)=decodeN l.length (gB l 0) (gB l 1) (gB l 2) (gB l 3):=by
   exact zrd (hg 0 l1) (by rw [List.length_append]; have:(decodeN l.length (gB l 0) (gB l 1) (gB l 2) (gB l 3)).2=(dec0 l).2:=rfl; omega) hb' (hg 1) (hg 2) (hg 3)
  exact key
 ·rintro ⟨a,b⟩
  rw [hlen] at b
  rw [a,b] at hb; exact absurd hb (by decide)
end Go.Vs
end
section
namespace Go.Vs
local instance tabPalLx4:Tab:=⟨fun _=>none⟩
theorem zk8(s:ByteArray):∀(f pos:Nat) (line col:Int),∀y∈zbF s f pos line col,∃q,q<s.size/\y.At=(q:Int)/\y.Rune=((Utf8.decode s q).1:Int)/\y.Size=((Utf8.decode s q).2:Int)/\y.Bad=((Utf8.decode s q).1==65533&&(Utf8.decode s q).2==1)
 | 0,pos,line,col,y,h=>by simp [zbF] at h
 | f+1,pos,line,col,y,h=>by
  rw [zbF] at h
  split at h
  ·rename_i hp
   rcases List.mem_cons.1 h with rfl | h
   ·exact ⟨pos,hp,rfl,rfl,rfl,rfl⟩
   ·exact zk8 s f _ _ _ y h
  ·simp at h
theorem zp9(s:ByteArray)(y:zal)(h:y∈zaX s)(hb:y.Bad=false):Dec (rnOf s y):=by
 obtain ⟨q,h1,h2,h3,h4,h5⟩:=zk8 s _ _ _ _ y h
 have:=zti s q h1 (by rw [← h5]; exact hb)
 unfold rnOf
 rw [h2,h3,h4,hb]
 simpa using this
theorem zmt(s:ByteArray):∀(f pos:Nat) (line col:Int),s.size-pos<=f->pos<=s.size->flat ((zbF s f pos line col).map (rnOf s))=s.data.toList.drop pos
 | 0,pos,line,col,h,hp=>by
  have hs:=zhh s
  rw [zbF,List.drop_of_length_le (by omega)]; rfl
 | f+1,pos,line,col,h,hp=>by
  have hs:=zhh s
  rw [zbF]
  by_cases hlt:pos<s.size
  ·obtain ⟨l1,l2⟩:=zkx s pos hlt
   rw [if_pos hlt,List.map_cons,zeU,zmt s f _ _ _ (by omega) l2]
   unfold rnOf
   simp only [Int.toNat_natCast]
   rw [← List.drop_drop,List.take_append_drop]
  ·rw [if_neg hlt,List.drop_of_length_le (by omega)]; rfl
theorem zjD(s:ByteArray):flat (rns s)=s.data.toList:=by
 have:=zmt s s.size 0 1 1 (by omega) (by omega)
 simpa [rns,zaX] using this
theorem zjl{r:Int}(h:zbD r=true):zeB r=false/\r≠59/\r≠10/\zhw r=false:=by
 unfold zbD at h
 unfold zeB zhw
 simp only [Bool.or_eq_true,Bool.and_eq_true,decide_eq_true_eq,beq_iff_eq] at h
 refine ⟨?_,by omega,by omega,?_⟩ <;> simp only [Bool.or_eq_false_iff,beq_eq_false_iff_ne] <;> omega
theorem zh4:∀(l:List zal) (i:Nat),ze2 (i+1) l=true->∀y∈l,y.Bad=false/\(zbD y.Rune||zdK y.Rune)=true
 | [],i,h,y,hy=>by simp at hy
 | x::l,i,h,y,hy=>by
  unfold ze2 at h
  simp only [Bool.and_eq_true,Bool.not_eq_true'] at h
  rcases List.mem_cons.1 hy with rfl | hy
  ·have h1:=h.1
   unfold badN at h1
   simp only [Bool.or_eq_false_iff,Bool.and_eq_false_iff,Bool.not_eq_false'] at h1
   refine ⟨h1.1,?_⟩
   rcases h1.2 with h2 | ⟨h2,h3⟩
   ·rw [show zbD y.Rune=true from h2]; rfl
   ·rw [show zdK y.Rune=true from h3]; simp
  ·exact zh4 l (i+1) h.2 y hy
structure Wd (kind:Int) (s:ByteArray) (l:List Rn):Prop where
 tk:∃x w,l=x::w/\Tk kind x w
 dec:∀y∈l,Dec y
 eq:bs (flat l)=s
theorem zol{s:ByteArray}(h:zbp s=true):Wd 1 s (rns s):=by
 unfold zbp at h
 simp only [Bool.and_eq_true,decide_eq_true_eq] at h
 obtain ⟨⟨⟨h1,h2⟩,_⟩,h3⟩:=h
 refine ⟨?_,?_,by rw [zjD,zk0]⟩
 ·cases hs:zaX s with
  | nil=>rw [hs] at h1; simp at h1
  | cons y l =>
   rw [hs] at h2 h3
   unfold ze2 at h3
   simp only [Bool.and_eq_true,Bool.not_eq_true'] at h3
   have hx:=h3.1
   unfold badN at hx
   simp only [Bool.or_eq_false_iff,Bool.and_eq_false_iff,Bool.not_eq_false'] at hx
   have hl:zbD y.Rune=true:=by
    rcases hx.2 with h | ⟨h,_⟩
    ·exact h
    ·exact absurd h (by decide)
   obtain ⟨f1,f2,f3,f4⟩:=zjl hl
   refine ⟨rnOf s y,l.map (rnOf s),by simp [rns,hs],hx.1,f1,f2,.inr (.inr (.inl ⟨rfl,f3,f4,hl,?_,?_⟩))⟩
   ·simp only [List.length_map,List.length_cons] at h2 ⊢; omega
   ·intro z hz
    obtain ⟨q,hq,rfl⟩:=List.mem_map.1 hz
    obtain ⟨g1,g2⟩:=zh4 l 0 h3.2 q hq
    unfold Rn.word rnOf
    simp only [g1,g2]; rfl
 ·intro z hz
  obtain ⟨q,hq,rfl⟩:=List.mem_map.1 hz
  refine zp9 s q hq ?_
  cases hs:zaX s with
  | nil=>rw [hs] at hq; cases hq
  | cons y l =>
   rw [hs] at hq h3
   unfold ze2 at h3
   simp only [Bool.and_eq_true,Bool.not_eq_true'] at h3
   rcases List.mem_cons.1 hq with rfl | hq
   ·have hx:=h3.1
    unfold badN at hx
    simp only [Bool.or_eq_false_iff] at hx
    exact hx.1
   ·exact (zh4 l 0 h3.2 q hq).1
def ascs(s:ByteArray):List Rn:=s.data.toList.map asc
theorem zhd(s:ByteArray):flat (ascs s)=s.data.toList:=by
 unfold ascs flat
 induction s.data.toList with
 | nil=>rfl
 | cons b l ih=>simp only [List.map_cons,List.flatMap_cons,ih]; rfl
def kwOk(s:ByteArray):Bool:=match s.data.toList with
 | []=>false
 | b::r=>zbD (b.toNat:Int)&&(b::r).all (fun c=>decide (c.toNat<128))&&decide (r.length<=15)&&r.all (fun c=>zbD (c.toNat:Int)||zdK (c.toNat:Int))
theorem zyS{s:ByteArray}(h:kwOk s=true):Wd 1 s (ascs s):=by
 unfold kwOk at h
 cases hs:s.data.toList with
 | nil=>rw [hs] at h; cases h
 | cons b r =>
  rw [hs] at h
  simp only [Bool.and_eq_true,decide_eq_true_eq] at h
  obtain ⟨⟨⟨h1,h2⟩,h3⟩,h4⟩:=h
  rw [List.all_eq_true] at h2 h4
  obtain ⟨f1,f2,f3,f4⟩:=zjl h1
  refine ⟨⟨asc b,r.map asc,by simp [ascs,hs],rfl,f1,f2,.inr (.inr (.inl ⟨rfl,f3,f4,h1,by simpa using h3,?_⟩))⟩,?_,by rw [zhd,zk0]⟩
  ·intro z hz
   obtain ⟨q,hq,rfl⟩:=List.mem_map.1 hz
   have:=h4 q hq
   unfold Rn.word asc
   simp only [this]; rfl
  ·intro z hz
   unfold ascs at hz
   rw [hs] at hz
   obtain ⟨q,hq,rfl⟩:=List.mem_map.1 hz
   exact zi9 (by simpa using h2 q hq)
theorem zf5{v:Int}(h:I64 v):zcP (zd2 v)=(v,true):=by
 have:=zjH (s:=zd2 v) (v:=v) (by unfold zd2; rw [zeZ]; exact zfR h)
 rw [this,if_pos rfl]
theorem zpt(v:Int):∃b r,Lib.itoa v=b::r/\(zem b=true\/b=45)/\∀c∈r,zem c=true:=by
 have key:∀u:Nat,∃b r,Lib.decDigits u=b::r/\zem b=true/\∀c∈r,zem c=true:=by
  intro u
  obtain ⟨_,h2,h3,_⟩:=zdi u
  cases hd:Lib.decDigits u with
  | nil=>exact absurd hd h3
  | cons b r =>
   rw [hd] at h2
   simp only [List.all_cons,Bool.and_eq_true,List.all_eq_true] at h2
   exact ⟨b,r,rfl,h2.1,h2.2⟩
 unfold Lib.itoa
 split
 ·obtain ⟨b,r,h1,h2,h3⟩:=key v.natAbs
  refine ⟨45,b::r,by rw [h1],.inr rfl,fun c hc=>?_⟩
  rcases List.mem_cons.1 hc with rfl | hc
  ·exact h2
  ·exact h3 c hc
 ·obtain ⟨b,r,h1,h2,h3⟩:=key v.toNat
  exact ⟨b,r,h1,.inl h2,h3⟩
theorem zu2{v:Int}(h:I64 v):Wd 2 (zd2 v) (ascs (zd2 v)):=by
 have hr:=zf5 h
 obtain ⟨b,r,e,h1,h2⟩:=zpt v
 have hl:(zd2 v).data.toList=b::r:=by unfold zd2; rw [zeZ,e]
 have dg:∀c:UInt8,zem c=true->48<=c.toNat/\c.toNat<=57:=fun c hc=>by
  rw [zkj] at hc
  simp only [Bool.not_eq_true',Bool.or_eq_false_iff,decide_eq_false_iff_not] at hc
  omega
 have hb:(48<=b.toNat/\b.toNat<=57)\/b.toNat=45:=by
  rcases h1 with h1 | rfl
  ·exact .inl (dg b h1)
  ·exact .inr rfl
 refine ⟨⟨asc b,r.map asc,by simp [ascs,hl],rfl,?_,?_,.inr (.inr (.inr ⟨rfl,?_,?_,?_,?_,?_,?_⟩))⟩,?_,by rw [zhd,zk0]⟩
 ·show zeB (b.toNat:Int)=false
  unfold zeB; simp only [Bool.or_eq_false_iff,beq_eq_false_iff_ne]; omega
 ·show ((b.toNat:Int))≠59
  omega
 ·show ((b.toNat:Int))≠10
  omega
 ·show zhw (b.toNat:Int)=false
  unfold zhw; simp only [Bool.or_eq_false_iff,beq_eq_false_iff_ne]; omega
 ·show zbD (b.toNat:Int)=false
  unfold zbD; simp only [Bool.or_eq_false_iff,Bool.and_eq_false_iff,beq_eq_false_iff_ne,decide_eq_false_iff_not]; omega
 ·show zdK (b.toNat:Int)=true\/(b.toNat:Int)=45
  unfold zdK; simp only [Bool.and_eq_true,decide_eq_true_eq]; omega
 ·have:bs (flat (asc b::r.map asc))=zd2 v:=by
   have:=zhd (zd2 v)
   unfold ascs at this
   rw [hl,List.map_cons] at this
   rw [this,← hl,zk0]
  rw [this,hr]
 ·intro z hz
  obtain ⟨q,hq,rfl⟩:=List.mem_map.1 hz
  have:=dg q (h2 q hq)
  show (!false&&(zbD (q.toNat:Int)||zdK (q.toNat:Int)))=true
  have:zdK (q.toNat:Int)=true:=by unfold zdK; simp only [Bool.and_eq_true,decide_eq_true_eq]; omega
  rw [this]; simp
 ·intro z hz
  unfold ascs at hz
  rw [hl] at hz
  obtain ⟨q,hq,rfl⟩:=List.mem_map.1 hz
  refine zi9 ?_
  rcases List.mem_cons.1 hq with rfl | hq
  ·omega
  ·have:=dg q (h2 q hq); omega
end Go.Vs
end
