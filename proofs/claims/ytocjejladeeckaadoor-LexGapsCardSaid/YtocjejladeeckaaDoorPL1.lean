import Derived.Test.YtocjejladeeckaaDoorPT1
import Derived.Test.YtocjejladeeckaaDoorPS0
import Derived.Test.YtocjejladeeckaaDoorPT2
import Derived.Test.YtocjejladeeckaaDoorPalR
set_option linter.all false
section
namespace Go.Vs
local instance tabPalLx0:Tab:=⟨fun _=>none⟩
structure Rn where
 r:Int
 bs:List UInt8
 bad:Bool
def Rn.word(x:Rn):Bool:=!x.bad&&(zbk x.r||zcb x.r)
def flat(l:List Rn):List UInt8:=l.flatMap (·.bs)
def Tk(kind:Int)(x:Rn)(w:List Rn):Prop :=
 x.bad=false/\zbU x.r=false/\x.r≠59 /\
 ((kind=4/\x.r=10/\w=[])\/(kind=3/\x.r≠10/\zdJ x.r=true/\w=[]) \/
  (kind=1/\x.r≠10/\zdJ x.r=false/\zbk x.r=true/\w.length<=15/\∀y∈w,y.word=true) \/
  (kind=2/\x.r≠10/\zdJ x.r=false/\zbk x.r=false/\(zcb x.r=true\/x.r=45)/\(zbY (bs (flat (x::w)))).2=true/\∀y∈w,y.word=true))
def Ends(kind:Int)(r:List Rn):Prop:=(kind=1\/kind=2)->∀y,r.head?=some y->y.word=false
inductive Lx:List Rn->List (Int × List Rn)->Prop
 | nil:Lx [] []
 | blank {x r A} (h1:x.bad=false) (h2:zbU x.r=true) (h:Lx r A):Lx (x::r) A
 | rem {x a b A} (h1:x.bad=false) (h2:x.r=59) (h3:∀y∈a,y.bad=false/\y.r≠10) (h4:∀y,b.head?=some y->y.r=10) (h:Lx b A):Lx (x::(a++b)) A
 | tok {kind x w r A} (ht:Tk kind x w) (he:Ends kind r) (h:Lx r A):Lx (x::(w++r)) ((kind,x::w)::A)
def sp:Rn:=⟨32,[32],false⟩
def sc:Rn:=⟨59,[59],false⟩
def zdI(g:List Rn):Prop:=∀y∈g,y.bad=false/\zbU y.r=true
theorem Lx.blanks{g:List Rn}(hg:zdI g){r A}(h:Lx r A):Lx (g++r) A:=by
 induction g with
 | nil=>exact h
 | cons y g ih =>
  have:=hg y (by simp)
  exact .blank this.1 this.2 (ih fun z hz=>hg z (by simp [hz]))
theorem zdR{y:Rn}(h:zbU y.r=true):y.word=false:=by
 unfold zbU at h
 simp only [Bool.or_eq_true,beq_iff_eq] at h
 rcases h with h | h <;> (unfold Rn.word; rw [h]; cases y.bad <;> rfl)
inductive Gap:List Rn->Prop
 | blanks {g} (h:zdI g):Gap g
 | rem {g a} (h:zdI g) (ha:∀y∈a,y.bad=false/\y.r≠10):Gap (g++sc::a)
inductive zeU:List (Int × List Rn)->List Rn->Prop
 | nil {g} (hg:Gap g):zeU [] g
 | cons {kind x w A g b t} (hg:Gap g) (h4:kind=4\/g=[]) (hb:zdI b) (hb0:b≠[]) (h:zeU A t):zeU ((kind,x::w)::A) (g++(x::w)++b++t)
theorem Gap.lx{g:List Rn}(hg:Gap g):Lx g []:=by
 cases hg with
 | blanks h=>have:=Lx.blanks h Lx.nil; simpa using this
 | @rem g a h ha =>
  refine Lx.blanks h ?_
  have:=Lx.rem (x:=sc) (a:=a) (b:=[]) rfl rfl ha (fun y hy=>by simp at hy) Lx.nil
  simpa using this
theorem Lx.apart:∀{l A},Lx l A->∀{t},zeU A t->Lx t A:=by
 intro l A h
 induction h with
 | nil=>intro t ha; cases ha with | nil hg=>exact hg.lx
 | blank h1 h2 h ih=>exact ih
 | rem h1 h2 h3 h4 h ih=>exact ih
 | @tok kind x w r A ht he h ih =>
  intro t ha
  cases ha with
  | @cons _ _ _ _ g b t hg h4 hb hb0 ha =>
   have hin:Lx (b++t) A:=Lx.blanks hb (ih ha)
   have hends:Ends kind (b++t):=by
    intro _ y hy
    cases b with
    | nil=>exact absurd rfl hb0
    | cons z b =>
     simp at hy
     subst hy
     exact zdR (hb z (by simp)).2
   have htok:Lx (x::(w++(b++t))) ((kind,x::w)::A):=.tok ht hends hin
   have e:∀g':List Rn,g'++(x::w)++b++t=g'++(x::(w++(b++t))):=fun g'=>by simp
   rw [e]
   cases hg with
   | blanks hg=>exact Lx.blanks hg htok
   | @rem g a hg haa =>
    rw [List.append_assoc]
    refine Lx.blanks hg ?_
    have h10:x.r=10:=by
     rcases h4 with h4 | h4
     ·subst h4
      obtain ⟨_,_,_,h⟩:=ht
      rcases h with h | h | h | h
      ·exact h.2.1
      all_goals exact absurd h.1 (by decide)
     ·simp at h4
    exact Lx.rem (x:=sc) (a:=a) (b:=x::(w++(b++t))) rfl rfl haa (fun y hy=>by simp at hy; rw [← hy]; exact h10) htok
end Go.Vs
end
section
namespace Go.Vs
local instance tabPalLx1:Tab:=⟨fun _=>none⟩
open Go.Lib
def gB(l:List UInt8)(i:Nat):Nat:=(l.getD i 0).toNat
def dec0(l:List UInt8):Nat × Nat:=decodeN l.length (gB l 0) (gB l 1) (gB l 2) (gB l 3)
theorem ziO(l:List UInt8)(i:Nat):(bs l).get! i=l.getD i 0:=by
 by_cases h:i<l.length
 ·have h2:i<(bs l).size:=by rw [za3]; exact h
  rw [Go.Proofs.Utf8W.get!_of_lt _ _ h2]
  show l.toArray[i]=_
  simp [List.getD_eq_getElem?_getD,h]
  rfl
 ·show l.toArray[i]! = _
  simp [List.getD_eq_getElem?_getD,h,getElem!_def]
  rfl
theorem zeP(p l:List UInt8):Utf8.decode (bs (p++l)) p.length=dec0 l:=by
 have g:∀k,(bs (p++l)).get! (p.length+k)=l.getD k 0:=fun k=>by
  rw [ziO,List.getD_eq_getElem?_getD,List.getD_eq_getElem?_getD,List.getElem?_append_right (by omega)]
  congr 2; omega
 rw [decode_at,dec0]
 have g0:=g 0
 rw [Nat.add_zero] at g0
 rw [g0,g 1,g 2,g 3,za3,List.length_append,Nat.add_sub_cancel_left]
 rfl
structure Dec (x:Rn):Prop where
 ok:x.bad=false
 len:1<=x.bs.length
 dec:∃r:Nat,x.r=(r:Int)/\(∀t,dec0 (x.bs++t)=(r,x.bs.length))/\¬(r=65533/\x.bs.length=1)
def asc(b:UInt8):Rn:=⟨(b.toNat:Int),[b],false⟩
theorem zh9{b:UInt8}(h:b.toNat<128):Dec (asc b):=by
 refine ⟨rfl,by simp [asc],b.toNat,rfl,fun t=>?_,fun h2=>by omega⟩
 show dec0 ([b]++t)=(b.toNat,1)
 unfold dec0 decodeN
 have:gB ([b]++t) 0=b.toNat:=rfl
 rw [this,if_pos h]
theorem zba(a b:List Rn):flat (a++b)=flat a++flat b:=by simp [flat]
theorem zaV(x:Rn)(b:List Rn):flat (x::b)=x.bs++flat b:=by simp [flat]
theorem zh6{T:List Rn}(h:∀x∈T,Dec x):T.length<=(flat T).length:=by
 induction T with
 | nil=>simp
 | cons x T ih =>
  rw [zaV,List.length_append,List.length_cons]
  have:=(h x (by simp)).len
  have:=ih fun y hy=>h y (by simp [hy])
  omega
theorem zdW:∀(T pre:List Rn) (f:Nat) (line col:Int),(∀x∈T,Dec x)->T.length<=f ->
  (zaA (bs (flat (pre++T))) f (flat pre).length line col).length=T.length/\∀(j:Nat) (x:Rn),T[j]?=some x->∃y,(zaA (bs (flat (pre++T))) f (flat pre).length line col)[j]?=some y/\y.Rune=x.r/\y.Bad=x.bad/\y.At=((flat (pre++T.take j)).length:Int)/\y.Size=(x.bs.length:Int)
 | [],pre,f,line,col,hd,hf=>by
  have h:¬(flat pre).length<(bs (flat (pre++[]))).size:=by rw [za3]; simp
  cases f with
  | zero=>exact ⟨rfl,fun j x h=>by simp at h⟩
  | succ f=>rw [zaA,if_neg h]; exact ⟨rfl,fun j x h=>by simp at h⟩
 | x::T,pre,f,line,col,hd,hf=>by
  obtain ⟨h1,h2,r,h3,h4,h5⟩:=hd x (by simp)
  cases f with
  | zero=>simp at hf
  | succ f =>
   have hp:(flat pre).length<(bs (flat (pre++x::T))).size:=by rw [za3,zba,zaV]; simp; omega
   have hdec:Utf8.decode (bs (flat (pre++x::T))) (flat pre).length=(r,x.bs.length):=by
    rw [zba,zaV,zeP,h4]
   rw [zaA,if_pos hp,hdec]
   have e1:(flat pre).length+x.bs.length=(flat (pre++[x])).length:=by rw [zba,zaV]; simp [flat]
   have e2:pre++x::T=(pre++[x])++T:=by simp
   have ih:=zdW T (pre++[x]) f (if r=10 then line+1 else line) (if r=10 then 1 else col+1) (fun y hy=>hd y (by simp [hy])) (by simpa using hf)
   simp only
   rw [e1,e2]
   refine ⟨by rw [List.length_cons,ih.1]; rfl,fun j y hj=>?_⟩
   cases j with
   | zero =>
    simp at hj; subst hj
    refine ⟨_,rfl,h3.symm,?_,by simp,rfl⟩
    rw [h1]
    simp only [Bool.and_eq_false_iff,beq_eq_false_iff_ne]
    by_cases e:r=65533
    ·exact .inr fun h=>h5 ⟨e,h⟩
    ·exact .inl e
   | succ j =>
    simp at hj
    obtain ⟨z,z1,z2,z3,z4,z5⟩:=ih.2 j y hj
    refine ⟨z,by simpa using z1,z2,z3,?_,z5⟩
    rw [z4]; simp
structure Sp (s:ByteArray) (v:List zab) (all:List Rn):Prop where
 s:s=bs (flat all)
 len:v.length=all.length
 at_:∀(j:Nat) (x:Rn),all[j]?=some x->(rd v (j:Int)).Rune=x.r/\(rd v (j:Int)).Bad=x.bad/\(rd v (j:Int)).At=((flat (all.take j)).length:Int)/\(rd v (j:Int)).Size=(x.bs.length:Int)
theorem zjR(all:List Rn)(h:∀x∈all,Dec x):Sp (bs (flat all)) (zaT (bs (flat all))) all:=by
 have:=zdW all [] (bs (flat all)).size 1 1 h (by rw [za3]; exact zh6 h)
 refine ⟨rfl,this.1,fun j x hj=>?_⟩
 obtain ⟨y,h1,h2,h3,h4,h5⟩:=this.2 j x hj
 have e:rd (zaT (bs (flat all))) (j:Int)=y:=zhf h1
 rw [e]
 exact ⟨h2,h3,h4,h5⟩
section
variable {s:ByteArray} {v:List zab} {all:List Rn} (sp:Sp s v all)
include sp
theorem Sp.get{pre r:List Rn}{x:Rn}(h:all=pre++x::r):InB (pre.length:Int) v.length/\(rd v (pre.length:Int)).Rune=x.r/\(rd v (pre.length:Int)).Bad=x.bad/\(rd v (pre.length:Int)).At=((flat pre).length:Int)/\(rd v (pre.length:Int)).Size=(x.bs.length:Int):=by
 have hj:all[pre.length]?=some x:=by rw [h]; simp
 obtain ⟨a,b,c,d⟩:=sp.at_ _ _ hj
 refine ⟨⟨by omega,by rw [sp.len,h]; simp⟩,a,b,?_,d⟩
 rw [c,h]; simp
theorem Sp.word{pre r:List Rn}(h:all=pre++r):wordAt v (pre.length:Int)=(match r with | []=>false | x::_=>x.word):=by
 cases r with
 | nil =>
  have:¬((pre.length:Int)<(v.length:Int)):=by rw [sp.len,h]; simp
  unfold wordAt
  rw [decide_eq_false this]; rfl
 | cons x r =>
  obtain ⟨a,b,c,_⟩:=sp.get h
  have:((pre.length:Int)<(v.length:Int)):=by have:=a.2; omega
  unfold wordAt Rn.word
  rw [decide_eq_true this,b,c]; rfl
theorem Sp.run:∀(w pre r:List Rn) (n:Nat),all=pre++(w++r)->(∀y∈w,y.word=true)->(∀y,r.head?=some y->y.word=false)->w.length<=n->runC v n (pre.length:Int)=((pre.length+w.length:Nat):Int)
 | [],pre,r,n,h,h1,h2,hn=>by
  cases n with
  | zero=>rfl
  | succ n =>
   rw [runC,sp.word h]
   cases r with
   | nil=>rfl
   | cons y r =>
    have:=h2 y rfl
    simp only [List.nil_append,this]; rfl
 | x::w,pre,r,n,h,h1,h2,hn=>by
  cases n with
  | zero=>simp at hn
  | succ n =>
   rw [runC,sp.word h]
   simp only [List.cons_append,h1 x (by simp),if_true]
   have:=Sp.run w (pre++[x]) r n (by rw [h]; simp) (fun y hy=>h1 y (by simp [hy])) h2 (by simpa using hn)
   simp only [List.length_append,List.length_singleton] at this
   rw [show ((pre.length:Int)+1)=((pre.length+1:Nat):Int) by omega,this]
   simp; omega
theorem Sp.rem:∀(a pre b:List Rn) (n:Nat),all=pre++(a++b)->(∀y∈a,y.bad=false/\y.r≠10)->(∀y,b.head?=some y->y.r=10)->a.length<n->remC v n (pre.length:Int)=.inl ((pre.length+a.length:Nat):Int)
 | [],pre,b,n,h,h1,h2,hn=>by
  cases n with
  | zero=>simp at hn
  | succ n =>
   have:zbx v (pre.length:Int)=.inr (.inl (pre.length:Int)):=by
    unfold zbx
    cases b with
    | nil =>
     have:¬((pre.length:Int)<(v.length:Int)):=by rw [sp.len,h]; simp
     rw [if_neg (by simp; omega)]
    | cons y b =>
     obtain ⟨_,e,_⟩:=sp.get h
     rw [if_neg (by rw [e,h2 y rfl]; simp)]
   rw [remC,this]; rfl
 | x::a,pre,b,n,h,h1,h2,hn=>by
  cases n with
  | zero=>simp at hn
  | succ n =>
   obtain ⟨q,e,c,_⟩:=sp.get h
   have hx:=h1 x (by simp)
   have:zbx v (pre.length:Int)=.inl ((pre.length:Int)+1):=by
    unfold zbx
    have hlt:((pre.length:Int)<(v.length:Int)):=by have:=q.2; omega
    rw [if_pos (by rw [e]; simp [hlt,hx.2]),c,hx.1]; rfl
   rw [remC,this]
   have ih:=Sp.rem a (pre++[x]) b n (by rw [h]; simp) (fun y hy=>h1 y (by simp [hy])) h2 (by simpa using hn)
   simp only [List.length_append,List.length_singleton] at ih
   simp only
   rw [show ((pre.length:Int)+1)=((pre.length+1:Nat):Int) by omega,ih]
   simp; omega
theorem Sp.txt{pre w r:List Rn}{x:Rn}(h:all=pre++(x::w++r)):s.extract (rd v (pre.length:Int)).At.toNat ((rd v ((pre.length+1+w.length:Nat)-1:Int)).At+(rd v ((pre.length+1+w.length:Nat)-1:Int)).Size).toNat=bs (flat (x::w)):=by
 obtain ⟨_,_,_,a1,_⟩:=sp.get (show all=pre++x::(w++r) by rw [h]; simp)
 have hl:∃y z,x::w=z++[y]:=by
  refine ⟨(x::w).getLast (by simp),(x::w).dropLast,(List.dropLast_concat_getLast (by simp)).symm⟩
 obtain ⟨y,z,hz⟩:=hl
 have hlen:z.length=w.length:=by
  have:=congrArg List.length hz
  simp at this; omega
 obtain ⟨_,_,_,b1,b2⟩:=sp.get (show all=(pre++z)++y::r by rw [h,hz]; simp)
 have e:((pre.length+1+w.length:Nat)-1:Int)=((pre++z).length:Int):=by rw [List.length_append,hlen]; omega
 rw [a1,e,b1,b2,sp.s,h]
 have e2:(((flat (pre++z)).length:Int)+(y.bs.length:Int)).toNat=(flat pre).length+(flat (x::w)).length:=by
  rw [hz,zba,zba,zaV]; simp [flat]; omega
 rw [e2,zba,zba]
 apply bext
 rw [ByteArray.data_extract]
 simp [bs]
end
end Go.Vs
end
section
namespace Go.Vs
local instance tabPalLx2:Tab:=⟨fun _=>none⟩
def kt(t:zaa):Int × ByteArray:=(t.Kind,t.Text)
def ka(a:Int × List Rn):Int × ByteArray:=(a.1,bs (flat a.2))
section
variable {s:ByteArray} {v:List zab} {all:List Rn} (sp:Sp s v all)
include sp
theorem Sp.tail{pre w r:List Rn}{x:Rn}{kind:Int}{l:List zaa}(h:all=pre++(x::w++r))(h1:kind=1->w.length<=15)(h2:kind=2->(zbY (bs (flat (x::w)))).2=true){k:Int}(hk:k=((pre.length+1+w.length:Nat):Int)) :
  ∃t,kt t=(kind,bs (flat (x::w)))/\tail v s (pre.length:Int) l k kind=.inl (k,l++[t]):=by
 subst hk
 unfold Go.Vs.tail
 simp only
 rw [sp.txt h]
 rw [if_neg (by rintro ⟨a,b⟩; have:=h1 a; omega),if_neg (by rintro ⟨a,b⟩; rw [h2 a] at b; cases b)]
 exact ⟨_,rfl,rfl⟩
theorem ziJ{T:List Rn}{A:List (Int × List Rn)}(hx:Lx T A):∀(pre:List Rn),all=pre++T->∀(n:Nat),T.length<=n->∀(l:List zaa),∃L,tokC v s n (pre.length:Int) l=.inl (l++L)/\L.map kt=A.map ka:=by
 induction hx with
 | nil =>
  intro pre h n hn l
  refine ⟨[],?_,rfl⟩
  cases n with
  | zero=>simp [tokC]
  | succ n=>rw [tokC,if_neg (by rw [sp.len,h]; simp)]; simp
 | @blank x r A h1 h2 hx ih =>
  intro pre h n hn l
  cases n with
  | zero=>simp at hn
  | succ n =>
   obtain ⟨q,e,c,_⟩:=sp.get h
   have hlt:((pre.length:Int)<(v.length:Int)):=by have:=q.2; omega
   have ht:zbw v s (pre.length:Int) l=.inl ((pre.length:Int)+1,l):=by
    unfold zbw
    rw [c,h1,if_neg (by decide),e,if_pos h2]
   rw [tokC,if_pos hlt,ht]
   obtain ⟨L,e1,e2⟩:=ih (pre++[x]) (by rw [h]; simp) n (by simpa using hn) l
   refine ⟨L,?_,e2⟩
   simp only [List.length_append,List.length_singleton] at e1
   exact e1
 | @rem x a b A h1 h2 h3 h4 hx ih =>
  intro pre h n hn l
  cases n with
  | zero=>simp at hn
  | succ n =>
   obtain ⟨q,e,c,_⟩:=sp.get h
   have hlt:((pre.length:Int)<(v.length:Int)):=by have:=q.2; omega
   have hvl:v.length=pre.length+1+a.length+b.length:=by rw [sp.len,h]; simp; omega
   have hr:=sp.rem a (pre++[x]) b v.length (by rw [h]; simp) h3 h4 (by omega)
   simp only [List.length_append,List.length_singleton] at hr
   have ht:zbw v s (pre.length:Int) l=.inl (((pre.length+1+a.length:Nat):Int),l):=by
    unfold zbw
    rw [c,h1,if_neg (by decide),e,h2,if_neg (by decide),if_pos rfl,show ((pre.length:Int)+1)=((pre.length+1:Nat):Int) by omega,hr]
   rw [tokC,if_pos hlt,ht]
   obtain ⟨L,e1,e2⟩:=ih (pre++x::a) (by rw [h]; simp) n (by simp at hn ⊢; omega) l
   refine ⟨L,?_,e2⟩
   have e3:(pre++x::a).length=pre.length+1+a.length:=by simp; omega
   rw [e3] at e1
   exact e1
 | @tok kind x w r A ht he hx ih =>
  intro pre h n hn l
  cases n with
  | zero=>simp at hn
  | succ n =>
   have h':all=pre++x::(w++r):=by rw [h]
   obtain ⟨q,e,c,_⟩:=sp.get h'
   have hlt:((pre.length:Int)<(v.length:Int)):=by have:=q.2; omega
   obtain ⟨t0,t1,t2,t3⟩:=ht
   have hvl:v.length=pre.length+1+w.length+r.length:=by rw [sp.len,h]; simp; omega
   have key:∃t,kt t=(kind,bs (flat (x::w)))/\zbw v s (pre.length:Int) l=.inl (((pre.length+1+w.length:Nat):Int),l++[t]):=by
    have hA:all=pre++(x::w++r):=by rw [h]; simp
    unfold zbw
    rw [c,t0,if_neg (by decide),e,t1,if_neg (by decide),if_neg t2]
    rcases t3 with ⟨rfl,k1,rfl⟩ | ⟨rfl,k1,k2,rfl⟩ | ⟨rfl,k1,k2,k3,k4,k5⟩ | ⟨rfl,k1,k2,k3,k4,k5,k6⟩
    ·rw [if_pos k1]
     exact sp.tail hA (fun e=>absurd e (by decide)) (fun e=>absurd e (by decide)) (by simp)
    ·rw [if_neg k1,if_pos k2]
     exact sp.tail hA (fun e=>absurd e (by decide)) (fun e=>absurd e (by decide)) (by simp)
    ·have hrun:=sp.run w (pre++[x]) r v.length (by rw [h]; simp) k5 (he (.inl rfl)) (by omega)
     simp only [List.length_append,List.length_singleton] at hrun
     rw [if_neg k1,k2,if_neg (by decide),if_pos k3,show ((pre.length:Int)+1)=((pre.length+1:Nat):Int) by omega,hrun]
     exact sp.tail hA (fun _=>k4) (fun e=>absurd e (by decide)) rfl
    ·have hrun:=sp.run w (pre++[x]) r v.length (by rw [h]; simp) k6 (he (.inr rfl)) (by omega)
     simp only [List.length_append,List.length_singleton] at hrun
     have hd:(zcb x.r||(x.r==45))=true:=by
      rcases k4 with k4 | k4
      ·rw [k4]; rfl
      ·rw [k4]; decide
     rw [if_neg k1,k2,if_neg (by decide),k3,if_neg (by decide),if_pos hd,show ((pre.length:Int)+1)=((pre.length+1:Nat):Int) by omega,hrun]
     exact sp.tail hA (fun e=>absurd e (by decide)) (fun _=>k5) rfl
   obtain ⟨t,et,ht⟩:=key
   rw [tokC,if_pos hlt,ht]
   obtain ⟨L,e1,e2⟩:=ih (pre++x::w) (by rw [h]; simp) n (by simp at hn ⊢; omega) (l++[t])
   refine ⟨t::L,?_,by rw [List.map_cons,List.map_cons,e2,et]; rfl⟩
   have e3:(pre++x::w).length=pre.length+1+w.length:=by simp; omega
   rw [e3] at e1
   simp only [e1]
   simp
end
theorem zf9{T:List Rn}{A:List (Int × List Rn)}(hd:∀x∈T,Dec x)(hx:Lx T A):(zaN (bs (flat T))).2=⟨0,0,0⟩/\(zaN (bs (flat T))).1.map kt=A.map ka++[(4,⟨#[]⟩)]:=by
 have sp:=zjR T hd
 obtain ⟨L,e1,e2⟩:=ziJ sp hx [] rfl (zaT (bs (flat T))).length (by rw [sp.len]; exact Nat.le_refl _) []
 unfold zaN
 have e1':tokC (zaT (bs (flat T))) (bs (flat T)) (zaT (bs (flat T))).length 0 []=.inl L:=e1
 rw [e1']
 refine ⟨rfl,?_⟩
 simp only [List.map_append,e2]; rfl
end Go.Vs
end
section
namespace Go.Vs
local instance tabPalLx3:Tab:=⟨fun _=>none⟩
open Go.Lib
theorem zhu{n m b0 b1 b2 b3 c1 c2 c3:Nat}(hm:(decodeN m b0 c1 c2 c3).2<=n)(hw:¬((decodeN m b0 c1 c2 c3).1=65533/\(decodeN m b0 c1 c2 c3).2=1))(h1:1<(decodeN m b0 c1 c2 c3).2->b1=c1)(h2:2<(decodeN m b0 c1 c2 c3).2->b2=c2)(h3:3<(decodeN m b0 c1 c2 c3).2->b3=c3) :
  decodeN n b0 b1 b2 b3=decodeN m b0 c1 c2 c3:=by
 unfold decodeN at hm hw h1 h2 h3 ⊢
 by_cases p0:b0<128
 ·rw [if_pos p0,if_pos p0]
 simp only [if_neg p0] at hm hw h1 h2 h3 ⊢
 by_cases q1:b0 / 32=6/\(1<m/\c1 / 64=2)
 ·simp only [if_pos q1] at hm hw h1 h2 h3 ⊢
  by_cases r:b0 % 32 * 64+c1 % 64≥128
  ·simp only [if_pos r] at hm hw h1 h2 h3 ⊢
   obtain rfl:=h1 (by omega)
   rw [if_pos ⟨q1.1,by omega,q1.2.2⟩,if_pos r]
  ·simp [if_neg r] at hw
 simp only [if_neg q1] at hm hw h1 h2 h3 ⊢
 by_cases q2:b0 / 16=14/\(1<m/\c1 / 64=2)/\(2<m/\c2 / 64=2)
 ·simp only [if_pos q2] at hm hw h1 h2 h3 ⊢
  split at hm
  ·rename_i r
   simp only [if_pos r] at hw h1 h2 h3 ⊢
   obtain rfl:=h1 (by omega)
   obtain rfl:=h2 (by omega)
   rw [if_neg (by omega),if_pos ⟨q2.1,⟨by omega,q2.2.1.2⟩,by omega,q2.2.2.2⟩,if_pos r]
  ·rename_i r
   simp [if_neg r] at hw
 simp only [if_neg q2] at hm hw h1 h2 h3 ⊢
 by_cases q3:b0 / 8=30/\(1<m/\c1 / 64=2)/\(2<m/\c2 / 64=2)/\(3<m/\c3 / 64=2)
 ·simp only [if_pos q3] at hm hw h1 h2 h3 ⊢
  split at hm
  ·rename_i r
   simp only [if_pos r] at hw h1 h2 h3 ⊢
   obtain rfl:=h1 (by omega)
   obtain rfl:=h2 (by omega)
   obtain rfl:=h3 (by omega)
   rw [if_neg (by omega),if_neg (by omega),if_pos ⟨q3.1,⟨by omega,q3.2.1.2⟩,⟨by omega,q3.2.2.1.2⟩,by omega,q3.2.2.2.2⟩,if_pos r]
  ·rename_i r
   simp [if_neg r] at hw
 ·simp [if_neg q3] at hw
theorem zgR{n m a0 b0 b1 b2 b3 c1 c2 c3:Nat}(h0:a0=b0)(hm:(decodeN m b0 c1 c2 c3).2<=n)(hw:¬((decodeN m b0 c1 c2 c3).1=65533/\(decodeN m b0 c1 c2 c3).2=1))(h1:1<(decodeN m b0 c1 c2 c3).2->b1=c1)(h2:2<(decodeN m b0 c1 c2 c3).2->b2=c2)(h3:3<(decodeN m b0 c1 c2 c3).2->b3=c3) :
  decodeN n a0 b1 b2 b3=decodeN m b0 c1 c2 c3:=by subst h0; exact zhu hm hw h1 h2 h3
def rnOf(s:ByteArray)(y:zab):Rn:=⟨y.Rune,(s.data.toList.drop y.At.toNat).take y.Size.toNat,y.Bad⟩
def rns(s:ByteArray):List Rn:=(zaT s).map (rnOf s)
theorem zdD(s:ByteArray)(pos:Nat)(h:pos<s.size):1<=(Utf8.decode s pos).2/\pos+(Utf8.decode s pos).2<=s.size:=by
 have:=zcQ s 1 pos 1 1 { Rune:=((Utf8.decode s pos).1:Int),At:=(pos:Int),Size:=((Utf8.decode s pos).2:Int),Line:=1,Col:=1,Bad:=(Utf8.decode s pos).1==65533&&(Utf8.decode s pos).2==1 } (by rw [zaA,if_pos h]; simp)
 obtain ⟨a,b,c,_⟩:=this
 simp only at b c
 omega
theorem zhX(s:ByteArray)(pos:Nat)(h:pos<s.size)(hb:((Utf8.decode s pos).1==65533&&(Utf8.decode s pos).2==1)=false):Dec ⟨((Utf8.decode s pos).1:Int),(s.data.toList.drop pos).take (Utf8.decode s pos).2,false⟩:=by
 obtain ⟨l1,l2⟩:=zdD s pos h
 have hsz:=zcW s
 have hlen:((s.data.toList.drop pos).take (Utf8.decode s pos).2).length=(Utf8.decode s pos).2:=by simp; omega
 have hs:s=bs (s.data.toList.take pos++s.data.toList.drop pos):=by rw [List.take_append_drop,zid]
 have hd:Utf8.decode s pos=dec0 (s.data.toList.drop pos):=by
  have:=zeP (s.data.toList.take pos) (s.data.toList.drop pos)
  rw [← hs] at this
  rw [← this]; congr 1; simp; omega
 refine ⟨rfl,by rw [hlen]; exact l1,(Utf8.decode s pos).1,rfl,fun t=>?_,?_⟩
 ·rw [hlen]
  have e:(Utf8.decode s pos)=((Utf8.decode s pos).1,(Utf8.decode s pos).2):=rfl
  rw [← e]
  generalize hL:s.data.toList.drop pos=l at hd hlen
  have hg:∀k,k<(Utf8.decode s pos).2->gB (l.take (Utf8.decode s pos).2++t) k=gB l k:=fun k hk=>by
   unfold gB
   rw [List.getD_eq_getElem?_getD,List.getD_eq_getElem?_getD,List.getElem?_append_left (by rw [hlen]; exact hk),List.getElem?_take_of_lt hk]
  rw [hd] at hg hlen l1 hb ⊢
  have hb':¬((dec0 l).1=65533/\(dec0 l).2=1):=by
   rintro ⟨a,b⟩
   rw [a,b] at hb; exact absurd hb (by decide)
  have key:dec0 (l.take (dec0 l).2++t)=decodeN l.length (gB l 0) (gB l 1) (gB l 2) (gB l 3):=by
   exact zgR (hg 0 l1) (by rw [List.length_append]; have:(decodeN l.length (gB l 0) (gB l 1) (gB l 2) (gB l 3)).2=(dec0 l).2:=rfl; omega) hb' (hg 1) (hg 2) (hg 3)
  exact key
 ·rintro ⟨a,b⟩
  rw [hlen] at b
  rw [a,b] at hb; exact absurd hb (by decide)
end Go.Vs
end
section
namespace Go.Vs
local instance tabPalLx4:Tab:=⟨fun _=>none⟩
theorem zdV(s:ByteArray):∀(f pos:Nat) (line col:Int),∀y∈zaA s f pos line col,∃q,q<s.size/\y.At=(q:Int)/\y.Rune=((Utf8.decode s q).1:Int)/\y.Size=((Utf8.decode s q).2:Int)/\y.Bad=((Utf8.decode s q).1==65533&&(Utf8.decode s q).2==1)
 | 0,pos,line,col,y,h=>by simp [zaA] at h
 | f+1,pos,line,col,y,h=>by
  rw [zaA] at h
  split at h
  ·rename_i hp
   rcases List.mem_cons.1 h with rfl | h
   ·exact ⟨pos,hp,rfl,rfl,rfl,rfl⟩
   ·exact zdV s f _ _ _ y h
  ·simp at h
theorem zhY(s:ByteArray)(y:zab)(h:y∈zaT s)(hb:y.Bad=false):Dec (rnOf s y):=by
 obtain ⟨q,h1,h2,h3,h4,h5⟩:=zdV s _ _ _ _ y h
 have:=zhX s q h1 (by rw [← h5]; exact hb)
 unfold rnOf
 rw [h2,h3,h4,hb]
 simpa using this
theorem zew(s:ByteArray):∀(f pos:Nat) (line col:Int),s.size-pos<=f->pos<=s.size->flat ((zaA s f pos line col).map (rnOf s))=s.data.toList.drop pos
 | 0,pos,line,col,h,hp=>by
  have hs:=zcW s
  rw [zaA,List.drop_of_length_le (by omega)]; rfl
 | f+1,pos,line,col,h,hp=>by
  have hs:=zcW s
  rw [zaA]
  by_cases hlt:pos<s.size
  ·obtain ⟨l1,l2⟩:=zdD s pos hlt
   rw [if_pos hlt,List.map_cons,zaV,zew s f _ _ _ (by omega) l2]
   unfold rnOf
   simp only [Int.toNat_natCast]
   rw [← List.drop_drop,List.take_append_drop]
  ·rw [if_neg hlt,List.drop_of_length_le (by omega)]; rfl
theorem zfr(s:ByteArray):flat (rns s)=s.data.toList:=by
 have:=zew s s.size 0 1 1 (by omega) (by omega)
 simpa [rns,zaT] using this
end Go.Vs
end
section
namespace Go.Vs
local instance tabPalLxB:Tab:=⟨fun _=>none⟩
theorem zeu(s:ByteArray):∀(f pos:Nat) (line col:Int) (j:Nat) (y:zab),pos<=s.size->(zaA s f pos line col)[j]?=some y->y.At=((pos+(flat (((zaA s f pos line col).take j).map (rnOf s))).length:Nat):Int)/\(rnOf s y).bs.length=y.Size.toNat/\0<=y.Size
 | 0,pos,line,col,j,y,hp,h=>by simp [zaA] at h
 | f+1,pos,line,col,j,y,hp,h=>by
  rw [zaA] at h ⊢
  by_cases hlt:pos<s.size
  ·rw [if_pos hlt] at h ⊢
   obtain ⟨l1,l2⟩:=zdD s pos hlt
   have hs:=zcW s
   cases j with
   | zero =>
    simp at h; subst h
    refine ⟨by simp [flat],?_,by simp⟩
    simp [rnOf]; omega
   | succ j =>
    simp at h
    obtain ⟨a,b,c⟩:=zeu s f _ _ _ j y l2 h
    refine ⟨?_,b,c⟩
    rw [a,List.take_succ_cons,List.map_cons,zaV,List.length_append]
    have:(rnOf s { Rune:=((Utf8.decode s pos).1:Int),At:=(pos:Int),Size:=((Utf8.decode s pos).2:Int),Line:=line,Col:=col,Bad:=(Utf8.decode s pos).1==65533&&(Utf8.decode s pos).2==1 }).bs.length=(Utf8.decode s pos).2:=by simp [rnOf]; omega
    rw [this]; omega
  ·rw [if_neg hlt] at h; simp at h
theorem zix(s:ByteArray):Sp s (zaT s) (rns s):=by
 refine ⟨by rw [zfr,zid],by simp [rns],fun j x hj=>?_⟩
 unfold rns at hj
 rw [List.getElem?_map] at hj
 cases hy:(zaT s)[j]? with
 | none=>rw [hy] at hj; simp at hj
 | some y =>
  rw [hy] at hj
  simp at hj; subst hj
  obtain ⟨a,b,c⟩:=zeu s s.size 0 1 1 j y (by omega) hy
  rw [zhf hy]
  refine ⟨rfl,rfl,?_,by rw [b]; omega⟩
  rw [a,Nat.zero_add]
  unfold rns
  rw [← List.map_take]; rfl
section
variable {s:ByteArray} {v:List zab} {all:List Rn} (sp:Sp s v all)
include sp
theorem Sp.wordAt{i:Nat}:wordAt v (i:Int)=(match all.drop i with | []=>false | x::_=>x.word):=by
 cases hd:all.drop i with
 | nil =>
  have hl:all.length<=i:=by simpa using hd
  have:¬((i:Int)<(v.length:Int)):=by rw [sp.len]; omega
  unfold Go.Vs.wordAt
  rw [decide_eq_false this]; rfl
 | cons x r =>
  have hi:i<all.length:=by
   apply Classical.byContradiction; intro hn
   rw [List.drop_of_length_le (by omega)] at hd; cases hd
  have:=sp.word (pre:=all.take i) (r:=x::r) (by rw [← hd,List.take_append_drop])
  rw [List.length_take_of_le (by omega)] at this
  exact this
theorem Sp.run_inv:∀(n i:Nat),all.length-i<=n->∃w,runC v n (i:Int)=((i+w.length:Nat):Int)/\all.drop i=w++all.drop (i+w.length)/\(∀y∈w,y.word=true)/\∀y,(all.drop (i+w.length)).head?=some y->y.word=false
 | 0,i,hn=>⟨[],rfl,rfl,by simp,fun y hy=>by simp only [List.length_nil,Nat.add_zero] at hy; rw [List.drop_of_length_le (by omega)] at hy; cases hy⟩
 | n+1,i,hn=>by
  rw [runC,sp.wordAt]
  cases hd:all.drop i with
  | nil=>exact ⟨[],rfl,by simp [hd],by simp,fun y hy=>by simp only [List.length_nil,Nat.add_zero] at hy; rw [hd] at hy; cases hy⟩
  | cons x r =>
   have hi:i<all.length:=by
    apply Classical.byContradiction; intro hn
    rw [List.drop_of_length_le (by omega)] at hd; cases hd
   have hr:all.drop (i+1)=r:=by
    have:=List.drop_eq_getElem_cons hi
    rw [hd] at this; injection this with _ h2; exact h2.symm
   simp only
   by_cases hw:x.word=true
   ·rw [if_pos hw]
    obtain ⟨w,h1,h2,h3,h4⟩:=Sp.run_inv n (i+1) (by omega)
    have el:i+1+w.length=i+(x::w).length:=by simp; omega
    rw [el] at h1 h2 h4
    refine ⟨x::w,?_,?_,?_,h4⟩
    ·rw [show ((i:Int)+1)=((i+1:Nat):Int) by omega,h1]
    ·rw [← hr]; exact congrArg (x::·) h2
    ·intro y hy
     rcases List.mem_cons.1 hy with rfl | hy
     ·exact hw
     ·exact h3 y hy
   ·rw [if_neg hw]
    exact ⟨[],rfl,by simp [hd],by simp,fun y hy=>by simp only [List.length_nil,Nat.add_zero] at hy; rw [hd] at hy; simp at hy; subst hy; simpa using hw⟩
theorem Sp.rem_inv:∀(n i k:Nat),all.length-i<n->remC v n (i:Int)=.inl (k:Int)->∃a,k=i+a.length/\all.drop i=a++all.drop k/\(∀y∈a,y.bad=false/\y.r≠10)/\∀y,(all.drop k).head?=some y->y.r=10
 | 0,i,k,hn,h=>by omega
 | n+1,i,k,hn,h=>by
  rw [remC] at h
  cases hd:all.drop i with
  | nil =>
   have hl:all.length<=i:=by simpa using hd
   have hr:zbx v (i:Int)=.inr (.inl (i:Int)):=by
    unfold zbx
    rw [if_neg (by rw [sp.len]; simp; omega)]
   rw [hr] at h
   simp only [Sum.inl.injEq] at h
   have hk:k=i:=by omega
   subst hk
   exact ⟨[],rfl,by simp [hd],by simp,fun y hy=>by rw [hd] at hy; cases hy⟩
  | cons x r =>
   have hi:i<all.length:=by
    apply Classical.byContradiction; intro hn
    rw [List.drop_of_length_le (by omega)] at hd; cases hd
   have hr:all.drop (i+1)=r:=by
    have:=List.drop_eq_getElem_cons hi
    rw [hd] at this; injection this with _ h2; exact h2.symm
   obtain ⟨q,e,c,_⟩:=sp.get (pre:=all.take i) (r:=r) (x:=x) (by rw [← hd,List.take_append_drop])
   rw [List.length_take_of_le (by omega)] at q e c
   have hlt:((i:Int)<(v.length:Int)):=by have:=q.2; omega
   by_cases h10:x.r=10
   ·have hra:zbx v (i:Int)=.inr (.inl (i:Int)):=by
     unfold zbx
     rw [if_neg (by rw [e,h10]; simp)]
    rw [hra] at h
    simp only [Sum.inl.injEq] at h
    have hk:k=i:=by omega
    subst hk
    exact ⟨[],rfl,by simp [hd],by simp,fun y hy=>by rw [hd] at hy; simp at hy; subst hy; exact h10⟩
   ·have hra:zbx v (i:Int)=if x.bad=true then .inr (.inr ([],⟨1,(rd v (i:Int)).Line,(rd v (i:Int)).Col⟩)) else .inl ((i:Int)+1):=by
     unfold zbx
     rw [if_pos (by rw [e]; simp [hlt,h10]),c]
    rw [hra] at h
    by_cases hb:x.bad=true
    ·rw [if_pos hb] at h; cases h
    ·rw [if_neg hb] at h
     simp only at h
     rw [show ((i:Int)+1)=((i+1:Nat):Int) by omega] at h
     obtain ⟨a,h1,h2,h3,h4⟩:=Sp.rem_inv n (i+1) k (by omega) h
     refine ⟨x::a,by simp; omega,by rw [← hr,h2]; simp,?_,h4⟩
     intro y hy
     rcases List.mem_cons.1 hy with rfl | hy
     ·exact ⟨by simpa using hb,h10⟩
     ·exact h3 y hy
theorem zfk:∀(n i:Nat) (l L':List zaa),all.length-i<=n->tokC v s n (i:Int) l=.inl L'->∃A L,L'=l++L/\Lx (all.drop i) A/\L.map kt=A.map ka/\∀x∈all.drop i,x.bad=false
 | 0,i,l,L',hn,h=>by
  simp only [tokC,Sum.inl.injEq] at h
  rw [List.drop_of_length_le (by omega)]
  exact ⟨[],[],by simp [h],.nil,rfl,by simp⟩
 | n+1,i,l,L',hn,h=>by
  rw [tokC] at h
  cases hd:all.drop i with
  | nil =>
   have hl:all.length<=i:=by simpa using hd
   rw [if_neg (by rw [sp.len]; omega)] at h
   simp only [Sum.inl.injEq] at h
   exact ⟨[],[],by simp [h],.nil,rfl,by simp⟩
  | cons x r =>
   have hi:i<all.length:=by
    apply Classical.byContradiction; intro hn
    rw [List.drop_of_length_le (by omega)] at hd; cases hd
   have hr:all.drop (i+1)=r:=by
    have:=List.drop_eq_getElem_cons hi
    rw [hd] at this; injection this with _ h2; exact h2.symm
   have hsplit:all=all.take i++x::r:=by rw [← hd,List.take_append_drop]
   obtain ⟨q,e,c,_⟩:=sp.get hsplit
   have htl:(all.take i).length=i:=List.length_take_of_le (by omega)
   rw [htl] at q e c
   have hlt:((i:Int)<(v.length:Int)):=by have:=q.2; omega
   rw [if_pos hlt] at h
   unfold zbw at h
   rw [c,e] at h
   have i1:((i:Int)+1)=((i+1:Nat):Int):=by omega
   by_cases hb:x.bad=true
   ·rw [if_pos hb] at h; cases h
   rw [if_neg hb] at h
   have hb':x.bad=false:=by simpa using hb
   by_cases h2:zbU x.r=true
   ·rw [if_pos h2] at h
    simp only at h
    rw [i1] at h
    obtain ⟨A,L,e1,e2,e3,e4⟩:=zfk n (i+1) l L' (by omega) h
    rw [hr] at e2 e4
    exact ⟨A,L,e1,.blank hb' h2 e2,e3,fun y hy=>by rcases List.mem_cons.1 hy with rfl | hy; exact hb'; exact e4 y hy⟩
   rw [if_neg h2] at h
   by_cases h3:x.r=59
   ·rw [if_pos h3] at h
    cases hrem:remC v v.length ((i:Int)+1) with
    | inr q=>rw [hrem] at h; cases h
    | inl k =>
     rw [hrem] at h
     simp only at h
     have hk0:0<=k:=by
      have:∀(n:Nat) (i k:Int),0<=i->remC v n i=.inl k->0<=k:=by
       intro n
       induction n with
       | zero=>intro i k h0 h; simp only [remC,Sum.inl.injEq] at h; omega
       | succ n ih =>
        intro i k h0 h
        rw [remC] at h
        unfold zbx at h
        split at h
        ·rename_i j hj
         split at hj
         ·split at hj
          ·cases hj
          ·cases hj; exact ih _ _ (by omega) h
         ·cases hj
        ·rename_i r hj
         split at hj
         ·split at hj
          ·cases hj; cases h
          ·cases hj
         ·cases hj; cases h; exact h0
      exact this _ _ _ (by omega) hrem
     obtain ⟨k',rfl⟩:∃k':Nat,k=(k':Int):=⟨k.toNat,by omega⟩
     rw [i1] at hrem
     obtain ⟨a,a1,a2,a3,a4⟩:=sp.rem_inv v.length (i+1) k' (by have:=sp.len; omega) hrem
     obtain ⟨A,L,e1,e2,e3,e4⟩:=zfk n k' l L' (by omega) h
     rw [hr] at a2
     refine ⟨A,L,e1,?_,e3,?_⟩
     ·rw [a2]; exact .rem hb' h3 a3 a4 e2
     ·intro y hy
      rcases List.mem_cons.1 hy with rfl | hy
      ·exact hb'
      rw [a2] at hy
      rcases List.mem_append.1 hy with hy | hy
      ·exact (a3 y hy).1
      ·exact e4 y hy
   rw [if_neg h3] at h
   have tk:∀(kind:Int) (w:List Rn),all.drop (i+1)=w++all.drop (i+1+w.length)->(∀y∈w,y.word=true)->(∀k l2,tail v s (i:Int) l ((i+1+w.length:Nat):Int) kind=.inl (k,l2)->Tk kind x w)->Ends kind (all.drop (i+1+w.length)) ->
     (match tail v s (i:Int) l ((i+1+w.length:Nat):Int) kind with | .inl (k,l')=>tokC v s n k l' | .inr r=>r)=.inl L'->∃A L,L'=l++L/\Lx (x::r) A/\L.map kt=A.map ka/\∀y∈x::r,y.bad=false:=by
    intro kind w w1 w2 w3 w4 ht
    have hA:all=all.take i++(x::w++all.drop (i+1+w.length)):=by rw [List.cons_append,← w1,hr]; exact hsplit
    have htxt:=sp.txt hA
    rw [htl] at htxt
    have htail:∀q,tail v s (i:Int) l ((i+1+w.length:Nat):Int) kind=.inl q->∃t,kt t=(kind,bs (flat (x::w)))/\q=(((i+1+w.length:Nat):Int),l++[t]):=by
     intro q hq
     unfold tail at hq
     simp only at hq
     rw [htxt] at hq
     split at hq
     ·cases hq
     split at hq
     ·cases hq
     cases hq
     exact ⟨_,rfl,rfl⟩
    cases hq:tail v s (i:Int) l ((i+1+w.length:Nat):Int) kind with
    | inr z=>
     rw [hq] at ht
     exfalso
     unfold tail at hq
     simp only at hq
     split at hq
     ·cases hq; cases ht
     split at hq
     ·cases hq; cases ht
     cases hq
    | inl z =>
     rw [hq] at ht
     have htk:=w3 z.1 z.2 hq
     obtain ⟨t,et,rfl⟩:=htail z hq
     simp only at ht
     obtain ⟨A,L,e1,e2,e3,e4⟩:=zfk n (i+1+w.length) (l++[t]) L' (by omega) ht
     refine ⟨(kind,x::w)::A,t::L,by rw [e1]; simp,?_,by rw [List.map_cons,List.map_cons,e3,et]; rfl,?_⟩
     ·rw [← hr,w1]; exact .tok htk w4 e2
     ·intro y hy
      rcases List.mem_cons.1 hy with rfl | hy
      ·exact hb'
      rw [← hr,w1] at hy
      rcases List.mem_append.1 hy with hy | hy
      ·have:=w2 y hy
       unfold Rn.word at this
       cases hyb:y.bad
       ·rfl
       ·rw [hyb] at this; cases this
      ·exact e4 y hy
   have h2':zbU x.r=false:=by simpa using h2
   by_cases h4:x.r=10
   ·rw [if_pos h4,i1] at h
    exact tk 4 [] rfl (by simp) (fun _ _ _=>⟨hb',h2',h3,.inl ⟨rfl,h4,rfl⟩⟩) (fun q=>by rcases q with q | q <;> exact absurd q (by decide)) h
   rw [if_neg h4] at h
   by_cases h5:zdJ x.r=true
   ·rw [if_pos h5,i1] at h
    exact tk 3 [] rfl (by simp) (fun _ _ _=>⟨hb',h2',h3,.inr (.inl ⟨rfl,h4,h5,rfl⟩)⟩) (fun q=>by rcases q with q | q <;> exact absurd q (by decide)) h
   rw [if_neg h5] at h
   have h5':zdJ x.r=false:=by simpa using h5
   obtain ⟨w,w1,w2,w3,w4⟩:=sp.run_inv v.length (i+1) (by have:=sp.len; omega)
   rw [i1,w1] at h
   by_cases h6:zbk x.r=true
   ·rw [if_pos h6] at h
    refine tk 1 w w2 w3 (fun k l2 ht=>?_) (fun _=>w4) h
    unfold tail at ht
    simp only at ht
    split at ht
    ·cases ht
    ·rename_i hc
     refine ⟨hb',h2',h3,.inr (.inr (.inl ⟨rfl,h4,h5',h6,?_,w3⟩))⟩
     apply Classical.byContradiction
     intro hw
     exact hc ⟨trivial,by omega⟩
   rw [if_neg h6] at h
   have h6':zbk x.r=false:=by simpa using h6
   by_cases h7:(zcb x.r||(x.r==45))=true
   ·rw [if_pos h7] at h
    refine tk 2 w w2 w3 (fun k l2 ht=>?_) (fun _=>w4) h
    have hA:all=all.take i++(x::w++all.drop (i+1+w.length)):=by rw [List.cons_append,← w2,hr]; exact hsplit
    have htxt:=sp.txt hA
    rw [htl] at htxt
    unfold tail at ht
    simp only at ht
    rw [htxt] at ht
    rw [if_neg (by rintro ⟨a,_⟩; exact absurd a (by decide))] at ht
    split at ht
    ·cases ht
    ·rename_i hc
     refine ⟨hb',h2',h3,.inr (.inr (.inr ⟨rfl,h4,h5',h6',?_,?_,w3⟩))⟩
     ·simpa using h7
     ·cases hq:(zbY (bs (flat (x::w)))).2 with
      | true=>rfl
      | false=>exact absurd ⟨trivial,hq⟩ hc
   ·rw [if_neg h7] at h; cases h
end
theorem zga{s:ByteArray}(hs:Sm s)(h:(zaN s).2.Code=0):∃A L e,(zaN s).1=L++[e]/\kt e=(4,⟨#[]⟩)/\Lx (rns s) A/\L.map kt=A.map ka/\(∀x∈rns s,Dec x)/\(zaN s).2=⟨0,0,0⟩:=by
 have g:=zce s hs
 have hlen:=g.len
 have hsm:=hs
 unfold Sm at hsm
 obtain ⟨p1,p2⟩:=zgb g (zaT s).length 0 [] (by omega) (by omega) (by simp) (fun t ht=>by simp at ht)
 unfold zaN at h ⊢
 cases hx:tokC (zaT s) s (zaT s).length 0 [] with
 | inr q =>
  rw [hx] at h
  exact absurd h (p2 q hx)
 | inl l =>
  have sp:=zix s
  obtain ⟨A,L,e1,e2,e3,e4⟩:=zfk sp (zaT s).length 0 [] l (by rw [sp.len]; omega) hx
  rw [List.drop_zero] at e2 e4
  rw [List.nil_append] at e1
  subst e1
  refine ⟨A,l,_,rfl,rfl,e2,e3,?_,rfl⟩
  intro x hx
  have hb:=e4 x hx
  unfold rns at hx
  obtain ⟨y,hy,rfl⟩:=List.mem_map.1 hx
  exact zhY s y hy hb
end Go.Vs
end
section
namespace Go.Vs
local instance tabPalG1:Tab:=⟨fun _=>none⟩
theorem zdH:zaG=some true:=by
 rw [zaG,zbz ⟨#[120,91,49,93,32,59,32,97]⟩ (show (8:Nat)<=1000000 by decide),zbz ⟨#[97,32,36]⟩ (show (3:Nat)<=1000000 by decide)]
 simp only [Option.bind_some]
 have e1:zaN (⟨#[120,91,49,93,32,59,32,97]⟩:ByteArray)=([⟨1,1,1,⟨#[120]⟩⟩,⟨3,1,2,⟨#[91]⟩⟩,⟨2,1,3,⟨#[49]⟩⟩,⟨3,1,4,⟨#[93]⟩⟩,⟨4,1,9,⟨#[]⟩⟩],⟨0,0,0⟩):=by decide +kernel
 have e2:zaN (⟨#[97,32,36]⟩:ByteArray)=([],⟨1,1,3⟩):=by decide +kernel
 rw [e1,e2]
 rfl
theorem zfs{v:List zab}:∀(n:Nat) (i:Int) {q},remC v n i=.inr q->q.1=[]
 | 0,i,q,h=>by simp [remC] at h
 | n+1,i,q,h=>by
  unfold remC at h
  split at h
  ·exact zfs n _ h
  ·rename_i r hr
   unfold zbx at hr
   repeat' split at hr
   all_goals first | (cases hr; done) | (injection hr with hr; subst hr; cases h; rfl) | (injection hr with hr; subst hr; cases h)
theorem zg8{v:List zab}{s:ByteArray}{i:Int}{l:List zaa}{k kind:Int}{q}(h:tail v s i l k kind=.inr (.inr q)):q.1=[]:=by
 unfold tail at h
 dsimp only at h
 repeat' split at h
 all_goals first | (cases h; done) | (injection h with h; injection h with h; subst h; rfl)
theorem zgc{v:List zab}{s:ByteArray}{i:Int}{l:List zaa}{q}(h:zbw v s i l=.inr (.inr q)):q.1=[]:=by
 unfold zbw at h
 repeat' split at h
 all_goals first
  | (cases h; done)
  | exact zg8 h
  | (injection h with h; injection h with h; subst h; first | rfl | exact zfs _ _ (by assumption))
theorem zfm{v:List zab}{s:ByteArray}:∀(n:Nat) (i:Int) (l:List zaa) {q},tokC v s n i l=.inr q->q.1=[]
 | 0,i,l,q,h=>by simp [tokC] at h
 | n+1,i,l,q,h=>by
  rw [tokC] at h
  split at h
  ·split at h
   ·exact zfm n _ _ h
   ·rename_i r hr
    cases r with
    | inl L=>cases h
    | inr q'=>cases h; exact zgc hr
  ·cases h
theorem zfH{s:ByteArray}(h:(zaN s).2.Code≠0):(zaN s).1=[]:=by
 unfold zaN at h ⊢
 cases hx:tokC (zaT s) s (zaT s).length 0 [] with
 | inr q=>exact zfm _ _ _ hx
 | inl l=>rw [hx] at h; exact absurd rfl h
def txt(l:List Rn):ByteArray:=bs (flat l)
theorem zf7(a b:List Rn):txt (a++b)=txt a++txt b:=by unfold txt; rw [zba,zeQ]
def zi3(P:List Rn->Prop)(s:ByteArray):Prop:=∃g,s=txt g/\P g/\(∀x∈g,Dec x)/\s.size<=5
def eaR:Rn:=⟨233,[195,169],false⟩
theorem zi0:Dec eaR:=by
 refine ⟨rfl,by decide,233,rfl,fun t=>?_,by decide⟩
 show dec0 (195::169::t)=(233,2)
 unfold dec0 Lib.decodeN
 have g0:gB (195::169::t) 0=195:=rfl
 have g1:gB (195::169::t) 1=169:=rfl
 rw [g0,g1,if_neg (by decide),if_pos ⟨by decide,by simp,by decide⟩,if_pos (by decide)]
def ascB(x:Rn):Bool:=(match x.bs with | [b]=>decide (b.toNat<128)&&(x.r==(b.toNat:Int)) | _=>false)&&!x.bad
theorem zcK{x:Rn}(h:ascB x=true):Dec x:=by
 unfold ascB at h
 cases x with
 | mk r bs' bad =>
  simp only at h
  match bs',h with
  | [b],h =>
   simp only [Bool.and_eq_true,decide_eq_true_eq,beq_iff_eq,Bool.not_eq_true'] at h
   obtain ⟨⟨h1,h2⟩,h3⟩:=h
   subst h2; subst h3
   exact zh9 h1
  | [],h=>simp at h
  | _::_::_,h=>simp at h
theorem decs{g:List Rn}(h:g.all ascB=true):∀x∈g,Dec x:=fun x hx=>zcK (List.all_eq_true.1 h x hx)
theorem zbT{g:List Rn}(h:g.all (fun y=>!y.bad&&zbU y.r)=true):zdI g:=fun y hy=>by
 have:=List.all_eq_true.1 h y hy
 simp only [Bool.and_eq_true,Bool.not_eq_true'] at this
 exact this
theorem zgh(k:Int)(h:InB k 4):zi3 (fun b=>zdI b/\b≠[]) (rd ([(⟨#[32]⟩:ByteArray),(⟨#[9]⟩:ByteArray),(⟨#[32,32]⟩:ByteArray),(⟨#[32,9]⟩:ByteArray)]) k):=by
 obtain ⟨h0,h1⟩:=h
 obtain ⟨n,rfl⟩:∃n:Nat,k=(n:Int):=⟨k.toNat,by omega⟩
 have:n=0\/n=1\/n=2\/n=3:=by omega
 rcases this with rfl | rfl | rfl | rfl
 ·exact ⟨[asc 32],rfl,⟨zbT (by decide),by simp⟩,decs (by decide),by decide⟩
 ·exact ⟨[asc 9],rfl,⟨zbT (by decide),by simp⟩,decs (by decide),by decide⟩
 ·exact ⟨[asc 32,asc 32],rfl,⟨zbT (by decide),by simp⟩,decs (by decide),by decide⟩
 ·exact ⟨[asc 32,asc 9],rfl,⟨zbT (by decide),by simp⟩,decs (by decide),by decide⟩
theorem zgJ(k:Int)(h:InB k 4):zi3 Gap (rd ([(⟨#[]⟩:ByteArray),(⟨#[32]⟩:ByteArray),(⟨#[59,195,169,91,9]⟩:ByteArray),(⟨#[9,59,59]⟩:ByteArray)]) k):=by
 obtain ⟨h0,h1⟩:=h
 obtain ⟨n,rfl⟩:∃n:Nat,k=(n:Int):=⟨k.toNat,by omega⟩
 have:n=0\/n=1\/n=2\/n=3:=by omega
 rcases this with rfl | rfl | rfl | rfl
 ·exact ⟨[],rfl,.blanks (by intro y hy; cases hy),by simp,by decide⟩
 ·exact ⟨[asc 32],rfl,.blanks (zbT (by decide)),decs (by decide),by decide⟩
 ·refine ⟨[sc,eaR,asc 91,asc 9],rfl,.rem (g:=[]) (by intro y hy; cases hy) ?_,?_,by decide⟩
  ·intro y hy
   simp only [List.mem_cons,List.mem_nil_iff,or_false] at hy
   rcases hy with rfl | rfl | rfl <;> exact ⟨rfl,by decide⟩
  ·intro y hy
   simp only [List.mem_cons,List.mem_nil_iff,or_false] at hy
   rcases hy with rfl | rfl | rfl | rfl
   ·exact zcK (by decide)
   ·exact zi0
   ·exact zcK (by decide)
   ·exact zcK (by decide)
 ·exact ⟨[asc 9,sc,sc],rfl,.rem (g:=[asc 9]) (a:=[sc]) (zbT (by decide)) (by intro y hy; rw [List.mem_singleton.1 hy]; exact ⟨rfl,by decide⟩),decs (by decide),by decide⟩
inductive Aps:List (Int × List Rn)->List Rn->Prop
 | nil:Aps [] []
 | snoc {A t kind x w g b} (h:Aps A t) (hg:Gap g) (h4:kind=4\/g=[]) (hb:zdI b) (hb0:b≠[]):Aps (A++[(kind,x::w)]) (t++(g++(x::w)++b))
theorem Aps.join{A t}(h:Aps A t):∀{A' t'},zeU A' t'->zeU (A++A') (t++t'):=by
 induction h with
 | nil=>intro A' t' h; exact h
 | @snoc A t kind x w g b h hg h4 hb hb0 ih =>
  intro A' t' h'
  have:=ih (zeU.cons (x:=x) (w:=w) hg h4 hb hb0 h')
  simpa [List.append_assoc] using this
theorem Lx.parts{T A}(h:Lx T A):∀a∈A,(∃x w,a.2=x::w)/\∀y∈a.2,y∈T:=by
 induction h with
 | nil=>intro a ha; cases ha
 | blank h1 h2 h ih=>exact fun a ha=>⟨(ih a ha).1,fun y hy=>List.mem_cons_of_mem _ ((ih a ha).2 y hy)⟩
 | rem h1 h2 h3 h4 h ih=>exact fun a ha=>⟨(ih a ha).1,fun y hy=>List.mem_cons_of_mem _ (List.mem_append_right _ ((ih a ha).2 y hy))⟩
 | @tok kind x w r A ht he h ih =>
  intro a ha
  rcases List.mem_cons.1 ha with rfl | ha
  ·refine ⟨⟨x,w,rfl⟩,fun y hy=>?_⟩
   rcases List.mem_cons.1 hy with rfl | hy
   ·exact List.mem_cons_self ..
   ·exact List.mem_cons_of_mem _ (List.mem_append_left _ hy)
  ·exact ⟨(ih a ha).1,fun y hy=>List.mem_cons_of_mem _ (List.mem_append_right _ ((ih a ha).2 y hy))⟩
end Go.Vs
end
section
namespace Go.Vs
local instance tabPalG2:Tab:=⟨fun _=>none⟩
theorem zdw{σ R:Type}{step:σ->Option (σ ⊕ R)}(Inv:σ->Prop)(Post:R->Prop)(mu:σ->Nat)(h:∀s,Inv s->(∃s',step s=some (.inl s')/\Inv s'/\mu s'<mu s)\/∃r,step s=some (.inr r)/\Post r):∀(n:Nat) (s:σ),mu s<=n->Inv s->∃r,za9 step s=some r/\Post r
 | n,s,hn,hi=>by
  rcases h s hi with ⟨s',e,i',hm⟩ | ⟨r,e,hr⟩
  ·cases n with
   | zero=>omega
   | succ n =>
    obtain ⟨r,e2,hr⟩:=zdw Inv Post mu h n s' (by omega) i'
    exact ⟨r,by rw [za1 e]; exact e2,hr⟩
  ·exact ⟨r,zaq e,hr⟩
theorem catG{a b:ByteArray}(h:a.size+b.size<=5000000000):zeT a b:=by unfold zeT; omega
theorem ziu{a:Int}(h:0<=a):InB (Int.tmod a 4) 4:=by
 have h1:=Int.tmod_lt_of_pos a (show (0:Int)<4 by decide)
 have h2:=Int.tmod_nonneg 4 h
 exact ⟨h2,by omega⟩
theorem zh5(L:List zaa)(e:zaa)(f:zag)(A:List (Int × List Rn))(p1:Int)(hp:I64 p1)(hk:L.map kt=A.map ka)(hA:∀a∈A,(∃x w,a.2=x::w)/\∀y∈a.2,Dec y)(hl:L.length<=1000)(hs:∀t∈L,t.Text.size<=400) :
  ∃r,za9 (zau (L++[e],f) p1) ((⟨#[]⟩:ByteArray),0)=some r/\∃Tr,r=txt Tr/\Aps A Tr/\(∀y∈Tr,Dec y)/\r.size<=500000:=by
 have hAl:A.length=L.length:=by have:=congrArg List.length hk; simpa using this.symm
 refine zdw (fun s:ByteArray × Int=>0<=s.2/\s.2<=(L.length:Int)/\(∃Tr,s.1=txt Tr/\Aps (A.take s.2.toNat) Tr/\∀y∈Tr,Dec y)/\s.1.size<=s.2.toNat * 450) _ (fun s:ByteArray × Int=>L.length-s.2.toNat) ?_ _ ((⟨#[]⟩:ByteArray),0) (Nat.le_refl _) ⟨by simp,by simp,⟨[],rfl,by simpa using Aps.nil,by simp⟩,Nat.zero_le _⟩
 rintro ⟨s,j⟩ ⟨a0,a1,⟨Tr,b1,b2,b3⟩,a2⟩
 simp only at a0 a1 b1 b2 a2
 have hj9:j.toNat<=1000:=by omega
 have hsz:s.size<=450000:=Nat.le_trans a2 (Nat.le_trans (Nat.mul_le_mul_right 450 hj9) (by decide))
 simp only [zau]
 have hwr:IntKind.wrap .i64 (j+1)=j+1:=zaR ⟨by omega,by omega⟩
 rw [hwr]
 by_cases hj:j<(L.length:Int)
 ·have hb:InB j (L++[e]).length:=⟨a0,by simp; omega⟩
  rw [if_pos (by simp; omega),if_pos hb]
  have hg:L[j.toNat]?=some (rd (L++[e]) j):=by
   have h1:=zdr hb
   rwa [List.getElem?_append_left (by omega)] at h1
  generalize rd (L++[e]) j=t at hg
  obtain ⟨a,ha⟩:∃a,A[j.toNat]?=some a:=⟨_,List.getElem?_eq_getElem (by omega)⟩
  have hka:kt t=ka a:=by
   have:=congrArg (fun l=>l[j.toNat]?) hk
   simp only [List.getElem?_map,hg,ha,Option.map_some,Option.some.injEq] at this
   exact this
  obtain ⟨⟨x,w,hxw⟩,hdec⟩:=hA a (List.mem_of_getElem? ha)
  have hkind:t.Kind=a.1:=congrArg Prod.fst hka
  have htext:t.Text=txt (x::w):=by
   have:t.Text=bs (flat a.2):=congrArg Prod.snd hka
   rw [this,hxw]; rfl
  have htsz:=hs t (List.mem_of_getElem? hg)
  have htake:A.take (j.toNat+1)=A.take j.toNat++[(a.1,x::w)]:=by
   rw [List.take_succ,ha,← hxw]; rfl
  have hj1:(j+1).toNat=j.toNat+1:=by omega
  have next:∀(g:List Rn) (s':ByteArray),s'=txt (Tr++g)->Gap g->(a.1=4\/g=[])->(∀y∈g,Dec y)->s'.size<=s.size+5->(∃s2,zao j (L++[e],f) p1 s'=some (.inl (s2,j+1))/\(∃Tr',s2=txt Tr'/\Aps (A.take (j+1).toNat) Tr'/\∀y∈Tr',Dec y)/\s2.size<=(j+1).toNat * 450)\/rd (L++[e]) j≠t:=by
   intro g s' e1 e2 e3 e4 e5
   by_cases heq:rd (L++[e]) j=t
   ·refine .inl ?_
    unfold zao zaH
    simp only
    rw [if_pos hb]
    obtain ⟨k,k1,k2,k3⟩:=zeC hp 3 (by omega) (by omega)
    rw [k1]
    simp only [Option.bind_some]
    have w2:IntKind.wrap .i64 (k+j)=k+j:=zaR ⟨by omega,by omega⟩
    rw [w2,hwr,heq]
    have hb4:=ziu (show 0<=k+j by omega)
    obtain ⟨b,q1,⟨q2,q3⟩,q4,q5⟩:=zgh _ hb4
    rw [if_pos (show InB (Int.tmod (k+j) 4) ([(⟨#[32]⟩:ByteArray),(⟨#[9]⟩:ByteArray),(⟨#[32,32]⟩:ByteArray),(⟨#[32,9]⟩:ByteArray)]).length from hb4)]
    generalize rd ([(⟨#[32]⟩:ByteArray),(⟨#[9]⟩:ByteArray),(⟨#[32,32]⟩:ByteArray),(⟨#[32,9]⟩:ByteArray)]) (Int.tmod (k+j) 4)=B at q1 q5
    rw [if_pos (catG (by omega)),if_pos (catG (by rw [ByteArray.size_append]; omega))]
    refine ⟨_,rfl,⟨Tr++(g++(x::w)++b),?_,?_,?_⟩,?_⟩
    ·rw [e1,htext,q1]
     simp only [zf7]
     apply bext; simp
    ·rw [hj1,htake]
     exact .snoc b2 e2 e3 q2 q3
    ·intro y hy
     simp only [List.mem_append] at hy
     rcases hy with hy | (hy | hy) | hy
     ·exact b3 y hy
     ·exact e4 y hy
     ·exact hdec y (by rw [hxw]; exact hy)
     ·exact q4 y hy
    ·rw [hj1,ByteArray.size_append,ByteArray.size_append]; omega
   ·exact .inr heq
  have heq:rd (L++[e]) j=t:=by
   have h1:=zdr hb
   rw [List.getElem?_append_left (by omega),hg] at h1
   exact (Option.some.inj h1).symm
  by_cases h4:(t.Kind==4)=true
  ·rw [if_pos h4]
   obtain ⟨k,k1,k2,k3⟩:=zeC hp 4 (by omega) (by omega)
   rw [k1]
   simp only [Option.bind_some]
   have w2:IntKind.wrap .i64 (k+j)=k+j:=zaR ⟨by omega,by omega⟩
   rw [w2]
   have hb4:=ziu (show 0<=k+j by omega)
   obtain ⟨g,q1,q2,q4,q5⟩:=zgJ _ hb4
   rw [if_pos (show InB (Int.tmod (k+j) 4) ([(⟨#[]⟩:ByteArray),(⟨#[32]⟩:ByteArray),(⟨#[59,195,169,91,9]⟩:ByteArray),(⟨#[9,59,59]⟩:ByteArray)]).length from hb4)]
   generalize rd ([(⟨#[]⟩:ByteArray),(⟨#[32]⟩:ByteArray),(⟨#[59,195,169,91,9]⟩:ByteArray),(⟨#[9,59,59]⟩:ByteArray)]) (Int.tmod (k+j) 4)=G at q1 q5
   rw [if_pos (catG (by omega))]
   have ha4:a.1=4:=by rw [← hkind]; simpa using h4
   rcases next g (s++G) (by rw [zf7,← b1,← q1]) q2 (.inl ha4) q4 (by rw [ByteArray.size_append]; omega) with ⟨s2,r1,r2,r3⟩ | h
   ·rw [r1]
    exact .inl ⟨_,rfl,⟨by simp only; omega,by simp only; omega,r2,r3⟩,by simp only; omega⟩
   ·exact absurd heq h
  ·rw [if_neg h4]
   rcases next [] s (by rw [List.append_nil]; exact b1) (.blanks (by intro y hy; cases hy)) (.inr rfl) (by simp) (by omega) with ⟨s2,r1,r2,r3⟩ | h
   ·rw [r1]
    exact .inl ⟨_,rfl,⟨by simp only; omega,by simp only; omega,r2,r3⟩,by simp only; omega⟩
   ·exact absurd heq h
 ·rw [if_neg (by simp; omega)]
  have hjl:j.toNat=A.length:=by omega
  rw [hjl,List.take_length] at b2
  exact .inr ⟨_,rfl,Tr,b1,b2,b3,by omega⟩
theorem zh4(v w:List zaa × zag)(h:v.1.map kt=w.1.map kt)(hl:v.1.length<=1000000):∃r,za9 (zat v w) 0=some r/\r=.inl ():=by
 have hlen:w.1.length=v.1.length:=by have:=congrArg List.length h; simpa using this.symm
 refine zdw (fun j:Int=>0<=j) _ (fun j=>v.1.length-j.toNat) ?_ _ 0 (Nat.le_refl _) (by omega)
 intro j h0
 simp only [zat]
 by_cases hj:j<(v.1.length:Int)
 ·have hb:InB j v.1.length:=⟨h0,by omega⟩
  have hb2:InB j w.1.length:=by rw [hlen]; exact hb
  have hq:kt (rd v.1 j)=kt (rd w.1 j):=by
   have:=congrArg (fun l=>l[j.toNat]?) h
   simp only [List.getElem?_map,zdr hb,zdr hb2,Option.map_some,Option.some.injEq] at this
   exact this
  have q1:(rd v.1 j).Kind=(rd w.1 j).Kind:=congrArg Prod.fst hq
  have q2:(rd v.1 j).Text=(rd w.1 j).Text:=congrArg Prod.snd hq
  rw [if_pos (by simpa using hj),if_pos hb,if_pos hb2,if_pos (fun _=>hb),if_pos (fun _=>hb2)]
  rw [q1,q2]
  simp only [Option.bind_some,bne_self_eq_false,decide_true,Bool.not_true,Bool.or_self,Bool.false_eq_true,if_false]
  have hwr:IntKind.wrap .i64 (j+1)=j+1:=zaR ⟨by omega,by omega⟩
  rw [hwr]
  exact .inl ⟨_,rfl,by omega,by omega⟩
 ·rw [if_neg (by simpa using hj)]
  exact .inr ⟨_,rfl,rfl⟩
theorem zeS(p0:ByteArray)(p1:Int)(hp:I64 p1):zaZ p0 p1=some true:=by
 obtain ⟨s,hs1,hs2⟩:=zfL p0 (n:=300) (by decide)
 have hsm:Sm s:=by unfold Sm; omega
 unfold zaZ
 rw [hs1]
 simp only [Option.bind_some]
 rw [zbz s hsm]
 simp only [Option.bind_some]
 by_cases hc:(zaN s).2.Code=0
 ·obtain ⟨A,L,e,h1,h2,h3,h4,h5,h6⟩:=zga hsm hc
  have hTok:=zf8 s (by omega) hc
  have hg:=zce s hsm
  have hpos:((zaN s).1.length:Int)≠0:=by rw [h1]; simp; omega
  rw [if_neg (by rw [hc]; simpa using hpos)]
  have hlen:L.length<=s.size:=by
   have h7:∀{T A},Lx T A->A.length<=T.length:=by
    intro T A h
    induction h with
    | nil=>simp
    | blank _ _ _ ih=>simp; omega
    | rem _ _ _ _ _ ih=>simp; omega
    | tok _ _ _ ih=>simp; omega
   have:=h7 h3
   have h8:=congrArg List.length h4
   have h9:=hg.len
   unfold rns at this
   rw [List.length_map] at this
   simp at h8; omega
  have hts:∀t∈L,t.Text.size<=400:=by
   intro t ht
   have hm:kt t∈A.map ka:=by rw [← h4]; exact List.mem_map.2 ⟨t,ht,rfl⟩
   obtain ⟨a,ha,e⟩:=List.mem_map.1 hm
   have ht2:t.Text=bs (flat a.2):=(congrArg Prod.snd e).symm
   have h7:∀{T A},Lx T A->∀a∈A,(flat a.2).length<=(flat T).length:=by
    intro T A h
    induction h with
    | nil=>intro a ha; cases ha
    | blank _ _ _ ih=>intro a ha; rw [zaV,List.length_append]; have:=ih a ha; omega
    | rem _ _ _ _ _ ih=>intro a ha; rw [zaV,zba,List.length_append,List.length_append]; have:=ih a ha; omega
    | tok _ _ _ ih =>
     intro a ha
     rcases List.mem_cons.1 ha with rfl | ha
     ·rw [zaV,zaV,zba]; simp
     ·rw [zaV,zba,List.length_append,List.length_append]; have:=ih a ha; omega
   have:=h7 h3 a ha
   rw [zfr,← zcW] at this
   rw [ht2,za3]; omega
  obtain ⟨r,r1,Tr,r2,r3,r4,r5⟩:=zh5 L e (zaN s).2 A p1 hp h4 (fun a ha=>⟨(h3.parts a ha).1,fun y hy=>h5 y ((h3.parts a ha).2 y hy)⟩) (by omega) hts
  have hv:(zaN s)=(L++[e],(zaN s).2):=by rw [← h1]
  rw [hv,r1]
  simp only [Option.bind_some]
  have z1:(⟨#[59]⟩:ByteArray).size=1:=rfl
  rw [if_pos (catG (by omega))]
  have hT:r++(⟨#[59]⟩:ByteArray)=bs (flat (Tr++[sc])):=by
   rw [r2]; unfold txt; rw [zba,zeQ]; rfl
  have hLx:Lx (Tr++[sc]) A:=h3.apart (by
   have:=r3.join (zeU.nil (Gap.rem (g:=[]) (a:=[]) (by intro y hy; cases hy) (by intro y hy; cases hy)))
   simpa using this)
  obtain ⟨t1,t2⟩:=zf9 (fun y hy=>(List.mem_append.1 hy).elim (r4 y) (fun h=>by rw [List.mem_singleton.1 h]; exact zcK (by decide))) hLx
  rw [zbz _ (by unfold Sm; rw [ByteArray.size_append]; omega),hT]
  simp only [Option.bind_some]
  have hkt:(L++[e]).map kt=(zaN (bs (flat (Tr++[sc])))).1.map kt:=by rw [t2,List.map_append,h4]; simp [h2]
  have hlen2:(zaN (bs (flat (Tr++[sc])))).1.length=(L++[e]).length:=by have:=congrArg List.length hkt; simp only [List.length_map] at this; exact this.symm
  rw [t1,hlen2]
  simp only [beq_self_eq_true,Bool.and_self,Bool.not_true,bne_self_eq_false,Bool.or_self,Bool.false_eq_true,if_false]
  obtain ⟨q,q1,q2⟩:=zh4 (L++[e],(zaN s).2) (zaN (bs (flat (Tr++[sc])))) hkt (by simp; omega)
  rw [q1,q2]
  simp only [Option.bind_some,zdu,zdH]
 ·have hn:=zfH hc
  rw [hn]
  have h1:((zaN s).2.Code != 0)=true:=by simpa using hc
  rw [h1,if_pos (by rfl)]
  simp [zdH]
end Go.Vs
end
