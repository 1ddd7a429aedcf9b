import Derived.Test.YtocjejladeeckaaDoorPT1
import Derived.Test.YtocjejladeeckaaDoorPS0
set_option linter.all false
section
namespace Go.Vs
local instance tabPalLx0:Tab:=⟨fun _=>none⟩
structure Rn where
 r:Int
 bs:List UInt8
 bad:Bool
def Rn.word(x:Rn):Bool:=!x.bad&&(zcd x.r||zdi x.r)
def flat(l:List Rn):List UInt8:=l.flatMap (·.bs)
def Tk(kind:Int)(x:Rn)(w:List Rn):Prop :=
 x.bad=false/\zdy x.r=false/\x.r≠59 /\
 ((kind=4/\x.r=10/\w=[])\/(kind=3/\x.r≠10/\zfZ x.r=true/\w=[]) \/
  (kind=1/\x.r≠10/\zfZ x.r=false/\zcd x.r=true/\w.length<=15/\∀y∈w,y.word=true) \/
  (kind=2/\x.r≠10/\zfZ x.r=false/\zcd x.r=false/\(zdi x.r=true\/x.r=45)/\(zbY (bs (flat (x::w)))).2=true/\∀y∈w,y.word=true))
def Ends(kind:Int)(r:List Rn):Prop:=(kind=1\/kind=2)->∀y,r.head?=some y->y.word=false
inductive Lx:List Rn->List (Int × List Rn)->Prop
 | nil:Lx [] []
 | blank {x r A} (h1:x.bad=false) (h2:zdy x.r=true) (h:Lx r A):Lx (x::r) A
 | rem {x a b A} (h1:x.bad=false) (h2:x.r=59) (h3:∀y∈a,y.bad=false/\y.r≠10) (h4:∀y,b.head?=some y->y.r=10) (h:Lx b A):Lx (x::(a++b)) A
 | tok {kind x w r A} (ht:Tk kind x w) (he:Ends kind r) (h:Lx r A):Lx (x::(w++r)) ((kind,x::w)::A)
def sp:Rn:=⟨32,[32],false⟩
def sc:Rn:=⟨59,[59],false⟩
def zkK(g:List Rn):Prop:=∀y∈g,y.bad=false/\zdy y.r=true
theorem Lx.blanks{g:List Rn}(hg:zkK g){r A}(h:Lx r A):Lx (g++r) A:=by
 induction g with
 | nil=>exact h
 | cons y g ih =>
  have:=hg y (by simp)
  exact .blank this.1 this.2 (ih fun z hz=>hg z (by simp [hz]))
theorem zfd{y:Rn}(h:zdy y.r=true):y.word=false:=by
 unfold zdy at h
 simp only [Bool.or_eq_true,beq_iff_eq] at h
 rcases h with h | h <;> (unfold Rn.word; rw [h]; cases y.bad <;> rfl)
inductive Gap:List Rn->Prop
 | blanks {g} (h:zkK g):Gap g
 | rem {g a} (h:zkK g) (ha:∀y∈a,y.bad=false/\y.r≠10):Gap (g++sc::a)
inductive zoK:List (Int × List Rn)->List Rn->Prop
 | nil {g} (hg:Gap g):zoK [] g
 | cons {kind x w A g b t} (hg:Gap g) (h4:kind=4\/g=[]) (hb:zkK b) (hb0:b≠[]) (h:zoK A t):zoK ((kind,x::w)::A) (g++(x::w)++b++t)
theorem Gap.lx{g:List Rn}(hg:Gap g):Lx g []:=by
 cases hg with
 | blanks h=>have:=Lx.blanks h Lx.nil; simpa using this
 | @rem g a h ha =>
  refine Lx.blanks h ?_
  have:=Lx.rem (x:=sc) (a:=a) (b:=[]) rfl rfl ha (fun y hy=>by simp at hy) Lx.nil
  simpa using this
theorem Lx.apart:∀{l A},Lx l A->∀{t},zoK A t->Lx t A:=by
 intro l A h
 induction h with
 | nil=>intro t ha; cases ha with | nil hg=>exact hg.lx
 | blank h1 h2 h ih=>exact ih
 | rem h1 h2 h3 h4 h ih=>exact ih
 | @tok kind x w r A ht he h ih =>
  intro t ha
  cases ha with
  | @cons _ _ _ _ g b t hg h4 hb hb0 ha =>
   have hin:Lx (b++t) A:=Lx.blanks hb (ih ha)
   have hends:Ends kind (b++t):=by
    intro _ y hy
    cases b with
    | nil=>exact absurd rfl hb0
    | cons z b =>
     simp at hy
     subst hy
     exact zfd (hb z (by simp)).2
   have htok:Lx (x::(w++(b++t))) ((kind,x::w)::A):=.tok ht hends hin
   have e:∀g':List Rn,g'++(x::w)++b++t=g'++(x::(w++(b++t))):=fun g'=>by simp
   rw [e]
   cases hg with
   | blanks hg=>exact Lx.blanks hg htok
   | @rem g a hg haa =>
    rw [List.append_assoc]
    refine Lx.blanks hg ?_
    have h10:x.r=10:=by
     rcases h4 with h4 | h4
     ·subst h4
      obtain ⟨_,_,_,h⟩:=ht
      rcases h with h | h | h | h
      ·exact h.2.1
      all_goals exact absurd h.1 (by decide)
     ·simp at h4
    exact Lx.rem (x:=sc) (a:=a) (b:=x::(w++(b++t))) rfl rfl haa (fun y hy=>by simp at hy; rw [← hy]; exact h10) htok
end Go.Vs
end
section
namespace Go.Vs
local instance tabPalLx1:Tab:=⟨fun _=>none⟩
open Go.Lib
def gB(l:List UInt8)(i:Nat):Nat:=(l.getD i 0).toNat
def dec0(l:List UInt8):Nat × Nat:=decodeN l.length (gB l 0) (gB l 1) (gB l 2) (gB l 3)
theorem zrv(l:List UInt8)(i:Nat):(bs l).get! i=l.getD i 0:=by
 by_cases h:i<l.length
 ·have h2:i<(bs l).size:=by rw [zbV]; exact h
  rw [Go.Proofs.Utf8W.get!_of_lt _ _ h2]
  show l.toArray[i]=_
  simp [List.getD_eq_getElem?_getD,h]
  rfl
 ·show l.toArray[i]! = _
  simp [List.getD_eq_getElem?_getD,h,getElem!_def]
  rfl
theorem zjg(p l:List UInt8):Utf8.decode (bs (p++l)) p.length=dec0 l:=by
 have g:∀k,(bs (p++l)).get! (p.length+k)=l.getD k 0:=fun k=>by
  rw [zrv,List.getD_eq_getElem?_getD,List.getD_eq_getElem?_getD,List.getElem?_append_right (by omega)]
  congr 2; omega
 rw [decode_at,dec0]
 have g0:=g 0
 rw [Nat.add_zero] at g0
 rw [g0,g 1,g 2,g 3,zbV,List.length_append,Nat.add_sub_cancel_left]
 rfl
structure Dec (x:Rn):Prop where
 ok:x.bad=false
 len:1<=x.bs.length
 dec:∃r:Nat,x.r=(r:Int)/\(∀t,dec0 (x.bs++t)=(r,x.bs.length))/\¬(r=65533/\x.bs.length=1)
def asc(b:UInt8):Rn:=⟨(b.toNat:Int),[b],false⟩
theorem zit{b:UInt8}(h:b.toNat<128):Dec (asc b):=by
 refine ⟨rfl,by simp [asc],b.toNat,rfl,fun t=>?_,fun h2=>by omega⟩
 show dec0 ([b]++t)=(b.toNat,1)
 unfold dec0 decodeN
 have:gB ([b]++t) 0=b.toNat:=rfl
 rw [this,if_pos h]
theorem zcE(a b:List Rn):flat (a++b)=flat a++flat b:=by simp [flat]
theorem zc9(x:Rn)(b:List Rn):flat (x::b)=x.bs++flat b:=by simp [flat]
theorem zna{T:List Rn}(h:∀x∈T,Dec x):T.length<=(flat T).length:=by
 induction T with
 | nil=>simp
 | cons x T ih =>
  rw [zc9,List.length_append,List.length_cons]
  have:=(h x (by simp)).len
  have:=ih fun y hy=>h y (by simp [hy])
  omega
theorem zfY:∀(T pre:List Rn) (f:Nat) (line col:Int),(∀x∈T,Dec x)->T.length<=f ->
  (zck (bs (flat (pre++T))) f (flat pre).length line col).length=T.length/\∀(j:Nat) (x:Rn),T[j]?=some x->∃y,(zck (bs (flat (pre++T))) f (flat pre).length line col)[j]?=some y/\y.Rune=x.r/\y.Bad=x.bad/\y.At=((flat (pre++T.take j)).length:Int)/\y.Size=(x.bs.length:Int)
 | [],pre,f,line,col,hd,hf=>by
  have h:¬(flat pre).length<(bs (flat (pre++[]))).size:=by rw [zbV]; simp
  cases f with
  | zero=>exact ⟨rfl,fun j x h=>by simp at h⟩
  | succ f=>rw [zck,if_neg h]; exact ⟨rfl,fun j x h=>by simp at h⟩
 | x::T,pre,f,line,col,hd,hf=>by
  obtain ⟨h1,h2,r,h3,h4,h5⟩:=hd x (by simp)
  cases f with
  | zero=>simp at hf
  | succ f =>
   have hp:(flat pre).length<(bs (flat (pre++x::T))).size:=by rw [zbV,zcE,zc9]; simp; omega
   have hdec:Utf8.decode (bs (flat (pre++x::T))) (flat pre).length=(r,x.bs.length):=by
    rw [zcE,zc9,zjg,h4]
   rw [zck,if_pos hp,hdec]
   have e1:(flat pre).length+x.bs.length=(flat (pre++[x])).length:=by rw [zcE,zc9]; simp [flat]
   have e2:pre++x::T=(pre++[x])++T:=by simp
   have ih:=zfY T (pre++[x]) f (if r=10 then line+1 else line) (if r=10 then 1 else col+1) (fun y hy=>hd y (by simp [hy])) (by simpa using hf)
   simp only
   rw [e1,e2]
   refine ⟨by rw [List.length_cons,ih.1]; rfl,fun j y hj=>?_⟩
   cases j with
   | zero =>
    simp at hj; subst hj
    refine ⟨_,rfl,h3.symm,?_,by simp,rfl⟩
    rw [h1]
    simp only [Bool.and_eq_false_iff,beq_eq_false_iff_ne]
    by_cases e:r=65533
    ·exact .inr fun h=>h5 ⟨e,h⟩
    ·exact .inl e
   | succ j =>
    simp at hj
    obtain ⟨z,z1,z2,z3,z4,z5⟩:=ih.2 j y hj
    refine ⟨z,by simpa using z1,z2,z3,?_,z5⟩
    rw [z4]; simp
structure Sp (s:ByteArray) (v:List zah) (all:List Rn):Prop where
 s:s=bs (flat all)
 len:v.length=all.length
 at_:∀(j:Nat) (x:Rn),all[j]?=some x->(rd v (j:Int)).Rune=x.r/\(rd v (j:Int)).Bad=x.bad/\(rd v (j:Int)).At=((flat (all.take j)).length:Int)/\(rd v (j:Int)).Size=(x.bs.length:Int)
theorem zl3(all:List Rn)(h:∀x∈all,Dec x):Sp (bs (flat all)) (zbo (bs (flat all))) all:=by
 have:=zfY all [] (bs (flat all)).size 1 1 h (by rw [zbV]; exact zna h)
 refine ⟨rfl,this.1,fun j x hj=>?_⟩
 obtain ⟨y,h1,h2,h3,h4,h5⟩:=this.2 j x hj
 have e:rd (zbo (bs (flat all))) (j:Int)=y:=zfk h1
 rw [e]
 exact ⟨h2,h3,h4,h5⟩
section
variable {s:ByteArray} {v:List zah} {all:List Rn} (sp:Sp s v all)
include sp
theorem Sp.get{pre r:List Rn}{x:Rn}(h:all=pre++x::r):InB (pre.length:Int) v.length/\(rd v (pre.length:Int)).Rune=x.r/\(rd v (pre.length:Int)).Bad=x.bad/\(rd v (pre.length:Int)).At=((flat pre).length:Int)/\(rd v (pre.length:Int)).Size=(x.bs.length:Int):=by
 have hj:all[pre.length]?=some x:=by rw [h]; simp
 obtain ⟨a,b,c,d⟩:=sp.at_ _ _ hj
 refine ⟨⟨by omega,by rw [sp.len,h]; simp⟩,a,b,?_,d⟩
 rw [c,h]; simp
theorem Sp.word{pre r:List Rn}(h:all=pre++r):zeo v (pre.length:Int)=(match r with | []=>false | x::_=>x.word):=by
 cases r with
 | nil =>
  have:¬((pre.length:Int)<(v.length:Int)):=by rw [sp.len,h]; simp
  unfold zeo
  rw [decide_eq_false this]; rfl
 | cons x r =>
  obtain ⟨a,b,c,_⟩:=sp.get h
  have:((pre.length:Int)<(v.length:Int)):=by have:=a.2; omega
  unfold zeo Rn.word
  rw [decide_eq_true this,b,c]; rfl
theorem Sp.run:∀(w pre r:List Rn) (n:Nat),all=pre++(w++r)->(∀y∈w,y.word=true)->(∀y,r.head?=some y->y.word=false)->w.length<=n->runC v n (pre.length:Int)=((pre.length+w.length:Nat):Int)
 | [],pre,r,n,h,h1,h2,hn=>by
  cases n with
  | zero=>rfl
  | succ n =>
   rw [runC,sp.word h]
   cases r with
   | nil=>rfl
   | cons y r =>
    have:=h2 y rfl
    simp only [List.nil_append,this]; rfl
 | x::w,pre,r,n,h,h1,h2,hn=>by
  cases n with
  | zero=>simp at hn
  | succ n =>
   rw [runC,sp.word h]
   simp only [List.cons_append,h1 x (by simp),if_true]
   have:=Sp.run w (pre++[x]) r n (by rw [h]; simp) (fun y hy=>h1 y (by simp [hy])) h2 (by simpa using hn)
   simp only [List.length_append,List.length_singleton] at this
   rw [show ((pre.length:Int)+1)=((pre.length+1:Nat):Int) by omega,this]
   simp; omega
theorem Sp.rem:∀(a pre b:List Rn) (n:Nat),all=pre++(a++b)->(∀y∈a,y.bad=false/\y.r≠10)->(∀y,b.head?=some y->y.r=10)->a.length<n->remC v n (pre.length:Int)=.inl ((pre.length+a.length:Nat):Int)
 | [],pre,b,n,h,h1,h2,hn=>by
  cases n with
  | zero=>simp at hn
  | succ n =>
   have:ze3 v (pre.length:Int)=.inr (.inl (pre.length:Int)):=by
    unfold ze3
    cases b with
    | nil =>
     have:¬((pre.length:Int)<(v.length:Int)):=by rw [sp.len,h]; simp
     rw [if_neg (by simp; omega)]
    | cons y b =>
     obtain ⟨_,e,_⟩:=sp.get h
     rw [if_neg (by rw [e,h2 y rfl]; simp)]
   rw [remC,this]; rfl
 | x::a,pre,b,n,h,h1,h2,hn=>by
  cases n with
  | zero=>simp at hn
  | succ n =>
   obtain ⟨q,e,c,_⟩:=sp.get h
   have hx:=h1 x (by simp)
   have:ze3 v (pre.length:Int)=.inl ((pre.length:Int)+1):=by
    unfold ze3
    have hlt:((pre.length:Int)<(v.length:Int)):=by have:=q.2; omega
    rw [if_pos (by rw [e]; simp [hlt,hx.2]),c,hx.1]; rfl
   rw [remC,this]
   have ih:=Sp.rem a (pre++[x]) b n (by rw [h]; simp) (fun y hy=>h1 y (by simp [hy])) h2 (by simpa using hn)
   simp only [List.length_append,List.length_singleton] at ih
   simp only
   rw [show ((pre.length:Int)+1)=((pre.length+1:Nat):Int) by omega,ih]
   simp; omega
theorem Sp.txt{pre w r:List Rn}{x:Rn}(h:all=pre++(x::w++r)):s.extract (rd v (pre.length:Int)).At.toNat ((rd v ((pre.length+1+w.length:Nat)-1:Int)).At+(rd v ((pre.length+1+w.length:Nat)-1:Int)).Size).toNat=bs (flat (x::w)):=by
 obtain ⟨_,_,_,a1,_⟩:=sp.get (show all=pre++x::(w++r) by rw [h]; simp)
 have hl:∃y z,x::w=z++[y]:=by
  refine ⟨(x::w).getLast (by simp),(x::w).dropLast,(List.dropLast_concat_getLast (by simp)).symm⟩
 obtain ⟨y,z,hz⟩:=hl
 have hlen:z.length=w.length:=by
  have:=congrArg List.length hz
  simp at this; omega
 obtain ⟨_,_,_,b1,b2⟩:=sp.get (show all=(pre++z)++y::r by rw [h,hz]; simp)
 have e:((pre.length+1+w.length:Nat)-1:Int)=((pre++z).length:Int):=by rw [List.length_append,hlen]; omega
 rw [a1,e,b1,b2,sp.s,h]
 have e2:(((flat (pre++z)).length:Int)+(y.bs.length:Int)).toNat=(flat pre).length+(flat (x::w)).length:=by
  rw [hz,zcE,zcE,zc9]; simp [flat]; omega
 rw [e2,zcE,zcE]
 apply bext
 rw [ByteArray.data_extract]
 simp [bs]
end
end Go.Vs
end
section
namespace Go.Vs
local instance tabPalLx2:Tab:=⟨fun _=>none⟩
def kt(t:zab):Int × ByteArray:=(t.Kind,t.Text)
def ka(a:Int × List Rn):Int × ByteArray:=(a.1,bs (flat a.2))
section
variable {s:ByteArray} {v:List zah} {all:List Rn} (sp:Sp s v all)
include sp
theorem Sp.tail{pre w r:List Rn}{x:Rn}{kind:Int}{l:List zab}(h:all=pre++(x::w++r))(h1:kind=1->w.length<=15)(h2:kind=2->(zbY (bs (flat (x::w)))).2=true){k:Int}(hk:k=((pre.length+1+w.length:Nat):Int)) :
  ∃t,kt t=(kind,bs (flat (x::w)))/\tail v s (pre.length:Int) l k kind=.inl (k,l++[t]):=by
 subst hk
 unfold Go.Vs.tail
 simp only
 rw [sp.txt h]
 rw [if_neg (by rintro ⟨a,b⟩; have:=h1 a; omega),if_neg (by rintro ⟨a,b⟩; rw [h2 a] at b; cases b)]
 exact ⟨_,rfl,rfl⟩
end
end Go.Vs
end
section
namespace Go.Vs
local instance tabPalLx3:Tab:=⟨fun _=>none⟩
open Go.Lib
end Go.Vs
end
section
namespace Go.Vs
local instance tabPalLx4:Tab:=⟨fun _=>none⟩
theorem zi6{r:Int}(h:zcd r=true):zdy r=false/\r≠59/\r≠10/\zfZ r=false:=by
 unfold zcd at h
 unfold zdy zfZ
 simp only [Bool.or_eq_true,Bool.and_eq_true,decide_eq_true_eq,beq_iff_eq] at h
 refine ⟨?_,by omega,by omega,?_⟩ <;> simp only [Bool.or_eq_false_iff,beq_eq_false_iff_ne] <;> omega
structure Wd (kind:Int) (s:ByteArray) (l:List Rn):Prop where
 tk:∃x w,l=x::w/\Tk kind x w
 dec:∀y∈l,Dec y
 eq:bs (flat l)=s
def ascs(s:ByteArray):List Rn:=s.data.toList.map asc
theorem zeR(s:ByteArray):flat (ascs s)=s.data.toList:=by
 unfold ascs flat
 induction s.data.toList with
 | nil=>rfl
 | cons b l ih=>simp only [List.map_cons,List.flatMap_cons,ih]; rfl
def kwOk(s:ByteArray):Bool:=match s.data.toList with
 | []=>false
 | b::r=>zcd (b.toNat:Int)&&(b::r).all (fun c=>decide (c.toNat<128))&&decide (r.length<=15)&&r.all (fun c=>zcd (c.toNat:Int)||zdi (c.toNat:Int))
theorem zwq{s:ByteArray}(h:kwOk s=true):Wd 1 s (ascs s):=by
 unfold kwOk at h
 cases hs:s.data.toList with
 | nil=>rw [hs] at h; cases h
 | cons b r =>
  rw [hs] at h
  simp only [Bool.and_eq_true,decide_eq_true_eq] at h
  obtain ⟨⟨⟨h1,h2⟩,h3⟩,h4⟩:=h
  rw [List.all_eq_true] at h2 h4
  obtain ⟨f1,f2,f3,f4⟩:=zi6 h1
  refine ⟨⟨asc b,r.map asc,by simp [ascs,hs],rfl,f1,f2,.inr (.inr (.inl ⟨rfl,f3,f4,h1,by simpa using h3,?_⟩))⟩,?_,by rw [zeR,zlp]⟩
  ·intro z hz
   obtain ⟨q,hq,rfl⟩:=List.mem_map.1 hz
   have:=h4 q hq
   unfold Rn.word asc
   simp only [this]; rfl
  ·intro z hz
   unfold ascs at hz
   rw [hs] at hz
   obtain ⟨q,hq,rfl⟩:=List.mem_map.1 hz
   exact zit (by simpa using h2 q hq)
theorem zk1{v:Int}(h:I64 v):zbY (zdj v)=(v,true):=by
 have:=zkf (s:=zdj v) (v:=v) (by unfold zdj; rw [zdf]; exact zdQ h)
 rw [this,if_pos rfl]
theorem zle(v:Int):∃b r,Lib.itoa v=b::r/\(zcO b=true\/b=45)/\∀c∈r,zcO c=true:=by
 have key:∀u:Nat,∃b r,Lib.decDigits u=b::r/\zcO b=true/\∀c∈r,zcO c=true:=by
  intro u
  obtain ⟨_,h2,h3,_⟩:=zca u
  cases hd:Lib.decDigits u with
  | nil=>exact absurd hd h3
  | cons b r =>
   rw [hd] at h2
   simp only [List.all_cons,Bool.and_eq_true,List.all_eq_true] at h2
   exact ⟨b,r,rfl,h2.1,h2.2⟩
 unfold Lib.itoa
 split
 ·obtain ⟨b,r,h1,h2,h3⟩:=key v.natAbs
  refine ⟨45,b::r,by rw [h1],.inr rfl,fun c hc=>?_⟩
  rcases List.mem_cons.1 hc with rfl | hc
  ·exact h2
  ·exact h3 c hc
 ·obtain ⟨b,r,h1,h2,h3⟩:=key v.toNat
  exact ⟨b,r,h1,.inl h2,h3⟩
theorem zrb{v:Int}(h:I64 v):Wd 2 (zdj v) (ascs (zdj v)):=by
 have hr:=zk1 h
 obtain ⟨b,r,e,h1,h2⟩:=zle v
 have hl:(zdj v).data.toList=b::r:=by unfold zdj; rw [zdf,e]
 have dg:∀c:UInt8,zcO c=true->48<=c.toNat/\c.toNat<=57:=fun c hc=>by
  rw [zgV] at hc
  simp only [Bool.not_eq_true',Bool.or_eq_false_iff,decide_eq_false_iff_not] at hc
  omega
 have hb:(48<=b.toNat/\b.toNat<=57)\/b.toNat=45:=by
  rcases h1 with h1 | rfl
  ·exact .inl (dg b h1)
  ·exact .inr rfl
 refine ⟨⟨asc b,r.map asc,by simp [ascs,hl],rfl,?_,?_,.inr (.inr (.inr ⟨rfl,?_,?_,?_,?_,?_,?_⟩))⟩,?_,by rw [zeR,zlp]⟩
 ·show zdy (b.toNat:Int)=false
  unfold zdy; simp only [Bool.or_eq_false_iff,beq_eq_false_iff_ne]; omega
 ·show ((b.toNat:Int))≠59
  omega
 ·show ((b.toNat:Int))≠10
  omega
 ·show zfZ (b.toNat:Int)=false
  unfold zfZ; simp only [Bool.or_eq_false_iff,beq_eq_false_iff_ne]; omega
 ·show zcd (b.toNat:Int)=false
  unfold zcd; simp only [Bool.or_eq_false_iff,Bool.and_eq_false_iff,beq_eq_false_iff_ne,decide_eq_false_iff_not]; omega
 ·show zdi (b.toNat:Int)=true\/(b.toNat:Int)=45
  unfold zdi; simp only [Bool.and_eq_true,decide_eq_true_eq]; omega
 ·have:bs (flat (asc b::r.map asc))=zdj v:=by
   have:=zeR (zdj v)
   unfold ascs at this
   rw [hl,List.map_cons] at this
   rw [this,← hl,zlp]
  rw [this,hr]
 ·intro z hz
  obtain ⟨q,hq,rfl⟩:=List.mem_map.1 hz
  have:=dg q (h2 q hq)
  show (!false&&(zcd (q.toNat:Int)||zdi (q.toNat:Int)))=true
  have:zdi (q.toNat:Int)=true:=by unfold zdi; simp only [Bool.and_eq_true,decide_eq_true_eq]; omega
  rw [this]; simp
 ·intro z hz
  unfold ascs at hz
  rw [hl] at hz
  obtain ⟨q,hq,rfl⟩:=List.mem_map.1 hz
  refine zit ?_
  rcases List.mem_cons.1 hq with rfl | hq
  ·omega
  ·have:=dg q (h2 q hq); omega
end Go.Vs
end
