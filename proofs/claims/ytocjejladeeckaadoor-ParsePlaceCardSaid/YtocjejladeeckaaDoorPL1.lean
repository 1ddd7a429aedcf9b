import Derived.Test.YtocjejladeeckaaDoorPT1
import Derived.Test.YtocjejladeeckaaDoorPS0
set_option linter.all false
section
namespace Go.Vs
local instance tabPalLx0:Tab:=⟨fun _=>none⟩
structure Rn where
 r:Int
 bs:List UInt8
 bad:Bool
def Rn.word(x:Rn):Bool:=!x.bad&&(zcN x.r||zev x.r)
def flat(l:List Rn):List UInt8:=l.flatMap (·.bs)
def Tk(kind:Int)(x:Rn)(w:List Rn):Prop :=
 x.bad=false/\zeb x.r=false/\x.r≠59 /\
 ((kind=4/\x.r=10/\w=[])\/(kind=3/\x.r≠10/\zgO x.r=true/\w=[]) \/
  (kind=1/\x.r≠10/\zgO x.r=false/\zcN x.r=true/\w.length<=15/\∀y∈w,y.word=true) \/
  (kind=2/\x.r≠10/\zgO x.r=false/\zcN x.r=false/\(zev x.r=true\/x.r=45)/\(zbH (bs (flat (x::w)))).2=true/\∀y∈w,y.word=true))
def Ends(kind:Int)(r:List Rn):Prop:=(kind=1\/kind=2)->∀y,r.head?=some y->y.word=false
inductive Lx:List Rn->List (Int × List Rn)->Prop
 | nil:Lx [] []
 | blank {x r A} (h1:x.bad=false) (h2:zeb x.r=true) (h:Lx r A):Lx (x::r) A
 | rem {x a b A} (h1:x.bad=false) (h2:x.r=59) (h3:∀y∈a,y.bad=false/\y.r≠10) (h4:∀y,b.head?=some y->y.r=10) (h:Lx b A):Lx (x::(a++b)) A
 | tok {kind x w r A} (ht:Tk kind x w) (he:Ends kind r) (h:Lx r A):Lx (x::(w++r)) ((kind,x::w)::A)
def sp:Rn:=⟨32,[32],false⟩
def sc:Rn:=⟨59,[59],false⟩
def zjG(g:List Rn):Prop:=∀y∈g,y.bad=false/\zeb y.r=true
theorem Lx.blanks{g:List Rn}(hg:zjG g){r A}(h:Lx r A):Lx (g++r) A:=by
 induction g with
 | nil=>exact h
 | cons y g ih =>
  have:=hg y (by simp)
  exact .blank this.1 this.2 (ih fun z hz=>hg z (by simp [hz]))
theorem zg0{y:Rn}(h:zeb y.r=true):y.word=false:=by
 unfold zeb at h
 simp only [Bool.or_eq_true,beq_iff_eq] at h
 rcases h with h | h <;> (unfold Rn.word; rw [h]; cases y.bad <;> rfl)
inductive Gap:List Rn->Prop
 | blanks {g} (h:zjG g):Gap g
 | rem {g a} (h:zjG g) (ha:∀y∈a,y.bad=false/\y.r≠10):Gap (g++sc::a)
inductive zmw:List (Int × List Rn)->List Rn->Prop
 | nil {g} (hg:Gap g):zmw [] g
 | cons {kind x w A g b t} (hg:Gap g) (h4:kind=4\/g=[]) (hb:zjG b) (hb0:b≠[]) (h:zmw A t):zmw ((kind,x::w)::A) (g++(x::w)++b++t)
theorem Gap.lx{g:List Rn}(hg:Gap g):Lx g []:=by
 cases hg with
 | blanks h=>have:=Lx.blanks h Lx.nil; simpa using this
 | @rem g a h ha =>
  refine Lx.blanks h ?_
  have:=Lx.rem (x:=sc) (a:=a) (b:=[]) rfl rfl ha (fun y hy=>by simp at hy) Lx.nil
  simpa using this
theorem Lx.apart:∀{l A},Lx l A->∀{t},zmw A t->Lx t A:=by
 intro l A h
 induction h with
 | nil=>intro t ha; cases ha with | nil hg=>exact hg.lx
 | blank h1 h2 h ih=>exact ih
 | rem h1 h2 h3 h4 h ih=>exact ih
 | @tok kind x w r A ht he h ih =>
  intro t ha
  cases ha with
  | @cons _ _ _ _ g b t hg h4 hb hb0 ha =>
   have hin:Lx (b++t) A:=Lx.blanks hb (ih ha)
   have hends:Ends kind (b++t):=by
    intro _ y hy
    cases b with
    | nil=>exact absurd rfl hb0
    | cons z b =>
     simp at hy
     subst hy
     exact zg0 (hb z (by simp)).2
   have htok:Lx (x::(w++(b++t))) ((kind,x::w)::A):=.tok ht hends hin
   have e:∀g':List Rn,g'++(x::w)++b++t=g'++(x::(w++(b++t))):=fun g'=>by simp
   rw [e]
   cases hg with
   | blanks hg=>exact Lx.blanks hg htok
   | @rem g a hg haa =>
    rw [List.append_assoc]
    refine Lx.blanks hg ?_
    have h10:x.r=10:=by
     rcases h4 with h4 | h4
     ·subst h4
      obtain ⟨_,_,_,h⟩:=ht
      rcases h with h | h | h | h
      ·exact h.2.1
      all_goals exact absurd h.1 (by decide)
     ·simp at h4
    exact Lx.rem (x:=sc) (a:=a) (b:=x::(w++(b++t))) rfl rfl haa (fun y hy=>by simp at hy; rw [← hy]; exact h10) htok
end Go.Vs
end
section
namespace Go.Vs
local instance tabPalLx1:Tab:=⟨fun _=>none⟩
open Go.Lib
def gB(l:List UInt8)(i:Nat):Nat:=(l.getD i 0).toNat
def dec0(l:List UInt8):Nat × Nat:=decodeN l.length (gB l 0) (gB l 1) (gB l 2) (gB l 3)
theorem zol(l:List UInt8)(i:Nat):(bs l).get! i=l.getD i 0:=by
 by_cases h:i<l.length
 ·have h2:i<(bs l).size:=by rw [zcX]; exact h
  rw [Go.Proofs.Utf8W.get!_of_lt _ _ h2]
  show l.toArray[i]=_
  simp [List.getD_eq_getElem?_getD,h]
  rfl
 ·show l.toArray[i]! = _
  simp [List.getD_eq_getElem?_getD,h,getElem!_def]
  rfl
theorem zgG(p l:List UInt8):Utf8.decode (bs (p++l)) p.length=dec0 l:=by
 have g:∀k,(bs (p++l)).get! (p.length+k)=l.getD k 0:=fun k=>by
  rw [zol,List.getD_eq_getElem?_getD,List.getD_eq_getElem?_getD,List.getElem?_append_right (by omega)]
  congr 2; omega
 rw [decode_at,dec0]
 have g0:=g 0
 rw [Nat.add_zero] at g0
 rw [g0,g 1,g 2,g 3,zcX,List.length_append,Nat.add_sub_cancel_left]
 rfl
theorem zgd(a b:List Rn):flat (a++b)=flat a++flat b:=by simp [flat]
theorem zll(x:Rn)(b:List Rn):flat (x::b)=x.bs++flat b:=by simp [flat]
structure Sp (s:ByteArray) (v:List zah) (all:List Rn):Prop where
 s:s=bs (flat all)
 len:v.length=all.length
 at_:∀(j:Nat) (x:Rn),all[j]?=some x->(rd v (j:Int)).Rune=x.r/\(rd v (j:Int)).Bad=x.bad/\(rd v (j:Int)).At=((flat (all.take j)).length:Int)/\(rd v (j:Int)).Size=(x.bs.length:Int)
section
variable {s:ByteArray} {v:List zah} {all:List Rn} (sp:Sp s v all)
include sp
theorem Sp.get{pre r:List Rn}{x:Rn}(h:all=pre++x::r):InB (pre.length:Int) v.length/\(rd v (pre.length:Int)).Rune=x.r/\(rd v (pre.length:Int)).Bad=x.bad/\(rd v (pre.length:Int)).At=((flat pre).length:Int)/\(rd v (pre.length:Int)).Size=(x.bs.length:Int):=by
 have hj:all[pre.length]?=some x:=by rw [h]; simp
 obtain ⟨a,b,c,d⟩:=sp.at_ _ _ hj
 refine ⟨⟨by omega,by rw [sp.len,h]; simp⟩,a,b,?_,d⟩
 rw [c,h]; simp
theorem Sp.word{pre r:List Rn}(h:all=pre++r):zcQ v (pre.length:Int)=(match r with | []=>false | x::_=>x.word):=by
 cases r with
 | nil =>
  have:¬((pre.length:Int)<(v.length:Int)):=by rw [sp.len,h]; simp
  unfold zcQ
  rw [decide_eq_false this]; rfl
 | cons x r =>
  obtain ⟨a,b,c,_⟩:=sp.get h
  have:((pre.length:Int)<(v.length:Int)):=by have:=a.2; omega
  unfold zcQ Rn.word
  rw [decide_eq_true this,b,c]; rfl
theorem Sp.run:∀(w pre r:List Rn) (n:Nat),all=pre++(w++r)->(∀y∈w,y.word=true)->(∀y,r.head?=some y->y.word=false)->w.length<=n->runC v n (pre.length:Int)=((pre.length+w.length:Nat):Int)
 | [],pre,r,n,h,h1,h2,hn=>by
  cases n with
  | zero=>rfl
  | succ n =>
   rw [runC,sp.word h]
   cases r with
   | nil=>rfl
   | cons y r =>
    have:=h2 y rfl
    simp only [List.nil_append,this]; rfl
 | x::w,pre,r,n,h,h1,h2,hn=>by
  cases n with
  | zero=>simp at hn
  | succ n =>
   rw [runC,sp.word h]
   simp only [List.cons_append,h1 x (by simp),if_true]
   have:=Sp.run w (pre++[x]) r n (by rw [h]; simp) (fun y hy=>h1 y (by simp [hy])) h2 (by simpa using hn)
   simp only [List.length_append,List.length_singleton] at this
   rw [show ((pre.length:Int)+1)=((pre.length+1:Nat):Int) by omega,this]
   simp; omega
theorem Sp.rem:∀(a pre b:List Rn) (n:Nat),all=pre++(a++b)->(∀y∈a,y.bad=false/\y.r≠10)->(∀y,b.head?=some y->y.r=10)->a.length<n->remC v n (pre.length:Int)=.inl ((pre.length+a.length:Nat):Int)
 | [],pre,b,n,h,h1,h2,hn=>by
  cases n with
  | zero=>simp at hn
  | succ n =>
   have:zcD v (pre.length:Int)=.inr (.inl (pre.length:Int)):=by
    unfold zcD
    cases b with
    | nil =>
     have:¬((pre.length:Int)<(v.length:Int)):=by rw [sp.len,h]; simp
     rw [if_neg (by simp; omega)]
    | cons y b =>
     obtain ⟨_,e,_⟩:=sp.get h
     rw [if_neg (by rw [e,h2 y rfl]; simp)]
   rw [remC,this]; rfl
 | x::a,pre,b,n,h,h1,h2,hn=>by
  cases n with
  | zero=>simp at hn
  | succ n =>
   obtain ⟨q,e,c,_⟩:=sp.get h
   have hx:=h1 x (by simp)
   have:zcD v (pre.length:Int)=.inl ((pre.length:Int)+1):=by
    unfold zcD
    have hlt:((pre.length:Int)<(v.length:Int)):=by have:=q.2; omega
    rw [if_pos (by rw [e]; simp [hlt,hx.2]),c,hx.1]; rfl
   rw [remC,this]
   have ih:=Sp.rem a (pre++[x]) b n (by rw [h]; simp) (fun y hy=>h1 y (by simp [hy])) h2 (by simpa using hn)
   simp only [List.length_append,List.length_singleton] at ih
   simp only
   rw [show ((pre.length:Int)+1)=((pre.length+1:Nat):Int) by omega,ih]
   simp; omega
theorem Sp.txt{pre w r:List Rn}{x:Rn}(h:all=pre++(x::w++r)):s.extract (rd v (pre.length:Int)).At.toNat ((rd v ((pre.length+1+w.length:Nat)-1:Int)).At+(rd v ((pre.length+1+w.length:Nat)-1:Int)).Size).toNat=bs (flat (x::w)):=by
 obtain ⟨_,_,_,a1,_⟩:=sp.get (show all=pre++x::(w++r) by rw [h]; simp)
 have hl:∃y z,x::w=z++[y]:=by
  refine ⟨(x::w).getLast (by simp),(x::w).dropLast,(List.dropLast_concat_getLast (by simp)).symm⟩
 obtain ⟨y,z,hz⟩:=hl
 have hlen:z.length=w.length:=by
  have:=congrArg List.length hz
  simp at this; omega
 obtain ⟨_,_,_,b1,b2⟩:=sp.get (show all=(pre++z)++y::r by rw [h,hz]; simp)
 have e:((pre.length+1+w.length:Nat)-1:Int)=((pre++z).length:Int):=by rw [List.length_append,hlen]; omega
 rw [a1,e,b1,b2,sp.s,h]
 have e2:(((flat (pre++z)).length:Int)+(y.bs.length:Int)).toNat=(flat pre).length+(flat (x::w)).length:=by
  rw [hz,zgd,zgd,zll]; simp [flat]; omega
 rw [e2,zgd,zgd]
 apply bext
 rw [ByteArray.data_extract]
 simp [bs]
end
end Go.Vs
end
