import Derived.Test.YtocjejladeeckaaDoorPL2
set_option linter.all false
namespace Go.Vs
local instance tabPalY1:Tab:=⟨fun _=>none⟩
def plcR:List Rn->Int × Int->Int × Int
 | [],q=>q
 | x::l,q=>plcR l (if x.r=10 then (q.1+1,1) else (q.1,q.2+1))
theorem zgu:∀(a b:List Rn) (q:Int × Int),plcR (a++b) q=plcR b (plcR a q)
 | [],b,q=>rfl
 | x::a,b,q=>zgu a b _
theorem zhz:∀(T pre:List Rn) (f:Nat) (line col:Int),(∀x∈T,Dec x)->T.length<=f->∀(j:Nat) (y:zah),(zck (bs (flat (pre++T))) f (flat pre).length line col)[j]?=some y->(y.Line,y.Col)=plcR (T.take j) (line,col)
 | [],pre,f,line,col,hd,hf,j,y,hy=>by
  have:=(zfY [] pre f line col hd hf).1
  have hl:=(List.getElem?_eq_some_iff.1 hy).1
  rw [this] at hl; simp at hl
 | x::T,pre,f,line,col,hd,hf,j,y,hy=>by
  obtain ⟨h1,h2,r,h3,h4,h5⟩:=hd x (by simp)
  cases f with
  | zero=>simp at hf
  | succ f =>
   have hp:(flat pre).length<(bs (flat (pre++x::T))).size:=by rw [zbV,zcE,zc9]; simp; omega
   have hdec:Utf8.decode (bs (flat (pre++x::T))) (flat pre).length=(r,x.bs.length):=by
    rw [zcE,zc9,zjg,h4]
   rw [zck,if_pos hp,hdec] at hy
   have e1:(flat pre).length+x.bs.length=(flat (pre++[x])).length:=by rw [zcE,zc9]; simp [flat]
   have e2:pre++x::T=(pre++[x])++T:=by simp
   cases j with
   | zero=>simp at hy; subst hy; rfl
   | succ j =>
    simp only [List.getElem?_cons_succ] at hy
    rw [e1,e2] at hy
    have:=zhz T (pre++[x]) f _ _ (fun y hy=>hd y (by simp [hy])) (by simpa using hf) j y hy
    rw [this,List.take_succ_cons,plcR,h3]
    congr 1
    by_cases h10:r=10
    ·subst h10; rfl
    ·rw [if_neg h10,if_neg h10,if_neg (by omega)]
theorem ziH{all:List Rn}(hd:∀x∈all,Dec x){pre r:List Rn}{x:Rn}(h:all=pre++x::r):((rd (zbo (bs (flat all))) (pre.length:Int)).Line,(rd (zbo (bs (flat all))) (pre.length:Int)).Col)=plcR pre (1,1):=by
 have sp:=zl3 all hd
 obtain ⟨hb,_⟩:=sp.get h
 have hg:=zmi hb
 rw [Int.toNat_natCast] at hg
 have:=zhz all [] (bs (flat all)).size 1 1 hd (by rw [zbV]; exact zna hd) pre.length _ hg
 rw [this,h]
 simp
def mkI:List It->Int × Int->List zab
 | [],q=>[⟨4,q.1,q.2,⟨#[]⟩⟩]
 | a::l,q=>if a.1==0 then mkI l (plcR a.2 q) else ⟨a.1,q.1,q.2,bs (flat a.2)⟩::mkI l (plcR a.2 q)
theorem zgD{all:List Rn}(hd:∀x∈all,Dec x):∀(l:List It) (pre:List Rn),all=pre++zda l->(∀a∈l,ItOk a)->sep l=true->∀(n:Nat) (l0:List zab),(zda l).length<=n->∃L,tokC (zbo (bs (flat all))) (bs (flat all)) n (pre.length:Int) l0=.inl (l0++L)/\L++[⟨4,(plcR all (1,1)).1,(plcR all (1,1)).2,⟨#[]⟩⟩]=mkI l (plcR pre (1,1))
 | [],pre,h,hk,hs,n,l0,hn=>by
  have sp:=zl3 all hd
  have hall:all=pre:=by rw [h]; simp [zda]
  refine ⟨[],?_,by rw [hall]; rfl⟩
  cases n with
  | zero=>simp [tokC]
  | succ n=>rw [tokC,if_neg (by rw [sp.len,hall]; simp)]; simp
 | a::l,pre,h,hk,hs,n,l0,hn=>by
  have sp:=zl3 all hd
  unfold sep at hs
  simp only [Bool.and_eq_true] at hs
  obtain ⟨_,h1⟩:=hk a (by simp)
  rw [zf0] at h hn
  rw [List.length_append] at hn
  rcases h1 with ⟨k0,x,e,b1,b2⟩ | ⟨k0,x,w,e,ht⟩
  ·rw [e] at h hn
   simp only [List.length_singleton] at hn
   obtain ⟨n,rfl⟩:∃m,n=m+1:=⟨n-1,by omega⟩
   have h':all=pre++x::zda l:=by rw [h]; rfl
   obtain ⟨q,e1,c,_⟩:=sp.get h'
   have hlt:((pre.length:Int)<((zbo (bs (flat all))).length:Int)):=by have:=q.2; omega
   have htk:zec (zbo (bs (flat all))) (bs (flat all)) (pre.length:Int) l0=.inl ((pre.length:Int)+1,l0):=by
    unfold zec
    rw [c,b1,if_neg (by decide),e1,if_pos b2]
   obtain ⟨L,r1,r2⟩:=zgD hd l (pre++[x]) (by rw [h]; simp) (fun b hb=>hk b (by simp [hb])) hs.2 n l0 (by omega)
   refine ⟨L,?_,?_⟩
   ·rw [tokC,if_pos hlt,htk]
    simp only [List.length_append,List.length_singleton] at r1
    exact r1
   ·rw [r2,mkI,if_pos (by rw [k0]; rfl),e,zgu]
  ·rw [e] at h hn
   simp only [List.length_cons] at hn
   obtain ⟨n,rfl⟩:∃m,n=m+1:=⟨n-1,by omega⟩
   have h':all=pre++x::(w++zda l):=by rw [h]; rfl
   obtain ⟨q,e1,c,_⟩:=sp.get h'
   have hpl:=ziH hd h'
   have hlt:((pre.length:Int)<((zbo (bs (flat all))).length:Int)):=by have:=q.2; omega
   obtain ⟨t0,t1,t2,t3⟩:=ht
   have hvl:(zbo (bs (flat all))).length=pre.length+1+w.length+(zda l).length:=by rw [sp.len,h]; simp; omega
   have he:∀y,(zda l).head?=some y->wk2 a.1=true->y.word=false:=by
    intro y hy hw
    rw [hw] at hs
    cases l with
    | nil=>simp [zda] at hy
    | cons b r =>
     obtain ⟨_,hb⟩:=hk b (by simp)
     have hnb:wk2 b.1=false:=by simpa using hs.1
     rw [zf0] at hy
     rcases hb with ⟨_,z,e2,c1,c2⟩ | ⟨_,z,w2,e2,u0,u1,u2,u3⟩
     ·rw [e2] at hy
      simp at hy; subst hy
      exact zfd c2
     ·rw [e2] at hy
      simp at hy; subst hy
      unfold wk2 at hnb
      simp only [Bool.or_eq_false_iff,beq_eq_false_iff_ne] at hnb
      rcases u3 with ⟨_,q,_⟩ | ⟨_,_,q,_⟩ | ⟨q,_⟩ | ⟨q,_⟩
      ·unfold Rn.word; rw [q]; cases z.bad <;> rfl
      ·unfold zfZ at q
       simp only [Bool.or_eq_true,beq_iff_eq] at q
       rcases q with ((q | q) | q) | q <;> (unfold Rn.word; rw [q]; cases z.bad <;> rfl)
      ·exact absurd q hnb.1
      ·exact absurd q hnb.2
   have hA:all=pre++(x::w++zda l):=by rw [h]
   have tl:∀kind:Int,kind=a.1->(kind=1->w.length<=15)->(kind=2->(zbY (bs (flat (x::w)))).2=true)->tail (zbo (bs (flat all))) (bs (flat all)) (pre.length:Int) l0 ((pre.length+1+w.length:Nat):Int) kind=.inl (((pre.length+1+w.length:Nat):Int),l0++[⟨a.1,(plcR pre (1,1)).1,(plcR pre (1,1)).2,bs (flat a.2)⟩]):=by
    intro kind hkk k1 k2
    have hx:=sp.txt hA
    unfold tail
    simp only
    rw [hx]
    rw [if_neg (by rintro ⟨a,b⟩; have:=k1 a; omega),if_neg (by rintro ⟨a,b⟩; rw [k2 a] at b; cases b)]
    rw [← hpl,e,hkk]
   have key:zec (zbo (bs (flat all))) (bs (flat all)) (pre.length:Int) l0=.inl (((pre.length+1+w.length:Nat):Int),l0++[⟨a.1,(plcR pre (1,1)).1,(plcR pre (1,1)).2,bs (flat a.2)⟩]):=by
    unfold zec
    rw [c,t0,if_neg (by decide),e1,t1,if_neg (by decide),if_neg t2]
    rcases t3 with ⟨ka,k1,kw⟩ | ⟨ka,k1,k2,kw⟩ | ⟨ka,k1,k2,k3,k4,k5⟩ | ⟨ka,k1,k2,k3,k4,k5,k6⟩
    ·have:=tl 4 ka.symm (fun e=>absurd e (by decide)) (fun e=>absurd e (by decide))
     rw [kw] at this ⊢
     rw [if_pos k1]; exact this
    ·have:=tl 3 ka.symm (fun e=>absurd e (by decide)) (fun e=>absurd e (by decide))
     rw [kw] at this ⊢
     rw [if_neg k1,if_pos k2]; exact this
    ·have hrun:=sp.run w (pre++[x]) (zda l) (zbo (bs (flat all))).length (by rw [h]; simp) k5 (fun y hy=>he y hy (by rw [ka]; rfl)) (by omega)
     simp only [List.length_append,List.length_singleton] at hrun
     rw [if_neg k1,k2,if_neg (by decide),if_pos k3,show ((pre.length:Int)+1)=((pre.length+1:Nat):Int) by omega,hrun]
     exact tl 1 ka.symm (fun _=>k4) (fun e=>absurd e (by decide))
    ·have hrun:=sp.run w (pre++[x]) (zda l) (zbo (bs (flat all))).length (by rw [h]; simp) k6 (fun y hy=>he y hy (by rw [ka]; rfl)) (by omega)
     simp only [List.length_append,List.length_singleton] at hrun
     have hd':(zdi x.r||(x.r==45))=true:=by
      rcases k4 with k4 | k4
      ·rw [k4]; rfl
      ·rw [k4]; decide
     rw [if_neg k1,k2,if_neg (by decide),k3,if_neg (by decide),if_pos hd',show ((pre.length:Int)+1)=((pre.length+1:Nat):Int) by omega,hrun]
     exact tl 2 ka.symm (fun e=>absurd e (by decide)) (fun _=>k5)
   obtain ⟨L,r1,r2⟩:=zgD hd l (pre++x::w) (by rw [h]; simp) (fun b hb=>hk b (by simp [hb])) hs.2 n (l0++[⟨a.1,(plcR pre (1,1)).1,(plcR pre (1,1)).2,bs (flat a.2)⟩]) (by omega)
   refine ⟨⟨a.1,(plcR pre (1,1)).1,(plcR pre (1,1)).2,bs (flat a.2)⟩::L,?_,?_⟩
   ·rw [tokC,if_pos hlt,key]
    have e3:(pre++x::w).length=pre.length+1+w.length:=by simp; omega
    rw [e3] at r1
    simp only [r1]
    simp
   ·rw [List.cons_append,r2,mkI,if_neg (by simpa using k0),e,zgu]
theorem znf{all:List Rn}(hd:∀x∈all,Dec x):zfS (zbo (bs (flat all)))=plcR all (1,1):=by
 have sp:=zl3 all hd
 unfold zfS
 cases hl:(zbo (bs (flat all))).getLast? with
 | none =>
  have h1:zbo (bs (flat all))=[]:=List.getLast?_eq_none_iff.1 hl
  have h2:=sp.len
  rw [h1] at h2
  have:all=[]:=List.length_eq_zero_iff.1 (by simpa using h2.symm)
  rw [this]; rfl
 | some y =>
  have hne:all≠[]:=by
   intro e
   have h2:=sp.len
   rw [e] at h2
   have:zbo (bs (flat all))=[]:=List.length_eq_zero_iff.1 (by rw [e]; simpa using h2)
   rw [this] at hl; cases hl
  obtain ⟨pre,x,rfl⟩:∃pre x,all=pre++[x]:=⟨all.dropLast,all.getLast hne,(List.dropLast_concat_getLast hne).symm⟩
  have hpl:=ziH hd (pre:=pre) (r:=[]) (x:=x) rfl
  obtain ⟨hb,e1,_⟩:=sp.get (pre:=pre) (r:=[]) (x:=x) rfl
  have hy:rd (zbo (bs (flat (pre++[x])))) (pre.length:Int)=y:=by
   have h2:=sp.len
   simp only [List.length_append,List.length_singleton] at h2
   rw [List.getLast?_eq_getElem?] at hl
   have:(zbo (bs (flat (pre++[x])))).length-1=pre.length:=by omega
   rw [this] at hl
   exact zfk hl
  rw [hy] at e1 hpl
  rw [zgu]
  simp only [plcR]
  rw [← hpl,e1]
theorem ziD{l:List It}(hk:∀a∈l,ItOk a)(hs:sep l=true):zbU (itB l)=(mkI l (1,1),⟨0,0,0⟩):=by
 have hd:∀x∈zda l,Dec x:=by
  intro x hx
  unfold zda at hx
  obtain ⟨a,ha,hx⟩:=List.mem_flatMap.1 hx
  exact (hk a ha).1 x hx
 have sp:=zl3 (zda l) hd
 obtain ⟨L,e1,e2⟩:=zgD hd l [] rfl hk hs (zbo (bs (flat (zda l)))).length [] (by rw [sp.len]; exact Nat.le_refl _)
 have e1':tokC (zbo (itB l)) (itB l) (zbo (itB l)).length 0 []=.inl L:=e1
 unfold zbU
 rw [e1']
 have he:=znf hd
 show (L++[⟨4,(zfS (zbo (bs (flat (zda l))))).1,(zfS (zbo (bs (flat (zda l))))).2,⟨#[]⟩⟩],_)=_
 rw [he,e2]
 rfl
end Go.Vs
