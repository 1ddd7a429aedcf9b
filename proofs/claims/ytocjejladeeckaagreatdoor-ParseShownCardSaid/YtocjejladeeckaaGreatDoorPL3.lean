import Derived.Test.YtocjejladeeckaaGreatDoorPL1
import Derived.Test.YtocjejladeeckaaGreatDoorPP5
import Derived.Test.YtocjejladeeckaaGreatDoorPP4
import Derived.Test.YtocjejladeeckaaGreatDoorPL2
import Derived.Test.YtocjejladeeckaaGreatDoorPS1
import Derived.Test.YtocjejladeeckaaGreatDoorPalO
set_option linter.all false
section
namespace Go.Vs
local instance tabPalLxB:Tab:=⟨fun _=>none⟩
theorem zmo(s:ByteArray):∀(f pos:Nat) (line col:Int) (j:Nat) (y:zal),pos<=s.size->(zbF s f pos line col)[j]?=some y->y.At=((pos+(flat (((zbF s f pos line col).take j).map (rnOf s))).length:Nat):Int)/\(rnOf s y).bs.length=y.Size.toNat/\0<=y.Size
 | 0,pos,line,col,j,y,hp,h=>by simp [zbF] at h
 | f+1,pos,line,col,j,y,hp,h=>by
  rw [zbF] at h ⊢
  by_cases hlt:pos<s.size
  ·rw [if_pos hlt] at h ⊢
   obtain ⟨l1,l2⟩:=zkx s pos hlt
   have hs:=zhh s
   cases j with
   | zero =>
    simp at h; subst h
    refine ⟨by simp [flat],?_,by simp⟩
    simp [rnOf]; omega
   | succ j =>
    simp at h
    obtain ⟨a,b,c⟩:=zmo s f _ _ _ j y l2 h
    refine ⟨?_,b,c⟩
    rw [a,List.take_succ_cons,List.map_cons,zeU,List.length_append]
    have:(rnOf s { Rune:=((Utf8.decode s pos).1:Int),At:=(pos:Int),Size:=((Utf8.decode s pos).2:Int),Line:=line,Col:=col,Bad:=(Utf8.decode s pos).1==65533&&(Utf8.decode s pos).2==1 }).bs.length=(Utf8.decode s pos).2:=by simp [rnOf]; omega
    rw [this]; omega
  ·rw [if_neg hlt] at h; simp at h
theorem zuN(s:ByteArray):Sp s (zaX s) (rns s):=by
 refine ⟨by rw [zjD,zk0],by simp [rns],fun j x hj=>?_⟩
 unfold rns at hj
 rw [List.getElem?_map] at hj
 cases hy:(zaX s)[j]? with
 | none=>rw [hy] at hj; simp at hj
 | some y =>
  rw [hy] at hj
  simp at hj; subst hj
  obtain ⟨a,b,c⟩:=zmo s s.size 0 1 1 j y (by omega) hy
  rw [zci hy]
  refine ⟨rfl,rfl,?_,by rw [b]; omega⟩
  rw [a,Nat.zero_add]
  unfold rns
  rw [← List.map_take]; rfl
section
variable {s:ByteArray} {v:List zal} {all:List Rn} (sp:Sp s v all)
include sp
theorem Sp.wordAt{i:Nat}:wordAt v (i:Int)=(match all.drop i with | []=>false | x::_=>x.word):=by
 cases hd:all.drop i with
 | nil =>
  have hl:all.length<=i:=by simpa using hd
  have:¬((i:Int)<(v.length:Int)):=by rw [sp.len]; omega
  unfold Go.Vs.wordAt
  rw [decide_eq_false this]; rfl
 | cons x r =>
  have hi:i<all.length:=by
   apply Classical.byContradiction; intro hn
   rw [List.drop_of_length_le (by omega)] at hd; cases hd
  have:=sp.word (pre:=all.take i) (r:=x::r) (by rw [← hd,List.take_append_drop])
  rw [List.length_take_of_le (by omega)] at this
  exact this
theorem Sp.run_inv:∀(n i:Nat),all.length-i<=n->∃w,runC v n (i:Int)=((i+w.length:Nat):Int)/\all.drop i=w++all.drop (i+w.length)/\(∀y∈w,y.word=true)/\∀y,(all.drop (i+w.length)).head?=some y->y.word=false
 | 0,i,hn=>⟨[],rfl,rfl,by simp,fun y hy=>by simp only [List.length_nil,Nat.add_zero] at hy; rw [List.drop_of_length_le (by omega)] at hy; cases hy⟩
 | n+1,i,hn=>by
  rw [runC,sp.wordAt]
  cases hd:all.drop i with
  | nil=>exact ⟨[],rfl,by simp [hd],by simp,fun y hy=>by simp only [List.length_nil,Nat.add_zero] at hy; rw [hd] at hy; cases hy⟩
  | cons x r =>
   have hi:i<all.length:=by
    apply Classical.byContradiction; intro hn
    rw [List.drop_of_length_le (by omega)] at hd; cases hd
   have hr:all.drop (i+1)=r:=by
    have:=List.drop_eq_getElem_cons hi
    rw [hd] at this; injection this with _ h2; exact h2.symm
   simp only
   by_cases hw:x.word=true
   ·rw [if_pos hw]
    obtain ⟨w,h1,h2,h3,h4⟩:=Sp.run_inv n (i+1) (by omega)
    have el:i+1+w.length=i+(x::w).length:=by simp; omega
    rw [el] at h1 h2 h4
    refine ⟨x::w,?_,?_,?_,h4⟩
    ·rw [show ((i:Int)+1)=((i+1:Nat):Int) by omega,h1]
    ·rw [← hr]; exact congrArg (x::·) h2
    ·intro y hy
     rcases List.mem_cons.1 hy with rfl | hy
     ·exact hw
     ·exact h3 y hy
   ·rw [if_neg hw]
    exact ⟨[],rfl,by simp [hd],by simp,fun y hy=>by simp only [List.length_nil,Nat.add_zero] at hy; rw [hd] at hy; simp at hy; subst hy; simpa using hw⟩
theorem Sp.rem_inv:∀(n i k:Nat),all.length-i<n->remC v n (i:Int)=.inl (k:Int)->∃a,k=i+a.length/\all.drop i=a++all.drop k/\(∀y∈a,y.bad=false/\y.r≠10)/\∀y,(all.drop k).head?=some y->y.r=10
 | 0,i,k,hn,h=>by omega
 | n+1,i,k,hn,h=>by
  rw [remC] at h
  cases hd:all.drop i with
  | nil =>
   have hl:all.length<=i:=by simpa using hd
   have hr:zeG v (i:Int)=.inr (.inl (i:Int)):=by
    unfold zeG
    rw [if_neg (by rw [sp.len]; simp; omega)]
   rw [hr] at h
   simp only [Sum.inl.injEq] at h
   have hk:k=i:=by omega
   subst hk
   exact ⟨[],rfl,by simp [hd],by simp,fun y hy=>by rw [hd] at hy; cases hy⟩
  | cons x r =>
   have hi:i<all.length:=by
    apply Classical.byContradiction; intro hn
    rw [List.drop_of_length_le (by omega)] at hd; cases hd
   have hr:all.drop (i+1)=r:=by
    have:=List.drop_eq_getElem_cons hi
    rw [hd] at this; injection this with _ h2; exact h2.symm
   obtain ⟨q,e,c,_⟩:=sp.get (pre:=all.take i) (r:=r) (x:=x) (by rw [← hd,List.take_append_drop])
   rw [List.length_take_of_le (by omega)] at q e c
   have hlt:((i:Int)<(v.length:Int)):=by have:=q.2; omega
   by_cases h10:x.r=10
   ·have hra:zeG v (i:Int)=.inr (.inl (i:Int)):=by
     unfold zeG
     rw [if_neg (by rw [e,h10]; simp)]
    rw [hra] at h
    simp only [Sum.inl.injEq] at h
    have hk:k=i:=by omega
    subst hk
    exact ⟨[],rfl,by simp [hd],by simp,fun y hy=>by rw [hd] at hy; simp at hy; subst hy; exact h10⟩
   ·have hra:zeG v (i:Int)=if x.bad=true then .inr (.inr ([],⟨1,(rd v (i:Int)).Line,(rd v (i:Int)).Col⟩)) else .inl ((i:Int)+1):=by
     unfold zeG
     rw [if_pos (by rw [e]; simp [hlt,h10]),c]
    rw [hra] at h
    by_cases hb:x.bad=true
    ·rw [if_pos hb] at h; cases h
    ·rw [if_neg hb] at h
     simp only at h
     rw [show ((i:Int)+1)=((i+1:Nat):Int) by omega] at h
     obtain ⟨a,h1,h2,h3,h4⟩:=Sp.rem_inv n (i+1) k (by omega) h
     refine ⟨x::a,by simp; omega,by rw [← hr,h2]; simp,?_,h4⟩
     intro y hy
     rcases List.mem_cons.1 hy with rfl | hy
     ·exact ⟨by simpa using hb,h10⟩
     ·exact h3 y hy
theorem zn9:∀(n i:Nat) (l L':List zaa),all.length-i<=n->tokC v s n (i:Int) l=.inl L'->∃A L,L'=l++L/\Lx (all.drop i) A/\L.map kt=A.map ka/\∀x∈all.drop i,x.bad=false
 | 0,i,l,L',hn,h=>by
  simp only [tokC,Sum.inl.injEq] at h
  rw [List.drop_of_length_le (by omega)]
  exact ⟨[],[],by simp [h],.nil,rfl,by simp⟩
 | n+1,i,l,L',hn,h=>by
  rw [tokC] at h
  cases hd:all.drop i with
  | nil =>
   have hl:all.length<=i:=by simpa using hd
   rw [if_neg (by rw [sp.len]; omega)] at h
   simp only [Sum.inl.injEq] at h
   exact ⟨[],[],by simp [h],.nil,rfl,by simp⟩
  | cons x r =>
   have hi:i<all.length:=by
    apply Classical.byContradiction; intro hn
    rw [List.drop_of_length_le (by omega)] at hd; cases hd
   have hr:all.drop (i+1)=r:=by
    have:=List.drop_eq_getElem_cons hi
    rw [hd] at this; injection this with _ h2; exact h2.symm
   have hsplit:all=all.take i++x::r:=by rw [← hd,List.take_append_drop]
   obtain ⟨q,e,c,_⟩:=sp.get hsplit
   have htl:(all.take i).length=i:=List.length_take_of_le (by omega)
   rw [htl] at q e c
   have hlt:((i:Int)<(v.length:Int)):=by have:=q.2; omega
   rw [if_pos hlt] at h
   unfold zeC at h
   rw [c,e] at h
   have i1:((i:Int)+1)=((i+1:Nat):Int):=by omega
   by_cases hb:x.bad=true
   ·rw [if_pos hb] at h; cases h
   rw [if_neg hb] at h
   have hb':x.bad=false:=by simpa using hb
   by_cases h2:zeB x.r=true
   ·rw [if_pos h2] at h
    simp only at h
    rw [i1] at h
    obtain ⟨A,L,e1,e2,e3,e4⟩:=zn9 n (i+1) l L' (by omega) h
    rw [hr] at e2 e4
    exact ⟨A,L,e1,.blank hb' h2 e2,e3,fun y hy=>by rcases List.mem_cons.1 hy with rfl | hy; exact hb'; exact e4 y hy⟩
   rw [if_neg h2] at h
   by_cases h3:x.r=59
   ·rw [if_pos h3] at h
    cases hrem:remC v v.length ((i:Int)+1) with
    | inr q=>rw [hrem] at h; cases h
    | inl k =>
     rw [hrem] at h
     simp only at h
     have hk0:0<=k:=by
      have:∀(n:Nat) (i k:Int),0<=i->remC v n i=.inl k->0<=k:=by
       intro n
       induction n with
       | zero=>intro i k h0 h; simp only [remC,Sum.inl.injEq] at h; omega
       | succ n ih =>
        intro i k h0 h
        rw [remC] at h
        unfold zeG at h
        split at h
        ·rename_i j hj
         split at hj
         ·split at hj
          ·cases hj
          ·cases hj; exact ih _ _ (by omega) h
         ·cases hj
        ·rename_i r hj
         split at hj
         ·split at hj
          ·cases hj; cases h
          ·cases hj
         ·cases hj; cases h; exact h0
      exact this _ _ _ (by omega) hrem
     obtain ⟨k',rfl⟩:∃k':Nat,k=(k':Int):=⟨k.toNat,by omega⟩
     rw [i1] at hrem
     obtain ⟨a,a1,a2,a3,a4⟩:=sp.rem_inv v.length (i+1) k' (by have:=sp.len; omega) hrem
     obtain ⟨A,L,e1,e2,e3,e4⟩:=zn9 n k' l L' (by omega) h
     rw [hr] at a2
     refine ⟨A,L,e1,?_,e3,?_⟩
     ·rw [a2]; exact .rem hb' h3 a3 a4 e2
     ·intro y hy
      rcases List.mem_cons.1 hy with rfl | hy
      ·exact hb'
      rw [a2] at hy
      rcases List.mem_append.1 hy with hy | hy
      ·exact (a3 y hy).1
      ·exact e4 y hy
   rw [if_neg h3] at h
   have tk:∀(kind:Int) (w:List Rn),all.drop (i+1)=w++all.drop (i+1+w.length)->(∀y∈w,y.word=true)->(∀k l2,tail v s (i:Int) l ((i+1+w.length:Nat):Int) kind=.inl (k,l2)->Tk kind x w)->Ends kind (all.drop (i+1+w.length)) ->
     (match tail v s (i:Int) l ((i+1+w.length:Nat):Int) kind with | .inl (k,l')=>tokC v s n k l' | .inr r=>r)=.inl L'->∃A L,L'=l++L/\Lx (x::r) A/\L.map kt=A.map ka/\∀y∈x::r,y.bad=false:=by
    intro kind w w1 w2 w3 w4 ht
    have hA:all=all.take i++(x::w++all.drop (i+1+w.length)):=by rw [List.cons_append,← w1,hr]; exact hsplit
    have htxt:=sp.txt hA
    rw [htl] at htxt
    have htail:∀q,tail v s (i:Int) l ((i+1+w.length:Nat):Int) kind=.inl q->∃t,kt t=(kind,bs (flat (x::w)))/\q=(((i+1+w.length:Nat):Int),l++[t]):=by
     intro q hq
     unfold tail at hq
     simp only at hq
     rw [htxt] at hq
     split at hq
     ·cases hq
     split at hq
     ·cases hq
     cases hq
     exact ⟨_,rfl,rfl⟩
    cases hq:tail v s (i:Int) l ((i+1+w.length:Nat):Int) kind with
    | inr z=>
     rw [hq] at ht
     exfalso
     unfold tail at hq
     simp only at hq
     split at hq
     ·cases hq; cases ht
     split at hq
     ·cases hq; cases ht
     cases hq
    | inl z =>
     rw [hq] at ht
     have htk:=w3 z.1 z.2 hq
     obtain ⟨t,et,rfl⟩:=htail z hq
     simp only at ht
     obtain ⟨A,L,e1,e2,e3,e4⟩:=zn9 n (i+1+w.length) (l++[t]) L' (by omega) ht
     refine ⟨(kind,x::w)::A,t::L,by rw [e1]; simp,?_,by rw [List.map_cons,List.map_cons,e3,et]; rfl,?_⟩
     ·rw [← hr,w1]; exact .tok htk w4 e2
     ·intro y hy
      rcases List.mem_cons.1 hy with rfl | hy
      ·exact hb'
      rw [← hr,w1] at hy
      rcases List.mem_append.1 hy with hy | hy
      ·have:=w2 y hy
       unfold Rn.word at this
       cases hyb:y.bad
       ·rfl
       ·rw [hyb] at this; cases this
      ·exact e4 y hy
   have h2':zeB x.r=false:=by simpa using h2
   by_cases h4:x.r=10
   ·rw [if_pos h4,i1] at h
    exact tk 4 [] rfl (by simp) (fun _ _ _=>⟨hb',h2',h3,.inl ⟨rfl,h4,rfl⟩⟩) (fun q=>by rcases q with q | q <;> exact absurd q (by decide)) h
   rw [if_neg h4] at h
   by_cases h5:zhw x.r=true
   ·rw [if_pos h5,i1] at h
    exact tk 3 [] rfl (by simp) (fun _ _ _=>⟨hb',h2',h3,.inr (.inl ⟨rfl,h4,h5,rfl⟩)⟩) (fun q=>by rcases q with q | q <;> exact absurd q (by decide)) h
   rw [if_neg h5] at h
   have h5':zhw x.r=false:=by simpa using h5
   obtain ⟨w,w1,w2,w3,w4⟩:=sp.run_inv v.length (i+1) (by have:=sp.len; omega)
   rw [i1,w1] at h
   by_cases h6:zbD x.r=true
   ·rw [if_pos h6] at h
    refine tk 1 w w2 w3 (fun k l2 ht=>?_) (fun _=>w4) h
    unfold tail at ht
    simp only at ht
    split at ht
    ·cases ht
    ·rename_i hc
     refine ⟨hb',h2',h3,.inr (.inr (.inl ⟨rfl,h4,h5',h6,?_,w3⟩))⟩
     apply Classical.byContradiction
     intro hw
     exact hc ⟨trivial,by omega⟩
   rw [if_neg h6] at h
   have h6':zbD x.r=false:=by simpa using h6
   by_cases h7:(zdK x.r||(x.r==45))=true
   ·rw [if_pos h7] at h
    refine tk 2 w w2 w3 (fun k l2 ht=>?_) (fun _=>w4) h
    have hA:all=all.take i++(x::w++all.drop (i+1+w.length)):=by rw [List.cons_append,← w2,hr]; exact hsplit
    have htxt:=sp.txt hA
    rw [htl] at htxt
    unfold tail at ht
    simp only at ht
    rw [htxt] at ht
    rw [if_neg (by rintro ⟨a,_⟩; exact absurd a (by decide))] at ht
    split at ht
    ·cases ht
    ·rename_i hc
     refine ⟨hb',h2',h3,.inr (.inr (.inr ⟨rfl,h4,h5',h6',?_,?_,w3⟩))⟩
     ·simpa using h7
     ·cases hq:(zcP (bs (flat (x::w)))).2 with
      | true=>rfl
      | false=>exact absurd ⟨trivial,hq⟩ hc
   ·rw [if_neg h7] at h; cases h
end
theorem zmg{s:ByteArray}(hs:Sm s)(h:(zaS s).2.Code=0):∃A L e,(zaS s).1=L++[e]/\kt e=(4,⟨#[]⟩)/\Lx (rns s) A/\L.map kt=A.map ka/\(∀x∈rns s,Dec x)/\(zaS s).2=⟨0,0,0⟩:=by
 have g:=zht s hs
 have hlen:=g.len
 have hsm:=hs
 unfold Sm at hsm
 obtain ⟨p1,p2⟩:=zpT g (zaX s).length 0 [] (by omega) (by omega) (by simp) (fun t ht=>by simp at ht)
 unfold zaS at h ⊢
 cases hx:tokC (zaX s) s (zaX s).length 0 [] with
 | inr q =>
  rw [hx] at h
  exact absurd h (p2 q hx)
 | inl l =>
  have sp:=zuN s
  obtain ⟨A,L,e1,e2,e3,e4⟩:=zn9 sp (zaX s).length 0 [] l (by rw [sp.len]; omega) hx
  rw [List.drop_zero] at e2 e4
  rw [List.nil_append] at e1
  subst e1
  refine ⟨A,l,_,rfl,rfl,e2,e3,?_,rfl⟩
  intro x hx
  have hb:=e4 x hx
  unfold rns at hx
  obtain ⟨y,hy,rfl⟩:=List.mem_map.1 hx
  exact zp9 s y hy hb
end Go.Vs
end
section
namespace Go.Vs
local instance tabPalV1:Tab:=⟨fun _=>none⟩
structure RwT (T T':List zaa):Prop where
 ok:zdt T
 len:T'.length=T.length
 kind:∀i:Nat,(tk T' i).Kind=(tk T i).Kind
 text:∀i:Nat,(tk T' i).Text=(tk T i).Text
def TkR(T T':List zaa)(t t':zaa):Prop:=∃i,i<T.length/\t=tk T i/\t'=tk T' i
def FltR(T T':List zaa)(f f':zai):Prop:=∃c t t',c≠0/\TkR T T' t t'/\f=flt c t/\f'=flt c t'
def ResR(T T':List zaa){α:Type}(q q':Res α):Prop:=match q,q' with
 | .inl f,.inl f'=>FltR T T' f f'
 | .inr x,.inr y=>y=x/\x.2<T.length
 | _,_=>False
def LabR(T T':List zaa){α:Type}(q q':zai ⊕ (Nat × α)):Prop:=match q,q' with
 | .inl f,.inl f'=>FltR T T' f f'
 | .inr x,.inr y=>y=x/\x.1<T.length
 | _,_=>False
def InR(T T':List zaa)(q q':Res (zad × zaa)):Prop:=match q,q' with
 | .inl f,.inl f'=>FltR T T' f f'
 | .inr x,.inr y=>y.1.1=x.1.1/\y.2=x.2/\x.2<T.length/\(x.1.1.To≠⟨#[]⟩->TkR T T' x.1.2 y.1.2)
 | _,_=>False
section
variable {T T':List zaa} (R:RwT T T')
include R
theorem RwT.sg(i:Nat)(s:ByteArray):sgB T' i s=sgB T i s:=by unfold sgB; rw [R.kind,R.text]
theorem RwT.fl{c:Int}{i:Nat}(hc:c≠0)(h:i<T.length):FltR T T' (flt c (tk T i)) (flt c (tk T' i)):=⟨c,_,_,hc,⟨i,h,rfl,rfl⟩,rfl,rfl⟩
theorem RwT.nx{i:Nat}(h:i<T.length)(k:(tk T i).Kind≠4):i+1<T.length:=R.ok.next i h k
theorem RwT.nxs{i:Nat}{s:ByteArray}(h:i<T.length)(k:sgB T i s=true):i+1<T.length:=by
 refine R.nx h ?_
 unfold sgB at k
 simp only [Bool.and_eq_true,beq_iff_eq] at k
 rw [k.1]; decide
theorem RwT.idx{syms:List zan}{k i:Nat}(h:i<T.length):ResR T T' (idxP T syms k i) (idxP T' syms k i):=by
 unfold idxP
 rw [R.kind,R.text]
 by_cases c1:((tk T i).Kind==2)=true
 ·rw [if_pos c1,if_pos c1]
  by_cases c2:(decide ((zcP (tk T i).Text).1<0)||decide ((zcP (tk T i).Text).1≥(rd syms (k:Int)).Size))=true
  ·rw [if_pos c2,if_pos c2]; exact R.fl (by decide) h
  ·rw [if_neg c2,if_neg c2]; exact ⟨rfl,R.nx h (by rw [show (tk T i).Kind=2 by simpa using c1]; decide)⟩
 ·rw [if_neg c1,if_neg c1]
  cases fnd zfj (tk T i).Text with
  | none=>exact R.fl (by decide) h
  | some r =>
   simp only
   by_cases c3:((tk T i).Kind==1)=true
   ·rw [if_pos c3,if_pos c3]; exact ⟨rfl,R.nx h (by rw [show (tk T i).Kind=1 by simpa using c3]; decide)⟩
   ·rw [if_neg c3,if_neg c3]; exact R.fl (by decide) h
theorem RwT.opd{syms:List zan}{i:Nat}(h:i<T.length):ResR T T' (opdP T syms i) (opdP T' syms i):=by
 unfold opdP
 rw [R.kind i,R.text i,R.sg]
 by_cases c1:((tk T i).Kind==2)=true
 ·rw [if_pos c1,if_pos c1]; exact ⟨rfl,R.nx h (by rw [show (tk T i).Kind=2 by simpa using c1]; decide)⟩
 rw [if_neg c1,if_neg c1]
 by_cases c2:((tk T i).Kind != 1)=true
 ·rw [if_pos c2,if_pos c2]; exact R.fl (by decide) h
 rw [if_neg c2,if_neg c2]
 have h1:=R.nx h (by rw [show (tk T i).Kind=1 by simpa using c2]; decide)
 cases fnd zfj (tk T i).Text with
 | some r=>exact ⟨rfl,h1⟩
 | none =>
  simp only
  by_cases c3:ze3 (tk T i).Text=true
  ·rw [if_pos c3,if_pos c3]; exact R.fl (by decide) h
  rw [if_neg c3,if_neg c3]
  cases fnd (ze5 syms) (tk T i).Text with
  | none=>exact R.fl (by decide) h
  | some k =>
   simp only
   by_cases c4:(!sgB T (i+1) ⟨#[91]⟩)=true
   ·rw [if_pos c4,if_pos c4]; exact R.fl (by decide) h1
   rw [if_neg c4,if_neg c4]
   have h2:=R.nxs h1 (by simpa using c4)
   have hx:=R.idx (syms:=syms) (k:=k) h2
   cases q:idxP T syms k (i+2) with
   | inl f=>cases q':idxP T' syms k (i+2) with
    | inl f'=>rw [q,q'] at hx; exact hx
    | inr x'=>rw [q,q'] at hx; exact hx.elim
   | inr x=>cases q':idxP T' syms k (i+2) with
    | inl f'=>rw [q,q'] at hx; exact hx.elim
    | inr x' =>
     rw [q,q'] at hx
     obtain ⟨rfl,hj⟩:=hx
     obtain ⟨o,j⟩:=x'
     simp only
     rw [R.sg]
     by_cases c5:(!sgB T j ⟨#[93]⟩)=true
     ·rw [if_pos c5,if_pos c5]; exact R.fl (by decide) hj
     ·rw [if_neg c5,if_neg c5]; exact ⟨rfl,R.nxs hj (by simpa using c5)⟩
theorem RwT.ops{syms:List zan}{op:Int}{lk:Bool}{i:Nat}(h:i<T.length):ResR T T' (opsP T syms op lk i) (opsP T' syms op lk i):=by
 unfold opsP
 have hx:=R.opd (syms:=syms) h
 cases q:opdP T syms i with
 | inl f=>cases q':opdP T' syms i with
  | inl f'=>rw [q,q'] at hx; exact hx
  | inr x'=>rw [q,q'] at hx; exact hx.elim
 | inr x=>cases q':opdP T' syms i with
  | inl f'=>rw [q,q'] at hx; exact hx.elim
  | inr x' =>
   rw [q,q'] at hx
   obtain ⟨rfl,hj⟩:=hx
   obtain ⟨a,j⟩:=x'
   simp only
   by_cases c1:ziD op lk a=true
   ·rw [if_pos c1,if_pos c1]; exact R.fl (by decide) h
   rw [if_neg c1,if_neg c1,R.sg]
   by_cases c2:(!sgB T j ⟨#[44]⟩)=true
   ·rw [if_pos c2,if_pos c2]; exact R.fl (by decide) hj
   rw [if_neg c2,if_neg c2]
   have h2:=R.nxs hj (by simpa using c2)
   have hy:=R.opd (syms:=syms) h2
   cases p:opdP T syms (j+1) with
   | inl f=>cases p':opdP T' syms (j+1) with
    | inl f'=>rw [p,p'] at hy; exact hy
    | inr x'=>rw [p,p'] at hy; exact hy.elim
   | inr y=>cases p':opdP T' syms (j+1) with
    | inl f'=>rw [p,p'] at hy; exact hy.elim
    | inr y' =>
     rw [p,p'] at hy
     obtain ⟨rfl,hk⟩:=hy
     obtain ⟨b,k⟩:=y'
     simp only
     by_cases c3:(!row0 op lk a b)=true
     ·rw [if_pos c3,if_pos c3]; exact R.fl (by decide) h2
     ·rw [if_neg c3,if_neg c3]; exact ⟨rfl,hk⟩
theorem RwT.nameP(i:Nat)(h:i<T.length):(nameP T i=none/\Go.Vs.nameP T' i=none/\(tk T i).Kind=1)\/∃f f',Go.Vs.nameP T i=some f/\Go.Vs.nameP T' i=some f'/\FltR T T' f f':=by
 unfold Go.Vs.nameP
 rw [R.kind,R.text]
 by_cases c1:((tk T i).Kind != 1)=true
 ·rw [if_pos c1,if_pos c1]; exact .inr ⟨_,_,rfl,rfl,R.fl (by decide) h⟩
 rw [if_neg c1,if_neg c1]
 by_cases c2:ze3 (tk T i).Text=true
 ·rw [if_pos c2,if_pos c2]; exact .inr ⟨_,_,rfl,rfl,R.fl (by decide) h⟩
 ·rw [if_neg c2,if_neg c2]; exact .inl ⟨rfl,rfl,by simpa using c1⟩
theorem RwT.ins1{syms:List zan}{lk:Bool}{j:Nat}(h:j<T.length):InR T T' (zi3 T syms lk j) (zi3 T' syms lk j):=by
 unfold zi3
 rw [R.kind j,R.text j]
 obtain ⟨op,c,ok⟩:=opW (tk T j).Text
 simp only
 by_cases c1:((((tk T j).Kind != 1)||(!ok))||zlV lk op)=true
 ·rw [if_pos c1,if_pos c1]; exact R.fl (by decide) h
 rw [if_neg c1,if_neg c1]
 have hk:(tk T j).Kind=1:=by
  simp only [Bool.or_eq_true,not_or] at c1
  simpa using c1.1.1
 have h1:=R.nx h (by rw [hk]; decide)
 by_cases c2:((op==10)||(op==11))=true
 ·rw [if_pos c2,if_pos c2]
  rcases R.nameP (j+1) h1 with ⟨n1,n2,n3⟩ | ⟨f,f',n1,n2,n3⟩
  ·rw [n1,n2]
   exact ⟨by simp only; rw [R.text],rfl,R.nx h1 (by rw [n3]; decide),fun _=>⟨j+1,h1,rfl,rfl⟩⟩
  ·rw [n1,n2]; exact n3
 rw [if_neg c2,if_neg c2]
 by_cases c3:decide (op<=9)=true
 ·rw [if_pos c3,if_pos c3]
  have hx:=R.ops (syms:=syms) (op:=op) (lk:=lk) h1
  cases q:opsP T syms op lk (j+1) with
  | inl f=>cases q':opsP T' syms op lk (j+1) with
   | inl f'=>rw [q,q'] at hx; exact hx
   | inr x'=>rw [q,q'] at hx; exact hx.elim
  | inr x=>cases q':opsP T' syms op lk (j+1) with
   | inl f'=>rw [q,q'] at hx; exact hx.elim
   | inr x' =>
    rw [q,q'] at hx
    obtain ⟨rfl,hj⟩:=hx
    exact ⟨rfl,rfl,hj,fun e=>absurd rfl e⟩
 ·rw [if_neg c3,if_neg c3]; exact ⟨rfl,rfl,h1,fun e=>absurd rfl e⟩
theorem RwT.ins{syms:List zan}{i:Nat}(h:i<T.length):InR T T' (insP T syms i) (insP T' syms i):=by
 unfold insP
 rw [R.kind,R.text]
 by_cases c1:((tk T i).Kind != 1)=true
 ·rw [if_pos c1,if_pos c1]; exact R.fl (by decide) h
 rw [if_neg c1,if_neg c1]
 by_cases c2:(tk T i).Text=zpp
 ·rw [if_pos c2,if_pos c2]; exact R.ins1 (R.nx h (by rw [show (tk T i).Kind=1 by simpa using c1]; decide))
 ·rw [if_neg c2,if_neg c2]; exact R.ins1 h
theorem RwT.labs:∀(n i:Nat) (al op:List ByteArray),i<T.length->LabR T T' (zeX T n i al op) (zeX T' n i al op)
 | 0,i,al,op,h=>⟨rfl,h⟩
 | n+1,i,al,op,h=>by
  unfold zeX
  rw [R.kind,R.text,R.sg]
  by_cases c1:(((tk T i).Kind==1)&&sgB T (i+1) zky)=true
  ·rw [if_pos c1,if_pos c1]
   simp only [Bool.and_eq_true,beq_iff_eq] at c1
   have h1:=R.nx h (by rw [c1.1]; decide)
   by_cases c2:ze3 (tk T i).Text=true
   ·rw [if_pos c2,if_pos c2]; exact R.fl (by decide) h
   rw [if_neg c2,if_neg c2]
   by_cases c3:has al (tk T i).Text=true
   ·rw [if_pos c3,if_pos c3]; exact R.fl (by decide) h
   rw [if_neg c3,if_neg c3]
   exact RwT.labs n (i+2) _ _ (R.nxs h1 c1.2)
  ·rw [if_neg c1,if_neg c1]; exact ⟨rfl,h⟩
theorem RwT.inits(n:Int):∀(k i:Nat) (l:List Int),i<T.length->LabR T T' (zdI T n k i l) (zdI T' n k i l)
 | 0,i,l,h=>⟨rfl,h⟩
 | k+1,i,l,h=>by
  unfold zdI
  rw [R.kind,R.text]
  by_cases c1:((tk T i).Kind==2)=true
  ·rw [if_pos c1,if_pos c1]
   by_cases c2:((l.length:Int)==n)=true
   ·rw [if_pos c2,if_pos c2]; exact R.fl (by decide) h
   ·rw [if_neg c2,if_neg c2]; exact RwT.inits n k (i+1) _ (R.nx h (by rw [show (tk T i).Kind=2 by simpa using c1]; decide))
  ·rw [if_neg c1,if_neg c1]; exact ⟨rfl,h⟩
end
structure BdR (T T':List zaa) (b b':Bd):Prop where
 all:b'.all=b.all
 open_:b'.open_=b.open_
 ins:b'.ins=b.ins
 head:TkR T T' b.head b'.head
 fl:b.zFi.length=b.ins.length
 fl':b'.zFi.length=b.ins.length
 tl:b.zTg.length=b.ins.length
 tl':b'.zTg.length=b.ins.length
 f:∀k:Nat,k<b.ins.length->TkR T T' (rd b.zFi (k:Int)) (rd b'.zFi (k:Int))
 t:∀(k:Nat) x,b.ins[k]?=some x->x.To≠⟨#[]⟩->TkR T T' (rd b.zTg (k:Int)) (rd b'.zTg (k:Int))
def LsR(T T':List zaa)(l l':List Bd):Prop:=l'.length=l.length/\∀(k:Nat) b b',l[k]?=some b->l'[k]?=some b'->BdR T T' b b'
def OpR(T T':List zaa):Option Bd->Option Bd->Prop
 | none,none=>True
 | some b,some b'=>BdR T T' b b'
 | _,_=>False
structure StR (T T':List zaa) (S S':PSt):Prop where
 at_:S'.at_=S.at_
 syms:S'.syms=S.syms
 done:LsR T T' S.done S'.done
 cur:OpR T T' S.cur S'.cur
def RsR(T T':List zaa)(q q':zai ⊕ PSt):Prop:=match q,q' with
 | .inl f,.inl f'=>FltR T T' f f'
 | .inr S,.inr S'=>StR T T' S S'/\S.at_<T.length
 | _,_=>False
theorem zih{α:Type}[Inhabited α]{l:List α}{a:α}{k:Nat}(h:k<l.length):rd (l++[a]) (k:Int)=rd l (k:Int):=by
 have:(l++[a])[k]?=l[k]?:=List.getElem?_append_left h
 have e1:l[k]?=some l[k]:=List.getElem?_eq_getElem h
 rw [zci (this.trans e1),zci e1]
theorem zii{α:Type}[Inhabited α]{l:List α}{a:α}{k:Nat}(h:k=l.length):rd (l++[a]) (k:Int)=a:=zci (by rw [h]; simp)
theorem LsR.app{T T':List zaa}{l l' m m':List Bd}(h1:LsR T T' l l')(h2:LsR T T' m m'):LsR T T' (l++m) (l'++m'):=by
 refine ⟨by simp [h1.1,h2.1],fun k b b' hb hb'=>?_⟩
 by_cases hk:k<l.length
 ·rw [List.getElem?_append_left hk] at hb
  rw [List.getElem?_append_left (by have:=h1.1; omega)] at hb'
  exact h1.2 k b b' hb hb'
 ·rw [List.getElem?_append_right (by omega)] at hb
  rw [List.getElem?_append_right (by have:=h1.1; omega),h1.1] at hb'
  exact h2.2 _ b b' hb hb'
theorem OpR.list{T T':List zaa}{o o':Option Bd}(h:OpR T T' o o'):LsR T T' o.toList o'.toList:=by
 cases o with
 | none=>cases o' with
  | none=>exact ⟨rfl,fun k b b' hb=>by simp at hb⟩
  | some b'=>exact h.elim
 | some b=>cases o' with
  | none=>exact h.elim
  | some b'=>exact ⟨rfl,fun k c c' hb hb'=>by
    cases k with
    | zero=>simp at hb hb'; subst hb; subst hb'; exact h
    | succ k=>simp at hb⟩
theorem StR.bs{T T':List zaa}{S S':PSt}(h:StR T T' S S'):LsR T T' S.bs S'.bs:=h.done.app h.cur.list
section
variable {T T':List zaa} (R:RwT T T')
include R
theorem RwT.rest{S S':PSt}(h:StR T T' S S')(hi:S.at_<T.length):RsR T T' (ziT T S) (ziT T' S'):=by
 unfold ziT
 have hc:=h.cur
 cases c0:S.cur with
 | none=>cases c0':S'.cur with
  | none=>rw [h.at_]; exact R.fl (by decide) hi
  | some c'=>rw [c0,c0'] at hc; exact hc.elim
 | some c=>cases c0':S'.cur with
  | none=>rw [c0,c0'] at hc; exact hc.elim
  | some c' =>
   rw [c0,c0'] at hc
   have hc:BdR T T' c c':=hc
   simp only
   rw [h.at_,hc.all,hc.open_,R.len]
   have hx:=R.labs T.length S.at_ c.all c.open_ hi
   cases q:zeX T T.length S.at_ c.all c.open_ with
   | inl f=>cases q':zeX T' T.length S.at_ c.all c.open_ with
    | inl f'=>rw [q,q'] at hx; exact hx
    | inr x'=>rw [q,q'] at hx; exact hx.elim
   | inr x=>cases q':zeX T' T.length S.at_ c.all c.open_ with
    | inl f'=>rw [q,q'] at hx; exact hx.elim
    | inr x' =>
     rw [q,q'] at hx
     obtain ⟨rfl,hj⟩:=hx
     obtain ⟨j,al,op⟩:=x'
     simp only at hj ⊢
     rw [R.kind]
     by_cases c1:((tk T j).Kind==4)=true
     ·rw [if_pos c1,if_pos c1]
      exact ⟨⟨rfl,h.syms,h.done,⟨rfl,rfl,hc.ins,hc.head,hc.fl,hc.fl',hc.tl,hc.tl',hc.f,hc.t⟩⟩,hj⟩
     ·rw [if_neg c1,if_neg c1,h.syms]
      have hy:=R.ins (syms:=S.syms) hj
      cases p:insP T S.syms j with
      | inl f=>cases p':insP T' S.syms j with
       | inl f'=>rw [p,p'] at hy; exact hy
       | inr x'=>rw [p,p'] at hy; exact hy.elim
      | inr y=>cases p':insP T' S.syms j with
       | inl f'=>rw [p,p'] at hy; exact hy.elim
       | inr y' =>
        rw [p,p'] at hy
        obtain ⟨⟨y1,t⟩,k⟩:=y
        obtain ⟨⟨y1',t'⟩,k'⟩:=y'
        obtain ⟨e1,e2,e3,e4⟩:=hy
        simp only at e1 e2 e3 e4
        subst e1; subst e2
        refine ⟨⟨rfl,rfl,h.done,⟨rfl,rfl,by simp only; rw [hc.ins],hc.head,by simp [hc.fl],by simp [hc.fl'],by simp [hc.tl],by simp [hc.tl'],?_,?_⟩⟩,e3⟩
        ·intro m hm
         simp only [List.length_append,List.length_singleton] at hm ⊢
         by_cases hlt:m<c.ins.length
         ·rw [zih (by rw [hc.fl]; exact hlt),zih (by rw [hc.fl']; exact hlt)]
          exact hc.f m hlt
         ·rw [zii (by rw [hc.fl]; omega),zii (by rw [hc.fl']; omega)]
          exact ⟨j,hj,rfl,rfl⟩
        ·intro m x hm hx
         simp only at hm ⊢
         by_cases hlt:m<c.ins.length
         ·rw [List.getElem?_append_left hlt] at hm
          rw [zih (by rw [hc.tl]; exact hlt),zih (by rw [hc.tl']; exact hlt)]
          exact hc.t m x hm hx
         ·have hl:=(List.getElem?_eq_some_iff.1 hm).1
          simp only [List.length_append,List.length_singleton] at hl
          rw [List.getElem?_append_right (by omega)] at hm
          have:m-c.ins.length=0:=by omega
          rw [this] at hm
          simp at hm
          rw [zii (by rw [hc.tl]; omega),zii (by rw [hc.tl']; omega)]
          subst hm
          exact e4 hx
theorem RwT.line0{S S':PSt}(h:StR T T' S S')(hi:S.at_<T.length):RsR T T' (zdF T S) (zdF T' S'):=by
 have hb:=h.bs
 unfold zdF
 rw [h.at_,R.kind,R.text]
 by_cases c1:((tk T S.at_).Kind==4)=true
 ·rw [if_pos c1,if_pos c1]; exact ⟨h,hi⟩
 rw [if_neg c1,if_neg c1]
 by_cases c2:(((tk T S.at_).Kind==1)&&decide ((tk T S.at_).Text=symW))=true
 ·rw [if_pos c2,if_pos c2]
  simp only [Bool.and_eq_true,beq_iff_eq] at c2
  have h1:=R.nx hi (by rw [c2.1]; decide)
  unfold symP
  rw [h.at_,hb.1,h.syms]
  by_cases d1:S.bs.length>0
  ·rw [if_pos d1,if_pos d1]; exact R.fl (by decide) hi
  rw [if_neg d1,if_neg d1]
  by_cases d2:S.syms.length≥64
  ·rw [if_pos d2,if_pos d2]; exact R.fl (by decide) hi
  rw [if_neg d2,if_neg d2]
  rcases R.nameP (S.at_+1) h1 with ⟨n1,n2,n3⟩ | ⟨f,f',n1,n2,n3⟩
  ·rw [n1,n2]
   simp only
   rw [R.text,R.kind,R.text]
   have h2:=R.nx h1 (by rw [n3]; decide)
   cases fnd (ze5 S.syms) (tk T (S.at_+1)).Text with
   | some k=>exact R.fl (by decide) h1
   | none =>
    simp only
    by_cases d3:((tk T (S.at_+2)).Kind != 2)=true
    ·rw [if_pos d3,if_pos d3]; exact R.fl (by decide) h2
    rw [if_neg d3,if_neg d3]
    by_cases d4:(decide ((zcP (tk T (S.at_+2)).Text).1<1)||decide ((zcP (tk T (S.at_+2)).Text).1>64))=true
    ·rw [if_pos d4,if_pos d4]; exact R.fl (by decide) h2
    rw [if_neg d4,if_neg d4,R.len]
    have h3:=R.nx h2 (by rw [show (tk T (S.at_+2)).Kind=2 by simpa using d3]; decide)
    have hx:=R.inits (zcP (tk T (S.at_+2)).Text).1 T.length (S.at_+3) [] h3
    cases q:zdI T (zcP (tk T (S.at_+2)).Text).1 T.length (S.at_+3) [] with
    | inl f=>cases q':zdI T' (zcP (tk T (S.at_+2)).Text).1 T.length (S.at_+3) [] with
     | inl f'=>rw [q,q'] at hx; exact hx
     | inr x'=>rw [q,q'] at hx; exact hx.elim
    | inr x=>cases q':zdI T' (zcP (tk T (S.at_+2)).Text).1 T.length (S.at_+3) [] with
     | inl f'=>rw [q,q'] at hx; exact hx.elim
     | inr x' =>
      rw [q,q'] at hx
      obtain ⟨rfl,hj⟩:=hx
      exact ⟨⟨rfl,rfl,h.done,h.cur⟩,hj⟩
  ·rw [n1,n2]; exact n3
 rw [if_neg c2,if_neg c2]
 by_cases c3:(((tk T S.at_).Kind==1)&&decide ((tk T S.at_).Text=thrW))=true
 ·rw [if_pos c3,if_pos c3]
  simp only [Bool.and_eq_true,beq_iff_eq] at c3
  unfold thrP
  rw [h.at_,hb.1]
  by_cases d1:S.bs.length≥64
  ·rw [if_pos d1,if_pos d1]; exact R.fl (by decide) hi
  ·rw [if_neg d1,if_neg d1]
   exact ⟨⟨rfl,h.syms,hb,⟨rfl,rfl,rfl,⟨_,hi,rfl,rfl⟩,rfl,rfl,rfl,rfl,fun k hk=>by simp at hk,fun k x hx=>by simp at hx⟩⟩,R.nx hi (by rw [c3.1]; decide)⟩
 rw [if_neg c3,if_neg c3]
 exact R.rest h hi
theorem RwT.lines:∀(n:Nat) (S S':PSt),StR T T' S S'->(match zcK T n S,zcK T' n S' with | .inl f,.inl f'=>FltR T T' f f' | .inr S,.inr S'=>StR T T' S S' | _,_=>False)
 | 0,S,S',h=>h
 | n+1,S,S',h=>by
  unfold zcK
  rw [h.at_,R.len]
  by_cases hi:S.at_<T.length
  ·rw [if_pos hi,if_pos hi]
   have hx:=R.line0 h hi
   unfold zfW
   cases q:zdF T S with
   | inl f=>cases q':zdF T' S' with
    | inl f'=>rw [q,q'] at hx; exact hx
    | inr x'=>rw [q,q'] at hx; exact hx.elim
   | inr S1=>cases q':zdF T' S' with
    | inl f'=>rw [q,q'] at hx; exact hx.elim
    | inr S1' =>
     rw [q,q'] at hx
     obtain ⟨hs,hlt⟩:=hx
     unfold zg6
     simp only
     rw [hs.at_,R.kind]
     by_cases c1:((tk T S1.at_).Kind != 4)=true
     ·rw [if_pos c1,if_pos c1]; exact R.fl (by decide) hlt
     ·rw [if_neg c1,if_neg c1]
      exact RwT.lines n _ _ ⟨rfl,hs.syms,hs.done,hs.cur⟩
  ·rw [if_neg hi,if_neg hi]; exact h
theorem RwT.whole{b b':Bd}(h:BdR T T' b b'):(zfC b=none/\zfC b'=none)\/∃f f',zfC b=some f/\zfC b'=some f'/\FltR T T' f f':=by
 unfold zfC
 rw [h.ins,h.open_,h.all]
 obtain ⟨i0,hd1,hd2,hd3⟩:=h.head
 by_cases c1:((((b.ins.length:Int)==0)||decide ((b.open_.length:Int)>0))||((zh6 b.ins != 10)&&(zh6 b.ins != 14)))=true
 ·rw [if_pos c1,if_pos c1]; exact .inr ⟨_,_,rfl,rfl,9,_,_,by decide,h.head,rfl,rfl⟩
 rw [if_neg c1,if_neg c1]
 have cnt:∀(l:List zad) (i:Nat) (a:Int),i+l.length<=b.ins.length->(zaM (cntF b.zFi) (fun _=>none) i a l=none/\zaM (cntF b'.zFi) (fun _=>none) i a l=none)\/∃f f',zaM (cntF b.zFi) (fun _=>none) i a l=some f/\zaM (cntF b'.zFi) (fun _=>none) i a l=some f'/\FltR T T' f f':=by
  intro l
  induction l with
  | nil=>intro i a _; exact .inl ⟨rfl,rfl⟩
  | cons x l ih =>
   intro i a hl
   simp only [List.length_cons] at hl
   unfold zaM cntF
   by_cases c:(x.Op==12)=true
   ·rw [if_pos c,if_pos c]; exact ih (i+1) a (by omega)
   rw [if_neg c,if_neg c]
   by_cases c2:(a==4096)=true
   ·rw [if_pos c2,if_pos c2]; exact .inr ⟨_,_,rfl,rfl,10,_,_,by decide,h.f i (by omega),rfl,rfl⟩
   ·rw [if_neg c2,if_neg c2]; exact ih (i+1) _ (by omega)
 rcases cnt b.ins 0 0 (by omega) with ⟨e1,e2⟩ | ⟨f,f',e1,e2,e3⟩
 ·rw [e1,e2]
  simp only
  have tos:∀(l:List zad) (i:Nat),(∀k x,l[k]?=some x->b.ins[i+k]?=some x)->(zaM (toF b.all b.zTg) (fun _=>none) i () l=none/\zaM (toF b.all b'.zTg) (fun _=>none) i () l=none)\/∃f f',zaM (toF b.all b.zTg) (fun _=>none) i () l=some f/\zaM (toF b.all b'.zTg) (fun _=>none) i () l=some f'/\FltR T T' f f':=by
   intro l
   induction l with
   | nil=>intro i _; exact .inl ⟨rfl,rfl⟩
   | cons x l ih =>
    intro i hl
    unfold zaM toF
    by_cases c:((!decide (x.To=(⟨#[]⟩:ByteArray)))&&(!has b.all x.To))=true
    ·rw [if_pos c,if_pos c]
     simp only [Bool.and_eq_true,Bool.not_eq_true',decide_eq_false_iff_not] at c
     exact .inr ⟨_,_,rfl,rfl,7,_,_,by decide,h.t i x (by simpa using hl 0 x rfl) c.1,rfl,rfl⟩
    ·rw [if_neg c,if_neg c]
     exact ih (i+1) fun k y hy=>by have:=hl (k+1) y (by simpa using hy); rw [← this]; congr 1; omega
  exact tos b.ins 0 fun k x hx=>by simpa using hx
 ·rw [e1,e2]; exact .inr ⟨f,f',rfl,rfl,e3⟩
theorem RwT.wholes:∀(l l':List Bd) (i:Nat),LsR T T' l l'->(zaM zfD (fun _=>none) i () l=none/\zaM zfD (fun _=>none) i () l'=none/\l'.map toTh=l.map toTh)\/∃f f',zaM zfD (fun _=>none) i () l=some f/\zaM zfD (fun _=>none) i () l'=some f'/\FltR T T' f f'
 | [],[],i,h=>.inl ⟨rfl,rfl,rfl⟩
 | [],_::_,i,h=>by have:=h.1; simp at this
 | _::_,[],i,h=>by have:=h.1; simp at this
 | b::l,b'::l',i,h=>by
  have hb:=h.2 0 b b' rfl rfl
  unfold zaM zfD
  rcases R.whole hb with ⟨e1,e2⟩ | ⟨f,f',e1,e2,e3⟩
  ·rw [e1,e2]
   rcases RwT.wholes l l' (i+1) ⟨by simpa using h.1,fun k c c' hc hc'=>h.2 (k+1) c c' (by simpa using hc) (by simpa using hc')⟩ with ⟨q1,q2,q3⟩ | q
   ·refine .inl ⟨q1,q2,?_⟩
    rw [List.map_cons,List.map_cons,q3]
    congr 1
    unfold toTh; rw [hb.ins]
   ·exact .inr q
  ·rw [e1,e2]; exact .inr ⟨f,f',rfl,rfl,e3⟩
theorem RwT.parse:(zf8 T).1=(zf8 T').1/\(((zf8 T).2=⟨0,0,0⟩/\(zf8 T').2=⟨0,0,0⟩)\/(FltR T T' (zf8 T).2 (zf8 T').2/\(zf8 T).1=nilP)):=by
 have h:=R.lines T.length St0 St0 ⟨rfl,rfl,⟨rfl,fun k b b' hb=>by simp [St0] at hb⟩,trivial⟩
 unfold zf8
 rw [R.len]
 cases q:zcK T T.length St0 with
 | inl f=>cases q':zcK T' T.length St0 with
  | inl f'=>rw [q,q'] at h; exact ⟨rfl,.inr ⟨h,rfl⟩⟩
  | inr x'=>rw [q,q'] at h; exact h.elim
 | inr S=>cases q':zcK T' T.length St0 with
  | inl f'=>rw [q,q'] at h; exact h.elim
  | inr S' =>
   rw [q,q'] at h
   have h:StR T T' S S':=h
   simp only
   unfold zfP
   rcases R.wholes S.bs S'.bs 0 h.bs with ⟨e1,e2,e3⟩ | ⟨f,f',e1,e2,e3⟩
   ·rw [e1,e2]
    simp only
    rw [h.syms,e3]
    exact ⟨rfl,.inl ⟨trivial,trivial⟩⟩
   ·rw [e1,e2]; exact ⟨rfl,.inr ⟨e3,rfl⟩⟩
end
end Go.Vs
end
section
namespace Go.Vs
local instance tabPalV2:Tab:=⟨fun _=>none⟩
theorem zmx{v:List zal}:∀(n:Nat) (i:Int) {q},remC v n i=.inr q->q.1=[]
 | 0,i,q,h=>by simp [remC] at h
 | n+1,i,q,h=>by
  unfold remC at h
  split at h
  ·exact zmx n _ h
  ·rename_i r hr
   unfold zeG at hr
   repeat' split at hr
   all_goals first | (cases hr; done) | (injection hr with hr; subst hr; cases h; rfl) | (injection hr with hr; subst hr; cases h)
theorem zk7(s:ByteArray):∀(f pos:Nat) (line col:Int),1<=line->1<=col->∀y∈zbF s f pos line col,1<=y.Line/\1<=y.Col
 | 0,pos,line,col,h1,h2,y,h=>by simp [zbF] at h
 | f+1,pos,line,col,h1,h2,y,h=>by
  rw [zbF] at h
  split at h
  ·rcases List.mem_cons.1 h with rfl | h
   ·exact ⟨h1,h2⟩
   ·exact zk7 s f _ _ _ (by split <;> omega) (by split <;> omega) y h
  ·simp at h
def PosV(v:List zal):Prop:=∀i,InB i v.length->1<=(rd v i).Line/\1<=(rd v i).Col
theorem posV(s:ByteArray):PosV (zaX s):=fun i h=>zk7 s _ _ _ _ (by decide) (by decide) _ (List.mem_of_getElem? (zhT h))
def PT(t:zaa):Prop:=1<=t.Line/\1<=t.Col
def PF(f:zai):Prop:=1<=f.Line/\1<=f.Col
theorem zo7(v:List zal)(s:ByteArray)(i:Int)(l:List zaa)(k kind:Int):(∃c,c≠0/\tail v s i l k kind=.inr (.inr ([],⟨c,(rd v i).Line,(rd v i).Col⟩)))\/∃x,tail v s i l k kind=.inl (k,l++[⟨kind,(rd v i).Line,(rd v i).Col,x⟩]):=by
 unfold tail
 dsimp only
 split
 ·exact .inl ⟨3,by decide,rfl⟩
 split
 ·exact .inl ⟨2,by decide,rfl⟩
 ·exact .inr ⟨_,rfl⟩
theorem zp4(v:List zal):∀(n:Nat) (i:Int),i<=runC v n i
 | 0,i=>Int.le_refl _
 | n+1,i=>by
  rw [runC]
  split
  ·have:=zp4 v n (i+1); omega
  ·exact Int.le_refl _
theorem zqg(v:List zal):∀(n:Nat) (i k:Int),remC v n i=.inl k->i<=k
 | 0,i,k,h=>by simp only [remC,Sum.inl.injEq] at h; omega
 | n+1,i,k,h=>by
  rw [remC] at h
  unfold zeG at h
  split at h
  ·rename_i j hj
   split at hj
   ·split at hj
    ·cases hj
    ·cases hj; have:=zqg v n _ _ h; omega
   ·cases hj
  ·rename_i r hj
   split at hj
   ·split at hj
    ·cases hj; cases h
    ·cases hj
   ·cases hj; cases h; exact Int.le_refl _
theorem zns(v:List zal)(s:ByteArray)(i:Int)(l:List zaa):(∃c,c≠0/\zeC v s i l=.inr (.inr ([],⟨c,(rd v i).Line,(rd v i).Col⟩)))\/(∃k,i<k/\zeC v s i l=.inl (k,l))\/(∃k kind x,i<k/\zeC v s i l=.inl (k,l++[⟨kind,(rd v i).Line,(rd v i).Col,x⟩]))\/∃q,remC v v.length (i+1)=.inr q/\zeC v s i l=.inr (.inr q):=by
 have tl:∀k kind,i<k->(∃c,c≠0/\tail v s i l k kind=.inr (.inr ([],⟨c,(rd v i).Line,(rd v i).Col⟩)))\/(∃k',i<k'/\tail v s i l k kind=.inl (k',l))\/(∃k' kind' x,i<k'/\tail v s i l k kind=.inl (k',l++[⟨kind',(rd v i).Line,(rd v i).Col,x⟩]))\/∃q,remC v v.length (i+1)=.inr q/\tail v s i l k kind=.inr (.inr q):=by
  intro k kind hk
  rcases zo7 v s i l k kind with h | ⟨x,h⟩
  ·exact .inl h
  ·exact .inr (.inr (.inl ⟨k,kind,x,hk,h⟩))
 have hr:=zp4 v v.length (i+1)
 unfold zeC
 by_cases c1:(rd v i).Bad=true
 ·rw [if_pos c1]; exact .inl ⟨1,by decide,rfl⟩
 rw [if_neg c1]
 by_cases c2:zeB (rd v i).Rune=true
 ·rw [if_pos c2]; exact .inr (.inl ⟨_,by omega,rfl⟩)
 rw [if_neg c2]
 by_cases c3:(rd v i).Rune=59
 ·rw [if_pos c3]
  cases hm:remC v v.length (i+1) with
  | inl k=>have:=zqg v _ _ _ hm; exact .inr (.inl ⟨k,by omega,rfl⟩)
  | inr q=>exact .inr (.inr (.inr ⟨q,rfl,rfl⟩))
 rw [if_neg c3]
 by_cases c4:(rd v i).Rune=10
 ·rw [if_pos c4]; exact tl _ _ (by omega)
 rw [if_neg c4]
 by_cases c5:zhw (rd v i).Rune=true
 ·rw [if_pos c5]; exact tl _ _ (by omega)
 rw [if_neg c5]
 by_cases c6:zbD (rd v i).Rune=true
 ·rw [if_pos c6]; exact tl _ _ (by omega)
 rw [if_neg c6]
 by_cases c7:(zdK (rd v i).Rune||((rd v i).Rune==45))=true
 ·rw [if_pos c7]; exact tl _ _ (by omega)
 ·rw [if_neg c7]; exact .inl ⟨1,by decide,rfl⟩
theorem zon{v:List zal}(hv:PosV v):∀(n:Nat) (i:Int),0<=i->∀q,remC v n i=.inr q->PF q.2
 | 0,i,h0,q,h=>by simp [remC] at h
 | n+1,i,h0,q,h=>by
  unfold remC at h
  split at h
  ·rename_i j hj
   unfold zeG at hj
   split at hj
   ·split at hj
    ·cases hj
    ·cases hj; exact zon hv n _ (by omega) q h
   ·cases hj
  ·rename_i r hr
   unfold zeG at hr
   split at hr
   ·rename_i hc
    simp only [Bool.and_eq_true,decide_eq_true_eq] at hc
    split at hr
    ·cases hr; cases h; exact hv i ⟨h0,by omega⟩
    ·cases hr
   ·cases hr; cases h
theorem zlH{v:List zal}{s:ByteArray}(hv:PosV v):∀(n:Nat) (i:Int) (l:List zaa),0<=i->(∀t∈l,PT t)->(∀L,tokC v s n i l=.inl L->∀t∈L,PT t)/\∀q,tokC v s n i l=.inr q->PF q.2/\q.1=[]
 | 0,i,l,h0,hl=>⟨fun L h=>by simp only [tokC,Sum.inl.injEq] at h; subst h; exact hl,fun q h=>by simp [tokC] at h⟩
 | n+1,i,l,h0,hl=>by
  rw [tokC]
  by_cases hi:i<v.length
  ·rw [if_pos hi]
   have hp:=hv i ⟨h0,by omega⟩
   rcases zns v s i l with ⟨c,_,h⟩ | ⟨k,hk,h⟩ | ⟨k,kind,x,hk,h⟩ | ⟨q,hq,h⟩
   ·rw [h]; exact ⟨fun L h=>(by cases h),fun q h=>by cases h; exact ⟨hp,rfl⟩⟩
   ·rw [h]; exact zlH hv n k l (by omega) hl
   ·rw [h]
    refine zlH hv n k _ (by omega) fun t ht=>?_
    rcases List.mem_append.1 ht with ht | ht
    ·exact hl t ht
    ·rw [List.mem_singleton.1 ht]; exact hp
   ·rw [h]; exact ⟨fun L h=>(by cases h),fun q' h=>by cases h; exact ⟨zon hv _ _ (by omega) _ hq,zmx _ _ hq⟩⟩
  ·rw [if_neg hi]
   exact ⟨fun L h=>by cases h; exact hl,fun q h=>by cases h⟩
theorem zrc{v:List zal}(hv:PosV v):1<=(zi7 v).1/\1<=(zi7 v).2:=by
 unfold zi7
 cases hl:v.getLast? with
 | none=>exact ⟨by decide,by decide⟩
 | some x =>
  have hm:x∈v:=List.mem_of_getLast? hl
  obtain ⟨k,hk⟩:=List.getElem?_of_mem hm
  have hb:InB (k:Int) v.length:=⟨by omega,by simpa using (List.getElem?_eq_some_iff.1 hk).1⟩
  have:=hv k hb
  rw [zci hk] at this
  simp only
  split
  ·exact ⟨by simp only; omega,Int.le_refl _⟩
  ·exact ⟨this.1,by simp only; omega⟩
theorem zo5(s:ByteArray):(∀t∈(zaS s).1,PT t)/\((zaS s).2.Code≠0->PF (zaS s).2):=by
 have hv:=posV s
 obtain ⟨h1,h2⟩:=zlH (s:=s) hv (zaX s).length 0 [] (by omega) (fun t h=>by cases h)
 unfold zaS
 cases hx:tokC (zaX s) s (zaX s).length 0 [] with
 | inl l =>
  refine ⟨fun t ht=>?_,fun h=>absurd rfl h⟩
  rcases List.mem_append.1 ht with ht | ht
  ·exact h1 l hx t ht
  ·rw [List.mem_singleton.1 ht]; exact zrc hv
 | inr q=>exact ⟨fun t ht=>(by rw [(h2 q hx).2] at ht; cases ht),fun _=>(h2 q hx).1⟩
end Go.Vs
end
section
namespace Go.Vs
local instance tabPalV3:Tab:=⟨fun _=>none⟩
theorem zof:∀(l:List zan) (i:Nat) (L:List ByteArray),zk1 L l->zaM symF (fun _=>(.inl ():Unit ⊕ Int)) i L l=.inl ()
 | [],i,L,g=>rfl
 | s::l,i,L,g=>by
  obtain ⟨g1,g2,g3,g4,g5,g6⟩:=g
  have:symF i L s=.inl (L++[s.Name]):=by
   unfold symF
   rw [g1,g2,if_neg (by decide),if_neg (by decide),if_neg (by simp; omega)]
  unfold zaM
  rw [this]
  exact zof l (i+1) _ g6
theorem zoD:∀(l:List ByteArray) (i:Nat) (L:List ByteArray),zja L l->zaM labF (.inl:List ByteArray->List ByteArray ⊕ Int) i L l=.inl (L++l)
 | [],i,L,g=>by simp [zaM]
 | s::l,i,L,g=>by
  obtain ⟨g1,g2,g3⟩:=g
  have:labF i L s=.inl (L++[s]):=by
   unfold labF
   rw [g1,g2,if_neg (by decide),if_neg (by decide)]
  unfold zaM
  rw [this]
  simp only
  rw [zoD l (i+1) _ g3]; simp
theorem zoH(p:zaf):∀(l:List zad) (i:Nat) (L:List ByteArray),ziN p L l->zaM (insF p) (Sum.inl:List ByteArray->List ByteArray ⊕ Int) i L l=.inl (L++l.flatMap (·.zLb))
 | [],i,L,g=>by simp [zaM]
 | x::l,i,L,g=>by
  obtain ⟨g1,g2,g3,g4,g5⟩:=g
  have:insF p i L x=.inl (L++x.zLb):=by
   unfold insF znO
   rw [zoD _ _ _ g1]
   simp only
   rw [g2,g3,g4]; rfl
  unfold zaM
  rw [this]
  simp only
  rw [zoH p l (i+1) _ g5]; simp
theorem zuI{p:zaf}{t:zae}(g:ThG p t):zfd p t=0:=by
 unfold zfd
 rw [if_neg (by have:=g.n; simp; omega),zoH p _ _ _ g.ins]
 simp only [List.nil_append]
 have h1:(((t.Ins.length:Int)==0)||((zfM t != 10)&&(zfM t != 14)))=false:=by
  have:((t.Ins.length:Int)==0)=false:=by
   have:=g.ne
   cases hl:t.Ins with
   | nil=>exact absurd hl this
   | cons a b=>simp; omega
  rw [this]
  rcases g.last with e | e <;> rw [e] <;> rfl
 rw [if_neg (by rw [h1]; decide)]
 have key:∀(l:List zad) (i:Nat),(∀x∈l,zdP x=true->has (t.Ins.flatMap (·.zLb)) x.To=true)->zaM (zki (t.Ins.flatMap (·.zLb))) Sum.inl i () l=.inl ():=by
  intro l
  induction l with
  | nil=>intro i _; rfl
  | cons x l ih =>
   intro i h
   have:zki (t.Ins.flatMap (·.zLb)) i () x=.inl ():=by
    unfold zki
    cases hj:zdP x with
    | false=>rfl
    | true=>rw [h x (by simp) hj]; rfl
   unfold zaM
   rw [this]
   exact ih _ fun y hy=>h y (by simp [hy])
 rw [key _ _ g.to]
theorem zrh{p:zaf}(g:ChkG p):zgJ p=0:=by
 unfold zgJ
 rw [if_neg (by have:=g.ns; have:=g.nt; simp; omega),zof _ _ _ g.syms]
 simp only
 have key:∀(l:List zae) (i:Nat),(∀t∈l,ThG p t)->zaM (thF p) Sum.inl i () l=.inl ():=by
  intro l
  induction l with
  | nil=>intro i _; rfl
  | cons t l ih =>
   intro i h
   have:thF p i () t=.inl ():=by
    unfold thF
    rw [zuI (h t (by simp))]; rfl
   unfold zaM
   rw [this]
   exact ih _ fun y hy=>h y (by simp [hy])
 rw [key _ _ g.th]
theorem zo1{s:ByteArray}{l:List Rn}(h:Wd 1 s l)(hw:ze3 s=false):zbp s=true:=by
 obtain ⟨x,w,e,t0,t1,t2,t3⟩:=h.tk
 have hsp:=zuO l h.dec
 rw [h.eq] at hsp
 have ht:zbD x.r=true/\w.length<=15/\∀y∈w,y.word=true:=by
  rcases t3 with ⟨q,_⟩ | ⟨q,_⟩ | ⟨_,_,_,q1,q2,q3⟩ | ⟨q,_⟩
  ·exact absurd q (by decide)
  ·exact absurd q (by decide)
  ·exact ⟨q1,q2,q3⟩
  ·exact absurd q (by decide)
 obtain ⟨f1,f2,f3⟩:=ht
 have hlen:(zaX s).length=w.length+1:=by rw [hsp.len,e]; simp
 have hall:∀(j:Nat) (y:zal),(zaX s)[j]?=some y->∃z,l[j]?=some z/\y.Rune=z.r/\y.Bad=z.bad:=by
  intro j y hy
  have hj:j<l.length:=by rw [← hsp.len]; exact (List.getElem?_eq_some_iff.1 hy).1
  have hz:l[j]?=some l[j]:=List.getElem?_eq_getElem hj
  obtain ⟨a,b,_⟩:=hsp.at_ j _ hz
  rw [zci hy] at a b
  exact ⟨_,hz,a,b⟩
 unfold zbp
 rw [hw,hlen]
 have hok:ze2 0 (zaX s)=true:=by
  have rest:∀(m:List zal) (i:Nat),(∀y∈m,y.Bad=false/\(zbD y.Rune||zdK y.Rune)=true)->ze2 (i+1) m=true:=by
   intro m
   induction m with
   | nil=>intro i _; rfl
   | cons y m ih =>
    intro i hm
    obtain ⟨b1,b2⟩:=hm y (by simp)
    unfold ze2
    rw [ih _ fun z hz=>hm z (by simp [hz])]
    unfold badN
    rw [b1]
    have e1:letB y.Rune=zbD y.Rune:=rfl
    have e2:digB y.Rune=zdK y.Rune:=rfl
    rw [e1,e2]
    cases h1:zbD y.Rune <;> cases h2:zdK y.Rune <;> simp_all
  cases hs:zaX s with
  | nil=>rw [hs] at hlen; simp at hlen
  | cons y m =>
   obtain ⟨z,z1,z2,z3⟩:=hall 0 y (by rw [hs]; rfl)
   rw [e] at z1
   simp at z1; subst z1
   unfold ze2
   rw [rest m 0 fun q hq=>?_]
   ·unfold badN
    have e1:letB y.Rune=zbD y.Rune:=rfl
    rw [z3,t0,e1,z2,f1]; rfl
   ·obtain ⟨k,hk⟩:=List.getElem?_of_mem hq
    obtain ⟨u,u1,u2,u3⟩:=hall (k+1) q (by rw [hs]; simpa using hk)
    rw [e] at u1
    simp at u1
    have:=f3 u (List.mem_of_getElem? u1)
    unfold Rn.word at this
    simp only [Bool.and_eq_true,Bool.not_eq_true'] at this
    rw [u2,u3]
    exact this
 rw [hok]
 simp; omega
end Go.Vs
end
section
namespace Go.Vs
local instance tabPalV4:Tab:=⟨fun _=>none⟩
theorem zig(s:ByteArray):I64 (zcP s).1:=by
 have h0:I64 0:=by unfold I64; decide
 cases h:(zcP s).2 with
 | false =>
  by_cases hx:∃v,Lib.parseIntB 64 s.data.toList=.ok v
  ·obtain ⟨v,hv⟩:=hx
   have:=zjH hv
   rw [this] at h ⊢
   split at h
   ·cases h
   ·rename_i hn; rw [if_neg hn]; exact h0
  ·have:=zjI fun v hv=>hx ⟨v,hv⟩
   rw [this]; exact h0
 | true =>
  by_cases hx:∃v,Lib.parseIntB 64 s.data.toList=.ok v
  ·obtain ⟨v,hv⟩:=hx
   have:=zjH hv
   rw [this] at h ⊢
   split at h
   ·rename_i he
    rw [if_pos he]
    have hb:=Lib.parseIntB_bounds hv
    have e63:(2:Nat) ^ (64-1)=9223372036854775808:=by decide
    rw [e63] at hb
    show I64 v
    unfold I64; omega
   ·cases h
  ·have:=zjI fun v hv=>hx ⟨v,hv⟩
   rw [this]; exact h0
def KW(T:List zaa):Prop:=∀i:Nat,(tk T i).Kind=1->ze3 (tk T i).Text=false->zbp (tk T i).Text=true
theorem Lx.tks{T A}(h:Lx T A):∀a∈A,(∃x w,a.2=x::w/\Tk a.1 x w)/\∀y∈a.2,y∈T:=by
 induction h with
 | nil=>intro a ha; cases ha
 | blank h1 h2 h ih=>exact fun a ha=>⟨(ih a ha).1,fun y hy=>List.mem_cons_of_mem _ ((ih a ha).2 y hy)⟩
 | rem h1 h2 h3 h4 h ih=>exact fun a ha=>⟨(ih a ha).1,fun y hy=>List.mem_cons_of_mem _ (List.mem_append_right _ ((ih a ha).2 y hy))⟩
 | @tok kind x w r A ht he h ih =>
  intro a ha
  rcases List.mem_cons.1 ha with rfl | ha
  ·refine ⟨⟨x,w,rfl,ht⟩,fun y hy=>?_⟩
   rcases List.mem_cons.1 hy with rfl | hy
   ·exact List.mem_cons_self ..
   ·exact List.mem_cons_of_mem _ (List.mem_append_left _ hy)
  ·exact ⟨(ih a ha).1,fun y hy=>List.mem_cons_of_mem _ (List.mem_append_right _ ((ih a ha).2 y hy))⟩
theorem zqP{s:ByteArray}(hs:Sm s)(hc:(zaS s).2.Code=0):KW (zaS s).1:=by
 obtain ⟨A,L,e,h1,h2,h3,h4,h5,_⟩:=zmg hs hc
 intro i hk hw
 by_cases hi:i<(zaS s).1.length
 ·have hm:tk (zaS s).1 i∈(zaS s).1:=List.mem_of_getElem? (zhT (zbV hi))
  rw [h1] at hm
  rcases List.mem_append.1 hm with hm | hm
  ·have hq:kt (tk (zaS s).1 i)∈A.map ka:=by
    rw [← h4,h1]; exact List.mem_map.2 ⟨_,hm,rfl⟩
   obtain ⟨a,ha,e1⟩:=List.mem_map.1 hq
   obtain ⟨⟨x,w,e2,ht⟩,hmem⟩:=h3.tks a ha
   have ek:a.1=1:=(congrArg Prod.fst e1).trans hk
   have et:bs (flat a.2)=(tk (zaS s).1 i).Text:=congrArg Prod.snd e1
   rw [ek] at ht
   exact zo1 ⟨⟨x,w,e2,ht⟩,fun y hy=>h5 y (hmem y hy),et⟩ hw
  ·have:tk (zaS s).1 i=e:=by rw [h1]; exact List.mem_singleton.1 hm
   rw [this] at hk
   have:e.Kind=4:=congrArg Prod.fst h2
   rw [this] at hk; exact absurd hk (by decide)
 ·have:tk (zaS s).1 i=default:=by
   show rd _ _=_
   unfold rd
   rw [List.getD_eq_getElem?_getD,List.getElem?_eq_none (by simp; omega)]; rfl
  rw [this] at hk; exact absurd hk (by decide)
theorem zkp{l:List ByteArray}{s:ByteArray}{k:Nat}(h:fnd l s=some k):k<l.length/\l[k]?=some s:=by
 unfold fnd at h
 rw [List.findIdx?_eq_some_iff_getElem] at h
 obtain ⟨h1,h2,_⟩:=h
 refine ⟨h1,?_⟩
 rw [List.getElem?_eq_getElem h1]
 simp only [decide_eq_true_eq] at h2
 rw [h2]
structure OpdG (p:zaf) (o:zak):Prop where
 b:opdB o=true
 pl:zcD p o=0
 n:I64 o.N
section
variable {T:List zaa} {syms:List zan} {th:List zae}
theorem zvn{k i:Nat}{o:zak}{j:Nat}(hk:k<syms.length)(h:idxP T syms k i=.inr (o,j)):OpdG ⟨syms,th⟩ o:=by
 unfold idxP at h
 split at h
 ·split at h
  ·cases h
  ·rename_i hn
   simp only [Bool.or_eq_true,decide_eq_true_eq,not_or,Int.not_lt,Int.not_gt_eq] at hn
   cases h
   refine ⟨?_,?_,zig _⟩
   ·unfold opdB; simp; omega
   ·unfold zcD memB
    simp only [beq_self_eq_true,Bool.true_or,Bool.not_true,Bool.false_eq_true,if_false,Bool.true_and]
    rw [if_neg (by simp; omega),if_neg (by simp; omega)]
 ·split at h
  ·rename_i r hr
   split at h
   ·cases h
    obtain ⟨h1,_⟩:=zkp hr
    have h8:r<8:=h1
    refine ⟨?_,?_,by show I64 0; unfold I64; decide⟩
    ·unfold opdB; simp; omega
    ·unfold zcD memB
     simp only [beq_self_eq_true,Bool.or_true,Bool.not_true,Bool.false_eq_true,if_false]
     rw [if_neg (by simp; omega)]; rfl
   ·cases h
  ·cases h
theorem zsJ{i:Nat}{o:zak}{j:Nat}(h:opdP T syms i=.inr (o,j)):OpdG ⟨syms,th⟩ o:=by
 unfold opdP at h
 split at h
 ·cases h
  exact ⟨by unfold opdB; rfl,rfl,zig _⟩
 split at h
 ·cases h
 split at h
 ·rename_i r hr
  cases h
  obtain ⟨h1,_⟩:=zkp hr
  have h8:r<8:=h1
  exact ⟨by unfold opdB; simp; omega,rfl,by show I64 0; unfold I64; decide⟩
 split at h
 ·cases h
 split at h
 ·cases h
 rename_i k hk
 obtain ⟨h1,_⟩:=zkp hk
 split at h
 ·cases h
 split at h
 ·cases h
 ·rename_i o' j' hx
  split at h
  ·cases h
  ·cases h; exact zvn (by unfold ze5 at h1; simpa using h1) hx
theorem zuX{op:Int}{lk:Bool}{i:Nat}{a b:zak}{j:Nat}(h:opsP T syms op lk i=.inr ((a,b),j)):OpdG ⟨syms,th⟩ a/\OpdG ⟨syms,th⟩ b/\row0 op lk a b=true:=by
 unfold opsP at h
 split at h
 ·cases h
 ·rename_i a' j' ha
  split at h
  ·cases h
  split at h
  ·cases h
  split at h
  ·cases h
  ·rename_i b' k' hb
   split at h
   ·cases h
   ·rename_i hr
    cases h
    exact ⟨zsJ ha,zsJ hb,by simpa using hr⟩
end
theorem zuZ{s:ByteArray}{c:Int}(h:opW s=(11,c,true)):1<=c/\c<=10:=by
 unfold opW at h
 split at h
 ·cases h
 rename_i hne
 split at h
 ·rename_i i hi
  obtain ⟨h1,h2⟩:=zkp hi
  injection h with h3 h4
  have:i=10:=by omega
  subst this
  have:opsL[10]?=some (⟨#[]⟩:ByteArray):=rfl
  rw [this] at h2
  exact absurd (Option.some.inj h2).symm hne
 split at h
 ·rename_i i hi
  obtain ⟨h1,_⟩:=zkp hi
  have:i<10:=h1
  injection h with h3 h4
  injection h4 with h4
  omega
 ·cases h
structure InsV (p:zaf) (y:zad):Prop where
 z:insN y=0
 a:zcD p y.A=0
 b:zcD p y.B=0
 na:I64 y.A.N
 nb:I64 y.B.N
section
variable {T:List zaa} {syms:List zan} {th:List zae} (hK:KW T)
include hK
theorem zqU{lk:Bool}{j:Nat}{y:zad}{t:zaa}{k:Nat}(h:zi3 T syms lk j=.inr ((y,t),k)):InsV ⟨syms,th⟩ y:=by
 have i0:I64 0:=by unfold I64; decide
 unfold zi3 at h
 cases ho:opW (tk T j).Text with
 | mk op r =>
  obtain ⟨c,ok⟩:=r
  rw [ho] at h
  simp only at h
  split at h
  ·cases h
  rename_i hb
  simp only [Bool.or_eq_true,not_or,Bool.not_eq_true] at hb
  obtain ⟨⟨hb1,hb2⟩,hb3⟩:=hb
  have hok:ok=true:=by simpa using hb2
  subst hok
  obtain ⟨f1,f2,f3⟩:=zmM ho
  have hcond:∀(a b:zak) (to:ByteArray),ziH ⟨op,lk,c,a,b,to,[]⟩=true:=by
   intro a b to
   unfold ziH
   by_cases e:op=11
   ·subst e
    have:=zuZ ho
    simp [this]
   ·rw [if_neg (by simpa using e)]; simp [f3 e]
  have hlk:9<op->lk=false:=by
   intro h9
   unfold zlV at hb3
   have:(op==9)=false:=by simp; omega
   rw [this] at hb3
   cases lk with
   | false=>rfl
   | true =>
    have:decide (op<=6)=false:=by simp; omega
    rw [this] at hb3; simp at hb3
  split at h
  ·rename_i hj
   have hj':op=10\/op=11:=by simpa using hj
   split at h
   ·cases h
   ·rename_i hn
    cases h
    have hr:zbp (tk T (j+1)).Text=true:=by
     unfold nameP at hn
     split at hn
     ·cases hn
     split at hn
     ·cases hn
     rename_i q1 q2
     exact hK (j+1) (by simpa using q1) (by simpa using q2)
    refine ⟨?_,rfl,rfl,i0,i0⟩
    unfold insN zju
    rw [hcond]
    have hrow:rowB ⟨op,lk,c,zO,zO,(tk T (j+1)).Text,[]⟩=true:=by
     unfold rowB
     rw [if_pos (by simp; omega),hlk (by omega)]; rfl
    have hjb:zdP ⟨op,lk,c,zO,zO,(tk T (j+1)).Text,[]⟩=true:=hj
    rw [hrow,hjb,hr]
    have e1:decide (op≥1)=true:=by simpa using f1
    have e2:decide (op<=14)=true:=by simpa using f2
    simp only [e1,e2]; rfl
  ·rename_i hj
   have hjb:∀(a b:zak) (to:ByteArray),zdP ⟨op,lk,c,a,b,to,[]⟩=false:=fun a b to=>by
    show ((op==10)||(op==11))=false
    simpa using hj
   split at h
   ·rename_i h9
    split at h
    ·cases h
    ·rename_i a b k' hx
     cases h
     obtain ⟨ga,gb,hr⟩:=zuX (th:=th) hx
     refine ⟨?_,ga.pl,gb.pl,ga.n,gb.n⟩
     unfold insN zju
     have hrow:rowB ⟨op,lk,c,a,b,(⟨#[]⟩:ByteArray),[]⟩=true:=hr
     have e1:decide (op≥1)=true:=by simpa using f1
     have e2:decide (op<=14)=true:=by simpa using f2
     rw [hcond,hrow,hjb]
     simp only [e1,e2]; rfl
   ·rename_i h9
    cases h
    refine ⟨?_,rfl,rfl,i0,i0⟩
    unfold insN zju
    have hrow:rowB ⟨op,lk,c,zO,zO,(⟨#[]⟩:ByteArray),[]⟩=true:=by
     unfold rowB
     simp only [decide_eq_true_eq,Int.not_le] at h9
     rw [if_pos (by simp; omega),hlk (by omega)]; rfl
    have e1:decide (op≥1)=true:=by simpa using f1
    have e2:decide (op<=14)=true:=by simpa using f2
    rw [hcond,hrow,hjb]
    simp only [e1,e2]; rfl
theorem zvl{i:Nat}{y:zad}{t:zaa}{k:Nat}(h:insP T syms i=.inr ((y,t),k)):InsV ⟨syms,th⟩ y:=by
 unfold insP at h
 split at h
 ·cases h
 split at h
 ·exact zqU hK h
 ·exact zqU hK h
theorem zqN:∀(n i:Nat) (al op:List ByteArray) {j:Nat} {al' op':List ByteArray},zeX T n i al op=.inr (j,al',op')->∃ls,al'=al++ls/\op'=op++ls/\zja al ls
 | 0,i,al,op,j,al',op',h=>by
  simp only [zeX,Sum.inr.injEq,Prod.mk.injEq] at h
  obtain ⟨rfl,rfl,rfl⟩:=h
  exact ⟨[],by simp,by simp,trivial⟩
 | n+1,i,al,op,j,al',op',h=>by
  unfold zeX at h
  split at h
  ·rename_i hc
   simp only [Bool.and_eq_true,beq_iff_eq] at hc
   split at h
   ·cases h
   rename_i hw
   split at h
   ·cases h
   rename_i hh
   obtain ⟨ls,e1,e2,e3⟩:=zqN n _ _ _ h
   refine ⟨(tk T i).Text::ls,by rw [e1]; simp,by rw [e2]; simp,hK i hc.1 (by simpa using hw),by simpa using hh,e3⟩
  ·simp only [Sum.inr.injEq,Prod.mk.injEq] at h
   obtain ⟨rfl,rfl,rfl⟩:=h
   exact ⟨[],by simp,by simp,trivial⟩
end
theorem zm0:∀(l m:List ByteArray) (L:List ByteArray),zja L l->zja (L++l) m->zja L (l++m)
 | [],m,L,h1,h2=>by simpa using h2
 | s::l,m,L,h1,h2=>⟨h1.1,h1.2.1,zm0 l m _ h1.2.2 (by simpa [List.append_assoc] using h2)⟩
theorem zm2(p:zaf)(x:zad):∀(l:List zad) (L:List ByteArray),ziN p L l->zja (L++l.flatMap (·.zLb)) x.zLb->insN x=0->zcD p x.A=0->zcD p x.B=0->ziN p L (l++[x])
 | [],L,h1,h2,h3,h4,h5=>⟨by simpa using h2,h3,h4,h5,trivial⟩
 | y::l,L,h1,h2,h3,h4,h5=>⟨h1.1,h1.2.1,h1.2.2.1,h1.2.2.2.1,zm2 p x l _ h1.2.2.2.2 (by simpa [List.append_assoc] using h2) h3 h4 h5⟩
theorem zmk(s:zan):∀(l:List zan) (L:List ByteArray),zk1 L l->zbp s.Name=true->has (L++l.map (·.Name)) s.Name=false->1<=s.Size->s.Size<=64->(s.Init.length:Int)<=s.Size->zk1 L (l++[s])
 | [],L,h1,h2,h3,h4,h5,h6=>⟨h2,by simpa using h3,h4,h5,h6,trivial⟩
 | y::l,L,h1,h2,h3,h4,h5,h6=>⟨h1.1,h1.2.1,h1.2.2.1,h1.2.2.2.1,h1.2.2.2.2.1,zmk s l _ h1.2.2.2.2.2 h2 (by simpa [List.append_assoc] using h3) h4 h5 h6⟩
structure BdV (syms:List zan) (b:Bd):Prop where
 all:b.all=b.ins.flatMap (·.zLb)++b.open_
 ins:ziN ⟨syms,[]⟩ [] b.ins
 op:zja (b.ins.flatMap (·.zLb)) b.open_
 num:∀x∈b.ins,I64 x.A.N/\I64 x.B.N
structure StV (S:PSt):Prop where
 syms:zk1 [] S.syms
 num:∀s∈S.syms,I64 s.Size/\∀v∈s.Init,I64 v
 bs:∀b∈S.bs,BdV S.syms b
theorem zoJ{T:List zaa}(n:Int):∀(k i:Nat) (l:List Int) {j:Nat} {l':List Int},(l.length:Int)<=n->(∀v∈l,I64 v)->zdI T n k i l=.inr (j,l')->(l'.length:Int)<=n/\∀v∈l',I64 v
 | 0,i,l,j,l',hn,hv,h=>by
  simp only [zdI,Sum.inr.injEq,Prod.mk.injEq] at h
  obtain ⟨rfl,rfl⟩:=h
  exact ⟨hn,hv⟩
 | k+1,i,l,j,l',hn,hv,h=>by
  unfold zdI at h
  split at h
  ·split at h
   ·cases h
   ·rename_i hne
    have hne':(l.length:Int)≠n:=by simpa using hne
    exact zoJ n k _ _ (by simp; omega) (fun v hv'=>by
     rcases List.mem_append.1 hv' with hv' | hv'
     ·exact hv v hv'
     ·rw [List.mem_singleton.1 hv']; exact zig _) h
  ·simp only [Sum.inr.injEq,Prod.mk.injEq] at h
   obtain ⟨rfl,rfl⟩:=h
   exact ⟨hn,hv⟩
section
variable {T:List zaa} (hK:KW T)
include hK
theorem ztx{S S':PSt}(hs:StV S)(h:zfW T S=.inr S'):StV S':=by
 unfold zfW at h
 cases hy:zdF T S with
 | inl g=>rw [hy] at h; cases h
 | inr S1 =>
  have h1:StV S1:=by
   unfold zdF at hy
   split at hy
   ·cases hy; exact hs
   split at hy
   ·unfold symP at hy
    split at hy
    ·cases hy
    rename_i hb0
    split at hy
    ·cases hy
    split at hy
    ·cases hy
    rename_i hnp
    split at hy
    ·cases hy
    rename_i hf
    split at hy
    ·cases hy
    split at hy
    ·cases hy
    rename_i hr
    simp only [Bool.or_eq_true,decide_eq_true_eq,not_or,Int.not_lt,Int.not_gt_eq] at hr
    split at hy
    ·cases hy
    rename_i j l hx
    cases hy
    obtain ⟨q1,q2⟩:=zoJ _ _ _ _ (by simp; omega) (by simp) hx
    have hnil:S.bs=[]:=List.length_eq_zero_iff.1 (by omega)
    have hnr:zbp (tk T (S.at_+1)).Text=true:=by
     unfold nameP at hnp
     split at hnp
     ·cases hnp
     split at hnp
     ·cases hnp
     rename_i w1 w2
     exact hK _ (by simpa using w1) (by simpa using w2)
    refine ⟨zmk _ _ _ hs.syms hnr ?_ (by simp only; omega) (by simp only; omega) (by simpa using q1),?_,?_⟩
    ·rw [List.nil_append]
     unfold has
     rw [List.any_eq_false]
     intro x hx
     unfold fnd ze5 at hf
     rw [List.findIdx?_eq_none_iff] at hf
     simpa using hf x hx
    ·intro s hs'
     rcases List.mem_append.1 hs' with hs' | hs'
     ·exact hs.num s hs'
     ·rw [List.mem_singleton.1 hs']; exact ⟨zig _,q2⟩
    ·intro b hb
     have:b∈S.bs:=hb
     rw [hnil] at this; cases this
   split at hy
   ·unfold thrP at hy
    split at hy
    ·cases hy
    cases hy
    refine ⟨hs.syms,hs.num,fun b hb=>?_⟩
    unfold PSt.bs at hb
    simp only [Option.toList_some,List.mem_append,List.mem_singleton] at hb
    rcases hb with hb | rfl
    ·exact hs.bs b (by unfold PSt.bs; simpa using hb)
    ·exact ⟨rfl,trivial,trivial,by simp⟩
   ·unfold ziT at hy
    cases hcur:S.cur with
    | none=>rw [hcur] at hy; cases hy
    | some c =>
     rw [hcur] at hy
     simp only at hy
     have hc:BdV S.syms c:=hs.bs c (by unfold PSt.bs; rw [hcur]; simp)
     have hdone:∀b∈S.done,BdV S.syms b:=fun b hb=>hs.bs b (by unfold PSt.bs; simp [hb])
     split at hy
     ·cases hy
     rename_i j al op hl
     obtain ⟨ls,e1,e2,e3⟩:=zqN hK _ _ _ _ hl
     rw [hc.all] at e1 e3
     have hop:zja (c.ins.flatMap (·.zLb)) op:=by rw [e2]; exact zm0 _ _ _ hc.op e3
     have hal:al=c.ins.flatMap (·.zLb)++op:=by rw [e1,e2]; simp
     split at hy
     ·cases hy
      refine ⟨hs.syms,hs.num,fun b hb=>?_⟩
      unfold PSt.bs at hb
      simp only [Option.toList_some,List.mem_append,List.mem_singleton] at hb
      rcases hb with hb | rfl
      ·exact hdone b hb
      ·exact ⟨hal,hc.ins,hop,hc.num⟩
     split at hy
     ·cases hy
     rename_i y t k hi
     cases hy
     have hv:=zvl (th:=[]) hK hi
     refine ⟨hs.syms,hs.num,fun b hb=>?_⟩
     unfold PSt.bs at hb
     simp only [Option.toList_some,List.mem_append,List.mem_singleton] at hb
     rcases hb with hb | rfl
     ·exact hdone b hb
     ·refine ⟨?_,zm2 _ _ _ _ hc.ins (by simpa using hop) hv.z hv.a hv.b,trivial,?_⟩
      ·simp only [List.flatMap_append,List.append_nil]; rw [hal]; simp
      ·intro x hx
       rcases List.mem_append.1 hx with hx | hx
       ·exact hc.num x hx
       ·rw [List.mem_singleton.1 hx]; exact ⟨hv.na,hv.nb⟩
  rw [hy] at h
  unfold zg6 at h
  simp only at h
  split at h
  ·cases h
  ·cases h; exact ⟨h1.syms,h1.num,h1.bs⟩
theorem zoB:∀(n:Nat) (S:PSt) {S':PSt},StV S->zcK T n S=.inr S'->StV S'
 | 0,S,S',h,e=>by simp only [zcK,Sum.inr.injEq] at e; subst e; exact h
 | n+1,S,S',h,e=>by
  unfold zcK at e
  split at e
  ·split at e
   ·cases e
   ·rename_i S1 hx
    exact zoB n S1 (ztx hK h hx) e
  ·simp only [Sum.inr.injEq] at e; subst e; exact h
end
end Go.Vs
end
section
namespace Go.Vs
local instance tabPalV5:Tab:=⟨fun _=>none⟩
theorem ztQ(n b0 b1 b2 b3:Nat):(Lib.decodeN n b0 b1 b2 b3).2<=4:=by
 unfold Lib.decodeN
 repeat' split
 all_goals simp
theorem ztP{x:Rn}(h:Dec x):x.bs.length<=4:=by
 obtain ⟨r,_,h2,_⟩:=h.dec
 have:=h2 []
 unfold dec0 at this
 have h3:=ztQ (x.bs++[]).length (gB (x.bs++[]) 0) (gB (x.bs++[]) 1) (gB (x.bs++[]) 2) (gB (x.bs++[]) 3)
 rw [this] at h3
 exact h3
theorem zeF{s:ByteArray}(h:zbp s=true):s.size<=64:=by
 have w:=zol h
 have hl:(rns s).length<=16:=by
  unfold zbp at h
  simp only [Bool.and_eq_true,decide_eq_true_eq] at h
  unfold rns; rw [List.length_map]; omega
 have:∀l:List Rn,(∀x∈l,Dec x)->(flat l).length<=4 * l.length:=by
  intro l
  induction l with
  | nil=>intro _; simp [flat]
  | cons x l ih =>
   intro hd
   rw [zeU,List.length_append,List.length_cons]
   have:=ztP (hd x (by simp))
   have:=ih fun y hy=>hd y (by simp [hy])
   omega
 have h4:=this _ w.dec
 rw [zjD,← zhh] at h4
 omega
theorem zpu(x:zad)(syms:List ByteArray)(ha:I64 x.A.N)(hb:I64 x.B.N)(ht:x.To.size<=64)(hs:∀s∈syms,s.size<=64):(insT x syms).size<=192:=by
 have od:∀o:zak,I64 o.N->(opdT o syms).size<=87:=by
  intro o hn
  have hz:=zdz hn
  have hy:=zhU hs o.Sym
  have hr:=zif o.Reg
  unfold opdT
  split
  ·rw [z7]; omega
  split
  ·omega
  split
  ·omega
  split
  ·rw [z7]; omega
  split <;> simp only [ByteArray.size_append,z8,z9] <;> omega
 have ha:=od x.A ha
 have hb:=od x.B hb
 have ho:=zlQ x.Op x.Cond
 have hS:(if x.Lock then (⟨#[108,111,99,107,32]⟩:ByteArray)++opT x.Op x.Cond else opT x.Op x.Cond).size<=15:=by
  split
  ·rw [ByteArray.size_append,z10]; omega
  ·omega
 unfold insT
 split
 ·rw [z7]; omega
 simp only
 generalize (if x.Lock then (⟨#[108,111,99,107,32]⟩:ByteArray)++opT x.Op x.Cond else opT x.Op x.Cond)=S at hS ⊢
 split
 ·simp only [ByteArray.size_append,z1]; omega
 split
 ·omega
 split
 ·rw [z7]; omega
 ·simp only [ByteArray.size_append,z1,z11]; omega
theorem zhu{α:Type}(g:ByteArray->α->ByteArray)(w:α->Nat):∀(l:List α),(∀a x,x∈l->(g a x).size<=a.size+w x)->∀a:ByteArray,(l.foldl g a).size<=a.size+(l.map w).sum
 | [],_,a=>by simp
 | x::l,h,a=>by
  rw [List.foldl_cons,List.map_cons,List.sum_cons]
  have h1:=h a x (by simp)
  have h2:=zhu g w l (fun a y hy=>h a y (by simp [hy])) (g a x)
  omega
def wI(x:zad):Nat:=194+66 * x.zLb.length
def wT(t:zae):Nat:=7+(t.Ins.map wI).sum
def wY(s:zan):Nat:=91+22 * s.Init.length
theorem zjV{α:Type}(c:Nat):∀l:List α,(l.map fun _=>c).sum=l.length * c
 | []=>by simp
 | x::l=>by rw [List.map_cons,List.sum_cons,zjV c l,List.length_cons,Nat.succ_mul]; omega
theorem zs9{p:zaf}(hc:ChkG p)(hn:NumG p):(zjY p).size<=(p.zSy.map wY).sum+(p.zTh.map wT).sum:=by
 have hz:=zrh hc
 unfold zjY
 have b:(zgJ p != 0)=false:=by rw [hz]; rfl
 rw [b]
 simp only [Bool.false_eq_true,if_false]
 have hnm:∀s∈zaY p,s.size<=64:=by
  intro s hs
  obtain ⟨y,hy,rfl⟩:=List.mem_map.1 hs
  exact zeF (zfe _ _ hc.syms y hy)
 have h1:=zhu symT wY p.zSy (fun a s hs=>by
  have h2:=zeF (zfe _ _ hc.syms s hs)
  obtain ⟨n1,n2⟩:=hn.sym s hs
  have h3:=zdz n1
  have h4:=zhu zjt (fun _=>22) s.Init (fun a v hv=>by
   have:=zdz (n2 v hv)
   unfold zjt; simp only [ByteArray.size_append,z1]; omega) (a++zfQ s)
  rw [zjV] at h4
  unfold symT wY
  unfold zfQ at h4 ⊢
  simp only [ByteArray.size_append,z1,z2,z3] at h4 ⊢
  omega) ⟨#[]⟩
 have h2:=zhu (thT (zaY p)) wT p.zTh (fun a t ht=>by
  have h3:=zhu (zkh (zaY p)) wI t.Ins (fun a x hx=>by
   obtain ⟨g1,g2⟩:=zfs p _ _ (hc.th t ht).ins x hx
   obtain ⟨n1,n2⟩:=hn.ins t ht x hx
   have hto:x.To.size<=64:=by
    obtain ⟨_,_,_,_,q1,q2⟩:=zdS g1.z
    cases hj:zdP x with
    | true=>exact zeF (q1 hj)
    | false=>rw [q2 hj,z7]; omega
   have h5:=zpu x (zaY p) n1 n2 hto hnm
   have h4:=zhu labT (fun _=>66) x.zLb (fun a s hs=>by
    have:=zeF (g2 s hs)
    unfold labT; simp only [ByteArray.size_append,z4]; omega) a
   rw [zjV] at h4
   unfold zkh wI
   simp only [ByteArray.size_append,z2,z5] at h4 ⊢
   omega) (a++(⟨#[116,104,114,101,97,100,10]⟩:ByteArray))
  unfold thT wT
  simp only [ByteArray.size_append,z6] at h3 ⊢
  omega) (p.zSy.foldl symT ⟨#[]⟩)
 rw [z7] at h1
 omega
def wB(b:Bd):Nat:=7+b.ins.length * 194+b.all.length * 66
def wS(S:PSt):Nat:=(S.bs.map wB).sum+(S.syms.map wY).sum
theorem znb{T:List zaa}(n:Int):∀(k i:Nat) (l:List Int) {j:Nat} {l':List Int},zdI T n k i l=.inr (j,l')->l'.length+i=l.length+j
 | 0,i,l,j,l',h=>by
  simp only [zdI,Sum.inr.injEq,Prod.mk.injEq] at h
  obtain ⟨rfl,rfl⟩:=h; rfl
 | k+1,i,l,j,l',h=>by
  unfold zdI at h
  split at h
  ·split at h
   ·cases h
   ·have:=znb n k _ _ h
    simp at this; omega
  ·simp only [Sum.inr.injEq,Prod.mk.injEq] at h
   obtain ⟨rfl,rfl⟩:=h; rfl
theorem zoC{T:List zaa}:∀(n i:Nat) (al op:List ByteArray) {j:Nat} {al' op':List ByteArray},zeX T n i al op=.inr (j,al',op')->al'.length * 2+i=al.length * 2+j
 | 0,i,al,op,j,al',op',h=>by
  simp only [zeX,Sum.inr.injEq,Prod.mk.injEq] at h
  obtain ⟨rfl,rfl,rfl⟩:=h; rfl
 | n+1,i,al,op,j,al',op',h=>by
  unfold zeX at h
  split at h
  ·split at h
   ·cases h
   split at h
   ·cases h
   have:=zoC n _ _ _ h
   simp at this; omega
  ·simp only [Sum.inr.injEq,Prod.mk.injEq] at h
   obtain ⟨rfl,rfl,rfl⟩:=h; rfl
theorem zjz{α:Type}(f:α->Nat)(l:List α)(a:α):((l++[a]).map f).sum=(l.map f).sum+f a:=by simp
theorem zvf{T:List zaa}(hT:zdt T){S S':PSt}(hi:S.at_<T.length)(h:zfW T S=.inr S'):wS S'+100 * S.at_<=wS S+100 * S'.at_:=by
 unfold zfW at h
 cases hy:zdF T S with
 | inl g=>rw [hy] at h; cases h
 | inr S1 =>
  have h1:wS S1+100 * S.at_<=wS S+100 * (S1.at_+1):=by
   unfold zdF at hy
   split at hy
   ·cases hy; omega
   split at hy
   ·unfold symP at hy
    split at hy
    ·cases hy
    rename_i hb0
    split at hy
    ·cases hy
    split at hy
    ·cases hy
    split at hy
    ·cases hy
    split at hy
    ·cases hy
    split at hy
    ·cases hy
    split at hy
    ·cases hy
    rename_i j l hx
    cases hy
    have:=znb _ _ _ _ hx
    unfold wS PSt.bs
    simp only [zjz,wY,List.length_nil] at this ⊢
    omega
   split at hy
   ·unfold thrP at hy
    split at hy
    ·cases hy
    cases hy
    unfold wS
    have:(PSt.mk (S.at_+1) S.syms S.bs (some ⟨tk T S.at_,[],[],[],[],[]⟩)).bs=S.bs++[⟨tk T S.at_,[],[],[],[],[]⟩]:=rfl
    rw [this]
    simp only [zjz,wB,List.length_nil]
    omega
   ·unfold ziT at hy
    cases hcur:S.cur with
    | none=>rw [hcur] at hy; cases hy
    | some c =>
     rw [hcur] at hy
     simp only at hy
     have hbs:S.bs=S.done++[c]:=by unfold PSt.bs; rw [hcur]; rfl
     split at hy
     ·cases hy
     rename_i j al op hl
     have hll:=zoC _ _ _ _ hl
     obtain ⟨n1,n2,_⟩:=zgi hT _ _ _ _ hi hl
     split at hy
     ·cases hy
      unfold wS
      rw [hbs]
      have:(PSt.mk j S.syms S.done (some ⟨c.head,al,op,c.zFi,c.zTg,c.ins⟩)).bs=S.done++[⟨c.head,al,op,c.zFi,c.zTg,c.ins⟩]:=rfl
      rw [this]
      simp only [zjz,wB]
      omega
     split at hy
     ·cases hy
     rename_i y t k hin
     cases hy
     have:=(ziB hT n2 hin).1
     unfold wS
     rw [hbs]
     have e:(PSt.mk k S.syms S.done (some ⟨c.head,al,[],c.zFi++[tk T j],c.zTg++[t],c.ins++[⟨y.Op,y.Lock,y.Cond,y.A,y.B,y.To,op⟩]⟩)).bs=S.done++[⟨c.head,al,[],c.zFi++[tk T j],c.zTg++[t],c.ins++[⟨y.Op,y.Lock,y.Cond,y.A,y.B,y.To,op⟩]⟩]:=rfl
     rw [e]
     simp only [zjz,wB,List.length_append,List.length_singleton]
     omega
  rw [hy] at h
  unfold zg6 at h
  simp only at h
  split at h
  ·cases h
  ·cases h; exact h1
theorem zqK{T:List zaa}(hT:zdt T):∀(n:Nat) (S:PSt) {S':PSt},zcK T n S=.inr S'->wS S'+100 * S.at_<=wS S+100 * S'.at_
 | 0,S,S',e=>by simp only [zcK,Sum.inr.injEq] at e; subst e; omega
 | n+1,S,S',e=>by
  unfold zcK at e
  split at e
  ·rename_i hi
   split at e
   ·cases e
   ·rename_i S1 hx
    have h1:=zvf hT hi hx
    have h2:=zqK hT n S1 e
    omega
  ·simp only [Sum.inr.injEq] at e; subst e; omega
theorem zkl{p q:zaf}(h:p.zSy=q.zSy):∀(l:List zad) (L:List ByteArray),ziN p L l->ziN q L l
 | [],L,g=>trivial
 | x::l,L,g=>⟨g.1,g.2.1,by have:=g.2.2.1; unfold zcD at this ⊢; rw [← h]; exact this,by have:=g.2.2.2.1; unfold zcD at this ⊢; rw [← h]; exact this,zkl h l _ g.2.2.2.2⟩
theorem zrf{fs:List zaa}:∀(l:List zad) (i j:Nat) (a:Int),0<=a->a<=4096->zaM (cntF fs) (fun _=>none) i a l=none->zaM (fun _ (n:Int) (x:zad)=>if (x.Op != 12)=true then .inl (n+1) else .inl n) (fun n=>n) j a l<=4096
 | [],i,j,a,h0,h1,h=>h1
 | x::l,i,j,a,h0,h1,h=>by
  unfold zaM cntF at h
  unfold zaM
  by_cases c:x.Op=12
  ·rw [if_pos (by rw [c]; rfl)] at h
   rw [if_neg (by rw [c]; decide)]
   exact zrf l (i+1) (j+1) a h0 h1 h
  ·rw [if_neg (by simpa using c)] at h
   rw [if_pos (by simpa using c)]
   by_cases c2:(a==4096)=true
   ·rw [if_pos c2] at h; cases h
   ·rw [if_neg c2] at h
    have:a≠4096:=by simpa using c2
    simp only at h
    rw [zbG ⟨by omega,by omega⟩] at h
    exact zrf l (i+1) (j+1) (a+1) (by omega) (by omega) h
theorem zsA{al:List ByteArray}{tg:List zaa}:∀(l:List zad) (i:Nat),zaM (toF al tg) (fun _=>none) i () l=none->∀x∈l,x.To≠⟨#[]⟩->has al x.To=true
 | [],i,h,x,hx,_=>by cases hx
 | y::l,i,h,x,hx,hto=>by
  unfold zaM toF at h
  by_cases c:((!decide (y.To=(⟨#[]⟩:ByteArray)))&&(!has al y.To))=true
  ·rw [if_pos c] at h; cases h
  ·rw [if_neg c] at h
   rcases List.mem_cons.1 hx with rfl | hx
   ·rw [decide_eq_false hto] at c
    simpa using c
   ·exact zsA l _ h x hx hto
theorem zrA{p:zaf}{b:Bd}(hv:BdV p.zSy b)(h:zfC b=none):ThG p (toTh b)/\b.open_=[]:=by
 unfold zfC at h
 split at h
 ·cases h
 rename_i hc
 simp only [Bool.or_eq_true,beq_iff_eq,decide_eq_true_eq,not_or,Bool.and_eq_true,bne_iff_ne,ne_eq,not_and,Decidable.not_not] at hc
 obtain ⟨⟨c1,c2⟩,c3⟩:=hc
 have ho:b.open_=[]:=List.length_eq_zero_iff.1 (by omega)
 have hall:b.all=b.ins.flatMap (·.zLb):=by rw [hv.all,ho]; simp
 split at h
 ·cases h
 rename_i hcnt
 have hins:ziN p [] b.ins:=zkl (p:=⟨p.zSy,[]⟩) (q:=p) rfl _ _ hv.ins
 have hlast:zh6 b.ins=zfM (toTh b):=by
  unfold zh6 zfM toTh
  simp only
  congr 2
  omega
 refine ⟨⟨zrf _ 0 0 0 (Int.le_refl _) (by decide) hcnt,hins,fun e=>c1 (by show (b.ins.length:Int)=0; rw [show b.ins=[] from e]; rfl),?_,?_⟩,ho⟩
 ·rw [← hlast]
  by_cases q:zh6 b.ins=10
  ·exact .inl q
  ·exact .inr (c3 q)
 ·intro x hx hj
  have:=zsA _ _ h x hx (by
   obtain ⟨_,_,_,_,q,_⟩:=zdS (zfs p _ _ hins x hx).1.z
   exact zom (q hj))
  rw [hall] at this
  exact this
theorem zme{p:zaf}:∀(l:List Bd) (i:Nat),(∀b∈l,BdV p.zSy b)->zaM zfD (fun _=>none) i () l=none->∀b∈l,ThG p (toTh b)/\b.open_=[]
 | [],i,hv,h,b,hb=>by cases hb
 | c::l,i,hv,h,b,hb=>by
  unfold zaM zfD at h
  cases hw:zfC c with
  | some g=>rw [hw] at h; cases h
  | none =>
   rw [hw] at h
   rcases List.mem_cons.1 hb with rfl | hb
   ·exact zrA (hv _ (by simp)) hw
   ·exact zme l _ (fun y hy=>hv y (by simp [hy])) h b hb
theorem zto{s:ByteArray}(hs:s.size<=600)(hz:(zdC s).2.Code=0):ChkG (zdC s).1/\NumG (zdC s).1/\zlD (zdC s).1/\(zjY (zdC s).1).size<=61000/\(zdC s).2=⟨0,0,0⟩:=by
 have hsm:Sm s:=by unfold Sm; omega
 have hok:=zmI s (by omega)
 unfold zdC at hz hok ⊢
 by_cases hc:((zaS s).2.Code != 0)=true
 ·rw [if_pos hc] at hz
  simp only at hz
  rw [hz] at hc; exact absurd hc (by decide)
 rw [if_neg hc] at hz hok ⊢
 have hc0:(zaS s).2.Code=0:=by simpa using hc
 have hT:=zia s (by omega) hc0
 have hK:=zqP hsm hc0
 have hlen:(zaS s).1.length<=601:=by
  obtain ⟨A,L,e,h1,h2,h3,h4,h5,_⟩:=zmg hsm hc0
  have h7:∀{T A},Lx T A->A.length<=T.length:=by
   intro T A h
   induction h with
   | nil=>simp
   | blank _ _ _ ih=>simp; omega
   | rem _ _ _ _ _ ih=>simp; omega
   | tok _ _ _ ih=>simp; omega
  have:=h7 h3
  have h8:=congrArg List.length h4
  have h9:=(zht s hsm).len
  unfold rns at this
  rw [List.length_map] at this
  rw [h1]
  simp at h8 ⊢; omega
 generalize (zaS s).1=T at *
 unfold zf8 at hz hok ⊢
 cases hl:zcK T T.length St0 with
 | inl f =>
  rw [hl] at hz
  simp only at hz
  have R:RwT T T:=⟨hT,rfl,fun _=>rfl,fun _=>rfl⟩
  have:=R.lines T.length St0 St0 ⟨rfl,rfl,⟨rfl,fun k b b' hb=>by simp [St0] at hb⟩,trivial⟩
  rw [hl] at this
  obtain ⟨c,t,t',h1,_,h2,_⟩:=this
  rw [h2] at hz
  exact absurd hz h1
 | inr S =>
  have hI:=zhr hT _ _ (inv0 _) hl
  have hV:=zoB hK _ St0 ⟨trivial,by simp [St0],by simp [St0,PSt.bs]⟩ hl
  have hW:=zqK hT _ _ hl
  rw [hl] at hz hok
  simp only at hz hok ⊢
  cases hw:zfP S.bs with
  | some f =>
   rw [hw] at hz
   simp only at hz
   have R:RwT T T:=⟨hT,rfl,fun _=>rfl,fun _=>rfl⟩
   have h0:=R.lines T.length St0 St0 ⟨rfl,rfl,⟨rfl,fun k b b' hb=>by simp [St0] at hb⟩,trivial⟩
   rw [hl] at h0
   have h0:StR T T S S:=h0
   rcases R.wholes S.bs S.bs 0 h0.bs with ⟨q,_⟩ | ⟨f1,f2,q1,_,c,t,t',h1,_,h2,_⟩
   ·unfold zfP at hw; rw [q] at hw; cases hw
   ·unfold zfP at hw
    rw [q1] at hw
    cases hw
    rw [h2] at hz
    exact absurd hz h1
  | none =>
   rw [hw] at hok
   simp only at hok ⊢
   have hth:=zme (p:=⟨S.syms,S.bs.map toTh⟩) S.bs 0 hV.bs hw
   have hC:ChkG ⟨S.syms,S.bs.map toTh⟩:=by
    refine ⟨hI.ok.syms,?_,hV.syms,fun t ht=>?_⟩
    ·have:=znk S; have:=hI.ok.done; simp; omega
    ·obtain ⟨b,hb,rfl⟩:=List.mem_map.1 ht
     exact (hth b hb).1
   have hN:NumG ⟨S.syms,S.bs.map toTh⟩:=by
    refine ⟨hV.num,fun t ht x hx=>?_⟩
    obtain ⟨b,hb,rfl⟩:=List.mem_map.1 ht
    exact (hV.bs b hb).num x hx
   refine ⟨hC,hN,?_,?_,trivial⟩
   ·refine ⟨by have:=hC.ns; simp only at this ⊢; omega,by have:=hC.nt; simp only at this ⊢; omega,fun s hs'=>?_,fun t ht=>?_⟩
    ·have h1:=zeF (zfe _ _ hC.syms s hs')
     have h2:=hok.init s hs'
     obtain ⟨n1,n2⟩:=hN.sym s hs'
     exact ⟨by omega,by omega,n1,n2⟩
    ·have ht':=ht
     obtain ⟨b,hb,rfl⟩:=List.mem_map.1 ht'
     have hB:=hI.bd b hb
     have hf:=hB.zFi
     have hi:=hB.ins
     refine ⟨by show b.ins.length<=700; omega,fun x hx=>?_⟩
     obtain ⟨g1,g2⟩:=zfs _ _ _ (hC.th _ ht).ins x hx
     obtain ⟨n1,n2⟩:=hN.ins _ ht x hx
     have hto:x.To.size<=64:=by
      obtain ⟨_,_,_,_,q1,q2⟩:=zdS g1.z
      cases hj:zdP x with
      | true=>exact zeF (q1 hj)
      | false=>rw [q2 hj]; decide
     exact ⟨⟨by unfold Sm; omega,n1,n2⟩,by have:=hB.labs x hx; omega,by omega,fun s hs'=>by have:=zeF (g2 s hs'); omega⟩
   ·have h1:=zs9 hC hN
    have hat:=hI.ok.at_
    have e:wS S=((S.syms.map wY).sum+((S.bs.map toTh).map wT).sum):=by
     unfold wS
     have:∀l:List Bd,(∀b∈l,b.all.length=(b.ins.flatMap (·.zLb)).length)->(l.map wB).sum=((l.map toTh).map wT).sum:=by
      intro l
      induction l with
      | nil=>intro _; rfl
      | cons b l ih =>
       intro h
       rw [List.map_cons,List.sum_cons,List.map_cons,List.map_cons,List.sum_cons,ih fun c hc=>h c (by simp [hc])]
       have hb:=h b (by simp)
       have hs:∀m:List zad,(m.map wI).sum=m.length * 194+(m.flatMap (·.zLb)).length * 66:=by
        intro m
        induction m with
        | nil=>rfl
        | cons x m ih2 =>
         rw [List.map_cons,List.sum_cons,ih2,List.flatMap_cons,List.length_append,List.length_cons]
         unfold wI; omega
       unfold wB wT toTh
       simp only
       rw [hs,hb]; omega
     rw [this S.bs fun b hb=>by rw [(hV.bs b hb).all,(hth b hb).2]; simp]
     omega
    have h0:wS St0=0:=rfl
    have h00:St0.at_=0:=rfl
    rw [h0,h00,e] at hW
    simp only at h1
    omega
end Go.Vs
end
section
namespace Go.Vs
local instance tabPalQ7:Tab:=⟨fun _=>none⟩
theorem zrS{s:ByteArray}(hs:s.size<=99000)(hz:(zdC s).2.Code≠0):(zdC s).1=nilP/\1<=(zdC s).2.Line/\1<=(zdC s).2.Col:=by
 have hp:=zo5 s
 unfold zdC at hz ⊢
 by_cases hc:((zaS s).2.Code != 0)=true
 ·rw [if_pos hc]
  exact ⟨rfl,hp.2 (by simpa using hc)⟩
 rw [if_neg hc] at hz ⊢
 have hT:=zia s hs (by simpa using hc)
 have R:RwT (zaS s).1 (zaS s).1:=⟨hT,rfl,fun _=>rfl,fun _=>rfl⟩
 rcases R.parse.2 with ⟨h1,_⟩ | ⟨⟨c,t,t',h1,⟨i,hi,e1,_⟩,h2,_⟩,h3⟩
 ·rw [h1] at hz; exact absurd rfl hz
 ·refine ⟨h3,?_⟩
  rw [h2,e1]
  have:tk (zaS s).1 i∈(zaS s).1:=List.mem_of_getElem? (zhT (zbV hi))
  exact hp.1 _ this
theorem zkE(s0:ByteArray):zcN s0=some true:=by
 obtain ⟨s,ht,hs⟩:=zpa s0 (n:=600) (by decide)
 have hs':s.size<=600:=by omega
 unfold zcN
 rw [ht]
 simp only [Option.bind_some]
 rw [zhs s (by omega)]
 simp only [Option.bind_some]
 by_cases hz:(zdC s).2.Code=0
 ·obtain ⟨hC,hN,hP,hlen,h0⟩:=zto hs' hz
  have hk:=zrh hC
  have ok:=zmI s (by omega)
  have hp:=zpm hk hN
  rw [if_neg (by rw [hz]; decide),znE _ hP]
  simp only [Option.bind_some]
  rw [zhs _ (by omega),hp,zjg _ hP,hk]
  simp only [Option.bind_some,beq_self_eq_true,Bool.and_self,if_true,Bool.true_and]
  rw [zjZ _ _ (by have:=ok.syms; omega) (by have:=ok.th; omega) (fun s h=>by have:=ok.init s h; omega) (fun t h=>⟨by have:=(ok.ins t h).1; omega,fun x hx=>by have:=(ok.ins t h).2 x hx; omega⟩)]
  simp [zjo]
 ·obtain ⟨h1,h2,h3⟩:=zrS (by omega) hz
  rw [if_pos (by simpa using hz),h1]
  have hn:zba nilP (zaf.mk [] [])=some true:=by
   have:=zjZ nilP nilP (by simp [nilP]) (by simp [nilP]) (fun s h=>by simp [nilP] at h) (fun t h=>by simp [nilP] at h)
   rw [show (zaf.mk [] [])=nilP from rfl,this]; simp
  rw [hn]
  simp only [Option.bind_some]
  have e2:decide ((zdC s).2.Line≥1)=true:=by simpa using h2
  have e3:decide ((zdC s).2.Col≥1)=true:=by simpa using h3
  rw [e2,e3]
  simp [zjo]
end Go.Vs
end
