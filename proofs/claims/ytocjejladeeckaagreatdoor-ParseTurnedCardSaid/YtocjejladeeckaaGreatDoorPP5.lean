import Derived.Test.YtocjejladeeckaaGreatDoorPP1
import Derived.Test.YtocjejladeeckaaGreatDoorPP4
import Derived.Test.YtocjejladeeckaaGreatDoorPalN
import Derived.Test.YtocjejladeeckaaGreatDoorPalO
import Derived.Test.YtocjejladeeckaaGreatDoorPS1
import Derived.Test.YtocjejladeeckaaGreatDoorPL2
set_option linter.all false
section
namespace Go.Vs
local instance tabPalPT:Tab:=⟨fun _=>none⟩
def TkP(t:zaa):Prop:=(t.Kind=1->t.Text≠⟨#[]⟩)/\t.Text.size<=1000000
section
variable {s:ByteArray} {v:List zau} (g:Good s v) {i:Int} {l:List zaa} (hi:InB i v.length) (hl:l.length<=1000000)
include g hi hl
theorem zu3{k kind k':Int}{l':List zaa}(hk:i<k)(hkn:k<=v.length)(h:tail v s i l k kind=.inl (k',l'))(hp:∀t∈l,TkP t):∀t∈l',TkP t:=by
 obtain ⟨_,hin,_,_,b1,b2⟩:=zo6 g hi hk hkn hl
 have hsm:=g.sm
 unfold Sm at hsm
 obtain ⟨a1,a2,a3⟩:=g.at0 _ hin
 obtain ⟨c1,c2,c3⟩:=g.at0 _ hi
 have hle:=g.le i (k-1) hi hin (by omega)
 unfold tail at h
 dsimp only at h
 split at h
 ·cases h
 split at h
 ·cases h
 injection h with h
 injection h with h1 h2
 subst h2
 intro t ht
 rw [List.mem_append,List.mem_singleton] at ht
 rcases ht with ht | rfl
 ·exact hp t ht
 ·have hsz:(s.extract (rd v i).At.toNat ((rd v (k-1)).At+(rd v (k-1)).Size).toNat).size=min ((rd v (k-1)).At+(rd v (k-1)).Size).toNat s.size-(rd v i).At.toNat:=by
   simp
  refine ⟨fun _ e=>?_,?_⟩
  ·have h0:(s.extract (rd v i).At.toNat ((rd v (k-1)).At+(rd v (k-1)).Size).toNat).size=0:=by
    show (zaa.mk kind (rd v i).Line (rd v i).Col (s.extract (rd v i).At.toNat ((rd v (k-1)).At+(rd v (k-1)).Size).toNat)).Text.size=0
    rw [e]; rfl
   omega
  ·show (s.extract (rd v i).At.toNat ((rd v (k-1)).At+(rd v (k-1)).Size).toNat).size<=_
   omega
theorem ztz{k:Int}{l':List zaa}(h:zf4 v s i l=.inl (k,l'))(hp:∀t∈l,TkP t):∀t∈l',TkP t:=by
 obtain ⟨h0,h1,hv⟩:=zpg g hi hl
 obtain ⟨kk,ek,_,_,k1,k2⟩:=zj5 v hv v.length (i+1) (by omega) (by omega) (by omega)
 obtain ⟨r,er,_,_,r1⟩:=zj8 v hv v.length (i+1) (by omega) (by omega) (by omega)
 unfold zf4 at h
 rw [← er,← ek] at h
 repeat' split at h
 all_goals first
  | (cases h; done)
  | exact zu3 g hi hl (by omega) (by omega) h hp
  | (injection h with h; injection h with h3 h4; subst h4; exact hp)
end
theorem zmW{v:List zau}:∀(n:Nat) (i:Int) {q},remC v n i=.inr q->q.2.Code≠0
 | 0,i,q,h=>by simp [remC] at h
 | n+1,i,q,h=>by
  unfold remC at h
  split at h
  ·exact zmW n _ h
  ·rename_i r hr
   unfold zht at hr
   repeat' split at hr
   all_goals first | (cases hr; done) | (injection hr with hr; subst hr; cases h; simp) | (injection hr with hr; subst hr; cases h)
theorem zqo{v:List zau}{s:ByteArray}{i:Int}{l:List zaa}{k kind:Int}{q}(h:tail v s i l k kind=.inr (.inr q)):q.2.Code≠0:=by
 unfold tail at h
 dsimp only at h
 repeat' split at h
 all_goals first | (cases h; done) | (injection h with h; injection h with h; subst h; simp)
theorem zpr{v:List zau}{s:ByteArray}{i:Int}{l:List zaa}{q}(h:zf4 v s i l=.inr (.inr q)):q.2.Code≠0:=by
 unfold zf4 at h
 repeat' split at h
 all_goals first
  | (cases h; done)
  | exact zqo h
  | (injection h with h; injection h with h; subst h; first | (simp; done) | exact zmW _ _ (by assumption))
theorem zs7{s:ByteArray}{v:List zau}(g:Good s v):∀(n:Nat) (i:Int) (l:List zaa),0<=i->i<=v.length->l.length<=i.toNat->(∀t∈l,TkP t)->(∀L,tokC v s n i l=.inl L->∀t∈L,TkP t)/\∀q,tokC v s n i l=.inr q->q.2.Code≠0
 | 0,i,l,h0,hv,hl,hp=>⟨fun L e=>by simp only [tokC,Sum.inl.injEq] at e; subst e; exact hp,fun q e=>by simp [tokC] at e⟩
 | n+1,i,l,h0,hv,hl,hp=>by
  have h1:=g.sm
  have h2:=g.len
  unfold Sm at h1
  rw [tokC]
  by_cases hlt:i<v.length
  ·rw [if_pos hlt]
   have hin:InB i v.length:=⟨h0,by omega⟩
   cases ht:zf4 v s i l with
   | inl q =>
    obtain ⟨k,l'⟩:=q
    obtain ⟨n1,n2,n3⟩:=zoC g hin (by omega) ht
    exact zs7 g n k l' (by omega) n2 (by omega) (ztz g hin (by omega) ht hp)
   | inr r =>
    cases r with
    | inl L =>
     exfalso
     unfold zf4 tail at ht
     dsimp only at ht
     repeat' split at ht
     all_goals first | cases ht | (injection ht with ht; cases ht)
    | inr q=>exact ⟨fun L e=>(by cases e),fun q' e=>by cases e; exact zpr ht⟩
  ·rw [if_neg hlt]
   exact ⟨fun L e=>(by cases e; exact hp),fun q e=>(by cases e)⟩
theorem zko(s:ByteArray)(hs:s.size<=50000)(hc:(zaQ s).2.Code=0):zdr (zaQ s).1:=by
 have hsm:Sm s:=by unfold Sm; omega
 have g:=zh8 s hsm
 have hlen:=g.len
 obtain ⟨p1,p2⟩:=zs7 g (zbi s).length 0 [] (by omega) (by omega) (by simp) (fun t ht=>by simp at ht)
 obtain ⟨_,_,p3⟩:=zj0 g (zbi s).length 0 [] (by omega) (by omega) (by simp) (by simp)
 unfold zaQ at hc ⊢
 cases hx:tokC (zbi s) s (zbi s).length 0 [] with
 | inr q =>
  rw [hx] at hc
  exact absurd hc (p2 q hx)
 | inl l =>
  have q1:=p1 l hx
  have q3:=p3 l hx
  have hmem:∀t∈l++[(⟨4,(zjz (zbi s)).1,(zjz (zbi s)).2,⟨#[]⟩⟩:zaa)],TkP t:=fun t ht=>by
   rw [List.mem_append,List.mem_singleton] at ht
   rcases ht with ht | rfl
   ·exact q1 t ht
   ·exact ⟨fun e=>(by simp at e),Nat.zero_le _⟩
  refine ⟨by simp; omega,fun t ht=>(hmem t ht).1,fun i hi hk=>?_,fun t ht=>(hmem t ht).2⟩
  simp only [List.length_append,List.length_singleton] at hi ⊢
  by_cases he:i=l.length
  ·exfalso
   subst he
   apply hk
   show (rd (l++[_]) (l.length:Int)).Kind=4
   have:rd (l++[(⟨4,(zjz (zbi s)).1,(zjz (zbi s)).2,⟨#[]⟩⟩:zaa)]) (l.length:Int)=⟨4,(zjz (zbi s)).1,(zjz (zbi s)).2,⟨#[]⟩⟩:=zcd (by simp)
   rw [this]
  ·omega
end Go.Vs
end
section
namespace Go.Vs
local instance tabPalPF:Tab:=⟨fun _=>none⟩
def qB(Q:zab):(List zaa) × Int × (List zam) × (List zad) × (List zaa) × (List (List zaa)) × (List (List zaa)) × (List Int) × (List ByteArray) × (List ByteArray) × Int × Int × Int:=(Q.T,Q.I,Q.P.zSy,Q.P.zTh,Q.zHd,Q.First,Q.To,Q.Left,Q.All,Q.Wait,Q.Bad.Code,Q.Bad.Line,Q.Bad.Col)
theorem zmX(T:List zaa)(v1:(List zaa) × zak)(h1:v1.1=T)(f:zak)(hT:zdr T):∀(n:Nat) (S:PSt),Inv T S->T.length-S.at_<=n->zaP (zbu v1) (qB (stR T S f))=some (match zfP T n S with | .inl g=>.inr (nilP,g) | .inr S'=>.inl (qB (stR T S' f)))
 | 0,S,h,hn=>by
  have hi:¬S.at_<T.length:=by omega
  refine zaH ?_
  simp only [qB,zbu,zfP,h1]
  rw [if_neg (by simpa [stR] using hi)]
 | n+1,S,h,hn=>by
  unfold zfP
  by_cases hi:S.at_<T.length
  ·rw [if_pos hi]
   obtain ⟨ok,R',e1,e2⟩:=zsj T S f hT h.ok hi h.none_
   have step:zbu v1 (qB (stR T S f))=(if (!ok)=true then some (.inr (.inr (nilP,R'.Bad))) else some (.inl (qB R'))):=by
    simp only [qB,zbu,h1]
    rw [if_pos (by simpa [stR] using hi)]
    have e1':zcb ⟨(stR T S f).T,(stR T S f).I,⟨(stR T S f).P.zSy,(stR T S f).P.zTh⟩,(stR T S f).zHd,(stR T S f).First,(stR T S f).To,(stR T S f).Left,(stR T S f).All,(stR T S f).Wait,⟨(stR T S f).Bad.Code,(stR T S f).Bad.Line,(stR T S f).Bad.Col⟩⟩=some (ok,R'):=e1
    rw [e1']
    rfl
   cases hx:zjY T S with
   | inl g =>
    rw [hx] at e2
    obtain ⟨rfl,hf⟩:=e2
    rw [if_pos (by decide)] at step
    rw [zaH step,hf]
   | inr S' =>
    rw [hx] at e2
    obtain ⟨rfl,rfl⟩:=e2
    rw [if_neg (by decide)] at step
    rw [za4 step]
    obtain ⟨i1,i2⟩:=zkH hT h hi hx
    exact zmX T v1 h1 f hT n S' i1 (by omega)
  ·rw [if_neg hi]
   refine zaH ?_
   simp only [qB,zbu,h1]
   rw [if_neg (by simpa [stR] using hi)]
theorem zpD(T:List zaa)(S:PSt)(f:zak)(hT:zdr T)(h:Inv T S):zaP zcW (0,qB (stE T S f))=some (match zhA S.bs with | some g=>.inr (nilP,g) | none=>.inl (qB (stE T S f))):=by
 have hl:=hT.len
 have hbl:=zjQ S
 have hd:=h.ok.done
 let hh:Option zak->((List zaa) × Int × (List zam) × (List zad) × (List zaa) × (List (List zaa)) × (List (List zaa)) × (List Int) × (List ByteArray) × (List ByteArray) × Int × Int × Int) ⊕ (zaj × zak):=fun o=>match o with
  | none=>.inl (qB (stE T S f))
  | some g=>.inr (nilP,g)
 have L:=zdc S.bs (fun i (_:Unit)=>(i,qB (stE T S f))) zcW (cvF ziL hh) (fun _=>hh none) (fun _ _=>True) (fun i x hx a _=>⟨?_,fun _ _=>trivial⟩) (fun a _=>?_) () trivial
 rotate_left
 ·have hil:=(List.getElem?_eq_some_iff.1 hx).1
  obtain ⟨ok,R',e1,e2⟩:=zsl T S f hx hl (h.bd x (List.mem_of_getElem? hx))
  have hdec:decide ((i:Int)<((stE T S f).P.zTh.length:Int))=true:=by simpa [stE] using hil
  change (if decide ((i:Int)<((stE T S f).P.zTh.length:Int))=true then _ else _)=_
  rw [if_pos hdec]
  have e1':zbF ⟨(stE T S f).T,(stE T S f).I,⟨(stE T S f).P.zSy,(stE T S f).P.zTh⟩,(stE T S f).zHd,(stE T S f).First,(stE T S f).To,(stE T S f).Left,(stE T S f).All,(stE T S f).Wait,⟨(stE T S f).Bad.Code,(stE T S f).Bad.Line,(stE T S f).Bad.Col⟩⟩ (i:Int)=some (ok,R'):=e1
  change ((zbF ⟨(stE T S f).T,(stE T S f).I,⟨(stE T S f).P.zSy,(stE T S f).P.zTh⟩,(stE T S f).zHd,(stE T S f).First,(stE T S f).To,(stE T S f).Left,(stE T S f).All,(stE T S f).Wait,⟨(stE T S f).Bad.Code,(stE T S f).Bad.Line,(stE T S f).Bad.Col⟩⟩ (i:Int)).bind _)=_
  rw [e1']
  unfold cvF ziL
  cases hw:zkl x with
  | some g =>
   rw [hw] at e2
   obtain ⟨rfl,hf⟩:=e2
   simp only [Option.bind_some,Bool.not_false,if_true,hf]
   rfl
  | none =>
   rw [hw] at e2
   obtain ⟨rfl,rfl⟩:=e2
   simp only [Option.bind_some,Bool.not_true,Bool.false_eq_true,if_false]
   rw [wi (by omega)]
   rfl
 ·change (if decide ((S.bs.length:Int)<((stE T S f).P.zTh.length:Int))=true then _ else _)=_
  rw [if_neg (by simp [stE])]
  rfl
 rw [zfE ziL (fun _=>none) hh] at L
 rw [L]
 unfold zhA
 cases zbv ziL (fun _=>none) 0 () S.bs <;> rfl
theorem zl7(s:ByteArray)(hs:Sm s)(hT:(zaQ s).2.Code=0->zdr (zaQ s).1):zdN s=some (zim s):=by
 unfold zdN zim
 rw [ziR s hs]
 simp only [Option.bind_some]
 by_cases hc:((zaQ s).2.Code != 0)=true
 ·rw [if_pos hc,if_pos hc]; rfl
 rw [if_neg hc,if_neg hc]
 have hT':=hT (by simpa [bne] using hc)
 have L:=zmX (zaQ s).1 (zaQ s) rfl ⟨0,0,0⟩ hT' (zaQ s).1.length St0 (inv0 _) (by simp [St0])
 have L':zaP (zbu (zaQ s)) ((zaQ s).1,0,[],[],[],[],[],[],[],[],0,0,0)=_:=L
 rw [L']
 unfold zoV
 cases hx:zfP (zaQ s).1 (zaQ s).1.length St0 with
 | inl g=>rfl
 | inr S =>
  have hI:=zh7 hT' _ _ (inv0 _) hx
  simp only [Option.bind_some,zb0]
  have hsh:=zsh (zaQ s).1 S ⟨0,0,0⟩ (by have:=zjQ S; have:=hI.ok.done; omega) hI.none_
  have hsh':zbc ⟨(qB (stR (zaQ s).1 S ⟨0,0,0⟩)).1,(qB (stR (zaQ s).1 S ⟨0,0,0⟩)).2.1,⟨(qB (stR (zaQ s).1 S ⟨0,0,0⟩)).2.2.1,(qB (stR (zaQ s).1 S ⟨0,0,0⟩)).2.2.2.1⟩,(qB (stR (zaQ s).1 S ⟨0,0,0⟩)).2.2.2.2.1,(qB (stR (zaQ s).1 S ⟨0,0,0⟩)).2.2.2.2.2.1,(qB (stR (zaQ s).1 S ⟨0,0,0⟩)).2.2.2.2.2.2.1,(qB (stR (zaQ s).1 S ⟨0,0,0⟩)).2.2.2.2.2.2.2.1,(qB (stR (zaQ s).1 S ⟨0,0,0⟩)).2.2.2.2.2.2.2.2.1,(qB (stR (zaQ s).1 S ⟨0,0,0⟩)).2.2.2.2.2.2.2.2.2.1,⟨(qB (stR (zaQ s).1 S ⟨0,0,0⟩)).2.2.2.2.2.2.2.2.2.2.1,(qB (stR (zaQ s).1 S ⟨0,0,0⟩)).2.2.2.2.2.2.2.2.2.2.2.1,(qB (stR (zaQ s).1 S ⟨0,0,0⟩)).2.2.2.2.2.2.2.2.2.2.2.2⟩⟩=_:=hsh
  rw [hsh']
  simp only [Option.bind_some]
  have W:=zpD (zaQ s).1 S ⟨0,0,0⟩ hT' hI
  have W':zaP zcW (0,(stE (zaQ s).1 S ⟨0,0,0⟩).T,(stE (zaQ s).1 S ⟨0,0,0⟩).I,(stE (zaQ s).1 S ⟨0,0,0⟩).P.zSy,(stE (zaQ s).1 S ⟨0,0,0⟩).P.zTh,(stE (zaQ s).1 S ⟨0,0,0⟩).zHd,(stE (zaQ s).1 S ⟨0,0,0⟩).First,(stE (zaQ s).1 S ⟨0,0,0⟩).To,(stE (zaQ s).1 S ⟨0,0,0⟩).Left,(stE (zaQ s).1 S ⟨0,0,0⟩).All,(stE (zaQ s).1 S ⟨0,0,0⟩).Wait,(stE (zaQ s).1 S ⟨0,0,0⟩).Bad.Code,(stE (zaQ s).1 S ⟨0,0,0⟩).Bad.Line,(stE (zaQ s).1 S ⟨0,0,0⟩).Bad.Col)=_:=W
  rw [W']
  cases hw:zhA S.bs with
  | some g=>rfl
  | none=>rfl
theorem zjw(s:ByteArray)(hs:s.size<=50000):zeB s=some (zim s):=zk9 s (by unfold Sm; omega) (zko s hs)
theorem zqJ(s:ByteArray)(hs:s.size<=50000):zdN s=some (zim s):=zl7 s (by unfold Sm; omega) (zko s hs)
end Go.Vs
end
section
namespace Go.Vs
local instance tabPalQ1:Tab:=⟨fun _=>none⟩
set_option maxRecDepth 100000
theorem zyn:zim ⟨#[115,121,109,32,120,32,50,32,55,10,116,104,114,101,97,100,10,97,58,32,106,109,112,32,97]⟩=(⟨[⟨⟨#[120]⟩,2,[7]⟩],[⟨[⟨10,false,0,⟨0,0,0,0⟩,⟨0,0,0,0⟩,⟨#[97]⟩,[⟨#[97]⟩]⟩]⟩]⟩,⟨0,0,0⟩):=by
 rfl
theorem zym:zim ⟨#[109,111,118,32,114,97,120,44,32,49]⟩=(⟨[],[]⟩,⟨4,1,1⟩):=by
 rfl
def SyOk(S:PSt):Prop:=∀s∈S.syms,s.Init.length<=64
theorem zsw{T:List zaa}{S S':PSt}(hT:zdr T)(hi:S.at_<T.length)(hs:SyOk S)(h:zjY T S=.inr S'):SyOk S':=by
 unfold zjY at h
 cases hy:zgg T S with
 | inl g=>rw [hy] at h; cases h
 | inr S1 =>
  have h1:SyOk S1:=by
   unfold zgg at hy
   split at hy
   ·cases hy; exact hs
   split at hy
   ·rename_i h1
    have hk:((tk T S.at_).Kind==1)=true:=by simp only [Bool.and_eq_true] at h1; exact h1.1
    have hi1:S.at_+1<T.length:=hT.next _ hi (zed hk (by decide))
    unfold symP at hy
    split at hy
    ·cases hy
    split at hy
    ·cases hy
    split at hy
    ·cases hy
    rename_i hnp
    have hi2:S.at_+2<T.length:=hT.next (S.at_+1) hi1 (by have:=zh5 hnp; omega)
    split at hy
    ·cases hy
    split at hy
    ·cases hy
    rename_i h2
    have h2':(tk T (S.at_+2)).Kind=2:=by simpa [bne] using h2
    have hi3:S.at_+3<T.length:=hT.next (S.at_+2) hi2 (by show (tk T (S.at_+2)).Kind≠4; omega)
    split at hy
    ·cases hy
    rename_i hr
    simp only [Bool.or_eq_true,decide_eq_true_eq,not_or,Int.not_lt,Int.not_gt_eq] at hr
    split at hy
    ·cases hy
    rename_i j l hx
    obtain ⟨a,b,c⟩:=zhj hT (by omega) _ _ _ hi3 (by simp; omega) hx
    cases hy
    intro s hm
    simp only [List.mem_append,List.mem_singleton] at hm
    rcases hm with hm | rfl
    ·exact hs s hm
    ·show l.length<=64; omega
   split at hy
   ·unfold thrP at hy
    split at hy
    ·cases hy
    cases hy; exact hs
   ·unfold zmT at hy
    split at hy
    ·cases hy
    split at hy
    ·cases hy
    split at hy
    ·cases hy; exact hs
    split at hy
    ·cases hy
    cases hy; exact hs
  rw [hy] at h
  unfold zlg at h
  simp only at h
  split at h
  ·cases h
  ·cases h; exact h1
theorem zni{T:List zaa}(hT:zdr T):∀(n:Nat) (S:PSt) {S':PSt},SyOk S->zfP T n S=.inr S'->SyOk S'
 | 0,S,S',h,e=>by simp only [zfP,Sum.inr.injEq] at e; subst e; exact h
 | n+1,S,S',h,e=>by
  unfold zfP at e
  split at e
  ·rename_i hi
   split at e
   ·cases e
   ·rename_i S1 hx
    exact zni hT n S1 (zsw hT hi h hx) e
  ·simp only [Sum.inr.injEq] at e; subst e; exact h
structure RdOk (p:zaj):Prop where
 syms:p.zSy.length<=64
 th:p.zTh.length<=64
 init:∀s∈p.zSy,s.Init.length<=64
 ins:∀t∈p.zTh,t.Ins.length<=100000/\∀x∈t.Ins,x.zLb.length<=100000
theorem zqM:RdOk nilP:=⟨by simp [nilP],by simp [nilP],fun s h=>(by simp [nilP] at h),fun t h=>(by simp [nilP] at h)⟩
theorem zqV(s:ByteArray)(hs:s.size<=50000):RdOk (zim s).1:=by
 unfold zim
 split
 ·exact zqM
 rename_i hc
 have hT:=zko s hs (by simpa [bne] using hc)
 have hl:=hT.len
 unfold zoV
 cases hx:zfP (zaQ s).1 (zaQ s).1.length St0 with
 | inl g=>exact zqM
 | inr S =>
  have hI:=zh7 hT _ _ (inv0 _) hx
  have hy:=zni hT _ _ (fun s h=>(by simp [St0] at h)) hx
  simp only
  cases hw:zhA S.bs with
  | some f=>exact zqM
  | none =>
   refine ⟨hI.ok.syms,?_,hy,fun t ht=>?_⟩
   ·have:=zjQ S; have:=hI.ok.done; simp; omega
   ·simp only [List.mem_map] at ht
    obtain ⟨b,hb,rfl⟩:=ht
    have hb':=hI.bd b hb
    have h1:=hb'.zFi
    have h2:=hb'.ins
    refine ⟨by show b.ins.length<=_; omega,fun x hx=>by have:=hb'.labs x hx; omega⟩
end Go.Vs
end
section
namespace Go.Vs
local instance tabPalQ2:Tab:=⟨fun _=>none⟩
theorem znK:zc0=some true:=by
 unfold zc0
 rw [zjw ⟨#[115,121,109,32,120,32,50,32,55,10,116,104,114,101,97,100,10,97,58,32,106,109,112,32,97]⟩ (show (25:Nat)<=50000 by decide),zjw ⟨#[109,111,118,32,114,97,120,44,32,49]⟩ (show (10:Nat)<=50000 by decide),zyn,zym]
 simp only [Option.bind_some]
 rw [if_pos (fun _=>⟨by decide,by decide⟩)]
 rfl
theorem zmH(s:ByteArray)(hs:s.size<=50000):zcr s=some true:=by
 have ok:=zqV s hs
 unfold zcr
 rw [zjw s hs,zqJ s hs]
 simp only [Option.bind_some,beq_self_eq_true,Bool.and_self,if_true,Bool.true_and]
 rw [znZ _ _ (by have:=ok.syms; omega) (by have:=ok.th; omega) (fun s h=>by have:=ok.init s h; omega) (fun t h=>⟨by have:=(ok.ins t h).1; omega,fun x hx=>by have:=(ok.ins t h).2 x hx; omega⟩)]
 simp
end Go.Vs
end
section
namespace Go.Vs
local instance tabPalQ3:Tab:=⟨fun _=>none⟩
theorem znf{σ R:Type}{step:σ->Option (σ ⊕ R)}(Inv:σ->Prop)(Post:R->Prop)(mu:σ->Nat)(h:∀s,Inv s->(∃s',step s=some (.inl s')/\Inv s'/\mu s'<mu s)\/∃r,step s=some (.inr r)/\Post r):∀(n:Nat) (s:σ),mu s<=n->Inv s->∃r,zaP step s=some r/\Post r
 | n,s,hn,hi=>by
  rcases h s hi with ⟨s',e,i',hm⟩ | ⟨r,e,hr⟩
  ·cases n with
   | zero=>omega
   | succ n =>
    obtain ⟨r,e2,hr⟩:=znf Inv Post mu h n s' (by omega) i'
    exact ⟨r,by rw [za4 e]; exact e2,hr⟩
  ·exact ⟨r,zaH e,hr⟩
theorem zte{α:Type}[Inhabited α]{l:List α}{i:Int}(h:InB i l.length):rd l i∈l:=List.mem_of_getElem? (zjp h)
theorem zue{i:Int}{n:Nat}(h0:0<=i)(h:i<(n:Int)):InB i n:=⟨h0,by omega⟩
theorem zrk(x:zae)(syms:List ByteArray)(ha:I64 x.A.N)(hb:I64 x.B.N)(ht:x.To.size<=10)(hs:∀s∈syms,s.size<=10):(insT x syms).size<=100:=by
 have od:∀o:zap,I64 o.N->(opdT o syms).size<=33:=by
  intro o hn
  have hz:=zfd hn
  have hy:=ziy hs o.Sym
  have hr:=ziQ o.Reg
  unfold opdT
  split
  ·rw [z7]; omega
  split
  ·omega
  split
  ·omega
  split
  ·rw [z7]; omega
  split <;> simp only [ByteArray.size_append,z8,z9] <;> omega
 have ha:=od x.A ha
 have hb:=od x.B hb
 have ho:=zl9 x.Op x.Cond
 have hS:(if x.Lock then (⟨#[108,111,99,107,32]⟩:ByteArray)++opT x.Op x.Cond else opT x.Op x.Cond).size<=15:=by
  split
  ·rw [ByteArray.size_append,z10]; omega
  ·omega
 unfold insT
 split
 ·rw [z7]; omega
 simp only
 generalize (if x.Lock then (⟨#[108,111,99,107,32]⟩:ByteArray)++opT x.Op x.Cond else opT x.Op x.Cond)=S at hS ⊢
 split
 ·simp only [ByteArray.size_append,z1]; omega
 split
 ·omega
 split
 ·rw [z7]; omega
 ·simp only [ByteArray.size_append,z1,z11]; omega
theorem zr4(syms:List ByteArray)(hs:∀s∈syms,s.size<=10)(t:zad)(ht:zp6 t)(n:Nat)(hn:t.Ins.length<=n)(a:ByteArray):(thT syms a t).size<=a.size+(n * 110+7):=by
 obtain ⟨r,k,m,e1,e2,e3,e4,rfl⟩:=ht
 have each:∀x∈zdZ (r++[hltI]) m,∀a:ByteArray,(zjX syms a x).size<=a.size+110:=by
  intro x hx a
  obtain ⟨i,hi⟩:=List.getElem?_of_mem hx
  have hlen:=(List.getElem?_eq_some_iff.1 hi).1
  rw [zf3] at hlen
  obtain ⟨y,hy⟩:∃y,(r++[hltI])[i]?=some y:=⟨_,List.getElem?_eq_getElem hlen⟩
  rw [zdP hy] at hi
  have hy':BookIns y\/y=hltI:=by
   rcases List.mem_append.1 (List.mem_of_getElem? hy) with h | h
   ·exact .inl (e3 y h).toBookIns
   ·exact .inr (List.mem_singleton.1 h)
  injection hi with hi
  subst hi
  have k1:I64 (putL m i y).A.N/\I64 (putL m i y).B.N/\(putL m i y).To.size<=10:=by
   unfold putL
   rcases hy' with h | rfl
   ·have:=h.to
    exact ⟨h.a,h.b,by simpa using (by omega:y.To.size<=10)⟩
   ·exact ⟨z64,z64,show (0:Nat)<=10 by decide⟩
  have k2:((putL m i y).zLb.foldl labT a).size<=a.size+5:=by
   unfold putL
   simp only
   split
   ·simp only [List.foldl_cons,List.foldl_nil,labT,ByteArray.size_append,z4]
    have:(zdI (i:Int)).size=3:=by unfold zdI; rfl
    omega
   ·simp
  have k3:=zrk (putL m i y) syms k1.1 k1.2.1 k1.2.2 hs
  unfold zjX
  simp only [ByteArray.size_append,z2,z5]
  omega
 unfold thT
 have:=zfD (zjX syms) 110 (zdZ (r++[hltI]) m) (fun a x hx=>each x hx a) (a++(⟨#[116,104,114,101,97,100,10]⟩:ByteArray))
 have h2:(zdZ (r++[hltI]) m).length * 110<=n * 110:=Nat.mul_le_mul_right _ hn
 simp only [ByteArray.size_append,z6] at *
 omega
theorem zrL(l:List (List zaC))(hw:∀x∈l,∀y∈x,za8 y)(p1 p2:Nat)(h1:p1<=3)(h2:p2<=8) :
  ∃p,zcf l (p1:Int) (p2:Int)=some p/\zdC p=some (zgO p)/\(zgO p).size<=4000/\zjS p/\zhs p=0/\p.zSy=zeA/\(∀t∈p.zTh,zp6 t)/\p.zTh.length<=p1/\(∀t∈p.zTh,t.Ins.length<=p2+1):=by
 obtain ⟨p,e1,e2⟩:=zrM l hw p1 p2 (by omega) (by omega)
 obtain ⟨p',e1',hsy,hth,hlen,hck,hi⟩:=zpY l hw p1 p2 (by omega) (by omega)
 rw [e1] at e1'
 obtain rfl:=Option.some.inj e1'
 refine ⟨p,e1,zn8 p e2,?_,e2,hck,hsy,hth,hlen,hi⟩
 unfold zgO
 have b:(zhs p != 0)=false:=by rw [hck]; rfl
 rw [b]
 simp only [Bool.false_eq_true,if_false]
 have hs:∀s∈zc3 p,s.size<=10:=by
  unfold zc3; rw [hsy]; decide
 have h3:=zfD (thT (zc3 p)) 997 p.zTh (fun a t ht=>by have:=zr4 _ hs t (hth t ht) 9 (by have:=hi t ht; omega) a; omega) (p.zSy.foldl symT ⟨#[]⟩)
 have h4:(p.zSy.foldl symT ⟨#[]⟩).size<=100:=by rw [hsy]; decide +kernel
 have h5:p.zTh.length * 997<=3 * 997:=Nat.mul_le_mul_right _ (by omega)
 omega
end Go.Vs
end
section
namespace Go.Vs
local instance tabPalQ4:Tab:=⟨fun _=>none⟩
theorem zpJ{p:Int}(h:I64 p)(n:Int)(hn:0<n)(hn2:n<=1000000000):∃i,zaV p n=some i/\0<=i/\i<n:=by
 rw [zaV,if_pos (by omega)]
 have h1:=Int.tmod_lt_of_pos p hn
 have h2:-n<Int.tmod p n:=by
  have:=Int.tmod_lt_of_pos (-p) hn
  rw [Int.neg_tmod] at this; omega
 by_cases hc:Int.tmod p n<0
 ·rw [if_pos (by simpa using hc),zbO ⟨by omega,by omega⟩]
  exact ⟨_,rfl,by omega,by omega⟩
 ·rw [if_neg (by simpa using hc)]
  exact ⟨_,rfl,by omega,by omega⟩
end Go.Vs
end
section
namespace Go.Vs
local instance tabPalQ5:Tab:=⟨fun _=>none⟩
def szs(l:List KT):Nat:=(l.map fun a=>a.2.size+1).sum
theorem zmJ:∀l:List It,(∀a∈l,ItOk a)->szs (tkB l)<=2 * (itB l).size
 | [],_=>by simp [tkB,toks,szs]
 | a::l,h=>by
  have ih:=zmJ l fun b hb=>h b (by simp [hb])
  have e:(itB (a::l)).size=(flat a.2).length+(itB l).size:=by rw [zem,ByteArray.size_append,zdK]
  obtain ⟨hd,h1⟩:=h a (by simp)
  rcases h1 with ⟨k0,x,e2,_⟩ | ⟨k0,x,w,e2,_⟩
  ·have:tkB (a::l)=tkB l:=by
    have:toks (a::l)=toks l:=by simp [toks,k0]
    unfold tkB; rw [this]
   rw [this,e]; omega
  ·have:tkB (a::l)=ka a::tkB l:=by
    have:toks (a::l)=a::toks l:=by
     have:(a.1 != 0)=true:=by simp [k0]
     simp [toks,List.filter_cons,this]
    unfold tkB; rw [this]; rfl
   rw [this,e]
   have h3:(ka a).2.size=(flat a.2).length:=by unfold ka; rw [zdK]
   have h4:1<=(flat a.2).length:=by
    have:=zrA hd
    rw [e2] at this ⊢; simp at this ⊢; omega
   unfold szs at ih ⊢
   rw [List.map_cons,List.sum_cons,h3]; omega
theorem zoF:∀(l:List zaa) (i:Nat) (x:zaa),l[i]?=some x->szs ((l.map kt).take (i+1))=szs ((l.map kt).take i)+(x.Text.size+1):=by
 intro l i x h
 have:(l.map kt).take (i+1)=(l.map kt).take i++[kt x]:=by
  rw [List.take_succ,List.getElem?_map,h]; rfl
 rw [this]
 unfold szs
 rw [List.map_append,List.sum_append]; simp [kt]
theorem zqp(l:List KT)(i:Nat):szs (l.take i)<=szs l:=by
 conv=>rhs; rw [← List.take_append_drop i l]
 unfold szs
 rw [List.map_append,List.sum_append]; omega
theorem zqk(v5:List zaa × zak)(v7:Int)(h0:0<=v7)(p2:Int)(hp:I64 p2)(L:List ByteArray)(h1:0<L.length)(h2:L.length<=1000)(hw:∀w∈L,w.size<=18000)(hs:szs (v5.1.map kt)<=9000) :
  ∃r,zaP (zb1 v5 v7 p2 L) ((⟨#[]⟩:ByteArray),0)=some r/\r.size<=28000:=by
 have hlen:v5.1.length<=9000:=by
  have:∀l:List KT,l.length<=szs l:=by
   intro l
   induction l with
   | nil=>simp [szs]
   | cons a l ih=>unfold szs at ih ⊢; rw [List.map_cons,List.sum_cons,List.length_cons]; omega
  have:=this (v5.1.map kt)
  rw [List.length_map] at this; omega
 refine znf (fun s:ByteArray × Int=>0<=s.2/\s.2<=(v5.1.length:Int)/\s.1.size<=szs ((v5.1.map kt).take s.2.toNat)+(if v7<s.2 then 18001 else 0)) _ (fun s:ByteArray × Int=>v5.1.length-s.2.toNat) ?_ _ ((⟨#[]⟩:ByteArray),0) (Nat.le_refl _) ⟨by simp,by simp,Nat.zero_le _⟩
 rintro ⟨s,j⟩ ⟨a0,a1,a2⟩
 simp only at a0 a1 a2
 simp only [zb1]
 have z1:(⟨#[32]⟩:ByteArray).size=1:=rfl
 have hsz:=zqp (v5.1.map kt) j.toNat
 have hs2:s.size<=27001:=by split at a2 <;> omega
 have next:∀w:ByteArray,w.size<=18000->∃s',zbt s j w=some (.inl (s',IntKind.wrap .i64 (j+1)))/\s'.size=s.size+(w.size+1):=by
  intro w hw
  unfold zbt zcL
  rw [if_pos (catB (by omega)),if_pos (catB (by rw [ByteArray.size_append]; omega))]
  exact ⟨_,rfl,by rw [ByteArray.size_append,ByteArray.size_append]; omega⟩
 by_cases hj:decide (j<(v5.1.length:Int))=true
 ·rw [if_pos hj]
  simp only [decide_eq_true_eq] at hj
  have hb:InB j v5.1.length:=zue a0 hj
  rw [if_pos hb]
  have hwr:IntKind.wrap .i64 (j+1)=j+1:=zbO ⟨by omega,by omega⟩
  have hg:v5.1[j.toNat]?=some (rd v5.1 j):=zjp hb
  have ht:=zoF v5.1 j.toNat _ hg
  have hle:=zqp (v5.1.map kt) (j.toNat+1)
  have hj1:(j+1).toNat=j.toNat+1:=by omega
  by_cases hk:(j==v7)=true
  ·rw [if_pos hk]
   have hk':j=v7:=by simpa using hk
   obtain ⟨k,e,k0,k1⟩:=zm5 hp (L.length:Int) (by omega) (by omega)
   have hkb:=zue k0 k1
   rw [e]
   simp only [Option.bind_some]
   rw [if_pos hkb]
   obtain ⟨s',e1,e2⟩:=next _ (hw _ (zte hkb))
   have:=hw _ (zte hkb)
   rw [e1]
   refine .inl ⟨_,rfl,⟨?_,?_,?_⟩,?_⟩ <;> simp only [hwr]
   ·omega
   ·omega
   ·rw [hj1,ht,if_pos (by omega)]
    rw [if_neg (by omega)] at a2
    omega
   ·omega
  ·rw [if_neg hk]
   have hk':j≠v7:=by simpa using hk
   obtain ⟨s',e1,e2⟩:=next (rd v5.1 j).Text (by omega)
   rw [e1]
   refine .inl ⟨_,rfl,⟨?_,?_,?_⟩,?_⟩ <;> simp only [hwr]
   ·omega
   ·omega
   ·rw [hj1,ht]
    by_cases hv:v7<j
    ·rw [if_pos hv] at a2; rw [if_pos (by omega)]; omega
    ·rw [if_neg hv] at a2; rw [if_neg (by omega)]; omega
   ·omega
 ·rw [if_neg hj]
  exact .inr ⟨_,rfl,by omega⟩
theorem zph{p:zaj}(h:zjS p):NumG p:=⟨fun s hs=>⟨(h.sym s hs).size,(h.sym s hs).init⟩,fun t ht x hx=>⟨((h.th t ht).ins x hx).a,((h.th t ht).ins x hx).b⟩⟩
theorem zjZ(l:List (List zaC))(hw:∀x∈l,∀y∈x,za8 y)(at_ with_:Int)(ha:I64 at_)(hg:I64 with_):zdt l at_ with_=some true:=by
 obtain ⟨p,e1,e2,e3,e4,e5,_⟩:=zrL l hw 2 5 (by omega) (by omega)
 obtain ⟨f1,f2⟩:=znT e5 (zph e4)
 have hsz:szs (tkB (zkC p)++[(4,⟨#[]⟩)])<=9000:=by
  have hc:=zrI e5
  have h1:=zmJ (zkC p) (zoS hc (zph e4))
  rw [← zoH p e5 fun t ht x hx=>(zi1 p _ _ (hc.th t ht).ins x hx).1] at h1
  have:szs [((4:Int),(⟨#[]⟩:ByteArray))]=1:=rfl
  have e:szs (tkB (zkC p)++[(4,⟨#[]⟩)])=szs (tkB (zkC p))+1:=by unfold szs; rw [List.map_append,List.sum_append]; rfl
  omega
 unfold zdt
 rw [show zcf l 2 5=some p from e1]
 simp only [Option.bind_some]
 rw [e2]
 simp only [Option.bind_some]
 rw [ziR _ (by unfold Sm; omega)]
 simp only [Option.bind_some]
 rw [← f2] at hsz
 have hpos:0<(zaQ (zgO p)).1.length:=by
  have:=congrArg List.length f2
  simp at this; omega
 have hlen:(zaQ (zgO p)).1.length<=2000000:=zpq _ (by unfold Sm; omega)
 obtain ⟨k,g1,g2,g3⟩:=zpJ ha ((zaQ (zgO p)).1.length:Int) (by omega) (by omega)
 rw [g1]
 simp only [Option.bind_some]
 have hb:=zue g2 g3
 have hk:(rd (zaQ (zgO p)).1 k).Text.size<=8999:=by
  have h1:=zoF _ k.toNat _ (zjp hb)
  have h2:=zqp ((zaQ (zgO p)).1.map kt) (k.toNat+1)
  omega
 have z1:(⟨#[32]⟩:ByteArray).size=1:=rfl
 have hk2:((rd (zaQ (zgO p)).1 k).Text++(⟨#[32]⟩:ByteArray)).size<=9000:=by rw [ByteArray.size_append]; omega
 rw [if_pos hb,if_pos (catB (by omega)),if_pos hb,if_pos (catB (by omega))]
 have hk3:(((rd (zaQ (zgO p)).1 k).Text++(⟨#[32]⟩:ByteArray))++(rd (zaQ (zgO p)).1 k).Text).size<=18000:=by rw [ByteArray.size_append]; omega
 generalize ((rd (zaQ (zgO p)).1 k).Text++(⟨#[32]⟩:ByteArray))++(rd (zaQ (zgO p)).1 k).Text=W at hk3
 generalize hL:(⟨#[]⟩:ByteArray)::W::_=L1
 have hl:0<L1.length/\L1.length<=1000/\∀w∈L1,w.size<=18000:=by
  rw [← hL]
  refine ⟨by simp,by simp,fun w hw=>?_⟩
  rcases List.mem_cons.1 hw with rfl | hw
  ·decide
  rcases List.mem_cons.1 hw with rfl | hw
  ·exact hk3
  ·have aux:∀l:List ByteArray,l.all (fun w=>decide (w.size<=18000))=true->∀w∈l,w.size<=18000:=fun l h w hw=>by simpa using (List.all_eq_true.1 h) w hw
   exact aux _ (by decide) w hw
 obtain ⟨r,r1,r2⟩:=zqk (zaQ (zgO p)) k g2 with_ hg L1 hl.1 hl.2.1 hl.2.2 hsz
 rw [r1]
 simp only [Option.bind_some]
 rw [zmH _ (by omega)]
 simp only [Option.bind_some,if_true,znK]
 rfl
end Go.Vs
end
