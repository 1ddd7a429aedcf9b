import Derived.Test.YtocjejladeeckaaGreatDoorPP1
import Derived.Test.YtocjejladeeckaaGreatDoorPP4
import Derived.Test.YtocjejladeeckaaGreatDoorPalN
import Derived.Test.YtocjejladeeckaaGreatDoorPalO
import Derived.Test.YtocjejladeeckaaGreatDoorPS1
set_option linter.all false
section
namespace Go.Vs
local instance tabPalPT:Tab:=⟨fun _=>none⟩
def TkP(t:zaa):Prop:=(t.Kind=1->t.Text≠⟨#[]⟩)/\t.Text.size<=1000000
section
variable {s:ByteArray} {v:List zau} (g:Good s v) {i:Int} {l:List zaa} (hi:InB i v.length) (hl:l.length<=1000000)
include g hi hl
theorem zto{k kind k':Int}{l':List zaa}(hk:i<k)(hkn:k<=v.length)(h:tail v s i l k kind=.inl (k',l'))(hp:∀t∈l,TkP t):∀t∈l',TkP t:=by
 obtain ⟨_,hin,_,_,b1,b2⟩:=zn4 g hi hk hkn hl
 have hsm:=g.sm
 unfold Sm at hsm
 obtain ⟨a1,a2,a3⟩:=g.at0 _ hin
 obtain ⟨c1,c2,c3⟩:=g.at0 _ hi
 have hle:=g.le i (k-1) hi hin (by omega)
 unfold tail at h
 dsimp only at h
 split at h
 ·cases h
 split at h
 ·cases h
 injection h with h
 injection h with h1 h2
 subst h2
 intro t ht
 rw [List.mem_append,List.mem_singleton] at ht
 rcases ht with ht | rfl
 ·exact hp t ht
 ·have hsz:(s.extract (rd v i).At.toNat ((rd v (k-1)).At+(rd v (k-1)).Size).toNat).size=min ((rd v (k-1)).At+(rd v (k-1)).Size).toNat s.size-(rd v i).At.toNat:=by
   simp
  refine ⟨fun _ e=>?_,?_⟩
  ·have h0:(s.extract (rd v i).At.toNat ((rd v (k-1)).At+(rd v (k-1)).Size).toNat).size=0:=by
    show (zaa.mk kind (rd v i).Line (rd v i).Col (s.extract (rd v i).At.toNat ((rd v (k-1)).At+(rd v (k-1)).Size).toNat)).Text.size=0
    rw [e]; rfl
   omega
  ·show (s.extract (rd v i).At.toNat ((rd v (k-1)).At+(rd v (k-1)).Size).toNat).size<=_
   omega
theorem zr5{k:Int}{l':List zaa}(h:zh6 v s i l=.inl (k,l'))(hp:∀t∈l,TkP t):∀t∈l',TkP t:=by
 obtain ⟨h0,h1,hv⟩:=zod g hi hl
 obtain ⟨kk,ek,_,_,k1,k2⟩:=zjy v hv v.length (i+1) (by omega) (by omega) (by omega)
 obtain ⟨r,er,_,_,r1⟩:=zjB v hv v.length (i+1) (by omega) (by omega) (by omega)
 unfold zh6 at h
 rw [← er,← ek] at h
 repeat' split at h
 all_goals first
  | (cases h; done)
  | exact zto g hi hl (by omega) (by omega) h hp
  | (injection h with h; injection h with h3 h4; subst h4; exact hp)
end
theorem zmf{v:List zau}:∀(n:Nat) (i:Int) {q},remC v n i=.inr q->q.2.Code≠0
 | 0,i,q,h=>by simp [remC] at h
 | n+1,i,q,h=>by
  unfold remC at h
  split at h
  ·exact zmf n _ h
  ·rename_i r hr
   unfold zjp at hr
   repeat' split at hr
   all_goals first | (cases hr; done) | (injection hr with hr; subst hr; cases h; simp) | (injection hr with hr; subst hr; cases h)
theorem zpc{v:List zau}{s:ByteArray}{i:Int}{l:List zaa}{k kind:Int}{q}(h:tail v s i l k kind=.inr (.inr q)):q.2.Code≠0:=by
 unfold tail at h
 dsimp only at h
 repeat' split at h
 all_goals first | (cases h; done) | (injection h with h; injection h with h; subst h; simp)
theorem zol{v:List zau}{s:ByteArray}{i:Int}{l:List zaa}{q}(h:zh6 v s i l=.inr (.inr q)):q.2.Code≠0:=by
 unfold zh6 at h
 repeat' split at h
 all_goals first
  | (cases h; done)
  | exact zpc h
  | (injection h with h; injection h with h; subst h; first | (simp; done) | exact zmf _ _ (by assumption))
theorem zrE{s:ByteArray}{v:List zau}(g:Good s v):∀(n:Nat) (i:Int) (l:List zaa),0<=i->i<=v.length->l.length<=i.toNat->(∀t∈l,TkP t)->(∀L,tokC v s n i l=.inl L->∀t∈L,TkP t)/\∀q,tokC v s n i l=.inr q->q.2.Code≠0
 | 0,i,l,h0,hv,hl,hp=>⟨fun L e=>by simp only [tokC,Sum.inl.injEq] at e; subst e; exact hp,fun q e=>by simp [tokC] at e⟩
 | n+1,i,l,h0,hv,hl,hp=>by
  have h1:=g.sm
  have h2:=g.len
  unfold Sm at h1
  rw [tokC]
  by_cases hlt:i<v.length
  ·rw [if_pos hlt]
   have hin:InB i v.length:=⟨h0,by omega⟩
   cases ht:zh6 v s i l with
   | inl q =>
    obtain ⟨k,l'⟩:=q
    obtain ⟨n1,n2,n3⟩:=znL g hin (by omega) ht
    exact zrE g n k l' (by omega) n2 (by omega) (zr5 g hin (by omega) ht hp)
   | inr r =>
    cases r with
    | inl L =>
     exfalso
     unfold zh6 tail at ht
     dsimp only at ht
     repeat' split at ht
     all_goals first | cases ht | (injection ht with ht; cases ht)
    | inr q=>exact ⟨fun L e=>(by cases e),fun q' e=>by cases e; exact zol ht⟩
  ·rw [if_neg hlt]
   exact ⟨fun L e=>(by cases e; exact hp),fun q e=>(by cases e)⟩
theorem zjO(s:ByteArray)(hs:s.size<=50000)(hc:(zaZ s).2.Code=0):zdk (zaZ s).1:=by
 have hsm:Sm s:=by unfold Sm; omega
 have g:=zi5 s hsm
 have hlen:=g.len
 obtain ⟨p1,p2⟩:=zrE g (zbJ s).length 0 [] (by omega) (by omega) (by simp) (fun t ht=>by simp at ht)
 obtain ⟨_,_,p3⟩:=zlk g (zbJ s).length 0 [] (by omega) (by omega) (by simp) (by simp)
 unfold zaZ at hc ⊢
 cases hx:tokC (zbJ s) s (zbJ s).length 0 [] with
 | inr q =>
  rw [hx] at hc
  exact absurd hc (p2 q hx)
 | inl l =>
  have q1:=p1 l hx
  have q3:=p3 l hx
  have hmem:∀t∈l++[(⟨4,(zi8 (zbJ s)).1,(zi8 (zbJ s)).2,⟨#[]⟩⟩:zaa)],TkP t:=fun t ht=>by
   rw [List.mem_append,List.mem_singleton] at ht
   rcases ht with ht | rfl
   ·exact q1 t ht
   ·exact ⟨fun e=>(by simp at e),Nat.zero_le _⟩
  refine ⟨by simp; omega,fun t ht=>(hmem t ht).1,fun i hi hk=>?_,fun t ht=>(hmem t ht).2⟩
  simp only [List.length_append,List.length_singleton] at hi ⊢
  by_cases he:i=l.length
  ·exfalso
   subst he
   apply hk
   show (rd (l++[_]) (l.length:Int)).Kind=4
   have:rd (l++[(⟨4,(zi8 (zbJ s)).1,(zi8 (zbJ s)).2,⟨#[]⟩⟩:zaa)]) (l.length:Int)=⟨4,(zi8 (zbJ s)).1,(zi8 (zbJ s)).2,⟨#[]⟩⟩:=zcb (by simp)
   rw [this]
  ·omega
end Go.Vs
end
section
namespace Go.Vs
local instance tabPalPF:Tab:=⟨fun _=>none⟩
def qB(Q:zab):(List zaa) × Int × (List zam) × (List zad) × (List zaa) × (List (List zaa)) × (List (List zaa)) × (List Int) × (List ByteArray) × (List ByteArray) × Int × Int × Int:=(Q.T,Q.I,Q.P.zSy,Q.P.zTh,Q.zHd,Q.First,Q.To,Q.Left,Q.All,Q.Wait,Q.Bad.Code,Q.Bad.Line,Q.Bad.Col)
theorem zmg(T:List zaa)(v1:(List zaa) × zak)(h1:v1.1=T)(f:zak)(hT:zdk T):∀(n:Nat) (S:PSt),Inv T S->T.length-S.at_<=n->zaR (zbs v1) (qB (stR T S f))=some (match zfF T n S with | .inl g=>.inr (nilP,g) | .inr S'=>.inl (qB (stR T S' f)))
 | 0,S,h,hn=>by
  have hi:¬S.at_<T.length:=by omega
  refine zaI ?_
  simp only [qB,zbs,zfF,h1]
  rw [if_neg (by simpa [stR] using hi)]
 | n+1,S,h,hn=>by
  unfold zfF
  by_cases hi:S.at_<T.length
  ·rw [if_pos hi]
   obtain ⟨ok,R',e1,e2⟩:=zqX T S f hT h.ok hi h.none_
   have step:zbs v1 (qB (stR T S f))=(if (!ok)=true then some (.inr (.inr (nilP,R'.Bad))) else some (.inl (qB R'))):=by
    simp only [qB,zbs,h1]
    rw [if_pos (by simpa [stR] using hi)]
    have e1':zb7 ⟨(stR T S f).T,(stR T S f).I,⟨(stR T S f).P.zSy,(stR T S f).P.zTh⟩,(stR T S f).zHd,(stR T S f).First,(stR T S f).To,(stR T S f).Left,(stR T S f).All,(stR T S f).Wait,⟨(stR T S f).Bad.Code,(stR T S f).Bad.Line,(stR T S f).Bad.Col⟩⟩=some (ok,R'):=e1
    rw [e1']
    rfl
   cases hx:zjr T S with
   | inl g =>
    rw [hx] at e2
    obtain ⟨rfl,hf⟩:=e2
    rw [if_pos (by decide)] at step
    rw [zaI step,hf]
   | inr S' =>
    rw [hx] at e2
    obtain ⟨rfl,rfl⟩:=e2
    rw [if_neg (by decide)] at step
    rw [za8 step]
    obtain ⟨i1,i2⟩:=zj2 hT h hi hx
    exact zmg T v1 h1 f hT n S' i1 (by omega)
  ·rw [if_neg hi]
   refine zaI ?_
   simp only [qB,zbs,h1]
   rw [if_neg (by simpa [stR] using hi)]
theorem zoz(T:List zaa)(S:PSt)(f:zak)(hT:zdk T)(h:Inv T S):zaR zcS (0,qB (stE T S f))=some (match zhe S.bs with | some g=>.inr (nilP,g) | none=>.inl (qB (stE T S f))):=by
 have hl:=hT.len
 have hbl:=zjm S
 have hd:=h.ok.done
 let hh:Option zak->((List zaa) × Int × (List zam) × (List zad) × (List zaa) × (List (List zaa)) × (List (List zaa)) × (List Int) × (List ByteArray) × (List ByteArray) × Int × Int × Int) ⊕ (zan × zak):=fun o=>match o with
  | none=>.inl (qB (stE T S f))
  | some g=>.inr (nilP,g)
 have L:=zc5 S.bs (fun i (_:Unit)=>(i,qB (stE T S f))) zcS (cvF zip hh) (fun _=>hh none) (fun _ _=>True) (fun i x hx a _=>⟨?_,fun _ _=>trivial⟩) (fun a _=>?_) () trivial
 rotate_left
 ·have hil:=(List.getElem?_eq_some_iff.1 hx).1
  obtain ⟨ok,R',e1,e2⟩:=zqZ T S f hx hl (h.bd x (List.mem_of_getElem? hx))
  have hdec:decide ((i:Int)<((stE T S f).P.zTh.length:Int))=true:=by simpa [stE] using hil
  change (if decide ((i:Int)<((stE T S f).P.zTh.length:Int))=true then _ else _)=_
  rw [if_pos hdec]
  have e1':zbC ⟨(stE T S f).T,(stE T S f).I,⟨(stE T S f).P.zSy,(stE T S f).P.zTh⟩,(stE T S f).zHd,(stE T S f).First,(stE T S f).To,(stE T S f).Left,(stE T S f).All,(stE T S f).Wait,⟨(stE T S f).Bad.Code,(stE T S f).Bad.Line,(stE T S f).Bad.Col⟩⟩ (i:Int)=some (ok,R'):=e1
  change ((zbC ⟨(stE T S f).T,(stE T S f).I,⟨(stE T S f).P.zSy,(stE T S f).P.zTh⟩,(stE T S f).zHd,(stE T S f).First,(stE T S f).To,(stE T S f).Left,(stE T S f).All,(stE T S f).Wait,⟨(stE T S f).Bad.Code,(stE T S f).Bad.Line,(stE T S f).Bad.Col⟩⟩ (i:Int)).bind _)=_
  rw [e1']
  unfold cvF zip
  cases hw:zjL x with
  | some g =>
   rw [hw] at e2
   obtain ⟨rfl,hf⟩:=e2
   simp only [Option.bind_some,Bool.not_false,if_true,hf]
   rfl
  | none =>
   rw [hw] at e2
   obtain ⟨rfl,rfl⟩:=e2
   simp only [Option.bind_some,Bool.not_true,Bool.false_eq_true,if_false]
   rw [wi (by omega)]
   rfl
 ·change (if decide ((S.bs.length:Int)<((stE T S f).P.zTh.length:Int))=true then _ else _)=_
  rw [if_neg (by simp [stE])]
  rfl
 rw [zft zip (fun _=>none) hh] at L
 rw [L]
 unfold zhe
 cases zcz zip (fun _=>none) 0 () S.bs <;> rfl
theorem zlr(s:ByteArray)(hs:Sm s)(hT:(zaZ s).2.Code=0->zdk (zaZ s).1):zdA s=some (zhY s):=by
 unfold zdA zhY
 rw [zlq s hs]
 simp only [Option.bind_some]
 by_cases hc:((zaZ s).2.Code != 0)=true
 ·rw [if_pos hc,if_pos hc]; rfl
 rw [if_neg hc,if_neg hc]
 have hT':=hT (by simpa [bne] using hc)
 have L:=zmg (zaZ s).1 (zaZ s) rfl ⟨0,0,0⟩ hT' (zaZ s).1.length St0 (inv0 _) (by simp [St0])
 have L':zaR (zbs (zaZ s)) ((zaZ s).1,0,[],[],[],[],[],[],[],[],0,0,0)=_:=L
 rw [L']
 unfold znY
 cases hx:zfF (zaZ s).1 (zaZ s).1.length St0 with
 | inl g=>rfl
 | inr S =>
  have hI:=zhJ hT' _ _ (inv0 _) hx
  simp only [Option.bind_some,zbY]
  have hsh:=zqV (zaZ s).1 S ⟨0,0,0⟩ (by have:=zjm S; have:=hI.ok.done; omega) hI.none_
  have hsh':zbc ⟨(qB (stR (zaZ s).1 S ⟨0,0,0⟩)).1,(qB (stR (zaZ s).1 S ⟨0,0,0⟩)).2.1,⟨(qB (stR (zaZ s).1 S ⟨0,0,0⟩)).2.2.1,(qB (stR (zaZ s).1 S ⟨0,0,0⟩)).2.2.2.1⟩,(qB (stR (zaZ s).1 S ⟨0,0,0⟩)).2.2.2.2.1,(qB (stR (zaZ s).1 S ⟨0,0,0⟩)).2.2.2.2.2.1,(qB (stR (zaZ s).1 S ⟨0,0,0⟩)).2.2.2.2.2.2.1,(qB (stR (zaZ s).1 S ⟨0,0,0⟩)).2.2.2.2.2.2.2.1,(qB (stR (zaZ s).1 S ⟨0,0,0⟩)).2.2.2.2.2.2.2.2.1,(qB (stR (zaZ s).1 S ⟨0,0,0⟩)).2.2.2.2.2.2.2.2.2.1,⟨(qB (stR (zaZ s).1 S ⟨0,0,0⟩)).2.2.2.2.2.2.2.2.2.2.1,(qB (stR (zaZ s).1 S ⟨0,0,0⟩)).2.2.2.2.2.2.2.2.2.2.2.1,(qB (stR (zaZ s).1 S ⟨0,0,0⟩)).2.2.2.2.2.2.2.2.2.2.2.2⟩⟩=_:=hsh
  rw [hsh']
  simp only [Option.bind_some]
  have W:=zoz (zaZ s).1 S ⟨0,0,0⟩ hT' hI
  have W':zaR zcS (0,(stE (zaZ s).1 S ⟨0,0,0⟩).T,(stE (zaZ s).1 S ⟨0,0,0⟩).I,(stE (zaZ s).1 S ⟨0,0,0⟩).P.zSy,(stE (zaZ s).1 S ⟨0,0,0⟩).P.zTh,(stE (zaZ s).1 S ⟨0,0,0⟩).zHd,(stE (zaZ s).1 S ⟨0,0,0⟩).First,(stE (zaZ s).1 S ⟨0,0,0⟩).To,(stE (zaZ s).1 S ⟨0,0,0⟩).Left,(stE (zaZ s).1 S ⟨0,0,0⟩).All,(stE (zaZ s).1 S ⟨0,0,0⟩).Wait,(stE (zaZ s).1 S ⟨0,0,0⟩).Bad.Code,(stE (zaZ s).1 S ⟨0,0,0⟩).Bad.Line,(stE (zaZ s).1 S ⟨0,0,0⟩).Bad.Col)=_:=W
  rw [W']
  cases hw:zhe S.bs with
  | some g=>rfl
  | none=>rfl
theorem zi4(s:ByteArray)(hs:s.size<=50000):zet s=some (zhY s):=zky s (by unfold Sm; omega) (zjO s hs)
theorem zpu(s:ByteArray)(hs:s.size<=50000):zdA s=some (zhY s):=zlr s (by unfold Sm; omega) (zjO s hs)
end Go.Vs
end
section
namespace Go.Vs
local instance tabPalQ1:Tab:=⟨fun _=>none⟩
set_option maxRecDepth 100000
theorem zwA:zhY ⟨#[115,121,109,32,120,32,50,32,55,10,116,104,114,101,97,100,10,97,58,32,106,109,112,32,97]⟩=(⟨[⟨⟨#[120]⟩,2,[7]⟩],[⟨[⟨10,false,0,⟨0,0,0,0⟩,⟨0,0,0,0⟩,⟨#[97]⟩,[⟨#[97]⟩]⟩]⟩]⟩,⟨0,0,0⟩):=by
 rfl
theorem zwz:zhY ⟨#[109,111,118,32,114,97,120,44,32,49]⟩=(⟨[],[]⟩,⟨4,1,1⟩):=by
 rfl
def SyOk(S:PSt):Prop:=∀s∈S.syms,s.Init.length<=64
theorem zq9{T:List zaa}{S S':PSt}(hT:zdk T)(hi:S.at_<T.length)(hs:SyOk S)(h:zjr T S=.inr S'):SyOk S':=by
 unfold zjr at h
 cases hy:zf1 T S with
 | inl g=>rw [hy] at h; cases h
 | inr S1 =>
  have h1:SyOk S1:=by
   unfold zf1 at hy
   split at hy
   ·cases hy; exact hs
   split at hy
   ·rename_i h1
    have hk:((tk T S.at_).Kind==1)=true:=by simp only [Bool.and_eq_true] at h1; exact h1.1
    have hi1:S.at_+1<T.length:=hT.next _ hi (zd4 hk (by decide))
    unfold symP at hy
    split at hy
    ·cases hy
    split at hy
    ·cases hy
    split at hy
    ·cases hy
    rename_i hnp
    have hi2:S.at_+2<T.length:=hT.next (S.at_+1) hi1 (by have:=zhH hnp; omega)
    split at hy
    ·cases hy
    split at hy
    ·cases hy
    rename_i h2
    have h2':(tk T (S.at_+2)).Kind=2:=by simpa [bne] using h2
    have hi3:S.at_+3<T.length:=hT.next (S.at_+2) hi2 (by show (tk T (S.at_+2)).Kind≠4; omega)
    split at hy
    ·cases hy
    rename_i hr
    simp only [Bool.or_eq_true,decide_eq_true_eq,not_or,Int.not_lt,Int.not_gt_eq] at hr
    split at hy
    ·cases hy
    rename_i j l hx
    obtain ⟨a,b,c⟩:=zgZ hT (by omega) _ _ _ hi3 (by simp; omega) hx
    cases hy
    intro s hm
    simp only [List.mem_append,List.mem_singleton] at hm
    rcases hm with hm | rfl
    ·exact hs s hm
    ·show l.length<=64; omega
   split at hy
   ·unfold thrP at hy
    split at hy
    ·cases hy
    cases hy; exact hs
   ·unfold zmc at hy
    split at hy
    ·cases hy
    split at hy
    ·cases hy
    split at hy
    ·cases hy; exact hs
    split at hy
    ·cases hy
    cases hy; exact hs
  rw [hy] at h
  unfold zkF at h
  simp only at h
  split at h
  ·cases h
  ·cases h; exact h1
theorem zmw{T:List zaa}(hT:zdk T):∀(n:Nat) (S:PSt) {S':PSt},SyOk S->zfF T n S=.inr S'->SyOk S'
 | 0,S,S',h,e=>by simp only [zfF,Sum.inr.injEq] at e; subst e; exact h
 | n+1,S,S',h,e=>by
  unfold zfF at e
  split at e
  ·rename_i hi
   split at e
   ·cases e
   ·rename_i S1 hx
    exact zmw hT n S1 (zq9 hT hi h hx) e
  ·simp only [Sum.inr.injEq] at e; subst e; exact h
structure RdOk (p:zan):Prop where
 syms:p.zSy.length<=64
 th:p.zTh.length<=64
 init:∀s∈p.zSy,s.Init.length<=64
 ins:∀t∈p.zTh,t.Ins.length<=100000/\∀x∈t.Ins,x.zLb.length<=100000
theorem zpx:RdOk nilP:=⟨by simp [nilP],by simp [nilP],fun s h=>(by simp [nilP] at h),fun t h=>(by simp [nilP] at h)⟩
theorem zpF(s:ByteArray)(hs:s.size<=50000):RdOk (zhY s).1:=by
 unfold zhY
 split
 ·exact zpx
 rename_i hc
 have hT:=zjO s hs (by simpa [bne] using hc)
 have hl:=hT.len
 unfold znY
 cases hx:zfF (zaZ s).1 (zaZ s).1.length St0 with
 | inl g=>exact zpx
 | inr S =>
  have hI:=zhJ hT _ _ (inv0 _) hx
  have hy:=zmw hT _ _ (fun s h=>(by simp [St0] at h)) hx
  simp only
  cases hw:zhe S.bs with
  | some f=>exact zpx
  | none =>
   refine ⟨hI.ok.syms,?_,hy,fun t ht=>?_⟩
   ·have:=zjm S; have:=hI.ok.done; simp; omega
   ·simp only [List.mem_map] at ht
    obtain ⟨b,hb,rfl⟩:=ht
    have hb':=hI.bd b hb
    have h1:=hb'.zFi
    have h2:=hb'.ins
    refine ⟨by show b.ins.length<=_; omega,fun x hx=>by have:=hb'.labs x hx; omega⟩
end Go.Vs
end
section
namespace Go.Vs
local instance tabPalQ2:Tab:=⟨fun _=>none⟩
theorem zmT:zd1=some true:=by
 unfold zd1
 rw [zi4 ⟨#[115,121,109,32,120,32,50,32,55,10,116,104,114,101,97,100,10,97,58,32,106,109,112,32,97]⟩ (show (25:Nat)<=50000 by decide),zi4 ⟨#[109,111,118,32,114,97,120,44,32,49]⟩ (show (10:Nat)<=50000 by decide),zwA,zwz]
 simp only [Option.bind_some]
 rw [if_pos (fun _=>⟨by decide,by decide⟩)]
 rfl
theorem zl4(s:ByteArray)(hs:s.size<=50000):zd0 s=some true:=by
 have ok:=zpF s hs
 unfold zd0
 rw [zi4 s hs,zpu s hs]
 simp only [Option.bind_some,beq_self_eq_true,Bool.and_self,if_true,Bool.true_and]
 rw [zm7 _ _ (by have:=ok.syms; omega) (by have:=ok.th; omega) (fun s h=>by have:=ok.init s h; omega) (fun t h=>⟨by have:=(ok.ins t h).1; omega,fun x hx=>by have:=(ok.ins t h).2 x hx; omega⟩)]
 simp
end Go.Vs
end
section
namespace Go.Vs
local instance tabPalQ3:Tab:=⟨fun _=>none⟩
theorem catS{a b:ByteArray}{m n:Nat}(h1:a.size<=m)(h2:b.size<=n)(h:m+n<=5000000000):zco a b:=catB (by omega)
theorem zqt{a b:ByteArray}{m n:Nat}(h1:a.size<=m)(h2:b.size<=n):(a++b).size<=m+n:=by rw [ByteArray.size_append]; omega
theorem zpY(x:zae)(syms:List ByteArray)(ha:I64 x.A.N)(hb:I64 x.B.N)(ht:x.To.size<=10)(hs:∀s∈syms,s.size<=10):(insT x syms).size<=100:=by
 have od:∀o:zap,I64 o.N->(opdT o syms).size<=33:=by
  intro o hn
  have hz:=ze4 hn
  have hy:=zib hs o.Sym
  have hr:=ziu o.Reg
  unfold opdT
  split
  ·rw [z7]; omega
  split
  ·omega
  split
  ·omega
  split
  ·rw [z7]; omega
  split <;> simp only [ByteArray.size_append,z8,z9] <;> omega
 have ha:=od x.A ha
 have hb:=od x.B hb
 have ho:=zlu x.Op x.Cond
 have hS:(if x.Lock then (⟨#[108,111,99,107,32]⟩:ByteArray)++opT x.Op x.Cond else opT x.Op x.Cond).size<=15:=by
  split
  ·rw [ByteArray.size_append,z10]; omega
  ·omega
 unfold insT
 split
 ·rw [z7]; omega
 simp only
 generalize (if x.Lock then (⟨#[108,111,99,107,32]⟩:ByteArray)++opT x.Op x.Cond else opT x.Op x.Cond)=S at hS ⊢
 split
 ·simp only [ByteArray.size_append,z1]; omega
 split
 ·omega
 split
 ·rw [z7]; omega
 ·simp only [ByteArray.size_append,z1,z11]; omega
theorem zqK(syms:List ByteArray)(hs:∀s∈syms,s.size<=10)(t:zad)(ht:zo0 t)(n:Nat)(hn:t.Ins.length<=n)(a:ByteArray):(thT syms a t).size<=a.size+(n * 110+7):=by
 obtain ⟨r,k,m,e1,e2,e3,e4,rfl⟩:=ht
 have each:∀x∈zdN (r++[hltI]) m,∀a:ByteArray,(zlA syms a x).size<=a.size+110:=by
  intro x hx a
  obtain ⟨i,hi⟩:=List.getElem?_of_mem hx
  have hlen:=(List.getElem?_eq_some_iff.1 hi).1
  rw [zfQ] at hlen
  obtain ⟨y,hy⟩:∃y,(r++[hltI])[i]?=some y:=⟨_,List.getElem?_eq_getElem hlen⟩
  rw [zdC hy] at hi
  have hy':BookIns y\/y=hltI:=by
   rcases List.mem_append.1 (List.mem_of_getElem? hy) with h | h
   ·exact .inl (e3 y h).toBookIns
   ·exact .inr (List.mem_singleton.1 h)
  injection hi with hi
  subst hi
  have k1:I64 (putL m i y).A.N/\I64 (putL m i y).B.N/\(putL m i y).To.size<=10:=by
   unfold putL
   rcases hy' with h | rfl
   ·have:=h.to
    exact ⟨h.a,h.b,by simpa using (by omega:y.To.size<=10)⟩
   ·exact ⟨z64,z64,show (0:Nat)<=10 by decide⟩
  have k2:((putL m i y).zLb.foldl labT a).size<=a.size+5:=by
   unfold putL
   simp only
   split
   ·simp only [List.foldl_cons,List.foldl_nil,labT,ByteArray.size_append,z4]
    have:(zdx (i:Int)).size=3:=by unfold zdx; rfl
    omega
   ·simp
  have k3:=zpY (putL m i y) syms k1.1 k1.2.1 k1.2.2 hs
  unfold zlA
  simp only [ByteArray.size_append,z2,z5]
  omega
 unfold thT
 have:=zfs (zlA syms) 110 (zdN (r++[hltI]) m) (fun a x hx=>each x hx a) (a++(⟨#[116,104,114,101,97,100,10]⟩:ByteArray))
 have h2:(zdN (r++[hltI]) m).length * 110<=n * 110:=Nat.mul_le_mul_right _ hn
 simp only [ByteArray.size_append,z6] at *
 omega
theorem zqq(l:List (List zaD))(hw:∀x∈l,∀y∈x,za7 y)(p1 p2:Nat)(h1:p1<=3)(h2:p2<=8) :
  ∃p,zcy l (p1:Int) (p2:Int)=some p/\zdX p=some (zoo p)/\(zoo p).size<=4000/\zku p/\zkp p=0/\p.zSy=zes/\(∀t∈p.zTh,zo0 t)/\p.zTh.length<=p1/\(∀t∈p.zTh,t.Ins.length<=p2+1):=by
 obtain ⟨p,e1,e2⟩:=zqr l hw p1 p2 (by omega) (by omega)
 obtain ⟨p',e1',hsy,hth,hlen,hck,hi⟩:=zoS l hw p1 p2 (by omega) (by omega)
 rw [e1] at e1'
 obtain rfl:=Option.some.inj e1'
 refine ⟨p,e1,zng p e2,?_,e2,hck,hsy,hth,hlen,hi⟩
 unfold zoo
 have b:(zkp p != 0)=false:=by rw [hck]; rfl
 rw [b]
 simp only [Bool.false_eq_true,if_false]
 have hs:∀s∈zfK p,s.size<=10:=by
  unfold zfK; rw [hsy]; decide
 have h3:=zfs (thT (zfK p)) 997 p.zTh (fun a t ht=>by have:=zqK _ hs t (hth t ht) 9 (by have:=hi t ht; omega) a; omega) (p.zSy.foldl symT ⟨#[]⟩)
 have h4:(p.zSy.foldl symT ⟨#[]⟩).size<=100:=by rw [hsy]; decide +kernel
 have h5:p.zTh.length * 997<=3 * 997:=Nat.mul_le_mul_right _ (by omega)
 omega
end Go.Vs
end
section
namespace Go.Vs
local instance tabPalQ4:Tab:=⟨fun _=>none⟩
theorem zrU{s:ByteArray}{a b:Nat}:(s.extract a b).size<=s.size:=by rw [ByteArray.size_extract]; omega
theorem zoE{p:Int}(h:I64 p)(n:Int)(hn:0<n)(hn2:n<=1000000000):∃i,zaV p n=some i/\0<=i/\i<n:=by
 rw [zaV,if_pos (by omega)]
 have h1:=Int.tmod_lt_of_pos p hn
 have h2:-n<Int.tmod p n:=by
  have:=Int.tmod_lt_of_pos (-p) hn
  rw [Int.neg_tmod] at this; omega
 by_cases hc:Int.tmod p n<0
 ·rw [if_pos (by simpa using hc),zbM ⟨by omega,by omega⟩]
  exact ⟨_,rfl,by omega,by omega⟩
 ·rw [if_neg (by simpa using hc)]
  exact ⟨_,rfl,by omega,by omega⟩
theorem zkJ(l:List (List zaD))(hw:∀x∈l,∀y∈x,za7 y)(at_ gone:Int)(ha:I64 at_)(hg:I64 gone)(more:ByteArray):zdI l at_ gone more=some true:=by
 obtain ⟨p,e1,e2,e3,_⟩:=zqq l hw 2 5 (by omega) (by omega)
 unfold zdI
 rw [show zcy l 2 5=some p from e1]
 simp only [Option.bind_some]
 rw [e2]
 simp only [Option.bind_some]
 generalize zoo p=s at e3
 have w1:IntKind.wrap .i64 ((s.size:Int)+1)=(s.size:Int)+1:=wi (by omega)
 rw [w1]
 have hpick:∃i,zaV at_ ((s.size:Int)+1)=some i/\0<=i/\i<(s.size:Int)+1:=zoE ha _ (by omega) (by omega)
 obtain ⟨i,f1,f2,f3⟩:=hpick
 rw [f1]
 simp only [Option.bind_some]
 obtain ⟨j,g1,g2,g3⟩:=zmo hg 12 (by omega) (by omega)
 rw [g1]
 simp only [Option.bind_some]
 have w2:IntKind.wrap .i64 (i+j)=i+j:=zbM ⟨by omega,by omega⟩
 rw [w2]
 obtain ⟨t,ht,hs⟩:=zop more (n:=40) (by decide)
 have ht1:t.size<=40:=by omega
 rw [ht]
 simp only [Option.bind_some]
 rw [if_pos (show Bnd i s.size from ⟨f2,by omega⟩)]
 have a1:(s.extract 0 i.toNat).size<=4000:=Nat.le_trans zrU e3
 have hb:Bnd (if (i+j)<(s.size:Int) then (i+j) else (s.size:Int)) s.size:=by
  split
  ·exact ⟨by omega,by omega⟩
  ·exact ⟨by omega,by omega⟩
 rw [if_pos (catS a1 ht1 (by omega)),if_pos hb]
 generalize (if (i+j)<(s.size:Int) then (i+j) else (s.size:Int))=n
 have a2:(s.extract n.toNat s.size).size<=4000:=Nat.le_trans zrU e3
 have a3:=zqt a1 ht1
 rw [if_pos (catS a3 a2 (by omega)),zl4 _ (by have:=zqt a3 a2; omega)]
 simp only [Option.bind_some,if_true,zmT]
 rfl
end Go.Vs
end
