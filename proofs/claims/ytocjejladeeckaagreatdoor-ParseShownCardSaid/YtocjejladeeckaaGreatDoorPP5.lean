import Derived.Test.YtocjejladeeckaaGreatDoorPP1
import Derived.Test.YtocjejladeeckaaGreatDoorPP4
import Derived.Test.YtocjejladeeckaaGreatDoorPalN
set_option linter.all false
section
namespace Go.Vs
local instance tabPalPT:Tab:=⟨fun _=>none⟩
def TkP(t:zaa):Prop:=(t.Kind=1->t.Text≠⟨#[]⟩)/\t.Text.size<=1000000
section
variable {s:ByteArray} {v:List zal} (g:Good s v) {i:Int} {l:List zaa} (hi:InB i v.length) (hl:l.length<=1000000)
include g hi hl
theorem zuL{k kind k':Int}{l':List zaa}(hk:i<k)(hkn:k<=v.length)(h:tail v s i l k kind=.inl (k',l'))(hp:∀t∈l,TkP t):∀t∈l',TkP t:=by
 obtain ⟨_,hin,_,_,b1,b2⟩:=zoG g hi hk hkn hl
 have hsm:=g.sm
 unfold Sm at hsm
 obtain ⟨a1,a2,a3⟩:=g.at0 _ hin
 obtain ⟨c1,c2,c3⟩:=g.at0 _ hi
 have hle:=g.le i (k-1) hi hin (by omega)
 unfold tail at h
 dsimp only at h
 split at h
 ·cases h
 split at h
 ·cases h
 injection h with h
 injection h with h1 h2
 subst h2
 intro t ht
 rw [List.mem_append,List.mem_singleton] at ht
 rcases ht with ht | rfl
 ·exact hp t ht
 ·have hsz:(s.extract (rd v i).At.toNat ((rd v (k-1)).At+(rd v (k-1)).Size).toNat).size=min ((rd v (k-1)).At+(rd v (k-1)).Size).toNat s.size-(rd v i).At.toNat:=by
   simp
  refine ⟨fun _ e=>?_,?_⟩
  ·have h0:(s.extract (rd v i).At.toNat ((rd v (k-1)).At+(rd v (k-1)).Size).toNat).size=0:=by
    show (zaa.mk kind (rd v i).Line (rd v i).Col (s.extract (rd v i).At.toNat ((rd v (k-1)).At+(rd v (k-1)).Size).toNat)).Text.size=0
    rw [e]; rfl
   omega
  ·show (s.extract (rd v i).At.toNat ((rd v (k-1)).At+(rd v (k-1)).Size).toNat).size<=_
   omega
theorem zs5{k:Int}{l':List zaa}(h:zeC v s i l=.inl (k,l'))(hp:∀t∈l,TkP t):∀t∈l',TkP t:=by
 obtain ⟨h0,h1,hv⟩:=zoU g hi hl
 obtain ⟨kk,ek,_,_,k1,k2⟩:=zjC v hv v.length (i+1) (by omega) (by omega) (by omega)
 obtain ⟨r,er,_,_,r1⟩:=zjG v hv v.length (i+1) (by omega) (by omega) (by omega)
 unfold zeC at h
 rw [← er,← ek] at h
 repeat' split at h
 all_goals first
  | (cases h; done)
  | exact zuL g hi hl (by omega) (by omega) h hp
  | (injection h with h; injection h with h3 h4; subst h4; exact hp)
end
theorem zmy{v:List zal}:∀(n:Nat) (i:Int) {q},remC v n i=.inr q->q.2.Code≠0
 | 0,i,q,h=>by simp [remC] at h
 | n+1,i,q,h=>by
  unfold remC at h
  split at h
  ·exact zmy n _ h
  ·rename_i r hr
   unfold zeG at hr
   repeat' split at hr
   all_goals first | (cases hr; done) | (injection hr with hr; subst hr; cases h; simp) | (injection hr with hr; subst hr; cases h)
theorem zpV{v:List zal}{s:ByteArray}{i:Int}{l:List zaa}{k kind:Int}{q}(h:tail v s i l k kind=.inr (.inr q)):q.2.Code≠0:=by
 unfold tail at h
 dsimp only at h
 repeat' split at h
 all_goals first | (cases h; done) | (injection h with h; injection h with h; subst h; simp)
theorem zo6{v:List zal}{s:ByteArray}{i:Int}{l:List zaa}{q}(h:zeC v s i l=.inr (.inr q)):q.2.Code≠0:=by
 unfold zeC at h
 repeat' split at h
 all_goals first
  | (cases h; done)
  | exact zpV h
  | (injection h with h; injection h with h; subst h; first | (simp; done) | exact zmy _ _ (by assumption))
theorem zpT{s:ByteArray}{v:List zal}(g:Good s v):∀(n:Nat) (i:Int) (l:List zaa),0<=i->i<=v.length->l.length<=i.toNat->(∀t∈l,TkP t)->(∀L,tokC v s n i l=.inl L->∀t∈L,TkP t)/\∀q,tokC v s n i l=.inr q->q.2.Code≠0
 | 0,i,l,h0,hv,hl,hp=>⟨fun L e=>by simp only [tokC,Sum.inl.injEq] at e; subst e; exact hp,fun q e=>by simp [tokC] at e⟩
 | n+1,i,l,h0,hv,hl,hp=>by
  have h1:=g.sm
  have h2:=g.len
  unfold Sm at h1
  rw [tokC]
  by_cases hlt:i<v.length
  ·rw [if_pos hlt]
   have hin:InB i v.length:=⟨h0,by omega⟩
   cases ht:zeC v s i l with
   | inl q =>
    obtain ⟨k,l'⟩:=q
    obtain ⟨n1,n2,n3⟩:=zn8 g hin (by omega) ht
    exact zpT g n k l' (by omega) n2 (by omega) (zs5 g hin (by omega) ht hp)
   | inr r =>
    cases r with
    | inl L =>
     exfalso
     unfold zeC tail at ht
     dsimp only at ht
     repeat' split at ht
     all_goals first | cases ht | (injection ht with ht; cases ht)
    | inr q=>exact ⟨fun L e=>(by cases e),fun q' e=>by cases e; exact zo6 ht⟩
  ·rw [if_neg hlt]
   exact ⟨fun L e=>(by cases e; exact hp),fun q e=>(by cases e)⟩
theorem zia(s:ByteArray)(hs:s.size<=99000)(hc:(zaS s).2.Code=0):zdt (zaS s).1:=by
 have hsm:Sm s:=by unfold Sm; omega
 have g:=zht s hsm
 have hlen:=g.len
 obtain ⟨p1,p2⟩:=zpT g (zaX s).length 0 [] (by omega) (by omega) (by simp) (fun t ht=>by simp at ht)
 obtain ⟨_,_,p3⟩:=zoa g (zaX s).length 0 [] (by omega) (by omega) (by simp) (by simp)
 unfold zaS at hc ⊢
 cases hx:tokC (zaX s) s (zaX s).length 0 [] with
 | inr q =>
  rw [hx] at hc
  exact absurd hc (p2 q hx)
 | inl l =>
  have q1:=p1 l hx
  have q3:=p3 l hx
  have hmem:∀t∈l++[(⟨4,(zi7 (zaX s)).1,(zi7 (zaX s)).2,⟨#[]⟩⟩:zaa)],TkP t:=fun t ht=>by
   rw [List.mem_append,List.mem_singleton] at ht
   rcases ht with ht | rfl
   ·exact q1 t ht
   ·exact ⟨fun e=>(by simp at e),Nat.zero_le _⟩
  refine ⟨by simp; omega,fun t ht=>(hmem t ht).1,fun i hi hk=>?_,fun t ht=>(hmem t ht).2⟩
  simp only [List.length_append,List.length_singleton] at hi ⊢
  by_cases he:i=l.length
  ·exfalso
   subst he
   apply hk
   show (rd (l++[_]) (l.length:Int)).Kind=4
   have:rd (l++[(⟨4,(zi7 (zaX s)).1,(zi7 (zaX s)).2,⟨#[]⟩⟩:zaa)]) (l.length:Int)=⟨4,(zi7 (zaX s)).1,(zi7 (zaX s)).2,⟨#[]⟩⟩:=zci (by simp)
   rw [this]
  ·omega
end Go.Vs
end
section
namespace Go.Vs
local instance tabPalPF:Tab:=⟨fun _=>none⟩
def qB(Q:zac):(List zaa) × Int × (List zan) × (List zae) × (List zaa) × (List (List zaa)) × (List (List zaa)) × (List Int) × (List ByteArray) × (List ByteArray) × Int × Int × Int:=(Q.T,Q.I,Q.P.zSy,Q.P.zTh,Q.zHd,Q.First,Q.To,Q.Left,Q.All,Q.Wait,Q.Bad.Code,Q.Bad.Line,Q.Bad.Col)
theorem zhs(s:ByteArray)(hs:s.size<=99000):zc3 s=some (zdC s):=zkL s (by unfold Sm; omega) (zia s hs)
end Go.Vs
end
section
namespace Go.Vs
local instance tabPalQ1:Tab:=⟨fun _=>none⟩
set_option maxRecDepth 100000
theorem zyB:zdC ⟨#[115,121,109,32,120,32,50,32,55,10,116,104,114,101,97,100,10,97,58,32,106,109,112,32,97]⟩=(⟨[⟨⟨#[120]⟩,2,[7]⟩],[⟨[⟨10,false,0,⟨0,0,0,0⟩,⟨0,0,0,0⟩,⟨#[97]⟩,[⟨#[97]⟩]⟩]⟩]⟩,⟨0,0,0⟩):=by
 rfl
theorem zyA:zdC ⟨#[109,111,118,32,114,97,120,44,32,49]⟩=(⟨[],[]⟩,⟨4,1,1⟩):=by
 rfl
def SyOk(S:PSt):Prop:=∀s∈S.syms,s.Init.length<=64
theorem zr3{T:List zaa}{S S':PSt}(hT:zdt T)(hi:S.at_<T.length)(hs:SyOk S)(h:zfW T S=.inr S'):SyOk S':=by
 unfold zfW at h
 cases hy:zdF T S with
 | inl g=>rw [hy] at h; cases h
 | inr S1 =>
  have h1:SyOk S1:=by
   unfold zdF at hy
   split at hy
   ·cases hy; exact hs
   split at hy
   ·rename_i h1
    have hk:((tk T S.at_).Kind==1)=true:=by simp only [Bool.and_eq_true] at h1; exact h1.1
    have hi1:S.at_+1<T.length:=hT.next _ hi (zet hk (by decide))
    unfold symP at hy
    split at hy
    ·cases hy
    split at hy
    ·cases hy
    split at hy
    ·cases hy
    rename_i hnp
    have hi2:S.at_+2<T.length:=hT.next (S.at_+1) hi1 (by have:=ziZ hnp; omega)
    split at hy
    ·cases hy
    split at hy
    ·cases hy
    rename_i h2
    have h2':(tk T (S.at_+2)).Kind=2:=by simpa [bne] using h2
    have hi3:S.at_+3<T.length:=hT.next (S.at_+2) hi2 (by show (tk T (S.at_+2)).Kind≠4; omega)
    split at hy
    ·cases hy
    rename_i hr
    simp only [Bool.or_eq_true,decide_eq_true_eq,not_or,Int.not_lt,Int.not_gt_eq] at hr
    split at hy
    ·cases hy
    rename_i j l hx
    obtain ⟨a,b,c⟩:=zgz hT (by omega) _ _ _ hi3 (by simp; omega) hx
    cases hy
    intro s hm
    simp only [List.mem_append,List.mem_singleton] at hm
    rcases hm with hm | rfl
    ·exact hs s hm
    ·show l.length<=64; omega
   split at hy
   ·unfold thrP at hy
    split at hy
    ·cases hy
    cases hy; exact hs
   ·unfold ziT at hy
    split at hy
    ·cases hy
    split at hy
    ·cases hy
    split at hy
    ·cases hy; exact hs
    split at hy
    ·cases hy
    cases hy; exact hs
  rw [hy] at h
  unfold zg6 at h
  simp only at h
  split at h
  ·cases h
  ·cases h; exact h1
theorem zmS{T:List zaa}(hT:zdt T):∀(n:Nat) (S:PSt) {S':PSt},SyOk S->zcK T n S=.inr S'->SyOk S'
 | 0,S,S',h,e=>by simp only [zcK,Sum.inr.injEq] at e; subst e; exact h
 | n+1,S,S',h,e=>by
  unfold zcK at e
  split at e
  ·rename_i hi
   split at e
   ·cases e
   ·rename_i S1 hx
    exact zmS hT n S1 (zr3 hT hi h hx) e
  ·simp only [Sum.inr.injEq] at e; subst e; exact h
structure RdOk (p:zaf):Prop where
 syms:p.zSy.length<=64
 th:p.zTh.length<=64
 init:∀s∈p.zSy,s.Init.length<=64
 ins:∀t∈p.zTh,t.Ins.length<=100000/\∀x∈t.Ins,x.zLb.length<=100000
theorem zql:RdOk nilP:=⟨by simp [nilP],by simp [nilP],fun s h=>(by simp [nilP] at h),fun t h=>(by simp [nilP] at h)⟩
theorem zmI(s:ByteArray)(hs:s.size<=99000):RdOk (zdC s).1:=by
 unfold zdC
 split
 ·exact zql
 rename_i hc
 have hT:=zia s hs (by simpa [bne] using hc)
 have hl:=hT.len
 unfold zf8
 cases hx:zcK (zaS s).1 (zaS s).1.length St0 with
 | inl g=>exact zql
 | inr S =>
  have hI:=zhr hT _ _ (inv0 _) hx
  have hy:=zmS hT _ _ (fun s h=>(by simp [St0] at h)) hx
  simp only
  cases hw:zfP S.bs with
  | some f=>exact zql
  | none =>
   refine ⟨hI.ok.syms,?_,hy,fun t ht=>?_⟩
   ·have:=znk S; have:=hI.ok.done; simp; omega
   ·simp only [List.mem_map] at ht
    obtain ⟨b,hb,rfl⟩:=ht
    have hb':=hI.bd b hb
    have h1:=hb'.zFi
    have h2:=hb'.ins
    refine ⟨by show b.ins.length<=_; omega,fun x hx=>by have:=hb'.labs x hx; omega⟩
end Go.Vs
end
section
namespace Go.Vs
local instance tabPalQ2:Tab:=⟨fun _=>none⟩
theorem zjo:zbA=some true:=by
 unfold zbA
 rw [zhs ⟨#[115,121,109,32,120,32,50,32,55,10,116,104,114,101,97,100,10,97,58,32,106,109,112,32,97]⟩ (show (25:Nat)<=99000 by decide),zhs ⟨#[109,111,118,32,114,97,120,44,32,49]⟩ (show (10:Nat)<=99000 by decide),zyB,zyA]
 simp only [Option.bind_some]
 rw [if_pos (fun _=>⟨by decide,by decide⟩)]
 rfl
end Go.Vs
end
