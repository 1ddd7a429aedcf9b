import Derived.Test.YtocjejladeeckaaDoorPP1
import Derived.Test.YtocjejladeeckaaDoorPP4
set_option linter.all false
section
namespace Go.Vs
local instance tabPalPT:Tab:=⟨fun _=>none⟩
def TkP(t:zab):Prop:=(t.Kind=1->t.Text≠⟨#[]⟩)/\t.Text.size<=1000000
section
variable {s:ByteArray} {v:List zah} (g:Good s v) {i:Int} {l:List zab} (hi:InB i v.length) (hl:l.length<=1000000)
include g hi hl
theorem znW{k kind k':Int}{l':List zab}(hk:i<k)(hkn:k<=v.length)(h:tail v s i l k kind=.inl (k',l'))(hp:∀t∈l,TkP t):∀t∈l',TkP t:=by
 obtain ⟨_,hin,_,_,b1,b2⟩:=zjs g hi hk hkn hl
 have hsm:=g.sm
 unfold Sm at hsm
 obtain ⟨a1,a2,a3⟩:=g.at0 _ hin
 obtain ⟨c1,c2,c3⟩:=g.at0 _ hi
 have hle:=g.le i (k-1) hi hin (by omega)
 unfold tail at h
 dsimp only at h
 split at h
 ·cases h
 split at h
 ·cases h
 injection h with h
 injection h with h1 h2
 subst h2
 intro t ht
 rw [List.mem_append,List.mem_singleton] at ht
 rcases ht with ht | rfl
 ·exact hp t ht
 ·have hsz:(s.extract (rd v i).At.toNat ((rd v (k-1)).At+(rd v (k-1)).Size).toNat).size=min ((rd v (k-1)).At+(rd v (k-1)).Size).toNat s.size-(rd v i).At.toNat:=by
   simp
  refine ⟨fun _ e=>?_,?_⟩
  ·have h0:(s.extract (rd v i).At.toNat ((rd v (k-1)).At+(rd v (k-1)).Size).toNat).size=0:=by
    show (zab.mk kind (rd v i).Line (rd v i).Col (s.extract (rd v i).At.toNat ((rd v (k-1)).At+(rd v (k-1)).Size).toNat)).Text.size=0
    rw [e]; rfl
   omega
  ·show (s.extract (rd v i).At.toNat ((rd v (k-1)).At+(rd v (k-1)).Size).toNat).size<=_
   omega
theorem zmY{k:Int}{l':List zab}(h:zc0 v s i l=.inl (k,l'))(hp:∀t∈l,TkP t):∀t∈l',TkP t:=by
 obtain ⟨h0,h1,hv⟩:=zjA g hi hl
 obtain ⟨kk,ek,_,_,k1,k2⟩:=zf3 v hv v.length (i+1) (by omega) (by omega) (by omega)
 obtain ⟨r,er,_,_,r1⟩:=zf6 v hv v.length (i+1) (by omega) (by omega) (by omega)
 unfold zc0 at h
 rw [← er,← ek] at h
 repeat' split at h
 all_goals first
  | (cases h; done)
  | exact znW g hi hl (by omega) (by omega) h hp
  | (injection h with h; injection h with h3 h4; subst h4; exact hp)
end
theorem zh9{v:List zah}:∀(n:Nat) (i:Int) {q},remC v n i=.inr q->q.2.Code≠0
 | 0,i,q,h=>by simp [remC] at h
 | n+1,i,q,h=>by
  unfold remC at h
  split at h
  ·exact zh9 n _ h
  ·rename_i r hr
   unfold zcD at hr
   repeat' split at hr
   all_goals first | (cases hr; done) | (injection hr with hr; subst hr; cases h; simp) | (injection hr with hr; subst hr; cases h)
theorem zko{v:List zah}{s:ByteArray}{i:Int}{l:List zab}{k kind:Int}{q}(h:tail v s i l k kind=.inr (.inr q)):q.2.Code≠0:=by
 unfold tail at h
 dsimp only at h
 repeat' split at h
 all_goals first | (cases h; done) | (injection h with h; injection h with h; subst h; simp)
theorem zjJ{v:List zah}{s:ByteArray}{i:Int}{l:List zab}{q}(h:zc0 v s i l=.inr (.inr q)):q.2.Code≠0:=by
 unfold zc0 at h
 repeat' split at h
 all_goals first
  | (cases h; done)
  | exact zko h
  | (injection h with h; injection h with h; subst h; first | (simp; done) | exact zh9 _ _ (by assumption))
theorem zkn{s:ByteArray}{v:List zah}(g:Good s v):∀(n:Nat) (i:Int) (l:List zab),0<=i->i<=v.length->l.length<=i.toNat->(∀t∈l,TkP t)->(∀L,tokC v s n i l=.inl L->∀t∈L,TkP t)/\∀q,tokC v s n i l=.inr q->q.2.Code≠0
 | 0,i,l,h0,hv,hl,hp=>⟨fun L e=>by simp only [tokC,Sum.inl.injEq] at e; subst e; exact hp,fun q e=>by simp [tokC] at e⟩
 | n+1,i,l,h0,hv,hl,hp=>by
  have h1:=g.sm
  have h2:=g.len
  unfold Sm at h1
  rw [tokC]
  by_cases hlt:i<v.length
  ·rw [if_pos hlt]
   have hin:InB i v.length:=⟨h0,by omega⟩
   cases ht:zc0 v s i l with
   | inl q =>
    obtain ⟨k,l'⟩:=q
    obtain ⟨n1,n2,n3⟩:=zhx g hin (by omega) ht
    exact zkn g n k l' (by omega) n2 (by omega) (zmY g hin (by omega) ht hp)
   | inr r =>
    cases r with
    | inl L =>
     exfalso
     unfold zc0 tail at ht
     dsimp only at ht
     repeat' split at ht
     all_goals first | cases ht | (injection ht with ht; cases ht)
    | inr q=>exact ⟨fun L e=>(by cases e),fun q' e=>by cases e; exact zjJ ht⟩
  ·rw [if_neg hlt]
   exact ⟨fun L e=>(by cases e; exact hp),fun q e=>(by cases e)⟩
theorem ze6(s:ByteArray)(hs:s.size<=99000)(hc:(zaM s).2.Code=0):zcb (zaM s).1:=by
 have hsm:Sm s:=by unfold Sm; omega
 have g:=zfI s hsm
 have hlen:=g.len
 obtain ⟨p1,p2⟩:=zkn g (zaU s).length 0 [] (by omega) (by omega) (by simp) (fun t ht=>by simp at ht)
 obtain ⟨_,_,p3⟩:=zi9 g (zaU s).length 0 [] (by omega) (by omega) (by simp) (by simp)
 unfold zaM at hc ⊢
 cases hx:tokC (zaU s) s (zaU s).length 0 [] with
 | inr q =>
  rw [hx] at hc
  exact absurd hc (p2 q hx)
 | inl l =>
  have q1:=p1 l hx
  have q3:=p3 l hx
  have hmem:∀t∈l++[(⟨4,(zef (zaU s)).1,(zef (zaU s)).2,⟨#[]⟩⟩:zab)],TkP t:=fun t ht=>by
   rw [List.mem_append,List.mem_singleton] at ht
   rcases ht with ht | rfl
   ·exact q1 t ht
   ·exact ⟨fun e=>(by simp at e),Nat.zero_le _⟩
  refine ⟨by simp; omega,fun t ht=>(hmem t ht).1,fun i hi hk=>?_,fun t ht=>(hmem t ht).2⟩
  simp only [List.length_append,List.length_singleton] at hi ⊢
  by_cases he:i=l.length
  ·exfalso
   subst he
   apply hk
   show (rd (l++[_]) (l.length:Int)).Kind=4
   have:rd (l++[(⟨4,(zef (zaU s)).1,(zef (zaU s)).2,⟨#[]⟩⟩:zab)]) (l.length:Int)=⟨4,(zef (zaU s)).1,(zef (zaU s)).2,⟨#[]⟩⟩:=zcq (by simp)
   rw [this]
  ·omega
end Go.Vs
end
section
namespace Go.Vs
local instance tabPalPF:Tab:=⟨fun _=>none⟩
theorem zeE(s:ByteArray)(hs:s.size<=99000):zb1 s=some (za5 s):=zgP s (by unfold Sm; omega) (ze6 s hs)
end Go.Vs
end
section
namespace Go.Vs
local instance tabPalQ1:Tab:=⟨fun _=>none⟩
set_option maxRecDepth 100000
theorem zqg:za5 ⟨#[115,121,109,32,120,32,50,32,55,10,116,104,114,101,97,100,10,97,58,32,106,109,112,32,97]⟩=(⟨[⟨⟨#[120]⟩,2,[7]⟩],[⟨[⟨10,false,0,⟨0,0,0,0⟩,⟨0,0,0,0⟩,⟨#[97]⟩,[⟨#[97]⟩]⟩]⟩]⟩,⟨0,0,0⟩):=by
 rfl
theorem zqf:za5 ⟨#[109,111,118,32,114,97,120,44,32,49]⟩=(⟨[],[]⟩,⟨4,1,1⟩):=by
 rfl
def SyOk(S:PSt):Prop:=∀s∈S.syms,s.Init.length<=64
theorem zma{T:List zab}{S S':PSt}(hT:zcb T)(hi:S.at_<T.length)(hs:SyOk S)(h:ze1 T S=.inr S'):SyOk S':=by
 unfold ze1 at h
 cases hy:zcA T S with
 | inl g=>rw [hy] at h; cases h
 | inr S1 =>
  have h1:SyOk S1:=by
   unfold zcA at hy
   split at hy
   ·cases hy; exact hs
   split at hy
   ·rename_i h1
    have hk:((tk T S.at_).Kind==1)=true:=by simp only [Bool.and_eq_true] at h1; exact h1.1
    have hi1:S.at_+1<T.length:=hT.next _ hi (zcO hk (by decide))
    unfold symP at hy
    split at hy
    ·cases hy
    split at hy
    ·cases hy
    split at hy
    ·cases hy
    rename_i hnp
    have hi2:S.at_+2<T.length:=hT.next (S.at_+1) hi1 (by have:=zfE hnp; omega)
    split at hy
    ·cases hy
    split at hy
    ·cases hy
    rename_i h2
    have h2':(tk T (S.at_+2)).Kind=2:=by simpa [bne] using h2
    have hi3:S.at_+3<T.length:=hT.next (S.at_+2) hi2 (by show (tk T (S.at_+2)).Kind≠4; omega)
    split at hy
    ·cases hy
    rename_i hr
    simp only [Bool.or_eq_true,decide_eq_true_eq,not_or,Int.not_lt,Int.not_gt_eq] at hr
    split at hy
    ·cases hy
    rename_i j l hx
    obtain ⟨a,b,c⟩:=zd2 hT (by omega) _ _ _ hi3 (by simp; omega) hx
    cases hy
    intro s hm
    simp only [List.mem_append,List.mem_singleton] at hm
    rcases hm with hm | rfl
    ·exact hs s hm
    ·show l.length<=64; omega
   split at hy
   ·unfold thrP at hy
    split at hy
    ·cases hy
    cases hy; exact hs
   ·unfold zfV at hy
    split at hy
    ·cases hy
    split at hy
    ·cases hy
    split at hy
    ·cases hy; exact hs
    split at hy
    ·cases hy
    cases hy; exact hs
  rw [hy] at h
  unfold zfW at h
  simp only at h
  split at h
  ·cases h
  ·cases h; exact h1
theorem zik{T:List zab}(hT:zcb T):∀(n:Nat) (S:PSt) {S':PSt},SyOk S->zbY T n S=.inr S'->SyOk S'
 | 0,S,S',h,e=>by simp only [zbY,Sum.inr.injEq] at e; subst e; exact h
 | n+1,S,S',h,e=>by
  unfold zbY at e
  split at e
  ·rename_i hi
   split at e
   ·cases e
   ·rename_i S1 hx
    exact zik hT n S1 (zma hT hi h hx) e
  ·simp only [Sum.inr.injEq] at e; subst e; exact h
structure RdOk (p:zaw):Prop where
 syms:p.zSy.length<=64
 th:p.zTh.length<=64
 init:∀s∈p.zSy,s.Init.length<=64
 ins:∀t∈p.zTh,t.Ins.length<=100000/\∀x∈t.Ins,x.zLb.length<=100000
theorem zkC:RdOk nilP:=⟨by simp [nilP],by simp [nilP],fun s h=>(by simp [nilP] at h),fun t h=>(by simp [nilP] at h)⟩
theorem zkK(s:ByteArray)(hs:s.size<=99000):RdOk (za5 s).1:=by
 unfold za5
 split
 ·exact zkC
 rename_i hc
 have hT:=ze6 s hs (by simpa [bne] using hc)
 have hl:=hT.len
 unfold zdy
 cases hx:zbY (zaM s).1 (zaM s).1.length St0 with
 | inl g=>exact zkC
 | inr S =>
  have hI:=zfG hT _ _ (inv0 _) hx
  have hy:=zik hT _ _ (fun s h=>(by simp [St0] at h)) hx
  simp only
  cases hw:zfz S.bs with
  | some f=>exact zkC
  | none =>
   refine ⟨hI.ok.syms,?_,hy,fun t ht=>?_⟩
   ·have:=zjz S; have:=hI.ok.done; simp; omega
   ·simp only [List.mem_map] at ht
    obtain ⟨b,hb,rfl⟩:=ht
    have hb':=hI.bd b hb
    have h1:=hb'.zFi
    have h2:=hb'.ins
    refine ⟨by show b.ins.length<=_; omega,fun x hx=>by have:=hb'.labs x hx; omega⟩
end Go.Vs
end
