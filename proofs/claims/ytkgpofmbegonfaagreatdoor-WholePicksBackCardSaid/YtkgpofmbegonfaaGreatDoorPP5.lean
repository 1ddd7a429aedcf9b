import Derived.Test.YtkgpofmbegonfaaGreatDoorPP1
import Derived.Test.YtkgpofmbegonfaaGreatDoorPP4
set_option linter.all false
section
namespace Go.Vs
local instance tabPalPT:Tab:=⟨fun _=>none⟩
def TkP(t:zac):Prop:=(t.Kind=1->t.Text≠⟨#[]⟩)/\t.Text.size<=1000000
section
variable {s:ByteArray} {v:List zam} (g:Good s v) {i:Int} {l:List zac} (hi:InB i v.length) (hl:l.length<=1000000)
include g hi hl
theorem zrq{k kind k':Int}{l':List zac}(hk:i<k)(hkn:k<=v.length)(h:tail v s i l k kind=.inl (k',l'))(hp:∀t∈l,TkP t):∀t∈l',TkP t:=by
 obtain ⟨_,hin,_,_,b1,b2⟩:=zkx g hi hk hkn hl
 have hsm:=g.sm
 unfold Sm at hsm
 obtain ⟨a1,a2,a3⟩:=g.at0 _ hin
 obtain ⟨c1,c2,c3⟩:=g.at0 _ hi
 have hle:=g.le i (k-1) hi hin (by omega)
 unfold tail at h
 dsimp only at h
 split at h
 ·cases h
 split at h
 ·cases h
 injection h with h
 injection h with h1 h2
 subst h2
 intro t ht
 rw [List.mem_append,List.mem_singleton] at ht
 rcases ht with ht | rfl
 ·exact hp t ht
 ·have hsz:(s.extract (rd v i).At.toNat ((rd v (k-1)).At+(rd v (k-1)).Size).toNat).size=min ((rd v (k-1)).At+(rd v (k-1)).Size).toNat s.size-(rd v i).At.toNat:=by
   simp
  refine ⟨fun _ e=>?_,?_⟩
  ·have h0:(s.extract (rd v i).At.toNat ((rd v (k-1)).At+(rd v (k-1)).Size).toNat).size=0:=by
    show (zac.mk kind (rd v i).Line (rd v i).Col (s.extract (rd v i).At.toNat ((rd v (k-1)).At+(rd v (k-1)).Size).toNat)).Text.size=0
    rw [e]; rfl
   omega
  ·show (s.extract (rd v i).At.toNat ((rd v (k-1)).At+(rd v (k-1)).Size).toNat).size<=_
   omega
theorem zpG{k:Int}{l':List zac}(h:zfq v s i l=.inl (k,l'))(hp:∀t∈l,TkP t):∀t∈l',TkP t:=by
 obtain ⟨h0,h1,hv⟩:=zkH g hi hl
 obtain ⟨kk,ek,_,_,k1,k2⟩:=zgN v hv v.length (i+1) (by omega) (by omega) (by omega)
 obtain ⟨r,er,_,_,r1⟩:=zgQ v hv v.length (i+1) (by omega) (by omega) (by omega)
 unfold zfq at h
 rw [← er,← ek] at h
 repeat' split at h
 all_goals first
  | (cases h; done)
  | exact zrq g hi hl (by omega) (by omega) h hp
  | (injection h with h; injection h with h3 h4; subst h4; exact hp)
end
theorem zi9{v:List zam}:∀(n:Nat) (i:Int) {q},remC v n i=.inr q->q.2.Code≠0
 | 0,i,q,h=>by simp [remC] at h
 | n+1,i,q,h=>by
  unfold remC at h
  split at h
  ·exact zi9 n _ h
  ·rename_i r hr
   unfold zgC at hr
   repeat' split at hr
   all_goals first | (cases hr; done) | (injection hr with hr; subst hr; cases h; simp) | (injection hr with hr; subst hr; cases h)
theorem zmc{v:List zam}{s:ByteArray}{i:Int}{l:List zac}{k kind:Int}{q}(h:tail v s i l k kind=.inr (.inr q)):q.2.Code≠0:=by
 unfold tail at h
 dsimp only at h
 repeat' split at h
 all_goals first | (cases h; done) | (injection h with h; injection h with h; subst h; simp)
theorem zkS{v:List zam}{s:ByteArray}{i:Int}{l:List zac}{q}(h:zfq v s i l=.inr (.inr q)):q.2.Code≠0:=by
 unfold zfq at h
 repeat' split at h
 all_goals first
  | (cases h; done)
  | exact zmc h
  | (injection h with h; injection h with h; subst h; first | (simp; done) | exact zi9 _ _ (by assumption))
theorem zo1{s:ByteArray}{v:List zam}(g:Good s v):∀(n:Nat) (i:Int) (l:List zac),0<=i->i<=v.length->l.length<=i.toNat->(∀t∈l,TkP t)->(∀L,tokC v s n i l=.inl L->∀t∈L,TkP t)/\∀q,tokC v s n i l=.inr q->q.2.Code≠0
 | 0,i,l,h0,hv,hl,hp=>⟨fun L e=>by simp only [tokC,Sum.inl.injEq] at e; subst e; exact hp,fun q e=>by simp [tokC] at e⟩
 | n+1,i,l,h0,hv,hl,hp=>by
  have h1:=g.sm
  have h2:=g.len
  unfold Sm at h1
  rw [tokC]
  by_cases hlt:i<v.length
  ·rw [if_pos hlt]
   have hin:InB i v.length:=⟨h0,by omega⟩
   cases ht:zfq v s i l with
   | inl q =>
    obtain ⟨k,l'⟩:=q
    obtain ⟨n1,n2,n3⟩:=zkc g hin (by omega) ht
    exact zo1 g n k l' (by omega) n2 (by omega) (zpG g hin (by omega) ht hp)
   | inr r =>
    cases r with
    | inl L =>
     exfalso
     unfold zfq tail at ht
     dsimp only at ht
     repeat' split at ht
     all_goals first | cases ht | (injection ht with ht; cases ht)
    | inr q=>exact ⟨fun L e=>(by cases e),fun q' e=>by cases e; exact zkS ht⟩
  ·rw [if_neg hlt]
   exact ⟨fun L e=>(by cases e; exact hp),fun q e=>(by cases e)⟩
theorem zma(s:ByteArray)(hs:s.size<=99000)(hc:(zcc s).2.Code=0):zcT (zcc s).1:=by
 have hsm:Sm s:=by unfold Sm; omega
 have g:=zik s hsm
 have hlen:=g.len
 obtain ⟨p1,p2⟩:=zo1 g (zcq s).length 0 [] (by omega) (by omega) (by simp) (fun t ht=>by simp at ht)
 obtain ⟨_,_,p3⟩:=zkd g (zcq s).length 0 [] (by omega) (by omega) (by simp) (by simp)
 unfold zcc at hc ⊢
 cases hx:tokC (zcq s) s (zcq s).length 0 [] with
 | inr q =>
  rw [hx] at hc
  exact absurd hc (p2 q hx)
 | inl l =>
  have q1:=p1 l hx
  have q3:=p3 l hx
  have hmem:∀t∈l++[(⟨4,(zhT (zcq s)).1,(zhT (zcq s)).2,⟨#[]⟩⟩:zac)],TkP t:=fun t ht=>by
   rw [List.mem_append,List.mem_singleton] at ht
   rcases ht with ht | rfl
   ·exact q1 t ht
   ·exact ⟨fun e=>(by simp at e),Nat.zero_le _⟩
  refine ⟨by simp; omega,fun t ht=>(hmem t ht).1,fun i hi hk=>?_,fun t ht=>(hmem t ht).2⟩
  simp only [List.length_append,List.length_singleton] at hi ⊢
  by_cases he:i=l.length
  ·exfalso
   subst he
   apply hk
   show (rd (l++[_]) (l.length:Int)).Kind=4
   have:rd (l++[(⟨4,(zhT (zcq s)).1,(zhT (zcq s)).2,⟨#[]⟩⟩:zac)]) (l.length:Int)=⟨4,(zhT (zcq s)).1,(zhT (zcq s)).2,⟨#[]⟩⟩:=zeL (by simp)
   rw [this]
  ·omega
end Go.Vs
end
section
namespace Go.Vs
local instance tabPalPF:Tab:=⟨fun _=>none⟩
theorem zij(s:ByteArray)(hs:s.size<=99000):zdl s=some (zjd s):=zhI s (by unfold Sm; omega) (zma s hs)
end Go.Vs
end
