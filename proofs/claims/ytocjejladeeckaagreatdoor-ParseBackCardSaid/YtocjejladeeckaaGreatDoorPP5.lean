import Derived.Test.YtocjejladeeckaaGreatDoorPP1
import Derived.Test.YtocjejladeeckaaGreatDoorPP4
import Derived.Test.YtocjejladeeckaaGreatDoorPalN
import Derived.Test.YtocjejladeeckaaGreatDoorPalO
import Derived.Test.YtocjejladeeckaaGreatDoorPS1
import Derived.Test.YtocjejladeeckaaGreatDoorPL2
set_option linter.all false
section
namespace Go.Vs
local instance tabPalPT:Tab:=⟨fun _=>none⟩
def TkP(t:zab):Prop:=(t.Kind=1->t.Text≠⟨#[]⟩)/\t.Text.size<=1000000
section
variable {s:ByteArray} {v:List zaq} (g:Good s v) {i:Int} {l:List zab} (hi:InB i v.length) (hl:l.length<=1000000)
include g hi hl
theorem zu3{k kind k':Int}{l':List zab}(hk:i<k)(hkn:k<=v.length)(h:tail v s i l k kind=.inl (k',l'))(hp:∀t∈l,TkP t):∀t∈l',TkP t:=by
 obtain ⟨_,hin,_,_,b1,b2⟩:=zoI g hi hk hkn hl
 have hsm:=g.sm
 unfold Sm at hsm
 obtain ⟨a1,a2,a3⟩:=g.at0 _ hin
 obtain ⟨c1,c2,c3⟩:=g.at0 _ hi
 have hle:=g.le i (k-1) hi hin (by omega)
 unfold tail at h
 dsimp only at h
 split at h
 ·cases h
 split at h
 ·cases h
 injection h with h
 injection h with h1 h2
 subst h2
 intro t ht
 rw [List.mem_append,List.mem_singleton] at ht
 rcases ht with ht | rfl
 ·exact hp t ht
 ·have hsz:(s.extract (rd v i).At.toNat ((rd v (k-1)).At+(rd v (k-1)).Size).toNat).size=min ((rd v (k-1)).At+(rd v (k-1)).Size).toNat s.size-(rd v i).At.toNat:=by
   simp
  refine ⟨fun _ e=>?_,?_⟩
  ·have h0:(s.extract (rd v i).At.toNat ((rd v (k-1)).At+(rd v (k-1)).Size).toNat).size=0:=by
    show (zab.mk kind (rd v i).Line (rd v i).Col (s.extract (rd v i).At.toNat ((rd v (k-1)).At+(rd v (k-1)).Size).toNat)).Text.size=0
    rw [e]; rfl
   omega
  ·show (s.extract (rd v i).At.toNat ((rd v (k-1)).At+(rd v (k-1)).Size).toNat).size<=_
   omega
theorem ztg{k:Int}{l':List zab}(h:zfR v s i l=.inl (k,l'))(hp:∀t∈l,TkP t):∀t∈l',TkP t:=by
 obtain ⟨h0,h1,hv⟩:=zoW g hi hl
 obtain ⟨kk,ek,_,_,k1,k2⟩:=zjB v hv v.length (i+1) (by omega) (by omega) (by omega)
 obtain ⟨r,er,_,_,r1⟩:=zjE v hv v.length (i+1) (by omega) (by omega) (by omega)
 unfold zfR at h
 rw [← er,← ek] at h
 repeat' split at h
 all_goals first
  | (cases h; done)
  | exact zu3 g hi hl (by omega) (by omega) h hp
  | (injection h with h; injection h with h3 h4; subst h4; exact hp)
end
theorem zmz{v:List zaq}:∀(n:Nat) (i:Int) {q},remC v n i=.inr q->q.2.Code≠0
 | 0,i,q,h=>by simp [remC] at h
 | n+1,i,q,h=>by
  unfold remC at h
  split at h
  ·exact zmz n _ h
  ·rename_i r hr
   unfold zhz at hr
   repeat' split at hr
   all_goals first | (cases hr; done) | (injection hr with hr; subst hr; cases h; simp) | (injection hr with hr; subst hr; cases h)
theorem zpW{v:List zaq}{s:ByteArray}{i:Int}{l:List zab}{k kind:Int}{q}(h:tail v s i l k kind=.inr (.inr q)):q.2.Code≠0:=by
 unfold tail at h
 dsimp only at h
 repeat' split at h
 all_goals first | (cases h; done) | (injection h with h; injection h with h; subst h; simp)
theorem zo7{v:List zaq}{s:ByteArray}{i:Int}{l:List zab}{q}(h:zfR v s i l=.inr (.inr q)):q.2.Code≠0:=by
 unfold zfR at h
 repeat' split at h
 all_goals first
  | (cases h; done)
  | exact zpW h
  | (injection h with h; injection h with h; subst h; first | (simp; done) | exact zmz _ _ (by assumption))
theorem zsN{s:ByteArray}{v:List zaq}(g:Good s v):∀(n:Nat) (i:Int) (l:List zab),0<=i->i<=v.length->l.length<=i.toNat->(∀t∈l,TkP t)->(∀L,tokC v s n i l=.inl L->∀t∈L,TkP t)/\∀q,tokC v s n i l=.inr q->q.2.Code≠0
 | 0,i,l,h0,hv,hl,hp=>⟨fun L e=>by simp only [tokC,Sum.inl.injEq] at e; subst e; exact hp,fun q e=>by simp [tokC] at e⟩
 | n+1,i,l,h0,hv,hl,hp=>by
  have h1:=g.sm
  have h2:=g.len
  unfold Sm at h1
  rw [tokC]
  by_cases hlt:i<v.length
  ·rw [if_pos hlt]
   have hin:InB i v.length:=⟨h0,by omega⟩
   cases ht:zfR v s i l with
   | inl q =>
    obtain ⟨k,l'⟩:=q
    obtain ⟨n1,n2,n3⟩:=zoe g hin (by omega) ht
    exact zsN g n k l' (by omega) n2 (by omega) (ztg g hin (by omega) ht hp)
   | inr r =>
    cases r with
    | inl L =>
     exfalso
     unfold zfR tail at ht
     dsimp only at ht
     repeat' split at ht
     all_goals first | cases ht | (injection ht with ht; cases ht)
    | inr q=>exact ⟨fun L e=>(by cases e),fun q' e=>by cases e; exact zo7 ht⟩
  ·rw [if_neg hlt]
   exact ⟨fun L e=>(by cases e; exact hp),fun q e=>(by cases e)⟩
theorem zmj(s:ByteArray)(hs:s.size<=50000)(hc:(zcu s).2.Code=0):zd2 (zcu s).1:=by
 have hsm:Sm s:=by unfold Sm; omega
 have g:=zlq s hsm
 have hlen:=g.len
 obtain ⟨p1,p2⟩:=zsN g (zbp s).length 0 [] (by omega) (by omega) (by simp) (fun t ht=>by simp at ht)
 obtain ⟨_,_,p3⟩:=zof g (zbp s).length 0 [] (by omega) (by omega) (by simp) (by simp)
 unfold zcu at hc ⊢
 cases hx:tokC (zbp s) s (zbp s).length 0 [] with
 | inr q =>
  rw [hx] at hc
  exact absurd hc (p2 q hx)
 | inl l =>
  have q1:=p1 l hx
  have q3:=p3 l hx
  have hmem:∀t∈l++[(⟨4,(zkW (zbp s)).1,(zkW (zbp s)).2,⟨#[]⟩⟩:zab)],TkP t:=fun t ht=>by
   rw [List.mem_append,List.mem_singleton] at ht
   rcases ht with ht | rfl
   ·exact q1 t ht
   ·exact ⟨fun e=>(by simp at e),Nat.zero_le _⟩
  refine ⟨by simp; omega,fun t ht=>(hmem t ht).1,fun i hi hk=>?_,fun t ht=>(hmem t ht).2⟩
  simp only [List.length_append,List.length_singleton] at hi ⊢
  by_cases he:i=l.length
  ·exfalso
   subst he
   apply hk
   show (rd (l++[_]) (l.length:Int)).Kind=4
   have:rd (l++[(⟨4,(zkW (zbp s)).1,(zkW (zbp s)).2,⟨#[]⟩⟩:zab)]) (l.length:Int)=⟨4,(zkW (zbp s)).1,(zkW (zbp s)).2,⟨#[]⟩⟩:=zb0 (by simp)
   rw [this]
  ·omega
end Go.Vs
end
section
namespace Go.Vs
local instance tabPalPF:Tab:=⟨fun _=>none⟩
def qB(Q:zac):(List zab) × Int × (List zak) × (List zad) × (List zab) × (List (List zab)) × (List (List zab)) × (List Int) × (List ByteArray) × (List ByteArray) × Int × Int × Int:=(Q.T,Q.I,Q.P.zSy,Q.P.zTh,Q.zHd,Q.First,Q.To,Q.Left,Q.All,Q.Wait,Q.Bad.Code,Q.Bad.Line,Q.Bad.Col)
theorem zi4(s:ByteArray)(hs:s.size<=50000):zdE s=some (zij s):=zkF s (by unfold Sm; omega) (zmj s hs)
end Go.Vs
end
section
namespace Go.Vs
local instance tabPalQ1:Tab:=⟨fun _=>none⟩
set_option maxRecDepth 100000
theorem zyJ:zij ⟨#[115,121,109,32,120,32,50,32,55,10,116,104,114,101,97,100,10,97,58,32,106,109,112,32,97]⟩=(⟨[⟨⟨#[120]⟩,2,[7]⟩],[⟨[⟨10,false,0,⟨0,0,0,0⟩,⟨0,0,0,0⟩,⟨#[97]⟩,[⟨#[97]⟩]⟩]⟩]⟩,⟨0,0,0⟩):=by
 rfl
theorem zyI:zij ⟨#[109,111,118,32,114,97,120,44,32,49]⟩=(⟨[],[]⟩,⟨4,1,1⟩):=by
 rfl
def SyOk(S:PSt):Prop:=∀s∈S.syms,s.Init.length<=64
theorem zr8{T:List zab}{S S':PSt}(hT:zd2 T)(hi:S.at_<T.length)(hs:SyOk S)(h:zhI T S=.inr S'):SyOk S':=by
 unfold zhI at h
 cases hy:zfM T S with
 | inl g=>rw [hy] at h; cases h
 | inr S1 =>
  have h1:SyOk S1:=by
   unfold zfM at hy
   split at hy
   ·cases hy; exact hs
   split at hy
   ·rename_i h1
    have hk:((tk T S.at_).Kind==1)=true:=by simp only [Bool.and_eq_true] at h1; exact h1.1
    have hi1:S.at_+1<T.length:=hT.next _ hi (zeI hk (by decide))
    unfold symP at hy
    split at hy
    ·cases hy
    split at hy
    ·cases hy
    split at hy
    ·cases hy
    rename_i hnp
    have hi2:S.at_+2<T.length:=hT.next (S.at_+1) hi1 (by have:=ziX hnp; omega)
    split at hy
    ·cases hy
    split at hy
    ·cases hy
    rename_i h2
    have h2':(tk T (S.at_+2)).Kind=2:=by simpa [bne] using h2
    have hi3:S.at_+3<T.length:=hT.next (S.at_+2) hi2 (by show (tk T (S.at_+2)).Kind≠4; omega)
    split at hy
    ·cases hy
    rename_i hr
    simp only [Bool.or_eq_true,decide_eq_true_eq,not_or,Int.not_lt,Int.not_gt_eq] at hr
    split at hy
    ·cases hy
    rename_i j l hx
    obtain ⟨a,b,c⟩:=zgB hT (by omega) _ _ _ hi3 (by simp; omega) hx
    cases hy
    intro s hm
    simp only [List.mem_append,List.mem_singleton] at hm
    rcases hm with hm | rfl
    ·exact hs s hm
    ·show l.length<=64; omega
   split at hy
   ·unfold thrP at hy
    split at hy
    ·cases hy
    cases hy; exact hs
   ·unfold zmw at hy
    split at hy
    ·cases hy
    split at hy
    ·cases hy
    split at hy
    ·cases hy; exact hs
    split at hy
    ·cases hy
    cases hy; exact hs
  rw [hy] at h
  unfold ziw at h
  simp only at h
  split at h
  ·cases h
  ·cases h; exact h1
theorem zmS{T:List zab}(hT:zd2 T):∀(n:Nat) (S:PSt) {S':PSt},SyOk S->zeP T n S=.inr S'->SyOk S'
 | 0,S,S',h,e=>by simp only [zeP,Sum.inr.injEq] at e; subst e; exact h
 | n+1,S,S',h,e=>by
  unfold zeP at e
  split at e
  ·rename_i hi
   split at e
   ·cases e
   ·rename_i S1 hx
    exact zmS hT n S1 (zr8 hT hi h hx) e
  ·simp only [Sum.inr.injEq] at e; subst e; exact h
structure RdOk (p:zag):Prop where
 syms:p.zSy.length<=64
 th:p.zTh.length<=64
 init:∀s∈p.zSy,s.Init.length<=64
 ins:∀t∈p.zTh,t.Ins.length<=100000/\∀x∈t.Ins,x.zLb.length<=100000
theorem zqk:RdOk nilP:=⟨by simp [nilP],by simp [nilP],fun s h=>(by simp [nilP] at h),fun t h=>(by simp [nilP] at h)⟩
theorem zqu(s:ByteArray)(hs:s.size<=50000):RdOk (zij s).1:=by
 unfold zij
 split
 ·exact zqk
 rename_i hc
 have hT:=zmj s hs (by simpa [bne] using hc)
 have hl:=hT.len
 unfold zou
 cases hx:zeP (zcu s).1 (zcu s).1.length St0 with
 | inl g=>exact zqk
 | inr S =>
  have hI:=zi0 hT _ _ (inv0 _) hx
  have hy:=zmS hT _ _ (fun s h=>(by simp [St0] at h)) hx
  simp only
  cases hw:ziM S.bs with
  | some f=>exact zqk
  | none =>
   refine ⟨hI.ok.syms,?_,hy,fun t ht=>?_⟩
   ·have:=zoV S; have:=hI.ok.done; simp; omega
   ·simp only [List.mem_map] at ht
    obtain ⟨b,hb,rfl⟩:=ht
    have hb':=hI.bd b hb
    have h1:=hb'.zFi
    have h2:=hb'.ins
    refine ⟨by show b.ins.length<=_; omega,fun x hx=>by have:=hb'.labs x hx; omega⟩
end Go.Vs
end
section
namespace Go.Vs
local instance tabPalQ2:Tab:=⟨fun _=>none⟩
theorem znl:zcr=some true:=by
 unfold zcr
 rw [zi4 ⟨#[115,121,109,32,120,32,50,32,55,10,116,104,114,101,97,100,10,97,58,32,106,109,112,32,97]⟩ (show (25:Nat)<=50000 by decide),zi4 ⟨#[109,111,118,32,114,97,120,44,32,49]⟩ (show (10:Nat)<=50000 by decide),zyJ,zyI]
 simp only [Option.bind_some]
 rw [if_pos (fun _=>⟨by decide,by decide⟩)]
 rfl
end Go.Vs
end
section
namespace Go.Vs
local instance tabPalQ3:Tab:=⟨fun _=>none⟩
theorem zqU(x:zae)(syms:List ByteArray)(ha:I64 x.A.N)(hb:I64 x.B.N)(ht:x.To.size<=10)(hs:∀s∈syms,s.size<=10):(insT x syms).size<=100:=by
 have od:∀o:zal,I64 o.N->(opdT o syms).size<=33:=by
  intro o hn
  have hz:=zew hn
  have hy:=zhW hs o.Sym
  have hr:=zih o.Reg
  unfold opdT
  split
  ·rw [z7]; omega
  split
  ·omega
  split
  ·omega
  split
  ·rw [z7]; omega
  split <;> simp only [ByteArray.size_append,z8,z9] <;> omega
 have ha:=od x.A ha
 have hb:=od x.B hb
 have ho:=zlP x.Op x.Cond
 have hS:(if x.Lock then (⟨#[108,111,99,107,32]⟩:ByteArray)++opT x.Op x.Cond else opT x.Op x.Cond).size<=15:=by
  split
  ·rw [ByteArray.size_append,z10]; omega
  ·omega
 unfold insT
 split
 ·rw [z7]; omega
 simp only
 generalize (if x.Lock then (⟨#[108,111,99,107,32]⟩:ByteArray)++opT x.Op x.Cond else opT x.Op x.Cond)=S at hS ⊢
 split
 ·simp only [ByteArray.size_append,z1]; omega
 split
 ·omega
 split
 ·rw [z7]; omega
 ·simp only [ByteArray.size_append,z1,z11]; omega
theorem zrF(syms:List ByteArray)(hs:∀s∈syms,s.size<=10)(t:zad)(ht:zpI t)(n:Nat)(hn:t.Ins.length<=n)(a:ByteArray):(thT syms a t).size<=a.size+(n * 110+7):=by
 obtain ⟨r,k,m,e1,e2,e3,e4,rfl⟩:=ht
 have each:∀x∈zdi (r++[hltI]) m,∀a:ByteArray,(zjt syms a x).size<=a.size+110:=by
  intro x hx a
  obtain ⟨i,hi⟩:=List.getElem?_of_mem hx
  have hlen:=(List.getElem?_eq_some_iff.1 hi).1
  rw [zfl] at hlen
  obtain ⟨y,hy⟩:∃y,(r++[hltI])[i]?=some y:=⟨_,List.getElem?_eq_getElem hlen⟩
  rw [zc8 hy] at hi
  have hy':BookIns y\/y=hltI:=by
   rcases List.mem_append.1 (List.mem_of_getElem? hy) with h | h
   ·exact .inl (e3 y h).toBookIns
   ·exact .inr (List.mem_singleton.1 h)
  injection hi with hi
  subst hi
  have k1:I64 (putL m i y).A.N/\I64 (putL m i y).B.N/\(putL m i y).To.size<=10:=by
   unfold putL
   rcases hy' with h | rfl
   ·have:=h.to
    exact ⟨h.a,h.b,by simpa using (by omega:y.To.size<=10)⟩
   ·exact ⟨z64,z64,show (0:Nat)<=10 by decide⟩
  have k2:((putL m i y).zLb.foldl labT a).size<=a.size+5:=by
   unfold putL
   simp only
   split
   ·simp only [List.foldl_cons,List.foldl_nil,labT,ByteArray.size_append,z4]
    have:(zc3 (i:Int)).size=3:=by unfold zc3; rfl
    omega
   ·simp
  have k3:=zqU (putL m i y) syms k1.1 k1.2.1 k1.2.2 hs
  unfold zjt
  simp only [ByteArray.size_append,z2,z5]
  omega
 unfold thT
 have:=zeX (zjt syms) 110 (zdi (r++[hltI]) m) (fun a x hx=>each x hx a) (a++(⟨#[116,104,114,101,97,100,10]⟩:ByteArray))
 have h2:(zdi (r++[hltI]) m).length * 110<=n * 110:=Nat.mul_le_mul_right _ hn
 simp only [ByteArray.size_append,z6] at *
 omega
theorem zrj(l:List (List zay))(hw:∀x∈l,∀y∈x,zaZ y)(p1 p2:Nat)(h1:p1<=3)(h2:p2<=8) :
  ∃p,zbC l (p1:Int) (p2:Int)=some p/\zcY p=some (zjp p)/\(zjp p).size<=4000/\zjn p/\zgp p=0/\p.zSy=zdY/\(∀t∈p.zTh,zpI t)/\p.zTh.length<=p1/\(∀t∈p.zTh,t.Ins.length<=p2+1):=by
 obtain ⟨p,e1,e2⟩:=zrk l hw p1 p2 (by omega) (by omega)
 obtain ⟨p',e1',hsy,hth,hlen,hck,hi⟩:=zpz l hw p1 p2 (by omega) (by omega)
 rw [e1] at e1'
 obtain rfl:=Option.some.inj e1'
 refine ⟨p,e1,znH p e2,?_,e2,hck,hsy,hth,hlen,hi⟩
 unfold zjp
 have b:(zgp p != 0)=false:=by rw [hck]; rfl
 rw [b]
 simp only [Bool.false_eq_true,if_false]
 have hs:∀s∈zbb p,s.size<=10:=by
  unfold zbb; rw [hsy]; decide
 have h3:=zeX (thT (zbb p)) 997 p.zTh (fun a t ht=>by have:=zrF _ hs t (hth t ht) 9 (by have:=hi t ht; omega) a; omega) (p.zSy.foldl symT ⟨#[]⟩)
 have h4:(p.zSy.foldl symT ⟨#[]⟩).size<=100:=by rw [hsy]; decide +kernel
 have h5:p.zTh.length * 997<=3 * 997:=Nat.mul_le_mul_right _ (by omega)
 omega
end Go.Vs
end
section
namespace Go.Vs
local instance tabPalQ4:Tab:=⟨fun _=>none⟩
end Go.Vs
end
section
namespace Go.Vs
local instance tabPalQ5:Tab:=⟨fun _=>none⟩
theorem zsH{p:zag}(h:zjn p):NumG p:=⟨fun s hs=>⟨(h.sym s hs).size,(h.sym s hs).init⟩,fun t ht x hx=>⟨((h.th t ht).ins x hx).a,((h.th t ht).ins x hx).b⟩⟩
end Go.Vs
end
section
namespace Go.Vs
local instance tabPalQ6:Tab:=⟨fun _=>none⟩
theorem zkX(l:List (List zay))(hw:∀x∈l,∀y∈x,zaZ y):zdd l=some true:=by
 obtain ⟨p,e1,e2,e3,e4,e5,_⟩:=zrj l hw 3 8 (by omega) (by omega)
 have ok:=zqu (zjp p) (by omega)
 have hp:=zpl e5 (zsH e4)
 unfold zdd
 rw [show zbC l 3 8=some p from e1]
 simp only [Option.bind_some]
 rw [e2]
 simp only [Option.bind_some]
 rw [zi4 _ (by omega),hp]
 rw [hp] at ok
 simp only [Option.bind_some,beq_self_eq_true,Bool.and_self,if_true,Bool.true_and]
 rw [zny _ _ (by have:=ok.syms; simp only at this; omega) (by have:=ok.th; simp only at this; omega) (fun s h=>by have:=ok.init s h; omega) (fun t h=>⟨by have:=(ok.ins t h).1; omega,fun x hx=>by have:=(ok.ins t h).2 x hx; omega⟩)]
 simp [znl]
end Go.Vs
end
