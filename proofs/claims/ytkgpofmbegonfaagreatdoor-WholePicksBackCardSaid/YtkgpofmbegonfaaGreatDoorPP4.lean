import Derived.Test.YtkgpofmbegonfaaGreatDoorPP2
import Derived.Test.YtkgpofmbegonfaaGreatDoorPS0
set_option linter.all false
section
namespace Go.Vs
local instance tabPalPC:Tab:=⟨fun _=>none⟩
theorem zjY{l m:List ByteArray}{s:ByteArray}:has (l++m) s=(has l s||has m s):=by unfold has; rw [List.any_append]
structure BdOk (N:Nat) (b:Bd):Prop where
 all:b.all.length<=N
 open_:b.open_.length<=N
 zFi:b.zFi.length<=N
 zTg:b.zTg.length=b.zFi.length
 ins:b.ins.length=b.zFi.length
 lab:∀s,has b.all s=(has b.open_ s||has (b.ins.flatMap (·.zLb)) s)
 to:∀x∈b.ins,(x.To≠⟨#[]⟩ ↔ (x.Op=10\/x.Op=11))
 labs:∀x∈b.ins,x.zLb.length<=N
theorem zmQ{T:List zac}{S S':PSt}(hT:zcT T)(hS:StOk T S)(hi:S.at_<T.length)(hb:∀b∈S.bs,BdOk T.length b)(h:zhk T S=.inr S'):∀b∈S'.bs,BdOk T.length b:=by
 obtain ⟨g1,g2,g3,g4⟩:=hS
 unfold zhk at h
 split at h
 ·cases h; exact hb
 split at h
 ·unfold symP at h
  split at h
  ·cases h
  split at h
  ·cases h
  split at h
  ·cases h
  split at h
  ·cases h
  split at h
  ·cases h
  split at h
  ·cases h
  split at h
  ·cases h
  cases h
  exact hb
 split at h
 ·unfold thrP at h
  split at h
  ·cases h
  cases h
  intro b hbm
  rw [show PSt.bs ⟨S.at_+1,S.syms,S.bs,some ⟨tk T S.at_,[],[],[],[],[]⟩⟩=S.bs++[⟨tk T S.at_,[],[],[],[],[]⟩] from rfl,List.mem_append] at hbm
  rcases hbm with hbm | hbm
  ·exact hb b hbm
  ·rw [List.mem_singleton] at hbm
   subst hbm
   exact ⟨by simp,by simp,by simp,rfl,rfl,fun s=>rfl,fun x hx=>by simp at hx,fun x hx=>by simp at hx⟩
 ·unfold zmt at h
  split at h
  ·cases h
  rename_i c hc
  obtain ⟨c1,c2,c3,c4,c5⟩:=g4 c hc
  have hbs:=zqp S hc
  have hcb:BdOk T.length c:=hb c (by rw [hbs]; simp)
  have hdb:∀b∈S.done,BdOk T.length b:=fun b hm=>hb b (by rw [hbs]; simp [hm])
  split at h
  ·cases h
  rename_i j al op hx
  obtain ⟨n1,n2,w,n3,n4,n5⟩:=ze9 hT _ _ _ _ hi hx
  have al_len:al.length<=T.length:=by rw [n3,List.length_append]; omega
  have op_len:op.length<=T.length:=by rw [n4,List.length_append]; omega
  have lab2:∀s,has al s=(has op s||has (c.ins.flatMap (·.zLb)) s):=fun s=>by
   rw [n3,n4,zjY,zjY,hcb.lab s]
   cases has c.open_ s <;> cases has w s <;> cases has (c.ins.flatMap (·.zLb)) s <;> rfl
  split at h
  ·cases h
   intro b hbm
   rw [show PSt.bs ⟨j,S.syms,S.done,some ⟨c.head,al,op,c.zFi,c.zTg,c.ins⟩⟩=S.done++[⟨c.head,al,op,c.zFi,c.zTg,c.ins⟩] from rfl,List.mem_append] at hbm
   rcases hbm with hbm | hbm
   ·exact hdb b hbm
   ·rw [List.mem_singleton] at hbm
    subst hbm
    exact ⟨al_len,op_len,hcb.zFi,c4,c5,lab2,hcb.to,hcb.labs⟩
  ·split at h
   ·cases h
   rename_i y t k hy
   obtain ⟨m1,m2,m3,m4⟩:=zho hT n2 hy
   cases h
   intro b hbm
   rw [show ∀z:Bd,PSt.bs ⟨k,S.syms,S.done,some z⟩=S.done++[z] from fun _=>rfl,List.mem_append] at hbm
   rcases hbm with hbm | hbm
   ·exact hdb b hbm
   ·rw [List.mem_singleton] at hbm
    subst hbm
    refine ⟨al_len,by simp,by simp; omega,by simp; omega,by simp; omega,fun s=>?_,fun x hx=>?_,fun x hx=>?_⟩
    ·simp only [List.flatMap_append,List.flatMap_cons,List.flatMap_nil,List.append_nil,zjY]
     rw [lab2 s,show has [] s=false from rfl,Bool.false_or,Bool.or_comm]
    ·simp only [List.mem_append,List.mem_singleton] at hx
     rcases hx with hx | rfl
     ·exact hcb.to x hx
     ·exact m3
    ·simp only [List.mem_append,List.mem_singleton] at hx
     rcases hx with hx | rfl
     ·exact hcb.labs x hx
     ·exact op_len
def cntF(fs:List zac)(i:Nat)(a:Int)(x:zao):Int ⊕ Option zah:=if x.Op==12 then .inl a else if a==4096 then .inr (some (flt 10 (rd fs (i:Int)))) else .inl (IntKind.wrap .i64 (a+1))
def toF(al:List ByteArray)(tg:List zac)(i:Nat)(_:Unit)(x:zao):Unit ⊕ Option zah:=if (!decide (x.To=(⟨#[]⟩:ByteArray)))&&(!has al x.To) then .inr (some (flt 7 (rd tg (i:Int)))) else .inl ()
def zlm(xs:List zao):Int:=(rd xs (((xs.length-1:Nat)):Int)).Op
def zkb(b:Bd):Option zah :=
 if (((b.ins.length:Int)==0)||decide ((b.open_.length:Int)>0))||((zlm b.ins != 10)&&(zlm b.ins != 14)) then some (flt 9 b.head)
 else match zcN (cntF b.zFi) (fun _=>none) 0 0 b.ins with
  | some f=>some f
  | none=>zcN (toF b.all b.zTg) (fun _=>none) 0 () b.ins
def cvF{α β R R':Type}(f:Nat->β->α->β ⊕ R)(h:R->R')(i:Nat)(a:β)(x:α):β ⊕ R':=match f i a x with
 | .inl a'=>.inl a'
 | .inr r=>.inr (h r)
theorem zfa{α β R R':Type}(f:Nat->β->α->β ⊕ R)(fin:β->R)(h:R->R'):∀(l:List α) (i:Nat) (a:β),zcN (cvF f h) (fun a=>h (fin a)) i a l=h (zcN f fin i a l)
 | [],i,a=>rfl
 | x::xs,i,a=>by
  simp only [zcN,cvF]
  cases hf:f i a x with
  | inl a'=>exact zfa f fin h xs (i+1) a'
  | inr r=>rfl
theorem zn2{α:Type}{l:List α}{k:Nat}{x:α}(h:l[k]?=some x):l.set k x=l:=by
 apply List.ext_getElem?
 intro n
 rw [List.getElem?_set]
 split
 ·rename_i e; subst e
  obtain ⟨h1,h2⟩:=List.getElem?_eq_some_iff.1 h
  simp [h1,h2]
 ·rfl
theorem zi4{α:Type}{l:List α}{k:Nat}{x:α}(h:l[k]?=some x):l.set ((k:Int)).toNat x=l:=by rw [Int.toNat_natCast]; exact zn2 h
theorem zpj{n:Nat}(h:n<=1000000)(h0:n≠0):IntKind.wrap .i64 ((n:Int)-1)=((n-1:Nat):Int):=by
 rw [zbV ⟨by omega,by omega⟩]; omega
theorem zhV(xs:List zao)(o:Int)(h:xs.length<=1000000):((!(((xs.length:Int)==0)||decide (o>0)))=true->InB (IntKind.wrap .i64 ((xs.length:Int)-1)) xs.length):=by
 intro e
 have h0:xs.length≠0:=by
  intro h0; rw [h0] at e; simp at e
 rw [zpj h h0]
 exact zbD (by omega)
theorem zp4(xs:List zao)(o:Int)(h:xs.length<=1000000):((((xs.length:Int)==0)||decide (o>0))||(((rd xs (IntKind.wrap .i64 ((xs.length:Int)-1))).Op != 10)&&((rd xs (IntKind.wrap .i64 ((xs.length:Int)-1))).Op != 14)))=((((xs.length:Int)==0)||decide (o>0))||((zlm xs != 10)&&(zlm xs != 14))):=by
 by_cases h0:xs.length=0
 ·simp [h0]
 ·rw [zpj h h0]; rfl
def OutW{α:Type}(R:α)(fl:α->zah)(ok:Bool)(R':α)(q:Option zah):Prop:=match q with
 | some g=>ok=false/\fl R'=g
 | none=>ok=true/\R'=R
theorem zls(T:List zac)(S:PSt)(f:zah){k:Nat}{b:Bd}(hk:S.bs[k]?=some b){N:Nat}(hN:N<=100000)(hb:BdOk N b):∃ok R',zbp (stB T S f) (k:Int)=some (ok,R')/\OutW (stB T S f) (·.f) ok R' (zkb b):=by
 obtain ⟨b1,b2,b3,b4,b5,b6,b7,b8⟩:=hb
 have hkl:=(List.getElem?_eq_some_iff.1 hk).1
 have e1:(S.bs.map toB)[k]?=some (toB b):=by rw [List.getElem?_map,hk]; rfl
 have e2:(S.bs.map toTh)[k]?=some (toTh b):=by rw [List.getElem?_map,hk]; rfl
 have r1:rd (stB T S f).b (k:Int)=toB b:=zeL e1
 have r2:rd (stB T S f).p.zTh (k:Int)=toTh b:=zeL e2
 unfold zbp
 rw [if_pos (show InB (k:Int) (stB T S f).b.length from zdD e1),if_pos (show InB (k:Int) (stB T S f).p.zTh.length from zdD e2),r1,r2]
 have s1:(stB T S f).p.zTh.set ((k:Int)).toNat ⟨b.ins⟩=(stB T S f).p.zTh:=zi4 e2
 have s2:(stB T S f).b.set ((k:Int)).toNat ⟨b.head,tmap b.all,b.open_,b.zFi,b.zTg⟩=(stB T S f).b:=zi4 e1
 have hn:b.ins.length<=1000000:=by omega
 simp only [toB,toTh,Option.bind_some]
 rw [if_pos (zhV b.ins _ hn),if_pos (fun h=>zhV b.ins _ hn (by simp only [Bool.and_eq_true] at h; exact h.1)),zp4 _ _ hn]
 unfold zkb
 by_cases hc:((((b.ins.length:Int)==0)||decide ((b.open_.length:Int)>0))||((zlm b.ins != 10)&&(zlm b.ins != 14)))=true
 ·rw [if_pos hc,if_pos hc]
  exact ⟨_,_,rfl,rfl,rfl⟩
 rw [if_neg hc,if_neg hc]
 let hh:Option zah->Unit ⊕ (Bool × zaa):=fun o=>match o with
  | none=>.inl ()
  | some g=>.inr (false,⟨(stB T S f).l,(stB T S f).at_,⟨(stB T S f).p.zSy,(stB T S f).p.zTh⟩,(stB T S f).b,g⟩)
 have L1:=zcU b.ins (fun i (a:Int)=>(a,i)) (zbl b.ins b.zFi (stB T S f) (k:Int) (tmap b.all) b.open_ b.zTg) (cvF (cntF b.zFi) hh) (fun _=>hh none) (fun _ _=>True) (fun i x hx a _=>⟨?_,fun _ _=>trivial⟩) (fun a _=>?_) 0 trivial
 rotate_left
 ·have hil:=(List.getElem?_eq_some_iff.1 hx).1
  simp only [zbl]
  rw [if_pos (zhj hx),if_pos (zdD hx),zeL hx]
  unfold cvF cntF
  by_cases h12:(x.Op==12)=true
  ·rw [if_pos h12,if_pos h12]
   simp only [zbm]
   rw [wi (by omega)]
  rw [if_neg h12,if_neg h12]
  by_cases h40:(a==4096)=true
  ·rw [if_pos h40,if_pos h40,if_pos (zbD (by omega))]
   rw [r1]
   simp only [toB]
   rw [s1,s2]
   rfl
  ·rw [if_neg h40,if_neg h40]
   simp only [zbm]
   rw [wi (by omega)]
 ·simp only [zbl]
  rw [if_neg (by simp)]
 have L2:=zcU b.ins (fun i (_:Unit)=>i) (zbk b.ins (tmap b.all) b.zTg (stB T S f) (k:Int) b.open_ b.zFi) (cvF (toF b.all b.zTg) hh) (fun _=>hh none) (fun _ _=>True) (fun i x hx a _=>⟨?_,fun _ _=>trivial⟩) (fun a _=>?_) () trivial
 rotate_left
 ·have hil:=(List.getElem?_eq_some_iff.1 hx).1
  simp only [zbk]
  rw [if_pos (zhj hx),if_pos (zdD hx),zeL hx]
  simp only [Option.bind_some]
  rw [zks]
  unfold cvF toF
  by_cases h7:((!decide (x.To=(⟨#[]⟩:ByteArray)))&&(!has b.all x.To))=true
  ·rw [if_pos h7,if_pos h7,if_pos (zbD (by omega))]
   rw [r1]
   simp only [toB]
   rw [s1,s2]
   rfl
  ·rw [if_neg h7,if_neg h7]
   rw [wi (by omega)]
 ·simp only [zbk]
  rw [if_neg (by simp)]
 rw [zfa (cntF b.zFi) (fun _=>none) hh] at L1
 rw [zfa (toF b.all b.zTg) (fun _=>none) hh] at L2
 rw [L1]
 cases hx:zcN (cntF b.zFi) (fun _=>none) 0 0 b.ins with
 | some g=>exact ⟨_,_,rfl,rfl,rfl⟩
 | none =>
  simp only [hh,Option.bind_some,zcG]
  rw [L2]
  cases hy:zcN (toF b.all b.zTg) (fun _=>none) 0 () b.ins with
  | some g=>exact ⟨_,_,rfl,rfl,rfl⟩
  | none =>
   simp only [hh,Option.bind_some,zcG]
   rw [s1,s2]
   exact ⟨_,_,rfl,rfl,rfl⟩
end Go.Vs
end
section
namespace Go.Vs
local instance tabPalPD:Tab:=⟨fun _=>none⟩
end Go.Vs
end
section
namespace Go.Vs
local instance tabPalPE:Tab:=⟨fun _=>none⟩
structure Inv (T:List zac) (S:PSt):Prop where
 ok:StOk T S
 none_:S.cur=none->S.done=[]
 bd:∀b∈S.bs,BdOk T.length b
theorem zjk{T:List zac}{S S':PSt}(hT:zcT T)(h:Inv T S)(hi:S.at_<T.length)(hx:zlh T S=.inr S'):Inv T S'/\S.at_<S'.at_:=by
 unfold zlh at hx
 cases hy:zhk T S with
 | inl g=>rw [hy] at hx; cases hx
 | inr S1 =>
  rw [hy] at hx
  obtain ⟨a1,a2,a3,a4,a5,a6⟩:=zjQ hT h.ok hi hy
  have a7:=zmQ hT h.ok hi h.bd hy
  unfold zjn at hx
  simp only at hx
  split at hx
  ·cases hx
  ·cases hx
   exact ⟨⟨⟨a2,a3,a4,a5⟩,a6 h.none_,a7⟩,by show S.at_<S1.at_+1; omega⟩
def zfW(T:List zac):Nat->PSt->zah ⊕ PSt
 | 0,S=>.inr S
 | n+1,S=>if S.at_<T.length then (match zlh T S with | .inl f=>.inl f | .inr S'=>zfW T n S') else .inr S
theorem zib{T:List zac}(hT:zcT T):∀(n:Nat) (S:PSt) {S':PSt},Inv T S->zfW T n S=.inr S'->Inv T S'
 | 0,S,S',h,e=>by simp only [zfW,Sum.inr.injEq] at e; subst e; exact h
 | n+1,S,S',h,e=>by
  unfold zfW at e
  split at e
  ·rename_i hi
   split at e
   ·cases e
   ·rename_i S1 hx
    exact zib hT n S1 (zjk hT h hi hx).1 e
  ·simp only [Sum.inr.injEq] at e; subst e; exact h
def ziY(_:Nat)(_:Unit)(b:Bd):Unit ⊕ Option zah:=match zkb b with
 | some g=>.inr (some g)
 | none=>.inl ()
def ziA(bs:List Bd):Option zah:=zcN ziY (fun _=>none) 0 () bs
def nilP:zaE:=⟨[],[]⟩
def St0:PSt:=⟨0,[],[],none⟩
def zpb(T:List zac):zaE × zah:=match zfW T T.length St0 with
 | .inl f=>(nilP,f)
 | .inr S=>match ziA S.bs with
  | some f=>(nilP,f)
  | none=>(⟨S.syms,S.bs.map toTh⟩,⟨0,0,0⟩)
def zjd(s:ByteArray):zaE × zah:=if (zcc s).2.Code != 0 then (nilP,(zcc s).2) else zpb (zcc s).1
def pB(R:zaa):(List zac) × Int × (List zaz) × (List zaj) × (List zat) × Int × Int × Int:=(R.l,R.at_,R.p.zSy,R.p.zTh,R.b,R.f.Code,R.f.Line,R.f.Col)
theorem zih(T:List zac)(v1:(List zac) × zah)(h1:v1.1=T)(f:zah)(hT:zcT T):∀(n:Nat) (S:PSt),Inv T S->T.length-S.at_<=n->zbn (zbK v1) (pB (stB T S f))=some (match zfW T n S with | .inl g=>.inr (nilP,g) | .inr S'=>.inl (pB (stB T S' f)))
 | 0,S,h,hn=>by
  have hi:¬S.at_<T.length:=by omega
  refine zaM ?_
  simp only [pB,zbK,zfW,h1]
  rw [if_neg (by simpa [stB] using hi)]
 | n+1,S,h,hn=>by
  unfold zfW
  by_cases hi:S.at_<T.length
  ·rw [if_pos hi]
   obtain ⟨ok,R',e1,e2⟩:=zm2 T S f hT h.ok hi h.none_
   have step:zbK v1 (pB (stB T S f))=(if (!ok)=true then some (.inr (.inr (nilP,R'.f))) else some (.inl (pB R'))):=by
    simp only [pB,zbK,h1]
    rw [if_pos (by simpa [stB] using hi)]
    have e1':zbY ⟨(stB T S f).l,(stB T S f).at_,⟨(stB T S f).p.zSy,(stB T S f).p.zTh⟩,(stB T S f).b,⟨(stB T S f).f.Code,(stB T S f).f.Line,(stB T S f).f.Col⟩⟩=some (ok,R'):=e1
    rw [e1']
    rfl
   cases hx:zlh T S with
   | inl g =>
    rw [hx] at e2
    obtain ⟨rfl,hf⟩:=e2
    rw [if_pos (by decide)] at step
    rw [zaM step,hf]
   | inr S' =>
    rw [hx] at e2
    obtain ⟨rfl,rfl⟩:=e2
    rw [if_neg (by decide)] at step
    rw [zbC step]
    obtain ⟨i1,i2⟩:=zjk hT h hi hx
    exact zih T v1 h1 f hT n S' i1 (by omega)
  ·rw [if_neg hi]
   refine zaM ?_
   simp only [pB,zbK,h1]
   rw [if_neg (by simpa [stB] using hi)]
theorem zjW(T:List zac)(S:PSt)(f:zah)(hT:zcT T)(h:Inv T S):zbn (zcm (pB (stB T S f))) (0,pB (stB T S f))=some (match ziA S.bs with | some g=>.inr (nilP,g) | none=>.inl (pB (stB T S f))):=by
 have hl:=hT.len
 have hbl:=znn S
 have hd:=h.ok.done
 let hh:Option zah->((List zac) × Int × (List zaz) × (List zaj) × (List zat) × Int × Int × Int) ⊕ (zaE × zah):=fun o=>match o with
  | none=>.inl (pB (stB T S f))
  | some g=>.inr (nilP,g)
 have L:=zcU S.bs (fun i (_:Unit)=>(i,pB (stB T S f))) (zcm (pB (stB T S f))) (cvF ziY hh) (fun _=>hh none) (fun _ _=>True) (fun i x hx a _=>⟨?_,fun _ _=>trivial⟩) (fun a _=>?_) () trivial
 rotate_left
 ·have hil:=(List.getElem?_eq_some_iff.1 hx).1
  obtain ⟨ok,R',e1,e2⟩:=zls T S f hx hl (h.bd x (List.mem_of_getElem? hx))
  have hdec:decide ((i:Int)<((stB T S f).b.length:Int))=true:=by simpa [stB] using hil
  change (if decide ((i:Int)<((stB T S f).b.length:Int))=true then _ else _)=_
  rw [if_pos hdec]
  have e1':zbp ⟨(stB T S f).l,(stB T S f).at_,⟨(stB T S f).p.zSy,(stB T S f).p.zTh⟩,(stB T S f).b,⟨(stB T S f).f.Code,(stB T S f).f.Line,(stB T S f).f.Col⟩⟩ (i:Int)=some (ok,R'):=e1
  change ((zbp ⟨(stB T S f).l,(stB T S f).at_,⟨(stB T S f).p.zSy,(stB T S f).p.zTh⟩,(stB T S f).b,⟨(stB T S f).f.Code,(stB T S f).f.Line,(stB T S f).f.Col⟩⟩ (i:Int)).bind _)=_
  rw [e1']
  unfold cvF ziY
  cases hw:zkb x with
  | some g =>
   rw [hw] at e2
   obtain ⟨rfl,hf⟩:=e2
   simp only [Option.bind_some,Bool.not_false,if_true,hf]
   rfl
  | none =>
   rw [hw] at e2
   obtain ⟨rfl,rfl⟩:=e2
   simp only [Option.bind_some,Bool.not_true,Bool.false_eq_true,if_false]
   rw [wi (by omega)]
   rfl
 ·change (if decide ((S.bs.length:Int)<((stB T S f).b.length:Int))=true then _ else _)=_
  rw [if_neg (by simp [stB])]
  rfl
 rw [zfa ziY (fun _=>none) hh] at L
 rw [L]
 unfold ziA
 cases zcN ziY (fun _=>none) 0 () S.bs <;> rfl
theorem inv0(T:List zac):Inv T St0:=⟨⟨by simp [St0],by simp [St0],by simp [St0],fun c hc=>by simp [St0] at hc⟩,fun _=>rfl,fun b hb=>by simp [St0,PSt.bs] at hb⟩
theorem zhI(s:ByteArray)(hs:Sm s)(hT:(zcc s).2.Code=0->zcT (zcc s).1):zdl s=some (zjd s):=by
 unfold zdl zjd
 rw [ziK s hs]
 simp only [Option.bind_some]
 by_cases hc:((zcc s).2.Code != 0)=true
 ·rw [if_pos hc,if_pos hc]; rfl
 rw [if_neg hc,if_neg hc]
 have hT':=hT (by simpa [bne] using hc)
 have L:=zih (zcc s).1 (zcc s) rfl ⟨0,0,0⟩ hT' (zcc s).1.length St0 (inv0 _) (by simp [St0])
 have L':zbn (zbK (zcc s)) ((zcc s).1,0,[],[],[],0,0,0)=_:=L
 rw [L']
 unfold zpb
 cases hx:zfW (zcc s).1 (zcc s).1.length St0 with
 | inl g=>rfl
 | inr S =>
  have hI:=zib hT' _ _ (inv0 _) hx
  simp only [Option.bind_some,zcG]
  have W:=zjW (zcc s).1 S ⟨0,0,0⟩ hT' hI
  have W':zbn (zcm (pB (stB (zcc s).1 S ⟨0,0,0⟩))) (0,(pB (stB (zcc s).1 S ⟨0,0,0⟩)).1,(pB (stB (zcc s).1 S ⟨0,0,0⟩)).2.1,(pB (stB (zcc s).1 S ⟨0,0,0⟩)).2.2.1,(pB (stB (zcc s).1 S ⟨0,0,0⟩)).2.2.2.1,(pB (stB (zcc s).1 S ⟨0,0,0⟩)).2.2.2.2.1,(pB (stB (zcc s).1 S ⟨0,0,0⟩)).2.2.2.2.2.1,(pB (stB (zcc s).1 S ⟨0,0,0⟩)).2.2.2.2.2.2.1,(pB (stB (zcc s).1 S ⟨0,0,0⟩)).2.2.2.2.2.2.2)=_:=W
  rw [W']
  cases hw:ziA S.bs with
  | some g=>rfl
  | none=>rfl
end Go.Vs
end
