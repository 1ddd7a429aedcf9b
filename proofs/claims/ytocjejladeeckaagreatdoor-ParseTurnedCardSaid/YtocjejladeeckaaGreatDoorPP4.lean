import Derived.Test.YtocjejladeeckaaGreatDoorPP3
import Derived.Test.YtocjejladeeckaaGreatDoorPS0
set_option linter.all false
section
namespace Go.Vs
local instance tabPalPC:Tab:=⟨fun _=>none⟩
theorem zoo{l m:List ByteArray}{s:ByteArray}:has (l++m) s=(has l s||has m s):=by unfold has; rw [List.any_append]
structure BdOk (N:Nat) (b:Bd):Prop where
 all:b.all.length<=N
 open_:b.open_.length<=N
 zFi:b.zFi.length<=N
 zTg:b.zTg.length=b.zFi.length
 ins:b.ins.length=b.zFi.length
 lab:∀s,has b.all s=(has b.open_ s||has (b.ins.flatMap (·.zLb)) s)
 to:∀x∈b.ins,(x.To≠⟨#[]⟩ ↔ (x.Op=10\/x.Op=11))
 labs:∀x∈b.ins,x.zLb.length<=N
theorem zrc{T:List zaa}{S S':PSt}(hT:zdr T)(hS:StOk T S)(hi:S.at_<T.length)(hb:∀b∈S.bs,BdOk T.length b)(h:zgg T S=.inr S'):∀b∈S'.bs,BdOk T.length b:=by
 obtain ⟨g1,g2,g3,g4⟩:=hS
 unfold zgg at h
 split at h
 ·cases h; exact hb
 split at h
 ·unfold symP at h
  split at h
  ·cases h
  split at h
  ·cases h
  split at h
  ·cases h
  split at h
  ·cases h
  split at h
  ·cases h
  split at h
  ·cases h
  split at h
  ·cases h
  cases h
  exact hb
 split at h
 ·unfold thrP at h
  split at h
  ·cases h
  cases h
  intro b hbm
  rw [show PSt.bs ⟨S.at_+1,S.syms,S.bs,some ⟨tk T S.at_,[],[],[],[],[]⟩⟩=S.bs++[⟨tk T S.at_,[],[],[],[],[]⟩] from rfl,List.mem_append] at hbm
  rcases hbm with hbm | hbm
  ·exact hb b hbm
  ·rw [List.mem_singleton] at hbm
   subst hbm
   exact ⟨by simp,by simp,by simp,rfl,rfl,fun s=>rfl,fun x hx=>by simp at hx,fun x hx=>by simp at hx⟩
 ·unfold zmT at h
  split at h
  ·cases h
  rename_i c hc
  obtain ⟨c1,c2,c3,c4,c5⟩:=g4 c hc
  have hbs:=zou S hc
  have hcb:BdOk T.length c:=hb c (by rw [hbs]; simp)
  have hdb:∀b∈S.done,BdOk T.length b:=fun b hm=>hb b (by rw [hbs]; simp [hm])
  split at h
  ·cases h
  rename_i j al op hx
  obtain ⟨n1,n2,w,n3,n4,n5⟩:=zg2 hT _ _ _ _ hi hx
  have al_len:al.length<=T.length:=by rw [n3,List.length_append]; omega
  have op_len:op.length<=T.length:=by rw [n4,List.length_append]; omega
  have lab2:∀s,has al s=(has op s||has (c.ins.flatMap (·.zLb)) s):=fun s=>by
   rw [n3,n4,zoo,zoo,hcb.lab s]
   cases has c.open_ s <;> cases has w s <;> cases has (c.ins.flatMap (·.zLb)) s <;> rfl
  split at h
  ·cases h
   intro b hbm
   rw [show PSt.bs ⟨j,S.syms,S.done,some ⟨c.head,al,op,c.zFi,c.zTg,c.ins⟩⟩=S.done++[⟨c.head,al,op,c.zFi,c.zTg,c.ins⟩] from rfl,List.mem_append] at hbm
   rcases hbm with hbm | hbm
   ·exact hdb b hbm
   ·rw [List.mem_singleton] at hbm
    subst hbm
    exact ⟨al_len,op_len,hcb.zFi,c4,c5,lab2,hcb.to,hcb.labs⟩
  ·split at h
   ·cases h
   rename_i y t k hy
   obtain ⟨m1,m2,m3,m4⟩:=zkS hT n2 hy
   cases h
   intro b hbm
   rw [show ∀z:Bd,PSt.bs ⟨k,S.syms,S.done,some z⟩=S.done++[z] from fun _=>rfl,List.mem_append] at hbm
   rcases hbm with hbm | hbm
   ·exact hdb b hbm
   ·rw [List.mem_singleton] at hbm
    subst hbm
    refine ⟨al_len,by simp,by simp; omega,by simp; omega,by simp; omega,fun s=>?_,fun x hx=>?_,fun x hx=>?_⟩
    ·simp only [List.flatMap_append,List.flatMap_cons,List.flatMap_nil,List.append_nil,zoo]
     rw [lab2 s,show has [] s=false from rfl,Bool.false_or,Bool.or_comm]
    ·simp only [List.mem_append,List.mem_singleton] at hx
     rcases hx with hx | rfl
     ·exact hcb.to x hx
     ·exact m3
    ·simp only [List.mem_append,List.mem_singleton] at hx
     rcases hx with hx | rfl
     ·exact hcb.labs x hx
     ·exact op_len
def cntF(fs:List zaa)(i:Nat)(a:Int)(x:zae):Int ⊕ Option zak:=if x.Op==12 then .inl a else if a==4096 then .inr (some (flt 10 (rd fs (i:Int)))) else .inl (IntKind.wrap .i64 (a+1))
def toF(al:List ByteArray)(tg:List zaa)(i:Nat)(_:Unit)(x:zae):Unit ⊕ Option zak:=if (!decide (x.To=(⟨#[]⟩:ByteArray)))&&(!has al x.To) then .inr (some (flt 7 (rd tg (i:Int)))) else .inl ()
def znl(xs:List zae):Int:=(rd xs (((xs.length-1:Nat)):Int)).Op
def zkl(b:Bd):Option zak :=
 if (((b.ins.length:Int)==0)||decide ((b.open_.length:Int)>0))||((znl b.ins != 10)&&(znl b.ins != 14)) then some (flt 9 b.head)
 else match zbv (cntF b.zFi) (fun _=>none) 0 0 b.ins with
  | some f=>some f
  | none=>zbv (toF b.all b.zTg) (fun _=>none) 0 () b.ins
def cvF{α β R R':Type}(f:Nat->β->α->β ⊕ R)(h:R->R')(i:Nat)(a:β)(x:α):β ⊕ R':=match f i a x with
 | .inl a'=>.inl a'
 | .inr r=>.inr (h r)
theorem zfE{α β R R':Type}(f:Nat->β->α->β ⊕ R)(fin:β->R)(h:R->R'):∀(l:List α) (i:Nat) (a:β),zbv (cvF f h) (fun a=>h (fin a)) i a l=h (zbv f fin i a l)
 | [],i,a=>rfl
 | x::xs,i,a=>by
  simp only [zbv,cvF]
  cases hf:f i a x with
  | inl a'=>exact zfE f fin h xs (i+1) a'
  | inr r=>rfl
theorem zr8{α:Type}{l:List α}{k:Nat}{x:α}(h:l[k]?=some x):l.set k x=l:=by
 apply List.ext_getElem?
 intro n
 rw [List.getElem?_set]
 split
 ·rename_i e; subst e
  obtain ⟨h1,h2⟩:=List.getElem?_eq_some_iff.1 h
  simp [h1,h2]
 ·rfl
theorem zkt{α:Type}{l:List α}{k:Nat}{x:α}(h:l[k]?=some x):l.set ((k:Int)).toNat x=l:=by rw [Int.toNat_natCast]; exact zr8 h
theorem zti{n:Nat}(h:n<=1000000)(h0:n≠0):IntKind.wrap .i64 ((n:Int)-1)=((n-1:Nat):Int):=by
 rw [zbO ⟨by omega,by omega⟩]; omega
theorem zhZ(xs:List zae)(o:Int)(h:xs.length<=1000000):((!(((xs.length:Int)==0)||decide (o>0)))=true->InB (IntKind.wrap .i64 ((xs.length:Int)-1)) xs.length):=by
 intro e
 have h0:xs.length≠0:=by
  intro h0; rw [h0] at e; simp at e
 rw [zti h h0]
 exact zaO (by omega)
theorem zrg(xs:List zae)(o:Int)(h:xs.length<=1000000):((((xs.length:Int)==0)||decide (o>0))||(((rd xs (IntKind.wrap .i64 ((xs.length:Int)-1))).Op != 10)&&((rd xs (IntKind.wrap .i64 ((xs.length:Int)-1))).Op != 14)))=((((xs.length:Int)==0)||decide (o>0))||((znl xs != 10)&&(znl xs != 14))):=by
 by_cases h0:xs.length=0
 ·simp [h0]
 ·rw [zti h h0]; rfl
def OutW{α:Type}(R:α)(fl:α->zak)(ok:Bool)(R':α)(q:Option zak):Prop:=match q with
 | some g=>ok=false/\fl R'=g
 | none=>ok=true/\R'=R
theorem zpS(T:List zaa)(S:PSt)(f:zak){k:Nat}{b:Bd}(hk:S.bs[k]?=some b){N:Nat}(hN:N<=100000)(hb:BdOk N b):∃ok R',zcv (stB T S f) (k:Int)=some (ok,R')/\OutW (stB T S f) (·.f) ok R' (zkl b):=by
 obtain ⟨b1,b2,b3,b4,b5,b6,b7,b8⟩:=hb
 have hkl:=(List.getElem?_eq_some_iff.1 hk).1
 have e1:(S.bs.map toB)[k]?=some (toB b):=by rw [List.getElem?_map,hk]; rfl
 have e2:(S.bs.map toTh)[k]?=some (toTh b):=by rw [List.getElem?_map,hk]; rfl
 have r1:rd (stB T S f).b (k:Int)=toB b:=zcd e1
 have r2:rd (stB T S f).p.zTh (k:Int)=toTh b:=zcd e2
 unfold zcv
 rw [if_pos (show InB (k:Int) (stB T S f).b.length from zbj e1),if_pos (show InB (k:Int) (stB T S f).p.zTh.length from zbj e2),r1,r2]
 have s1:(stB T S f).p.zTh.set ((k:Int)).toNat ⟨b.ins⟩=(stB T S f).p.zTh:=zkt e2
 have s2:(stB T S f).b.set ((k:Int)).toNat ⟨b.head,tmap b.all,b.open_,b.zFi,b.zTg⟩=(stB T S f).b:=zkt e1
 have hn:b.ins.length<=1000000:=by omega
 simp only [toB,toTh,Option.bind_some]
 rw [if_pos (zhZ b.ins _ hn),if_pos (fun h=>zhZ b.ins _ hn (by simp only [Bool.and_eq_true] at h; exact h.1)),zrg _ _ hn]
 unfold zkl
 by_cases hc:((((b.ins.length:Int)==0)||decide ((b.open_.length:Int)>0))||((znl b.ins != 10)&&(znl b.ins != 14)))=true
 ·rw [if_pos hc,if_pos hc]
  exact ⟨_,_,rfl,rfl,rfl⟩
 rw [if_neg hc,if_neg hc]
 let hh:Option zak->Unit ⊕ (Bool × zac):=fun o=>match o with
  | none=>.inl ()
  | some g=>.inr (false,⟨(stB T S f).l,(stB T S f).at_,⟨(stB T S f).p.zSy,(stB T S f).p.zTh⟩,(stB T S f).b,g⟩)
 have L1:=zdc b.ins (fun i (a:Int)=>(a,i)) (zcm b.ins b.zFi (stB T S f) (k:Int) (tmap b.all) b.open_ b.zTg) (cvF (cntF b.zFi) hh) (fun _=>hh none) (fun _ _=>True) (fun i x hx a _=>⟨?_,fun _ _=>trivial⟩) (fun a _=>?_) 0 trivial
 rotate_left
 ·have hil:=(List.getElem?_eq_some_iff.1 hx).1
  simp only [zcm]
  rw [if_pos (zfO hx),if_pos (zbj hx),zcd hx]
  unfold cvF cntF
  by_cases h12:(x.Op==12)=true
  ·rw [if_pos h12,if_pos h12]
   simp only [zcn]
   rw [wi (by omega)]
  rw [if_neg h12,if_neg h12]
  by_cases h40:(a==4096)=true
  ·rw [if_pos h40,if_pos h40,if_pos (zaO (by omega))]
   rw [r1]
   simp only [toB]
   rw [s1,s2]
   rfl
  ·rw [if_neg h40,if_neg h40]
   simp only [zcn]
   rw [wi (by omega)]
 ·simp only [zcm]
  rw [if_neg (by simp)]
 have L2:=zdc b.ins (fun i (_:Unit)=>i) (zcl b.ins (tmap b.all) b.zTg (stB T S f) (k:Int) b.open_ b.zFi) (cvF (toF b.all b.zTg) hh) (fun _=>hh none) (fun _ _=>True) (fun i x hx a _=>⟨?_,fun _ _=>trivial⟩) (fun a _=>?_) () trivial
 rotate_left
 ·have hil:=(List.getElem?_eq_some_iff.1 hx).1
  simp only [zcl]
  rw [if_pos (zfO hx),if_pos (zbj hx),zcd hx]
  simp only [Option.bind_some]
  rw [zo0]
  unfold cvF toF
  by_cases h7:((!decide (x.To=(⟨#[]⟩:ByteArray)))&&(!has b.all x.To))=true
  ·rw [if_pos h7,if_pos h7,if_pos (zaO (by omega))]
   rw [r1]
   simp only [toB]
   rw [s1,s2]
   rfl
  ·rw [if_neg h7,if_neg h7]
   rw [wi (by omega)]
 ·simp only [zcl]
  rw [if_neg (by simp)]
 rw [zfE (cntF b.zFi) (fun _=>none) hh] at L1
 rw [zfE (toF b.all b.zTg) (fun _=>none) hh] at L2
 rw [L1]
 cases hx:zbv (cntF b.zFi) (fun _=>none) 0 0 b.ins with
 | some g=>exact ⟨_,_,rfl,rfl,rfl⟩
 | none =>
  simp only [hh,Option.bind_some,zb0]
  rw [L2]
  cases hy:zbv (toF b.all b.zTg) (fun _=>none) 0 () b.ins with
  | some g=>exact ⟨_,_,rfl,rfl,rfl⟩
  | none =>
   simp only [hh,Option.bind_some,zb0]
   rw [s1,s2]
   exact ⟨_,_,rfl,rfl,rfl⟩
end Go.Vs
end
section
namespace Go.Vs
local instance tabPalPD:Tab:=⟨fun _=>none⟩
def stE(T:List zaa)(S:PSt)(f:zak):zab:=⟨T,(S.at_:Int),⟨S.syms,S.bs.map toTh⟩,S.bs.map (·.head),S.bs.map (·.zFi),S.bs.map (·.zTg),S.bs.map (fun b=>(b.open_.length:Int)),[],[],f⟩
theorem zsh(T:List zaa)(S:PSt)(f:zak)(hS:S.bs.length<=64)(hd:S.cur=none->S.done=[]):zbc (stR T S f)=some (stE T S f):=by
 have hb:((stR T S f).P.zTh.length:Int)=(S.bs.length:Int):=by simp [stR]
 have hlen:=zjQ S
 unfold zbc
 rw [hb]
 unfold stE
 cases hc:S.cur with
 | none =>
  have h0:=hd hc
  have e0:S.bs=[]:=by rw [zrK S hc,h0]
  rw [if_neg (by rw [e0]; simp)]
  unfold stR
  simp only [e0,h0,hc]
  try rfl
 | some c =>
  have e0:=zou S hc
  rw [if_pos (by rw [e0]; simp)]
  have hle:(stR T S f).Left.length=S.done.length:=by simp [stR]
  rw [if_pos (zd1 (by rw [hle]; omega))]
  unfold stR
  simp only [e0,hc,List.map_append,List.map_cons,List.map_nil,Option.bind_some,Option.map_some,Option.getD_some]
theorem zqL(t:zad)(s:ByteArray)(hn:t.Ins.length<=1000000)(hl:∀x∈t.Ins,x.zLb.length<=1000000):∃f,zdb t s=some f/\decide (f<0)=!has (t.Ins.flatMap (·.zLb)) s:=by
 have:=zdc t.Ins (fun i (_:Unit)=>i) (zbJ t s) (zor s) Sum.inl (fun _ _=>True) (fun i x hx a _=>⟨?_,fun _ _=>trivial⟩) (fun a _=>?_) () trivial
 ·unfold zdb
  rw [this]
  rcases zkW s t.Ins 0 with ⟨h1,h2⟩ | ⟨k,h1,h2⟩
  ·rw [h1,h2]; exact ⟨-1,rfl,rfl⟩
  ·rw [h1,h2]; exact ⟨k,rfl,by simp⟩
 ·have hi:i<=1000000:=by have:=(List.getElem?_eq_some_iff.1 hx).1; omega
  have hkn:=hl x (List.mem_of_getElem? hx)
  simp only [zbJ]
  rw [if_pos (zfO hx),if_pos (zbj hx),zcd hx,wi (by omega)]
  obtain ⟨j,h1,h2⟩:=zmp x.zLb s (by omega)
  rw [h1]
  simp only [Option.bind_some,h2]
  unfold zor
  cases has x.zLb s <;> rfl
 ·simp only [zbJ]; rw [if_neg (by simp)]
theorem zsl(T:List zaa)(S:PSt)(f:zak){k:Nat}{b:Bd}(hk:S.bs[k]?=some b){N:Nat}(hN:N<=100000)(hb:BdOk N b):∃ok R',zbF (stE T S f) (k:Int)=some (ok,R')/\OutW (stE T S f) (·.Bad) ok R' (zkl b):=by
 obtain ⟨b1,b2,b3,b4,b5,b6,b7,b8⟩:=hb
 have hkl:=(List.getElem?_eq_some_iff.1 hk).1
 have e2:(stE T S f).P.zTh[k]?=some (toTh b):=by show (S.bs.map toTh)[k]?=_; rw [List.getElem?_map,hk]; rfl
 have e3:(stE T S f).Left[k]?=some (b.open_.length:Int):=by show (S.bs.map _)[k]?=_; rw [List.getElem?_map,hk]; rfl
 have e4:(stE T S f).zHd[k]?=some b.head:=by show (S.bs.map _)[k]?=_; rw [List.getElem?_map,hk]; rfl
 have e5:(stE T S f).First[k]?=some b.zFi:=by show (S.bs.map _)[k]?=_; rw [List.getElem?_map,hk]; rfl
 have e6:(stE T S f).To[k]?=some b.zTg:=by show (S.bs.map _)[k]?=_; rw [List.getElem?_map,hk]; rfl
 unfold zbF
 rw [if_pos (zbj e2),zcd e2,zcd e3,zcd e4]
 have s1:(stE T S f).P.zTh.set ((k:Int)).toNat ⟨b.ins⟩=(stE T S f).P.zTh:=zkt e2
 have hn:b.ins.length<=1000000:=by omega
 simp only [toTh,Option.bind_some]
 rw [if_pos (fun _=>zbj e3),if_pos (zhZ b.ins _ hn),if_pos (fun h=>zhZ b.ins _ hn (by simp only [Bool.and_eq_true] at h; exact h.1)),zrg _ _ hn]
 unfold zkl
 by_cases hc:((((b.ins.length:Int)==0)||decide ((b.open_.length:Int)>0))||((znl b.ins != 10)&&(znl b.ins != 14)))=true
 ·rw [if_pos hc,if_pos hc,if_pos (zbj e4)]
  exact ⟨_,_,rfl,rfl,rfl⟩
 rw [if_neg hc,if_neg hc]
 let hh:Option zak->Unit ⊕ (Bool × zab):=fun o=>match o with
  | none=>.inl ()
  | some g=>.inr (false,⟨(stE T S f).T,(stE T S f).I,⟨(stE T S f).P.zSy,(stE T S f).P.zTh⟩,(stE T S f).zHd,(stE T S f).First,(stE T S f).To,(stE T S f).Left,(stE T S f).All,(stE T S f).Wait,g⟩)
 have L1:=zdc b.ins (fun i (a:Int)=>(a,i)) (zby b.ins (k:Int) (stE T S f)) (cvF (cntF b.zFi) hh) (fun _=>hh none) (fun _ _=>True) (fun i x hx a _=>⟨?_,fun _ _=>trivial⟩) (fun a _=>?_) 0 trivial
 rotate_left
 ·have hil:=(List.getElem?_eq_some_iff.1 hx).1
  simp only [zby]
  rw [if_pos (zfO hx),if_pos (zbj hx),zcd hx]
  unfold cvF cntF
  by_cases h12:(x.Op==12)=true
  ·rw [if_pos h12,if_pos h12]
   simp only [zbz]
   rw [wi (by omega)]
  rw [if_neg h12,if_neg h12]
  by_cases h40:(a==4096)=true
  ·rw [if_pos h40,if_pos h40,if_pos (zbj e5),zcd e5,if_pos (zaO (by omega)),if_pos (zaO (by omega)),s1]
   rfl
  ·rw [if_neg h40,if_neg h40]
   simp only [zbz]
   rw [wi (by omega)]
 ·simp only [zby]
  rw [if_neg (by simp)]
 have L2:=zdc b.ins (fun i (_:Unit)=>i) (zbx b.ins (k:Int) (stE T S f)) (cvF (toF b.all b.zTg) hh) (fun _=>hh none) (fun _ _=>True) (fun i x hx a _=>⟨?_,fun _ _=>trivial⟩) (fun a _=>?_) () trivial
 rotate_left
 ·have hil:=(List.getElem?_eq_some_iff.1 hx).1
  have hxm:=List.mem_of_getElem? hx
  simp only [zbx]
  rw [if_pos (zfO hx),if_pos (zbj hx),zcd hx]
  simp only [zbm,Option.bind_some]
  rw [if_pos (fun _=>zbj e2),if_pos (fun _=>zbj hx)]
  have hop:b.open_=[]:=by
   simp only [Bool.or_eq_true,not_or] at hc
   have h2:=hc.1.2
   simp only [decide_eq_true_eq] at h2
   exact List.length_eq_zero_iff.1 (by omega)
  have hto:=b7 x hxm
  have hlab:=b6 x.To
  rw [hop] at hlab
  unfold cvF toF
  by_cases hj:((x.Op==10)||(x.Op==11))=true
  ·have hj':x.Op=10\/x.Op=11:=by simpa using hj
   have hne:=hto.2 hj'
   obtain ⟨g,hg1,hg2⟩:=zqL ⟨b.ins⟩ x.To hn (fun y hy=>by have:=b8 y hy; omega)
   rw [if_pos hj,hg1]
   simp only [Option.bind_some]
   rw [hj,Bool.true_and,hg2]
   have hd:decide (x.To=(⟨#[]⟩:ByteArray))=false:=decide_eq_false hne
   rw [hd,hlab]
   simp only [Bool.not_false,Bool.true_and]
   rw [show has [] x.To=false from rfl,Bool.false_or]
   by_cases hh2:(!has (b.ins.flatMap (·.zLb)) x.To)=true
   ·rw [if_pos hh2,if_pos hh2,if_pos (zbj e6),zcd e6,if_pos (zaO (by omega)),if_pos (zaO (by omega)),s1]
    rfl
   ·rw [if_neg hh2,if_neg hh2,wi (by omega)]
  ·have hj':((x.Op==10)||(x.Op==11))=false:=by simpa using hj
   have hemp:x.To=⟨#[]⟩:=Classical.byContradiction fun h=>by
    have:=hto.1 h
    apply hj; simpa using this
   rw [if_neg hj]
   simp only [Option.bind_some]
   rw [hj',Bool.false_and,if_neg (by decide),hemp]
   rw [if_neg (by simp),wi (by omega)]
 ·simp only [zbx]
  rw [if_neg (by simp)]
 rw [zfE (cntF b.zFi) (fun _=>none) hh] at L1
 rw [zfE (toF b.all b.zTg) (fun _=>none) hh] at L2
 rw [L1]
 cases hx:zbv (cntF b.zFi) (fun _=>none) 0 0 b.ins with
 | some g=>exact ⟨_,_,rfl,rfl,rfl⟩
 | none =>
  simp only [hh,Option.bind_some,zb0]
  rw [L2]
  cases hy:zbv (toF b.all b.zTg) (fun _=>none) 0 () b.ins with
  | some g=>exact ⟨_,_,rfl,rfl,rfl⟩
  | none =>
   simp only [hh,Option.bind_some,zb0]
   rw [s1]
   exact ⟨_,_,rfl,rfl,rfl⟩
end Go.Vs
end
section
namespace Go.Vs
local instance tabPalPE:Tab:=⟨fun _=>none⟩
structure Inv (T:List zaa) (S:PSt):Prop where
 ok:StOk T S
 none_:S.cur=none->S.done=[]
 bd:∀b∈S.bs,BdOk T.length b
theorem zkH{T:List zaa}{S S':PSt}(hT:zdr T)(h:Inv T S)(hi:S.at_<T.length)(hx:zjY T S=.inr S'):Inv T S'/\S.at_<S'.at_:=by
 unfold zjY at hx
 cases hy:zgg T S with
 | inl g=>rw [hy] at hx; cases hx
 | inr S1 =>
  rw [hy] at hx
  obtain ⟨a1,a2,a3,a4,a5,a6⟩:=zkI hT h.ok hi hy
  have a7:=zrc hT h.ok hi h.bd hy
  unfold zlg at hx
  simp only at hx
  split at hx
  ·cases hx
  ·cases hx
   exact ⟨⟨⟨a2,a3,a4,a5⟩,a6 h.none_,a7⟩,by show S.at_<S1.at_+1; omega⟩
def zfP(T:List zaa):Nat->PSt->zak ⊕ PSt
 | 0,S=>.inr S
 | n+1,S=>if S.at_<T.length then (match zjY T S with | .inl f=>.inl f | .inr S'=>zfP T n S') else .inr S
theorem zh7{T:List zaa}(hT:zdr T):∀(n:Nat) (S:PSt) {S':PSt},Inv T S->zfP T n S=.inr S'->Inv T S'
 | 0,S,S',h,e=>by simp only [zfP,Sum.inr.injEq] at e; subst e; exact h
 | n+1,S,S',h,e=>by
  unfold zfP at e
  split at e
  ·rename_i hi
   split at e
   ·cases e
   ·rename_i S1 hx
    exact zh7 hT n S1 (zkH hT h hi hx).1 e
  ·simp only [Sum.inr.injEq] at e; subst e; exact h
def ziL(_:Nat)(_:Unit)(b:Bd):Unit ⊕ Option zak:=match zkl b with
 | some g=>.inr (some g)
 | none=>.inl ()
def zhA(bs:List Bd):Option zak:=zbv ziL (fun _=>none) 0 () bs
def nilP:zaj:=⟨[],[]⟩
def St0:PSt:=⟨0,[],[],none⟩
def zoV(T:List zaa):zaj × zak:=match zfP T T.length St0 with
 | .inl f=>(nilP,f)
 | .inr S=>match zhA S.bs with
  | some f=>(nilP,f)
  | none=>(⟨S.syms,S.bs.map toTh⟩,⟨0,0,0⟩)
def zim(s:ByteArray):zaj × zak:=if (zaQ s).2.Code != 0 then (nilP,(zaQ s).2) else zoV (zaQ s).1
def pB(R:zac):(List zaa) × Int × (List zam) × (List zad) × (List zaz) × Int × Int × Int:=(R.l,R.at_,R.p.zSy,R.p.zTh,R.b,R.f.Code,R.f.Line,R.f.Col)
theorem zlL(T:List zaa)(v1:(List zaa) × zak)(h1:v1.1=T)(f:zak)(hT:zdr T):∀(n:Nat) (S:PSt),Inv T S->T.length-S.at_<=n->zaP (zc4 v1) (pB (stB T S f))=some (match zfP T n S with | .inl g=>.inr (nilP,g) | .inr S'=>.inl (pB (stB T S' f)))
 | 0,S,h,hn=>by
  have hi:¬S.at_<T.length:=by omega
  refine zaH ?_
  simp only [pB,zc4,zfP,h1]
  rw [if_neg (by simpa [stB] using hi)]
 | n+1,S,h,hn=>by
  unfold zfP
  by_cases hi:S.at_<T.length
  ·rw [if_pos hi]
   obtain ⟨ok,R',e1,e2⟩:=zrp T S f hT h.ok hi h.none_
   have step:zc4 v1 (pB (stB T S f))=(if (!ok)=true then some (.inr (.inr (nilP,R'.f))) else some (.inl (pB R'))):=by
    simp only [pB,zc4,h1]
    rw [if_pos (by simpa [stB] using hi)]
    have e1':zdw ⟨(stB T S f).l,(stB T S f).at_,⟨(stB T S f).p.zSy,(stB T S f).p.zTh⟩,(stB T S f).b,⟨(stB T S f).f.Code,(stB T S f).f.Line,(stB T S f).f.Col⟩⟩=some (ok,R'):=e1
    rw [e1']
    rfl
   cases hx:zjY T S with
   | inl g =>
    rw [hx] at e2
    obtain ⟨rfl,hf⟩:=e2
    rw [if_pos (by decide)] at step
    rw [zaH step,hf]
   | inr S' =>
    rw [hx] at e2
    obtain ⟨rfl,rfl⟩:=e2
    rw [if_neg (by decide)] at step
    rw [za4 step]
    obtain ⟨i1,i2⟩:=zkH hT h hi hx
    exact zlL T v1 h1 f hT n S' i1 (by omega)
  ·rw [if_neg hi]
   refine zaH ?_
   simp only [pB,zc4,h1]
   rw [if_neg (by simpa [stB] using hi)]
theorem zom(T:List zaa)(S:PSt)(f:zak)(hT:zdr T)(h:Inv T S):zaP (zer (pB (stB T S f))) (0,pB (stB T S f))=some (match zhA S.bs with | some g=>.inr (nilP,g) | none=>.inl (pB (stB T S f))):=by
 have hl:=hT.len
 have hbl:=zjQ S
 have hd:=h.ok.done
 let hh:Option zak->((List zaa) × Int × (List zam) × (List zad) × (List zaz) × Int × Int × Int) ⊕ (zaj × zak):=fun o=>match o with
  | none=>.inl (pB (stB T S f))
  | some g=>.inr (nilP,g)
 have L:=zdc S.bs (fun i (_:Unit)=>(i,pB (stB T S f))) (zer (pB (stB T S f))) (cvF ziL hh) (fun _=>hh none) (fun _ _=>True) (fun i x hx a _=>⟨?_,fun _ _=>trivial⟩) (fun a _=>?_) () trivial
 rotate_left
 ·have hil:=(List.getElem?_eq_some_iff.1 hx).1
  obtain ⟨ok,R',e1,e2⟩:=zpS T S f hx hl (h.bd x (List.mem_of_getElem? hx))
  have hdec:decide ((i:Int)<((stB T S f).b.length:Int))=true:=by simpa [stB] using hil
  change (if decide ((i:Int)<((stB T S f).b.length:Int))=true then _ else _)=_
  rw [if_pos hdec]
  have e1':zcv ⟨(stB T S f).l,(stB T S f).at_,⟨(stB T S f).p.zSy,(stB T S f).p.zTh⟩,(stB T S f).b,⟨(stB T S f).f.Code,(stB T S f).f.Line,(stB T S f).f.Col⟩⟩ (i:Int)=some (ok,R'):=e1
  change ((zcv ⟨(stB T S f).l,(stB T S f).at_,⟨(stB T S f).p.zSy,(stB T S f).p.zTh⟩,(stB T S f).b,⟨(stB T S f).f.Code,(stB T S f).f.Line,(stB T S f).f.Col⟩⟩ (i:Int)).bind _)=_
  rw [e1']
  unfold cvF ziL
  cases hw:zkl x with
  | some g =>
   rw [hw] at e2
   obtain ⟨rfl,hf⟩:=e2
   simp only [Option.bind_some,Bool.not_false,if_true,hf]
   rfl
  | none =>
   rw [hw] at e2
   obtain ⟨rfl,rfl⟩:=e2
   simp only [Option.bind_some,Bool.not_true,Bool.false_eq_true,if_false]
   rw [wi (by omega)]
   rfl
 ·change (if decide ((S.bs.length:Int)<((stB T S f).b.length:Int))=true then _ else _)=_
  rw [if_neg (by simp [stB])]
  rfl
 rw [zfE ziL (fun _=>none) hh] at L
 rw [L]
 unfold zhA
 cases zbv ziL (fun _=>none) 0 () S.bs <;> rfl
theorem inv0(T:List zaa):Inv T St0:=⟨⟨by simp [St0],by simp [St0],by simp [St0],fun c hc=>by simp [St0] at hc⟩,fun _=>rfl,fun b hb=>by simp [St0,PSt.bs] at hb⟩
theorem zk9(s:ByteArray)(hs:Sm s)(hT:(zaQ s).2.Code=0->zdr (zaQ s).1):zeB s=some (zim s):=by
 unfold zeB zim
 rw [zmg s hs]
 simp only [Option.bind_some]
 by_cases hc:((zaQ s).2.Code != 0)=true
 ·rw [if_pos hc,if_pos hc]; rfl
 rw [if_neg hc,if_neg hc]
 have hT':=hT (by simpa [bne] using hc)
 have L:=zlL (zaQ s).1 (zaQ s) rfl ⟨0,0,0⟩ hT' (zaQ s).1.length St0 (inv0 _) (by simp [St0])
 have L':zaP (zc4 (zaQ s)) ((zaQ s).1,0,[],[],[],0,0,0)=_:=L
 rw [L']
 unfold zoV
 cases hx:zfP (zaQ s).1 (zaQ s).1.length St0 with
 | inl g=>rfl
 | inr S =>
  have hI:=zh7 hT' _ _ (inv0 _) hx
  simp only [Option.bind_some,zb0]
  have W:=zom (zaQ s).1 S ⟨0,0,0⟩ hT' hI
  have W':zaP (zer (pB (stB (zaQ s).1 S ⟨0,0,0⟩))) (0,(pB (stB (zaQ s).1 S ⟨0,0,0⟩)).1,(pB (stB (zaQ s).1 S ⟨0,0,0⟩)).2.1,(pB (stB (zaQ s).1 S ⟨0,0,0⟩)).2.2.1,(pB (stB (zaQ s).1 S ⟨0,0,0⟩)).2.2.2.1,(pB (stB (zaQ s).1 S ⟨0,0,0⟩)).2.2.2.2.1,(pB (stB (zaQ s).1 S ⟨0,0,0⟩)).2.2.2.2.2.1,(pB (stB (zaQ s).1 S ⟨0,0,0⟩)).2.2.2.2.2.2.1,(pB (stB (zaQ s).1 S ⟨0,0,0⟩)).2.2.2.2.2.2.2)=_:=W
  rw [W']
  cases hw:zhA S.bs with
  | some g=>rfl
  | none=>rfl
end Go.Vs
end
