import Derived.Test.YtocjejladeeckaaGreatDoorPalT
import Derived.Test.YtocjejladeeckaaGreatDoorPS0
import Derived.Test.YtocjejladeeckaaGreatDoorPalNum
import Derived.Test.YtocjejladeeckaaGreatDoorPalF
set_option linter.all false
section
end
section
namespace Go.Vs
end Go.Vs
end
section
namespace Go.Vs
open Go.Lib
local instance tabPalShow7:Tab:=⟨fun _=>none⟩
theorem ze9{α β σ R:Type}(l:List α)(mk:Int->β->σ)(step:σ->Option (σ ⊕ R))(g:β->α->β)(fin:β->R)(sz:β->Nat)(B C:Nat)(a0:β)(h0:sz a0<=B)(hg:∀a x,x∈l->sz (g a x)<=sz a+C)
  (h1:∀(i:Nat) x,l[i]?=some x->∀a,sz a<=B+i * C->step (mk (i:Int) a)=some (.inl (mk ((i:Int)+1) (g a x)))) (h2:∀a,step (mk (l.length:Int) a)=some (.inr (fin a))) :
  zaL step (mk 0 a0)=some (fin (l.foldl g a0)):=by
 have:=zdh l mk step (fun _ a x=>.inl (g a x)) fin (fun i a=>sz a<=B+i * C) (fun i x hx a ha=>⟨h1 i x hx a ha,fun a' e=>by
  obtain rfl:=Sum.inl.inj e
  have:=hg a x (List.mem_of_getElem? hx)
  rw [Nat.add_mul]; omega⟩) (fun a _=>h2 a) a0 (by omega)
 rw [this]
 congr 1
 generalize (0:Nat)=k
 clear this h0 h1 h2 hg
 induction l generalizing a0 k with
 | nil=>rfl
 | cons x l ih=>exact ih _ _
theorem zgl{α:Type}(g:ByteArray->α->ByteArray)(C:Nat):∀(l:List α) (hg:∀a x,x∈l->(g a x).size<=a.size+C) (a:ByteArray),(l.foldl g a).size<=a.size+l.length * C
 | [],_,a=>by simp
 | x::l,hg,a=>by
  have h1:=zgl g C l (fun a y hy=>hg a y (List.mem_cons_of_mem _ hy)) (g a x)
  have h2:=hg a x (List.mem_cons_self ..)
  simp only [List.foldl_cons,List.length_cons,Nat.add_mul]
  omega
def zjt(a:ByteArray)(v:Int):ByteArray:=a++((⟨#[32]⟩:ByteArray)++zd2 v)
def zfQ(s:zan):ByteArray:=(((⟨#[115,121,109,32]⟩:ByteArray)++s.Name)++(⟨#[32]⟩:ByteArray))++zd2 s.Size
def symT(a:ByteArray)(s:zan):ByteArray:=(s.Init.foldl zjt (a++zfQ s))++(⟨#[10]⟩:ByteArray)
def labT(a:ByteArray)(s:ByteArray):ByteArray:=a++(s++(⟨#[58,10]⟩:ByteArray))
def zkh(syms:List ByteArray)(a:ByteArray)(x:zad):ByteArray:=(x.zLb.foldl labT a)++(((⟨#[9]⟩:ByteArray)++insT x syms)++(⟨#[10]⟩:ByteArray))
def thT(syms:List ByteArray)(a:ByteArray)(t:zae):ByteArray:=t.Ins.foldl (zkh syms) (a++(⟨#[116,104,114,101,97,100,10]⟩:ByteArray))
def zaY(p:zaf):List ByteArray:=p.zSy.map (·.Name)
def zjY(p:zaf):ByteArray:=if zgJ p != 0 then ⟨#[]⟩ else p.zTh.foldl (thT (zaY p)) (p.zSy.foldl symT ⟨#[]⟩)
section sizes
theorem z1:(⟨#[32]⟩:ByteArray).size=1:=rfl
theorem z2:(⟨#[10]⟩:ByteArray).size=1:=rfl
theorem z3:(⟨#[115,121,109,32]⟩:ByteArray).size=4:=rfl
theorem z4:(⟨#[58,10]⟩:ByteArray).size=2:=rfl
theorem z5:(⟨#[9]⟩:ByteArray).size=1:=rfl
theorem z6:(⟨#[116,104,114,101,97,100,10]⟩:ByteArray).size=7:=rfl
theorem z7:(⟨#[]⟩:ByteArray).size=0:=rfl
theorem z8:(⟨#[91]⟩:ByteArray).size=1:=rfl
theorem z9:(⟨#[93]⟩:ByteArray).size=1:=rfl
theorem z10:(⟨#[108,111,99,107,32]⟩:ByteArray).size=5:=rfl
theorem z11:(⟨#[44,32]⟩:ByteArray).size=2:=rfl
theorem zlp{a:ByteArray}{v:Int}(h:I64 v):(zjt a v).size<=a.size+22:=by
 have:=zdz h
 unfold zjt; simp only [za4,z1]; omega
theorem zjc{s:zan}(h:zrj s):(zfQ s).size<=1026:=by
 have:=zdz h.size
 have:=h.name
 unfold zfQ; simp only [za4,z1,z3]; omega
theorem zln{s:zan}(h:zrj s)(a:ByteArray):(s.Init.foldl zjt a).size<=a.size+2200:=by
 have:=zgl zjt 22 s.Init (fun a x hx=>zlp (h.init x hx)) a
 have:=h.n
 have:s.Init.length * 22<=100 * 22:=Nat.mul_le_mul_right _ h.n
 omega
theorem zmm{s:zan}(h:zrj s)(a:ByteArray):(symT a s).size<=a.size+3300:=by
 have h1:=zln h (a++zfQ s)
 have h2:=zjc h
 unfold symT; simp only [za4,z2] at h1 ⊢; omega
def zno(syms:List ByteArray):Prop:=∀s∈syms,s.size<=1000
theorem zno.syms{syms}(h:zno syms):zSy syms:=fun s hs=>by have:=h s hs; omega
theorem zlg(o:zak)(syms:List ByteArray)(hn:I64 o.N)(hs:zno syms):(opdT o syms).size<=1023:=by
 have hz:=zdz hn
 have hy:=zhU hs o.Sym
 have hr:=zif o.Reg
 unfold opdT
 split
 ·rw [z7]; omega
 split
 ·omega
 split
 ·omega
 split
 ·rw [z7]; omega
 split <;> simp only [za4,z8,z9] <;> omega
theorem zm6(x:zad)(syms:List ByteArray)(hx:zma x)(hs:zno syms):(insT x syms).size<=2100:=by
 have ha:=zlg x.A syms hx.a hs
 have hb:=zlg x.B syms hx.b hs
 have ho:=zlQ x.Op x.Cond
 have ht:=hx.to1
 have hS:(if x.Lock then (⟨#[108,111,99,107,32]⟩:ByteArray)++opT x.Op x.Cond else opT x.Op x.Cond).size<=15:=by
  split
  ·rw [za4,z10]; omega
  ·omega
 unfold insT
 split
 ·rw [z7]; omega
 simp only
 generalize (if x.Lock then (⟨#[108,111,99,107,32]⟩:ByteArray)++opT x.Op x.Cond else opT x.Op x.Cond)=S at hS ⊢
 split
 ·simp only [za4,z1]; omega
 split
 ·omega
 split
 ·rw [z7]; omega
 ·simp only [za4,z1,z11]; omega
theorem zmX{x:zad}(h:zma x)(a:ByteArray):(x.zLb.foldl labT a).size<=a.size+701600:=by
 have:=zgl labT 1002 x.zLb (fun a s hs=>by have:=h.lab s hs; unfold labT; simp only [za4,z4]; omega) a
 have:x.zLb.length * 1002<=700 * 1002:=Nat.mul_le_mul_right _ h.n
 omega
theorem zlj{syms:List ByteArray}(hs:zno syms){x:zad}(h:zma x)(a:ByteArray):(zkh syms a x).size<=a.size+704000:=by
 have h1:=zmX h a
 have h2:=zm6 x syms h hs
 unfold zkh; simp only [za4,z2,z5]; omega
theorem zrE{syms:List ByteArray}(hs:zno syms){t:zae}(h:ThOk t)(a:ByteArray):(thT syms a t).size<=a.size+492900000:=by
 unfold thT
 have:=zgl (zkh syms) 704000 t.Ins (fun a x hx=>zlj hs (h.ins x hx) a) (a++(⟨#[116,104,114,101,97,100,10]⟩:ByteArray))
 have:t.Ins.length * 704000<=700 * 704000:=Nat.mul_le_mul_right _ h.n
 simp only [za4,z6] at *; omega
theorem znt{p:zaf}(h:zlD p):zno (zaY p):=by
 intro s hs
 obtain ⟨y,hy,rfl⟩:=List.mem_map.1 hs
 exact (h.sym y hy).name
end sizes
theorem catB{a b:ByteArray}(h:a.size+b.size<=5000000000000):zbm a b:=by unfold zbm; omega
end Go.Vs
end
section
namespace Go.Vs
open Go.Lib
local instance tabPalShow8:Tab:=⟨fun _=>none⟩
theorem znA(p:zaf)(i:Nat)(s:zan)(hx:p.zSy[i]?=some s)(hk:zrj s)(a:ByteArray)(ha:a.size<=2000000):zaL (zbQ i p) (a,0)=some (s.Init.foldl zjt a):=by
 have hn:=hk.n
 refine ze9 s.Init (fun i (a:ByteArray)=>(a,i)) (zbQ i p) zjt id (·.size) 2000000 22 a ha (fun a x hx=>zlp (hk.init x hx)) (fun j v hv b hb=>?_) (fun b=>?_)
 ·have hj:j<=1000:=by have:=(List.getElem?_eq_some_iff.1 hv).1; omega
  have hz:=zdz (hk.init v (List.mem_of_getElem? hv))
  simp only [zbQ]
  simp only [zci hx,if_pos (zb6 hx)]
  rw [if_pos (zfp hv),if_pos (zb6 hv),zci hv,zeo _ (hk.init v (List.mem_of_getElem? hv)),wi (by omega)]
  simp only [Option.bind_some]
  rw [if_pos (catB (by rw [z1]; omega)),if_pos (catB (by rw [za4,z1]; omega))]
  rfl
 ·simp only [zbQ,zci hx,if_pos (zb6 hx)]
  rw [if_neg (by simp)]; rfl
theorem zpg(p:zaf)(hp:zlD p):zaL (zbR p) ((⟨#[]⟩:ByteArray),0)=some (p.zSy.foldl symT ⟨#[]⟩):=by
 have hn:=hp.ns
 refine ze9 p.zSy (fun i (b:ByteArray)=>(b,i)) (zbR p) symT id (·.size) 0 3300 ⟨#[]⟩ (by simp [z7])
  (fun b s hs=>zmm (hp.sym s hs) b) (fun j s hs b hb=>?_) (fun b=>?_)
 ·have hj:j<=100:=by have:=(List.getElem?_eq_some_iff.1 hs).1; omega
  have hj2:j * 3300<=100 * 3300:=Nat.mul_le_mul_right _ hj
  have hk:=hp.sym s (List.mem_of_getElem? hs)
  have hz:=zdz hk.size
  have hm:=hk.name
  have hh:=zjc hk
  have hin:=zln hk (b++zfQ s)
  try simp only at hb
  simp only [zbR]
  simp only [if_pos (zfp hs),if_pos (zb6 hs),zci hs]
  rw [zeo _ hk.size,wi (by omega)]
  simp only [Option.bind_some]
  have c1:zbm (⟨#[115,121,109,32]⟩:ByteArray) s.Name:=catB (by rw [z3]; omega)
  have c2:zbm ((⟨#[115,121,109,32]⟩:ByteArray)++s.Name) (⟨#[32]⟩:ByteArray):=catB (by rw [za4,z3,z1]; omega)
  have c3:zbm (((⟨#[115,121,109,32]⟩:ByteArray)++s.Name)++(⟨#[32]⟩:ByteArray)) (zd2 s.Size):=catB (by rw [za4,za4,z3,z1]; omega)
  simp only [if_pos c1,if_pos c2,if_pos c3]
  have e:((((⟨#[115,121,109,32]⟩:ByteArray)++s.Name)++(⟨#[32]⟩:ByteArray))++zd2 s.Size)=zfQ s:=rfl
  rw [e,if_pos (catB (show b.size+(zfQ s).size<=_ by omega))]
  rw [znA p j s hs hk _ (by rw [za4]; omega)]
  simp only [Option.bind_some]
  rw [if_pos (catB (by rw [za4] at hin; rw [z2]; omega))]
  rfl
 ·simp only [zbR]
  rw [if_neg (by simp)]; rfl
theorem zph(x:zad)(hk:zma x)(a:ByteArray)(ha:a.size<=70000000000):zaL (zbO x.zLb) (a,0)=some (x.zLb.foldl labT a):=by
 have hn:=hk.n
 refine ze9 x.zLb (fun i (a:ByteArray)=>(a,i)) (zbO x.zLb) labT id (·.size) 70000000000 1002 a ha (fun a s hs=>by have:=hk.lab s hs; unfold labT; simp only [za4,z4]; omega) (fun j s hs b hb=>?_) (fun b=>?_)
 ·have hj:j<=700:=by have:=(List.getElem?_eq_some_iff.1 hs).1; omega
  have hj2:j * 1002<=700 * 1002:=Nat.mul_le_mul_right _ hj
  have hz:=hk.lab s (List.mem_of_getElem? hs)
  simp only [zbO]
  rw [if_pos (zfp hs),if_pos (zb6 hs),zci hs,wi (by omega),if_pos (catB (by rw [z4]; omega)),if_pos (catB (by rw [za4,z4]; omega))]
  rfl
 ·simp only [zbO]
  rw [if_neg (by simp)]; rfl
theorem znz(p:zaf)(i:Nat)(t:zae)(hx:p.zTh[i]?=some t)(hk:ThOk t)(syms:List ByteArray)(hq:zno syms)(a:ByteArray)(ha:a.size<=60000000000) :
  zaL (zbP i p syms) (a,0)=some (t.Ins.foldl (zkh syms) a):=by
 have hn:=hk.n
 refine ze9 t.Ins (fun i (a:ByteArray)=>(a,i)) (zbP i p syms) (zkh syms) id (·.size) 60000000000 704000 a ha (fun a x hx=>zlj hq (hk.ins x hx) a) (fun j x hs b hb=>?_) (fun b=>?_)
 ·have hj:j<=700:=by have:=(List.getElem?_eq_some_iff.1 hs).1; omega
  have hj2:j * 704000<=700 * 704000:=Nat.mul_le_mul_right _ hj
  have hl:=hk.ins x (List.mem_of_getElem? hs)
  have hz:=zm6 x syms hl hq
  have hls:=zmX hl b
  try simp only at hb
  simp only [zbP]
  simp only [zci hx,if_pos (zb6 hx)]
  rw [if_pos (zfp hs),if_pos (zb6 hs)]
  simp only [zci hs,Option.bind_some]
  have eta:zad.mk x.Op x.Lock x.Cond x.A x.B x.To x.zLb=x:=rfl
  rw [eta,zph x hl b (by omega),zkJ x syms hl.toInsOk hq.syms,wi (by omega)]
  simp only [Option.bind_some]
  rw [if_pos (catB (by rw [z5]; omega)),if_pos (catB (by rw [za4,z5,z2]; omega)),if_pos (catB (by simp only [za4,z5,z2]; omega))]
  rfl
 ·simp only [zbP,zci hx,if_pos (zb6 hx)]
  rw [if_neg (by simp)]; rfl
theorem zj7(p:zaf)(hn:p.zSy.length<=1000000):zcH p=some (zaY p):=by
 unfold zcH
 have:=ze9 p.zSy (fun i (b:List ByteArray)=>(i,b)) (zbo p) (fun b s=>b++[s.Name]) id (·.length) 0 1 [] (by simp) (fun b s hs=>by simp) (fun j s hs b hb=>?_) (fun b=>?_)
 ·rw [this]
  simp only [Option.bind_some,id]
  have key:∀(l:List zan) (L:List ByteArray),l.foldl (fun b s=>b++[s.Name]) L=L++l.map (·.Name):=by
   intro l
   induction l with
   | nil=>intro L; simp
   | cons s l ih=>intro L; simp only [List.foldl_cons]; rw [ih]; simp
  rw [key]; rfl
 ·have hj:j<1000000:=by have:=(List.getElem?_eq_some_iff.1 hs).1; omega
  simp only [zbo]
  rw [if_pos (zfp hs),if_pos (zb6 hs),zci hs,wi (by omega),if_pos (show Fits (b.length+1) from by unfold Fits; omega)]
  rfl
 ·simp only [zbo]
  rw [if_neg (by simp)]; rfl
theorem znE(p:zaf)(hp:zlD p):zdd p=some (zjY p):=by
 have hn:=hp.nt
 have hnm:=znt hp
 have hns:=hp.ns
 unfold zdd zjY
 rw [zjg p hp]
 simp only [Option.bind_some]
 split
 ·rfl
 rw [zpg p hp,zj7 p (by omega)]
 simp only [Option.bind_some]
 have hsz:(p.zSy.foldl symT ⟨#[]⟩).size<=330000:=by
  have:=zgl symT 3300 p.zSy (fun a s hs=>zmm (hp.sym s hs) a) ⟨#[]⟩
  have:p.zSy.length * 3300<=100 * 3300:=Nat.mul_le_mul_right _ hp.ns
  rw [z7] at *; omega
 have:=ze9 p.zTh (fun i (a:ByteArray)=>(a,i)) (zco p (zaY p)) (thT (zaY p)) id (·.size) 330000 492900000 _ hsz (fun a t ht=>zrE hnm (hp.th t ht) a) (fun j t hs b hb=>?_) (fun b=>?_)
 ·rw [this]
  simp only [Option.bind_some,id]
 ·have hj:j<100:=by have:=(List.getElem?_eq_some_iff.1 hs).1; omega
  have hj2:j * 492900000<=100 * 492900000:=Nat.mul_le_mul_right _ (by omega)
  try simp only at hb
  simp only [zco]
  rw [if_pos (zfp hs),if_pos (catB (by rw [z6]; omega)),wi (by omega)]
  rw [znz p j t hs (hp.th t (List.mem_of_getElem? hs)) (zaY p) hnm _ (by rw [za4,z6]; omega)]
  rfl
 ·simp only [zco]
  rw [if_neg (by simp)]; rfl
end Go.Vs
end
section
namespace Go.Vs
end Go.Vs
end
section
namespace Go.Vs
def Wi(k:IntKind)(n:Int):Prop:=k.min<=n/\n<=k.max
theorem Wi.i64{n:Int}(h:Wi .i64 n):I64 n:=h
structure zpM (x:zbd):Prop where
 Kind:Wi .i64 x.Kind
 A:Wi .i64 x.A
 B:Wi .i64 x.B
 C:Wi .i64 x.C
 N:Wi .i64 x.N
end Go.Vs
end
section
namespace Go.Vs
open Go.Lib
local instance tabPalShow9:Tab:=⟨fun _=>none⟩
end Go.Vs
end
section
namespace Go.Vs
end Go.Vs
end
section
namespace Go.Vs
open Go.Lib
local instance tabPalShowA:Tab:=⟨fun _=>none⟩
def memV(v1:Int):Option zak :=
 (some ([1,2,1])).bind fun l3 =>
 if ((Int.tmod v1 5)==4)=true then (some (zak.mk 4 (IntKind.wrap .i64 (Int.tdiv v1 15)) (Int.tmod (IntKind.wrap .i64 (Int.tdiv v1 5)) 3) 0)) else (if InB (Int.tmod (IntKind.wrap .i64 (Int.tdiv v1 5)) 3) l3.length then (if ¬(rd l3 (Int.tmod (IntKind.wrap .i64 (Int.tdiv v1 5)) 3))=0 then ((some (Int.tmod (Int.tmod v1 5) (rd l3 (Int.tmod (IntKind.wrap .i64 (Int.tdiv v1 5)) 3)))).bind fun n8 =>
  some (zak.mk 3 0 (Int.tmod (IntKind.wrap .i64 (Int.tdiv v1 5)) 3) n8)) else none) else none)
def zsK(o:zak):Bool:=opdB o&&memB o&&decide (0<=o.Sym/\o.Sym<=2/\0<=o.N/\o.N<=1/\(o.Kind=3->o.N<rd [1,2,1] o.Sym))
structure zhj (y:zad):Prop where
 a:I64 y.A.N
 b:I64 y.B.N
 to:y.To.size<=3
 lab:y.zLb=[]
def zzS(o:Option zad):Prop:=∃y,o=some y/\zhj y
theorem zhj.ok{y:zad}(h:zhj y):InsOk y:=⟨by have:=h.to; unfold Sm; omega,h.a,h.b⟩
theorem zhj.lb{y:zad}(h:zhj y):zma y:=⟨h.ok,by rw [h.lab]; decide,by have:=h.to; omega,by rw [h.lab]; intro s hs; cases hs⟩
end Go.Vs
end
section
namespace Go.Vs
open Go.Lib
local instance tabPalShowB:Tab:=⟨fun _=>none⟩
structure zt4 (y:zad):Prop where
 a:I64 y.A.N
 b:I64 y.B.N
 to:y.To.size<=3
 n:y.zLb.length<=1
 lab:∀s∈y.zLb,s.size<=3
theorem zhj.l{y:zad}(h:zhj y):zt4 y:=⟨h.a,h.b,h.to,by rw [h.lab]; decide,by rw [h.lab]; intro s hs; cases hs⟩
theorem zt4.ok{y:zad}(h:zt4 y):zma y:=⟨⟨by have:=h.to; unfold Sm; omega,h.a,h.b⟩,by have:=h.n; omega,by have:=h.to; omega,fun s hs=>by have:=h.lab s hs; omega⟩
def zwY:List zan:=[(zan.mk (⟨#[120]⟩:ByteArray) 1 ([])),(zan.mk (⟨#[121]⟩:ByteArray) 2 ([1])),(zan.mk (⟨#[122]⟩:ByteArray) 1 ([0]))]
end Go.Vs
end
section
namespace Go.Vs
open Go.Lib
local instance tabPalShowC:Tab:=⟨fun _=>none⟩
def zqO(k:Int):ByteArray:=(⟨#[108]⟩:ByteArray)++(ziJ ([(IntKind.wrap .u8 (IntKind.wrap .i64 (48+(IntKind.wrap .i64 (Int.tdiv k 10))))),(IntKind.wrap .u8 (IntKind.wrap .i64 (48+(Int.tmod k 10))))]))
structure zvJ (n:Nat) (y:zad):Prop extends zhj y where
 z:insN y=0
 pA:memB y.A=true->zsK y.A=true
 pB:memB y.B=true->zsK y.B=true
 j:zdP y=true->∃k:Nat,k<n/\y.To=zqO k
 nj:zdP y=false->y.To=⟨#[]⟩
def zzR(n:Nat)(o:Option zad):Prop:=∃y,o=some y/\zvJ n y
end Go.Vs
end
section
namespace Go.Vs
open Go.Lib
local instance tabPalShowD:Tab:=⟨fun _=>none⟩
def putL(m:Nat->Bool)(k:Nat)(x:zad):zad:=zad.mk x.Op x.Lock x.Cond x.A x.B x.To (if m k then [zqO (k:Int)] else [])
def zw8(o:List zad)(m:Nat->Bool):List zad:=o.mapIdx (putL m)
def Hit(o:List zad)(n j q:Nat):Prop:=∃(i:Nat) (x:zad),j<=i/\i<n/\o[i]?=some x/\x.To=zqO (q:Int)
end Go.Vs
end
section
namespace Go.Vs
open Go.Lib
local instance tabPalShowE:Tab:=⟨fun _=>none⟩
def hltI:zad:=zad.mk 14 false 0 (zak.mk 0 0 0 0) (zak.mk 0 0 0 0) (⟨#[]⟩:ByteArray) ([])
end Go.Vs
end
section
namespace Go.Vs
open Go.Lib
local instance tabPalShowF:Tab:=⟨fun _=>none⟩
def zzT(t:zae):Prop:=∃(r:List zad) (n:Nat) (m:Nat->Bool),r.length=n/\n<=98/\(∀y∈r,zvJ (n+1) y)/\(∀q,q<=n->(m q=true ↔ Hit (r++[hltI]) n 0 q))/\t=⟨zw8 (r++[hltI]) m⟩
end Go.Vs
end
