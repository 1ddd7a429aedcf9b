import Derived.Test.YtocjejladeeckaaGreatDoorPalT
import Derived.Test.YtocjejladeeckaaGreatDoorPS0
import Derived.Test.YtocjejladeeckaaGreatDoorPalNum
import Derived.Test.YtocjejladeeckaaGreatDoorPalF
set_option linter.all false
section
end
section
namespace Go.Vs
end Go.Vs
end
section
namespace Go.Vs
open Go.Lib
local instance tabPalShow7:Tab:=⟨fun _=>none⟩
theorem zfg{α β σ R:Type}(l:List α)(mk:Int->β->σ)(step:σ->Option (σ ⊕ R))(g:β->α->β)(fin:β->R)(sz:β->Nat)(B C:Nat)(a0:β)(h0:sz a0<=B)(hg:∀a x,x∈l->sz (g a x)<=sz a+C)
  (h1:∀(i:Nat) x,l[i]?=some x->∀a,sz a<=B+i * C->step (mk (i:Int) a)=some (.inl (mk ((i:Int)+1) (g a x)))) (h2:∀a,step (mk (l.length:Int) a)=some (.inr (fin a))) :
  zaN step (mk 0 a0)=some (fin (l.foldl g a0)):=by
 have:=zdw l mk step (fun _ a x=>.inl (g a x)) fin (fun i a=>sz a<=B+i * C) (fun i x hx a ha=>⟨h1 i x hx a ha,fun a' e=>by
  obtain rfl:=Sum.inl.inj e
  have:=hg a x (List.mem_of_getElem? hx)
  rw [Nat.add_mul]; omega⟩) (fun a _=>h2 a) a0 (by omega)
 rw [this]
 congr 1
 generalize (0:Nat)=k
 clear this h0 h1 h2 hg
 induction l generalizing a0 k with
 | nil=>rfl
 | cons x l ih=>exact ih _ _
theorem zeX{α:Type}(g:ByteArray->α->ByteArray)(C:Nat):∀(l:List α) (hg:∀a x,x∈l->(g a x).size<=a.size+C) (a:ByteArray),(l.foldl g a).size<=a.size+l.length * C
 | [],_,a=>by simp
 | x::l,hg,a=>by
  have h1:=zeX g C l (fun a y hy=>hg a y (List.mem_cons_of_mem _ hy)) (g a x)
  have h2:=hg a x (List.mem_cons_self ..)
  simp only [List.foldl_cons,List.length_cons,Nat.add_mul]
  omega
def zkS(a:ByteArray)(v:Int):ByteArray:=a++((⟨#[32]⟩:ByteArray)++zeh v)
def zgZ(s:zak):ByteArray:=(((⟨#[115,121,109,32]⟩:ByteArray)++s.Name)++(⟨#[32]⟩:ByteArray))++zeh s.Size
def symT(a:ByteArray)(s:zak):ByteArray:=(s.Init.foldl zkS (a++zgZ s))++(⟨#[10]⟩:ByteArray)
def labT(a:ByteArray)(s:ByteArray):ByteArray:=a++(s++(⟨#[58,10]⟩:ByteArray))
def zjt(syms:List ByteArray)(a:ByteArray)(x:zae):ByteArray:=(x.zLb.foldl labT a)++(((⟨#[9]⟩:ByteArray)++insT x syms)++(⟨#[10]⟩:ByteArray))
def thT(syms:List ByteArray)(a:ByteArray)(t:zad):ByteArray:=t.Ins.foldl (zjt syms) (a++(⟨#[116,104,114,101,97,100,10]⟩:ByteArray))
def zbb(p:zag):List ByteArray:=p.zSy.map (·.Name)
def zjp(p:zag):ByteArray:=if zgp p != 0 then ⟨#[]⟩ else p.zTh.foldl (thT (zbb p)) (p.zSy.foldl symT ⟨#[]⟩)
section sizes
theorem z1:(⟨#[32]⟩:ByteArray).size=1:=rfl
theorem z2:(⟨#[10]⟩:ByteArray).size=1:=rfl
theorem z3:(⟨#[115,121,109,32]⟩:ByteArray).size=4:=rfl
theorem z4:(⟨#[58,10]⟩:ByteArray).size=2:=rfl
theorem z5:(⟨#[9]⟩:ByteArray).size=1:=rfl
theorem z6:(⟨#[116,104,114,101,97,100,10]⟩:ByteArray).size=7:=rfl
theorem z7:(⟨#[]⟩:ByteArray).size=0:=rfl
theorem z8:(⟨#[91]⟩:ByteArray).size=1:=rfl
theorem z9:(⟨#[93]⟩:ByteArray).size=1:=rfl
theorem z10:(⟨#[108,111,99,107,32]⟩:ByteArray).size=5:=rfl
theorem z11:(⟨#[44,32]⟩:ByteArray).size=2:=rfl
theorem zln{a:ByteArray}{v:Int}(h:I64 v):(zkS a v).size<=a.size+22:=by
 have:=zew h
 unfold zkS; simp only [zbc,z1]; omega
theorem zjb{s:zak}(h:zpH s):(zgZ s).size<=1026:=by
 have:=zew h.size
 have:=h.name
 unfold zgZ; simp only [zbc,z1,z3]; omega
theorem zll{s:zak}(h:zpH s)(a:ByteArray):(s.Init.foldl zkS a).size<=a.size+2200:=by
 have:=zeX zkS 22 s.Init (fun a x hx=>zln (h.init x hx)) a
 have:=h.n
 have:s.Init.length * 22<=100 * 22:=Nat.mul_le_mul_right _ h.n
 omega
theorem zmo{s:zak}(h:zpH s)(a:ByteArray):(symT a s).size<=a.size+3300:=by
 have h1:=zll h (a++zgZ s)
 have h2:=zjb h
 unfold symT; simp only [zbc,z2] at h1 ⊢; omega
def znn(syms:List ByteArray):Prop:=∀s∈syms,s.size<=1000
theorem znn.syms{syms}(h:znn syms):zSy syms:=fun s hs=>by have:=h s hs; omega
theorem zle(o:zal)(syms:List ByteArray)(hn:I64 o.N)(hs:znn syms):(opdT o syms).size<=1023:=by
 have hz:=zew hn
 have hy:=zhW hs o.Sym
 have hr:=zih o.Reg
 unfold opdT
 split
 ·rw [z7]; omega
 split
 ·omega
 split
 ·omega
 split
 ·rw [z7]; omega
 split <;> simp only [zbc,z8,z9] <;> omega
theorem zm5(x:zae)(syms:List ByteArray)(hx:zme x)(hs:znn syms):(insT x syms).size<=2100:=by
 have ha:=zle x.A syms hx.a hs
 have hb:=zle x.B syms hx.b hs
 have ho:=zlP x.Op x.Cond
 have ht:=hx.to1
 have hS:(if x.Lock then (⟨#[108,111,99,107,32]⟩:ByteArray)++opT x.Op x.Cond else opT x.Op x.Cond).size<=15:=by
  split
  ·rw [zbc,z10]; omega
  ·omega
 unfold insT
 split
 ·rw [z7]; omega
 simp only
 generalize (if x.Lock then (⟨#[108,111,99,107,32]⟩:ByteArray)++opT x.Op x.Cond else opT x.Op x.Cond)=S at hS ⊢
 split
 ·simp only [zbc,z1]; omega
 split
 ·omega
 split
 ·rw [z7]; omega
 ·simp only [zbc,z1,z11]; omega
theorem zmX{x:zae}(h:zme x)(a:ByteArray):(x.zLb.foldl labT a).size<=a.size+100200:=by
 have:=zeX labT 1002 x.zLb (fun a s hs=>by have:=h.lab s hs; unfold labT; simp only [zbc,z4]; omega) a
 have:x.zLb.length * 1002<=100 * 1002:=Nat.mul_le_mul_right _ h.n
 omega
theorem zlh{syms:List ByteArray}(hs:znn syms){x:zae}(h:zme x)(a:ByteArray):(zjt syms a x).size<=a.size+102400:=by
 have h1:=zmX h a
 have h2:=zm5 x syms h hs
 unfold zjt; simp only [zbc,z2,z5]; omega
theorem zrG{syms:List ByteArray}(hs:znn syms){t:zad}(h:ThOk t)(a:ByteArray):(thT syms a t).size<=a.size+10241000:=by
 unfold thT
 have:=zeX (zjt syms) 102400 t.Ins (fun a x hx=>zlh hs (h.ins x hx) a) (a++(⟨#[116,104,114,101,97,100,10]⟩:ByteArray))
 have:t.Ins.length * 102400<=100 * 102400:=Nat.mul_le_mul_right _ h.n
 simp only [zbc,z6] at *; omega
theorem znu{p:zag}(h:zjn p):znn (zbb p):=by
 intro s hs
 obtain ⟨y,hy,rfl⟩:=List.mem_map.1 hs
 exact (h.sym y hy).name
end sizes
theorem catB{a b:ByteArray}(h:a.size+b.size<=5000000000):zby a b:=by unfold zby; omega
end Go.Vs
end
section
namespace Go.Vs
open Go.Lib
local instance tabPalShow8:Tab:=⟨fun _=>none⟩
theorem znC(p:zag)(i:Nat)(s:zak)(hx:p.zSy[i]?=some s)(hk:zpH s)(a:ByteArray)(ha:a.size<=2000000):zaN (zb6 i p) (a,0)=some (s.Init.foldl zkS a):=by
 have hn:=hk.n
 refine zfg s.Init (fun i (a:ByteArray)=>(a,i)) (zb6 i p) zkS id (·.size) 2000000 22 a ha (fun a x hx=>zln (hk.init x hx)) (fun j v hv b hb=>?_) (fun b=>?_)
 ·have hj:j<=1000:=by have:=(List.getElem?_eq_some_iff.1 hv).1; omega
  have hz:=zew (hk.init v (List.mem_of_getElem? hv))
  simp only [zb6]
  simp only [zb0 hx,if_pos (zbj hx)]
  rw [if_pos (zfv hv),if_pos (zbj hv),zb0 hv,zeD _ (hk.init v (List.mem_of_getElem? hv)),wi (by omega)]
  simp only [Option.bind_some]
  rw [if_pos (catB (by rw [z1]; omega)),if_pos (catB (by rw [zbc,z1]; omega))]
  rfl
 ·simp only [zb6,zb0 hx,if_pos (zbj hx)]
  rw [if_neg (by simp)]; rfl
theorem zpf(p:zag)(hp:zjn p):zaN (zb7 p) ((⟨#[]⟩:ByteArray),0)=some (p.zSy.foldl symT ⟨#[]⟩):=by
 have hn:=hp.ns
 refine zfg p.zSy (fun i (b:ByteArray)=>(b,i)) (zb7 p) symT id (·.size) 0 3300 ⟨#[]⟩ (by simp [z7])
  (fun b s hs=>zmo (hp.sym s hs) b) (fun j s hs b hb=>?_) (fun b=>?_)
 ·have hj:j<=100:=by have:=(List.getElem?_eq_some_iff.1 hs).1; omega
  have hj2:j * 3300<=100 * 3300:=Nat.mul_le_mul_right _ hj
  have hk:=hp.sym s (List.mem_of_getElem? hs)
  have hz:=zew hk.size
  have hm:=hk.name
  have hh:=zjb hk
  have hin:=zll hk (b++zgZ s)
  try simp only at hb
  simp only [zb7]
  simp only [if_pos (zfv hs),if_pos (zbj hs),zb0 hs]
  rw [zeD _ hk.size,wi (by omega)]
  simp only [Option.bind_some]
  have c1:zby (⟨#[115,121,109,32]⟩:ByteArray) s.Name:=catB (by rw [z3]; omega)
  have c2:zby ((⟨#[115,121,109,32]⟩:ByteArray)++s.Name) (⟨#[32]⟩:ByteArray):=catB (by rw [zbc,z3,z1]; omega)
  have c3:zby (((⟨#[115,121,109,32]⟩:ByteArray)++s.Name)++(⟨#[32]⟩:ByteArray)) (zeh s.Size):=catB (by rw [zbc,zbc,z3,z1]; omega)
  simp only [if_pos c1,if_pos c2,if_pos c3]
  have e:((((⟨#[115,121,109,32]⟩:ByteArray)++s.Name)++(⟨#[32]⟩:ByteArray))++zeh s.Size)=zgZ s:=rfl
  rw [e,if_pos (catB (show b.size+(zgZ s).size<=_ by omega))]
  rw [znC p j s hs hk _ (by rw [zbc]; omega)]
  simp only [Option.bind_some]
  rw [if_pos (catB (by rw [zbc] at hin; rw [z2]; omega))]
  rfl
 ·simp only [zb7]
  rw [if_neg (by simp)]; rfl
theorem zpg(x:zae)(hk:zme x)(a:ByteArray)(ha:a.size<=2000000000):zaN (zb4 x.zLb) (a,0)=some (x.zLb.foldl labT a):=by
 have hn:=hk.n
 refine zfg x.zLb (fun i (a:ByteArray)=>(a,i)) (zb4 x.zLb) labT id (·.size) 2000000000 1002 a ha (fun a s hs=>by have:=hk.lab s hs; unfold labT; simp only [zbc,z4]; omega) (fun j s hs b hb=>?_) (fun b=>?_)
 ·have hj:j<=100:=by have:=(List.getElem?_eq_some_iff.1 hs).1; omega
  have hj2:j * 1002<=100 * 1002:=Nat.mul_le_mul_right _ hj
  have hz:=hk.lab s (List.mem_of_getElem? hs)
  simp only [zb4]
  rw [if_pos (zfv hs),if_pos (zbj hs),zb0 hs,wi (by omega),if_pos (catB (by rw [z4]; omega)),if_pos (catB (by rw [zbc,z4]; omega))]
  rfl
 ·simp only [zb4]
  rw [if_neg (by simp)]; rfl
theorem znB(p:zag)(i:Nat)(t:zad)(hx:p.zTh[i]?=some t)(hk:ThOk t)(syms:List ByteArray)(hq:znn syms)(a:ByteArray)(ha:a.size<=1500000000) :
  zaN (zb5 i p syms) (a,0)=some (t.Ins.foldl (zjt syms) a):=by
 have hn:=hk.n
 refine zfg t.Ins (fun i (a:ByteArray)=>(a,i)) (zb5 i p syms) (zjt syms) id (·.size) 1500000000 102400 a ha (fun a x hx=>zlh hq (hk.ins x hx) a) (fun j x hs b hb=>?_) (fun b=>?_)
 ·have hj:j<=100:=by have:=(List.getElem?_eq_some_iff.1 hs).1; omega
  have hj2:j * 102400<=100 * 102400:=Nat.mul_le_mul_right _ hj
  have hl:=hk.ins x (List.mem_of_getElem? hs)
  have hz:=zm5 x syms hl hq
  have hls:=zmX hl b
  try simp only at hb
  simp only [zb5]
  simp only [zb0 hx,if_pos (zbj hx)]
  rw [if_pos (zfv hs),if_pos (zbj hs)]
  simp only [zb0 hs,Option.bind_some]
  have eta:zae.mk x.Op x.Lock x.Cond x.A x.B x.To x.zLb=x:=rfl
  rw [eta,zpg x hl b (by omega),zkD x syms hl.toInsOk hq.syms,wi (by omega)]
  simp only [Option.bind_some]
  rw [if_pos (catB (by rw [z5]; omega)),if_pos (catB (by rw [zbc,z5,z2]; omega)),if_pos (catB (by simp only [zbc,z5,z2]; omega))]
  rfl
 ·simp only [zb5,zb0 hx,if_pos (zbj hx)]
  rw [if_neg (by simp)]; rfl
theorem zj5(p:zag)(hn:p.zSy.length<=1000000):zcX p=some (zbb p):=by
 unfold zcX
 have:=zfg p.zSy (fun i (b:List ByteArray)=>(i,b)) (zbA p) (fun b s=>b++[s.Name]) id (·.length) 0 1 [] (by simp) (fun b s hs=>by simp) (fun j s hs b hb=>?_) (fun b=>?_)
 ·rw [this]
  simp only [Option.bind_some,id]
  have key:∀(l:List zak) (L:List ByteArray),l.foldl (fun b s=>b++[s.Name]) L=L++l.map (·.Name):=by
   intro l
   induction l with
   | nil=>intro L; simp
   | cons s l ih=>intro L; simp only [List.foldl_cons]; rw [ih]; simp
  rw [key]; rfl
 ·have hj:j<1000000:=by have:=(List.getElem?_eq_some_iff.1 hs).1; omega
  simp only [zbA]
  rw [if_pos (zfv hs),if_pos (zbj hs),zb0 hs,wi (by omega),if_pos (show Fits (b.length+1) from by unfold Fits; omega)]
  rfl
 ·simp only [zbA]
  rw [if_neg (by simp)]; rfl
theorem znH(p:zag)(hp:zjn p):zcY p=some (zjp p):=by
 have hn:=hp.nt
 have hnm:=znu hp
 have hns:=hp.ns
 unfold zcY zjp
 rw [zmD p hp]
 simp only [Option.bind_some]
 split
 ·rfl
 rw [zpf p hp,zj5 p (by omega)]
 simp only [Option.bind_some]
 have hsz:(p.zSy.foldl symT ⟨#[]⟩).size<=330000:=by
  have:=zeX symT 3300 p.zSy (fun a s hs=>zmo (hp.sym s hs) a) ⟨#[]⟩
  have:p.zSy.length * 3300<=100 * 3300:=Nat.mul_le_mul_right _ hp.ns
  rw [z7] at *; omega
 have:=zfg p.zTh (fun i (a:ByteArray)=>(a,i)) (zcC p (zbb p)) (thT (zbb p)) id (·.size) 330000 10241000 _ hsz (fun a t ht=>zrG hnm (hp.th t ht) a) (fun j t hs b hb=>?_) (fun b=>?_)
 ·rw [this]
  simp only [Option.bind_some,id]
 ·have hj:j<100:=by have:=(List.getElem?_eq_some_iff.1 hs).1; omega
  have hj2:j * 10241000<=100 * 10241000:=Nat.mul_le_mul_right _ (by omega)
  try simp only at hb
  simp only [zcC]
  rw [if_pos (zfv hs),if_pos (catB (by rw [z6]; omega)),wi (by omega)]
  rw [znB p j t hs (hp.th t (List.mem_of_getElem? hs)) (zbb p) hnm _ (by rw [zbc,z6]; omega)]
  rfl
 ·simp only [zcC]
  rw [if_neg (by simp)]; rfl
end Go.Vs
end
section
namespace Go.Vs
end Go.Vs
end
section
namespace Go.Vs
def Wi(k:IntKind)(n:Int):Prop:=k.min<=n/\n<=k.max
theorem Wi.i64{n:Int}(h:Wi .i64 n):I64 n:=h
structure zaZ (x:zay):Prop where
 Kind:Wi .i64 x.Kind
 A:Wi .i64 x.A
 B:Wi .i64 x.B
 C:Wi .i64 x.C
 N:Wi .i64 x.N
end Go.Vs
end
section
namespace Go.Vs
open Go.Lib
local instance tabPalShow9:Tab:=⟨fun _=>none⟩
end Go.Vs
end
section
namespace Go.Vs
end Go.Vs
end
section
namespace Go.Vs
open Go.Lib
local instance tabPalShowA:Tab:=⟨fun _=>none⟩
theorem z64:I64 0:=by unfold I64; decide
theorem zf7{p:Int}(h:I64 p)(n:Int)(hn:0<n)(hn2:n<=1000):∃i:Nat,zaR p n=some (i:Int)/\(i:Int)<n:=by
 obtain ⟨i,h1,h2,h3⟩:=zqt h n hn hn2
 exact ⟨i.toNat,by rw [h1]; congr 1; omega,by omega⟩
theorem ztA{a:Int}(h:I64 a):∃o,zaL a=some o/\I64 o.N:=by
 obtain ⟨i,h1,h2⟩:=zf7 h 4 (by omega) (by omega)
 refine ⟨⟨1,i,0,0⟩,?_,z64⟩
 unfold zaL
 rw [h1]; rfl
theorem div3{a:Int}(h:I64 a):I64 (IntKind.wrap .i64 (Int.tdiv a 3)):=by
 have h1:(Int.tdiv a 3).natAbs<=a.natAbs:=by rw [Int.natAbs_tdiv]; exact Nat.div_le_self _ _
 obtain ⟨h2,h3⟩:=h
 rw [wi64]
 constructor <;> omega
theorem ztE{b n:Int}(h:I64 b)(hn:I64 n):∃o,za6 b n=some o/\I64 o.N:=by
 obtain ⟨i,h1,h2⟩:=zf7 h 3 (by omega) (by omega)
 unfold za6
 rw [h1]
 simp only [Option.bind_some]
 split
 ·obtain ⟨o,h3,h4⟩:=ztA (div3 h)
  exact ⟨o,by rw [h3]; rfl,h4⟩
 ·exact ⟨_,rfl,hn⟩
def memV(v1:Int):Option zal :=
 (some ([1,2,1])).bind fun l3 =>
 if ((Int.tmod v1 5)==4)=true then (some (zal.mk 4 (IntKind.wrap .i64 (Int.tdiv v1 15)) (Int.tmod (IntKind.wrap .i64 (Int.tdiv v1 5)) 3) 0)) else (if InB (Int.tmod (IntKind.wrap .i64 (Int.tdiv v1 5)) 3) l3.length then (if ¬(rd l3 (Int.tmod (IntKind.wrap .i64 (Int.tdiv v1 5)) 3))=0 then ((some (Int.tmod (Int.tmod v1 5) (rd l3 (Int.tmod (IntKind.wrap .i64 (Int.tdiv v1 5)) 3)))).bind fun n8 =>
  some (zal.mk 3 0 (Int.tmod (IntKind.wrap .i64 (Int.tdiv v1 5)) 3) n8)) else none) else none)
def zfu(o:zal):Bool:=opdB o&&memB o&&decide (0<=o.Sym/\o.Sym<=2/\0<=o.N/\o.N<=1/\(o.Kind=3->o.N<rd [1,2,1] o.Sym))
theorem ztM:((List.range 60).all fun v=>match memV (v:Int) with | some o=>zfu o | none=>false)=true:=by decide +kernel
theorem zr5{a:Int}(h:I64 a):∃o,zaS a=some o/\zfu o=true:=by
 obtain ⟨i,h1,h2⟩:=zf7 h 60 (by omega) (by omega)
 have h3:=(List.all_eq_true.1 ztM) i (by simp; omega)
 have h4:zaS a=memV i:=by
  unfold zaS memV
  rw [h1]; rfl
 rw [h4]
 cases hv:memV (i:Int) with
 | none=>rw [hv] at h3; cases h3
 | some o=>rw [hv] at h3; exact ⟨o,rfl,h3⟩
theorem zjF{o:zal}(h:zfu o=true):I64 o.N:=by
 unfold zfu at h
 simp only [Bool.and_eq_true,decide_eq_true_eq] at h
 unfold I64; omega
theorem zlY(k:Int):∃s,zbo k=some s/\s.size=3:=by
 unfold zbo
 rw [if_pos (catB (by show 1+2<=_; omega))]
 exact ⟨_,rfl,by rw [zbc]; rfl⟩
structure BookIns (y:zae):Prop where
 a:I64 y.A.N
 b:I64 y.B.N
 to:y.To.size<=3
 lab:y.zLb=[]
def zno(o:Option zae):Prop:=∃y,o=some y/\BookIns y
theorem zjK{b:Bool}{x y:Option zae}(h1:b=true->zno x)(h2:b=false->zno y):zno (if b=true then x else y):=by cases b <;> simp_all
theorem zsI{x:zay}(hw:zaZ x){n:Int}(hn:0<n)(hn2:n<=1000):∃y,zcR x n=some y/\BookIns y:=by
 obtain ⟨v1,e1,l1⟩:=zf7 hw.C.i64 5 (by omega) (by omega)
 obtain ⟨v3,e3,l3⟩:=zf7 hw.Kind.i64 22 (by omega) (by omega)
 obtain ⟨rA,eA,nA⟩:=ztA hw.A.i64
 obtain ⟨rB,eB,nB⟩:=ztA hw.B.i64
 obtain ⟨mA,fA,gA⟩:=zr5 hw.A.i64
 obtain ⟨mB,fB,gB⟩:=zr5 hw.B.i64
 obtain ⟨pB,hB,kB⟩:=ztE hw.B.i64 hw.N.i64
 obtain ⟨j,ej,lj⟩:=zf7 hw.A.i64 n hn hn2
 obtain ⟨c,ec,lc⟩:=zf7 hw.C.i64 10 (by omega) (by omega)
 obtain ⟨t,et,lt⟩:=zlY j
 have qA:=zjF gA
 have qB:=zjF gB
 have zt:(⟨#[]⟩:ByteArray).size<=3:=by decide
 have lt3:t.size<=3:=by omega
 have one:∀op lk cd A B to,I64 A.N->I64 B.N->to.size<=3->zno (some (zae.mk op lk cd A B to [])):=fun op lk cd A B to h1 h2 h3=>⟨_,rfl,⟨h1,h2,h3,rfl⟩⟩
 have g4:∀b,zno (zbU x v1 v3 n b):=by
  intro b
  unfold zbU zdv
  repeat' refine zjK (fun _=>?_) (fun _=>?_)
  all_goals try simp only [Option.bind_some,eA,eB,fA,fB,hB,ej,ec,et]
  all_goals exact one _ _ _ _ _ _ (by first | assumption | exact z64) (by first | assumption | exact z64) (by assumption)
 have g3:∀b,zno (zbf x v3 v1 n b):=by
  intro b
  unfold zbf
  repeat' refine zjK (fun _=>?_) (fun _=>?_)
  all_goals try simp only [Option.bind_some,eA,eB,fA,fB,hB,ej,ec,et]
  all_goals first | exact g4 _ | exact one _ _ _ _ _ _ (by first | assumption | exact z64) (by first | assumption | exact z64) (by assumption)
 have g2:∀b,zno (zbr x v3 v1 n b):=by
  intro b
  unfold zbr
  repeat' refine zjK (fun _=>?_) (fun _=>?_)
  all_goals try simp only [Option.bind_some,eA,eB,fA,fB,hB,ej,ec,et]
  all_goals first | exact g3 _ | exact one _ _ _ _ _ _ (by first | assumption | exact z64) (by first | assumption | exact z64) (by assumption)
 show zno _
 unfold zcR
 rw [e1,e3]
 simp only [Option.bind_some]
 repeat' refine zjK (fun _=>?_) (fun _=>?_)
 all_goals try simp only [Option.bind_some,eA,eB,fA,fB,hB,ej,ec,et]
 all_goals first | exact g2 _ | exact one _ _ _ _ _ _ (by first | assumption | exact z64) (by first | assumption | exact z64) (by assumption)
theorem BookIns.ok{y:zae}(h:BookIns y):InsOk y:=⟨by have:=h.to; unfold Sm; omega,h.a,h.b⟩
theorem BookIns.lb{y:zae}(h:BookIns y):zme y:=⟨h.ok,by rw [h.lab]; decide,by have:=h.to; omega,by rw [h.lab]; intro s hs; cases hs⟩
end Go.Vs
end
section
namespace Go.Vs
open Go.Lib
local instance tabPalShowB:Tab:=⟨fun _=>none⟩
structure zkY (y:zae):Prop where
 a:I64 y.A.N
 b:I64 y.B.N
 to:y.To.size<=3
 n:y.zLb.length<=1
 lab:∀s∈y.zLb,s.size<=3
theorem BookIns.l{y:zae}(h:BookIns y):zkY y:=⟨h.a,h.b,h.to,by rw [h.lab]; decide,by rw [h.lab]; intro s hs; cases hs⟩
theorem zkY.ok{y:zae}(h:zkY y):zme y:=⟨⟨by have:=h.to; unfold Sm; omega,h.a,h.b⟩,by have:=h.n; omega,by have:=h.to; omega,fun s hs=>by have:=h.lab s hs; omega⟩
theorem zuf(p0:List (List zay))(i:Nat)(l:List zay)(hi:p0[i]?=some l)(hl:∀x∈l,zaZ x)(n:Nat)(hn:n<=l.length)(hn8:n<=100) :
  ∃r,zaN (zaV (n:Int) (i:Int) p0) (0,[])=some r/\r.length=n/\∀y∈r,BookIns y:=by
 have main:∀(k j:Nat) (out:List zae),n-j=k->j<=n->out.length=j->(∀y∈out,BookIns y)->∃r,zaN (zaV (n:Int) (i:Int) p0) ((j:Int),out)=some r/\r.length=n/\∀y∈r,BookIns y:=by
  intro k
  induction k with
  | zero =>
   intro j out h1 h2 h3 h4
   obtain rfl:j=n:=by omega
   exact ⟨out,zaI (by simp only [zaV]; rw [if_neg (by simp)]),h3,h4⟩
  | succ k ih =>
   intro j out h1 h2 h3 h4
   have hx:l[j]?=some l[j]:=by rw [List.getElem?_eq_getElem]
   obtain ⟨y,e1,e2⟩:=zsI (hl l[j] (List.getElem_mem _)) (n:=(n:Int)+1) (by omega) (by omega)
   have hst:zaV (n:Int) (i:Int) p0 ((j:Int),out)=some (.inl ((j:Int)+1,out++[y])):=by
    simp only [zaV]
    rw [if_pos (by simp; omega),if_pos (zbj hi),zb0 hi,if_pos (zbj hx),zb0 hx,wi (by omega),e1,wi (by omega)]
    simp only [Option.bind_some]
    rw [if_pos (show Fits (out.length+1) from by unfold Fits; omega)]
   obtain ⟨r,e3,e4,e5⟩:=ih (j+1) (out++[y]) (by omega) (by omega) (by simp; omega) (fun z hz=>by
    rcases List.mem_append.1 hz with h | h
    ·exact h4 z h
    ·rw [List.mem_singleton.1 h]; exact e2)
   exact ⟨r,by rw [za4 hst]; exact e3,e4,e5⟩
 exact main n 0 [] (by omega) (by omega) rfl (by intro y hy; cases hy)
theorem ztk{α:Type}{P:α->Prop}{l:List α}{i:Nat}{a:α}(hl:∀x∈l,P x)(ha:P a):∀x∈l.set i a,P x:=by
 intro x hx
 rcases List.mem_or_eq_of_mem_set hx with h | h
 ·exact hl x h
 ·rw [h]; exact ha
theorem zud(n:Nat)(hn:n<=100)(i:Nat)(hi:i<n):∀(k j:Nat) (l:List zae),n+1-j=k->j<=n+1->l.length=n+1->(∀y∈l,zkY y) ->
  ∃r,zaN (zaT (n:Int) (i:Int)) ((j:Int),l)=some r/\r.length=n+1/\∀y∈r,zkY y:=by
 intro k
 induction k with
 | zero =>
  intro j l h1 h2 h3 h4
  exact ⟨l,zaI (by simp only [zaT]; rw [if_neg (by simp; omega)]),h3,h4⟩
 | succ k ih =>
  intro j l h1 h2 h3 h4
  obtain ⟨t,e1,e2⟩:=zlY (j:Int)
  have hj:j<l.length:=by omega
  have hx:l[j]?=some l[j]:=by rw [List.getElem?_eq_getElem]
  have hxi:l[i]?=some (l[i]'(by omega)):=by rw [List.getElem?_eq_getElem]
  have hst:∃l',zaT (n:Int) (i:Int) ((j:Int),l)=some (.inl ((j:Int)+1,l'))/\l'.length=n+1/\∀y∈l',zkY y:=by
   simp only [zaT]
   rw [if_pos (by simp; omega),e1]
   simp only [Option.bind_some,if_pos (zbj hxi),zb0 hxi,zb0 hx,zbj hx,implies_true,if_true]
   unfold zcG
   rw [wi (by omega)]
   cases hc:(decide (t=(l[i]'(by omega)).To)&&(((l[j].zLb).length:Int)==0))
   ·exact ⟨l,by simp,h3,h4⟩
   ·refine ⟨_,by simp only [if_true]; rfl,by simp [h3],?_⟩
    have hb:=h4 l[j] (List.getElem_mem _)
    exact ztk h4 ⟨hb.a,hb.b,hb.to,by simp,fun s hs=>by rw [List.mem_singleton.1 hs]; omega⟩
  obtain ⟨l',e3,e4,e5⟩:=hst
  obtain ⟨r,e6,e7,e8⟩:=ih (j+1) l' (by omega) (by omega) e4 e5
  exact ⟨r,by rw [za4 e3]; exact e6,e7,e8⟩
theorem zue(n:Nat)(hn:n<=100):∀(k j:Nat) (l:List zae),n-j=k->j<=n->l.length=n+1->(∀y∈l,zkY y) ->
  ∃r,zaN (zaU (n:Int)) ((j:Int),l)=some r/\r.length=n+1/\∀y∈r,zkY y:=by
 intro k
 induction k with
 | zero =>
  intro j l h1 h2 h3 h4
  exact ⟨l,zaI (by simp only [zaU]; rw [if_neg (by simp; omega)]),h3,h4⟩
 | succ k ih =>
  intro j l h1 h2 h3 h4
  have hx:l[j]?=some (l[j]'(by omega)):=by rw [List.getElem?_eq_getElem]
  have hst:∃l',zaU (n:Int) ((j:Int),l)=some (.inl ((j:Int)+1,l'))/\l'.length=n+1/\∀y∈l',zkY y:=by
   simp only [zaU]
   rw [if_pos (by simp; omega),if_pos (zbj hx)]
   unfold zcH
   rw [wi (by omega)]
   split
   ·exact ⟨l,rfl,h3,h4⟩
   ·obtain ⟨r,e1,e2,e3⟩:=zud n hn j (by omega) (n+1) 0 l (by omega) (by omega) h3 h4
    have e0:zaN (zaT (n:Int) (j:Int)) (0,l)=some r:=e1
    rw [e0]
    exact ⟨r,rfl,e2,e3⟩
  obtain ⟨l',e3,e4,e5⟩:=hst
  obtain ⟨r,e6,e7,e8⟩:=ih (j+1) l' (by omega) (by omega) e4 e5
  exact ⟨r,by rw [za4 e3]; exact e6,e7,e8⟩
theorem zvy:zkY (zae.mk 14 false 0 (zal.mk 0 0 0 0) (zal.mk 0 0 0 0) (⟨#[]⟩:ByteArray) ([])):=⟨z64,z64,by decide,by decide,by intro s hs; cases hs⟩
theorem zug(p0:List (List zay))(hw:∀l∈p0,∀x∈l,zaZ x)(p1 p2:Nat)(h1:p1<=100)(h2:p2<=90) :
  ∃r,zaN (zaO p0 (p1:Int) (p2:Int)) (0,[])=some r/\r.length<=p1/\∀t∈r,ThOk t:=by
 have main:∀(k j:Nat) (out:List zad),p1-j=k->j<=p1->out.length=j->(∀y∈out,ThOk y)->∃r,zaN (zaO p0 (p1:Int) (p2:Int)) ((j:Int),out)=some r/\r.length<=p1/\∀y∈r,ThOk y:=by
  intro k
  induction k with
  | zero =>
   intro j out q1 q2 q3 q4
   exact ⟨out,zaI (by simp only [zaO]; rw [if_neg (by simp; omega)]),by omega,q4⟩
  | succ k ih =>
   intro j out q1 q2 q3 q4
   by_cases hj:j<p0.length
   ·have hx:p0[j]?=some p0[j]:=by rw [List.getElem?_eq_getElem]
    obtain ⟨n,hn,hn1,hn2⟩:∃n:Nat,(if (p2:Int)<(p0[j].length:Int) then (p2:Int) else (p0[j].length:Int))=(n:Int)/\n<=p0[j].length/\n<=p2:=by
     split
     ·exact ⟨p2,rfl,by omega,Nat.le_refl _⟩
     ·exact ⟨p0[j].length,rfl,Nat.le_refl _,by omega⟩
    obtain ⟨r,e1,e2,e3⟩:=zuf p0 j p0[j] hx (hw _ (List.getElem_mem _)) n hn1 (by omega)
    obtain ⟨r2,e4,e5,e6⟩:=zue n (by omega) n 0 (r++[zae.mk 14 false 0 (zal.mk 0 0 0 0) (zal.mk 0 0 0 0) (⟨#[]⟩:ByteArray) ([])]) (by omega) (by omega) (by simp [e2]) (fun y hy=>by
     rcases List.mem_append.1 hy with h | h
     ·exact (e3 y h).l
     ·rw [List.mem_singleton.1 h]; exact zvy)
    have e7:zaN (zaU (n:Int)) (0,(r++[zae.mk 14 false 0 (zal.mk 0 0 0 0) (zal.mk 0 0 0 0) (⟨#[]⟩:ByteArray) ([])]))=some r2:=e4
    have hst:zaO p0 (p1:Int) (p2:Int) ((j:Int),out)=some (.inl ((j:Int)+1,out++[zad.mk r2])):=by
     simp only [zaO]
     rw [if_pos (by simp; omega),if_pos (zbj hx),zb0 hx,hn]
     simp only [Option.bind_some]
     rw [e1]
     simp only [Option.bind_some]
     rw [if_pos (show Fits (r.length+1) from by unfold Fits; omega),e7]
     simp only [Option.bind_some]
     rw [if_pos (show Fits (out.length+1) from by unfold Fits; omega),wi (by omega)]
    obtain ⟨r3,e8,e9,e10⟩:=ih (j+1) (out++[zad.mk r2]) (by omega) (by omega) (by simp; omega) (fun t ht=>by
     rcases List.mem_append.1 ht with h | h
     ·exact q4 t h
     ·rw [List.mem_singleton.1 h]
      exact ⟨by show r2.length<=100; omega,fun x hx=>(e6 x hx).ok⟩)
    exact ⟨r3,by rw [za4 hst]; exact e8,e9,e10⟩
   ·exact ⟨out,zaI (by simp only [zaO]; rw [if_neg (by simp; omega)]),by omega,q4⟩
 exact main p1 0 [] (by omega) (by omega) rfl (by intro y hy; cases hy)
def zdY:List zak:=[(zak.mk (⟨#[120]⟩:ByteArray) 1 ([])),(zak.mk (⟨#[121]⟩:ByteArray) 2 ([1])),(zak.mk (⟨#[122]⟩:ByteArray) 1 ([0]))]
theorem zn4:∀s∈zdY,zpH s:=by
 intro s hs
 have i1:I64 1:=by unfold I64; decide
 have i2:I64 2:=by unfold I64; decide
 unfold zdY at hs
 simp only [List.mem_cons,List.mem_nil_iff,or_false] at hs
 rcases hs with rfl | rfl | rfl
 ·exact ⟨by decide,by decide,i1,by intro v hv; cases hv⟩
 ·exact ⟨by decide,by decide,i2,by intro v hv; rw [List.mem_singleton.1 hv]; exact i1⟩
 ·exact ⟨by decide,by decide,i1,by intro v hv; rw [List.mem_singleton.1 hv]; exact z64⟩
theorem zrk(p0:List (List zay))(hw:∀l∈p0,∀x∈l,zaZ x)(p1 p2:Nat)(h1:p1<=100)(h2:p2<=90):∃p,zbC p0 (p1:Int) (p2:Int)=some p/\zjn p:=by
 obtain ⟨r,e1,e2,e3⟩:=zug p0 hw p1 p2 h1 h2
 refine ⟨⟨zdY,r⟩,?_,⟨by show 3<=100; omega,by show r.length<=100; omega,zn4,e3⟩⟩
 unfold zbC
 rw [e1]; rfl
end Go.Vs
end
section
namespace Go.Vs
open Go.Lib
local instance tabPalShowC:Tab:=⟨fun _=>none⟩
def zc3(k:Int):ByteArray:=(⟨#[108]⟩:ByteArray)++(ziG ([(IntKind.wrap .u8 (IntKind.wrap .i64 (48+(IntKind.wrap .i64 (Int.tdiv k 10))))),(IntKind.wrap .u8 (IntKind.wrap .i64 (48+(Int.tmod k 10))))]))
theorem zl0(k:Int):zbo k=some (zc3 k):=by
 unfold zbo
 rw [if_pos (catB (by show 1+2<=_; omega))]
 rfl
theorem zkf:((List.range 100).all fun k=>zbZ (zc3 (k:Int)))=true:=by decide +kernel
theorem zkg{k:Nat}(h:k<100):zbZ (zc3 (k:Int))=true:=(List.all_eq_true.1 zkf) k (by simpa using h)
theorem zlZ:((List.range 100).all fun i=>(List.range 100).all fun j=>decide (i=j)||!decide (zc3 (i:Int)=zc3 (j:Int)))=true:=by decide +kernel
theorem zqQ{i j:Nat}(hi:i<100)(hj:j<100)(h:zc3 (i:Int)=zc3 (j:Int)):i=j:=by
 have:=(List.all_eq_true.1 ((List.all_eq_true.1 zlZ) i (by simpa using hi))) j (by simpa using hj)
 simpa [h] using this
theorem zp7{op:Int}{A B:zal}(h1:1<=op)(h2:op<=7)(hA:opdB A=true)(kA:A.Kind=1)(hB:opdB B=true):rowB ⟨op,false,0,A,B,⟨#[]⟩,[]⟩=true:=by
 unfold rowB
 have e1:(decide (op<1)||decide (op>9))=false:=by simp; omega
 have e8:(op==8)=false:=by simp; omega
 have e9:(op==9)=false:=by simp; omega
 simp [e1,e8,e9,hA,hB,kA]
theorem ztr{op:Int}{lk:Bool}{A B:zal}(h1:1<=op)(h2:op<=7)(hA:opdB A=true)(mA:memB A=true)(hB:opdB B=true)(mB:memB B=false)(hl:lk=true->2<=op/\op<=6):rowB ⟨op,lk,0,A,B,⟨#[]⟩,[]⟩=true:=by
 unfold rowB
 have e1:(decide (op<1)||decide (op>9))=false:=by simp; omega
 have e8:(op==8)=false:=by simp; omega
 have e9:(op==9)=false:=by simp; omega
 have k1:(A.Kind==1)=false:=by
  have:=zl2 A
  rw [mA,Bool.and_true] at this; exact this
 cases lk
 ·simp [e1,e8,e9,hA,hB,k1,mA,mB]
 ·have:=hl rfl
  simp [e1,e8,e9,hA,hB,k1,mA,mB]; omega
theorem zoK{y:zae}(hc:zia y=true)(h1:1<=y.Op)(h2:y.Op<=14)(hr:rowB y=true)(hj:zdz y=true->zbZ y.To=true)(hn:zdz y=false->y.To=⟨#[]⟩):insN y=0:=by
 unfold insN zkV
 have e1:(decide (y.Op≥1)&&decide (y.Op<=14))=true:=by simp; omega
 cases h:zdz y
 ·simp [hc,e1,hr,hn h]
 ·simp [hc,e1,hr,hj h]
structure zoa (n:Nat) (y:zae):Prop extends BookIns y where
 z:insN y=0
 pA:memB y.A=true->zfu y.A=true
 pB:memB y.B=true->zfu y.B=true
 j:zdz y=true->∃k:Nat,k<n/\y.To=zc3 k
 nj:zdz y=false->y.To=⟨#[]⟩
theorem zoA{o:zal}(h:zfu o=true):opdB o=true/\memB o=true:=by
 unfold zfu at h
 simp only [Bool.and_eq_true] at h
 exact h.1
theorem ztB{a:Int}(h:I64 a):∃o,zaL a=some o/\I64 o.N/\opdB o=true/\o.Kind=1/\memB o=false:=by
 obtain ⟨i,h1,h2⟩:=zf7 h 4 (by omega) (by omega)
 refine ⟨⟨1,i,0,0⟩,?_,z64,?_,rfl,rfl⟩
 ·unfold zaL
  rw [h1]; rfl
 ·unfold opdB; simp; omega
theorem ztF{b n:Int}(h:I64 b)(hn:I64 n):∃o,za6 b n=some o/\I64 o.N/\opdB o=true/\memB o=false:=by
 obtain ⟨i,h1,h2⟩:=zf7 h 3 (by omega) (by omega)
 unfold za6
 rw [h1]
 simp only [Option.bind_some]
 split
 ·obtain ⟨o,h3,h4,h5,_,h7⟩:=ztB (div3 h)
  exact ⟨o,by rw [h3]; rfl,h4,h5,h7⟩
 ·exact ⟨_,rfl,hn,rfl,rfl⟩
def ziK(n:Nat)(o:Option zae):Prop:=∃y,o=some y/\zoa n y
theorem ziA{n:Nat}{b:Bool}{x y:Option zae}(h1:b=true->ziK n x)(h2:b=false->ziK n y):ziK n (if b=true then x else y):=by cases b <;> simp_all
theorem zpA{x:zay}(hw:zaZ x){n:Nat}(hn:0<n)(hn2:n<=100):∃y,zcR x n=some y/\zoa n y:=by
 obtain ⟨v1,e1,l1⟩:=zf7 hw.C.i64 5 (by omega) (by omega)
 obtain ⟨v3,e3,l3⟩:=zf7 hw.Kind.i64 22 (by omega) (by omega)
 obtain ⟨rA,eA,nA,oA,kA,zA⟩:=ztB hw.A.i64
 obtain ⟨rB,eB,nB,oB,kB,zB⟩:=ztB hw.B.i64
 obtain ⟨mA,fA,gA⟩:=zr5 hw.A.i64
 obtain ⟨mB,fB,gB⟩:=zr5 hw.B.i64
 obtain ⟨pB,hB,nP,oP,zP⟩:=ztF hw.B.i64 hw.N.i64
 obtain ⟨j,ej,lj⟩:=zf7 hw.A.i64 n (by omega) (by omega)
 obtain ⟨c,ec,lc⟩:=zf7 hw.C.i64 10 (by omega) (by omega)
 have et:=zl0 (j:Int)
 have qA:=zjF gA
 have qB:=zjF gB
 obtain ⟨uA,wA⟩:=zoA gA
 obtain ⟨uB,wB⟩:=zoA gB
 have hj:j<n:=by omega
 have w2:IntKind.wrap .i64 (2+(v1:Int))=2+(v1:Int):=zbE ⟨by omega,by omega⟩
 have w1:IntKind.wrap .i64 (1+(c:Int))=1+(c:Int):=zbE ⟨by omega,by omega⟩
 have zt:(⟨#[]⟩:ByteArray).size<=3:=by decide
 have noj:∀op lk A B,op≠10->op≠11->zdz ⟨op,lk,0,A,B,⟨#[]⟩,[]⟩=false:=fun op lk A B a b=>by unfold zdz; simp [a,b]
 have mk:∀op lk A B,1<=op->op<=9->rowB ⟨op,lk,0,A,B,⟨#[]⟩,[]⟩=true->I64 A.N->I64 B.N->(memB A=true->zfu A=true)->(memB B=true->zfu B=true)->ziK n (some ⟨op,lk,0,A,B,⟨#[]⟩,[]⟩):=by
  intro op lk A B h1 h2 hr hA hB cA cB
  have hnj:=noj op lk A B (by omega) (by omega)
  refine ⟨_,rfl,⟨⟨hA,hB,zt,rfl⟩,?_,cA,cB,(fun h=>by rw [hnj] at h; cases h),fun _=>rfl⟩⟩
  refine zoK ?_ h1 (by show op<=14; omega) hr (fun h=>by rw [hnj] at h; cases h) (fun _=>rfl)
  have e11:(op==11)=false:=by simp; omega
  unfold zia
  simp [e11]
 have nm:∀{o:zal},memB o=false->memB o=true->zfu o=true:=fun h1 h2=>by rw [h1] at h2; cases h2
 have rp:∀op,1<=op->op<=7->ziK n (some ⟨op,false,0,rA,pB,⟨#[]⟩,[]⟩):=fun op a b=>mk op false rA pB a (by omega) (zp7 a b oA kA oP) nA nP (nm zA) (nm zP)
 have rm:∀op,1<=op->op<=7->ziK n (some ⟨op,false,0,rA,mB,⟨#[]⟩,[]⟩):=fun op a b=>mk op false rA mB a (by omega) (zp7 a b oA kA uB) nA qB (nm zA) (fun _=>gB)
 have mp:∀op lk,1<=op->op<=7->(lk=true->2<=op/\op<=6)->ziK n (some ⟨op,lk,0,mA,pB,⟨#[]⟩,[]⟩):=fun op lk a b h=>mk op lk mA pB a (by omega) (ztr a b uA wA oP zP h) qA nP (fun _=>gA) (nm zP)
 have m8:ziK n (some ⟨8,false,0,mA,rB,⟨#[]⟩,[]⟩):=mk 8 false mA rB (by omega) (by omega) (by unfold rowB; simp [uA,oB,wA,kB]) qA nB (fun _=>gA) (nm zB)
 have m9:ziK n (some ⟨9,true,0,mA,rB,⟨#[]⟩,[]⟩):=mk 9 true mA rB (by omega) (by omega) (by unfold rowB; simp [uA,oB,wA,kB]) qA nB (fun _=>gA) (nm zB)
 have zO:∀op cd to,10<=op->op<=14->(op=11->1<=cd/\cd<=10)->(op≠11->cd=0)->to.size<=3->(op=10\/op=11->∃k:Nat,k<n/\to=zc3 k)->(op≠10->op≠11->to=⟨#[]⟩)->ziK n (some ⟨op,false,cd,⟨0,0,0,0⟩,⟨0,0,0,0⟩,to,[]⟩):=by
  intro op cd to h1 h2 h3 h4 h5 h6 h7
  have hJ:zdz ⟨op,false,cd,⟨0,0,0,0⟩,⟨0,0,0,0⟩,to,[]⟩=true->op=10\/op=11:=fun h=>by unfold zdz at h; simpa using h
  have hN:zdz ⟨op,false,cd,⟨0,0,0,0⟩,⟨0,0,0,0⟩,to,[]⟩=false->op≠10/\op≠11:=fun h=>by unfold zdz at h; simpa using h
  refine ⟨_,rfl,⟨⟨z64,z64,h5,rfl⟩,?_,(fun h=>by cases h),(fun h=>by cases h),fun h=>h6 (hJ h),fun h=>h7 (hN h).1 (hN h).2⟩⟩
  refine zoK ?_ (by show 1<=op; omega) h2 ?_ (fun h=>?_) (fun h=>h7 (hN h).1 (hN h).2)
  ·unfold zia
   by_cases e:op=11
   ·simp [e]; exact h3 e
   ·simp [e]; exact h4 e
  ·unfold rowB
   have:(decide (op<1)||decide (op>9))=true:=by simp; omega
   simp [this,zjP]
  ·obtain ⟨k,hk,e⟩:=h6 (hJ h)
   show zbZ to=true
   rw [e]; exact zkg (by omega)
 have lsz:(zc3 (j:Int)).size<=3:=by
  obtain ⟨t,h1,h2⟩:=zlY (j:Int)
  rw [et] at h1
  obtain rfl:=Option.some.inj h1
  omega
 have g4:∀b,ziK n (zbU x v1 v3 n b):=by
  intro b
  unfold zbU zdv
  repeat' refine ziA (fun _=>?_) (fun _=>?_)
  all_goals try simp only [Option.bind_some,eA,eB,fA,fB,hB,ej,ec,et,w1,w2]
  ·exact mp (2+(v1:Int)) false (by omega) (by omega) (by simp)
  ·exact rm 7 (by omega) (by omega)
  ·exact mp 7 false (by omega) (by omega) (by simp)
  ·exact m8
  ·exact m9
  ·exact mp (2+(v1:Int)) true (by omega) (by omega) (fun _=>⟨by omega,by omega⟩)
  ·exact zO 10 0 _ (by omega) (by omega) (by omega) (by simp) lsz (fun _=>⟨j,hj,rfl⟩) (by simp)
  ·exact zO 11 (1+(c:Int)) _ (by omega) (by omega) (by omega) (by simp) lsz (fun _=>⟨j,hj,rfl⟩) (by simp)
  ·exact zO 12 0 _ (by omega) (by omega) (by omega) (by simp) zt (by omega) (by simp)
  ·exact rp 7 (by omega) (by omega)
  ·exact zO 13 0 _ (by omega) (by omega) (by omega) (by simp) zt (by omega) (by simp)
 have g3:∀b,ziK n (zbf x v3 v1 n b):=by
  intro b
  unfold zbf
  repeat' first | exact g4 _ | refine ziA (fun _=>?_) (fun _=>?_)
  all_goals try simp only [Option.bind_some,eA,eB,fA,fB,hB,ej,ec,et,w1,w2]
  all_goals first | exact g4 _ | exact mp 1 false (by omega) (by omega) (by simp) | exact rp (2+(v1:Int)) (by omega) (by omega) | exact rm (2+(v1:Int)) (by omega) (by omega)
 have g2:∀b,ziK n (zbr x v3 v1 n b):=by
  intro b
  unfold zbr
  repeat' first | exact g3 _ | refine ziA (fun _=>?_) (fun _=>?_)
  all_goals try simp only [Option.bind_some,eA,eB,fA,fB,hB,ej,ec,et,w1,w2]
  all_goals first | exact g3 _ | exact rm 1 (by omega) (by omega)
 show ziK n _
 unfold zcR
 rw [e1,e3]
 simp only [Option.bind_some]
 repeat' first | exact g2 _ | refine ziA (fun _=>?_) (fun _=>?_)
 all_goals try simp only [Option.bind_some,eA,eB,fA,fB,hB,ej,ec,et,w1,w2]
 all_goals first | exact g2 _ | exact rp 1 (by omega) (by omega)
end Go.Vs
end
section
namespace Go.Vs
open Go.Lib
local instance tabPalShowD:Tab:=⟨fun _=>none⟩
theorem zsF(p0:List (List zay))(i:Nat)(l:List zay)(hi:p0[i]?=some l)(hl:∀x∈l,zaZ x)(n:Nat)(hn:n<=l.length)(hn8:n<99) :
  ∃r,zaN (zaV (n:Int) (i:Int) p0) (0,[])=some r/\r.length=n/\∀y∈r,zoa (n+1) y:=by
 have main:∀(k j:Nat) (out:List zae),n-j=k->j<=n->out.length=j->(∀y∈out,zoa (n+1) y)->∃r,zaN (zaV (n:Int) (i:Int) p0) ((j:Int),out)=some r/\r.length=n/\∀y∈r,zoa (n+1) y:=by
  intro k
  induction k with
  | zero =>
   intro j out h1 h2 h3 h4
   obtain rfl:j=n:=by omega
   exact ⟨out,zaI (by simp only [zaV]; rw [if_neg (by simp)]),h3,h4⟩
  | succ k ih =>
   intro j out h1 h2 h3 h4
   have hx:l[j]?=some l[j]:=by rw [List.getElem?_eq_getElem]
   obtain ⟨y,e1,e2⟩:=zpA (hl l[j] (List.getElem_mem _)) (n:=n+1) (by omega) (by omega)
   have e1':zcR l[j] ((n:Int)+1)=some y:=e1
   have hst:zaV (n:Int) (i:Int) p0 ((j:Int),out)=some (.inl ((j:Int)+1,out++[y])):=by
    simp only [zaV]
    rw [if_pos (by simp; omega),if_pos (zbj hi),zb0 hi,if_pos (zbj hx),zb0 hx,wi (by omega),e1',wi (by omega)]
    simp only [Option.bind_some]
    rw [if_pos (show Fits (out.length+1) from by unfold Fits; omega)]
   obtain ⟨r,e3,e4,e5⟩:=ih (j+1) (out++[y]) (by omega) (by omega) (by simp; omega) (fun z hz=>by
    rcases List.mem_append.1 hz with h | h
    ·exact h4 z h
    ·rw [List.mem_singleton.1 h]; exact e2)
   exact ⟨r,by rw [za4 hst]; exact e3,e4,e5⟩
 exact main n 0 [] (by omega) (by omega) rfl (by intro y hy; cases hy)
def putL(m:Nat->Bool)(k:Nat)(x:zae):zae:=zae.mk x.Op x.Lock x.Cond x.A x.B x.To (if m k then [zc3 (k:Int)] else [])
def zdi(o:List zae)(m:Nat->Bool):List zae:=o.mapIdx (putL m)
theorem zfl{o m}:(zdi o m).length=o.length:=List.length_mapIdx
theorem zc8{o:List zae}{m:Nat->Bool}{k:Nat}{x:zae}(h:o[k]?=some x):(zdi o m)[k]?=some (putL m k x):=by
 unfold zdi; rw [List.getElem?_mapIdx,h]; rfl
theorem zpP{o:List zae}{m:Nat->Bool}{j:Nat}{x:zae}(h:o[j]?=some x) :
  (zdi o m).set j (zae.mk x.Op x.Lock x.Cond x.A x.B x.To [zc3 (j:Int)])=zdi o (fun k=>m k||(k==j)):=by
 refine List.ext_getElem? fun k=>?_
 rw [List.getElem?_set]
 have hlt:=(List.getElem?_eq_some_iff.1 h).1
 by_cases e:j=k
 ·subst e
  rw [if_pos rfl,if_pos (by rw [zfl]; exact hlt),zc8 h]
  simp [putL]
 ·rw [if_neg e]
  cases ho:o[k]? with
  | none=>unfold zdi; rw [List.getElem?_mapIdx,List.getElem?_mapIdx,ho]; rfl
  | some y =>
   rw [zc8 ho,zc8 ho]
   have:(k==j)=false:=by simpa using fun e2=>e e2.symm
   simp [putL,this]
theorem znr{o:List zae}{m m':Nat->Bool}(h:∀k,k<o.length->m k=m' k):zdi o m=zdi o m':=by
 refine List.ext_getElem? fun k=>?_
 cases ho:o[k]? with
 | none=>unfold zdi; rw [List.getElem?_mapIdx,List.getElem?_mapIdx,ho]; rfl
 | some y =>
  rw [zc8 ho,zc8 ho]
  have:=h k (List.getElem?_eq_some_iff.1 ho).1
  simp [putL,this]
theorem zsD(n:Nat)(hn:n<=98)(o:List zae)(ho:o.length=n+1)(i:Nat)(hi:i<n)(x:zae)(hx:o[i]?=some x):∀(k j:Nat) (m:Nat->Bool),n+1-j=k->j<=n+1 ->
  ∃m',zaN (zaT (n:Int) (i:Int)) ((j:Int),zdi o m)=some (zdi o m')/\∀q,q<=n->m' q=(m q||(decide (j<=q)&&decide (x.To=zc3 (q:Int)))):=by
 intro k
 induction k with
 | zero =>
  intro j m h1 h2
  exact ⟨m,zaI (by simp only [zaT]; rw [if_neg (by simp; omega)]),fun q hq=>by
   have:decide (j<=q)=false:=by simp; omega
   simp [this]⟩
 | succ k ih =>
  intro j m h1 h2
  have hj:j<o.length:=by omega
  obtain ⟨y,hy⟩:∃y,o[j]?=some y:=⟨_,List.getElem?_eq_getElem hj⟩
  have gx:=zc8 (m:=m) hx
  have gy:=zc8 (m:=m) hy
  have hst:zaT (n:Int) (i:Int) ((j:Int),zdi o m)=some (.inl ((j:Int)+1,zdi o (fun q=>m q||((q==j)&&decide (x.To=zc3 (j:Int)))))):=by
   simp only [zaT]
   rw [if_pos (by simp; omega),zl0]
   simp only [Option.bind_some,if_pos (zbj gx),zb0 gx,zb0 gy,zbj gy,implies_true,if_true]
   unfold zcG
   rw [wi (by omega)]
   have hTo:(putL m i x).To=x.To:=rfl
   rw [hTo]
   by_cases ht:x.To=zc3 (j:Int)
   ·have d1:decide (zc3 (j:Int)=x.To)=true:=by simp [ht]
    have d2:decide (x.To=zc3 (j:Int))=true:=by simp [ht]
    simp only [d1,d2,Bool.true_and,Bool.and_true]
    cases hm:m j
    ·have e:(((putL m j y).zLb.length:Int)==0)=true:=by simp [putL,hm]
     simp only [e,if_true]
     have:=zpP (m:=m) hy
     rw [show (j:Int).toNat=j from rfl]
     exact congrArg (fun z=>some (Sum.inl ((j:Int)+1,z))) this
    ·have e:(((putL m j y).zLb.length:Int)==0)=false:=by simp [putL,hm]
     simp only [e,Bool.false_eq_true,if_false]
     refine congrArg (fun z=>some (Sum.inl ((j:Int)+1,z))) (znr fun q hq=>?_)
     by_cases e2:q=j
     ·subst e2; simp [hm]
     ·have:(q==j)=false:=by simpa using e2
      simp [this]
   ·have d1:decide (zc3 (j:Int)=x.To)=false:=by simp; exact fun e=>ht e.symm
    have d2:decide (x.To=zc3 (j:Int))=false:=by simpa using ht
    simp only [d1,d2,Bool.false_and,Bool.and_false,Bool.or_false,Bool.false_eq_true,if_false]
  obtain ⟨m',e3,e4⟩:=ih (j+1) _ (by omega) (by omega)
  refine ⟨m',by rw [za4 hst]; exact e3,fun q hq=>?_⟩
  rw [e4 q hq]
  by_cases e2:q=j
  ·subst e2
   have a1:decide (q+1<=q)=false:=by simp
   have a2:decide (q<=q)=true:=by simp
   simp [a1,a2]
  ·have a0:(q==j)=false:=by simpa using e2
   have a1:decide (j+1<=q)=decide (j<=q):=by
    by_cases h:j<=q
    ·simp [h]; omega
    ·simp [h]; omega
   simp [a0,a1]
theorem zsb(q:Int):¬zc3 q=⟨#[]⟩:=by
 intro h
 have h1:(zc3 q).size=3:=by
  obtain ⟨t,h1,h2⟩:=zlY q
  rw [zl0] at h1
  obtain rfl:=Option.some.inj h1
  exact h2
 rw [h] at h1
 exact absurd h1 (by decide)
def Hit(o:List zae)(n j q:Nat):Prop:=∃(i:Nat) (x:zae),j<=i/\i<n/\o[i]?=some x/\x.To=zc3 (q:Int)
theorem zsE(n:Nat)(hn:n<=98)(o:List zae)(ho:o.length=n+1):∀(k j:Nat) (m:Nat->Bool),n-j=k->j<=n ->
  ∃m',zaN (zaU (n:Int)) ((j:Int),zdi o m)=some (zdi o m')/\∀q,q<=n->(m' q=true ↔ m q=true\/Hit o n j q):=by
 intro k
 induction k with
 | zero =>
  intro j m h1 h2
  refine ⟨m,zaI (by simp only [zaU]; rw [if_neg (by simp; omega)]),fun q hq=>⟨.inl,fun h=>h.elim id fun ⟨i,x,a,b,_⟩=>by omega⟩⟩
 | succ k ih =>
  intro j m h1 h2
  obtain ⟨x,hx⟩:∃x,o[j]?=some x:=⟨_,List.getElem?_eq_getElem (by omega)⟩
  have gx:=zc8 (m:=m) hx
  have hst:∃m1,zaU (n:Int) ((j:Int),zdi o m)=some (.inl ((j:Int)+1,zdi o m1))/\∀q,q<=n->(m1 q=true ↔ m q=true\/x.To=zc3 (q:Int)):=by
   simp only [zaU]
   rw [if_pos (by simp; omega),if_pos (zbj gx),zb0 gx]
   unfold zcH
   rw [wi (by omega)]
   have hTo:(putL m j x).To=x.To:=rfl
   rw [hTo]
   by_cases he:x.To=⟨#[]⟩
   ·rw [if_pos (by simpa using he)]
    exact ⟨m,rfl,fun q _=>⟨.inl,fun h=>h.elim id fun h=>absurd (h.symm.trans he) (zsb _)⟩⟩
   ·rw [if_neg (by simpa using he)]
    obtain ⟨m',e1,e2⟩:=zsD n hn o ho j (by omega) x hx (n+1) 0 m (by omega) (by omega)
    have e0:zaN (zaT (n:Int) (j:Int)) (0,zdi o m)=some (zdi o m'):=e1
    rw [e0]
    refine ⟨m',rfl,fun q hq=>?_⟩
    rw [e2 q hq]
    simp
  obtain ⟨m1,e3,e4⟩:=hst
  obtain ⟨m',e5,e6⟩:=ih (j+1) m1 (by omega) (by omega)
  refine ⟨m',by rw [za4 e3]; exact e5,fun q hq=>?_⟩
  rw [e6 q hq,e4 q hq]
  constructor
  ·rintro ((h | h) | ⟨i,y,a,b,c,d⟩)
   ·exact .inl h
   ·exact .inr ⟨j,x,Nat.le_refl _,by omega,hx,h⟩
   ·exact .inr ⟨i,y,by omega,b,c,d⟩
  ·rintro (h | ⟨i,y,a,b,c,d⟩)
   ·exact .inl (.inl h)
   ·by_cases e:i=j
    ·subst e
     rw [hx] at c
     obtain rfl:=Option.some.inj c
     exact .inl (.inr d)
    ·exact .inr ⟨i,y,by omega,b,c,d⟩
end Go.Vs
end
section
namespace Go.Vs
open Go.Lib
local instance tabPalShowE:Tab:=⟨fun _=>none⟩
theorem zqW(m:Nat->Bool)(k:Nat)(y:zae):insN (putL m k y)=insN y:=rfl
theorem zla{p:zag}(hp:p.zSy=zdY){o:zal}(h:memB o=true->zfu o=true):zdA p o=0:=by
 unfold zdA
 cases hm:memB o
 ·rfl
 ·have hc:=h hm
  unfold zfu at hc
  simp only [Bool.and_eq_true,decide_eq_true_eq] at hc
  obtain ⟨_,h0,h2,h3,h4,h5⟩:=hc
  rw [hp]
  have e3:((zdY.length:Nat):Int)=3:=rfl
  rw [e3]
  have d1:decide (o.Sym≥3)=false:=by simp; omega
  simp only [Bool.not_true,Bool.false_eq_true,if_false,d1]
  by_cases hk:o.Kind=3
  ·have hs:(rd zdY o.Sym).Size=rd [1,2,1] o.Sym:=by
    have:o.Sym=0\/o.Sym=1\/o.Sym=2:=by omega
    rcases this with e | e | e <;> rw [e] <;> rfl
   have:=h5 hk
   rw [hs]
   have d2:decide (o.N≥rd [1,2,1] o.Sym)=false:=by simp; omega
   simp [d2]
  ·have:(o.Kind==3)=false:=by simpa using hk
   simp [this]
theorem zsf(p:zag)(hp:p.zSy=zdY)(o:List zae)(ho:o.length<=100)(m:Nat->Bool)(hy:∀y∈o,insN y=0/\(memB y.A=true->zfu y.A=true)/\(memB y.B=true->zfu y.B=true)) :
  ∀(k j:Nat) (L:List ByteArray),o.length-j=k->j<=o.length->(∀s∈L,∃q:Nat,q<j/\s=zc3 (q:Int))->∃L',za9 (insF p) (Sum.inl:List ByteArray->List ByteArray ⊕ Int) j L ((zdi o m).drop j)=.inl L':=by
 intro k
 induction k with
 | zero =>
  intro j L h1 h2 h3
  rw [List.drop_eq_nil_of_le (by rw [zfl]; omega)]
  exact ⟨L,rfl⟩
 | succ k ih =>
  intro j L h1 h2 h3
  have hj:j<o.length:=by omega
  have hyj:o[j]?=some o[j]:=List.getElem?_eq_getElem hj
  have g:=zc8 (m:=m) hyj
  have hd:(zdi o m).drop j=putL m j o[j]::(zdi o m).drop (j+1):=by
   rw [List.drop_eq_getElem_cons (by rw [zfl]; exact hj)]
   congr 1
   exact (List.getElem?_eq_some_iff.1 g).2
  rw [hd]
  obtain ⟨z,cA,cB⟩:=hy o[j] (List.getElem_mem _)
  have hl:zm0 L (putL m j o[j]).zLb=.inl (if m j then L++[zc3 (j:Int)] else L):=by
   unfold putL zm0
   cases hm:m j
   ·rfl
   ·have hn:has L (zc3 (j:Int))=false:=by
     rw [ztZ]
     intro hmem
     obtain ⟨q,hq,e⟩:=h3 _ hmem
     have:=zqQ (by omega) (by omega) e
     omega
    simp [za9,labF,zkg (show j<100 by omega),hn]
  have hf:insF p j L (putL m j o[j])=.inl (if m j then L++[zc3 (j:Int)] else L):=by
   unfold insF
   rw [hl]
   simp only [zqW,z]
   have pA:zdA p (putL m j o[j]).A=0:=zla hp cA
   have pB:zdA p (putL m j o[j]).B=0:=zla hp cB
   rw [pA,pB]
   rfl
  simp only [za9,hf]
  refine ih (j+1) _ (by omega) (by omega) fun s hs=>?_
  split at hs
  ·rcases List.mem_append.1 hs with h | h
   ·obtain ⟨q,a,b⟩:=h3 s h; exact ⟨q,by omega,b⟩
   ·exact ⟨j,by omega,List.mem_singleton.1 h⟩
  ·obtain ⟨q,a,b⟩:=h3 s hs; exact ⟨q,by omega,b⟩
theorem zl9:∀(xs:List zae) (k:Nat) (a:Int),za9 (fun _ (n:Int) (x:zae)=>if (x.Op != 12)=true then .inl (n+1) else .inl n) (fun n=>n) k a xs<=a+xs.length
 | [],k,a=>by simp [za9]
 | x::xs,k,a=>by
  simp only [za9]
  by_cases h:(x.Op != 12)=true
  ·simp only [h,if_true]
   have:=zl9 xs (k+1) (a+1)
   simp only [List.length_cons]; omega
  ·simp only [h,if_false]
   have:=zl9 xs (k+1) a
   simp only [List.length_cons]
   simp only [Bool.false_eq_true,if_false]
   omega
theorem zqO(L:List ByteArray):∀(xs:List zae) (k:Nat),(∀x∈xs,zdz x=true->has L x.To=true)->za9 (zke L) (Sum.inl:Unit->Unit ⊕ Int) k () xs=.inl ()
 | [],k,_=>rfl
 | x::xs,k,h=>by
  have hx:zke L k () x=.inl ():=by
   unfold zke
   cases hj:zdz x
   ·rfl
   ·rw [h x (List.mem_cons_self ..) hj]; rfl
  simp only [za9,hx]
  exact zqO L xs (k+1) fun y hy=>h y (List.mem_cons_of_mem _ hy)
def hltI:zae:=zae.mk 14 false 0 (zal.mk 0 0 0 0) (zal.mk 0 0 0 0) (⟨#[]⟩:ByteArray) ([])
theorem znt(p:zag)(hp:p.zSy=zdY)(r:List zae)(n:Nat)(hr:r.length=n)(hn:n<=98)(hy:∀y∈r,zoa (n+1) y)(m:Nat->Bool)(hm:∀q,q<=n->Hit (r++[hltI]) n 0 q->m q=true) :
  ze5 p ⟨zdi (r++[hltI]) m⟩=0:=by
 have hlen:(zdi (r++[hltI]) m).length=n+1:=by rw [zfl]; simp [hr]
 unfold ze5
 have hc:decide (zjl ⟨zdi (r++[hltI]) m⟩>4096)=false:=by
  have:=zl9 (zdi (r++[hltI]) m) 0 0
  rw [hlen] at this
  have h2:zjl ⟨zdi (r++[hltI]) m⟩<=0+((n+1:Nat):Int):=this
  simp; omega
 rw [hc]
 obtain ⟨L,hL⟩:=zsf p hp (r++[hltI]) (by simp; omega) m (fun y h=>by
  rcases List.mem_append.1 h with h | h
  ·exact ⟨(hy y h).z,(hy y h).pA,(hy y h).pB⟩
  ·rw [List.mem_singleton.1 h]; exact ⟨by decide +kernel,by decide,by decide⟩) _ 0 [] rfl (by omega) (by intro s hs; cases hs)
 rw [List.drop_zero] at hL
 simp only [Bool.false_eq_true,if_false]
 rw [hL]
 obtain ⟨hL2,_⟩:=zkl _ _ _ _ hL
 have hlast:zgN ⟨zdi (r++[hltI]) m⟩=14:=by
  unfold zgN
  have:(zdi (r++[hltI]) m)[n]?=some (putL m n hltI):=zc8 (by simp [← hr])
  have e:(((zdi (r++[hltI]) m).length:Nat):Int)-1=(n:Int):=by rw [hlen]; omega
  show (rd (zdi (r++[hltI]) m) (((zdi (r++[hltI]) m).length:Int)-1)).Op=14
  rw [e,zb0 this]; rfl
 have h0:(((zdi (r++[hltI]) m).length:Int)==0)=false:=by rw [hlen]; simp; omega
 simp only [hlast,h0]
 rw [zqO L _ 0 fun x hx hj=>?_]
 ·rfl
 ·obtain ⟨k,hk⟩:=List.mem_iff_getElem?.1 hx
  have hk2:k<(r++[hltI]).length:=by have:=(List.getElem?_eq_some_iff.1 hk).1; rw [zfl] at this; exact this
  obtain ⟨y,hyk⟩:∃y,(r++[hltI])[k]?=some y:=⟨_,List.getElem?_eq_getElem hk2⟩
  rw [zc8 hyk] at hk
  obtain rfl:=Option.some.inj hk
  have hj2:zdz y=true:=hj
  by_cases hkn:k<n
  ·have hyr:r[k]?=some y:=by rw [List.getElem?_append_left (by omega)] at hyk; exact hyk
   obtain ⟨q,hq,hto⟩:=(hy y (List.mem_of_getElem? hyr)).j hj2
   have hmq:=hm q (by omega) ⟨k,y,Nat.zero_le _,hkn,hyk,hto⟩
   rw [zq3,hL2,List.nil_append,List.mem_flatMap]
   obtain ⟨z,hz⟩:∃z,(r++[hltI])[q]?=some z:=⟨_,List.getElem?_eq_getElem (by simp; omega)⟩
   refine ⟨putL m q z,List.mem_of_getElem? (zc8 hz),?_⟩
   show y.To∈(if m q then [zc3 (q:Int)] else [])
   rw [hmq,hto]; simp
  ·have:k=r.length:=by simp at hk2; omega
   subst this
   rw [List.getElem?_append_right (Nat.le_refl _),Nat.sub_self] at hyk
   obtain rfl:=Option.some.inj hyk
   exact absurd hj2 (by decide)
end Go.Vs
end
section
namespace Go.Vs
open Go.Lib
local instance tabPalShowF:Tab:=⟨fun _=>none⟩
def zpI(t:zad):Prop:=∃(r:List zae) (n:Nat) (m:Nat->Bool),r.length=n/\n<=98/\(∀y∈r,zoa (n+1) y)/\(∀q,q<=n->(m q=true ↔ Hit (r++[hltI]) n 0 q))/\t=⟨zdi (r++[hltI]) m⟩
theorem zo3{o:List zae}(h:∀y∈o,y.zLb=[]):zdi o (fun _=>false)=o:=by
 refine List.ext_getElem? fun k=>?_
 cases ho:o[k]? with
 | none=>unfold zdi; rw [List.getElem?_mapIdx,ho]; rfl
 | some y =>
  rw [zc8 ho]
  have:=h y (List.mem_of_getElem? ho)
  congr 1
  unfold putL
  simp only [Bool.false_eq_true,if_false]
  rw [← this]
theorem zsG(p0:List (List zay))(hw:∀l∈p0,∀x∈l,zaZ x)(p1 p2:Nat)(h1:p1<=60)(h2:p2<=90) :
  ∃r,zaN (zaO p0 (p1:Int) (p2:Int)) (0,[])=some r/\r.length<=p1/\∀t∈r,zpI t/\t.Ins.length<=p2+1:=by
 have main:∀(k j:Nat) (out:List zad),p1-j=k->j<=p1->out.length=j->(∀y∈out,zpI y/\y.Ins.length<=p2+1)->∃r,zaN (zaO p0 (p1:Int) (p2:Int)) ((j:Int),out)=some r/\r.length<=p1/\∀y∈r,zpI y/\y.Ins.length<=p2+1:=by
  intro k
  induction k with
  | zero =>
   intro j out q1 q2 q3 q4
   exact ⟨out,zaI (by simp only [zaO]; rw [if_neg (by simp; omega)]),by omega,q4⟩
  | succ k ih =>
   intro j out q1 q2 q3 q4
   by_cases hj:j<p0.length
   ·have hx:p0[j]?=some p0[j]:=by rw [List.getElem?_eq_getElem]
    obtain ⟨n,hn,hn1,hn2⟩:∃n:Nat,(if (p2:Int)<(p0[j].length:Int) then (p2:Int) else (p0[j].length:Int))=(n:Int)/\n<=p0[j].length/\n<=p2:=by
     split
     ·exact ⟨p2,rfl,by omega,Nat.le_refl _⟩
     ·exact ⟨p0[j].length,rfl,Nat.le_refl _,by omega⟩
    obtain ⟨r,e1,e2,e3⟩:=zsF p0 j p0[j] hx (hw _ (List.getElem_mem _)) n hn1 (by omega)
    obtain ⟨m,e4,e5⟩:=zsE n (by omega) (r++[hltI]) (by simp [e2]) n 0 (fun _=>false) (by omega) (by omega)
    rw [zo3 (fun y hy=>by
     rcases List.mem_append.1 hy with h | h
     ·exact (e3 y h).lab
     ·rw [List.mem_singleton.1 h]; rfl)] at e4
    have e7:zaN (zaU (n:Int)) (0,(r++[zae.mk 14 false 0 (zal.mk 0 0 0 0) (zal.mk 0 0 0 0) (⟨#[]⟩:ByteArray) ([])]))=some (zdi (r++[hltI]) m):=e4
    have hst:zaO p0 (p1:Int) (p2:Int) ((j:Int),out)=some (.inl ((j:Int)+1,out++[zad.mk (zdi (r++[hltI]) m)])):=by
     simp only [zaO]
     rw [if_pos (by simp; omega),if_pos (zbj hx),zb0 hx,hn]
     simp only [Option.bind_some]
     rw [e1]
     simp only [Option.bind_some]
     rw [if_pos (show Fits (r.length+1) from by unfold Fits; omega),e7]
     simp only [Option.bind_some]
     rw [if_pos (show Fits (out.length+1) from by unfold Fits; omega),wi (by omega)]
    obtain ⟨r3,e8,e9,e10⟩:=ih (j+1) (out++[zad.mk (zdi (r++[hltI]) m)]) (by omega) (by omega) (by simp; omega) (fun t ht=>by
     rcases List.mem_append.1 ht with h | h
     ·exact q4 t h
     ·rw [List.mem_singleton.1 h]
      exact ⟨⟨r,n,m,e2,by omega,e3,fun q hq=>by rw [e5 q hq]; simp,rfl⟩,by show (zdi (r++[hltI]) m).length<=_; rw [zfl,List.length_append,e2]; simp; omega⟩)
    exact ⟨r3,by rw [za4 hst]; exact e8,e9,e10⟩
   ·exact ⟨out,zaI (by simp only [zaO]; rw [if_neg (by simp; omega)]),by omega,q4⟩
 exact main p1 0 [] (by omega) (by omega) rfl (by intro y hy; cases hy)
theorem zrH:za9 symF (fun _=>(.inl ():Unit ⊕ Int)) 0 [] zdY=.inl ():=by decide +kernel
theorem zpU(p:zag):∀(ts:List zad) (k:Nat),(∀t∈ts,ze5 p t=0)->za9 (thF p) (Sum.inl:Unit->Unit ⊕ Int) k () ts=.inl ()
 | [],k,_=>rfl
 | t::ts,k,h=>by
  have:thF p k () t=.inl ():=by unfold thF; rw [h t (List.mem_cons_self ..)]; rfl
  simp only [za9,this]
  exact zpU p ts (k+1) fun y hy=>h y (List.mem_cons_of_mem _ hy)
theorem zpz(p0:List (List zay))(hw:∀l∈p0,∀x∈l,zaZ x)(p1 p2:Nat)(h1:p1<=60)(h2:p2<=90) :
  ∃p,zbC p0 (p1:Int) (p2:Int)=some p/\p.zSy=zdY/\(∀t∈p.zTh,zpI t)/\p.zTh.length<=p1/\zgp p=0/\(∀t∈p.zTh,t.Ins.length<=p2+1):=by
 obtain ⟨r,e1,e2,e3⟩:=zsG p0 hw p1 p2 h1 h2
 refine ⟨⟨zdY,r⟩,?_,rfl,fun t ht=>(e3 t ht).1,e2,?_,fun t ht=>(e3 t ht).2⟩
 ·unfold zbC
  rw [e1]; rfl
 ·unfold zgp
  have d:(decide (((zdY.length:Nat):Int)>64)||decide ((r.length:Int)>64))=false:=by
   have:decide ((r.length:Int)>64)=false:=by simp; omega
   rw [this]; rfl
  simp only [d,Bool.false_eq_true,if_false,zrH]
  rw [zpU ⟨zdY,r⟩ r 0 fun t ht=>?_]
  obtain ⟨r',n,m,q1,q2,q3,q4,rfl⟩:=(e3 t ht).1
  exact znt _ rfl r' n q1 q2 q3 m (fun q hq=>(q4 q hq).2)
end Go.Vs
end
