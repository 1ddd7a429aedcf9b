import Derived.Test.YtocjejladeeckaaGreatDoorPalT
import Derived.Test.YtocjejladeeckaaGreatDoorPS0
import Derived.Test.YtocjejladeeckaaGreatDoorPalNum
import Derived.Test.YtocjejladeeckaaGreatDoorPalF
set_option linter.all false
section
end
section
namespace Go.Vs
end Go.Vs
end
section
namespace Go.Vs
open Go.Lib
local instance tabPalShow7:Tab:=⟨fun _=>none⟩
theorem zfZ{α β σ R:Type}(l:List α)(mk:Int->β->σ)(step:σ->Option (σ ⊕ R))(g:β->α->β)(fin:β->R)(sz:β->Nat)(B C:Nat)(a0:β)(h0:sz a0<=B)(hg:∀a x,x∈l->sz (g a x)<=sz a+C)
  (h1:∀(i:Nat) x,l[i]?=some x->∀a,sz a<=B+i * C->step (mk (i:Int) a)=some (.inl (mk ((i:Int)+1) (g a x)))) (h2:∀a,step (mk (l.length:Int) a)=some (.inr (fin a))) :
  zaP step (mk 0 a0)=some (fin (l.foldl g a0)):=by
 have:=zdc l mk step (fun _ a x=>.inl (g a x)) fin (fun i a=>sz a<=B+i * C) (fun i x hx a ha=>⟨h1 i x hx a ha,fun a' e=>by
  obtain rfl:=Sum.inl.inj e
  have:=hg a x (List.mem_of_getElem? hx)
  rw [Nat.add_mul]; omega⟩) (fun a _=>h2 a) a0 (by omega)
 rw [this]
 congr 1
 generalize (0:Nat)=k
 clear this h0 h1 h2 hg
 induction l generalizing a0 k with
 | nil=>rfl
 | cons x l ih=>exact ih _ _
theorem zfD{α:Type}(g:ByteArray->α->ByteArray)(C:Nat):∀(l:List α) (hg:∀a x,x∈l->(g a x).size<=a.size+C) (a:ByteArray),(l.foldl g a).size<=a.size+l.length * C
 | [],_,a=>by simp
 | x::l,hg,a=>by
  have h1:=zfD g C l (fun a y hy=>hg a y (List.mem_cons_of_mem _ hy)) (g a x)
  have h2:=hg a x (List.mem_cons_self ..)
  simp only [List.foldl_cons,List.length_cons,Nat.add_mul]
  omega
def zlj(a:ByteArray)(v:Int):ByteArray:=a++((⟨#[32]⟩:ByteArray)++zfs v)
def zhB(s:zam):ByteArray:=(((⟨#[115,121,109,32]⟩:ByteArray)++s.Name)++(⟨#[32]⟩:ByteArray))++zfs s.Size
def symT(a:ByteArray)(s:zam):ByteArray:=(s.Init.foldl zlj (a++zhB s))++(⟨#[10]⟩:ByteArray)
def labT(a:ByteArray)(s:ByteArray):ByteArray:=a++(s++(⟨#[58,10]⟩:ByteArray))
def zjX(syms:List ByteArray)(a:ByteArray)(x:zae):ByteArray:=(x.zLb.foldl labT a)++(((⟨#[9]⟩:ByteArray)++insT x syms)++(⟨#[10]⟩:ByteArray))
def thT(syms:List ByteArray)(a:ByteArray)(t:zad):ByteArray:=t.Ins.foldl (zjX syms) (a++(⟨#[116,104,114,101,97,100,10]⟩:ByteArray))
def zc3(p:zaj):List ByteArray:=p.zSy.map (·.Name)
def zgO(p:zaj):ByteArray:=if zhs p != 0 then ⟨#[]⟩ else p.zTh.foldl (thT (zc3 p)) (p.zSy.foldl symT ⟨#[]⟩)
section sizes
theorem z1:(⟨#[32]⟩:ByteArray).size=1:=rfl
theorem z2:(⟨#[10]⟩:ByteArray).size=1:=rfl
theorem z3:(⟨#[115,121,109,32]⟩:ByteArray).size=4:=rfl
theorem z4:(⟨#[58,10]⟩:ByteArray).size=2:=rfl
theorem z5:(⟨#[9]⟩:ByteArray).size=1:=rfl
theorem z6:(⟨#[116,104,114,101,97,100,10]⟩:ByteArray).size=7:=rfl
theorem z7:(⟨#[]⟩:ByteArray).size=0:=rfl
theorem z8:(⟨#[91]⟩:ByteArray).size=1:=rfl
theorem z9:(⟨#[93]⟩:ByteArray).size=1:=rfl
theorem z10:(⟨#[108,111,99,107,32]⟩:ByteArray).size=5:=rfl
theorem z11:(⟨#[44,32]⟩:ByteArray).size=2:=rfl
theorem zlK{a:ByteArray}{v:Int}(h:I64 v):(zlj a v).size<=a.size+22:=by
 have:=zfd h
 unfold zlj; simp only [zbw,z1]; omega
theorem zjE{s:zam}(h:zp5 s):(zhB s).size<=1026:=by
 have:=zfd h.size
 have:=h.name
 unfold zhB; simp only [zbw,z1,z3]; omega
theorem zlJ{s:zam}(h:zp5 s)(a:ByteArray):(s.Init.foldl zlj a).size<=a.size+2200:=by
 have:=zfD zlj 22 s.Init (fun a x hx=>zlK (h.init x hx)) a
 have:=h.n
 have:s.Init.length * 22<=100 * 22:=Nat.mul_le_mul_right _ h.n
 omega
theorem zmL{s:zam}(h:zp5 s)(a:ByteArray):(symT a s).size<=a.size+3300:=by
 have h1:=zlJ h (a++zhB s)
 have h2:=zjE h
 unfold symT; simp only [zbw,z2] at h1 ⊢; omega
def znM(syms:List ByteArray):Prop:=∀s∈syms,s.size<=1000
theorem znM.syms{syms}(h:znM syms):zSy syms:=fun s hs=>by have:=h s hs; omega
theorem zlD(o:zap)(syms:List ByteArray)(hn:I64 o.N)(hs:znM syms):(opdT o syms).size<=1023:=by
 have hz:=zfd hn
 have hy:=ziy hs o.Sym
 have hr:=ziQ o.Reg
 unfold opdT
 split
 ·rw [z7]; omega
 split
 ·omega
 split
 ·omega
 split
 ·rw [z7]; omega
 split <;> simp only [zbw,z8,z9] <;> omega
theorem znu(x:zae)(syms:List ByteArray)(hx:zmB x)(hs:znM syms):(insT x syms).size<=2100:=by
 have ha:=zlD x.A syms hx.a hs
 have hb:=zlD x.B syms hx.b hs
 have ho:=zl9 x.Op x.Cond
 have ht:=hx.to1
 have hS:(if x.Lock then (⟨#[108,111,99,107,32]⟩:ByteArray)++opT x.Op x.Cond else opT x.Op x.Cond).size<=15:=by
  split
  ·rw [zbw,z10]; omega
  ·omega
 unfold insT
 split
 ·rw [z7]; omega
 simp only
 generalize (if x.Lock then (⟨#[108,111,99,107,32]⟩:ByteArray)++opT x.Op x.Cond else opT x.Op x.Cond)=S at hS ⊢
 split
 ·simp only [zbw,z1]; omega
 split
 ·omega
 split
 ·rw [z7]; omega
 ·simp only [zbw,z1,z11]; omega
theorem znn{x:zae}(h:zmB x)(a:ByteArray):(x.zLb.foldl labT a).size<=a.size+100200:=by
 have:=zfD labT 1002 x.zLb (fun a s hs=>by have:=h.lab s hs; unfold labT; simp only [zbw,z4]; omega) a
 have:x.zLb.length * 1002<=100 * 1002:=Nat.mul_le_mul_right _ h.n
 omega
theorem zlF{syms:List ByteArray}(hs:znM syms){x:zae}(h:zmB x)(a:ByteArray):(zjX syms a x).size<=a.size+102400:=by
 have h1:=znn h a
 have h2:=znu x syms h hs
 unfold zjX; simp only [zbw,z2,z5]; omega
theorem zr5{syms:List ByteArray}(hs:znM syms){t:zad}(h:ThOk t)(a:ByteArray):(thT syms a t).size<=a.size+10241000:=by
 unfold thT
 have:=zfD (zjX syms) 102400 t.Ins (fun a x hx=>zlF hs (h.ins x hx) a) (a++(⟨#[116,104,114,101,97,100,10]⟩:ByteArray))
 have:t.Ins.length * 102400<=100 * 102400:=Nat.mul_le_mul_right _ h.n
 simp only [zbw,z6] at *; omega
theorem znV{p:zaj}(h:zjS p):znM (zc3 p):=by
 intro s hs
 obtain ⟨y,hy,rfl⟩:=List.mem_map.1 hs
 exact (h.sym y hy).name
end sizes
theorem catB{a b:ByteArray}(h:a.size+b.size<=5000000000):zb2 a b:=by unfold zb2; omega
end Go.Vs
end
section
namespace Go.Vs
open Go.Lib
local instance tabPalShow8:Tab:=⟨fun _=>none⟩
theorem zn3(p:zaj)(i:Nat)(s:zam)(hx:p.zSy[i]?=some s)(hk:zp5 s)(a:ByteArray)(ha:a.size<=2000000):zaP (zcA i p) (a,0)=some (s.Init.foldl zlj a):=by
 have hn:=hk.n
 refine zfZ s.Init (fun i (a:ByteArray)=>(a,i)) (zcA i p) zlj id (·.size) 2000000 22 a ha (fun a x hx=>zlK (hk.init x hx)) (fun j v hv b hb=>?_) (fun b=>?_)
 ·have hj:j<=1000:=by have:=(List.getElem?_eq_some_iff.1 hv).1; omega
  have hz:=zfd (hk.init v (List.mem_of_getElem? hv))
  simp only [zcA]
  simp only [zcd hx,if_pos (zbj hx)]
  rw [if_pos (zfO hv),if_pos (zbj hv),zcd hv,zfm _ (hk.init v (List.mem_of_getElem? hv)),wi (by omega)]
  simp only [Option.bind_some]
  rw [if_pos (catB (by rw [z1]; omega)),if_pos (catB (by rw [zbw,z1]; omega))]
  rfl
 ·simp only [zcA,zcd hx,if_pos (zbj hx)]
  rw [if_neg (by simp)]; rfl
theorem zpz(p:zaj)(hp:zjS p):zaP (zcB p) ((⟨#[]⟩:ByteArray),0)=some (p.zSy.foldl symT ⟨#[]⟩):=by
 have hn:=hp.ns
 refine zfZ p.zSy (fun i (b:ByteArray)=>(b,i)) (zcB p) symT id (·.size) 0 3300 ⟨#[]⟩ (by simp [z7])
  (fun b s hs=>zmL (hp.sym s hs) b) (fun j s hs b hb=>?_) (fun b=>?_)
 ·have hj:j<=100:=by have:=(List.getElem?_eq_some_iff.1 hs).1; omega
  have hj2:j * 3300<=100 * 3300:=Nat.mul_le_mul_right _ hj
  have hk:=hp.sym s (List.mem_of_getElem? hs)
  have hz:=zfd hk.size
  have hm:=hk.name
  have hh:=zjE hk
  have hin:=zlJ hk (b++zhB s)
  try simp only at hb
  simp only [zcB]
  simp only [if_pos (zfO hs),if_pos (zbj hs),zcd hs]
  rw [zfm _ hk.size,wi (by omega)]
  simp only [Option.bind_some]
  have c1:zb2 (⟨#[115,121,109,32]⟩:ByteArray) s.Name:=catB (by rw [z3]; omega)
  have c2:zb2 ((⟨#[115,121,109,32]⟩:ByteArray)++s.Name) (⟨#[32]⟩:ByteArray):=catB (by rw [zbw,z3,z1]; omega)
  have c3:zb2 (((⟨#[115,121,109,32]⟩:ByteArray)++s.Name)++(⟨#[32]⟩:ByteArray)) (zfs s.Size):=catB (by rw [zbw,zbw,z3,z1]; omega)
  simp only [if_pos c1,if_pos c2,if_pos c3]
  have e:((((⟨#[115,121,109,32]⟩:ByteArray)++s.Name)++(⟨#[32]⟩:ByteArray))++zfs s.Size)=zhB s:=rfl
  rw [e,if_pos (catB (show b.size+(zhB s).size<=_ by omega))]
  rw [zn3 p j s hs hk _ (by rw [zbw]; omega)]
  simp only [Option.bind_some]
  rw [if_pos (catB (by rw [zbw] at hin; rw [z2]; omega))]
  rfl
 ·simp only [zcB]
  rw [if_neg (by simp)]; rfl
theorem zpA(x:zae)(hk:zmB x)(a:ByteArray)(ha:a.size<=2000000000):zaP (zcy x.zLb) (a,0)=some (x.zLb.foldl labT a):=by
 have hn:=hk.n
 refine zfZ x.zLb (fun i (a:ByteArray)=>(a,i)) (zcy x.zLb) labT id (·.size) 2000000000 1002 a ha (fun a s hs=>by have:=hk.lab s hs; unfold labT; simp only [zbw,z4]; omega) (fun j s hs b hb=>?_) (fun b=>?_)
 ·have hj:j<=100:=by have:=(List.getElem?_eq_some_iff.1 hs).1; omega
  have hj2:j * 1002<=100 * 1002:=Nat.mul_le_mul_right _ hj
  have hz:=hk.lab s (List.mem_of_getElem? hs)
  simp only [zcy]
  rw [if_pos (zfO hs),if_pos (zbj hs),zcd hs,wi (by omega),if_pos (catB (by rw [z4]; omega)),if_pos (catB (by rw [zbw,z4]; omega))]
  rfl
 ·simp only [zcy]
  rw [if_neg (by simp)]; rfl
theorem zn2(p:zaj)(i:Nat)(t:zad)(hx:p.zTh[i]?=some t)(hk:ThOk t)(syms:List ByteArray)(hq:znM syms)(a:ByteArray)(ha:a.size<=1500000000) :
  zaP (zcz i p syms) (a,0)=some (t.Ins.foldl (zjX syms) a):=by
 have hn:=hk.n
 refine zfZ t.Ins (fun i (a:ByteArray)=>(a,i)) (zcz i p syms) (zjX syms) id (·.size) 1500000000 102400 a ha (fun a x hx=>zlF hq (hk.ins x hx) a) (fun j x hs b hb=>?_) (fun b=>?_)
 ·have hj:j<=100:=by have:=(List.getElem?_eq_some_iff.1 hs).1; omega
  have hj2:j * 102400<=100 * 102400:=Nat.mul_le_mul_right _ hj
  have hl:=hk.ins x (List.mem_of_getElem? hs)
  have hz:=znu x syms hl hq
  have hls:=znn hl b
  try simp only at hb
  simp only [zcz]
  simp only [zcd hx,if_pos (zbj hx)]
  rw [if_pos (zfO hs),if_pos (zbj hs)]
  simp only [zcd hs,Option.bind_some]
  have eta:zae.mk x.Op x.Lock x.Cond x.A x.B x.To x.zLb=x:=rfl
  rw [eta,zpA x hl b (by omega),zk7 x syms hl.toInsOk hq.syms,wi (by omega)]
  simp only [Option.bind_some]
  rw [if_pos (catB (by rw [z5]; omega)),if_pos (catB (by rw [zbw,z5,z2]; omega)),if_pos (catB (by simp only [zbw,z5,z2]; omega))]
  rfl
 ·simp only [zcz,zcd hx,if_pos (zbj hx)]
  rw [if_neg (by simp)]; rfl
theorem zhD(p:zaj)(hn:p.zSy.length<=1000000):zdB p=some (zc3 p):=by
 unfold zdB
 have:=zfZ p.zSy (fun i (b:List ByteArray)=>(i,b)) (zcc p) (fun b s=>b++[s.Name]) id (·.length) 0 1 [] (by simp) (fun b s hs=>by simp) (fun j s hs b hb=>?_) (fun b=>?_)
 ·rw [this]
  simp only [Option.bind_some,id]
  have key:∀(l:List zam) (L:List ByteArray),l.foldl (fun b s=>b++[s.Name]) L=L++l.map (·.Name):=by
   intro l
   induction l with
   | nil=>intro L; simp
   | cons s l ih=>intro L; simp only [List.foldl_cons]; rw [ih]; simp
  rw [key]; rfl
 ·have hj:j<1000000:=by have:=(List.getElem?_eq_some_iff.1 hs).1; omega
  simp only [zcc]
  rw [if_pos (zfO hs),if_pos (zbj hs),zcd hs,wi (by omega),if_pos (show Fits (b.length+1) from by unfold Fits; omega)]
  rfl
 ·simp only [zcc]
  rw [if_neg (by simp)]; rfl
theorem zn8(p:zaj)(hp:zjS p):zdC p=some (zgO p):=by
 have hn:=hp.nt
 have hnm:=znV hp
 have hns:=hp.ns
 unfold zdC zgO
 rw [zm1 p hp]
 simp only [Option.bind_some]
 split
 ·rfl
 rw [zpz p hp,zhD p (by omega)]
 simp only [Option.bind_some]
 have hsz:(p.zSy.foldl symT ⟨#[]⟩).size<=330000:=by
  have:=zfD symT 3300 p.zSy (fun a s hs=>zmL (hp.sym s hs) a) ⟨#[]⟩
  have:p.zSy.length * 3300<=100 * 3300:=Nat.mul_le_mul_right _ hp.ns
  rw [z7] at *; omega
 have:=zfZ p.zTh (fun i (a:ByteArray)=>(a,i)) (zdf p (zc3 p)) (thT (zc3 p)) id (·.size) 330000 10241000 _ hsz (fun a t ht=>zr5 hnm (hp.th t ht) a) (fun j t hs b hb=>?_) (fun b=>?_)
 ·rw [this]
  simp only [Option.bind_some,id]
 ·have hj:j<100:=by have:=(List.getElem?_eq_some_iff.1 hs).1; omega
  have hj2:j * 10241000<=100 * 10241000:=Nat.mul_le_mul_right _ (by omega)
  try simp only at hb
  simp only [zdf]
  rw [if_pos (zfO hs),if_pos (catB (by rw [z6]; omega)),wi (by omega)]
  rw [zn2 p j t hs (hp.th t (List.mem_of_getElem? hs)) (zc3 p) hnm _ (by rw [zbw,z6]; omega)]
  rfl
 ·simp only [zdf]
  rw [if_neg (by simp)]; rfl
end Go.Vs
end
section
namespace Go.Vs
end Go.Vs
end
section
namespace Go.Vs
def Wi(k:IntKind)(n:Int):Prop:=k.min<=n/\n<=k.max
theorem Wi.i64{n:Int}(h:Wi .i64 n):I64 n:=h
structure za8 (x:zaC):Prop where
 Kind:Wi .i64 x.Kind
 A:Wi .i64 x.A
 B:Wi .i64 x.B
 C:Wi .i64 x.C
 N:Wi .i64 x.N
end Go.Vs
end
section
namespace Go.Vs
open Go.Lib
local instance tabPalShow9:Tab:=⟨fun _=>none⟩
end Go.Vs
end
section
namespace Go.Vs
end Go.Vs
end
section
namespace Go.Vs
open Go.Lib
local instance tabPalShowA:Tab:=⟨fun _=>none⟩
theorem z64:I64 0:=by unfold I64; decide
theorem zgR{p:Int}(h:I64 p)(n:Int)(hn:0<n)(hn2:n<=1000):∃i:Nat,zaV p n=some (i:Int)/\(i:Int)<n:=by
 obtain ⟨i,h1,h2,h3⟩:=zm5 h n hn hn2
 exact ⟨i.toNat,by rw [h1]; congr 1; omega,by omega⟩
theorem ztP{a:Int}(h:I64 a):∃o,zaT a=some o/\I64 o.N:=by
 obtain ⟨i,h1,h2⟩:=zgR h 4 (by omega) (by omega)
 refine ⟨⟨1,i,0,0⟩,?_,z64⟩
 unfold zaT
 rw [h1]; rfl
theorem div3{a:Int}(h:I64 a):I64 (IntKind.wrap .i64 (Int.tdiv a 3)):=by
 have h1:(Int.tdiv a 3).natAbs<=a.natAbs:=by rw [Int.natAbs_tdiv]; exact Nat.div_le_self _ _
 obtain ⟨h2,h3⟩:=h
 rw [wi64]
 constructor <;> omega
theorem ztW{b n:Int}(h:I64 b)(hn:I64 n):∃o,zbh b n=some o/\I64 o.N:=by
 obtain ⟨i,h1,h2⟩:=zgR h 3 (by omega) (by omega)
 unfold zbh
 rw [h1]
 simp only [Option.bind_some]
 split
 ·obtain ⟨o,h3,h4⟩:=ztP (div3 h)
  exact ⟨o,by rw [h3]; rfl,h4⟩
 ·exact ⟨_,rfl,hn⟩
def memV(v1:Int):Option zap :=
 (some ([1,2,1])).bind fun l3 =>
 if ((Int.tmod v1 5)==4)=true then (some (zap.mk 4 (IntKind.wrap .i64 (Int.tdiv v1 15)) (Int.tmod (IntKind.wrap .i64 (Int.tdiv v1 5)) 3) 0)) else (if InB (Int.tmod (IntKind.wrap .i64 (Int.tdiv v1 5)) 3) l3.length then (if ¬(rd l3 (Int.tmod (IntKind.wrap .i64 (Int.tdiv v1 5)) 3))=0 then ((some (Int.tmod (Int.tmod v1 5) (rd l3 (Int.tmod (IntKind.wrap .i64 (Int.tdiv v1 5)) 3)))).bind fun n8 =>
  some (zap.mk 3 0 (Int.tmod (IntKind.wrap .i64 (Int.tdiv v1 5)) 3) n8)) else none) else none)
def zgf(o:zap):Bool:=opdB o&&memB o&&decide (0<=o.Sym/\o.Sym<=2/\0<=o.N/\o.N<=1/\(o.Kind=3->o.N<rd [1,2,1] o.Sym))
theorem zt5:((List.range 60).all fun v=>match memV (v:Int) with | some o=>zgf o | none=>false)=true:=by decide +kernel
theorem zst{a:Int}(h:I64 a):∃o,za0 a=some o/\zgf o=true:=by
 obtain ⟨i,h1,h2⟩:=zgR h 60 (by omega) (by omega)
 have h3:=(List.all_eq_true.1 zt5) i (by simp; omega)
 have h4:za0 a=memV i:=by
  unfold za0 memV
  rw [h1]; rfl
 rw [h4]
 cases hv:memV (i:Int) with
 | none=>rw [hv] at h3; cases h3
 | some o=>rw [hv] at h3; exact ⟨o,rfl,h3⟩
theorem zj9{o:zap}(h:zgf o=true):I64 o.N:=by
 unfold zgf at h
 simp only [Bool.and_eq_true,decide_eq_true_eq] at h
 unfold I64; omega
theorem zmi(k:Int):∃s,zbX k=some s/\s.size=3:=by
 unfold zbX
 rw [if_pos (catB (by show 1+2<=_; omega))]
 exact ⟨_,rfl,by rw [zbw]; rfl⟩
structure BookIns (y:zae):Prop where
 a:I64 y.A.N
 b:I64 y.B.N
 to:y.To.size<=3
 lab:y.zLb=[]
def znN(o:Option zae):Prop:=∃y,o=some y/\BookIns y
theorem zkg{b:Bool}{x y:Option zae}(h1:b=true->znN x)(h2:b=false->znN y):znN (if b=true then x else y):=by cases b <;> simp_all
theorem zs1{x:zaC}(hw:za8 x){n:Int}(hn:0<n)(hn2:n<=1000):∃y,zdu x n=some y/\BookIns y:=by
 obtain ⟨v1,e1,l1⟩:=zgR hw.C.i64 5 (by omega) (by omega)
 obtain ⟨v3,e3,l3⟩:=zgR hw.Kind.i64 22 (by omega) (by omega)
 obtain ⟨rA,eA,nA⟩:=ztP hw.A.i64
 obtain ⟨rB,eB,nB⟩:=ztP hw.B.i64
 obtain ⟨mA,fA,gA⟩:=zst hw.A.i64
 obtain ⟨mB,fB,gB⟩:=zst hw.B.i64
 obtain ⟨pB,hB,kB⟩:=ztW hw.B.i64 hw.N.i64
 obtain ⟨j,ej,lj⟩:=zgR hw.A.i64 n hn hn2
 obtain ⟨c,ec,lc⟩:=zgR hw.C.i64 10 (by omega) (by omega)
 obtain ⟨t,et,lt⟩:=zmi j
 have qA:=zj9 gA
 have qB:=zj9 gB
 have zt:(⟨#[]⟩:ByteArray).size<=3:=by decide
 have lt3:t.size<=3:=by omega
 have one:∀op lk cd A B to,I64 A.N->I64 B.N->to.size<=3->znN (some (zae.mk op lk cd A B to [])):=fun op lk cd A B to h1 h2 h3=>⟨_,rfl,⟨h1,h2,h3,rfl⟩⟩
 have g4:∀b,znN (zcs x v1 v3 n b):=by
  intro b
  unfold zcs zeb
  repeat' refine zkg (fun _=>?_) (fun _=>?_)
  all_goals try simp only [Option.bind_some,eA,eB,fA,fB,hB,ej,ec,et]
  all_goals exact one _ _ _ _ _ _ (by first | assumption | exact z64) (by first | assumption | exact z64) (by assumption)
 have g3:∀b,znN (zbA x v3 v1 n b):=by
  intro b
  unfold zbA
  repeat' refine zkg (fun _=>?_) (fun _=>?_)
  all_goals try simp only [Option.bind_some,eA,eB,fA,fB,hB,ej,ec,et]
  all_goals first | exact g4 _ | exact one _ _ _ _ _ _ (by first | assumption | exact z64) (by first | assumption | exact z64) (by assumption)
 have g2:∀b,znN (zbZ x v3 v1 n b):=by
  intro b
  unfold zbZ
  repeat' refine zkg (fun _=>?_) (fun _=>?_)
  all_goals try simp only [Option.bind_some,eA,eB,fA,fB,hB,ej,ec,et]
  all_goals first | exact g3 _ | exact one _ _ _ _ _ _ (by first | assumption | exact z64) (by first | assumption | exact z64) (by assumption)
 show znN _
 unfold zdu
 rw [e1,e3]
 simp only [Option.bind_some]
 repeat' refine zkg (fun _=>?_) (fun _=>?_)
 all_goals try simp only [Option.bind_some,eA,eB,fA,fB,hB,ej,ec,et]
 all_goals first | exact g2 _ | exact one _ _ _ _ _ _ (by first | assumption | exact z64) (by first | assumption | exact z64) (by assumption)
theorem BookIns.ok{y:zae}(h:BookIns y):InsOk y:=⟨by have:=h.to; unfold Sm; omega,h.a,h.b⟩
theorem BookIns.lb{y:zae}(h:BookIns y):zmB y:=⟨h.ok,by rw [h.lab]; decide,by have:=h.to; omega,by rw [h.lab]; intro s hs; cases hs⟩
end Go.Vs
end
section
namespace Go.Vs
open Go.Lib
local instance tabPalShowB:Tab:=⟨fun _=>none⟩
structure zlm (y:zae):Prop where
 a:I64 y.A.N
 b:I64 y.B.N
 to:y.To.size<=3
 n:y.zLb.length<=1
 lab:∀s∈y.zLb,s.size<=3
theorem BookIns.l{y:zae}(h:BookIns y):zlm y:=⟨h.a,h.b,h.to,by rw [h.lab]; decide,by rw [h.lab]; intro s hs; cases hs⟩
theorem zlm.ok{y:zae}(h:zlm y):zmB y:=⟨⟨by have:=h.to; unfold Sm; omega,h.a,h.b⟩,by have:=h.n; omega,by have:=h.to; omega,fun s hs=>by have:=h.lab s hs; omega⟩
theorem zuu(p0:List (List zaC))(i:Nat)(l:List zaC)(hi:p0[i]?=some l)(hl:∀x∈l,za8 x)(n:Nat)(hn:n<=l.length)(hn8:n<=100) :
  ∃r,zaP (za3 (n:Int) (i:Int) p0) (0,[])=some r/\r.length=n/\∀y∈r,BookIns y:=by
 have main:∀(k j:Nat) (out:List zae),n-j=k->j<=n->out.length=j->(∀y∈out,BookIns y)->∃r,zaP (za3 (n:Int) (i:Int) p0) ((j:Int),out)=some r/\r.length=n/\∀y∈r,BookIns y:=by
  intro k
  induction k with
  | zero =>
   intro j out h1 h2 h3 h4
   obtain rfl:j=n:=by omega
   exact ⟨out,zaH (by simp only [za3]; rw [if_neg (by simp)]),h3,h4⟩
  | succ k ih =>
   intro j out h1 h2 h3 h4
   have hx:l[j]?=some l[j]:=by rw [List.getElem?_eq_getElem]
   obtain ⟨y,e1,e2⟩:=zs1 (hl l[j] (List.getElem_mem _)) (n:=(n:Int)+1) (by omega) (by omega)
   have hst:za3 (n:Int) (i:Int) p0 ((j:Int),out)=some (.inl ((j:Int)+1,out++[y])):=by
    simp only [za3]
    rw [if_pos (by simp; omega),if_pos (zbj hi),zcd hi,if_pos (zbj hx),zcd hx,wi (by omega),e1,wi (by omega)]
    simp only [Option.bind_some]
    rw [if_pos (show Fits (out.length+1) from by unfold Fits; omega)]
   obtain ⟨r,e3,e4,e5⟩:=ih (j+1) (out++[y]) (by omega) (by omega) (by simp; omega) (fun z hz=>by
    rcases List.mem_append.1 hz with h | h
    ·exact h4 z h
    ·rw [List.mem_singleton.1 h]; exact e2)
   exact ⟨r,by rw [za4 hst]; exact e3,e4,e5⟩
 exact main n 0 [] (by omega) (by omega) rfl (by intro y hy; cases hy)
theorem ztC{α:Type}{P:α->Prop}{l:List α}{i:Nat}{a:α}(hl:∀x∈l,P x)(ha:P a):∀x∈l.set i a,P x:=by
 intro x hx
 rcases List.mem_or_eq_of_mem_set hx with h | h
 ·exact hl x h
 ·rw [h]; exact ha
theorem zus(n:Nat)(hn:n<=100)(i:Nat)(hi:i<n):∀(k j:Nat) (l:List zae),n+1-j=k->j<=n+1->l.length=n+1->(∀y∈l,zlm y) ->
  ∃r,zaP (za1 (n:Int) (i:Int)) ((j:Int),l)=some r/\r.length=n+1/\∀y∈r,zlm y:=by
 intro k
 induction k with
 | zero =>
  intro j l h1 h2 h3 h4
  exact ⟨l,zaH (by simp only [za1]; rw [if_neg (by simp; omega)]),h3,h4⟩
 | succ k ih =>
  intro j l h1 h2 h3 h4
  obtain ⟨t,e1,e2⟩:=zmi (j:Int)
  have hj:j<l.length:=by omega
  have hx:l[j]?=some l[j]:=by rw [List.getElem?_eq_getElem]
  have hxi:l[i]?=some (l[i]'(by omega)):=by rw [List.getElem?_eq_getElem]
  have hst:∃l',za1 (n:Int) (i:Int) ((j:Int),l)=some (.inl ((j:Int)+1,l'))/\l'.length=n+1/\∀y∈l',zlm y:=by
   simp only [za1]
   rw [if_pos (by simp; omega),e1]
   simp only [Option.bind_some,if_pos (zbj hxi),zcd hxi,zcd hx,zbj hx,implies_true,if_true]
   unfold zdk
   rw [wi (by omega)]
   cases hc:(decide (t=(l[i]'(by omega)).To)&&(((l[j].zLb).length:Int)==0))
   ·exact ⟨l,by simp,h3,h4⟩
   ·refine ⟨_,by simp only [if_true]; rfl,by simp [h3],?_⟩
    have hb:=h4 l[j] (List.getElem_mem _)
    exact ztC h4 ⟨hb.a,hb.b,hb.to,by simp,fun s hs=>by rw [List.mem_singleton.1 hs]; omega⟩
  obtain ⟨l',e3,e4,e5⟩:=hst
  obtain ⟨r,e6,e7,e8⟩:=ih (j+1) l' (by omega) (by omega) e4 e5
  exact ⟨r,by rw [za4 e3]; exact e6,e7,e8⟩
theorem zut(n:Nat)(hn:n<=100):∀(k j:Nat) (l:List zae),n-j=k->j<=n->l.length=n+1->(∀y∈l,zlm y) ->
  ∃r,zaP (za2 (n:Int)) ((j:Int),l)=some r/\r.length=n+1/\∀y∈r,zlm y:=by
 intro k
 induction k with
 | zero =>
  intro j l h1 h2 h3 h4
  exact ⟨l,zaH (by simp only [za2]; rw [if_neg (by simp; omega)]),h3,h4⟩
 | succ k ih =>
  intro j l h1 h2 h3 h4
  have hx:l[j]?=some (l[j]'(by omega)):=by rw [List.getElem?_eq_getElem]
  have hst:∃l',za2 (n:Int) ((j:Int),l)=some (.inl ((j:Int)+1,l'))/\l'.length=n+1/\∀y∈l',zlm y:=by
   simp only [za2]
   rw [if_pos (by simp; omega),if_pos (zbj hx)]
   unfold zdl
   rw [wi (by omega)]
   split
   ·exact ⟨l,rfl,h3,h4⟩
   ·obtain ⟨r,e1,e2,e3⟩:=zus n hn j (by omega) (n+1) 0 l (by omega) (by omega) h3 h4
    have e0:zaP (za1 (n:Int) (j:Int)) (0,l)=some r:=e1
    rw [e0]
    exact ⟨r,rfl,e2,e3⟩
  obtain ⟨l',e3,e4,e5⟩:=hst
  obtain ⟨r,e6,e7,e8⟩:=ih (j+1) l' (by omega) (by omega) e4 e5
  exact ⟨r,by rw [za4 e3]; exact e6,e7,e8⟩
theorem zvu:zlm (zae.mk 14 false 0 (zap.mk 0 0 0 0) (zap.mk 0 0 0 0) (⟨#[]⟩:ByteArray) ([])):=⟨z64,z64,by decide,by decide,by intro s hs; cases hs⟩
theorem zuv(p0:List (List zaC))(hw:∀l∈p0,∀x∈l,za8 x)(p1 p2:Nat)(h1:p1<=100)(h2:p2<=90) :
  ∃r,zaP (zaW p0 (p1:Int) (p2:Int)) (0,[])=some r/\r.length<=p1/\∀t∈r,ThOk t:=by
 have main:∀(k j:Nat) (out:List zad),p1-j=k->j<=p1->out.length=j->(∀y∈out,ThOk y)->∃r,zaP (zaW p0 (p1:Int) (p2:Int)) ((j:Int),out)=some r/\r.length<=p1/\∀y∈r,ThOk y:=by
  intro k
  induction k with
  | zero =>
   intro j out q1 q2 q3 q4
   exact ⟨out,zaH (by simp only [zaW]; rw [if_neg (by simp; omega)]),by omega,q4⟩
  | succ k ih =>
   intro j out q1 q2 q3 q4
   by_cases hj:j<p0.length
   ·have hx:p0[j]?=some p0[j]:=by rw [List.getElem?_eq_getElem]
    obtain ⟨n,hn,hn1,hn2⟩:∃n:Nat,(if (p2:Int)<(p0[j].length:Int) then (p2:Int) else (p0[j].length:Int))=(n:Int)/\n<=p0[j].length/\n<=p2:=by
     split
     ·exact ⟨p2,rfl,by omega,Nat.le_refl _⟩
     ·exact ⟨p0[j].length,rfl,Nat.le_refl _,by omega⟩
    obtain ⟨r,e1,e2,e3⟩:=zuu p0 j p0[j] hx (hw _ (List.getElem_mem _)) n hn1 (by omega)
    obtain ⟨r2,e4,e5,e6⟩:=zut n (by omega) n 0 (r++[zae.mk 14 false 0 (zap.mk 0 0 0 0) (zap.mk 0 0 0 0) (⟨#[]⟩:ByteArray) ([])]) (by omega) (by omega) (by simp [e2]) (fun y hy=>by
     rcases List.mem_append.1 hy with h | h
     ·exact (e3 y h).l
     ·rw [List.mem_singleton.1 h]; exact zvu)
    have e7:zaP (za2 (n:Int)) (0,(r++[zae.mk 14 false 0 (zap.mk 0 0 0 0) (zap.mk 0 0 0 0) (⟨#[]⟩:ByteArray) ([])]))=some r2:=e4
    have hst:zaW p0 (p1:Int) (p2:Int) ((j:Int),out)=some (.inl ((j:Int)+1,out++[zad.mk r2])):=by
     simp only [zaW]
     rw [if_pos (by simp; omega),if_pos (zbj hx),zcd hx,hn]
     simp only [Option.bind_some]
     rw [e1]
     simp only [Option.bind_some]
     rw [if_pos (show Fits (r.length+1) from by unfold Fits; omega),e7]
     simp only [Option.bind_some]
     rw [if_pos (show Fits (out.length+1) from by unfold Fits; omega),wi (by omega)]
    obtain ⟨r3,e8,e9,e10⟩:=ih (j+1) (out++[zad.mk r2]) (by omega) (by omega) (by simp; omega) (fun t ht=>by
     rcases List.mem_append.1 ht with h | h
     ·exact q4 t h
     ·rw [List.mem_singleton.1 h]
      exact ⟨by show r2.length<=100; omega,fun x hx=>(e6 x hx).ok⟩)
    exact ⟨r3,by rw [za4 hst]; exact e8,e9,e10⟩
   ·exact ⟨out,zaH (by simp only [zaW]; rw [if_neg (by simp; omega)]),by omega,q4⟩
 exact main p1 0 [] (by omega) (by omega) rfl (by intro y hy; cases hy)
def zeA:List zam:=[(zam.mk (⟨#[120]⟩:ByteArray) 1 ([])),(zam.mk (⟨#[121]⟩:ByteArray) 2 ([1])),(zam.mk (⟨#[122]⟩:ByteArray) 1 ([0]))]
theorem zov:∀s∈zeA,zp5 s:=by
 intro s hs
 have i1:I64 1:=by unfold I64; decide
 have i2:I64 2:=by unfold I64; decide
 unfold zeA at hs
 simp only [List.mem_cons,List.mem_nil_iff,or_false] at hs
 rcases hs with rfl | rfl | rfl
 ·exact ⟨by decide,by decide,i1,by intro v hv; cases hv⟩
 ·exact ⟨by decide,by decide,i2,by intro v hv; rw [List.mem_singleton.1 hv]; exact i1⟩
 ·exact ⟨by decide,by decide,i1,by intro v hv; rw [List.mem_singleton.1 hv]; exact z64⟩
theorem zrM(p0:List (List zaC))(hw:∀l∈p0,∀x∈l,za8 x)(p1 p2:Nat)(h1:p1<=100)(h2:p2<=90):∃p,zcf p0 (p1:Int) (p2:Int)=some p/\zjS p:=by
 obtain ⟨r,e1,e2,e3⟩:=zuv p0 hw p1 p2 h1 h2
 refine ⟨⟨zeA,r⟩,?_,⟨by show 3<=100; omega,by show r.length<=100; omega,zov,e3⟩⟩
 unfold zcf
 rw [e1]; rfl
end Go.Vs
end
section
namespace Go.Vs
open Go.Lib
local instance tabPalShowC:Tab:=⟨fun _=>none⟩
def zdI(k:Int):ByteArray:=(⟨#[108]⟩:ByteArray)++(zjc ([(IntKind.wrap .u8 (IntKind.wrap .i64 (48+(IntKind.wrap .i64 (Int.tdiv k 10))))),(IntKind.wrap .u8 (IntKind.wrap .i64 (48+(Int.tmod k 10))))]))
theorem zmk(k:Int):zbX k=some (zdI k):=by
 unfold zbX
 rw [if_pos (catB (by show 1+2<=_; omega))]
 rfl
theorem zkL:((List.range 100).all fun k=>zdy (zdI (k:Int)))=true:=by decide +kernel
theorem zkM{k:Nat}(h:k<100):zdy (zdI (k:Int))=true:=(List.all_eq_true.1 zkL) k (by simpa using h)
theorem zmj:((List.range 100).all fun i=>(List.range 100).all fun j=>decide (i=j)||!decide (zdI (i:Int)=zdI (j:Int)))=true:=by decide +kernel
theorem zrh{i j:Nat}(hi:i<100)(hj:j<100)(h:zdI (i:Int)=zdI (j:Int)):i=j:=by
 have:=(List.all_eq_true.1 ((List.all_eq_true.1 zmj) i (by simpa using hi))) j (by simpa using hj)
 simpa [h] using this
theorem zqz{op:Int}{A B:zap}(h1:1<=op)(h2:op<=7)(hA:opdB A=true)(kA:A.Kind=1)(hB:opdB B=true):rowB ⟨op,false,0,A,B,⟨#[]⟩,[]⟩=true:=by
 unfold rowB
 have e1:(decide (op<1)||decide (op>9))=false:=by simp; omega
 have e8:(op==8)=false:=by simp; omega
 have e9:(op==9)=false:=by simp; omega
 simp [e1,e8,e9,hA,hB,kA]
theorem ztK{op:Int}{lk:Bool}{A B:zap}(h1:1<=op)(h2:op<=7)(hA:opdB A=true)(mA:memB A=true)(hB:opdB B=true)(mB:memB B=false)(hl:lk=true->2<=op/\op<=6):rowB ⟨op,lk,0,A,B,⟨#[]⟩,[]⟩=true:=by
 unfold rowB
 have e1:(decide (op<1)||decide (op>9))=false:=by simp; omega
 have e8:(op==8)=false:=by simp; omega
 have e9:(op==9)=false:=by simp; omega
 have k1:(A.Kind==1)=false:=by
  have:=zml A
  rw [mA,Bool.and_true] at this; exact this
 cases lk
 ·simp [e1,e8,e9,hA,hB,k1,mA,mB]
 ·have:=hl rfl
  simp [e1,e8,e9,hA,hB,k1,mA,mB]; omega
theorem zo8{y:zae}(hc:zja y=true)(h1:1<=y.Op)(h2:y.Op<=14)(hr:rowB y=true)(hj:zeE y=true->zdy y.To=true)(hn:zeE y=false->y.To=⟨#[]⟩):insN y=0:=by
 unfold insN zll
 have e1:(decide (y.Op≥1)&&decide (y.Op<=14))=true:=by simp; omega
 cases h:zeE y
 ·simp [hc,e1,hr,hn h]
 ·simp [hc,e1,hr,hj h]
structure zoy (n:Nat) (y:zae):Prop extends BookIns y where
 z:insN y=0
 pA:memB y.A=true->zgf y.A=true
 pB:memB y.B=true->zgf y.B=true
 j:zeE y=true->∃k:Nat,k<n/\y.To=zdI k
 nj:zeE y=false->y.To=⟨#[]⟩
theorem zoZ{o:zap}(h:zgf o=true):opdB o=true/\memB o=true:=by
 unfold zgf at h
 simp only [Bool.and_eq_true] at h
 exact h.1
theorem ztQ{a:Int}(h:I64 a):∃o,zaT a=some o/\I64 o.N/\opdB o=true/\o.Kind=1/\memB o=false:=by
 obtain ⟨i,h1,h2⟩:=zgR h 4 (by omega) (by omega)
 refine ⟨⟨1,i,0,0⟩,?_,z64,?_,rfl,rfl⟩
 ·unfold zaT
  rw [h1]; rfl
 ·unfold opdB; simp; omega
theorem ztX{b n:Int}(h:I64 b)(hn:I64 n):∃o,zbh b n=some o/\I64 o.N/\opdB o=true/\memB o=false:=by
 obtain ⟨i,h1,h2⟩:=zgR h 3 (by omega) (by omega)
 unfold zbh
 rw [h1]
 simp only [Option.bind_some]
 split
 ·obtain ⟨o,h3,h4,h5,_,h7⟩:=ztQ (div3 h)
  exact ⟨o,by rw [h3]; rfl,h4,h5,h7⟩
 ·exact ⟨_,rfl,hn,rfl,rfl⟩
def zjh(n:Nat)(o:Option zae):Prop:=∃y,o=some y/\zoy n y
theorem zi5{n:Nat}{b:Bool}{x y:Option zae}(h1:b=true->zjh n x)(h2:b=false->zjh n y):zjh n (if b=true then x else y):=by cases b <;> simp_all
theorem zpZ{x:zaC}(hw:za8 x){n:Nat}(hn:0<n)(hn2:n<=100):∃y,zdu x n=some y/\zoy n y:=by
 obtain ⟨v1,e1,l1⟩:=zgR hw.C.i64 5 (by omega) (by omega)
 obtain ⟨v3,e3,l3⟩:=zgR hw.Kind.i64 22 (by omega) (by omega)
 obtain ⟨rA,eA,nA,oA,kA,zA⟩:=ztQ hw.A.i64
 obtain ⟨rB,eB,nB,oB,kB,zB⟩:=ztQ hw.B.i64
 obtain ⟨mA,fA,gA⟩:=zst hw.A.i64
 obtain ⟨mB,fB,gB⟩:=zst hw.B.i64
 obtain ⟨pB,hB,nP,oP,zP⟩:=ztX hw.B.i64 hw.N.i64
 obtain ⟨j,ej,lj⟩:=zgR hw.A.i64 n (by omega) (by omega)
 obtain ⟨c,ec,lc⟩:=zgR hw.C.i64 10 (by omega) (by omega)
 have et:=zmk (j:Int)
 have qA:=zj9 gA
 have qB:=zj9 gB
 obtain ⟨uA,wA⟩:=zoZ gA
 obtain ⟨uB,wB⟩:=zoZ gB
 have hj:j<n:=by omega
 have w2:IntKind.wrap .i64 (2+(v1:Int))=2+(v1:Int):=zbO ⟨by omega,by omega⟩
 have w1:IntKind.wrap .i64 (1+(c:Int))=1+(c:Int):=zbO ⟨by omega,by omega⟩
 have zt:(⟨#[]⟩:ByteArray).size<=3:=by decide
 have noj:∀op lk A B,op≠10->op≠11->zeE ⟨op,lk,0,A,B,⟨#[]⟩,[]⟩=false:=fun op lk A B a b=>by unfold zeE; simp [a,b]
 have mk:∀op lk A B,1<=op->op<=9->rowB ⟨op,lk,0,A,B,⟨#[]⟩,[]⟩=true->I64 A.N->I64 B.N->(memB A=true->zgf A=true)->(memB B=true->zgf B=true)->zjh n (some ⟨op,lk,0,A,B,⟨#[]⟩,[]⟩):=by
  intro op lk A B h1 h2 hr hA hB cA cB
  have hnj:=noj op lk A B (by omega) (by omega)
  refine ⟨_,rfl,⟨⟨hA,hB,zt,rfl⟩,?_,cA,cB,(fun h=>by rw [hnj] at h; cases h),fun _=>rfl⟩⟩
  refine zo8 ?_ h1 (by show op<=14; omega) hr (fun h=>by rw [hnj] at h; cases h) (fun _=>rfl)
  have e11:(op==11)=false:=by simp; omega
  unfold zja
  simp [e11]
 have nm:∀{o:zap},memB o=false->memB o=true->zgf o=true:=fun h1 h2=>by rw [h1] at h2; cases h2
 have rp:∀op,1<=op->op<=7->zjh n (some ⟨op,false,0,rA,pB,⟨#[]⟩,[]⟩):=fun op a b=>mk op false rA pB a (by omega) (zqz a b oA kA oP) nA nP (nm zA) (nm zP)
 have rm:∀op,1<=op->op<=7->zjh n (some ⟨op,false,0,rA,mB,⟨#[]⟩,[]⟩):=fun op a b=>mk op false rA mB a (by omega) (zqz a b oA kA uB) nA qB (nm zA) (fun _=>gB)
 have mp:∀op lk,1<=op->op<=7->(lk=true->2<=op/\op<=6)->zjh n (some ⟨op,lk,0,mA,pB,⟨#[]⟩,[]⟩):=fun op lk a b h=>mk op lk mA pB a (by omega) (ztK a b uA wA oP zP h) qA nP (fun _=>gA) (nm zP)
 have m8:zjh n (some ⟨8,false,0,mA,rB,⟨#[]⟩,[]⟩):=mk 8 false mA rB (by omega) (by omega) (by unfold rowB; simp [uA,oB,wA,kB]) qA nB (fun _=>gA) (nm zB)
 have m9:zjh n (some ⟨9,true,0,mA,rB,⟨#[]⟩,[]⟩):=mk 9 true mA rB (by omega) (by omega) (by unfold rowB; simp [uA,oB,wA,kB]) qA nB (fun _=>gA) (nm zB)
 have zO:∀op cd to,10<=op->op<=14->(op=11->1<=cd/\cd<=10)->(op≠11->cd=0)->to.size<=3->(op=10\/op=11->∃k:Nat,k<n/\to=zdI k)->(op≠10->op≠11->to=⟨#[]⟩)->zjh n (some ⟨op,false,cd,⟨0,0,0,0⟩,⟨0,0,0,0⟩,to,[]⟩):=by
  intro op cd to h1 h2 h3 h4 h5 h6 h7
  have hJ:zeE ⟨op,false,cd,⟨0,0,0,0⟩,⟨0,0,0,0⟩,to,[]⟩=true->op=10\/op=11:=fun h=>by unfold zeE at h; simpa using h
  have hN:zeE ⟨op,false,cd,⟨0,0,0,0⟩,⟨0,0,0,0⟩,to,[]⟩=false->op≠10/\op≠11:=fun h=>by unfold zeE at h; simpa using h
  refine ⟨_,rfl,⟨⟨z64,z64,h5,rfl⟩,?_,(fun h=>by cases h),(fun h=>by cases h),fun h=>h6 (hJ h),fun h=>h7 (hN h).1 (hN h).2⟩⟩
  refine zo8 ?_ (by show 1<=op; omega) h2 ?_ (fun h=>?_) (fun h=>h7 (hN h).1 (hN h).2)
  ·unfold zja
   by_cases e:op=11
   ·simp [e]; exact h3 e
   ·simp [e]; exact h4 e
  ·unfold rowB
   have:(decide (op<1)||decide (op>9))=true:=by simp; omega
   simp [this,znP]
  ·obtain ⟨k,hk,e⟩:=h6 (hJ h)
   show zdy to=true
   rw [e]; exact zkM (by omega)
 have lsz:(zdI (j:Int)).size<=3:=by
  obtain ⟨t,h1,h2⟩:=zmi (j:Int)
  rw [et] at h1
  obtain rfl:=Option.some.inj h1
  omega
 have g4:∀b,zjh n (zcs x v1 v3 n b):=by
  intro b
  unfold zcs zeb
  repeat' refine zi5 (fun _=>?_) (fun _=>?_)
  all_goals try simp only [Option.bind_some,eA,eB,fA,fB,hB,ej,ec,et,w1,w2]
  ·exact mp (2+(v1:Int)) false (by omega) (by omega) (by simp)
  ·exact rm 7 (by omega) (by omega)
  ·exact mp 7 false (by omega) (by omega) (by simp)
  ·exact m8
  ·exact m9
  ·exact mp (2+(v1:Int)) true (by omega) (by omega) (fun _=>⟨by omega,by omega⟩)
  ·exact zO 10 0 _ (by omega) (by omega) (by omega) (by simp) lsz (fun _=>⟨j,hj,rfl⟩) (by simp)
  ·exact zO 11 (1+(c:Int)) _ (by omega) (by omega) (by omega) (by simp) lsz (fun _=>⟨j,hj,rfl⟩) (by simp)
  ·exact zO 12 0 _ (by omega) (by omega) (by omega) (by simp) zt (by omega) (by simp)
  ·exact rp 7 (by omega) (by omega)
  ·exact zO 13 0 _ (by omega) (by omega) (by omega) (by simp) zt (by omega) (by simp)
 have g3:∀b,zjh n (zbA x v3 v1 n b):=by
  intro b
  unfold zbA
  repeat' first | exact g4 _ | refine zi5 (fun _=>?_) (fun _=>?_)
  all_goals try simp only [Option.bind_some,eA,eB,fA,fB,hB,ej,ec,et,w1,w2]
  all_goals first | exact g4 _ | exact mp 1 false (by omega) (by omega) (by simp) | exact rp (2+(v1:Int)) (by omega) (by omega) | exact rm (2+(v1:Int)) (by omega) (by omega)
 have g2:∀b,zjh n (zbZ x v3 v1 n b):=by
  intro b
  unfold zbZ
  repeat' first | exact g3 _ | refine zi5 (fun _=>?_) (fun _=>?_)
  all_goals try simp only [Option.bind_some,eA,eB,fA,fB,hB,ej,ec,et,w1,w2]
  all_goals first | exact g3 _ | exact rm 1 (by omega) (by omega)
 show zjh n _
 unfold zdu
 rw [e1,e3]
 simp only [Option.bind_some]
 repeat' first | exact g2 _ | refine zi5 (fun _=>?_) (fun _=>?_)
 all_goals try simp only [Option.bind_some,eA,eB,fA,fB,hB,ej,ec,et,w1,w2]
 all_goals first | exact g2 _ | exact rp 1 (by omega) (by omega)
end Go.Vs
end
section
namespace Go.Vs
open Go.Lib
local instance tabPalShowD:Tab:=⟨fun _=>none⟩
theorem zsZ(p0:List (List zaC))(i:Nat)(l:List zaC)(hi:p0[i]?=some l)(hl:∀x∈l,za8 x)(n:Nat)(hn:n<=l.length)(hn8:n<99) :
  ∃r,zaP (za3 (n:Int) (i:Int) p0) (0,[])=some r/\r.length=n/\∀y∈r,zoy (n+1) y:=by
 have main:∀(k j:Nat) (out:List zae),n-j=k->j<=n->out.length=j->(∀y∈out,zoy (n+1) y)->∃r,zaP (za3 (n:Int) (i:Int) p0) ((j:Int),out)=some r/\r.length=n/\∀y∈r,zoy (n+1) y:=by
  intro k
  induction k with
  | zero =>
   intro j out h1 h2 h3 h4
   obtain rfl:j=n:=by omega
   exact ⟨out,zaH (by simp only [za3]; rw [if_neg (by simp)]),h3,h4⟩
  | succ k ih =>
   intro j out h1 h2 h3 h4
   have hx:l[j]?=some l[j]:=by rw [List.getElem?_eq_getElem]
   obtain ⟨y,e1,e2⟩:=zpZ (hl l[j] (List.getElem_mem _)) (n:=n+1) (by omega) (by omega)
   have e1':zdu l[j] ((n:Int)+1)=some y:=e1
   have hst:za3 (n:Int) (i:Int) p0 ((j:Int),out)=some (.inl ((j:Int)+1,out++[y])):=by
    simp only [za3]
    rw [if_pos (by simp; omega),if_pos (zbj hi),zcd hi,if_pos (zbj hx),zcd hx,wi (by omega),e1',wi (by omega)]
    simp only [Option.bind_some]
    rw [if_pos (show Fits (out.length+1) from by unfold Fits; omega)]
   obtain ⟨r,e3,e4,e5⟩:=ih (j+1) (out++[y]) (by omega) (by omega) (by simp; omega) (fun z hz=>by
    rcases List.mem_append.1 hz with h | h
    ·exact h4 z h
    ·rw [List.mem_singleton.1 h]; exact e2)
   exact ⟨r,by rw [za4 hst]; exact e3,e4,e5⟩
 exact main n 0 [] (by omega) (by omega) rfl (by intro y hy; cases hy)
def putL(m:Nat->Bool)(k:Nat)(x:zae):zae:=zae.mk x.Op x.Lock x.Cond x.A x.B x.To (if m k then [zdI (k:Int)] else [])
def zdZ(o:List zae)(m:Nat->Bool):List zae:=o.mapIdx (putL m)
theorem zf3{o m}:(zdZ o m).length=o.length:=List.length_mapIdx
theorem zdP{o:List zae}{m:Nat->Bool}{k:Nat}{x:zae}(h:o[k]?=some x):(zdZ o m)[k]?=some (putL m k x):=by
 unfold zdZ; rw [List.getElem?_mapIdx,h]; rfl
theorem zqg{o:List zae}{m:Nat->Bool}{j:Nat}{x:zae}(h:o[j]?=some x) :
  (zdZ o m).set j (zae.mk x.Op x.Lock x.Cond x.A x.B x.To [zdI (j:Int)])=zdZ o (fun k=>m k||(k==j)):=by
 refine List.ext_getElem? fun k=>?_
 rw [List.getElem?_set]
 have hlt:=(List.getElem?_eq_some_iff.1 h).1
 by_cases e:j=k
 ·subst e
  rw [if_pos rfl,if_pos (by rw [zf3]; exact hlt),zdP h]
  simp [putL]
 ·rw [if_neg e]
  cases ho:o[k]? with
  | none=>unfold zdZ; rw [List.getElem?_mapIdx,List.getElem?_mapIdx,ho]; rfl
  | some y =>
   rw [zdP ho,zdP ho]
   have:(k==j)=false:=by simpa using fun e2=>e e2.symm
   simp [putL,this]
theorem znR{o:List zae}{m m':Nat->Bool}(h:∀k,k<o.length->m k=m' k):zdZ o m=zdZ o m':=by
 refine List.ext_getElem? fun k=>?_
 cases ho:o[k]? with
 | none=>unfold zdZ; rw [List.getElem?_mapIdx,List.getElem?_mapIdx,ho]; rfl
 | some y =>
  rw [zdP ho,zdP ho]
  have:=h k (List.getElem?_eq_some_iff.1 ho).1
  simp [putL,this]
theorem zsX(n:Nat)(hn:n<=98)(o:List zae)(ho:o.length=n+1)(i:Nat)(hi:i<n)(x:zae)(hx:o[i]?=some x):∀(k j:Nat) (m:Nat->Bool),n+1-j=k->j<=n+1 ->
  ∃m',zaP (za1 (n:Int) (i:Int)) ((j:Int),zdZ o m)=some (zdZ o m')/\∀q,q<=n->m' q=(m q||(decide (j<=q)&&decide (x.To=zdI (q:Int)))):=by
 intro k
 induction k with
 | zero =>
  intro j m h1 h2
  exact ⟨m,zaH (by simp only [za1]; rw [if_neg (by simp; omega)]),fun q hq=>by
   have:decide (j<=q)=false:=by simp; omega
   simp [this]⟩
 | succ k ih =>
  intro j m h1 h2
  have hj:j<o.length:=by omega
  obtain ⟨y,hy⟩:∃y,o[j]?=some y:=⟨_,List.getElem?_eq_getElem hj⟩
  have gx:=zdP (m:=m) hx
  have gy:=zdP (m:=m) hy
  have hst:za1 (n:Int) (i:Int) ((j:Int),zdZ o m)=some (.inl ((j:Int)+1,zdZ o (fun q=>m q||((q==j)&&decide (x.To=zdI (j:Int)))))):=by
   simp only [za1]
   rw [if_pos (by simp; omega),zmk]
   simp only [Option.bind_some,if_pos (zbj gx),zcd gx,zcd gy,zbj gy,implies_true,if_true]
   unfold zdk
   rw [wi (by omega)]
   have hTo:(putL m i x).To=x.To:=rfl
   rw [hTo]
   by_cases ht:x.To=zdI (j:Int)
   ·have d1:decide (zdI (j:Int)=x.To)=true:=by simp [ht]
    have d2:decide (x.To=zdI (j:Int))=true:=by simp [ht]
    simp only [d1,d2,Bool.true_and,Bool.and_true]
    cases hm:m j
    ·have e:(((putL m j y).zLb.length:Int)==0)=true:=by simp [putL,hm]
     simp only [e,if_true]
     have:=zqg (m:=m) hy
     rw [show (j:Int).toNat=j from rfl]
     exact congrArg (fun z=>some (Sum.inl ((j:Int)+1,z))) this
    ·have e:(((putL m j y).zLb.length:Int)==0)=false:=by simp [putL,hm]
     simp only [e,Bool.false_eq_true,if_false]
     refine congrArg (fun z=>some (Sum.inl ((j:Int)+1,z))) (znR fun q hq=>?_)
     by_cases e2:q=j
     ·subst e2; simp [hm]
     ·have:(q==j)=false:=by simpa using e2
      simp [this]
   ·have d1:decide (zdI (j:Int)=x.To)=false:=by simp; exact fun e=>ht e.symm
    have d2:decide (x.To=zdI (j:Int))=false:=by simpa using ht
    simp only [d1,d2,Bool.false_and,Bool.and_false,Bool.or_false,Bool.false_eq_true,if_false]
  obtain ⟨m',e3,e4⟩:=ih (j+1) _ (by omega) (by omega)
  refine ⟨m',by rw [za4 hst]; exact e3,fun q hq=>?_⟩
  rw [e4 q hq]
  by_cases e2:q=j
  ·subst e2
   have a1:decide (q+1<=q)=false:=by simp
   have a2:decide (q<=q)=true:=by simp
   simp [a1,a2]
  ·have a0:(q==j)=false:=by simpa using e2
   have a1:decide (j+1<=q)=decide (j<=q):=by
    by_cases h:j<=q
    ·simp [h]; omega
    ·simp [h]; omega
   simp [a0,a1]
theorem zsz(q:Int):¬zdI q=⟨#[]⟩:=by
 intro h
 have h1:(zdI q).size=3:=by
  obtain ⟨t,h1,h2⟩:=zmi q
  rw [zmk] at h1
  obtain rfl:=Option.some.inj h1
  exact h2
 rw [h] at h1
 exact absurd h1 (by decide)
def Hit(o:List zae)(n j q:Nat):Prop:=∃(i:Nat) (x:zae),j<=i/\i<n/\o[i]?=some x/\x.To=zdI (q:Int)
theorem zsY(n:Nat)(hn:n<=98)(o:List zae)(ho:o.length=n+1):∀(k j:Nat) (m:Nat->Bool),n-j=k->j<=n ->
  ∃m',zaP (za2 (n:Int)) ((j:Int),zdZ o m)=some (zdZ o m')/\∀q,q<=n->(m' q=true ↔ m q=true\/Hit o n j q):=by
 intro k
 induction k with
 | zero =>
  intro j m h1 h2
  refine ⟨m,zaH (by simp only [za2]; rw [if_neg (by simp; omega)]),fun q hq=>⟨.inl,fun h=>h.elim id fun ⟨i,x,a,b,_⟩=>by omega⟩⟩
 | succ k ih =>
  intro j m h1 h2
  obtain ⟨x,hx⟩:∃x,o[j]?=some x:=⟨_,List.getElem?_eq_getElem (by omega)⟩
  have gx:=zdP (m:=m) hx
  have hst:∃m1,za2 (n:Int) ((j:Int),zdZ o m)=some (.inl ((j:Int)+1,zdZ o m1))/\∀q,q<=n->(m1 q=true ↔ m q=true\/x.To=zdI (q:Int)):=by
   simp only [za2]
   rw [if_pos (by simp; omega),if_pos (zbj gx),zcd gx]
   unfold zdl
   rw [wi (by omega)]
   have hTo:(putL m j x).To=x.To:=rfl
   rw [hTo]
   by_cases he:x.To=⟨#[]⟩
   ·rw [if_pos (by simpa using he)]
    exact ⟨m,rfl,fun q _=>⟨.inl,fun h=>h.elim id fun h=>absurd (h.symm.trans he) (zsz _)⟩⟩
   ·rw [if_neg (by simpa using he)]
    obtain ⟨m',e1,e2⟩:=zsX n hn o ho j (by omega) x hx (n+1) 0 m (by omega) (by omega)
    have e0:zaP (za1 (n:Int) (j:Int)) (0,zdZ o m)=some (zdZ o m'):=e1
    rw [e0]
    refine ⟨m',rfl,fun q hq=>?_⟩
    rw [e2 q hq]
    simp
  obtain ⟨m1,e3,e4⟩:=hst
  obtain ⟨m',e5,e6⟩:=ih (j+1) m1 (by omega) (by omega)
  refine ⟨m',by rw [za4 e3]; exact e5,fun q hq=>?_⟩
  rw [e6 q hq,e4 q hq]
  constructor
  ·rintro ((h | h) | ⟨i,y,a,b,c,d⟩)
   ·exact .inl h
   ·exact .inr ⟨j,x,Nat.le_refl _,by omega,hx,h⟩
   ·exact .inr ⟨i,y,by omega,b,c,d⟩
  ·rintro (h | ⟨i,y,a,b,c,d⟩)
   ·exact .inl (.inl h)
   ·by_cases e:i=j
    ·subst e
     rw [hx] at c
     obtain rfl:=Option.some.inj c
     exact .inl (.inr d)
    ·exact .inr ⟨i,y,by omega,b,c,d⟩
end Go.Vs
end
section
namespace Go.Vs
open Go.Lib
local instance tabPalShowE:Tab:=⟨fun _=>none⟩
theorem zrm(m:Nat->Bool)(k:Nat)(y:zae):insN (putL m k y)=insN y:=rfl
theorem zly{p:zaj}(hp:p.zSy=zeA){o:zap}(h:memB o=true->zgf o=true):zfa p o=0:=by
 unfold zfa
 cases hm:memB o
 ·rfl
 ·have hc:=h hm
  unfold zgf at hc
  simp only [Bool.and_eq_true,decide_eq_true_eq] at hc
  obtain ⟨_,h0,h2,h3,h4,h5⟩:=hc
  rw [hp]
  have e3:((zeA.length:Nat):Int)=3:=rfl
  rw [e3]
  have d1:decide (o.Sym≥3)=false:=by simp; omega
  simp only [Bool.not_true,Bool.false_eq_true,if_false,d1]
  by_cases hk:o.Kind=3
  ·have hs:(rd zeA o.Sym).Size=rd [1,2,1] o.Sym:=by
    have:o.Sym=0\/o.Sym=1\/o.Sym=2:=by omega
    rcases this with e | e | e <;> rw [e] <;> rfl
   have:=h5 hk
   rw [hs]
   have d2:decide (o.N≥rd [1,2,1] o.Sym)=false:=by simp; omega
   simp [d2]
  ·have:(o.Kind==3)=false:=by simpa using hk
   simp [this]
theorem zsB(p:zaj)(hp:p.zSy=zeA)(o:List zae)(ho:o.length<=100)(m:Nat->Bool)(hy:∀y∈o,insN y=0/\(memB y.A=true->zgf y.A=true)/\(memB y.B=true->zgf y.B=true)) :
  ∀(k j:Nat) (L:List ByteArray),o.length-j=k->j<=o.length->(∀s∈L,∃q:Nat,q<j/\s=zdI (q:Int))->∃L',zbv (insF p) (Sum.inl:List ByteArray->List ByteArray ⊕ Int) j L ((zdZ o m).drop j)=.inl L':=by
 intro k
 induction k with
 | zero =>
  intro j L h1 h2 h3
  rw [List.drop_eq_nil_of_le (by rw [zf3]; omega)]
  exact ⟨L,rfl⟩
 | succ k ih =>
  intro j L h1 h2 h3
  have hj:j<o.length:=by omega
  have hyj:o[j]?=some o[j]:=List.getElem?_eq_getElem hj
  have g:=zdP (m:=m) hyj
  have hd:(zdZ o m).drop j=putL m j o[j]::(zdZ o m).drop (j+1):=by
   rw [List.drop_eq_getElem_cons (by rw [zf3]; exact hj)]
   congr 1
   exact (List.getElem?_eq_some_iff.1 g).2
  rw [hd]
  obtain ⟨z,cA,cB⟩:=hy o[j] (List.getElem_mem _)
  have hl:znp L (putL m j o[j]).zLb=.inl (if m j then L++[zdI (j:Int)] else L):=by
   unfold putL znp
   cases hm:m j
   ·rfl
   ·have hn:has L (zdI (j:Int))=false:=by
     rw [zuh]
     intro hmem
     obtain ⟨q,hq,e⟩:=h3 _ hmem
     have:=zrh (by omega) (by omega) e
     omega
    simp [zbv,labF,zkM (show j<100 by omega),hn]
  have hf:insF p j L (putL m j o[j])=.inl (if m j then L++[zdI (j:Int)] else L):=by
   unfold insF
   rw [hl]
   simp only [zrm,z]
   have pA:zfa p (putL m j o[j]).A=0:=zly hp cA
   have pB:zfa p (putL m j o[j]).B=0:=zly hp cB
   rw [pA,pB]
   rfl
  simp only [zbv,hf]
  refine ih (j+1) _ (by omega) (by omega) fun s hs=>?_
  split at hs
  ·rcases List.mem_append.1 hs with h | h
   ·obtain ⟨q,a,b⟩:=h3 s h; exact ⟨q,by omega,b⟩
   ·exact ⟨j,by omega,List.mem_singleton.1 h⟩
  ·obtain ⟨q,a,b⟩:=h3 s hs; exact ⟨q,by omega,b⟩
theorem zmx:∀(xs:List zae) (k:Nat) (a:Int),zbv (fun _ (n:Int) (x:zae)=>if (x.Op != 12)=true then .inl (n+1) else .inl n) (fun n=>n) k a xs<=a+xs.length
 | [],k,a=>by simp [zbv]
 | x::xs,k,a=>by
  simp only [zbv]
  by_cases h:(x.Op != 12)=true
  ·simp only [h,if_true]
   have:=zmx xs (k+1) (a+1)
   simp only [List.length_cons]; omega
  ·simp only [h,if_false]
   have:=zmx xs (k+1) a
   simp only [List.length_cons]
   simp only [Bool.false_eq_true,if_false]
   omega
theorem zre(L:List ByteArray):∀(xs:List zae) (k:Nat),(∀x∈xs,zeE x=true->has L x.To=true)->zbv (zkJ L) (Sum.inl:Unit->Unit ⊕ Int) k () xs=.inl ()
 | [],k,_=>rfl
 | x::xs,k,h=>by
  have hx:zkJ L k () x=.inl ():=by
   unfold zkJ
   cases hj:zeE x
   ·rfl
   ·rw [h x (List.mem_cons_self ..) hj]; rfl
  simp only [zbv,hx]
  exact zre L xs (k+1) fun y hy=>h y (List.mem_cons_of_mem _ hy)
def hltI:zae:=zae.mk 14 false 0 (zap.mk 0 0 0 0) (zap.mk 0 0 0 0) (⟨#[]⟩:ByteArray) ([])
theorem znU(p:zaj)(hp:p.zSy=zeA)(r:List zae)(n:Nat)(hr:r.length=n)(hn:n<=98)(hy:∀y∈r,zoy (n+1) y)(m:Nat->Bool)(hm:∀q,q<=n->Hit (r++[hltI]) n 0 q->m q=true) :
  zfQ p ⟨zdZ (r++[hltI]) m⟩=0:=by
 have hlen:(zdZ (r++[hltI]) m).length=n+1:=by rw [zf3]; simp [hr]
 unfold zfQ
 have hc:decide (zjO ⟨zdZ (r++[hltI]) m⟩>4096)=false:=by
  have:=zmx (zdZ (r++[hltI]) m) 0 0
  rw [hlen] at this
  have h2:zjO ⟨zdZ (r++[hltI]) m⟩<=0+((n+1:Nat):Int):=this
  simp; omega
 rw [hc]
 obtain ⟨L,hL⟩:=zsB p hp (r++[hltI]) (by simp; omega) m (fun y h=>by
  rcases List.mem_append.1 h with h | h
  ·exact ⟨(hy y h).z,(hy y h).pA,(hy y h).pB⟩
  ·rw [List.mem_singleton.1 h]; exact ⟨by decide +kernel,by decide,by decide⟩) _ 0 [] rfl (by omega) (by intro s hs; cases hs)
 rw [List.drop_zero] at hL
 simp only [Bool.false_eq_true,if_false]
 rw [hL]
 obtain ⟨hL2,_⟩:=zkT _ _ _ _ hL
 have hlast:zin ⟨zdZ (r++[hltI]) m⟩=14:=by
  unfold zin
  have:(zdZ (r++[hltI]) m)[n]?=some (putL m n hltI):=zdP (by simp [← hr])
  have e:(((zdZ (r++[hltI]) m).length:Nat):Int)-1=(n:Int):=by rw [hlen]; omega
  show (rd (zdZ (r++[hltI]) m) (((zdZ (r++[hltI]) m).length:Int)-1)).Op=14
  rw [e,zcd this]; rfl
 have h0:(((zdZ (r++[hltI]) m).length:Int)==0)=false:=by rw [hlen]; simp; omega
 simp only [hlast,h0]
 rw [zre L _ 0 fun x hx hj=>?_]
 ·rfl
 ·obtain ⟨k,hk⟩:=List.mem_iff_getElem?.1 hx
  have hk2:k<(r++[hltI]).length:=by have:=(List.getElem?_eq_some_iff.1 hk).1; rw [zf3] at this; exact this
  obtain ⟨y,hyk⟩:∃y,(r++[hltI])[k]?=some y:=⟨_,List.getElem?_eq_getElem hk2⟩
  rw [zdP hyk] at hk
  obtain rfl:=Option.some.inj hk
  have hj2:zeE y=true:=hj
  by_cases hkn:k<n
  ·have hyr:r[k]?=some y:=by rw [List.getElem?_append_left (by omega)] at hyk; exact hyk
   obtain ⟨q,hq,hto⟩:=(hy y (List.mem_of_getElem? hyr)).j hj2
   have hmq:=hm q (by omega) ⟨k,y,Nat.zero_le _,hkn,hyk,hto⟩
   rw [zrt,hL2,List.nil_append,List.mem_flatMap]
   obtain ⟨z,hz⟩:∃z,(r++[hltI])[q]?=some z:=⟨_,List.getElem?_eq_getElem (by simp; omega)⟩
   refine ⟨putL m q z,List.mem_of_getElem? (zdP hz),?_⟩
   show y.To∈(if m q then [zdI (q:Int)] else [])
   rw [hmq,hto]; simp
  ·have:k=r.length:=by simp at hk2; omega
   subst this
   rw [List.getElem?_append_right (Nat.le_refl _),Nat.sub_self] at hyk
   obtain rfl:=Option.some.inj hyk
   exact absurd hj2 (by decide)
end Go.Vs
end
section
namespace Go.Vs
open Go.Lib
local instance tabPalShowF:Tab:=⟨fun _=>none⟩
def zp6(t:zad):Prop:=∃(r:List zae) (n:Nat) (m:Nat->Bool),r.length=n/\n<=98/\(∀y∈r,zoy (n+1) y)/\(∀q,q<=n->(m q=true ↔ Hit (r++[hltI]) n 0 q))/\t=⟨zdZ (r++[hltI]) m⟩
theorem zpo{o:List zae}(h:∀y∈o,y.zLb=[]):zdZ o (fun _=>false)=o:=by
 refine List.ext_getElem? fun k=>?_
 cases ho:o[k]? with
 | none=>unfold zdZ; rw [List.getElem?_mapIdx,ho]; rfl
 | some y =>
  rw [zdP ho]
  have:=h y (List.mem_of_getElem? ho)
  congr 1
  unfold putL
  simp only [Bool.false_eq_true,if_false]
  rw [← this]
theorem zs0(p0:List (List zaC))(hw:∀l∈p0,∀x∈l,za8 x)(p1 p2:Nat)(h1:p1<=60)(h2:p2<=90) :
  ∃r,zaP (zaW p0 (p1:Int) (p2:Int)) (0,[])=some r/\r.length<=p1/\∀t∈r,zp6 t/\t.Ins.length<=p2+1:=by
 have main:∀(k j:Nat) (out:List zad),p1-j=k->j<=p1->out.length=j->(∀y∈out,zp6 y/\y.Ins.length<=p2+1)->∃r,zaP (zaW p0 (p1:Int) (p2:Int)) ((j:Int),out)=some r/\r.length<=p1/\∀y∈r,zp6 y/\y.Ins.length<=p2+1:=by
  intro k
  induction k with
  | zero =>
   intro j out q1 q2 q3 q4
   exact ⟨out,zaH (by simp only [zaW]; rw [if_neg (by simp; omega)]),by omega,q4⟩
  | succ k ih =>
   intro j out q1 q2 q3 q4
   by_cases hj:j<p0.length
   ·have hx:p0[j]?=some p0[j]:=by rw [List.getElem?_eq_getElem]
    obtain ⟨n,hn,hn1,hn2⟩:∃n:Nat,(if (p2:Int)<(p0[j].length:Int) then (p2:Int) else (p0[j].length:Int))=(n:Int)/\n<=p0[j].length/\n<=p2:=by
     split
     ·exact ⟨p2,rfl,by omega,Nat.le_refl _⟩
     ·exact ⟨p0[j].length,rfl,Nat.le_refl _,by omega⟩
    obtain ⟨r,e1,e2,e3⟩:=zsZ p0 j p0[j] hx (hw _ (List.getElem_mem _)) n hn1 (by omega)
    obtain ⟨m,e4,e5⟩:=zsY n (by omega) (r++[hltI]) (by simp [e2]) n 0 (fun _=>false) (by omega) (by omega)
    rw [zpo (fun y hy=>by
     rcases List.mem_append.1 hy with h | h
     ·exact (e3 y h).lab
     ·rw [List.mem_singleton.1 h]; rfl)] at e4
    have e7:zaP (za2 (n:Int)) (0,(r++[zae.mk 14 false 0 (zap.mk 0 0 0 0) (zap.mk 0 0 0 0) (⟨#[]⟩:ByteArray) ([])]))=some (zdZ (r++[hltI]) m):=e4
    have hst:zaW p0 (p1:Int) (p2:Int) ((j:Int),out)=some (.inl ((j:Int)+1,out++[zad.mk (zdZ (r++[hltI]) m)])):=by
     simp only [zaW]
     rw [if_pos (by simp; omega),if_pos (zbj hx),zcd hx,hn]
     simp only [Option.bind_some]
     rw [e1]
     simp only [Option.bind_some]
     rw [if_pos (show Fits (r.length+1) from by unfold Fits; omega),e7]
     simp only [Option.bind_some]
     rw [if_pos (show Fits (out.length+1) from by unfold Fits; omega),wi (by omega)]
    obtain ⟨r3,e8,e9,e10⟩:=ih (j+1) (out++[zad.mk (zdZ (r++[hltI]) m)]) (by omega) (by omega) (by simp; omega) (fun t ht=>by
     rcases List.mem_append.1 ht with h | h
     ·exact q4 t h
     ·rw [List.mem_singleton.1 h]
      exact ⟨⟨r,n,m,e2,by omega,e3,fun q hq=>by rw [e5 q hq]; simp,rfl⟩,by show (zdZ (r++[hltI]) m).length<=_; rw [zf3,List.length_append,e2]; simp; omega⟩)
    exact ⟨r3,by rw [za4 hst]; exact e8,e9,e10⟩
   ·exact ⟨out,zaH (by simp only [zaW]; rw [if_neg (by simp; omega)]),by omega,q4⟩
 exact main p1 0 [] (by omega) (by omega) rfl (by intro y hy; cases hy)
theorem zr6:zbv symF (fun _=>(.inl ():Unit ⊕ Int)) 0 [] zeA=.inl ():=by decide +kernel
theorem zqm(p:zaj):∀(ts:List zad) (k:Nat),(∀t∈ts,zfQ p t=0)->zbv (thF p) (Sum.inl:Unit->Unit ⊕ Int) k () ts=.inl ()
 | [],k,_=>rfl
 | t::ts,k,h=>by
  have:thF p k () t=.inl ():=by unfold thF; rw [h t (List.mem_cons_self ..)]; rfl
  simp only [zbv,this]
  exact zqm p ts (k+1) fun y hy=>h y (List.mem_cons_of_mem _ hy)
theorem zpY(p0:List (List zaC))(hw:∀l∈p0,∀x∈l,za8 x)(p1 p2:Nat)(h1:p1<=60)(h2:p2<=90) :
  ∃p,zcf p0 (p1:Int) (p2:Int)=some p/\p.zSy=zeA/\(∀t∈p.zTh,zp6 t)/\p.zTh.length<=p1/\zhs p=0/\(∀t∈p.zTh,t.Ins.length<=p2+1):=by
 obtain ⟨r,e1,e2,e3⟩:=zs0 p0 hw p1 p2 h1 h2
 refine ⟨⟨zeA,r⟩,?_,rfl,fun t ht=>(e3 t ht).1,e2,?_,fun t ht=>(e3 t ht).2⟩
 ·unfold zcf
  rw [e1]; rfl
 ·unfold zhs
  have d:(decide (((zeA.length:Nat):Int)>64)||decide ((r.length:Int)>64))=false:=by
   have:decide ((r.length:Int)>64)=false:=by simp; omega
   rw [this]; rfl
  simp only [d,Bool.false_eq_true,if_false,zr6]
  rw [zqm ⟨zeA,r⟩ r 0 fun t ht=>?_]
  obtain ⟨r',n,m,q1,q2,q3,q4,rfl⟩:=(e3 t ht).1
  exact znU _ rfl r' n q1 q2 q3 m (fun q hq=>(q4 q hq).2)
end Go.Vs
end
