import Derived.Test.YtocjejladeeckaaGreatDoorPalT
import Derived.Test.YtocjejladeeckaaGreatDoorPS0
import Derived.Test.YtocjejladeeckaaGreatDoorPalNum
import Derived.Test.YtocjejladeeckaaGreatDoorPalF
set_option linter.all false
section
end
section
namespace Go.Vs
end Go.Vs
end
section
namespace Go.Vs
open Go.Lib
local instance tabPalShow7:Tab:=⟨fun _=>none⟩
theorem zfM{α β σ R:Type}(l:List α)(mk:Int->β->σ)(step:σ->Option (σ ⊕ R))(g:β->α->β)(fin:β->R)(sz:β->Nat)(B C:Nat)(a0:β)(h0:sz a0<=B)(hg:∀a x,x∈l->sz (g a x)<=sz a+C)
  (h1:∀(i:Nat) x,l[i]?=some x->∀a,sz a<=B+i * C->step (mk (i:Int) a)=some (.inl (mk ((i:Int)+1) (g a x)))) (h2:∀a,step (mk (l.length:Int) a)=some (.inr (fin a))) :
  zaR step (mk 0 a0)=some (fin (l.foldl g a0)):=by
 have:=zc5 l mk step (fun _ a x=>.inl (g a x)) fin (fun i a=>sz a<=B+i * C) (fun i x hx a ha=>⟨h1 i x hx a ha,fun a' e=>by
  obtain rfl:=Sum.inl.inj e
  have:=hg a x (List.mem_of_getElem? hx)
  rw [Nat.add_mul]; omega⟩) (fun a _=>h2 a) a0 (by omega)
 rw [this]
 congr 1
 generalize (0:Nat)=k
 clear this h0 h1 h2 hg
 induction l generalizing a0 k with
 | nil=>rfl
 | cons x l ih=>exact ih _ _
theorem zfs{α:Type}(g:ByteArray->α->ByteArray)(C:Nat):∀(l:List α) (hg:∀a x,x∈l->(g a x).size<=a.size+C) (a:ByteArray),(l.foldl g a).size<=a.size+l.length * C
 | [],_,a=>by simp
 | x::l,hg,a=>by
  have h1:=zfs g C l (fun a y hy=>hg a y (List.mem_cons_of_mem _ hy)) (g a x)
  have h2:=hg a x (List.mem_cons_self ..)
  simp only [List.foldl_cons,List.length_cons,Nat.add_mul]
  omega
def znt(a:ByteArray)(v:Int):ByteArray:=a++((⟨#[32]⟩:ByteArray)++zhb v)
def zh7(s:zam):ByteArray:=(((⟨#[115,121,109,32]⟩:ByteArray)++s.Name)++(⟨#[32]⟩:ByteArray))++zhb s.Size
def symT(a:ByteArray)(s:zam):ByteArray:=(s.Init.foldl znt (a++zh7 s))++(⟨#[10]⟩:ByteArray)
def labT(a:ByteArray)(s:ByteArray):ByteArray:=a++(s++(⟨#[58,10]⟩:ByteArray))
def zlA(syms:List ByteArray)(a:ByteArray)(x:zae):ByteArray:=(x.zLb.foldl labT a)++(((⟨#[9]⟩:ByteArray)++insT x syms)++(⟨#[10]⟩:ByteArray))
def thT(syms:List ByteArray)(a:ByteArray)(t:zad):ByteArray:=t.Ins.foldl (zlA syms) (a++(⟨#[116,104,114,101,97,100,10]⟩:ByteArray))
def zfK(p:zan):List ByteArray:=p.zSy.map (·.Name)
def zoo(p:zan):ByteArray:=if zkp p != 0 then ⟨#[]⟩ else p.zTh.foldl (thT (zfK p)) (p.zSy.foldl symT ⟨#[]⟩)
section sizes
theorem z1:(⟨#[32]⟩:ByteArray).size=1:=rfl
theorem z2:(⟨#[10]⟩:ByteArray).size=1:=rfl
theorem z3:(⟨#[115,121,109,32]⟩:ByteArray).size=4:=rfl
theorem z4:(⟨#[58,10]⟩:ByteArray).size=2:=rfl
theorem z5:(⟨#[9]⟩:ByteArray).size=1:=rfl
theorem z6:(⟨#[116,104,114,101,97,100,10]⟩:ByteArray).size=7:=rfl
theorem z7:(⟨#[]⟩:ByteArray).size=0:=rfl
theorem z8:(⟨#[91]⟩:ByteArray).size=1:=rfl
theorem z9:(⟨#[93]⟩:ByteArray).size=1:=rfl
theorem z10:(⟨#[108,111,99,107,32]⟩:ByteArray).size=5:=rfl
theorem z11:(⟨#[44,32]⟩:ByteArray).size=2:=rfl
theorem zk3{a:ByteArray}{v:Int}(h:I64 v):(znt a v).size<=a.size+22:=by
 have:=ze4 h
 unfold znt; simp only [zbt,z1]; omega
theorem zjb{s:zam}(h:zoZ s):(zh7 s).size<=1026:=by
 have:=ze4 h.size
 have:=h.name
 unfold zh7; simp only [zbt,z1,z3]; omega
theorem zk2{s:zam}(h:zoZ s)(a:ByteArray):(s.Init.foldl znt a).size<=a.size+2200:=by
 have:=zfs znt 22 s.Init (fun a x hx=>zk3 (h.init x hx)) a
 have:=h.n
 have:s.Init.length * 22<=100 * 22:=Nat.mul_le_mul_right _ h.n
 omega
theorem zl6{s:zam}(h:zoZ s)(a:ByteArray):(symT a s).size<=a.size+3300:=by
 have h1:=zk2 h (a++zh7 s)
 have h2:=zjb h
 unfold symT; simp only [zbt,z2] at h1 ⊢; omega
def zmV(syms:List ByteArray):Prop:=∀s∈syms,s.size<=1000
theorem zmV.syms{syms}(h:zmV syms):zSy syms:=fun s hs=>by have:=h s hs; omega
theorem zkX(o:zap)(syms:List ByteArray)(hn:I64 o.N)(hs:zmV syms):(opdT o syms).size<=1023:=by
 have hz:=ze4 hn
 have hy:=zib hs o.Sym
 have hr:=ziu o.Reg
 unfold opdT
 split
 ·rw [z7]; omega
 split
 ·omega
 split
 ·omega
 split
 ·rw [z7]; omega
 split <;> simp only [zbt,z8,z9] <;> omega
theorem zmH(x:zae)(syms:List ByteArray)(hx:zlY x)(hs:zmV syms):(insT x syms).size<=2100:=by
 have ha:=zkX x.A syms hx.a hs
 have hb:=zkX x.B syms hx.b hs
 have ho:=zlu x.Op x.Cond
 have ht:=hx.to1
 have hS:(if x.Lock then (⟨#[108,111,99,107,32]⟩:ByteArray)++opT x.Op x.Cond else opT x.Op x.Cond).size<=15:=by
  split
  ·rw [zbt,z10]; omega
  ·omega
 unfold insT
 split
 ·rw [z7]; omega
 simp only
 generalize (if x.Lock then (⟨#[108,111,99,107,32]⟩:ByteArray)++opT x.Op x.Cond else opT x.Op x.Cond)=S at hS ⊢
 split
 ·simp only [zbt,z1]; omega
 split
 ·omega
 split
 ·rw [z7]; omega
 ·simp only [zbt,z1,z11]; omega
theorem zmC{x:zae}(h:zlY x)(a:ByteArray):(x.zLb.foldl labT a).size<=a.size+100200:=by
 have:=zfs labT 1002 x.zLb (fun a s hs=>by have:=h.lab s hs; unfold labT; simp only [zbt,z4]; omega) a
 have:x.zLb.length * 1002<=100 * 1002:=Nat.mul_le_mul_right _ h.n
 omega
theorem zkZ{syms:List ByteArray}(hs:zmV syms){x:zae}(h:zlY x)(a:ByteArray):(zlA syms a x).size<=a.size+102400:=by
 have h1:=zmC h a
 have h2:=zmH x syms h hs
 unfold zlA; simp only [zbt,z2,z5]; omega
theorem zqL{syms:List ByteArray}(hs:zmV syms){t:zad}(h:ThOk t)(a:ByteArray):(thT syms a t).size<=a.size+10241000:=by
 unfold thT
 have:=zfs (zlA syms) 102400 t.Ins (fun a x hx=>zkZ hs (h.ins x hx) a) (a++(⟨#[116,104,114,101,97,100,10]⟩:ByteArray))
 have:t.Ins.length * 102400<=100 * 102400:=Nat.mul_le_mul_right _ h.n
 simp only [zbt,z6] at *; omega
theorem zm3{p:zan}(h:zku p):zmV (zfK p):=by
 intro s hs
 obtain ⟨y,hy,rfl⟩:=List.mem_map.1 hs
 exact (h.sym y hy).name
end sizes
theorem catB{a b:ByteArray}(h:a.size+b.size<=5000000000):zco a b:=by unfold zco; omega
end Go.Vs
end
section
namespace Go.Vs
open Go.Lib
local instance tabPalShow8:Tab:=⟨fun _=>none⟩
theorem znb(p:zan)(i:Nat)(s:zam)(hx:p.zSy[i]?=some s)(hk:zoZ s)(a:ByteArray)(ha:a.size<=2000000):zaR (zcv i p) (a,0)=some (s.Init.foldl znt a):=by
 have hn:=hk.n
 refine zfM s.Init (fun i (a:ByteArray)=>(a,i)) (zcv i p) znt id (·.size) 2000000 22 a ha (fun a x hx=>zk3 (hk.init x hx)) (fun j v hv b hb=>?_) (fun b=>?_)
 ·have hj:j<=1000:=by have:=(List.getElem?_eq_some_iff.1 hv).1; omega
  have hz:=ze4 (hk.init v (List.mem_of_getElem? hv))
  simp only [zcv]
  simp only [zcb hx,if_pos (zbi hx)]
  rw [if_pos (zfE hv),if_pos (zbi hv),zcb hv,zfa _ (hk.init v (List.mem_of_getElem? hv)),wi (by omega)]
  simp only [Option.bind_some]
  rw [if_pos (catB (by rw [z1]; omega)),if_pos (catB (by rw [zbt,z1]; omega))]
  rfl
 ·simp only [zcv,zcb hx,if_pos (zbi hx)]
  rw [if_neg (by simp)]; rfl
theorem zov(p:zan)(hp:zku p):zaR (zcw p) ((⟨#[]⟩:ByteArray),0)=some (p.zSy.foldl symT ⟨#[]⟩):=by
 have hn:=hp.ns
 refine zfM p.zSy (fun i (b:ByteArray)=>(b,i)) (zcw p) symT id (·.size) 0 3300 ⟨#[]⟩ (by simp [z7])
  (fun b s hs=>zl6 (hp.sym s hs) b) (fun j s hs b hb=>?_) (fun b=>?_)
 ·have hj:j<=100:=by have:=(List.getElem?_eq_some_iff.1 hs).1; omega
  have hj2:j * 3300<=100 * 3300:=Nat.mul_le_mul_right _ hj
  have hk:=hp.sym s (List.mem_of_getElem? hs)
  have hz:=ze4 hk.size
  have hm:=hk.name
  have hh:=zjb hk
  have hin:=zk2 hk (b++zh7 s)
  try simp only at hb
  simp only [zcw]
  simp only [if_pos (zfE hs),if_pos (zbi hs),zcb hs]
  rw [zfa _ hk.size,wi (by omega)]
  simp only [Option.bind_some]
  have c1:zco (⟨#[115,121,109,32]⟩:ByteArray) s.Name:=catB (by rw [z3]; omega)
  have c2:zco ((⟨#[115,121,109,32]⟩:ByteArray)++s.Name) (⟨#[32]⟩:ByteArray):=catB (by rw [zbt,z3,z1]; omega)
  have c3:zco (((⟨#[115,121,109,32]⟩:ByteArray)++s.Name)++(⟨#[32]⟩:ByteArray)) (zhb s.Size):=catB (by rw [zbt,zbt,z3,z1]; omega)
  simp only [if_pos c1,if_pos c2,if_pos c3]
  have e:((((⟨#[115,121,109,32]⟩:ByteArray)++s.Name)++(⟨#[32]⟩:ByteArray))++zhb s.Size)=zh7 s:=rfl
  rw [e,if_pos (catB (show b.size+(zh7 s).size<=_ by omega))]
  rw [znb p j s hs hk _ (by rw [zbt]; omega)]
  simp only [Option.bind_some]
  rw [if_pos (catB (by rw [zbt] at hin; rw [z2]; omega))]
  rfl
 ·simp only [zcw]
  rw [if_neg (by simp)]; rfl
theorem zow(x:zae)(hk:zlY x)(a:ByteArray)(ha:a.size<=2000000000):zaR (zct x.zLb) (a,0)=some (x.zLb.foldl labT a):=by
 have hn:=hk.n
 refine zfM x.zLb (fun i (a:ByteArray)=>(a,i)) (zct x.zLb) labT id (·.size) 2000000000 1002 a ha (fun a s hs=>by have:=hk.lab s hs; unfold labT; simp only [zbt,z4]; omega) (fun j s hs b hb=>?_) (fun b=>?_)
 ·have hj:j<=100:=by have:=(List.getElem?_eq_some_iff.1 hs).1; omega
  have hj2:j * 1002<=100 * 1002:=Nat.mul_le_mul_right _ hj
  have hz:=hk.lab s (List.mem_of_getElem? hs)
  simp only [zct]
  rw [if_pos (zfE hs),if_pos (zbi hs),zcb hs,wi (by omega),if_pos (catB (by rw [z4]; omega)),if_pos (catB (by rw [zbt,z4]; omega))]
  rfl
 ·simp only [zct]
  rw [if_neg (by simp)]; rfl
theorem zna(p:zan)(i:Nat)(t:zad)(hx:p.zTh[i]?=some t)(hk:ThOk t)(syms:List ByteArray)(hq:zmV syms)(a:ByteArray)(ha:a.size<=1500000000) :
  zaR (zcu i p syms) (a,0)=some (t.Ins.foldl (zlA syms) a):=by
 have hn:=hk.n
 refine zfM t.Ins (fun i (a:ByteArray)=>(a,i)) (zcu i p syms) (zlA syms) id (·.size) 1500000000 102400 a ha (fun a x hx=>zkZ hq (hk.ins x hx) a) (fun j x hs b hb=>?_) (fun b=>?_)
 ·have hj:j<=100:=by have:=(List.getElem?_eq_some_iff.1 hs).1; omega
  have hj2:j * 102400<=100 * 102400:=Nat.mul_le_mul_right _ hj
  have hl:=hk.ins x (List.mem_of_getElem? hs)
  have hz:=zmH x syms hl hq
  have hls:=zmC hl b
  try simp only at hb
  simp only [zcu]
  simp only [zcb hx,if_pos (zbi hx)]
  rw [if_pos (zfE hs),if_pos (zbi hs)]
  simp only [zcb hs,Option.bind_some]
  have eta:zae.mk x.Op x.Lock x.Cond x.A x.B x.To x.zLb=x:=rfl
  rw [eta,zow x hl b (by omega),zkw x syms hl.toInsOk hq.syms,wi (by omega)]
  simp only [Option.bind_some]
  rw [if_pos (catB (by rw [z5]; omega)),if_pos (catB (by rw [zbt,z5,z2]; omega)),if_pos (catB (by simp only [zbt,z5,z2]; omega))]
  rfl
 ·simp only [zcu,zcb hx,if_pos (zbi hx)]
  rw [if_neg (by simp)]; rfl
theorem zhh(p:zan)(hn:p.zSy.length<=1000000):zdr p=some (zfK p):=by
 unfold zdr
 have:=zfM p.zSy (fun i (b:List ByteArray)=>(i,b)) (zb8 p) (fun b s=>b++[s.Name]) id (·.length) 0 1 [] (by simp) (fun b s hs=>by simp) (fun j s hs b hb=>?_) (fun b=>?_)
 ·rw [this]
  simp only [Option.bind_some,id]
  have key:∀(l:List zam) (L:List ByteArray),l.foldl (fun b s=>b++[s.Name]) L=L++l.map (·.Name):=by
   intro l
   induction l with
   | nil=>intro L; simp
   | cons s l ih=>intro L; simp only [List.foldl_cons]; rw [ih]; simp
  rw [key]; rfl
 ·have hj:j<1000000:=by have:=(List.getElem?_eq_some_iff.1 hs).1; omega
  simp only [zb8]
  rw [if_pos (zfE hs),if_pos (zbi hs),zcb hs,wi (by omega),if_pos (show Fits (b.length+1) from by unfold Fits; omega)]
  rfl
 ·simp only [zb8]
  rw [if_neg (by simp)]; rfl
theorem zng(p:zan)(hp:zku p):zdX p=some (zoo p):=by
 have hn:=hp.nt
 have hnm:=zm3 hp
 have hns:=hp.ns
 unfold zdX zoo
 rw [zmk p hp]
 simp only [Option.bind_some]
 split
 ·rfl
 rw [zov p hp,zhh p (by omega)]
 simp only [Option.bind_some]
 have hsz:(p.zSy.foldl symT ⟨#[]⟩).size<=330000:=by
  have:=zfs symT 3300 p.zSy (fun a s hs=>zl6 (hp.sym s hs) a) ⟨#[]⟩
  have:p.zSy.length * 3300<=100 * 3300:=Nat.mul_le_mul_right _ hp.ns
  rw [z7] at *; omega
 have:=zfM p.zTh (fun i (a:ByteArray)=>(a,i)) (zc8 p (zfK p)) (thT (zfK p)) id (·.size) 330000 10241000 _ hsz (fun a t ht=>zqL hnm (hp.th t ht) a) (fun j t hs b hb=>?_) (fun b=>?_)
 ·rw [this]
  simp only [Option.bind_some,id]
 ·have hj:j<100:=by have:=(List.getElem?_eq_some_iff.1 hs).1; omega
  have hj2:j * 10241000<=100 * 10241000:=Nat.mul_le_mul_right _ (by omega)
  try simp only at hb
  simp only [zc8]
  rw [if_pos (zfE hs),if_pos (catB (by rw [z6]; omega)),wi (by omega)]
  rw [zna p j t hs (hp.th t (List.mem_of_getElem? hs)) (zfK p) hnm _ (by rw [zbt,z6]; omega)]
  rfl
 ·simp only [zc8]
  rw [if_neg (by simp)]; rfl
end Go.Vs
end
section
namespace Go.Vs
end Go.Vs
end
section
namespace Go.Vs
def Wi(k:IntKind)(n:Int):Prop:=k.min<=n/\n<=k.max
theorem Wi.i64{n:Int}(h:Wi .i64 n):I64 n:=h
structure za7 (x:zaD):Prop where
 Kind:Wi .i64 x.Kind
 A:Wi .i64 x.A
 B:Wi .i64 x.B
 C:Wi .i64 x.C
 N:Wi .i64 x.N
end Go.Vs
end
section
namespace Go.Vs
open Go.Lib
local instance tabPalShow9:Tab:=⟨fun _=>none⟩
end Go.Vs
end
section
namespace Go.Vs
end Go.Vs
end
section
namespace Go.Vs
open Go.Lib
local instance tabPalShowA:Tab:=⟨fun _=>none⟩
theorem z64:I64 0:=by unfold I64; decide
theorem zgy{p:Int}(h:I64 p)(n:Int)(hn:0<n)(hn2:n<=1000):∃i:Nat,zaV p n=some (i:Int)/\(i:Int)<n:=by
 obtain ⟨i,h1,h2,h3⟩:=zmo h n hn hn2
 exact ⟨i.toNat,by rw [h1]; congr 1; omega,by omega⟩
theorem zsh{a:Int}(h:I64 a):∃o,zaS a=some o/\I64 o.N:=by
 obtain ⟨i,h1,h2⟩:=zgy h 4 (by omega) (by omega)
 refine ⟨⟨1,i,0,0⟩,?_,z64⟩
 unfold zaS
 rw [h1]; rfl
theorem div3{a:Int}(h:I64 a):I64 (IntKind.wrap .i64 (Int.tdiv a 3)):=by
 have h1:(Int.tdiv a 3).natAbs<=a.natAbs:=by rw [Int.natAbs_tdiv]; exact Nat.div_le_self _ _
 obtain ⟨h2,h3⟩:=h
 rw [wi64]
 constructor <;> omega
theorem zsp{b n:Int}(h:I64 b)(hn:I64 n):∃o,zbh b n=some o/\I64 o.N:=by
 obtain ⟨i,h1,h2⟩:=zgy h 3 (by omega) (by omega)
 unfold zbh
 rw [h1]
 simp only [Option.bind_some]
 split
 ·obtain ⟨o,h3,h4⟩:=zsh (div3 h)
  exact ⟨o,by rw [h3]; rfl,h4⟩
 ·exact ⟨_,rfl,hn⟩
def memV(v1:Int):Option zap :=
 (some ([1,2,1])).bind fun l3 =>
 if ((Int.tmod v1 5)==4)=true then (some (zap.mk 4 (IntKind.wrap .i64 (Int.tdiv v1 15)) (Int.tmod (IntKind.wrap .i64 (Int.tdiv v1 5)) 3) 0)) else (if InB (Int.tmod (IntKind.wrap .i64 (Int.tdiv v1 5)) 3) l3.length then (if ¬(rd l3 (Int.tmod (IntKind.wrap .i64 (Int.tdiv v1 5)) 3))=0 then ((some (Int.tmod (Int.tmod v1 5) (rd l3 (Int.tmod (IntKind.wrap .i64 (Int.tdiv v1 5)) 3)))).bind fun n8 =>
  some (zap.mk 3 0 (Int.tmod (IntKind.wrap .i64 (Int.tdiv v1 5)) 3) n8)) else none) else none)
def zf0(o:zap):Bool:=opdB o&&memB o&&decide (0<=o.Sym/\o.Sym<=2/\0<=o.N/\o.N<=1/\(o.Kind=3->o.N<rd [1,2,1] o.Sym))
theorem zsy:((List.range 60).all fun v=>match memV (v:Int) with | some o=>zf0 o | none=>false)=true:=by decide +kernel
theorem zq7{a:Int}(h:I64 a):∃o,za0 a=some o/\zf0 o=true:=by
 obtain ⟨i,h1,h2⟩:=zgy h 60 (by omega) (by omega)
 have h3:=(List.all_eq_true.1 zsy) i (by simp; omega)
 have h4:za0 a=memV i:=by
  unfold za0 memV
  rw [h1]; rfl
 rw [h4]
 cases hv:memV (i:Int) with
 | none=>rw [hv] at h3; cases h3
 | some o=>rw [hv] at h3; exact ⟨o,rfl,h3⟩
theorem zjC{o:zap}(h:zf0 o=true):I64 o.N:=by
 unfold zf0 at h
 simp only [Bool.and_eq_true,decide_eq_true_eq] at h
 unfold I64; omega
theorem zlG(k:Int):∃s,zbU k=some s/\s.size=3:=by
 unfold zbU
 rw [if_pos (catB (by show 1+2<=_; omega))]
 exact ⟨_,rfl,by rw [zbt]; rfl⟩
structure BookIns (y:zae):Prop where
 a:I64 y.A.N
 b:I64 y.B.N
 to:y.To.size<=3
 lab:y.zLb=[]
def zmW(o:Option zae):Prop:=∃y,o=some y/\BookIns y
theorem zjG{b:Bool}{x y:Option zae}(h1:b=true->zmW x)(h2:b=false->zmW y):zmW (if b=true then x else y):=by cases b <;> simp_all
theorem zrC{x:zaD}(hw:za7 x){n:Int}(hn:0<n)(hn2:n<=1000):∃y,zdm x n=some y/\BookIns y:=by
 obtain ⟨v1,e1,l1⟩:=zgy hw.C.i64 5 (by omega) (by omega)
 obtain ⟨v3,e3,l3⟩:=zgy hw.Kind.i64 22 (by omega) (by omega)
 obtain ⟨rA,eA,nA⟩:=zsh hw.A.i64
 obtain ⟨rB,eB,nB⟩:=zsh hw.B.i64
 obtain ⟨mA,fA,gA⟩:=zq7 hw.A.i64
 obtain ⟨mB,fB,gB⟩:=zq7 hw.B.i64
 obtain ⟨pB,hB,kB⟩:=zsp hw.B.i64 hw.N.i64
 obtain ⟨j,ej,lj⟩:=zgy hw.A.i64 n hn hn2
 obtain ⟨c,ec,lc⟩:=zgy hw.C.i64 10 (by omega) (by omega)
 obtain ⟨t,et,lt⟩:=zlG j
 have qA:=zjC gA
 have qB:=zjC gB
 have zt:(⟨#[]⟩:ByteArray).size<=3:=by decide
 have lt3:t.size<=3:=by omega
 have one:∀op lk cd A B to,I64 A.N->I64 B.N->to.size<=3->zmW (some (zae.mk op lk cd A B to [])):=fun op lk cd A B to h1 h2 h3=>⟨_,rfl,⟨h1,h2,h3,rfl⟩⟩
 have g4:∀b,zmW (zcn x v1 v3 n b):=by
  intro b
  unfold zcn zd2
  repeat' refine zjG (fun _=>?_) (fun _=>?_)
  all_goals try simp only [Option.bind_some,eA,eB,fA,fB,hB,ej,ec,et]
  all_goals exact one _ _ _ _ _ _ (by first | assumption | exact z64) (by first | assumption | exact z64) (by assumption)
 have g3:∀b,zmW (zbx x v3 v1 n b):=by
  intro b
  unfold zbx
  repeat' refine zjG (fun _=>?_) (fun _=>?_)
  all_goals try simp only [Option.bind_some,eA,eB,fA,fB,hB,ej,ec,et]
  all_goals first | exact g4 _ | exact one _ _ _ _ _ _ (by first | assumption | exact z64) (by first | assumption | exact z64) (by assumption)
 have g2:∀b,zmW (zbX x v3 v1 n b):=by
  intro b
  unfold zbX
  repeat' refine zjG (fun _=>?_) (fun _=>?_)
  all_goals try simp only [Option.bind_some,eA,eB,fA,fB,hB,ej,ec,et]
  all_goals first | exact g3 _ | exact one _ _ _ _ _ _ (by first | assumption | exact z64) (by first | assumption | exact z64) (by assumption)
 show zmW _
 unfold zdm
 rw [e1,e3]
 simp only [Option.bind_some]
 repeat' refine zjG (fun _=>?_) (fun _=>?_)
 all_goals try simp only [Option.bind_some,eA,eB,fA,fB,hB,ej,ec,et]
 all_goals first | exact g2 _ | exact one _ _ _ _ _ _ (by first | assumption | exact z64) (by first | assumption | exact z64) (by assumption)
theorem BookIns.ok{y:zae}(h:BookIns y):InsOk y:=⟨by have:=h.to; unfold Sm; omega,h.a,h.b⟩
theorem BookIns.lb{y:zae}(h:BookIns y):zlY y:=⟨h.ok,by rw [h.lab]; decide,by have:=h.to; omega,by rw [h.lab]; intro s hs; cases hs⟩
end Go.Vs
end
section
namespace Go.Vs
open Go.Lib
local instance tabPalShowB:Tab:=⟨fun _=>none⟩
structure zkK (y:zae):Prop where
 a:I64 y.A.N
 b:I64 y.B.N
 to:y.To.size<=3
 n:y.zLb.length<=1
 lab:∀s∈y.zLb,s.size<=3
theorem BookIns.l{y:zae}(h:BookIns y):zkK y:=⟨h.a,h.b,h.to,by rw [h.lab]; decide,by rw [h.lab]; intro s hs; cases hs⟩
theorem zkK.ok{y:zae}(h:zkK y):zlY y:=⟨⟨by have:=h.to; unfold Sm; omega,h.a,h.b⟩,by have:=h.n; omega,by have:=h.to; omega,fun s hs=>by have:=h.lab s hs; omega⟩
theorem zsT(p0:List (List zaD))(i:Nat)(l:List zaD)(hi:p0[i]?=some l)(hl:∀x∈l,za7 x)(n:Nat)(hn:n<=l.length)(hn8:n<=100) :
  ∃r,zaR (za3 (n:Int) (i:Int) p0) (0,[])=some r/\r.length=n/\∀y∈r,BookIns y:=by
 have main:∀(k j:Nat) (out:List zae),n-j=k->j<=n->out.length=j->(∀y∈out,BookIns y)->∃r,zaR (za3 (n:Int) (i:Int) p0) ((j:Int),out)=some r/\r.length=n/\∀y∈r,BookIns y:=by
  intro k
  induction k with
  | zero =>
   intro j out h1 h2 h3 h4
   obtain rfl:j=n:=by omega
   exact ⟨out,zaI (by simp only [za3]; rw [if_neg (by simp)]),h3,h4⟩
  | succ k ih =>
   intro j out h1 h2 h3 h4
   have hx:l[j]?=some l[j]:=by rw [List.getElem?_eq_getElem]
   obtain ⟨y,e1,e2⟩:=zrC (hl l[j] (List.getElem_mem _)) (n:=(n:Int)+1) (by omega) (by omega)
   have hst:za3 (n:Int) (i:Int) p0 ((j:Int),out)=some (.inl ((j:Int)+1,out++[y])):=by
    simp only [za3]
    rw [if_pos (by simp; omega),if_pos (zbi hi),zcb hi,if_pos (zbi hx),zcb hx,wi (by omega),e1,wi (by omega)]
    simp only [Option.bind_some]
    rw [if_pos (show Fits (out.length+1) from by unfold Fits; omega)]
   obtain ⟨r,e3,e4,e5⟩:=ih (j+1) (out++[y]) (by omega) (by omega) (by simp; omega) (fun z hz=>by
    rcases List.mem_append.1 hz with h | h
    ·exact h4 z h
    ·rw [List.mem_singleton.1 h]; exact e2)
   exact ⟨r,by rw [za8 hst]; exact e3,e4,e5⟩
 exact main n 0 [] (by omega) (by omega) rfl (by intro y hy; cases hy)
theorem zr6{α:Type}{P:α->Prop}{l:List α}{i:Nat}{a:α}(hl:∀x∈l,P x)(ha:P a):∀x∈l.set i a,P x:=by
 intro x hx
 rcases List.mem_or_eq_of_mem_set hx with h | h
 ·exact hl x h
 ·rw [h]; exact ha
theorem zsR(n:Nat)(hn:n<=100)(i:Nat)(hi:i<n):∀(k j:Nat) (l:List zae),n+1-j=k->j<=n+1->l.length=n+1->(∀y∈l,zkK y) ->
  ∃r,zaR (za1 (n:Int) (i:Int)) ((j:Int),l)=some r/\r.length=n+1/\∀y∈r,zkK y:=by
 intro k
 induction k with
 | zero =>
  intro j l h1 h2 h3 h4
  exact ⟨l,zaI (by simp only [za1]; rw [if_neg (by simp; omega)]),h3,h4⟩
 | succ k ih =>
  intro j l h1 h2 h3 h4
  obtain ⟨t,e1,e2⟩:=zlG (j:Int)
  have hj:j<l.length:=by omega
  have hx:l[j]?=some l[j]:=by rw [List.getElem?_eq_getElem]
  have hxi:l[i]?=some (l[i]'(by omega)):=by rw [List.getElem?_eq_getElem]
  have hst:∃l',za1 (n:Int) (i:Int) ((j:Int),l)=some (.inl ((j:Int)+1,l'))/\l'.length=n+1/\∀y∈l',zkK y:=by
   simp only [za1]
   rw [if_pos (by simp; omega),e1]
   simp only [Option.bind_some,if_pos (zbi hxi),zcb hxi,zcb hx,zbi hx,implies_true,if_true]
   unfold zdd
   rw [wi (by omega)]
   cases hc:(decide (t=(l[i]'(by omega)).To)&&(((l[j].zLb).length:Int)==0))
   ·exact ⟨l,by simp,h3,h4⟩
   ·refine ⟨_,by simp only [if_true]; rfl,by simp [h3],?_⟩
    have hb:=h4 l[j] (List.getElem_mem _)
    exact zr6 h4 ⟨hb.a,hb.b,hb.to,by simp,fun s hs=>by rw [List.mem_singleton.1 hs]; omega⟩
  obtain ⟨l',e3,e4,e5⟩:=hst
  obtain ⟨r,e6,e7,e8⟩:=ih (j+1) l' (by omega) (by omega) e4 e5
  exact ⟨r,by rw [za8 e3]; exact e6,e7,e8⟩
theorem zsS(n:Nat)(hn:n<=100):∀(k j:Nat) (l:List zae),n-j=k->j<=n->l.length=n+1->(∀y∈l,zkK y) ->
  ∃r,zaR (za2 (n:Int)) ((j:Int),l)=some r/\r.length=n+1/\∀y∈r,zkK y:=by
 intro k
 induction k with
 | zero =>
  intro j l h1 h2 h3 h4
  exact ⟨l,zaI (by simp only [za2]; rw [if_neg (by simp; omega)]),h3,h4⟩
 | succ k ih =>
  intro j l h1 h2 h3 h4
  have hx:l[j]?=some (l[j]'(by omega)):=by rw [List.getElem?_eq_getElem]
  have hst:∃l',za2 (n:Int) ((j:Int),l)=some (.inl ((j:Int)+1,l'))/\l'.length=n+1/\∀y∈l',zkK y:=by
   simp only [za2]
   rw [if_pos (by simp; omega),if_pos (zbi hx)]
   unfold zde
   rw [wi (by omega)]
   split
   ·exact ⟨l,rfl,h3,h4⟩
   ·obtain ⟨r,e1,e2,e3⟩:=zsR n hn j (by omega) (n+1) 0 l (by omega) (by omega) h3 h4
    have e0:zaR (za1 (n:Int) (j:Int)) (0,l)=some r:=e1
    rw [e0]
    exact ⟨r,rfl,e2,e3⟩
  obtain ⟨l',e3,e4,e5⟩:=hst
  obtain ⟨r,e6,e7,e8⟩:=ih (j+1) l' (by omega) (by omega) e4 e5
  exact ⟨r,by rw [za8 e3]; exact e6,e7,e8⟩
theorem ztK:zkK (zae.mk 14 false 0 (zap.mk 0 0 0 0) (zap.mk 0 0 0 0) (⟨#[]⟩:ByteArray) ([])):=⟨z64,z64,by decide,by decide,by intro s hs; cases hs⟩
theorem zsU(p0:List (List zaD))(hw:∀l∈p0,∀x∈l,za7 x)(p1 p2:Nat)(h1:p1<=100)(h2:p2<=90) :
  ∃r,zaR (zaU p0 (p1:Int) (p2:Int)) (0,[])=some r/\r.length<=p1/\∀t∈r,ThOk t:=by
 have main:∀(k j:Nat) (out:List zad),p1-j=k->j<=p1->out.length=j->(∀y∈out,ThOk y)->∃r,zaR (zaU p0 (p1:Int) (p2:Int)) ((j:Int),out)=some r/\r.length<=p1/\∀y∈r,ThOk y:=by
  intro k
  induction k with
  | zero =>
   intro j out q1 q2 q3 q4
   exact ⟨out,zaI (by simp only [zaU]; rw [if_neg (by simp; omega)]),by omega,q4⟩
  | succ k ih =>
   intro j out q1 q2 q3 q4
   by_cases hj:j<p0.length
   ·have hx:p0[j]?=some p0[j]:=by rw [List.getElem?_eq_getElem]
    obtain ⟨n,hn,hn1,hn2⟩:∃n:Nat,(if (p2:Int)<(p0[j].length:Int) then (p2:Int) else (p0[j].length:Int))=(n:Int)/\n<=p0[j].length/\n<=p2:=by
     split
     ·exact ⟨p2,rfl,by omega,Nat.le_refl _⟩
     ·exact ⟨p0[j].length,rfl,Nat.le_refl _,by omega⟩
    obtain ⟨r,e1,e2,e3⟩:=zsT p0 j p0[j] hx (hw _ (List.getElem_mem _)) n hn1 (by omega)
    obtain ⟨r2,e4,e5,e6⟩:=zsS n (by omega) n 0 (r++[zae.mk 14 false 0 (zap.mk 0 0 0 0) (zap.mk 0 0 0 0) (⟨#[]⟩:ByteArray) ([])]) (by omega) (by omega) (by simp [e2]) (fun y hy=>by
     rcases List.mem_append.1 hy with h | h
     ·exact (e3 y h).l
     ·rw [List.mem_singleton.1 h]; exact ztK)
    have e7:zaR (za2 (n:Int)) (0,(r++[zae.mk 14 false 0 (zap.mk 0 0 0 0) (zap.mk 0 0 0 0) (⟨#[]⟩:ByteArray) ([])]))=some r2:=e4
    have hst:zaU p0 (p1:Int) (p2:Int) ((j:Int),out)=some (.inl ((j:Int)+1,out++[zad.mk r2])):=by
     simp only [zaU]
     rw [if_pos (by simp; omega),if_pos (zbi hx),zcb hx,hn]
     simp only [Option.bind_some]
     rw [e1]
     simp only [Option.bind_some]
     rw [if_pos (show Fits (r.length+1) from by unfold Fits; omega),e7]
     simp only [Option.bind_some]
     rw [if_pos (show Fits (out.length+1) from by unfold Fits; omega),wi (by omega)]
    obtain ⟨r3,e8,e9,e10⟩:=ih (j+1) (out++[zad.mk r2]) (by omega) (by omega) (by simp; omega) (fun t ht=>by
     rcases List.mem_append.1 ht with h | h
     ·exact q4 t h
     ·rw [List.mem_singleton.1 h]
      exact ⟨by show r2.length<=100; omega,fun x hx=>(e6 x hx).ok⟩)
    exact ⟨r3,by rw [za8 hst]; exact e8,e9,e10⟩
   ·exact ⟨out,zaI (by simp only [zaU]; rw [if_neg (by simp; omega)]),by omega,q4⟩
 exact main p1 0 [] (by omega) (by omega) rfl (by intro y hy; cases hy)
def zes:List zam:=[(zam.mk (⟨#[120]⟩:ByteArray) 1 ([])),(zam.mk (⟨#[121]⟩:ByteArray) 2 ([1])),(zam.mk (⟨#[122]⟩:ByteArray) 1 ([0]))]
theorem znD:∀s∈zes,zoZ s:=by
 intro s hs
 have i1:I64 1:=by unfold I64; decide
 have i2:I64 2:=by unfold I64; decide
 unfold zes at hs
 simp only [List.mem_cons,List.mem_nil_iff,or_false] at hs
 rcases hs with rfl | rfl | rfl
 ·exact ⟨by decide,by decide,i1,by intro v hv; cases hv⟩
 ·exact ⟨by decide,by decide,i2,by intro v hv; rw [List.mem_singleton.1 hv]; exact i1⟩
 ·exact ⟨by decide,by decide,i1,by intro v hv; rw [List.mem_singleton.1 hv]; exact z64⟩
theorem zqr(p0:List (List zaD))(hw:∀l∈p0,∀x∈l,za7 x)(p1 p2:Nat)(h1:p1<=100)(h2:p2<=90):∃p,zcy p0 (p1:Int) (p2:Int)=some p/\zku p:=by
 obtain ⟨r,e1,e2,e3⟩:=zsU p0 hw p1 p2 h1 h2
 refine ⟨⟨zes,r⟩,?_,⟨by show 3<=100; omega,by show r.length<=100; omega,znD,e3⟩⟩
 unfold zcy
 rw [e1]; rfl
end Go.Vs
end
section
namespace Go.Vs
open Go.Lib
local instance tabPalShowC:Tab:=⟨fun _=>none⟩
def zdx(k:Int):ByteArray:=(⟨#[108]⟩:ByteArray)++(ziN ([(IntKind.wrap .u8 (IntKind.wrap .i64 (48+(IntKind.wrap .i64 (Int.tdiv k 10))))),(IntKind.wrap .u8 (IntKind.wrap .i64 (48+(Int.tmod k 10))))]))
theorem zlI(k:Int):zbU k=some (zdx k):=by
 unfold zbU
 rw [if_pos (catB (by show 1+2<=_; omega))]
 rfl
theorem zj5:((List.range 100).all fun k=>zfx (zdx (k:Int)))=true:=by decide +kernel
theorem zj6{k:Nat}(h:k<100):zfx (zdx (k:Int))=true:=(List.all_eq_true.1 zj5) k (by simpa using h)
theorem zlH:((List.range 100).all fun i=>(List.range 100).all fun j=>decide (i=j)||!decide (zdx (i:Int)=zdx (j:Int)))=true:=by decide +kernel
theorem zpV{i j:Nat}(hi:i<100)(hj:j<100)(h:zdx (i:Int)=zdx (j:Int)):i=j:=by
 have:=(List.all_eq_true.1 ((List.all_eq_true.1 zlH) i (by simpa using hi))) j (by simpa using hj)
 simpa [h] using this
theorem zpl{op:Int}{A B:zap}(h1:1<=op)(h2:op<=7)(hA:opdB A=true)(kA:A.Kind=1)(hB:opdB B=true):rowB ⟨op,false,0,A,B,⟨#[]⟩,[]⟩=true:=by
 unfold rowB
 have e1:(decide (op<1)||decide (op>9))=false:=by simp; omega
 have e8:(op==8)=false:=by simp; omega
 have e9:(op==9)=false:=by simp; omega
 simp [e1,e8,e9,hA,hB,kA]
theorem zse{op:Int}{lk:Bool}{A B:zap}(h1:1<=op)(h2:op<=7)(hA:opdB A=true)(mA:memB A=true)(hB:opdB B=true)(mB:memB B=false)(hl:lk=true->2<=op/\op<=6):rowB ⟨op,lk,0,A,B,⟨#[]⟩,[]⟩=true:=by
 unfold rowB
 have e1:(decide (op<1)||decide (op>9))=false:=by simp; omega
 have e8:(op==8)=false:=by simp; omega
 have e9:(op==9)=false:=by simp; omega
 have k1:(A.Kind==1)=false:=by
  have:=zlJ A
  rw [mA,Bool.and_true] at this; exact this
 cases lk
 ·simp [e1,e8,e9,hA,hB,k1,mA,mB]
 ·have:=hl rfl
  simp [e1,e8,e9,hA,hB,k1,mA,mB]; omega
theorem zn5{y:zae}(hc:zjs y=true)(h1:1<=y.Op)(h2:y.Op<=14)(hr:rowB y=true)(hj:zfj y=true->zfx y.To=true)(hn:zfj y=false->y.To=⟨#[]⟩):insN y=0:=by
 unfold insN zlS
 have e1:(decide (y.Op≥1)&&decide (y.Op<=14))=true:=by simp; omega
 cases h:zfj y
 ·simp [hc,e1,hr,hn h]
 ·simp [hc,e1,hr,hj h]
structure znH (n:Nat) (y:zae):Prop extends BookIns y where
 z:insN y=0
 pA:memB y.A=true->zf0 y.A=true
 pB:memB y.B=true->zf0 y.B=true
 j:zfj y=true->∃k:Nat,k<n/\y.To=zdx k
 nj:zfj y=false->y.To=⟨#[]⟩
theorem zn0{o:zap}(h:zf0 o=true):opdB o=true/\memB o=true:=by
 unfold zf0 at h
 simp only [Bool.and_eq_true] at h
 exact h.1
theorem zsi{a:Int}(h:I64 a):∃o,zaS a=some o/\I64 o.N/\opdB o=true/\o.Kind=1/\memB o=false:=by
 obtain ⟨i,h1,h2⟩:=zgy h 4 (by omega) (by omega)
 refine ⟨⟨1,i,0,0⟩,?_,z64,?_,rfl,rfl⟩
 ·unfold zaS
  rw [h1]; rfl
 ·unfold opdB; simp; omega
theorem zsq{b n:Int}(h:I64 b)(hn:I64 n):∃o,zbh b n=some o/\I64 o.N/\opdB o=true/\memB o=false:=by
 obtain ⟨i,h1,h2⟩:=zgy h 3 (by omega) (by omega)
 unfold zbh
 rw [h1]
 simp only [Option.bind_some]
 split
 ·obtain ⟨o,h3,h4,h5,_,h7⟩:=zsi (div3 h)
  exact ⟨o,by rw [h3]; rfl,h4,h5,h7⟩
 ·exact ⟨_,rfl,hn,rfl,rfl⟩
def ziS(n:Nat)(o:Option zae):Prop:=∃y,o=some y/\znH n y
theorem ziH{n:Nat}{b:Bool}{x y:Option zae}(h1:b=true->ziS n x)(h2:b=false->ziS n y):ziS n (if b=true then x else y):=by cases b <;> simp_all
theorem zoT{x:zaD}(hw:za7 x){n:Nat}(hn:0<n)(hn2:n<=100):∃y,zdm x n=some y/\znH n y:=by
 obtain ⟨v1,e1,l1⟩:=zgy hw.C.i64 5 (by omega) (by omega)
 obtain ⟨v3,e3,l3⟩:=zgy hw.Kind.i64 22 (by omega) (by omega)
 obtain ⟨rA,eA,nA,oA,kA,zA⟩:=zsi hw.A.i64
 obtain ⟨rB,eB,nB,oB,kB,zB⟩:=zsi hw.B.i64
 obtain ⟨mA,fA,gA⟩:=zq7 hw.A.i64
 obtain ⟨mB,fB,gB⟩:=zq7 hw.B.i64
 obtain ⟨pB,hB,nP,oP,zP⟩:=zsq hw.B.i64 hw.N.i64
 obtain ⟨j,ej,lj⟩:=zgy hw.A.i64 n (by omega) (by omega)
 obtain ⟨c,ec,lc⟩:=zgy hw.C.i64 10 (by omega) (by omega)
 have et:=zlI (j:Int)
 have qA:=zjC gA
 have qB:=zjC gB
 obtain ⟨uA,wA⟩:=zn0 gA
 obtain ⟨uB,wB⟩:=zn0 gB
 have hj:j<n:=by omega
 have w2:IntKind.wrap .i64 (2+(v1:Int))=2+(v1:Int):=zbM ⟨by omega,by omega⟩
 have w1:IntKind.wrap .i64 (1+(c:Int))=1+(c:Int):=zbM ⟨by omega,by omega⟩
 have zt:(⟨#[]⟩:ByteArray).size<=3:=by decide
 have noj:∀op lk A B,op≠10->op≠11->zfj ⟨op,lk,0,A,B,⟨#[]⟩,[]⟩=false:=fun op lk A B a b=>by unfold zfj; simp [a,b]
 have mk:∀op lk A B,1<=op->op<=9->rowB ⟨op,lk,0,A,B,⟨#[]⟩,[]⟩=true->I64 A.N->I64 B.N->(memB A=true->zf0 A=true)->(memB B=true->zf0 B=true)->ziS n (some ⟨op,lk,0,A,B,⟨#[]⟩,[]⟩):=by
  intro op lk A B h1 h2 hr hA hB cA cB
  have hnj:=noj op lk A B (by omega) (by omega)
  refine ⟨_,rfl,⟨⟨hA,hB,zt,rfl⟩,?_,cA,cB,(fun h=>by rw [hnj] at h; cases h),fun _=>rfl⟩⟩
  refine zn5 ?_ h1 (by show op<=14; omega) hr (fun h=>by rw [hnj] at h; cases h) (fun _=>rfl)
  have e11:(op==11)=false:=by simp; omega
  unfold zjs
  simp [e11]
 have nm:∀{o:zap},memB o=false->memB o=true->zf0 o=true:=fun h1 h2=>by rw [h1] at h2; cases h2
 have rp:∀op,1<=op->op<=7->ziS n (some ⟨op,false,0,rA,pB,⟨#[]⟩,[]⟩):=fun op a b=>mk op false rA pB a (by omega) (zpl a b oA kA oP) nA nP (nm zA) (nm zP)
 have rm:∀op,1<=op->op<=7->ziS n (some ⟨op,false,0,rA,mB,⟨#[]⟩,[]⟩):=fun op a b=>mk op false rA mB a (by omega) (zpl a b oA kA uB) nA qB (nm zA) (fun _=>gB)
 have mp:∀op lk,1<=op->op<=7->(lk=true->2<=op/\op<=6)->ziS n (some ⟨op,lk,0,mA,pB,⟨#[]⟩,[]⟩):=fun op lk a b h=>mk op lk mA pB a (by omega) (zse a b uA wA oP zP h) qA nP (fun _=>gA) (nm zP)
 have m8:ziS n (some ⟨8,false,0,mA,rB,⟨#[]⟩,[]⟩):=mk 8 false mA rB (by omega) (by omega) (by unfold rowB; simp [uA,oB,wA,kB]) qA nB (fun _=>gA) (nm zB)
 have m9:ziS n (some ⟨9,true,0,mA,rB,⟨#[]⟩,[]⟩):=mk 9 true mA rB (by omega) (by omega) (by unfold rowB; simp [uA,oB,wA,kB]) qA nB (fun _=>gA) (nm zB)
 have zO:∀op cd to,10<=op->op<=14->(op=11->1<=cd/\cd<=10)->(op≠11->cd=0)->to.size<=3->(op=10\/op=11->∃k:Nat,k<n/\to=zdx k)->(op≠10->op≠11->to=⟨#[]⟩)->ziS n (some ⟨op,false,cd,⟨0,0,0,0⟩,⟨0,0,0,0⟩,to,[]⟩):=by
  intro op cd to h1 h2 h3 h4 h5 h6 h7
  have hJ:zfj ⟨op,false,cd,⟨0,0,0,0⟩,⟨0,0,0,0⟩,to,[]⟩=true->op=10\/op=11:=fun h=>by unfold zfj at h; simpa using h
  have hN:zfj ⟨op,false,cd,⟨0,0,0,0⟩,⟨0,0,0,0⟩,to,[]⟩=false->op≠10/\op≠11:=fun h=>by unfold zfj at h; simpa using h
  refine ⟨_,rfl,⟨⟨z64,z64,h5,rfl⟩,?_,(fun h=>by cases h),(fun h=>by cases h),fun h=>h6 (hJ h),fun h=>h7 (hN h).1 (hN h).2⟩⟩
  refine zn5 ?_ (by show 1<=op; omega) h2 ?_ (fun h=>?_) (fun h=>h7 (hN h).1 (hN h).2)
  ·unfold zjs
   by_cases e:op=11
   ·simp [e]; exact h3 e
   ·simp [e]; exact h4 e
  ·unfold rowB
   have:(decide (op<1)||decide (op>9))=true:=by simp; omega
   simp [this,zmY]
  ·obtain ⟨k,hk,e⟩:=h6 (hJ h)
   show zfx to=true
   rw [e]; exact zj6 (by omega)
 have lsz:(zdx (j:Int)).size<=3:=by
  obtain ⟨t,h1,h2⟩:=zlG (j:Int)
  rw [et] at h1
  obtain rfl:=Option.some.inj h1
  omega
 have g4:∀b,ziS n (zcn x v1 v3 n b):=by
  intro b
  unfold zcn zd2
  repeat' refine ziH (fun _=>?_) (fun _=>?_)
  all_goals try simp only [Option.bind_some,eA,eB,fA,fB,hB,ej,ec,et,w1,w2]
  ·exact mp (2+(v1:Int)) false (by omega) (by omega) (by simp)
  ·exact rm 7 (by omega) (by omega)
  ·exact mp 7 false (by omega) (by omega) (by simp)
  ·exact m8
  ·exact m9
  ·exact mp (2+(v1:Int)) true (by omega) (by omega) (fun _=>⟨by omega,by omega⟩)
  ·exact zO 10 0 _ (by omega) (by omega) (by omega) (by simp) lsz (fun _=>⟨j,hj,rfl⟩) (by simp)
  ·exact zO 11 (1+(c:Int)) _ (by omega) (by omega) (by omega) (by simp) lsz (fun _=>⟨j,hj,rfl⟩) (by simp)
  ·exact zO 12 0 _ (by omega) (by omega) (by omega) (by simp) zt (by omega) (by simp)
  ·exact rp 7 (by omega) (by omega)
  ·exact zO 13 0 _ (by omega) (by omega) (by omega) (by simp) zt (by omega) (by simp)
 have g3:∀b,ziS n (zbx x v3 v1 n b):=by
  intro b
  unfold zbx
  repeat' first | exact g4 _ | refine ziH (fun _=>?_) (fun _=>?_)
  all_goals try simp only [Option.bind_some,eA,eB,fA,fB,hB,ej,ec,et,w1,w2]
  all_goals first | exact g4 _ | exact mp 1 false (by omega) (by omega) (by simp) | exact rp (2+(v1:Int)) (by omega) (by omega) | exact rm (2+(v1:Int)) (by omega) (by omega)
 have g2:∀b,ziS n (zbX x v3 v1 n b):=by
  intro b
  unfold zbX
  repeat' first | exact g3 _ | refine ziH (fun _=>?_) (fun _=>?_)
  all_goals try simp only [Option.bind_some,eA,eB,fA,fB,hB,ej,ec,et,w1,w2]
  all_goals first | exact g3 _ | exact rm 1 (by omega) (by omega)
 show ziS n _
 unfold zdm
 rw [e1,e3]
 simp only [Option.bind_some]
 repeat' first | exact g2 _ | refine ziH (fun _=>?_) (fun _=>?_)
 all_goals try simp only [Option.bind_some,eA,eB,fA,fB,hB,ej,ec,et,w1,w2]
 all_goals first | exact g2 _ | exact rp 1 (by omega) (by omega)
end Go.Vs
end
section
namespace Go.Vs
open Go.Lib
local instance tabPalShowD:Tab:=⟨fun _=>none⟩
theorem zrA(p0:List (List zaD))(i:Nat)(l:List zaD)(hi:p0[i]?=some l)(hl:∀x∈l,za7 x)(n:Nat)(hn:n<=l.length)(hn8:n<99) :
  ∃r,zaR (za3 (n:Int) (i:Int) p0) (0,[])=some r/\r.length=n/\∀y∈r,znH (n+1) y:=by
 have main:∀(k j:Nat) (out:List zae),n-j=k->j<=n->out.length=j->(∀y∈out,znH (n+1) y)->∃r,zaR (za3 (n:Int) (i:Int) p0) ((j:Int),out)=some r/\r.length=n/\∀y∈r,znH (n+1) y:=by
  intro k
  induction k with
  | zero =>
   intro j out h1 h2 h3 h4
   obtain rfl:j=n:=by omega
   exact ⟨out,zaI (by simp only [za3]; rw [if_neg (by simp)]),h3,h4⟩
  | succ k ih =>
   intro j out h1 h2 h3 h4
   have hx:l[j]?=some l[j]:=by rw [List.getElem?_eq_getElem]
   obtain ⟨y,e1,e2⟩:=zoT (hl l[j] (List.getElem_mem _)) (n:=n+1) (by omega) (by omega)
   have e1':zdm l[j] ((n:Int)+1)=some y:=e1
   have hst:za3 (n:Int) (i:Int) p0 ((j:Int),out)=some (.inl ((j:Int)+1,out++[y])):=by
    simp only [za3]
    rw [if_pos (by simp; omega),if_pos (zbi hi),zcb hi,if_pos (zbi hx),zcb hx,wi (by omega),e1',wi (by omega)]
    simp only [Option.bind_some]
    rw [if_pos (show Fits (out.length+1) from by unfold Fits; omega)]
   obtain ⟨r,e3,e4,e5⟩:=ih (j+1) (out++[y]) (by omega) (by omega) (by simp; omega) (fun z hz=>by
    rcases List.mem_append.1 hz with h | h
    ·exact h4 z h
    ·rw [List.mem_singleton.1 h]; exact e2)
   exact ⟨r,by rw [za8 hst]; exact e3,e4,e5⟩
 exact main n 0 [] (by omega) (by omega) rfl (by intro y hy; cases hy)
def putL(m:Nat->Bool)(k:Nat)(x:zae):zae:=zae.mk x.Op x.Lock x.Cond x.A x.B x.To (if m k then [zdx (k:Int)] else [])
def zdN(o:List zae)(m:Nat->Bool):List zae:=o.mapIdx (putL m)
theorem zfQ{o m}:(zdN o m).length=o.length:=List.length_mapIdx
theorem zdC{o:List zae}{m:Nat->Bool}{k:Nat}{x:zae}(h:o[k]?=some x):(zdN o m)[k]?=some (putL m k x):=by
 unfold zdN; rw [List.getElem?_mapIdx,h]; rfl
theorem zo6{o:List zae}{m:Nat->Bool}{j:Nat}{x:zae}(h:o[j]?=some x) :
  (zdN o m).set j (zae.mk x.Op x.Lock x.Cond x.A x.B x.To [zdx (j:Int)])=zdN o (fun k=>m k||(k==j)):=by
 refine List.ext_getElem? fun k=>?_
 rw [List.getElem?_set]
 have hlt:=(List.getElem?_eq_some_iff.1 h).1
 by_cases e:j=k
 ·subst e
  rw [if_pos rfl,if_pos (by rw [zfQ]; exact hlt),zdC h]
  simp [putL]
 ·rw [if_neg e]
  cases ho:o[k]? with
  | none=>unfold zdN; rw [List.getElem?_mapIdx,List.getElem?_mapIdx,ho]; rfl
  | some y =>
   rw [zdC ho,zdC ho]
   have:(k==j)=false:=by simpa using fun e2=>e e2.symm
   simp [putL,this]
theorem zm0{o:List zae}{m m':Nat->Bool}(h:∀k,k<o.length->m k=m' k):zdN o m=zdN o m':=by
 refine List.ext_getElem? fun k=>?_
 cases ho:o[k]? with
 | none=>unfold zdN; rw [List.getElem?_mapIdx,List.getElem?_mapIdx,ho]; rfl
 | some y =>
  rw [zdC ho,zdC ho]
  have:=h k (List.getElem?_eq_some_iff.1 ho).1
  simp [putL,this]
theorem zry(n:Nat)(hn:n<=98)(o:List zae)(ho:o.length=n+1)(i:Nat)(hi:i<n)(x:zae)(hx:o[i]?=some x):∀(k j:Nat) (m:Nat->Bool),n+1-j=k->j<=n+1 ->
  ∃m',zaR (za1 (n:Int) (i:Int)) ((j:Int),zdN o m)=some (zdN o m')/\∀q,q<=n->m' q=(m q||(decide (j<=q)&&decide (x.To=zdx (q:Int)))):=by
 intro k
 induction k with
 | zero =>
  intro j m h1 h2
  exact ⟨m,zaI (by simp only [za1]; rw [if_neg (by simp; omega)]),fun q hq=>by
   have:decide (j<=q)=false:=by simp; omega
   simp [this]⟩
 | succ k ih =>
  intro j m h1 h2
  have hj:j<o.length:=by omega
  obtain ⟨y,hy⟩:∃y,o[j]?=some y:=⟨_,List.getElem?_eq_getElem hj⟩
  have gx:=zdC (m:=m) hx
  have gy:=zdC (m:=m) hy
  have hst:za1 (n:Int) (i:Int) ((j:Int),zdN o m)=some (.inl ((j:Int)+1,zdN o (fun q=>m q||((q==j)&&decide (x.To=zdx (j:Int)))))):=by
   simp only [za1]
   rw [if_pos (by simp; omega),zlI]
   simp only [Option.bind_some,if_pos (zbi gx),zcb gx,zcb gy,zbi gy,implies_true,if_true]
   unfold zdd
   rw [wi (by omega)]
   have hTo:(putL m i x).To=x.To:=rfl
   rw [hTo]
   by_cases ht:x.To=zdx (j:Int)
   ·have d1:decide (zdx (j:Int)=x.To)=true:=by simp [ht]
    have d2:decide (x.To=zdx (j:Int))=true:=by simp [ht]
    simp only [d1,d2,Bool.true_and,Bool.and_true]
    cases hm:m j
    ·have e:(((putL m j y).zLb.length:Int)==0)=true:=by simp [putL,hm]
     simp only [e,if_true]
     have:=zo6 (m:=m) hy
     rw [show (j:Int).toNat=j from rfl]
     exact congrArg (fun z=>some (Sum.inl ((j:Int)+1,z))) this
    ·have e:(((putL m j y).zLb.length:Int)==0)=false:=by simp [putL,hm]
     simp only [e,Bool.false_eq_true,if_false]
     refine congrArg (fun z=>some (Sum.inl ((j:Int)+1,z))) (zm0 fun q hq=>?_)
     by_cases e2:q=j
     ·subst e2; simp [hm]
     ·have:(q==j)=false:=by simpa using e2
      simp [this]
   ·have d1:decide (zdx (j:Int)=x.To)=false:=by simp; exact fun e=>ht e.symm
    have d2:decide (x.To=zdx (j:Int))=false:=by simpa using ht
    simp only [d1,d2,Bool.false_and,Bool.and_false,Bool.or_false,Bool.false_eq_true,if_false]
  obtain ⟨m',e3,e4⟩:=ih (j+1) _ (by omega) (by omega)
  refine ⟨m',by rw [za8 hst]; exact e3,fun q hq=>?_⟩
  rw [e4 q hq]
  by_cases e2:q=j
  ·subst e2
   have a1:decide (q+1<=q)=false:=by simp
   have a2:decide (q<=q)=true:=by simp
   simp [a1,a2]
  ·have a0:(q==j)=false:=by simpa using e2
   have a1:decide (j+1<=q)=decide (j<=q):=by
    by_cases h:j<=q
    ·simp [h]; omega
    ·simp [h]; omega
   simp [a0,a1]
theorem zrc(q:Int):¬zdx q=⟨#[]⟩:=by
 intro h
 have h1:(zdx q).size=3:=by
  obtain ⟨t,h1,h2⟩:=zlG q
  rw [zlI] at h1
  obtain rfl:=Option.some.inj h1
  exact h2
 rw [h] at h1
 exact absurd h1 (by decide)
def Hit(o:List zae)(n j q:Nat):Prop:=∃(i:Nat) (x:zae),j<=i/\i<n/\o[i]?=some x/\x.To=zdx (q:Int)
theorem zrz(n:Nat)(hn:n<=98)(o:List zae)(ho:o.length=n+1):∀(k j:Nat) (m:Nat->Bool),n-j=k->j<=n ->
  ∃m',zaR (za2 (n:Int)) ((j:Int),zdN o m)=some (zdN o m')/\∀q,q<=n->(m' q=true ↔ m q=true\/Hit o n j q):=by
 intro k
 induction k with
 | zero =>
  intro j m h1 h2
  refine ⟨m,zaI (by simp only [za2]; rw [if_neg (by simp; omega)]),fun q hq=>⟨.inl,fun h=>h.elim id fun ⟨i,x,a,b,_⟩=>by omega⟩⟩
 | succ k ih =>
  intro j m h1 h2
  obtain ⟨x,hx⟩:∃x,o[j]?=some x:=⟨_,List.getElem?_eq_getElem (by omega)⟩
  have gx:=zdC (m:=m) hx
  have hst:∃m1,za2 (n:Int) ((j:Int),zdN o m)=some (.inl ((j:Int)+1,zdN o m1))/\∀q,q<=n->(m1 q=true ↔ m q=true\/x.To=zdx (q:Int)):=by
   simp only [za2]
   rw [if_pos (by simp; omega),if_pos (zbi gx),zcb gx]
   unfold zde
   rw [wi (by omega)]
   have hTo:(putL m j x).To=x.To:=rfl
   rw [hTo]
   by_cases he:x.To=⟨#[]⟩
   ·rw [if_pos (by simpa using he)]
    exact ⟨m,rfl,fun q _=>⟨.inl,fun h=>h.elim id fun h=>absurd (h.symm.trans he) (zrc _)⟩⟩
   ·rw [if_neg (by simpa using he)]
    obtain ⟨m',e1,e2⟩:=zry n hn o ho j (by omega) x hx (n+1) 0 m (by omega) (by omega)
    have e0:zaR (za1 (n:Int) (j:Int)) (0,zdN o m)=some (zdN o m'):=e1
    rw [e0]
    refine ⟨m',rfl,fun q hq=>?_⟩
    rw [e2 q hq]
    simp
  obtain ⟨m1,e3,e4⟩:=hst
  obtain ⟨m',e5,e6⟩:=ih (j+1) m1 (by omega) (by omega)
  refine ⟨m',by rw [za8 e3]; exact e5,fun q hq=>?_⟩
  rw [e6 q hq,e4 q hq]
  constructor
  ·rintro ((h | h) | ⟨i,y,a,b,c,d⟩)
   ·exact .inl h
   ·exact .inr ⟨j,x,Nat.le_refl _,by omega,hx,h⟩
   ·exact .inr ⟨i,y,by omega,b,c,d⟩
  ·rintro (h | ⟨i,y,a,b,c,d⟩)
   ·exact .inl (.inl h)
   ·by_cases e:i=j
    ·subst e
     rw [hx] at c
     obtain rfl:=Option.some.inj c
     exact .inl (.inr d)
    ·exact .inr ⟨i,y,by omega,b,c,d⟩
end Go.Vs
end
section
namespace Go.Vs
open Go.Lib
local instance tabPalShowE:Tab:=⟨fun _=>none⟩
theorem zp0(m:Nat->Bool)(k:Nat)(y:zae):insN (putL m k y)=insN y:=rfl
theorem zkT{p:zan}(hp:p.zSy=zes){o:zap}(h:memB o=true->zf0 o=true):zg4 p o=0:=by
 unfold zg4
 cases hm:memB o
 ·rfl
 ·have hc:=h hm
  unfold zf0 at hc
  simp only [Bool.and_eq_true,decide_eq_true_eq] at hc
  obtain ⟨_,h0,h2,h3,h4,h5⟩:=hc
  rw [hp]
  have e3:((zes.length:Nat):Int)=3:=rfl
  rw [e3]
  have d1:decide (o.Sym≥3)=false:=by simp; omega
  simp only [Bool.not_true,Bool.false_eq_true,if_false,d1]
  by_cases hk:o.Kind=3
  ·have hs:(rd zes o.Sym).Size=rd [1,2,1] o.Sym:=by
    have:o.Sym=0\/o.Sym=1\/o.Sym=2:=by omega
    rcases this with e | e | e <;> rw [e] <;> rfl
   have:=h5 hk
   rw [hs]
   have d2:decide (o.N≥rd [1,2,1] o.Sym)=false:=by simp; omega
   simp [d2]
  ·have:(o.Kind==3)=false:=by simpa using hk
   simp [this]
theorem zre(p:zan)(hp:p.zSy=zes)(o:List zae)(ho:o.length<=100)(m:Nat->Bool)(hy:∀y∈o,insN y=0/\(memB y.A=true->zf0 y.A=true)/\(memB y.B=true->zf0 y.B=true)) :
  ∀(k j:Nat) (L:List ByteArray),o.length-j=k->j<=o.length->(∀s∈L,∃q:Nat,q<j/\s=zdx (q:Int))->∃L',zcz (insF p) (Sum.inl:List ByteArray->List ByteArray ⊕ Int) j L ((zdN o m).drop j)=.inl L':=by
 intro k
 induction k with
 | zero =>
  intro j L h1 h2 h3
  rw [List.drop_eq_nil_of_le (by rw [zfQ]; omega)]
  exact ⟨L,rfl⟩
 | succ k ih =>
  intro j L h1 h2 h3
  have hj:j<o.length:=by omega
  have hyj:o[j]?=some o[j]:=List.getElem?_eq_getElem hj
  have g:=zdC (m:=m) hyj
  have hd:(zdN o m).drop j=putL m j o[j]::(zdN o m).drop (j+1):=by
   rw [List.drop_eq_getElem_cons (by rw [zfQ]; exact hj)]
   congr 1
   exact (List.getElem?_eq_some_iff.1 g).2
  rw [hd]
  obtain ⟨z,cA,cB⟩:=hy o[j] (List.getElem_mem _)
  have hl:zoJ L (putL m j o[j]).zLb=.inl (if m j then L++[zdx (j:Int)] else L):=by
   unfold putL zoJ
   cases hm:m j
   ·rfl
   ·have hn:has L (zdx (j:Int))=false:=by
     rw [zsG]
     intro hmem
     obtain ⟨q,hq,e⟩:=h3 _ hmem
     have:=zpV (by omega) (by omega) e
     omega
    simp [zcz,labF,zj6 (show j<100 by omega),hn]
  have hf:insF p j L (putL m j o[j])=.inl (if m j then L++[zdx (j:Int)] else L):=by
   unfold insF
   rw [hl]
   simp only [zp0,z]
   have pA:zg4 p (putL m j o[j]).A=0:=zkT hp cA
   have pB:zg4 p (putL m j o[j]).B=0:=zkT hp cB
   rw [pA,pB]
   rfl
  simp only [zcz,hf]
  refine ih (j+1) _ (by omega) (by omega) fun s hs=>?_
  split at hs
  ·rcases List.mem_append.1 hs with h | h
   ·obtain ⟨q,a,b⟩:=h3 s h; exact ⟨q,by omega,b⟩
   ·exact ⟨j,by omega,List.mem_singleton.1 h⟩
  ·obtain ⟨q,a,b⟩:=h3 s hs; exact ⟨q,by omega,b⟩
theorem zlV:∀(xs:List zae) (k:Nat) (a:Int),zcz (fun _ (n:Int) (x:zae)=>if (x.Op != 12)=true then .inl (n+1) else .inl n) (fun n=>n) k a xs<=a+xs.length
 | [],k,a=>by simp [zcz]
 | x::xs,k,a=>by
  simp only [zcz]
  by_cases h:(x.Op != 12)=true
  ·simp only [h,if_true]
   have:=zlV xs (k+1) (a+1)
   simp only [List.length_cons]; omega
  ·simp only [h,if_false]
   have:=zlV xs (k+1) a
   simp only [List.length_cons]
   simp only [Bool.false_eq_true,if_false]
   omega
theorem zpS(L:List ByteArray):∀(xs:List zae) (k:Nat),(∀x∈xs,zfj x=true->has L x.To=true)->zcz (zlD L) (Sum.inl:Unit->Unit ⊕ Int) k () xs=.inl ()
 | [],k,_=>rfl
 | x::xs,k,h=>by
  have hx:zlD L k () x=.inl ():=by
   unfold zlD
   cases hj:zfj x
   ·rfl
   ·rw [h x (List.mem_cons_self ..) hj]; rfl
  simp only [zcz,hx]
  exact zpS L xs (k+1) fun y hy=>h y (List.mem_cons_of_mem _ hy)
def hltI:zae:=zae.mk 14 false 0 (zap.mk 0 0 0 0) (zap.mk 0 0 0 0) (⟨#[]⟩:ByteArray) ([])
theorem zm2(p:zan)(hp:p.zSy=zes)(r:List zae)(n:Nat)(hr:r.length=n)(hn:n<=98)(hy:∀y∈r,znH (n+1) y)(m:Nat->Bool)(hm:∀q,q<=n->Hit (r++[hltI]) n 0 q->m q=true) :
  zhf p ⟨zdN (r++[hltI]) m⟩=0:=by
 have hlen:(zdN (r++[hltI]) m).length=n+1:=by rw [zfQ]; simp [hr]
 unfold zhf
 have hc:decide (zlb ⟨zdN (r++[hltI]) m⟩>4096)=false:=by
  have:=zlV (zdN (r++[hltI]) m) 0 0
  rw [hlen] at this
  have h2:zlb ⟨zdN (r++[hltI]) m⟩<=0+((n+1:Nat):Int):=this
  simp; omega
 rw [hc]
 obtain ⟨L,hL⟩:=zre p hp (r++[hltI]) (by simp; omega) m (fun y h=>by
  rcases List.mem_append.1 h with h | h
  ·exact ⟨(hy y h).z,(hy y h).pA,(hy y h).pB⟩
  ·rw [List.mem_singleton.1 h]; exact ⟨by decide +kernel,by decide,by decide⟩) _ 0 [] rfl (by omega) (by intro s hs; cases hs)
 rw [List.drop_zero] at hL
 simp only [Bool.false_eq_true,if_false]
 rw [hL]
 obtain ⟨hL2,_⟩:=zkf _ _ _ _ hL
 have hlast:zmz ⟨zdN (r++[hltI]) m⟩=14:=by
  unfold zmz
  have:(zdN (r++[hltI]) m)[n]?=some (putL m n hltI):=zdC (by simp [← hr])
  have e:(((zdN (r++[hltI]) m).length:Nat):Int)-1=(n:Int):=by rw [hlen]; omega
  show (rd (zdN (r++[hltI]) m) (((zdN (r++[hltI]) m).length:Int)-1)).Op=14
  rw [e,zcb this]; rfl
 have h0:(((zdN (r++[hltI]) m).length:Int)==0)=false:=by rw [hlen]; simp; omega
 simp only [hlast,h0]
 rw [zpS L _ 0 fun x hx hj=>?_]
 ·rfl
 ·obtain ⟨k,hk⟩:=List.mem_iff_getElem?.1 hx
  have hk2:k<(r++[hltI]).length:=by have:=(List.getElem?_eq_some_iff.1 hk).1; rw [zfQ] at this; exact this
  obtain ⟨y,hyk⟩:∃y,(r++[hltI])[k]?=some y:=⟨_,List.getElem?_eq_getElem hk2⟩
  rw [zdC hyk] at hk
  obtain rfl:=Option.some.inj hk
  have hj2:zfj y=true:=hj
  by_cases hkn:k<n
  ·have hyr:r[k]?=some y:=by rw [List.getElem?_append_left (by omega)] at hyk; exact hyk
   obtain ⟨q,hq,hto⟩:=(hy y (List.mem_of_getElem? hyr)).j hj2
   have hmq:=hm q (by omega) ⟨k,y,Nat.zero_le _,hkn,hyk,hto⟩
   rw [zp7,hL2,List.nil_append,List.mem_flatMap]
   obtain ⟨z,hz⟩:∃z,(r++[hltI])[q]?=some z:=⟨_,List.getElem?_eq_getElem (by simp; omega)⟩
   refine ⟨putL m q z,List.mem_of_getElem? (zdC hz),?_⟩
   show y.To∈(if m q then [zdx (q:Int)] else [])
   rw [hmq,hto]; simp
  ·have:k=r.length:=by simp at hk2; omega
   subst this
   rw [List.getElem?_append_right (Nat.le_refl _),Nat.sub_self] at hyk
   obtain rfl:=Option.some.inj hyk
   exact absurd hj2 (by decide)
end Go.Vs
end
section
namespace Go.Vs
open Go.Lib
local instance tabPalShowF:Tab:=⟨fun _=>none⟩
def zo0(t:zad):Prop:=∃(r:List zae) (n:Nat) (m:Nat->Bool),r.length=n/\n<=98/\(∀y∈r,znH (n+1) y)/\(∀q,q<=n->(m q=true ↔ Hit (r++[hltI]) n 0 q))/\t=⟨zdN (r++[hltI]) m⟩
theorem zoj{o:List zae}(h:∀y∈o,y.zLb=[]):zdN o (fun _=>false)=o:=by
 refine List.ext_getElem? fun k=>?_
 cases ho:o[k]? with
 | none=>unfold zdN; rw [List.getElem?_mapIdx,ho]; rfl
 | some y =>
  rw [zdC ho]
  have:=h y (List.mem_of_getElem? ho)
  congr 1
  unfold putL
  simp only [Bool.false_eq_true,if_false]
  rw [← this]
theorem zrB(p0:List (List zaD))(hw:∀l∈p0,∀x∈l,za7 x)(p1 p2:Nat)(h1:p1<=60)(h2:p2<=90) :
  ∃r,zaR (zaU p0 (p1:Int) (p2:Int)) (0,[])=some r/\r.length<=p1/\∀t∈r,zo0 t/\t.Ins.length<=p2+1:=by
 have main:∀(k j:Nat) (out:List zad),p1-j=k->j<=p1->out.length=j->(∀y∈out,zo0 y/\y.Ins.length<=p2+1)->∃r,zaR (zaU p0 (p1:Int) (p2:Int)) ((j:Int),out)=some r/\r.length<=p1/\∀y∈r,zo0 y/\y.Ins.length<=p2+1:=by
  intro k
  induction k with
  | zero =>
   intro j out q1 q2 q3 q4
   exact ⟨out,zaI (by simp only [zaU]; rw [if_neg (by simp; omega)]),by omega,q4⟩
  | succ k ih =>
   intro j out q1 q2 q3 q4
   by_cases hj:j<p0.length
   ·have hx:p0[j]?=some p0[j]:=by rw [List.getElem?_eq_getElem]
    obtain ⟨n,hn,hn1,hn2⟩:∃n:Nat,(if (p2:Int)<(p0[j].length:Int) then (p2:Int) else (p0[j].length:Int))=(n:Int)/\n<=p0[j].length/\n<=p2:=by
     split
     ·exact ⟨p2,rfl,by omega,Nat.le_refl _⟩
     ·exact ⟨p0[j].length,rfl,Nat.le_refl _,by omega⟩
    obtain ⟨r,e1,e2,e3⟩:=zrA p0 j p0[j] hx (hw _ (List.getElem_mem _)) n hn1 (by omega)
    obtain ⟨m,e4,e5⟩:=zrz n (by omega) (r++[hltI]) (by simp [e2]) n 0 (fun _=>false) (by omega) (by omega)
    rw [zoj (fun y hy=>by
     rcases List.mem_append.1 hy with h | h
     ·exact (e3 y h).lab
     ·rw [List.mem_singleton.1 h]; rfl)] at e4
    have e7:zaR (za2 (n:Int)) (0,(r++[zae.mk 14 false 0 (zap.mk 0 0 0 0) (zap.mk 0 0 0 0) (⟨#[]⟩:ByteArray) ([])]))=some (zdN (r++[hltI]) m):=e4
    have hst:zaU p0 (p1:Int) (p2:Int) ((j:Int),out)=some (.inl ((j:Int)+1,out++[zad.mk (zdN (r++[hltI]) m)])):=by
     simp only [zaU]
     rw [if_pos (by simp; omega),if_pos (zbi hx),zcb hx,hn]
     simp only [Option.bind_some]
     rw [e1]
     simp only [Option.bind_some]
     rw [if_pos (show Fits (r.length+1) from by unfold Fits; omega),e7]
     simp only [Option.bind_some]
     rw [if_pos (show Fits (out.length+1) from by unfold Fits; omega),wi (by omega)]
    obtain ⟨r3,e8,e9,e10⟩:=ih (j+1) (out++[zad.mk (zdN (r++[hltI]) m)]) (by omega) (by omega) (by simp; omega) (fun t ht=>by
     rcases List.mem_append.1 ht with h | h
     ·exact q4 t h
     ·rw [List.mem_singleton.1 h]
      exact ⟨⟨r,n,m,e2,by omega,e3,fun q hq=>by rw [e5 q hq]; simp,rfl⟩,by show (zdN (r++[hltI]) m).length<=_; rw [zfQ,List.length_append,e2]; simp; omega⟩)
    exact ⟨r3,by rw [za8 hst]; exact e8,e9,e10⟩
   ·exact ⟨out,zaI (by simp only [zaU]; rw [if_neg (by simp; omega)]),by omega,q4⟩
 exact main p1 0 [] (by omega) (by omega) rfl (by intro y hy; cases hy)
theorem zqM:zcz symF (fun _=>(.inl ():Unit ⊕ Int)) 0 [] zes=.inl ():=by decide +kernel
theorem zpa(p:zan):∀(ts:List zad) (k:Nat),(∀t∈ts,zhf p t=0)->zcz (thF p) (Sum.inl:Unit->Unit ⊕ Int) k () ts=.inl ()
 | [],k,_=>rfl
 | t::ts,k,h=>by
  have:thF p k () t=.inl ():=by unfold thF; rw [h t (List.mem_cons_self ..)]; rfl
  simp only [zcz,this]
  exact zpa p ts (k+1) fun y hy=>h y (List.mem_cons_of_mem _ hy)
theorem zoS(p0:List (List zaD))(hw:∀l∈p0,∀x∈l,za7 x)(p1 p2:Nat)(h1:p1<=60)(h2:p2<=90) :
  ∃p,zcy p0 (p1:Int) (p2:Int)=some p/\p.zSy=zes/\(∀t∈p.zTh,zo0 t)/\p.zTh.length<=p1/\zkp p=0/\(∀t∈p.zTh,t.Ins.length<=p2+1):=by
 obtain ⟨r,e1,e2,e3⟩:=zrB p0 hw p1 p2 h1 h2
 refine ⟨⟨zes,r⟩,?_,rfl,fun t ht=>(e3 t ht).1,e2,?_,fun t ht=>(e3 t ht).2⟩
 ·unfold zcy
  rw [e1]; rfl
 ·unfold zkp
  have d:(decide (((zes.length:Nat):Int)>64)||decide ((r.length:Int)>64))=false:=by
   have:decide ((r.length:Int)>64)=false:=by simp; omega
   rw [this]; rfl
  simp only [d,Bool.false_eq_true,if_false,zqM]
  rw [zpa ⟨zes,r⟩ r 0 fun t ht=>?_]
  obtain ⟨r',n,m,q1,q2,q3,q4,rfl⟩:=(e3 t ht).1
  exact zm2 _ rfl r' n q1 q2 q3 m (fun q hq=>(q4 q hq).2)
end Go.Vs
end
