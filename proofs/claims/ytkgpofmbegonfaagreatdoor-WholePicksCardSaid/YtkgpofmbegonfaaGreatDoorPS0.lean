import Derived.Test.YtkgpofmbegonfaaGreatDoorPalT
import Derived.Test.YtkgpofmbegonfaaGreatDoorPalC
import Derived.Test.YtkgpofmbegonfaaGreatDoorPalK
import Derived.Test.YtkgpofmbegonfaaGreatDoorPalL
import Derived.Test.YtkgpofmbegonfaaGreatDoorPT1
import Derived.Lib.ItoaLen
import Derived.Test.YtkgpofmbegonfaaGreatDoorPalNum
set_option linter.all false
section
namespace Go.Vs
end Go.Vs
end
section
namespace Go.Vs
end Go.Vs
end
section
namespace Go.Vs
local instance tabPalShow1:Tab:=⟨fun _=>none⟩
def zcQ{α β R:Type}(f:Nat->β->α->β ⊕ R)(fin:β->R):Nat->β->List α->R
 | _,a,[]=>fin a
 | i,a,x::xs=>match f i a x with
  | .inl a'=>zcQ f fin (i+1) a' xs
  | .inr r=>r
theorem zc2{α β σ R:Type}(l:List α)(mk:Int->β->σ)(step:σ->Option (σ ⊕ R))(f:Nat->β->α->β ⊕ R)(fin:β->R)(Inv:Nat->β->Prop)
  (h1:∀(i:Nat) (x:α),l[i]?=some x->∀a,Inv i a->(step (mk (i:Int) a)=some (match f i a x with | .inl a'=>.inl (mk ((i:Int)+1) a') | .inr r=>.inr r))/\∀a',f i a x=.inl a'->Inv (i+1) a')
  (h2:∀a,Inv l.length a->step (mk (l.length:Int) a)=some (.inr (fin a))) (a0:β) (h0:Inv 0 a0):zaY step (mk 0 a0)=some (zcQ f fin 0 a0 l):=by
 have main:∀(suf pre:List α) (a:β),l=pre++suf->Inv pre.length a->zaY step (mk (pre.length:Int) a)=some (zcQ f fin pre.length a suf):=by
  intro suf
  induction suf with
  | nil =>
   intro pre a e hI
   rw [List.append_nil] at e
   subst e
   exact zaD (h2 a hI)
  | cons x xs ih =>
   intro pre a e hI
   obtain ⟨e1,e2⟩:=h1 pre.length x (by rw [e]; simp) a hI
   cases hf:f pre.length a x with
   | inl a' =>
    rw [hf] at e1
    have:=ih (pre++[x]) a' (by rw [e]; simp) (by simpa using e2 a' hf)
    rw [za9 e1]
    simp only [zcQ,hf]
    simpa using this
   | inr r =>
    rw [hf] at e1
    rw [zaD e1]
    simp only [zcQ,hf]
 exact main l [] a0 rfl h0
theorem zeH{α:Type}[Inhabited α]{l:List α}{i:Nat}{x:α}(h:l[i]?=some x):rd l (i:Int)=x:=by
 simp [rd,h]
theorem zd1{α:Type}{l:List α}{i:Nat}{x:α}(h:l[i]?=some x):InB (i:Int) l.length:=⟨by omega,(List.getElem?_eq_some_iff.1 h).1⟩
theorem zhA{α:Type}{l:List α}{i:Nat}{x:α}(h:l[i]?=some x):decide ((i:Int)<(l.length:Int))=true:=by have:=(List.getElem?_eq_some_iff.1 h).1; simpa using this
theorem wi{n:Nat}(h:n<=1000000000):IntKind.wrap .i64 ((n:Int)+1)=(n:Int)+1:=zbg ⟨by omega,by omega⟩
def fnd(l:List ByteArray)(s:ByteArray):Option Nat:=l.findIdx? (fun x=>decide (x=s))
theorem zfT{R:Type}(l:List ByteArray)(s:ByteArray)(hl:l.length<=1000000)(g:Int->R)(step:Int->Option (Int ⊕ (Unit ⊕ R)))
  (hs:∀i,step i=if decide (i<(l.length:Int))=true then (if InB i l.length then (if decide ((rd l i)=s)=true then (some (.inr (.inr (g i)))) else (some (.inl (IntKind.wrap .i64 (i+1))))) else none) else (some (.inr (.inl ())))) :
  zaY step 0=some (match fnd l s with | some i=>.inr (g (i:Int)) | none=>.inl ()):=by
 unfold fnd
 have main:∀(suf pre:List ByteArray),l=pre++suf->zaY step (pre.length:Int)=some (match suf.findIdx? (fun x=>decide (x=s)) with | some i=>.inr (g ((pre.length+i:Nat):Int)) | none=>.inl ()):=by
  intro suf
  induction suf with
  | nil =>
   intro pre e
   rw [List.append_nil] at e; subst e
   refine zaD ?_
   rw [hs,if_neg (by simp)]; rfl
  | cons x xs ih =>
   intro pre e
   have hx:l[pre.length]?=some x:=by rw [e]; simp
   have hlen:pre.length<=1000000:=by have:=(List.getElem?_eq_some_iff.1 hx).1; omega
   have e1:=hs (pre.length:Int)
   rw [if_pos (zhA hx),if_pos (zd1 hx),zeH hx] at e1
   rw [List.findIdx?_cons]
   by_cases hd:x=s
   ·rw [if_pos (by simpa using hd)] at e1
    rw [zaD e1]; simp [hd]
   ·rw [if_neg (by simpa using hd),wi (by omega)] at e1
    rw [za9 e1]
    have:=ih (pre++[x]) (by rw [e]; simp)
    simp only [List.length_append,List.length_cons,List.length_nil,Nat.zero_add] at this
    rw [show ((pre.length:Int)+1)=((pre.length+1:Nat):Int) by omega,this]
    simp only [hd,decide_false,Bool.false_eq_true,if_false]
    cases xs.findIdx? (fun x=>decide (x=s)) with
    | none=>rfl
    | some k=>simp only [Option.map_some]; congr 3; omega
 have:=main l [] rfl
 simpa using this
theorem zm4{l:List ByteArray}{s:ByteArray}:(fnd l s).isSome=l.any (fun x=>decide (x=s)):=by
 unfold fnd; rw [List.findIdx?_isSome]
def zf6:List ByteArray:=[⟨#[114,97,120]⟩,⟨#[114,98,120]⟩,⟨#[114,99,120]⟩,⟨#[114,100,120]⟩,⟨#[114,115,105]⟩,⟨#[114,100,105]⟩,⟨#[114,56]⟩,⟨#[114,57]⟩]
def opsL:List ByteArray:=[⟨#[109,111,118]⟩,⟨#[97,100,100]⟩,⟨#[115,117,98]⟩,⟨#[97,110,100]⟩,⟨#[111,114]⟩,⟨#[120,111,114]⟩,⟨#[99,109,112]⟩,⟨#[120,99,104,103]⟩,⟨#[99,109,112,120,99,104,103]⟩,⟨#[106,109,112]⟩,⟨#[]⟩,⟨#[109,102,101,110,99,101]⟩,⟨#[110,111,112]⟩,⟨#[104,108,116]⟩]
def zfP:List ByteArray:=[⟨#[106,101]⟩,⟨#[106,110,101]⟩,⟨#[106,108]⟩,⟨#[106,108,101]⟩,⟨#[106,103]⟩,⟨#[106,103,101]⟩,⟨#[106,98]⟩,⟨#[106,98,101]⟩,⟨#[106,97]⟩,⟨#[106,97,101]⟩]
theorem znX:zeY=some zf6:=rfl
theorem zo8:zfM=some opsL:=rfl
theorem zmW:zer=some zfP:=rfl
def kwB(s:ByteArray):Bool:=(decide (s=(⟨#[115,121,109]⟩:ByteArray))||decide (s=(⟨#[116,104,114,101,97,100]⟩:ByteArray)))||decide (s=(⟨#[108,111,99,107]⟩:ByteArray))
def zfy(s:ByteArray):Bool:=(!decide (s=⟨#[]⟩))&&(kwB s||(fnd zf6 s).isSome||(fnd opsL s).isSome||(fnd zfP s).isSome)
theorem zcM(s:ByteArray):zc0 s=some (match fnd zf6 s with | some i=>((i:Int),true) | none=>(0,false)):=by
 unfold zc0
 rw [znX]
 simp only [Option.bind_some]
 rw [zfT zf6 s (by decide) (fun i=>(i,true)) (zdZ zf6 s) (fun i=>rfl)]
 cases fnd zf6 s <;> rfl
theorem zji{l:List ByteArray}{s:ByteArray}{i:Nat}(h:fnd l s=some i):i<l.length/\l[i]?=some s:=by
 unfold fnd at h
 rw [List.findIdx?_eq_some_iff_getElem] at h
 obtain ⟨h1,h2,_⟩:=h
 exact ⟨h1,by rw [List.getElem?_eq_getElem h1]; simpa using h2⟩
theorem zfq(s:ByteArray):zeu s=some (if s=⟨#[]⟩ then (0,0,false) else match fnd opsL s with | some i=>((i:Int)+1,0,true) | none=>match fnd zfP s with | some i=>(11,(i:Int)+1,true) | none=>(0,0,false)):=by
 unfold zeu
 by_cases h0:s=⟨#[]⟩
 ·rw [if_pos (by simpa using h0),if_pos h0]
 ·rw [if_neg (by simpa using h0),if_neg h0,zo8]
  simp only [Option.bind_some]
  rw [zfT opsL s (by decide) (fun i=>(IntKind.wrap .i64 (i+1),0,true)) (zet opsL s) (fun i=>rfl)]
  cases ho:fnd opsL s with
  | some i =>
   have hi:=(zji ho).1
   have hw:=wi (n:=i) (by simp [opsL] at hi; omega)
   simp only [zcl,Option.bind_some,hw]
  | none =>
   simp only [zcl,Option.bind_some,zmW]
   rw [zfT zfP s (by decide) (fun i=>(11,IntKind.wrap .i64 (i+1),true)) (zes zfP s) (fun i=>rfl)]
   cases hj:fnd zfP s with
   | some i =>
    have hi:=(zji hj).1
    have hw:=wi (n:=i) (by simp [zfP] at hi; omega)
    simp only [zcl,Option.bind_some,hw]
   | none=>rfl
theorem zcy(s:ByteArray):zcf s=some (zfy s):=by
 unfold zcf
 simp only [Option.bind_some]
 change (if kwB s=true then _ else _)=_
 by_cases h0:s=⟨#[]⟩
 ·subst h0
  rw [zcM,zfq]
  rfl
 ·unfold zfy
  simp only [h0,decide_false,Bool.not_false,Bool.true_and]
  by_cases hk:kwB s=true
  ·simp [hk]
  ·rw [if_neg hk,zcM,zfq,if_neg h0]
   simp only [Bool.not_eq_true] at hk
   rw [hk]
   simp only [Option.bind_some,Bool.false_or]
   cases fnd zf6 s <;> cases fnd opsL s <;> cases fnd zfP s <;> rfl
end Go.Vs
end
section
namespace Go.Vs
local instance tabPalShow2:Tab:=⟨fun _=>none⟩
def letB(p0:Int):Bool:=(((decide (p0≥97)&&decide (p0<=122))||(decide (p0≥65)&&decide (p0<=90)))||(p0==95))||(decide (p0≥161)&&decide (p0<=1114111))
def digB(p0:Int):Bool:=decide (p0≥48)&&decide (p0<=57)
theorem gLet(r:Int):zcp r=some (letB r):=rfl
theorem gDig(r:Int):zcI r=some (digB r):=rfl
def badN(i:Nat)(x:zak):Bool:=x.Bad||(!letB x.Rune&&((i==0)||!digB x.Rune))
def zhU:Nat->List zak->Bool
 | _,[]=>true
 | i,x::xs=>!badN i x&&zhU (i+1) xs
def zjW(s:ByteArray):Bool:=(decide (((zci s).length:Int)≥1)&&decide (((zci s).length:Int)<=16))&&!zfy s&&zhU 0 (zci s)
theorem zh7{R:Type}(fin r0:R):∀(l:List zak) (i:Nat),zcQ (fun i (_:Unit) x=>if badN i x=true then Sum.inr r0 else .inl ()) (fun _=>fin) i () l=if zhU i l=true then fin else r0
 | [],i=>by simp [zcQ,zhU]
 | x::xs,i=>by
  simp only [zcQ,zhU]
  by_cases hb:badN i x=true
  ·simp [hb]
  ·simp only [hb,if_false,Bool.false_eq_true]
   rw [zh7 fin r0 xs (i+1)]
   simp only [Bool.not_eq_true] at hb
   simp [hb]
theorem zlo(s:ByteArray)(hs:Sm s):(zci s).length<=1000000:=by
 have:=zhK s s.size 0 1 1
 unfold zci
 unfold Sm at hs
 omega
theorem zhz(s:ByteArray)(hs:Sm s):zdI s=some (zjW s):=by
 have hl:=zlo s hs
 unfold zdI
 rw [zfe s hs]
 simp only [Option.bind_some]
 rw [zc2 (zci s) (fun i (_:Unit)=>(i,i)) (zcg (zci s)) (fun i _ x=>if badN i x=true then .inr (.inr false) else .inl ()) (fun _=>.inl ((zci s).length:Int)) (fun _ _=>True)
  (fun i x hx a _=>⟨?_,fun _ _=>trivial⟩) (fun a _=>?_) () trivial]
 ·rw [zh7]
  unfold zjW
  cases hn:zhU 0 (zci s)
  ·simp [zcl]
  ·simp only [if_true,zcl,Bool.and_true]
   rw [zcy]
   show (if (decide (((zci s).length:Int)≥1)&&decide (((zci s).length:Int)<=16))=true then some (zfy s) else some default).bind (fun v37=>some ((decide (((zci s).length:Int)≥1)&&decide (((zci s).length:Int)<=16))&&(!v37)))=_
   cases decide (((zci s).length:Int)≥1) <;> cases decide (((zci s).length:Int)<=16) <;> cases zfy s <;> rfl
 ·have hi:i<=1000000:=by have:=(List.getElem?_eq_some_iff.1 hx).1; omega
  simp only [zcg]
  rw [if_pos (zhA hx),if_pos (zd1 hx),zeH hx,gLet,wi (by omega)]
  simp only [gDig]
  have e0:((i:Int)==0)=(i==0):=by cases i <;> rfl
  simp only [e0]
  unfold badN
  cases x.Bad <;> cases letB x.Rune <;> cases (i==0) <;> cases digB x.Rune <;> rfl
 ·simp only [zcg]
  rw [if_neg (by simp)]
def opdB(o:zaw):Bool :=
 if o.Kind==1 then ((decide (o.Reg≥0)&&decide (o.Reg<=7))&&(o.Sym==0))&&(o.N==0)
 else if o.Kind==2 then (o.Reg==0)&&(o.Sym==0)
 else if o.Kind==3 then (decide (o.Sym≥0)&&decide (o.N≥0))&&(o.Reg==0)
 else if o.Kind==4 then ((decide (o.Sym≥0)&&decide (o.Reg≥0))&&decide (o.Reg<=7))&&(o.N==0) else false
theorem zfJ(o:zaw):zdu o=some (opdB o):=by
 unfold zdu opdB zcZ
 split
 ·rfl
 split
 ·rfl
 split
 ·rfl
 split
 ·cases decide (o.Sym≥0) <;> simp
 ·rfl
def memB(o:zaw):Bool:=(o.Kind==3)||(o.Kind==4)
theorem ziX{o:zaw}(h:opdB o=true):o.Kind=1\/o.Kind=2\/o.Kind=3\/o.Kind=4:=by
 unfold opdB at h
 split at h
 ·rename_i e; exact .inl (by simpa using e)
 split at h
 ·rename_i e; exact .inr (.inl (by simpa using e))
 split at h
 ·rename_i e; exact .inr (.inr (.inl (by simpa using e)))
 split at h
 ·rename_i e; exact .inr (.inr (.inr (by simpa using e)))
 ·cases h
def zj1(o:zaw):zbo :=
 if o.Kind==1 then .RegPart ⟨o.Reg⟩ else if o.Kind==2 then .NumPart ⟨o.N⟩ else if o.Kind==3 then .AtPart ⟨o.Sym,o.N⟩ else .ByPart ⟨o.Sym,o.Reg⟩
theorem zhS(o:zaw):zf8 o=some (if opdB o=true then (zj1 o,true) else (.nil,false)):=by
 unfold zf8 zj1
 rw [zfJ]
 cases opdB o
 ·rfl
 ·simp only [Option.bind_some,Bool.not_true,Bool.false_eq_true,if_false,if_true]
  split
  ·rfl
  split
  ·rfl
  split <;> rfl
theorem zhb(o:zaw):zcN o=some (opdB o&&(o.Kind==1)):=by
 unfold zcN
 rw [zhS]
 cases h:opdB o
 ·rfl
 ·rcases ziX h with e | e | e | e <;> simp [zj1,e]
theorem zfQ(o:zaw):zcA o=some (opdB o&&memB o):=by
 unfold zcA
 rw [zhS]
 cases h:opdB o
 ·rfl
 ·rcases ziX h with e | e | e | e <;> simp [zj1,e,zeq,memB]
theorem zja(o:zaw):zej o=some (opdB o&&!memB o):=by
 unfold zej
 rw [zfJ,zfQ]
 cases opdB o <;> simp
def zld(o:zaw):Bool:=(o.Kind==0)&&((o.Reg==0)&&((o.Sym==0)&&(o.N==0)))
def zlQ(x:zao):Bool:=(x.Op==10)||(x.Op==11)
def rowB(x:zao):Bool :=
 if decide (x.Op<1)||decide (x.Op>9) then (zld x.A&&zld x.B)&&!x.Lock
 else if !opdB x.A||!opdB x.B then false
 else if x.Op==8 then (memB x.A&&(x.B.Kind==1))&&!x.Lock
 else if x.Op==9 then (memB x.A&&(x.B.Kind==1))&&x.Lock
 else if x.A.Kind==1 then !x.Lock
 else (memB x.A&&!memB x.B)&&(!x.Lock||(decide (x.Op≥2)&&decide (x.Op<=6)))
def zkX(x:zao):Bool:=(decide (x.Op≥1)&&decide (x.Op<=14))&&rowB x
theorem zmx(o:zaw):((o.Kind==0)&&((o.Reg==0)&&((o.Sym==0)&&(o.N==0))))=zld o:=rfl
theorem zj8(o:zaw):((o.Kind==1)&&memB o)=false:=by
 unfold memB
 by_cases h:o.Kind=1
 ·simp [h]
 ·simp [h]
theorem zhD(x:zao):zde x=some (zkX x):=by
 unfold zde zew
 simp only [zhb,zja,zfQ,zmx]
 unfold zkX rowB
 have hA:=zj8 x.A
 have hB:=zj8 x.B
 generalize opdB x.A=a,opdB x.B=b,(x.A.Kind==1)=kA,memB x.A=mA,(x.B.Kind==1)=kB,memB x.B=mB,x.Lock=lk,zld x.A=zA,zld x.B=zB at hA hB ⊢
 generalize x.Op=op
 have h:op<1\/op=1\/op=2\/op=3\/op=4\/op=5\/op=6\/op=7\/op=8\/op=9\/op=10\/op=11\/op=12\/op=13\/op=14\/op>14:=by omega
 have hout:op<1\/op>14->(op==1)=false/\(op==7)=false/\(decide (op≥2)&&decide (op<=6))=false/\(op==8)=false/\(op==9)=false/\(decide (op≥10)&&decide (op<=14))=false/\(decide (op≥1)&&decide (op<=14))=false:=by
  intro h
  refine ⟨?_,?_,?_,?_,?_,?_,?_⟩ <;> simp <;> omega
 rcases h with h | rfl | rfl | rfl | rfl | rfl | rfl | rfl | rfl | rfl | rfl | rfl | rfl | rfl | rfl | h
 case inl =>
  obtain ⟨e1,e2,e3,e4,e5,e6,e7⟩:=hout (.inl h)
  simp only [e1,e2,e3,e4,e5,e6,e7]
  cases a <;> cases b <;> cases kA <;> cases mA <;> first | exact absurd hA (by decide) | (cases mB <;> cases lk <;> rfl)
 case inr.inr.inr.inr.inr.inr.inr.inr.inr.inr.inr.inr.inr.inr.inr =>
  obtain ⟨e1,e2,e3,e4,e5,e6,e7⟩:=hout (.inr h)
  simp only [e1,e2,e3,e4,e5,e6,e7]
  cases a <;> cases b <;> cases kA <;> cases mA <;> first | exact absurd hA (by decide) | (cases mB <;> cases lk <;> rfl)
 all_goals
  cases a <;> cases b <;> cases kA <;> cases mA <;> first | exact absurd hA (by decide) | (cases kB <;> cases mB <;> first | exact absurd hB (by decide) | (cases lk <;> cases zA <;> cases zB <;> rfl))
def zmc(x:zao):Bool:=if x.Op==11 then decide (x.Cond≥1)&&decide (x.Cond<=10) else x.Cond==0
theorem zjD(x:zao):zfR x=some (zmc x&&zkX x):=by
 unfold zfR zmc
 rw [zhD]
 split
 ·by_cases h1:x.Cond<1 <;> by_cases h2:x.Cond>10 <;> simp [h1,h2] <;> omega
 ·by_cases h1:x.Cond=0 <;> simp [h1]
def insN(x:zao):Int :=
 if zmc x&&zkX x&&(zlQ x||decide (x.To=⟨#[]⟩)) then (if zlQ x&&!zjW x.To then 3 else 0) else 4
theorem zjc(x:zao)(hs:Sm x.To):zeM x=some (insN x):=by
 unfold zeM insN
 rw [zjD,zhz _ hs]
 have e:((x.Op==10)||(x.Op==11))=zlQ x:=rfl
 simp only [Option.bind_some,e]
 cases zmc x <;> cases zkX x <;> cases zlQ x <;> cases decide (x.To=⟨#[]⟩) <;> cases zjW x.To <;> rfl
end Go.Vs
end
section
namespace Go.Vs
open Go.Lib
local instance tabPalShow3:Tab:=⟨fun _=>none⟩
def zSy(syms:List ByteArray):Prop:=∀s∈syms,s.size<=1000000
end Go.Vs
end
section
namespace Go.Vs
open Go.Lib
local instance tabPalShow4:Tab:=⟨fun _=>none⟩
def has(l:List ByteArray)(s:ByteArray):Bool:=l.any fun x=>decide (x=s)
def seen(l:List ByteArray):List (ByteArray × Bool):=l.map fun k=>(k,true)
theorem zl5{l:List ByteArray}{s:ByteArray}:(fnd l s).isSome=has l s:=zm4
end Go.Vs
end
section
namespace Go.Vs
open Go.Lib
local instance tabPalShow5:Tab:=⟨fun _=>none⟩
end Go.Vs
end
section
namespace Go.Vs
open Go.Lib
local instance tabPalShow6:Tab:=⟨fun _=>none⟩
end Go.Vs
end
section
end
section
namespace Go.Vs
end Go.Vs
end
section
namespace Go.Vs
open Go.Lib
local instance tabPalShow7:Tab:=⟨fun _=>none⟩
section sizes
theorem z1:(⟨#[32]⟩:ByteArray).size=1:=rfl
theorem z2:(⟨#[10]⟩:ByteArray).size=1:=rfl
theorem z3:(⟨#[115,121,109,32]⟩:ByteArray).size=4:=rfl
theorem z4:(⟨#[58,10]⟩:ByteArray).size=2:=rfl
theorem z5:(⟨#[9]⟩:ByteArray).size=1:=rfl
theorem z9:(⟨#[93]⟩:ByteArray).size=1:=rfl
def zpC(syms:List ByteArray):Prop:=∀s∈syms,s.size<=1000
theorem zpC.syms{syms}(h:zpC syms):zSy syms:=fun s hs=>by have:=h s hs; omega
end sizes
end Go.Vs
end
section
namespace Go.Vs
open Go.Lib
local instance tabPalShow8:Tab:=⟨fun _=>none⟩
end Go.Vs
end
section
namespace Go.Vs
end Go.Vs
end
section
namespace Go.Vs
def Wi(k:IntKind)(n:Int):Prop:=k.min<=n/\n<=k.max
theorem Wi.i64{n:Int}(h:Wi .i64 n):I64 n:=h
end Go.Vs
end
section
namespace Go.Vs
open Go.Lib
local instance tabPalShow9:Tab:=⟨fun _=>none⟩
end Go.Vs
end
