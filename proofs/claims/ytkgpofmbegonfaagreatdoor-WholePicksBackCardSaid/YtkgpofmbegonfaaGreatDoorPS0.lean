import Derived.Test.YtkgpofmbegonfaaGreatDoorPalT
import Derived.Test.YtkgpofmbegonfaaGreatDoorPalC
import Derived.Test.YtkgpofmbegonfaaGreatDoorPalK
import Derived.Test.YtkgpofmbegonfaaGreatDoorPalL
import Derived.Test.YtkgpofmbegonfaaGreatDoorPT1
import Derived.Lib.ItoaLen
import Derived.Test.YtkgpofmbegonfaaGreatDoorPalNum
set_option linter.all false
section
namespace Go.Vs
end Go.Vs
end
section
namespace Go.Vs
end Go.Vs
end
section
namespace Go.Vs
local instance tabPalShow1:Tab:=⟨fun _=>none⟩
def zcN{α β R:Type}(f:Nat->β->α->β ⊕ R)(fin:β->R):Nat->β->List α->R
 | _,a,[]=>fin a
 | i,a,x::xs=>match f i a x with
  | .inl a'=>zcN f fin (i+1) a' xs
  | .inr r=>r
theorem zcU{α β σ R:Type}(l:List α)(mk:Int->β->σ)(step:σ->Option (σ ⊕ R))(f:Nat->β->α->β ⊕ R)(fin:β->R)(Inv:Nat->β->Prop)
  (h1:∀(i:Nat) (x:α),l[i]?=some x->∀a,Inv i a->(step (mk (i:Int) a)=some (match f i a x with | .inl a'=>.inl (mk ((i:Int)+1) a') | .inr r=>.inr r))/\∀a',f i a x=.inl a'->Inv (i+1) a')
  (h2:∀a,Inv l.length a->step (mk (l.length:Int) a)=some (.inr (fin a))) (a0:β) (h0:Inv 0 a0):zbn step (mk 0 a0)=some (zcN f fin 0 a0 l):=by
 have main:∀(suf pre:List α) (a:β),l=pre++suf->Inv pre.length a->zbn step (mk (pre.length:Int) a)=some (zcN f fin pre.length a suf):=by
  intro suf
  induction suf with
  | nil =>
   intro pre a e hI
   rw [List.append_nil] at e
   subst e
   exact zaM (h2 a hI)
  | cons x xs ih =>
   intro pre a e hI
   obtain ⟨e1,e2⟩:=h1 pre.length x (by rw [e]; simp) a hI
   cases hf:f pre.length a x with
   | inl a' =>
    rw [hf] at e1
    have:=ih (pre++[x]) a' (by rw [e]; simp) (by simpa using e2 a' hf)
    rw [zbC e1]
    simp only [zcN,hf]
    simpa using this
   | inr r =>
    rw [hf] at e1
    rw [zaM e1]
    simp only [zcN,hf]
 exact main l [] a0 rfl h0
theorem zeL{α:Type}[Inhabited α]{l:List α}{i:Nat}{x:α}(h:l[i]?=some x):rd l (i:Int)=x:=by
 simp [rd,h]
theorem zdD{α:Type}{l:List α}{i:Nat}{x:α}(h:l[i]?=some x):InB (i:Int) l.length:=⟨by omega,(List.getElem?_eq_some_iff.1 h).1⟩
theorem zhj{α:Type}{l:List α}{i:Nat}{x:α}(h:l[i]?=some x):decide ((i:Int)<(l.length:Int))=true:=by have:=(List.getElem?_eq_some_iff.1 h).1; simpa using this
theorem wi{n:Nat}(h:n<=1000000000):IntKind.wrap .i64 ((n:Int)+1)=(n:Int)+1:=zbV ⟨by omega,by omega⟩
def fnd(l:List ByteArray)(s:ByteArray):Option Nat:=l.findIdx? (fun x=>decide (x=s))
theorem zf1{R:Type}(l:List ByteArray)(s:ByteArray)(hl:l.length<=1000000)(g:Int->R)(step:Int->Option (Int ⊕ (Unit ⊕ R)))
  (hs:∀i,step i=if decide (i<(l.length:Int))=true then (if InB i l.length then (if decide ((rd l i)=s)=true then (some (.inr (.inr (g i)))) else (some (.inl (IntKind.wrap .i64 (i+1))))) else none) else (some (.inr (.inl ())))) :
  zbn step 0=some (match fnd l s with | some i=>.inr (g (i:Int)) | none=>.inl ()):=by
 unfold fnd
 have main:∀(suf pre:List ByteArray),l=pre++suf->zbn step (pre.length:Int)=some (match suf.findIdx? (fun x=>decide (x=s)) with | some i=>.inr (g ((pre.length+i:Nat):Int)) | none=>.inl ()):=by
  intro suf
  induction suf with
  | nil =>
   intro pre e
   rw [List.append_nil] at e; subst e
   refine zaM ?_
   rw [hs,if_neg (by simp)]; rfl
  | cons x xs ih =>
   intro pre e
   have hx:l[pre.length]?=some x:=by rw [e]; simp
   have hlen:pre.length<=1000000:=by have:=(List.getElem?_eq_some_iff.1 hx).1; omega
   have e1:=hs (pre.length:Int)
   rw [if_pos (zhj hx),if_pos (zdD hx),zeL hx] at e1
   rw [List.findIdx?_cons]
   by_cases hd:x=s
   ·rw [if_pos (by simpa using hd)] at e1
    rw [zaM e1]; simp [hd]
   ·rw [if_neg (by simpa using hd),wi (by omega)] at e1
    rw [zbC e1]
    have:=ih (pre++[x]) (by rw [e]; simp)
    simp only [List.length_append,List.length_cons,List.length_nil,Nat.zero_add] at this
    rw [show ((pre.length:Int)+1)=((pre.length+1:Nat):Int) by omega,this]
    simp only [hd,decide_false,Bool.false_eq_true,if_false]
    cases xs.findIdx? (fun x=>decide (x=s)) with
    | none=>rfl
    | some k=>simp only [Option.map_some]; congr 3; omega
 have:=main l [] rfl
 simpa using this
theorem zoD{l:List ByteArray}{s:ByteArray}:(fnd l s).isSome=l.any (fun x=>decide (x=s)):=by
 unfold fnd; rw [List.findIdx?_isSome]
def zga:List ByteArray:=[⟨#[114,97,120]⟩,⟨#[114,98,120]⟩,⟨#[114,99,120]⟩,⟨#[114,100,120]⟩,⟨#[114,115,105]⟩,⟨#[114,100,105]⟩,⟨#[114,56]⟩,⟨#[114,57]⟩]
def opsL:List ByteArray:=[⟨#[109,111,118]⟩,⟨#[97,100,100]⟩,⟨#[115,117,98]⟩,⟨#[97,110,100]⟩,⟨#[111,114]⟩,⟨#[120,111,114]⟩,⟨#[99,109,112]⟩,⟨#[120,99,104,103]⟩,⟨#[99,109,112,120,99,104,103]⟩,⟨#[106,109,112]⟩,⟨#[]⟩,⟨#[109,102,101,110,99,101]⟩,⟨#[110,111,112]⟩,⟨#[104,108,116]⟩]
def zfX:List ByteArray:=[⟨#[106,101]⟩,⟨#[106,110,101]⟩,⟨#[106,108]⟩,⟨#[106,108,101]⟩,⟨#[106,103]⟩,⟨#[106,103,101]⟩,⟨#[106,98]⟩,⟨#[106,98,101]⟩,⟨#[106,97]⟩,⟨#[106,97,101]⟩]
theorem zpT:ze7=some zga:=rfl
theorem zrB:zfU=some opsL:=rfl
theorem zou:zex=some zfX:=rfl
def kwB(s:ByteArray):Bool:=(decide (s=(⟨#[115,121,109]⟩:ByteArray))||decide (s=(⟨#[116,104,114,101,97,100]⟩:ByteArray)))||decide (s=(⟨#[108,111,99,107]⟩:ByteArray))
def zfD(s:ByteArray):Bool:=(!decide (s=⟨#[]⟩))&&(kwB s||(fnd zga s).isSome||(fnd opsL s).isSome||(fnd zfX s).isSome)
theorem zc3(s:ByteArray):zde s=some (match fnd zga s with | some i=>((i:Int),true) | none=>(0,false)):=by
 unfold zde
 rw [zpT]
 simp only [Option.bind_some]
 rw [zf1 zga s (by decide) (fun i=>(i,true)) (zd9 zga s) (fun i=>rfl)]
 cases fnd zga s <;> rfl
theorem zjy{l:List ByteArray}{s:ByteArray}{i:Nat}(h:fnd l s=some i):i<l.length/\l[i]?=some s:=by
 unfold fnd at h
 rw [List.findIdx?_eq_some_iff_getElem] at h
 obtain ⟨h1,h2,_⟩:=h
 exact ⟨h1,by rw [List.getElem?_eq_getElem h1]; simpa using h2⟩
theorem zfv(s:ByteArray):zeA s=some (if s=⟨#[]⟩ then (0,0,false) else match fnd opsL s with | some i=>((i:Int)+1,0,true) | none=>match fnd zfX s with | some i=>(11,(i:Int)+1,true) | none=>(0,0,false)):=by
 unfold zeA
 by_cases h0:s=⟨#[]⟩
 ·rw [if_pos (by simpa using h0),if_pos h0]
 ·rw [if_neg (by simpa using h0),if_neg h0,zrB]
  simp only [Option.bind_some]
  rw [zf1 opsL s (by decide) (fun i=>(IntKind.wrap .i64 (i+1),0,true)) (zez opsL s) (fun i=>rfl)]
  cases ho:fnd opsL s with
  | some i =>
   have hi:=(zjy ho).1
   have hw:=wi (n:=i) (by simp [opsL] at hi; omega)
   simp only [zcG,Option.bind_some,hw]
  | none =>
   simp only [zcG,Option.bind_some,zou]
   rw [zf1 zfX s (by decide) (fun i=>(11,IntKind.wrap .i64 (i+1),true)) (zey zfX s) (fun i=>rfl)]
   cases hj:fnd zfX s with
   | some i =>
    have hi:=(zjy hj).1
    have hw:=wi (n:=i) (by simp [zfX] at hi; omega)
    simp only [zcG,Option.bind_some,hw]
   | none=>rfl
theorem zcJ(s:ByteArray):zcn s=some (zfD s):=by
 unfold zcn
 simp only [Option.bind_some]
 change (if kwB s=true then _ else _)=_
 by_cases h0:s=⟨#[]⟩
 ·subst h0
  rw [zc3,zfv]
  rfl
 ·unfold zfD
  simp only [h0,decide_false,Bool.not_false,Bool.true_and]
  by_cases hk:kwB s=true
  ·simp [hk]
  ·rw [if_neg hk,zc3,zfv,if_neg h0]
   simp only [Bool.not_eq_true] at hk
   rw [hk]
   simp only [Option.bind_some,Bool.false_or]
   cases fnd zga s <;> cases fnd opsL s <;> cases fnd zfX s <;> rfl
end Go.Vs
end
section
namespace Go.Vs
local instance tabPalShow2:Tab:=⟨fun _=>none⟩
def letB(p0:Int):Bool:=(((decide (p0≥97)&&decide (p0<=122))||(decide (p0≥65)&&decide (p0<=90)))||(p0==95))||(decide (p0≥161)&&decide (p0<=1114111))
def digB(p0:Int):Bool:=decide (p0≥48)&&decide (p0<=57)
theorem gLet(r:Int):zcy r=some (letB r):=rfl
theorem gDig(r:Int):zc0 r=some (digB r):=rfl
def badN(i:Nat)(x:zam):Bool:=x.Bad||(!letB x.Rune&&((i==0)||!digB x.Rune))
def zh9:Nat->List zam->Bool
 | _,[]=>true
 | i,x::xs=>!badN i x&&zh9 (i+1) xs
def zkk(s:ByteArray):Bool:=(decide (((zcq s).length:Int)≥1)&&decide (((zcq s).length:Int)<=16))&&!zfD s&&zh9 0 (zcq s)
theorem zio{R:Type}(fin r0:R):∀(l:List zam) (i:Nat),zcN (fun i (_:Unit) x=>if badN i x=true then Sum.inr r0 else .inl ()) (fun _=>fin) i () l=if zh9 i l=true then fin else r0
 | [],i=>by simp [zcN,zh9]
 | x::xs,i=>by
  simp only [zcN,zh9]
  by_cases hb:badN i x=true
  ·simp [hb]
  ·simp only [hb,if_false,Bool.false_eq_true]
   rw [zio fin r0 xs (i+1)]
   simp only [Bool.not_eq_true] at hb
   simp [hb]
theorem zmf(s:ByteArray)(hs:Sm s):(zcq s).length<=1000000:=by
 have:=zhX s s.size 0 1 1
 unfold zcq
 unfold Sm at hs
 omega
theorem zhN(s:ByteArray)(hs:Sm s):zdU s=some (zkk s):=by
 have hl:=zmf s hs
 unfold zdU
 rw [zfn s hs]
 simp only [Option.bind_some]
 rw [zcU (zcq s) (fun i (_:Unit)=>(i,i)) (zco (zcq s)) (fun i _ x=>if badN i x=true then .inr (.inr false) else .inl ()) (fun _=>.inl ((zcq s).length:Int)) (fun _ _=>True)
  (fun i x hx a _=>⟨?_,fun _ _=>trivial⟩) (fun a _=>?_) () trivial]
 ·rw [zio]
  unfold zkk
  cases hn:zh9 0 (zcq s)
  ·simp [zcG]
  ·simp only [if_true,zcG,Bool.and_true]
   rw [zcJ]
   show (if (decide (((zcq s).length:Int)≥1)&&decide (((zcq s).length:Int)<=16))=true then some (zfD s) else some default).bind (fun v37=>some ((decide (((zcq s).length:Int)≥1)&&decide (((zcq s).length:Int)<=16))&&(!v37)))=_
   cases decide (((zcq s).length:Int)≥1) <;> cases decide (((zcq s).length:Int)<=16) <;> cases zfD s <;> rfl
 ·have hi:i<=1000000:=by have:=(List.getElem?_eq_some_iff.1 hx).1; omega
  simp only [zco]
  rw [if_pos (zhj hx),if_pos (zdD hx),zeL hx,gLet,wi (by omega)]
  simp only [gDig]
  have e0:((i:Int)==0)=(i==0):=by cases i <;> rfl
  simp only [e0]
  unfold badN
  cases x.Bad <;> cases letB x.Rune <;> cases (i==0) <;> cases digB x.Rune <;> rfl
 ·simp only [zco]
  rw [if_neg (by simp)]
def opdB(o:zax):Bool :=
 if o.Kind==1 then ((decide (o.Reg≥0)&&decide (o.Reg<=7))&&(o.Sym==0))&&(o.N==0)
 else if o.Kind==2 then (o.Reg==0)&&(o.Sym==0)
 else if o.Kind==3 then (decide (o.Sym≥0)&&decide (o.N≥0))&&(o.Reg==0)
 else if o.Kind==4 then ((decide (o.Sym≥0)&&decide (o.Reg≥0))&&decide (o.Reg<=7))&&(o.N==0) else false
theorem zfR(o:zax):zdH o=some (opdB o):=by
 unfold zdH opdB zdd
 split
 ·rfl
 split
 ·rfl
 split
 ·rfl
 split
 ·cases decide (o.Sym≥0) <;> simp
 ·rfl
def memB(o:zax):Bool:=(o.Kind==3)||(o.Kind==4)
theorem zje{o:zax}(h:opdB o=true):o.Kind=1\/o.Kind=2\/o.Kind=3\/o.Kind=4:=by
 unfold opdB at h
 split at h
 ·rename_i e; exact .inl (by simpa using e)
 split at h
 ·rename_i e; exact .inr (.inl (by simpa using e))
 split at h
 ·rename_i e; exact .inr (.inr (.inl (by simpa using e)))
 split at h
 ·rename_i e; exact .inr (.inr (.inr (by simpa using e)))
 ·cases h
def zko(o:zax):zbb :=
 if o.Kind==1 then .RegPart ⟨o.Reg⟩ else if o.Kind==2 then .NumPart ⟨o.N⟩ else if o.Kind==3 then .AtPart ⟨o.Sym,o.N⟩ else .ByPart ⟨o.Sym,o.Reg⟩
theorem zh7(o:zax):zgd o=some (if opdB o=true then (zko o,true) else (.nil,false)):=by
 unfold zgd zko
 rw [zfR]
 cases opdB o
 ·rfl
 ·simp only [Option.bind_some,Bool.not_true,Bool.false_eq_true,if_false,if_true]
  split
  ·rfl
  split
  ·rfl
  split <;> rfl
theorem zhn(o:zax):zc4 o=some (opdB o&&(o.Kind==1)):=by
 unfold zc4
 rw [zh7]
 cases h:opdB o
 ·rfl
 ·rcases zje h with e | e | e | e <;> simp [zko,e]
theorem zfY(o:zax):zcL o=some (opdB o&&memB o):=by
 unfold zcL
 rw [zh7]
 cases h:opdB o
 ·rfl
 ·rcases zje h with e | e | e | e <;> simp [zko,e,zew,memB]
theorem zjr(o:zax):zen o=some (opdB o&&!memB o):=by
 unfold zen
 rw [zfR,zfY]
 cases opdB o <;> simp
def zl4(o:zax):Bool:=(o.Kind==0)&&((o.Reg==0)&&((o.Sym==0)&&(o.N==0)))
def zmX(x:zao):Bool:=(x.Op==10)||(x.Op==11)
def rowB(x:zao):Bool :=
 if decide (x.Op<1)||decide (x.Op>9) then (zl4 x.A&&zl4 x.B)&&!x.Lock
 else if !opdB x.A||!opdB x.B then false
 else if x.Op==8 then (memB x.A&&(x.B.Kind==1))&&!x.Lock
 else if x.Op==9 then (memB x.A&&(x.B.Kind==1))&&x.Lock
 else if x.A.Kind==1 then !x.Lock
 else (memB x.A&&!memB x.B)&&(!x.Lock||(decide (x.Op≥2)&&decide (x.Op<=6)))
def zly(x:zao):Bool:=(decide (x.Op≥1)&&decide (x.Op<=14))&&rowB x
theorem znT(o:zax):((o.Kind==0)&&((o.Reg==0)&&((o.Sym==0)&&(o.N==0))))=zl4 o:=rfl
theorem zkw(o:zax):((o.Kind==1)&&memB o)=false:=by
 unfold memB
 by_cases h:o.Kind=1
 ·simp [h]
 ·simp [h]
theorem zhQ(x:zao):zdp x=some (zly x):=by
 unfold zdp zeC
 simp only [zhn,zjr,zfY,znT]
 unfold zly rowB
 have hA:=zkw x.A
 have hB:=zkw x.B
 generalize opdB x.A=a,opdB x.B=b,(x.A.Kind==1)=kA,memB x.A=mA,(x.B.Kind==1)=kB,memB x.B=mB,x.Lock=lk,zl4 x.A=zA,zl4 x.B=zB at hA hB ⊢
 generalize x.Op=op
 have h:op<1\/op=1\/op=2\/op=3\/op=4\/op=5\/op=6\/op=7\/op=8\/op=9\/op=10\/op=11\/op=12\/op=13\/op=14\/op>14:=by omega
 have hout:op<1\/op>14->(op==1)=false/\(op==7)=false/\(decide (op≥2)&&decide (op<=6))=false/\(op==8)=false/\(op==9)=false/\(decide (op≥10)&&decide (op<=14))=false/\(decide (op≥1)&&decide (op<=14))=false:=by
  intro h
  refine ⟨?_,?_,?_,?_,?_,?_,?_⟩ <;> simp <;> omega
 rcases h with h | rfl | rfl | rfl | rfl | rfl | rfl | rfl | rfl | rfl | rfl | rfl | rfl | rfl | rfl | h
 case inl =>
  obtain ⟨e1,e2,e3,e4,e5,e6,e7⟩:=hout (.inl h)
  simp only [e1,e2,e3,e4,e5,e6,e7]
  cases a <;> cases b <;> cases kA <;> cases mA <;> first | exact absurd hA (by decide) | (cases mB <;> cases lk <;> rfl)
 case inr.inr.inr.inr.inr.inr.inr.inr.inr.inr.inr.inr.inr.inr.inr =>
  obtain ⟨e1,e2,e3,e4,e5,e6,e7⟩:=hout (.inr h)
  simp only [e1,e2,e3,e4,e5,e6,e7]
  cases a <;> cases b <;> cases kA <;> cases mA <;> first | exact absurd hA (by decide) | (cases mB <;> cases lk <;> rfl)
 all_goals
  cases a <;> cases b <;> cases kA <;> cases mA <;> first | exact absurd hA (by decide) | (cases kB <;> cases mB <;> first | exact absurd hB (by decide) | (cases lk <;> cases zA <;> cases zB <;> rfl))
def znj(x:zao):Bool:=if x.Op==11 then decide (x.Cond≥1)&&decide (x.Cond<=10) else x.Cond==0
theorem zjV(x:zao):zfZ x=some (znj x&&zly x):=by
 unfold zfZ znj
 rw [zhQ]
 split
 ·by_cases h1:x.Cond<1 <;> by_cases h2:x.Cond>10 <;> simp [h1,h2] <;> omega
 ·by_cases h1:x.Cond=0 <;> simp [h1]
def insN(x:zao):Int :=
 if znj x&&zly x&&(zmX x||decide (x.To=⟨#[]⟩)) then (if zmX x&&!zkk x.To then 3 else 0) else 4
theorem zjt(x:zao)(hs:Sm x.To):zeX x=some (insN x):=by
 unfold zeX insN
 rw [zjV,zhN _ hs]
 have e:((x.Op==10)||(x.Op==11))=zmX x:=rfl
 simp only [Option.bind_some,e]
 cases znj x <;> cases zly x <;> cases zmX x <;> cases decide (x.To=⟨#[]⟩) <;> cases zkk x.To <;> rfl
end Go.Vs
end
section
namespace Go.Vs
open Go.Lib
local instance tabPalShow3:Tab:=⟨fun _=>none⟩
def zSy(syms:List ByteArray):Prop:=∀s∈syms,s.size<=1000000
end Go.Vs
end
section
namespace Go.Vs
open Go.Lib
local instance tabPalShow4:Tab:=⟨fun _=>none⟩
def has(l:List ByteArray)(s:ByteArray):Bool:=l.any fun x=>decide (x=s)
def seen(l:List ByteArray):List (ByteArray × Bool):=l.map fun k=>(k,true)
theorem znd{l:List ByteArray}{s:ByteArray}:(fnd l s).isSome=has l s:=zoD
end Go.Vs
end
section
namespace Go.Vs
open Go.Lib
local instance tabPalShow5:Tab:=⟨fun _=>none⟩
end Go.Vs
end
section
namespace Go.Vs
open Go.Lib
local instance tabPalShow6:Tab:=⟨fun _=>none⟩
end Go.Vs
end
section
end
section
namespace Go.Vs
end Go.Vs
end
section
namespace Go.Vs
open Go.Lib
local instance tabPalShow7:Tab:=⟨fun _=>none⟩
section sizes
theorem z1:(⟨#[32]⟩:ByteArray).size=1:=rfl
theorem z2:(⟨#[10]⟩:ByteArray).size=1:=rfl
theorem z3:(⟨#[115,121,109,32]⟩:ByteArray).size=4:=rfl
theorem z4:(⟨#[58,10]⟩:ByteArray).size=2:=rfl
theorem z5:(⟨#[9]⟩:ByteArray).size=1:=rfl
theorem z9:(⟨#[93]⟩:ByteArray).size=1:=rfl
def zsi(syms:List ByteArray):Prop:=∀s∈syms,s.size<=1000
theorem zsi.syms{syms}(h:zsi syms):zSy syms:=fun s hs=>by have:=h s hs; omega
end sizes
end Go.Vs
end
section
namespace Go.Vs
open Go.Lib
local instance tabPalShow8:Tab:=⟨fun _=>none⟩
end Go.Vs
end
section
namespace Go.Vs
end Go.Vs
end
section
namespace Go.Vs
def Wi(k:IntKind)(n:Int):Prop:=k.min<=n/\n<=k.max
theorem Wi.i64{n:Int}(h:Wi .i64 n):I64 n:=h
structure zgm (x:zan):Prop where
 Thread:Wi .i64 x.Thread
 Flush:True
end Go.Vs
end
section
namespace Go.Vs
open Go.Lib
local instance tabPalShow9:Tab:=⟨fun _=>none⟩
end Go.Vs
end
