import Derived.Test.YtocjejladeeckaaDoorPalT
import Derived.Test.YtocjejladeeckaaDoorPalC
import Derived.Test.YtocjejladeeckaaDoorPalK
import Derived.Test.YtocjejladeeckaaDoorPalL
import Derived.Test.YtocjejladeeckaaDoorPT1
import Derived.Lib.ItoaLen
set_option linter.all false
section
namespace Go.Vs
end Go.Vs
end
section
namespace Go.Vs
end Go.Vs
end
section
namespace Go.Vs
end Go.Vs
end
section
namespace Go.Vs
local instance tabPalShow1:Tab:=⟨fun _=>none⟩
def zc5{α β R:Type}(f:Nat->β->α->β ⊕ R)(fin:β->R):Nat->β->List α->R
 | _,a,[]=>fin a
 | i,a,x::xs=>match f i a x with
  | .inl a'=>zc5 f fin (i+1) a' xs
  | .inr r=>r
theorem zfI{α β σ R:Type}(l:List α)(mk:Int->β->σ)(step:σ->Option (σ ⊕ R))(f:Nat->β->α->β ⊕ R)(fin:β->R)(Inv:Nat->β->Prop)
  (h1:∀(i:Nat) (x:α),l[i]?=some x->∀a,Inv i a->(step (mk (i:Int) a)=some (match f i a x with | .inl a'=>.inl (mk ((i:Int)+1) a') | .inr r=>.inr r))/\∀a',f i a x=.inl a'->Inv (i+1) a')
  (h2:∀a,Inv l.length a->step (mk (l.length:Int) a)=some (.inr (fin a))) (a0:β) (h0:Inv 0 a0):zbg step (mk 0 a0)=some (zc5 f fin 0 a0 l):=by
 have main:∀(suf pre:List α) (a:β),l=pre++suf->Inv pre.length a->zbg step (mk (pre.length:Int) a)=some (zc5 f fin pre.length a suf):=by
  intro suf
  induction suf with
  | nil =>
   intro pre a e hI
   rw [List.append_nil] at e
   subst e
   exact zaG (h2 a hI)
  | cons x xs ih =>
   intro pre a e hI
   obtain ⟨e1,e2⟩:=h1 pre.length x (by rw [e]; simp) a hI
   cases hf:f pre.length a x with
   | inl a' =>
    rw [hf] at e1
    have:=ih (pre++[x]) a' (by rw [e]; simp) (by simpa using e2 a' hf)
    rw [zbu e1]
    simp only [zc5,hf]
    simpa using this
   | inr r =>
    rw [hf] at e1
    rw [zaG e1]
    simp only [zc5,hf]
 exact main l [] a0 rfl h0
theorem zfk{α:Type}[Inhabited α]{l:List α}{i:Nat}{x:α}(h:l[i]?=some x):rd l (i:Int)=x:=by
 simp [rd,h]
theorem zhO{α:Type}{l:List α}{i:Nat}{x:α}(h:l[i]?=some x):InB (i:Int) l.length:=⟨by omega,(List.getElem?_eq_some_iff.1 h).1⟩
theorem zod{α:Type}{l:List α}{i:Nat}{x:α}(h:l[i]?=some x):decide ((i:Int)<(l.length:Int))=true:=by have:=(List.getElem?_eq_some_iff.1 h).1; simpa using this
theorem wi{n:Nat}(h:n<=1000000000):IntKind.wrap .i64 ((n:Int)+1)=(n:Int)+1:=zbQ ⟨by omega,by omega⟩
def fnd(l:List ByteArray)(s:ByteArray):Option Nat:=l.findIdx? (fun x=>decide (x=s))
theorem zfQ{R:Type}(l:List ByteArray)(s:ByteArray)(hl:l.length<=1000000)(g:Int->R)(step:Int->Option (Int ⊕ (Unit ⊕ R)))
  (hs:∀i,step i=if decide (i<(l.length:Int))=true then (if InB i l.length then (if decide ((rd l i)=s)=true then (some (.inr (.inr (g i)))) else (some (.inl (IntKind.wrap .i64 (i+1))))) else none) else (some (.inr (.inl ())))) :
  zbg step 0=some (match fnd l s with | some i=>.inr (g (i:Int)) | none=>.inl ()):=by
 unfold fnd
 have main:∀(suf pre:List ByteArray),l=pre++suf->zbg step (pre.length:Int)=some (match suf.findIdx? (fun x=>decide (x=s)) with | some i=>.inr (g ((pre.length+i:Nat):Int)) | none=>.inl ()):=by
  intro suf
  induction suf with
  | nil =>
   intro pre e
   rw [List.append_nil] at e; subst e
   refine zaG ?_
   rw [hs,if_neg (by simp)]; rfl
  | cons x xs ih =>
   intro pre e
   have hx:l[pre.length]?=some x:=by rw [e]; simp
   have hlen:pre.length<=1000000:=by have:=(List.getElem?_eq_some_iff.1 hx).1; omega
   have e1:=hs (pre.length:Int)
   rw [if_pos (zod hx),if_pos (zhO hx),zfk hx] at e1
   rw [List.findIdx?_cons]
   by_cases hd:x=s
   ·rw [if_pos (by simpa using hd)] at e1
    rw [zaG e1]; simp [hd]
   ·rw [if_neg (by simpa using hd),wi (by omega)] at e1
    rw [zbu e1]
    have:=ih (pre++[x]) (by rw [e]; simp)
    simp only [List.length_append,List.length_cons,List.length_nil,Nat.zero_add] at this
    rw [show ((pre.length:Int)+1)=((pre.length+1:Nat):Int) by omega,this]
    simp only [hd,decide_false,Bool.false_eq_true,if_false]
    cases xs.findIdx? (fun x=>decide (x=s)) with
    | none=>rfl
    | some k=>simp only [Option.map_some]; congr 3; omega
 have:=main l [] rfl
 simpa using this
theorem zor{l:List ByteArray}{s:ByteArray}:(fnd l s).isSome=l.any (fun x=>decide (x=s)):=by
 unfold fnd; rw [List.findIdx?_isSome]
def zfi:List ByteArray:=[⟨#[114,97,120]⟩,⟨#[114,98,120]⟩,⟨#[114,99,120]⟩,⟨#[114,100,120]⟩,⟨#[114,115,105]⟩,⟨#[114,100,105]⟩,⟨#[114,56]⟩,⟨#[114,57]⟩]
def opsL:List ByteArray:=[⟨#[109,111,118]⟩,⟨#[97,100,100]⟩,⟨#[115,117,98]⟩,⟨#[97,110,100]⟩,⟨#[111,114]⟩,⟨#[120,111,114]⟩,⟨#[99,109,112]⟩,⟨#[120,99,104,103]⟩,⟨#[99,109,112,120,99,104,103]⟩,⟨#[106,109,112]⟩,⟨#[]⟩,⟨#[109,102,101,110,99,101]⟩,⟨#[110,111,112]⟩,⟨#[104,108,116]⟩]
def zfM:List ByteArray:=[⟨#[106,101]⟩,⟨#[106,110,101]⟩,⟨#[106,108]⟩,⟨#[106,108,101]⟩,⟨#[106,103]⟩,⟨#[106,103,101]⟩,⟨#[106,98]⟩,⟨#[106,98,101]⟩,⟨#[106,97]⟩,⟨#[106,97,101]⟩]
theorem zpG:zeY=some zfi:=rfl
theorem zq9:zfH=some opsL:=rfl
theorem zoj:zeg=some zfM:=rfl
def kwB(s:ByteArray):Bool:=(decide (s=(⟨#[115,121,109]⟩:ByteArray))||decide (s=(⟨#[116,104,114,101,97,100]⟩:ByteArray)))||decide (s=(⟨#[108,111,99,107]⟩:ByteArray))
def zeD(s:ByteArray):Bool:=(!decide (s=⟨#[]⟩))&&(kwB s||(fnd zfi s).isSome||(fnd opsL s).isSome||(fnd zfM s).isSome)
theorem zcL(s:ByteArray):zcR s=some (match fnd zfi s with | some i=>((i:Int),true) | none=>(0,false)):=by
 unfold zcR
 rw [zpG]
 simp only [Option.bind_some]
 rw [zfQ zfi s (by decide) (fun i=>(i,true)) (zdL zfi s) (fun i=>rfl)]
 cases fnd zfi s <;> rfl
theorem zje{l:List ByteArray}{s:ByteArray}{i:Nat}(h:fnd l s=some i):i<l.length/\l[i]?=some s:=by
 unfold fnd at h
 rw [List.findIdx?_eq_some_iff_getElem] at h
 obtain ⟨h1,h2,_⟩:=h
 exact ⟨h1,by rw [List.getElem?_eq_getElem h1]; simpa using h2⟩
theorem zfo(s:ByteArray):zej s=some (if s=⟨#[]⟩ then (0,0,false) else match fnd opsL s with | some i=>((i:Int)+1,0,true) | none=>match fnd zfM s with | some i=>(11,(i:Int)+1,true) | none=>(0,0,false)):=by
 unfold zej
 by_cases h0:s=⟨#[]⟩
 ·rw [if_pos (by simpa using h0),if_pos h0]
 ·rw [if_neg (by simpa using h0),if_neg h0,zq9]
  simp only [Option.bind_some]
  rw [zfQ opsL s (by decide) (fun i=>(IntKind.wrap .i64 (i+1),0,true)) (zei opsL s) (fun i=>rfl)]
  cases ho:fnd opsL s with
  | some i =>
   have hi:=(zje ho).1
   have hw:=wi (n:=i) (by simp [opsL] at hi; omega)
   simp only [zcj,Option.bind_some,hw]
  | none =>
   simp only [zcj,Option.bind_some,zoj]
   rw [zfQ zfM s (by decide) (fun i=>(11,IntKind.wrap .i64 (i+1),true)) (zeh zfM s) (fun i=>rfl)]
   cases hj:fnd zfM s with
   | some i =>
    have hi:=(zje hj).1
    have hw:=wi (n:=i) (by simp [zfM] at hi; omega)
    simp only [zcj,Option.bind_some,hw]
   | none=>rfl
theorem zct(s:ByteArray):zcf s=some (zeD s):=by
 unfold zcf
 simp only [Option.bind_some]
 change (if kwB s=true then _ else _)=_
 by_cases h0:s=⟨#[]⟩
 ·subst h0
  rw [zcL,zfo]
  rfl
 ·unfold zeD
  simp only [h0,decide_false,Bool.not_false,Bool.true_and]
  by_cases hk:kwB s=true
  ·simp [hk]
  ·rw [if_neg hk,zcL,zfo,if_neg h0]
   simp only [Bool.not_eq_true] at hk
   rw [hk]
   simp only [Option.bind_some,Bool.false_or]
   cases fnd zfi s <;> cases fnd opsL s <;> cases fnd zfM s <;> rfl
end Go.Vs
end
section
namespace Go.Vs
local instance tabPalShow2:Tab:=⟨fun _=>none⟩
def letB(p0:Int):Bool:=(((decide (p0≥97)&&decide (p0<=122))||(decide (p0≥65)&&decide (p0<=90)))||(p0==95))||(decide (p0≥161)&&decide (p0<=1114111))
def digB(p0:Int):Bool:=decide (p0≥48)&&decide (p0<=57)
theorem gLet(r:Int):zcn r=some (letB r):=rfl
theorem gDig(r:Int):zcI r=some (digB r):=rfl
def badN(i:Nat)(x:zah):Bool:=x.Bad||(!letB x.Rune&&((i==0)||!digB x.Rune))
def zhI:Nat->List zah->Bool
 | _,[]=>true
 | i,x::xs=>!badN i x&&zhI (i+1) xs
def zke(s:ByteArray):Bool:=(decide (((zbo s).length:Int)≥1)&&decide (((zbo s).length:Int)<=16))&&!zeD s&&zhI 0 (zbo s)
theorem zhU{R:Type}(fin r0:R):∀(l:List zah) (i:Nat),zc5 (fun i (_:Unit) x=>if badN i x=true then Sum.inr r0 else .inl ()) (fun _=>fin) i () l=if zhI i l=true then fin else r0
 | [],i=>by simp [zc5,zhI]
 | x::xs,i=>by
  simp only [zc5,zhI]
  by_cases hb:badN i x=true
  ·simp [hb]
  ·simp only [hb,if_false,Bool.false_eq_true]
   rw [zhU fin r0 xs (i+1)]
   simp only [Bool.not_eq_true] at hb
   simp [hb]
theorem zl2(s:ByteArray)(hs:Sm s):(zbo s).length<=1000000:=by
 have:=zhA s s.size 0 1 1
 unfold zbo
 unfold Sm at hs
 omega
theorem zhp(s:ByteArray)(hs:Sm s):zdt s=some (zke s):=by
 have hl:=zl2 s hs
 unfold zdt
 rw [zfc s hs]
 simp only [Option.bind_some]
 rw [zfI (zbo s) (fun i (_:Unit)=>(i,i)) (zcg (zbo s)) (fun i _ x=>if badN i x=true then .inr (.inr false) else .inl ()) (fun _=>.inl ((zbo s).length:Int)) (fun _ _=>True)
  (fun i x hx a _=>⟨?_,fun _ _=>trivial⟩) (fun a _=>?_) () trivial]
 ·rw [zhU]
  unfold zke
  cases hn:zhI 0 (zbo s)
  ·simp [zcj]
  ·simp only [if_true,zcj,Bool.and_true]
   rw [zct]
   show (if (decide (((zbo s).length:Int)≥1)&&decide (((zbo s).length:Int)<=16))=true then some (zeD s) else some default).bind (fun v37=>some ((decide (((zbo s).length:Int)≥1)&&decide (((zbo s).length:Int)<=16))&&(!v37)))=_
   cases decide (((zbo s).length:Int)≥1) <;> cases decide (((zbo s).length:Int)<=16) <;> cases zeD s <;> rfl
 ·have hi:i<=1000000:=by have:=(List.getElem?_eq_some_iff.1 hx).1; omega
  simp only [zcg]
  rw [if_pos (zod hx),if_pos (zhO hx),zfk hx,gLet,wi (by omega)]
  simp only [gDig]
  have e0:((i:Int)==0)=(i==0):=by cases i <;> rfl
  simp only [e0]
  unfold badN
  cases x.Bad <;> cases letB x.Rune <;> cases (i==0) <;> cases digB x.Rune <;> rfl
 ·simp only [zcg]
  rw [if_neg (by simp)]
def opdB(o:zav):Bool :=
 if o.Kind==1 then ((decide (o.Reg≥0)&&decide (o.Reg<=7))&&(o.Sym==0))&&(o.N==0)
 else if o.Kind==2 then (o.Reg==0)&&(o.Sym==0)
 else if o.Kind==3 then (decide (o.Sym≥0)&&decide (o.N≥0))&&(o.Reg==0)
 else if o.Kind==4 then ((decide (o.Sym≥0)&&decide (o.Reg≥0))&&decide (o.Reg<=7))&&(o.N==0) else false
theorem zfG(o:zav):zdk o=some (opdB o):=by
 unfold zdk opdB zcQ
 split
 ·rfl
 split
 ·rfl
 split
 ·rfl
 split
 ·cases decide (o.Sym≥0) <;> simp
 ·rfl
def memB(o:zav):Bool:=(o.Kind==3)||(o.Kind==4)
theorem ziX{o:zav}(h:opdB o=true):o.Kind=1\/o.Kind=2\/o.Kind=3\/o.Kind=4:=by
 unfold opdB at h
 split at h
 ·rename_i e; exact .inl (by simpa using e)
 split at h
 ·rename_i e; exact .inr (.inl (by simpa using e))
 split at h
 ·rename_i e; exact .inr (.inr (.inl (by simpa using e)))
 split at h
 ·rename_i e; exact .inr (.inr (.inr (by simpa using e)))
 ·cases h
def zkj(o:zav):za9 :=
 if o.Kind==1 then .RegPart ⟨o.Reg⟩ else if o.Kind==2 then .NumPart ⟨o.N⟩ else if o.Kind==3 then .AtPart ⟨o.Sym,o.N⟩ else .ByPart ⟨o.Sym,o.Reg⟩
theorem zhG(o:zav):zf2 o=some (if opdB o=true then (zkj o,true) else (.nil,false)):=by
 unfold zf2 zkj
 rw [zfG]
 cases opdB o
 ·rfl
 ·simp only [Option.bind_some,Bool.not_true,Bool.false_eq_true,if_false,if_true]
  split
  ·rfl
  split
  ·rfl
  split <;> rfl
theorem zgX(o:zav):zcM o=some (opdB o&&(o.Kind==1)):=by
 unfold zcM
 rw [zhG]
 cases h:opdB o
 ·rfl
 ·rcases ziX h with e | e | e | e <;> simp [zkj,e]
theorem zfN(o:zav):zcv o=some (opdB o&&memB o):=by
 unfold zcv
 rw [zhG]
 cases h:opdB o
 ·rfl
 ·rcases ziX h with e | e | e | e <;> simp [zkj,e,zef,memB]
theorem zi8(o:zav):zd6 o=some (opdB o&&!memB o):=by
 unfold zd6
 rw [zfG,zfN]
 cases opdB o <;> simp
def zlQ(o:zav):Bool:=(o.Kind==0)&&((o.Reg==0)&&((o.Sym==0)&&(o.N==0)))
def zmS(x:zak):Bool:=(x.Op==10)||(x.Op==11)
def rowB(x:zak):Bool :=
 if decide (x.Op<1)||decide (x.Op>9) then (zlQ x.A&&zlQ x.B)&&!x.Lock
 else if !opdB x.A||!opdB x.B then false
 else if x.Op==8 then (memB x.A&&(x.B.Kind==1))&&!x.Lock
 else if x.Op==9 then (memB x.A&&(x.B.Kind==1))&&x.Lock
 else if x.A.Kind==1 then !x.Lock
 else (memB x.A&&!memB x.B)&&(!x.Lock||(decide (x.Op≥2)&&decide (x.Op<=6)))
def zlk(x:zak):Bool:=(decide (x.Op≥1)&&decide (x.Op<=14))&&rowB x
theorem znN(o:zav):((o.Kind==0)&&((o.Reg==0)&&((o.Sym==0)&&(o.N==0))))=zlQ o:=rfl
theorem zks(o:zav):((o.Kind==1)&&memB o)=false:=by
 unfold memB
 by_cases h:o.Kind=1
 ·simp [h]
 ·simp [h]
theorem zhs(x:zak):zc3 x=some (zlk x):=by
 unfold zc3 zel
 simp only [zgX,zi8,zfN,znN]
 unfold zlk rowB
 have hA:=zks x.A
 have hB:=zks x.B
 generalize opdB x.A=a,opdB x.B=b,(x.A.Kind==1)=kA,memB x.A=mA,(x.B.Kind==1)=kB,memB x.B=mB,x.Lock=lk,zlQ x.A=zA,zlQ x.B=zB at hA hB ⊢
 generalize x.Op=op
 have h:op<1\/op=1\/op=2\/op=3\/op=4\/op=5\/op=6\/op=7\/op=8\/op=9\/op=10\/op=11\/op=12\/op=13\/op=14\/op>14:=by omega
 have hout:op<1\/op>14->(op==1)=false/\(op==7)=false/\(decide (op≥2)&&decide (op<=6))=false/\(op==8)=false/\(op==9)=false/\(decide (op≥10)&&decide (op<=14))=false/\(decide (op≥1)&&decide (op<=14))=false:=by
  intro h
  refine ⟨?_,?_,?_,?_,?_,?_,?_⟩ <;> simp <;> omega
 rcases h with h | rfl | rfl | rfl | rfl | rfl | rfl | rfl | rfl | rfl | rfl | rfl | rfl | rfl | rfl | h
 case inl =>
  obtain ⟨e1,e2,e3,e4,e5,e6,e7⟩:=hout (.inl h)
  simp only [e1,e2,e3,e4,e5,e6,e7]
  cases a <;> cases b <;> cases kA <;> cases mA <;> first | exact absurd hA (by decide) | (cases mB <;> cases lk <;> rfl)
 case inr.inr.inr.inr.inr.inr.inr.inr.inr.inr.inr.inr.inr.inr.inr =>
  obtain ⟨e1,e2,e3,e4,e5,e6,e7⟩:=hout (.inr h)
  simp only [e1,e2,e3,e4,e5,e6,e7]
  cases a <;> cases b <;> cases kA <;> cases mA <;> first | exact absurd hA (by decide) | (cases mB <;> cases lk <;> rfl)
 all_goals
  cases a <;> cases b <;> cases kA <;> cases mA <;> first | exact absurd hA (by decide) | (cases kB <;> cases mB <;> first | exact absurd hB (by decide) | (cases lk <;> cases zA <;> cases zB <;> rfl))
def znh(x:zak):Bool:=if x.Op==11 then decide (x.Cond≥1)&&decide (x.Cond<=10) else x.Cond==0
theorem zjK(x:zak):zfO x=some (znh x&&zlk x):=by
 unfold zfO znh
 rw [zhs]
 split
 ·by_cases h1:x.Cond<1 <;> by_cases h2:x.Cond>10 <;> simp [h1,h2] <;> omega
 ·by_cases h1:x.Cond=0 <;> simp [h1]
def insN(x:zak):Int :=
 if znh x&&zlk x&&(zmS x||decide (x.To=⟨#[]⟩)) then (if zmS x&&!zke x.To then 3 else 0) else 4
theorem zja(x:zak)(hs:Sm x.To):zeO x=some (insN x):=by
 unfold zeO insN
 rw [zjK,zhp _ hs]
 have e:((x.Op==10)||(x.Op==11))=zmS x:=rfl
 simp only [Option.bind_some,e]
 cases znh x <;> cases zlk x <;> cases zmS x <;> cases decide (x.To=⟨#[]⟩) <;> cases zke x.To <;> rfl
end Go.Vs
end
section
namespace Go.Vs
open Go.Lib
local instance tabPalShow3:Tab:=⟨fun _=>none⟩
theorem zhM{n:Int}(h:I64 n):(zdj n).size<=21:=by unfold zdj; rw [zbV]; exact itoa_length_le n h.1 h.2
def zSy(syms:List ByteArray):Prop:=∀s∈syms,s.size<=1000000
end Go.Vs
end
section
namespace Go.Vs
open Go.Lib
local instance tabPalShow4:Tab:=⟨fun _=>none⟩
def has(l:List ByteArray)(s:ByteArray):Bool:=l.any fun x=>decide (x=s)
def seen(l:List ByteArray):List (ByteArray × Bool):=l.map fun k=>(k,true)
theorem zm9{l:List ByteArray}{s:ByteArray}:(fnd l s).isSome=has l s:=zor
end Go.Vs
end
section
namespace Go.Vs
open Go.Lib
local instance tabPalShow5:Tab:=⟨fun _=>none⟩
end Go.Vs
end
section
namespace Go.Vs
open Go.Lib
local instance tabPalShow6:Tab:=⟨fun _=>none⟩
end Go.Vs
end
