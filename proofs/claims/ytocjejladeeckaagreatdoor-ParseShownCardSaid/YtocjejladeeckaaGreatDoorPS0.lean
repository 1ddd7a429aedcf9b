import Derived.Test.YtocjejladeeckaaGreatDoorPalT
import Derived.Test.YtocjejladeeckaaGreatDoorPalC
import Derived.Test.YtocjejladeeckaaGreatDoorPT1
import Derived.Lib.ItoaLen
set_option linter.all false
section
namespace Go.Vs
end Go.Vs
end
section
namespace Go.Vs
local instance tabPalShow1:Tab:=⟨fun _=>none⟩
def zaM{α β R:Type}(f:Nat->β->α->β ⊕ R)(fin:β->R):Nat->β->List α->R
 | _,a,[]=>fin a
 | i,a,x::xs=>match f i a x with
  | .inl a'=>zaM f fin (i+1) a' xs
  | .inr r=>r
theorem zdh{α β σ R:Type}(l:List α)(mk:Int->β->σ)(step:σ->Option (σ ⊕ R))(f:Nat->β->α->β ⊕ R)(fin:β->R)(Inv:Nat->β->Prop)
  (h1:∀(i:Nat) (x:α),l[i]?=some x->∀a,Inv i a->(step (mk (i:Int) a)=some (match f i a x with | .inl a'=>.inl (mk ((i:Int)+1) a') | .inr r=>.inr r))/\∀a',f i a x=.inl a'->Inv (i+1) a')
  (h2:∀a,Inv l.length a->step (mk (l.length:Int) a)=some (.inr (fin a))) (a0:β) (h0:Inv 0 a0):zaL step (mk 0 a0)=some (zaM f fin 0 a0 l):=by
 have main:∀(suf pre:List α) (a:β),l=pre++suf->Inv pre.length a->zaL step (mk (pre.length:Int) a)=some (zaM f fin pre.length a suf):=by
  intro suf
  induction suf with
  | nil =>
   intro pre a e hI
   rw [List.append_nil] at e
   subst e
   exact zaJ (h2 a hI)
  | cons x xs ih =>
   intro pre a e hI
   obtain ⟨e1,e2⟩:=h1 pre.length x (by rw [e]; simp) a hI
   cases hf:f pre.length a x with
   | inl a' =>
    rw [hf] at e1
    have:=ih (pre++[x]) a' (by rw [e]; simp) (by simpa using e2 a' hf)
    rw [zbg e1]
    simp only [zaM,hf]
    simpa using this
   | inr r =>
    rw [hf] at e1
    rw [zaJ e1]
    simp only [zaM,hf]
 exact main l [] a0 rfl h0
theorem zci{α:Type}[Inhabited α]{l:List α}{i:Nat}{x:α}(h:l[i]?=some x):rd l (i:Int)=x:=by
 simp [rd,h]
theorem zb6{α:Type}{l:List α}{i:Nat}{x:α}(h:l[i]?=some x):InB (i:Int) l.length:=⟨by omega,(List.getElem?_eq_some_iff.1 h).1⟩
theorem zfp{α:Type}{l:List α}{i:Nat}{x:α}(h:l[i]?=some x):decide ((i:Int)<(l.length:Int))=true:=by have:=(List.getElem?_eq_some_iff.1 h).1; simpa using this
theorem wi{n:Nat}(h:n<=1000000000):IntKind.wrap .i64 ((n:Int)+1)=(n:Int)+1:=zbG ⟨by omega,by omega⟩
def fnd(l:List ByteArray)(s:ByteArray):Option Nat:=l.findIdx? (fun x=>decide (x=s))
theorem zhf{R:Type}(l:List ByteArray)(s:ByteArray)(hl:l.length<=1000000)(g:Int->R)(step:Int->Option (Int ⊕ (Unit ⊕ R)))
  (hs:∀i,step i=if decide (i<(l.length:Int))=true then (if InB i l.length then (if decide ((rd l i)=s)=true then (some (.inr (.inr (g i)))) else (some (.inl (IntKind.wrap .i64 (i+1))))) else none) else (some (.inr (.inl ())))) :
  zaL step 0=some (match fnd l s with | some i=>.inr (g (i:Int)) | none=>.inl ()):=by
 unfold fnd
 have main:∀(suf pre:List ByteArray),l=pre++suf->zaL step (pre.length:Int)=some (match suf.findIdx? (fun x=>decide (x=s)) with | some i=>.inr (g ((pre.length+i:Nat):Int)) | none=>.inl ()):=by
  intro suf
  induction suf with
  | nil =>
   intro pre e
   rw [List.append_nil] at e; subst e
   refine zaJ ?_
   rw [hs,if_neg (by simp)]; rfl
  | cons x xs ih =>
   intro pre e
   have hx:l[pre.length]?=some x:=by rw [e]; simp
   have hlen:pre.length<=1000000:=by have:=(List.getElem?_eq_some_iff.1 hx).1; omega
   have e1:=hs (pre.length:Int)
   rw [if_pos (zfp hx),if_pos (zb6 hx),zci hx] at e1
   rw [List.findIdx?_cons]
   by_cases hd:x=s
   ·rw [if_pos (by simpa using hd)] at e1
    rw [zaJ e1]; simp [hd]
   ·rw [if_neg (by simpa using hd),wi (by omega)] at e1
    rw [zbg e1]
    have:=ih (pre++[x]) (by rw [e]; simp)
    simp only [List.length_append,List.length_cons,List.length_nil,Nat.zero_add] at this
    rw [show ((pre.length:Int)+1)=((pre.length+1:Nat):Int) by omega,this]
    simp only [hd,decide_false,Bool.false_eq_true,if_false]
    cases xs.findIdx? (fun x=>decide (x=s)) with
    | none=>rfl
    | some k=>simp only [Option.map_some]; congr 3; omega
 have:=main l [] rfl
 simpa using this
theorem zsf{l:List ByteArray}{s:ByteArray}:(fnd l s).isSome=l.any (fun x=>decide (x=s)):=by
 unfold fnd; rw [List.findIdx?_isSome]
theorem zoP{l:List ByteArray}{x s:ByteArray}:fnd (x::l) s=if x=s then some 0 else (fnd l s).map (·+1):=by
 unfold fnd; rw [List.findIdx?_cons]; simp
theorem zjM(l:List ByteArray)(s:ByteArray)(hl:l.length<=1000000):zaP l s=some (match fnd l s with | some i=>(i:Int) | none=>-1):=by
 unfold zaP
 rw [zhf l s hl (fun i=>i) (zdn l s) (fun i=>rfl)]
 cases fnd l s <;> rfl
def zfj:List ByteArray:=[⟨#[114,97,120]⟩,⟨#[114,98,120]⟩,⟨#[114,99,120]⟩,⟨#[114,100,120]⟩,⟨#[114,115,105]⟩,⟨#[114,100,105]⟩,⟨#[114,56]⟩,⟨#[114,57]⟩]
def opsL:List ByteArray:=[⟨#[109,111,118]⟩,⟨#[97,100,100]⟩,⟨#[115,117,98]⟩,⟨#[97,110,100]⟩,⟨#[111,114]⟩,⟨#[120,111,114]⟩,⟨#[99,109,112]⟩,⟨#[120,99,104,103]⟩,⟨#[99,109,112,120,99,104,103]⟩,⟨#[106,109,112]⟩,⟨#[]⟩,⟨#[109,102,101,110,99,101]⟩,⟨#[110,111,112]⟩,⟨#[104,108,116]⟩]
def zfr:List ByteArray:=[⟨#[106,101]⟩,⟨#[106,110,101]⟩,⟨#[106,108]⟩,⟨#[106,108,101]⟩,⟨#[106,103]⟩,⟨#[106,103,101]⟩,⟨#[106,98]⟩,⟨#[106,98,101]⟩,⟨#[106,97]⟩,⟨#[106,97,101]⟩]
theorem ztm:zhp=some zfj:=rfl
theorem zuY:ziw=some opsL:=rfl
theorem zr7:zgu=some zfr:=rfl
theorem zoj:zde=some zfj:=rfl
theorem zp8:zdw=some (⟨#[]⟩::opsL):=rfl
theorem zmE:zcR=some (⟨#[]⟩::zfr):=rfl
def kwB(s:ByteArray):Bool:=(decide (s=(⟨#[115,121,109]⟩:ByteArray))||decide (s=(⟨#[116,104,114,101,97,100]⟩:ByteArray)))||decide (s=(⟨#[108,111,99,107]⟩:ByteArray))
def ze3(s:ByteArray):Bool:=(!decide (s=⟨#[]⟩))&&(kwB s||(fnd zfj s).isSome||(fnd opsL s).isSome||(fnd zfr s).isSome)
theorem zeh(s:ByteArray):zeq s=some (match fnd zfj s with | some i=>((i:Int),true) | none=>(0,false)):=by
 unfold zeq
 rw [ztm]
 simp only [Option.bind_some]
 rw [zhf zfj s (by decide) (fun i=>(i,true)) (zfK zfj s) (fun i=>rfl)]
 cases fnd zfj s <;> rfl
theorem zng{l:List ByteArray}{s:ByteArray}{i:Nat}(h:fnd l s=some i):i<l.length/\l[i]?=some s:=by
 unfold fnd at h
 rw [List.findIdx?_eq_some_iff_getElem] at h
 obtain ⟨h1,h2,_⟩:=h
 exact ⟨h1,by rw [List.getElem?_eq_getElem h1]; simpa using h2⟩
theorem zh3(s:ByteArray):zgx s=some (if s=⟨#[]⟩ then (0,0,false) else match fnd opsL s with | some i=>((i:Int)+1,0,true) | none=>match fnd zfr s with | some i=>(11,(i:Int)+1,true) | none=>(0,0,false)):=by
 unfold zgx
 by_cases h0:s=⟨#[]⟩
 ·rw [if_pos (by simpa using h0),if_pos h0]
 ·rw [if_neg (by simpa using h0),if_neg h0,zuY]
  simp only [Option.bind_some]
  rw [zhf opsL s (by decide) (fun i=>(IntKind.wrap .i64 (i+1),0,true)) (zgw opsL s) (fun i=>rfl)]
  cases ho:fnd opsL s with
  | some i =>
   have hi:=(zng ho).1
   have hw:=wi (n:=i) (by simp [opsL] at hi; omega)
   simp only [zbu,Option.bind_some,hw]
  | none =>
   simp only [zbu,Option.bind_some,zr7]
   rw [zhf zfr s (by decide) (fun i=>(11,IntKind.wrap .i64 (i+1),true)) (zgv zfr s) (fun i=>rfl)]
   cases hj:fnd zfr s with
   | some i =>
    have hi:=(zng hj).1
    have hw:=wi (n:=i) (by simp [zfr] at hi; omega)
    simp only [zbu,Option.bind_some,hw]
   | none=>rfl
theorem zdO(s:ByteArray):zdx s=some (ze3 s):=by
 unfold zdx
 simp only [Option.bind_some]
 change (if kwB s=true then _ else _)=_
 by_cases h0:s=⟨#[]⟩
 ·subst h0
  rw [zeh,zh3]
  rfl
 ·unfold ze3
  simp only [h0,decide_false,Bool.not_false,Bool.true_and]
  by_cases hk:kwB s=true
  ·simp [hk]
  ·rw [if_neg hk,zeh,zh3,if_neg h0]
   simp only [Bool.not_eq_true] at hk
   rw [hk]
   simp only [Option.bind_some,Bool.false_or]
   cases fnd zfj s <;> cases fnd opsL s <;> cases fnd zfr s <;> rfl
theorem znD(s:ByteArray):zcG s=some (ze3 s):=by
 unfold zcG
 simp only [zoj,zp8,zmE]
 by_cases h0:s=⟨#[]⟩
 ·subst h0; rfl
 ·have h0':(⟨#[]⟩:ByteArray)≠s:=fun e=>h0 e.symm
  unfold ze3
  change (if (_&&!kwB s)=true then _ else _:Option _).bind _=_
  simp only [h0,decide_false,Bool.not_false,Bool.true_and]
  have hk3:((decide (s=(⟨#[115,121,109]⟩:ByteArray))||decide (s=(⟨#[116,104,114,101,97,100]⟩:ByteArray)))||decide (s=(⟨#[108,111,99,107]⟩:ByteArray)))=kwB s:=rfl
  rw [hk3]
  have hge:∀i:Nat,decide ((i:Int)≥0)=true:=fun i=>by simp
  have hgt:∀i:Nat,decide (((i+1:Nat):Int)>0)=true:=fun i=>by simp
  have hm1:decide ((-1:Int)≥0)=false:=rfl
  have hm2:decide ((-1:Int)>0)=false:=rfl
  cases hk:kwB s
  ·simp only [Bool.not_false,Bool.false_or,if_true,Option.bind_some]
   rw [zjM _ _ (by decide)]
   cases hr:fnd zfj s with
   | some i=>simp only [Option.bind_some,hge,Bool.true_or,Bool.or_true,Bool.not_true,Bool.false_eq_true,if_false,Option.isSome_some]
   | none =>
    simp only [Option.bind_some,hm1,Bool.false_or,Bool.not_false,if_true]
    rw [zjM _ _ (by decide),zoP,if_neg h0']
    cases ho:fnd opsL s with
    | some i=>simp only [Option.bind_some,Option.map_some,hgt,Bool.true_or,Bool.or_true,Bool.not_true,Bool.false_eq_true,if_false,Option.isSome_some,Option.isSome_none]
    | none =>
     simp only [Option.bind_some,Option.map_none,hm2,Bool.false_or,Bool.or_false,Bool.not_false,if_true,Option.isSome_none]
     rw [zjM _ _ (by decide),zoP,if_neg h0']
     cases hj:fnd zfr s with
     | some i=>simp only [Option.bind_some,Option.map_some,hgt,Option.isSome_some]
     | none=>rfl
  ·simp
end Go.Vs
end
section
namespace Go.Vs
local instance tabPalShow2:Tab:=⟨fun _=>none⟩
def letB(p0:Int):Bool:=(((decide (p0≥97)&&decide (p0<=122))||(decide (p0≥65)&&decide (p0<=90)))||(p0==95))||(decide (p0≥161)&&decide (p0<=1114111))
def digB(p0:Int):Bool:=decide (p0≥48)&&decide (p0<=57)
theorem gLet(r:Int):zdJ r=some (letB r):=rfl
theorem rLet(r:Int):zbz r=some (letB r):=rfl
theorem gDig(r:Int):zeb r=some (digB r):=rfl
theorem rDig(r:Int):zcv r=some (digB r):=rfl
def badN(i:Nat)(x:zal):Bool:=x.Bad||(!letB x.Rune&&((i==0)||!digB x.Rune))
def ze2:Nat->List zal->Bool
 | _,[]=>true
 | i,x::xs=>!badN i x&&ze2 (i+1) xs
def zbp(s:ByteArray):Bool:=(decide (((zaX s).length:Int)≥1)&&decide (((zaX s).length:Int)<=16))&&!ze3 s&&ze2 0 (zaX s)
theorem zi5{R:Type}(fin r0:R):∀(l:List zal) (i:Nat),zaM (fun i (_:Unit) x=>if badN i x=true then Sum.inr r0 else .inl ()) (fun _=>fin) i () l=if ze2 i l=true then fin else r0
 | [],i=>by simp [zaM,ze2]
 | x::xs,i=>by
  simp only [zaM,ze2]
  by_cases hb:badN i x=true
  ·simp [hb]
  ·simp only [hb,if_false,Bool.false_eq_true]
   rw [zi5 fin r0 xs (i+1)]
   simp only [Bool.not_eq_true] at hb
   simp [hb]
theorem zmn(s:ByteArray)(hs:Sm s):(zaX s).length<=1000000:=by
 have:=ziP s s.size 0 1 1
 unfold zaX
 unfold Sm at hs
 omega
theorem zkU(s:ByteArray)(hs:Sm s):zfo s=some (zbp s):=by
 have hl:=zmn s hs
 unfold zfo
 rw [zhL s hs]
 simp only [Option.bind_some]
 rw [zdh (zaX s) (fun i (_:Unit)=>(i,i)) (zdy (zaX s)) (fun i _ x=>if badN i x=true then .inr (.inr false) else .inl ()) (fun _=>.inl ((zaX s).length:Int)) (fun _ _=>True)
  (fun i x hx a _=>⟨?_,fun _ _=>trivial⟩) (fun a _=>?_) () trivial]
 ·rw [zi5]
  unfold zbp
  cases hn:ze2 0 (zaX s)
  ·simp [zbu]
  ·simp only [if_true,zbu,Bool.and_true]
   rw [zdO]
   show (if (decide (((zaX s).length:Int)≥1)&&decide (((zaX s).length:Int)<=16))=true then some (ze3 s) else some default).bind (fun v37=>some ((decide (((zaX s).length:Int)≥1)&&decide (((zaX s).length:Int)<=16))&&(!v37)))=_
   cases decide (((zaX s).length:Int)≥1) <;> cases decide (((zaX s).length:Int)<=16) <;> cases ze3 s <;> rfl
 ·have hi:i<=1000000:=by have:=(List.getElem?_eq_some_iff.1 hx).1; omega
  simp only [zdy]
  rw [if_pos (zfp hx),if_pos (zb6 hx),zci hx,gLet,wi (by omega)]
  simp only [gDig]
  have e0:((i:Int)==0)=(i==0):=by cases i <;> rfl
  simp only [e0]
  unfold badN
  cases x.Bad <;> cases letB x.Rune <;> cases (i==0) <;> cases digB x.Rune <;> rfl
 ·simp only [zdy]
  rw [if_neg (by simp)]
theorem zgV(s:ByteArray)(hs:Sm s):zcu s=some (zbp s):=by
 have hl:=zmn s hs
 unfold zcu
 rw [zmA s hs]
 simp only [Option.bind_some,List.length_map]
 rw [znD]
 have hgo:zaL (zbr ((zaX s).map toR)) 0=some (if ze2 0 (zaX s)=true then .inl () else .inr false):=by
  have:=zdh (zaX s) (fun i (_:Unit)=>i) (zbr ((zaX s).map toR)) (fun i _ x=>if badN i x=true then .inr (.inr false) else .inl ()) (fun _=>.inl ()) (fun _ _=>True)
   (fun i x hx a _=>⟨?_,fun _ _=>trivial⟩) (fun a _=>?_) () trivial
  ·rw [this,zi5]
  ·have hi:i<=1000000:=by have:=(List.getElem?_eq_some_iff.1 hx).1; omega
   have hx2:((zaX s).map toR)[i]?=some (toR x):=by rw [List.getElem?_map,hx]; rfl
   simp only [zbr]
   have e0:((i:Int)==0)=(i==0):=by cases i <;> rfl
   have inb:=zb6 hx2
   simp only [if_pos (zfp hx2),if_pos inb,zci hx2,rLet,rDig,wi (show i<=1000000000 by omega),e0,inb,implies_true,if_true]
   have hB:(toR x).Bad=x.Bad:=rfl
   have hR:(toR x).Rune=x.Rune:=rfl
   rw [hB,hR]
   unfold badN
   cases x.Bad <;> cases letB x.Rune <;> cases (i==0) <;> cases digB x.Rune <;> rfl
  ·simp only [zbr]
   rw [if_neg (by simp)]
 rw [hgo]
 have e1:decide (((zaX s).length:Int)<1)=!decide (((zaX s).length:Int)≥1):=by rw [← decide_not]; congr 1; simp
 have e2:decide (((zaX s).length:Int)>16)=!decide (((zaX s).length:Int)<=16):=by rw [← decide_not]; congr 1; simp
 rw [e1,e2]
 unfold zbp
 cases decide (((zaX s).length:Int)≥1) <;> cases decide (((zaX s).length:Int)<=16) <;> cases ze3 s <;> cases ze2 0 (zaX s) <;> rfl
def opdB(o:zak):Bool :=
 if o.Kind==1 then ((decide (o.Reg≥0)&&decide (o.Reg<=7))&&(o.Sym==0))&&(o.N==0)
 else if o.Kind==2 then (o.Reg==0)&&(o.Sym==0)
 else if o.Kind==3 then (decide (o.Sym≥0)&&decide (o.N≥0))&&(o.Reg==0)
 else if o.Kind==4 then ((decide (o.Sym≥0)&&decide (o.Reg≥0))&&decide (o.Reg<=7))&&(o.N==0) else false
theorem ziu(o:zak):ze8 o=some (opdB o):=by
 unfold ze8 opdB zep
 split
 ·rfl
 split
 ·rfl
 split
 ·rfl
 split
 ·cases decide (o.Sym≥0) <;> simp
 ·rfl
theorem zgW(o:zak):zbs o=some (opdB o):=by
 unfold zbs opdB
 split
 ·rfl
 split
 ·rfl
 split
 ·rfl
 split
 ·rfl
 ·rfl
def memB(o:zak):Bool:=(o.Kind==3)||(o.Kind==4)
theorem ziv{o:zak}(h:opdB o=true):o.Kind=1\/o.Kind=2\/o.Kind=3\/o.Kind=4:=by
 unfold opdB at h
 split at h
 ·rename_i e; exact .inl (by simpa using e)
 split at h
 ·rename_i e; exact .inr (.inl (by simpa using e))
 split at h
 ·rename_i e; exact .inr (.inr (.inl (by simpa using e)))
 split at h
 ·rename_i e; exact .inr (.inr (.inr (by simpa using e)))
 ·cases h
def zoo(o:zak):zcf :=
 if o.Kind==1 then .RegPart ⟨o.Reg⟩ else if o.Kind==2 then .NumPart ⟨o.N⟩ else if o.Kind==3 then .AtPart ⟨o.Sym,o.N⟩ else .ByPart ⟨o.Sym,o.Reg⟩
theorem zlf(o:zak):ziY o=some (if opdB o=true then (zoo o,true) else (.nil,false)):=by
 unfold ziY zoo
 rw [ziu]
 cases opdB o
 ·rfl
 ·simp only [Option.bind_some,Bool.not_true,Bool.false_eq_true,if_false,if_true]
  split
  ·rfl
  split
  ·rfl
  split <;> rfl
theorem zkm(o:zak):zei o=some (opdB o&&(o.Kind==1)):=by
 unfold zei
 rw [zlf]
 cases h:opdB o
 ·rfl
 ·rcases ziv h with e | e | e | e <;> simp [zoo,e]
theorem ziz(o:zak):zdR o=some (opdB o&&memB o):=by
 unfold zdR
 rw [zlf]
 cases h:opdB o
 ·rfl
 ·rcases ziv h with e | e | e | e <;> simp [zoo,e,zgt,memB]
theorem zm3(o:zak):zgk o=some (opdB o&&!memB o):=by
 unfold zgk
 rw [ziu,ziz]
 cases opdB o <;> simp
def zkH(o:zak):Bool:=(o.Kind==0)&&((o.Reg==0)&&((o.Sym==0)&&(o.N==0)))
def zdP(x:zad):Bool:=(x.Op==10)||(x.Op==11)
def rowB(x:zad):Bool :=
 if decide (x.Op<1)||decide (x.Op>9) then (zkH x.A&&zkH x.B)&&!x.Lock
 else if !opdB x.A||!opdB x.B then false
 else if x.Op==8 then (memB x.A&&(x.B.Kind==1))&&!x.Lock
 else if x.Op==9 then (memB x.A&&(x.B.Kind==1))&&x.Lock
 else if x.A.Kind==1 then !x.Lock
 else (memB x.A&&!memB x.B)&&(!x.Lock||(decide (x.Op≥2)&&decide (x.Op<=6)))
theorem zpk(x:zad):zdv x=some (rowB x):=by
 unfold zdv rowB
 simp only [zgW]
 split
 ·rfl
 cases ha:opdB x.A
 ·rfl
 cases hb:opdB x.B
 ·rfl
 have hk:=ziv hb
 simp only [Bool.not_true,Bool.not_false,Option.bind_some,if_true,Bool.or_self,Bool.false_eq_true,if_false,Bool.or_false]
 split
 ·rfl
 split
 ·rfl
 split
 ·unfold zcQ zaR
  rcases hk with e | e | e | e <;> simp [e]
 ·unfold zcQ zaR zcY memB
  rcases hk with e | e | e | e <;> cases (x.A.Kind==3) <;> cases (x.A.Kind==4) <;> cases x.Lock <;> simp [e]
def zju(x:zad):Bool:=(decide (x.Op≥1)&&decide (x.Op<=14))&&rowB x
theorem zrv(o:zak):((o.Kind==0)&&((o.Reg==0)&&((o.Sym==0)&&(o.N==0))))=zkH o:=rfl
theorem zoF(o:zak):((o.Kind==1)&&memB o)=false:=by
 unfold memB
 by_cases h:o.Kind=1
 ·simp [h]
 ·simp [h]
theorem zkX(x:zad):zeK x=some (zju x):=by
 unfold zeK zgy
 simp only [zkm,zm3,ziz,zrv]
 unfold zju rowB
 have hA:=zoF x.A
 have hB:=zoF x.B
 generalize opdB x.A=a,opdB x.B=b,(x.A.Kind==1)=kA,memB x.A=mA,(x.B.Kind==1)=kB,memB x.B=mB,x.Lock=lk,zkH x.A=zA,zkH x.B=zB at hA hB ⊢
 generalize x.Op=op
 have h:op<1\/op=1\/op=2\/op=3\/op=4\/op=5\/op=6\/op=7\/op=8\/op=9\/op=10\/op=11\/op=12\/op=13\/op=14\/op>14:=by omega
 have hout:op<1\/op>14->(op==1)=false/\(op==7)=false/\(decide (op≥2)&&decide (op<=6))=false/\(op==8)=false/\(op==9)=false/\(decide (op≥10)&&decide (op<=14))=false/\(decide (op≥1)&&decide (op<=14))=false:=by
  intro h
  refine ⟨?_,?_,?_,?_,?_,?_,?_⟩ <;> simp <;> omega
 rcases h with h | rfl | rfl | rfl | rfl | rfl | rfl | rfl | rfl | rfl | rfl | rfl | rfl | rfl | rfl | h
 case inl =>
  obtain ⟨e1,e2,e3,e4,e5,e6,e7⟩:=hout (.inl h)
  simp only [e1,e2,e3,e4,e5,e6,e7]
  cases a <;> cases b <;> cases kA <;> cases mA <;> first | exact absurd hA (by decide) | (cases mB <;> cases lk <;> rfl)
 case inr.inr.inr.inr.inr.inr.inr.inr.inr.inr.inr.inr.inr.inr.inr =>
  obtain ⟨e1,e2,e3,e4,e5,e6,e7⟩:=hout (.inr h)
  simp only [e1,e2,e3,e4,e5,e6,e7]
  cases a <;> cases b <;> cases kA <;> cases mA <;> first | exact absurd hA (by decide) | (cases mB <;> cases lk <;> rfl)
 all_goals
  cases a <;> cases b <;> cases kA <;> cases mA <;> first | exact absurd hA (by decide) | (cases kB <;> cases mB <;> first | exact absurd hB (by decide) | (cases lk <;> cases zA <;> cases zB <;> rfl))
def ziH(x:zad):Bool:=if x.Op==11 then decide (x.Cond≥1)&&decide (x.Cond<=10) else x.Cond==0
theorem znT(x:zad):ziA x=some (ziH x&&zju x):=by
 unfold ziA ziH
 rw [zkX]
 split
 ·by_cases h1:x.Cond<1 <;> by_cases h2:x.Cond>10 <;> simp [h1,h2] <;> omega
 ·by_cases h1:x.Cond=0 <;> simp [h1]
def insN(x:zad):Int :=
 if ziH x&&zju x&&(zdP x||decide (x.To=⟨#[]⟩)) then (if zdP x&&!zbp x.To then 3 else 0) else 4
theorem zm5(x:zad)(hs:Sm x.To):zha x=some (insN x):=by
 unfold zha insN
 rw [znT,zkU _ hs]
 have e:((x.Op==10)||(x.Op==11))=zdP x:=rfl
 simp only [Option.bind_some,e]
 cases ziH x <;> cases zju x <;> cases zdP x <;> cases decide (x.To=⟨#[]⟩) <;> cases zbp x.To <;> rfl
theorem zgX(x:zad)(hs:Sm x.To):zcc x=some (insN x):=by
 unfold zcc insN za1
 rw [zgV _ hs,zpk]
 have e:((x.Op==10)||(x.Op==11))=zdP x:=rfl
 simp only [Option.bind_some,e]
 have e1:(decide (x.Op<1)||decide (x.Op>14))=!(decide (x.Op≥1)&&decide (x.Op<=14)):=by
  by_cases h1:x.Op<1 <;> by_cases h2:x.Op>14 <;> simp [h1,h2] <;> omega
 have e2:(((x.Op==11)&&(decide (x.Cond<1)||decide (x.Cond>10)))||((x.Op != 11)&&(x.Cond != 0)))=!ziH x:=by
  unfold ziH
  by_cases h0:x.Op=11
  ·by_cases h1:x.Cond<1 <;> by_cases h2:x.Cond>10 <;> simp [h0,h1,h2] <;> omega
  ·have h3:(x.Op==11)=false:=by simpa using h0
   simp only [bne,h3,Bool.false_and,Bool.false_or,Bool.not_false,Bool.true_and,Bool.false_eq_true,if_false]
 simp only [e1,e2]
 unfold zju
 cases ziH x <;> cases (decide (x.Op≥1)&&decide (x.Op<=14)) <;> cases rowB x <;> cases zdP x <;> cases decide (x.To=⟨#[]⟩) <;> cases zbp x.To <;> rfl
end Go.Vs
end
section
namespace Go.Vs
open Go.Lib
local instance tabPalShow3:Tab:=⟨fun _=>none⟩
theorem zdz{n:Int}(h:I64 n):(zd2 n).size<=21:=by unfold zd2; rw [zdj]; exact itoa_length_le n h.1 h.2
theorem za4(a b:ByteArray):(a++b).size=a.size+b.size:=ByteArray.size_append
theorem ztu(a:ByteArray):(⟨#[]⟩:ByteArray)++a=a:=bext (by rw [zd3]; rfl)
theorem zsV{a b:ByteArray}{n m:Nat}(ha:a.size<=n)(hb:b.size<=m)(h:n+m<=9223372036854775807):zbm a b:=by unfold zbm; omega
def regT(r:Int):ByteArray:=if decide (r≥0)&&decide (r<8) then rd zfj r else ⟨#[]⟩
theorem zkK(r:Int):zcp r=some (regT r):=by
 unfold zcp regT
 rw [zoj]
 simp only [Option.bind_some]
 by_cases h0:r≥0 <;> by_cases h1:r<8
 ·have hi:InB r zfj.length:=⟨h0,by show r.toNat<8; omega⟩
  have e1:decide (r<0)=false:=by simp; omega
  have e2:decide (r>7)=false:=by simp; omega
  simp only [h0,h1,e1,e2,decide_true,Bool.and_true,if_true,hi,Bool.or_self,Bool.false_eq_true,if_false]
 ·have e2:decide (r>7)=true:=by simp; omega
  simp only [e2,Bool.or_true,if_true,h1,decide_false,Bool.and_false,Bool.false_eq_true,if_false]
 ·have e1:decide (r<0)=true:=by simp; omega
  simp only [e1,Bool.true_or,if_true,h0,decide_false,Bool.false_and,Bool.false_eq_true,if_false]
 ·have e1:decide (r<0)=true:=by simp; omega
  simp only [e1,Bool.true_or,if_true,h0,decide_false,Bool.false_and,Bool.false_eq_true,if_false]
theorem zqo{α:Type}[Inhabited α](x:α)(l:List α)(i:Int)(h:1<=i):rd (x::l) i=rd l (i-1):=by
 unfold rd
 rw [show i.toNat=(i-1).toNat+1 by omega]; rfl
def opT(op cond:Int):ByteArray :=
 if ((op==11)&&decide (cond≥1))&&decide (cond<=10) then rd zfr (cond-1)
 else if ((cond==0)&&decide (op≥1))&&decide (op<=14) then rd opsL (op-1) else ⟨#[]⟩
theorem zlN(op cond:Int):zdf op cond=some (opT op cond):=by
 unfold zdf opT
 rw [zmE,zp8]
 simp only [Option.bind_some]
 split
 ·rename_i h
  simp only [Bool.and_eq_true,decide_eq_true_eq] at h
  rw [if_pos (show InB cond (_::zfr).length from ⟨by omega,by show _<11; omega⟩),zqo _ _ _ (by omega)]
 ·have e:((decide (op≥1)&&decide (op<=14))&&(cond==0))=(((cond==0)&&decide (op≥1))&&decide (op<=14)):=by
   cases decide (op≥1) <;> cases decide (op<=14) <;> cases (cond==0) <;> rfl
  rw [e]
  split
  ·rename_i h
   simp only [Bool.and_eq_true,decide_eq_true_eq] at h
   rw [if_pos (show InB op (_::opsL).length from ⟨by omega,by show _<15; omega⟩),zqo _ _ _ (by omega)]
  ·rfl
theorem zhU{l:List ByteArray}{n:Nat}(h:∀s∈l,s.size<=n)(i:Int):(rd l i).size<=n:=by
 unfold rd
 rw [List.getD_eq_getElem?_getD]
 cases e:l[i.toNat]? with
 | none=>show (default:ByteArray).size<=n; exact Nat.zero_le _
 | some s=>exact h s (List.mem_of_getElem? e)
theorem zif(r:Int):(regT r).size<=10:=by
 unfold regT
 split
 ·exact zhU (by decide) r
 ·show 0<=10; omega
theorem zlQ(op cond:Int):(opT op cond).size<=10:=by
 unfold opT
 split
 ·exact zhU (by decide) _
 split
 ·exact zhU (by decide) _
 ·show 0<=10; omega
def opdT(o:zak)(syms:List ByteArray):ByteArray :=
 if !opdB o then ⟨#[]⟩ else if o.Kind==1 then regT o.Reg else if o.Kind==2 then zd2 o.N
 else if decide (o.Sym≥(syms.length:Int)) then ⟨#[]⟩
 else if o.Kind==3 then ((rd syms o.Sym++⟨#[91]⟩)++zd2 o.N)++⟨#[93]⟩
 else ((rd syms o.Sym++⟨#[91]⟩)++regT o.Reg)++⟨#[93]⟩
def zSy(syms:List ByteArray):Prop:=∀s∈syms,s.size<=1000000
theorem zhH(o:zak)(syms:List ByteArray)(hn:I64 o.N)(hs:zSy syms):zcq o syms=some (opdT o syms):=by
 have hz:=zdz hn
 have hy:=zhU hs o.Sym
 have hr:=zif o.Reg
 unfold zcq opdT
 rw [zgW,zeo _ hn,zkK]
 simp only [Option.bind_some]
 cases hb:opdB o
 ·rfl
 simp only [Bool.not_true,Bool.false_eq_true,if_false]
 split
 ·rfl
 split
 ·rfl
 rename_i h1 h2
 split
 ·rfl
 rename_i h3
 have hS:o.Sym≥0:=by
  rcases ziv hb with e | e | e | e
  ·exact absurd (by simpa using e) h1
  ·exact absurd (by simpa using e) h2
  ·unfold opdB at hb; simp [e] at hb; omega
  ·unfold opdB at hb; simp [e] at hb; omega
 have hi:InB o.Sym syms.length:=⟨hS,by simp at h3; omega⟩
 have c1:zbm (rd syms o.Sym) (⟨#[91]⟩:ByteArray):=zsV hy (Nat.le_refl 1) (by omega)
 have s1:((rd syms o.Sym)++(⟨#[91]⟩:ByteArray)).size<=1000001:=by rw [za4]; exact Nat.add_le_add hy (Nat.le_refl 1)
 have e93:(⟨#[93]⟩:ByteArray).size=1:=rfl
 have cN:zbm ((rd syms o.Sym)++(⟨#[91]⟩:ByteArray)) (zd2 o.N):=by unfold zbm; omega
 have cN2:zbm (((rd syms o.Sym)++(⟨#[91]⟩:ByteArray))++zd2 o.N) (⟨#[93]⟩:ByteArray):=by unfold zbm; rw [za4 (_++_)]; omega
 have cR:zbm ((rd syms o.Sym)++(⟨#[91]⟩:ByteArray)) (regT o.Reg):=by unfold zbm; omega
 have cR2:zbm (((rd syms o.Sym)++(⟨#[91]⟩:ByteArray))++regT o.Reg) (⟨#[93]⟩:ByteArray):=by unfold zbm; rw [za4 (_++_)]; omega
 split
 ·(simp only [if_pos hi,if_pos c1,if_pos cN,if_pos cN2,if_pos cR,if_pos cR2,Option.bind_some]; try rfl)
 ·(simp only [if_pos hi,if_pos c1,if_pos cN,if_pos cN2,if_pos cR,if_pos cR2,Option.bind_some]; try rfl)
theorem zmL(o:zak)(syms:List ByteArray)(hn:I64 o.N)(hs:zSy syms):(opdT o syms).size<=1000100:=by
 have hz:=zdz hn
 have hy:=zhU hs o.Sym
 have hr:=zif o.Reg
 have z:(⟨#[]⟩:ByteArray).size=0:=rfl
 have e1:(⟨#[91]⟩:ByteArray).size=1:=rfl
 have e2:(⟨#[93]⟩:ByteArray).size=1:=rfl
 unfold opdT
 split
 ·omega
 split
 ·omega
 split
 ·omega
 split
 ·omega
 split <;> simp only [za4] <;> omega
def insT(x:zad)(syms:List ByteArray):ByteArray :=
 if insN x != 0 then ⟨#[]⟩ else
  let s:=if x.Lock then (⟨#[108,111,99,107,32]⟩:ByteArray)++opT x.Op x.Cond else opT x.Op x.Cond
  if zdP x then (s++⟨#[32]⟩)++x.To else if decide (x.Op>9) then s
  else if (memB x.A&&decide (x.A.Sym≥(syms.length:Int)))||(memB x.B&&decide (x.B.Sym≥(syms.length:Int))) then ⟨#[]⟩
  else (((s++⟨#[32]⟩)++opdT x.A syms)++⟨#[44,32]⟩)++opdT x.B syms
structure InsOk (x:zad):Prop where
 to:Sm x.To
 a:I64 x.A.N
 b:I64 x.B.N
theorem zqS{x:zad}(h:insN x=0):rowB x=true/\ziH x=true/\1<=x.Op/\x.Op<=14/\(zdP x=true->zbp x.To=true):=by
 unfold insN zju at h
 split at h
 ·rename_i hc
  simp only [Bool.and_eq_true,decide_eq_true_eq] at hc
  refine ⟨hc.1.2.2,hc.1.1,hc.1.2.1.1,hc.1.2.1.2,fun hj=>?_⟩
  cases hr:zbp x.To
  ·simp [hj,hr] at h
  ·rfl
 ·cases h
theorem zkJ(x:zad)(syms:List ByteArray)(hx:InsOk x)(hs:zSy syms):zcW x syms=some (insT x syms):=by
 have ha:=zmL x.A syms hx.a hs
 have hb:=zmL x.B syms hx.b hs
 have hto:x.To.size<=1000000:=hx.to
 have ho:=zlQ x.Op x.Cond
 have main:∀s4:ByteArray,s4.size<=5->zby x syms s4=some (if zdP x then ((s4++opT x.Op x.Cond)++⟨#[32]⟩)++x.To else if decide (x.Op>9) then s4++opT x.Op x.Cond
  else if (memB x.A&&decide (x.A.Sym≥(syms.length:Int)))||(memB x.B&&decide (x.B.Sym≥(syms.length:Int))) then ⟨#[]⟩
  else ((((s4++opT x.Op x.Cond)++⟨#[32]⟩)++opdT x.A syms)++⟨#[44,32]⟩)++opdT x.B syms):=by
  intro s4 h4
  unfold zby za1 zaR
  rw [zlN,zhH _ _ hx.a hs,zhH _ _ hx.b hs]
  simp only [Option.bind_some]
  have e:((x.Op==10)||(x.Op==11))=zdP x:=rfl
  have eA:((x.A.Kind==3)||(x.A.Kind==4))=memB x.A:=rfl
  have eB:((x.B.Kind==3)||(x.B.Kind==4))=memB x.B:=rfl
  rw [e,eA,eB]
  generalize hS:s4++opT x.Op x.Cond=S
  have hSz:S.size<=15:=by rw [← hS,za4]; omega
  have e1:(⟨#[32]⟩:ByteArray).size=1:=rfl
  have e2:(⟨#[44,32]⟩:ByteArray).size=2:=rfl
  rw [if_pos (zsV h4 ho (by omega))]
  have c1:zbm S (⟨#[32]⟩:ByteArray):=by unfold zbm; omega
  have c2:zbm (S++(⟨#[32]⟩:ByteArray)) x.To:=by unfold zbm; simp only [za4]; omega
  have c3:zbm (S++(⟨#[32]⟩:ByteArray)) (opdT x.A syms):=by unfold zbm; simp only [za4]; omega
  have c4:zbm ((S++(⟨#[32]⟩:ByteArray))++opdT x.A syms) (⟨#[44,32]⟩:ByteArray):=by unfold zbm; simp only [za4]; omega
  have c5:zbm (((S++(⟨#[32]⟩:ByteArray))++opdT x.A syms)++(⟨#[44,32]⟩:ByteArray)) (opdT x.B syms):=by unfold zbm; simp only [za4]; omega
  simp only [if_pos c1,if_pos c2,if_pos c3,if_pos c4,if_pos c5]
  split
  ·rfl
  split
  ·rfl
  cases memB x.A <;> cases decide (x.A.Sym≥(syms.length:Int)) <;> cases memB x.B <;> cases decide (x.B.Sym≥(syms.length:Int)) <;> rfl
 unfold zcW insT
 rw [zgX _ hx.to]
 simp only [Option.bind_some]
 split
 ·rfl
 ·cases x.Lock
  ·simp only [Bool.false_eq_true,if_false]
   rw [main _ (by decide)]
   simp only [ztu]
  ·simp only [if_true]
   rw [main _ (by decide)]
end Go.Vs
end
section
namespace Go.Vs
open Go.Lib
local instance tabPalShow4:Tab:=⟨fun _=>none⟩
def has(l:List ByteArray)(s:ByteArray):Bool:=l.any fun x=>decide (x=s)
def seen(l:List ByteArray):List (ByteArray × Bool):=l.map fun k=>(k,true)
theorem znX{l:List ByteArray}{s:ByteArray}:(fnd l s).isSome=has l s:=zsf
theorem zoK(l:List ByteArray)(s:ByteArray)(hl:l.length<=1000000):∃i,zaP l s=some i/\decide (i≥0)=has l s:=by
 refine ⟨_,zjM l s hl,?_⟩
 rw [← znX]
 cases fnd l s with
 | some i=>simp
 | none=>rfl
structure zma (x:zad):Prop extends InsOk x where
 n:x.zLb.length<=700
 to1:x.To.size<=1000
 lab:∀s∈x.zLb,s.size<=1000
structure ThOk (t:zae):Prop where
 n:t.Ins.length<=700
 ins:∀x∈t.Ins,zma x
structure zrj (s:zan):Prop where
 name:s.Name.size<=1000
 n:s.Init.length<=100
 size:I64 s.Size
 init:∀v∈s.Init,I64 v
structure zlD (p:zaf):Prop where
 ns:p.zSy.length<=100
 nt:p.zTh.length<=100
 sym:∀s∈p.zSy,zrj s
 th:∀t∈p.zTh,ThOk t
theorem zsD{s:ByteArray}(h:s.size<=1000):Sm s:=by unfold Sm; omega
def zlx(t:zae):Int:=zaM (fun _ (n:Int) (x:zad)=>if (x.Op != 12)=true then .inl (n+1) else .inl n) (fun n=>n) 0 0 t.Ins
theorem zkI(t:zae)(ht:t.Ins.length<=1000000):zhQ t=some (zlx t):=by
 unfold zhQ zlx
 rw [zdh t.Ins (fun i (n:Int)=>(n,i)) (zd0 t) (fun _ (n:Int) (x:zad)=>if (x.Op != 12)=true then .inl (n+1) else .inl n) (fun n=>n) (fun i n=>0<=n/\n<=i)
  (fun i x hx a ha=>?_) (fun a ha=>?_) 0 ⟨by omega,by omega⟩]
 ·rfl
 ·have hi:i<=1000000:=by have:=(List.getElem?_eq_some_iff.1 hx).1; omega
  simp only [zd0]
  rw [if_pos (zfp hx),if_pos (zb6 hx),zci hx,wi (by omega),zbG ⟨by omega,by omega⟩]
  constructor
  ·split <;> rfl
  ·intro a' h
   split at h
   ·obtain rfl:=Sum.inl.inj h; omega
   ·obtain rfl:=Sum.inl.inj h; omega
 ·simp only [zd0]
  rw [if_neg (by simp)]
theorem zmB(t:zae)(ht:t.Ins.length<=1000000):zdr t=some (zlx t):=by
 rw [← zkI t ht]
 unfold zdr zhQ
 have:zdp t=zd0 t:=by
  funext ⟨a,b⟩; rfl
 rw [this]
def zcD(p:zaf)(o:zak):Int :=
 if !memB o then 0 else if decide (o.Sym≥(p.zSy.length:Int)) then 7
 else if (o.Kind==3)&&decide (o.N≥(rd p.zSy o.Sym).Size) then 8 else 0
theorem zhG(p:zaf)(o:zak)(h:memB o=true->o.Sym≥0):zcm p o=some (zcD p o):=by
 unfold zcm zcD zaR
 have e:((o.Kind==3)||(o.Kind==4))=memB o:=rfl
 rw [e]
 simp only [Option.bind_some]
 cases hm:memB o
 ·rfl
 ·have h0:=h hm
  simp only [Bool.not_true,Bool.false_eq_true,if_false]
  split
  ·rfl
  ·rename_i hs
   have hi:InB o.Sym p.zSy.length:=⟨h0,by simp at hs; omega⟩
   rw [if_pos (fun _=>hi)]
   split <;> rfl
theorem zqF{o:zak}(hb:opdB o=true)(hm:memB o=true):o.Sym≥0:=by
 unfold memB at hm
 simp only [Bool.or_eq_true,beq_iff_eq] at hm
 rcases hm with e | e <;> (unfold opdB at hb; simp [e] at hb; omega)
theorem ztC{x:zad}(h:insN x=0):(memB x.A=true->x.A.Sym≥0)/\(memB x.B=true->x.B.Sym≥0):=by
 obtain ⟨h1,_,h2,h3,_⟩:=zqS h
 unfold rowB at h1
 split at h1
 ·simp only [Bool.and_eq_true,zkH,beq_iff_eq] at h1
  obtain ⟨⟨⟨ha,_⟩,⟨hb,_⟩⟩,_⟩:=h1
  constructor <;> (intro hm; unfold memB at hm; simp [ha,hb] at hm)
 ·split at h1
  ·cases h1
  ·rename_i hab
   simp only [Bool.or_eq_true,Bool.not_eq_true',not_or,Bool.not_eq_false] at hab
   exact ⟨zqF hab.1,zqF hab.2⟩
def labF(_:Nat)(L:List ByteArray)(s:ByteArray):List ByteArray ⊕ (List ByteArray ⊕ Int) :=
 if !zbp s then .inr (.inr 3) else if has L s then .inr (.inr 6) else .inl (L++[s])
def znO(L:List ByteArray)(ls:List ByteArray):List ByteArray ⊕ Int:=zaM labF .inl 0 L ls
def insF(p:zaf)(_:Nat)(L:List ByteArray)(x:zad):List ByteArray ⊕ (List ByteArray ⊕ Int) :=
 match znO L x.zLb with
 | .inr e=>.inr (.inr e)
 | .inl L'=>if insN x != 0 then .inr (.inr (insN x)) else if zcD p x.A != 0 then .inr (.inr (zcD p x.A)) else if zcD p x.B != 0 then .inr (.inr (zcD p x.B)) else .inl L'
theorem zmW:∀(ls:List ByteArray) (i:Nat) (L L':List ByteArray),zaM labF Sum.inl i L ls=Sum.inl L'->L'=L++ls
 | [],i,L,L',h=>by simp only [zaM] at h; obtain rfl:=Sum.inl.inj h; simp
 | s::ls,i,L,L',h=>by
  simp only [zaM] at h
  cases hf:labF i L s with
  | inr r =>
   rw [hf] at h
   unfold labF at hf
   split at hf
   ·obtain rfl:=Sum.inr.inj hf; cases h
   ·split at hf
    ·obtain rfl:=Sum.inr.inj hf; cases h
    ·cases hf
  | inl L1 =>
   rw [hf] at h
   have:L1=L++[s]:=by
    unfold labF at hf
    split at hf
    ·cases hf
    split at hf
    ·cases hf
    ·exact (Sum.inl.inj hf).symm
   subst this
   have:=zmW ls _ _ _ h
   simpa using this
theorem zm8{p:zaf}{i:Nat}{L L':List ByteArray}{x:zad}(h:insF p i L x=.inl L'):L'=L++x.zLb/\insN x=0:=by
 unfold insF at h
 cases hl:znO L x.zLb with
 | inr e=>rw [hl] at h; cases h
 | inl L1 =>
  rw [hl] at h
  have hL:=zmW _ _ _ _ hl
  simp only at h
  split at h
  ·cases h
  rename_i hn
  split at h
  ·cases h
  split at h
  ·cases h
  obtain rfl:=Sum.inl.inj h
  exact ⟨hL,by simpa using hn⟩
theorem zm9{p:zaf}:∀(xs:List zad) (i:Nat) (L L':List ByteArray),zaM (insF p) Sum.inl i L xs=Sum.inl L'->L'=L++xs.flatMap (·.zLb)/\∀x∈xs,insN x=0
 | [],i,L,L',h=>by simp only [zaM] at h; obtain rfl:=Sum.inl.inj h; simp
 | x::xs,i,L,L',h=>by
  simp only [zaM] at h
  cases hf:insF p i L x with
  | inr r =>
   rw [hf] at h
   have:∃e,r=.inr e:=by
    unfold insF at hf
    split at hf
    ·exact ⟨_,(Sum.inr.inj hf).symm⟩
    ·split at hf
     ·exact ⟨_,(Sum.inr.inj hf).symm⟩
     split at hf
     ·exact ⟨_,(Sum.inr.inj hf).symm⟩
     split at hf
     ·exact ⟨_,(Sum.inr.inj hf).symm⟩
     ·cases hf
   obtain ⟨e,rfl⟩:=this
   cases h
  | inl L1 =>
   rw [hf] at h
   obtain ⟨rfl,h0⟩:=zm8 hf
   obtain ⟨h1,h2⟩:=zm9 xs _ _ _ h
   refine ⟨by rw [h1]; simp,fun y hy=>?_⟩
   rcases List.mem_cons.1 hy with rfl | hy
   ·exact h0
   ·exact h2 y hy
def zki(L:List ByteArray)(_:Nat)(_:Unit)(x:zad):Unit ⊕ (Unit ⊕ Int):=if zdP x&&!has L x.To then .inr (.inr 7) else .inl ()
def zfM(t:zae):Int:=(rd t.Ins ((t.Ins.length:Int)-1)).Op
def zfd(p:zaf)(t:zae):Int :=
 if decide (zlx t>4096) then 10 else match zaM (insF p) (Sum.inl:List ByteArray->List ByteArray ⊕ Int) 0 [] t.Ins with
 | .inr e=>e
 | .inl L=>if ((t.Ins.length:Int)==0)||((zfM t != 10)&&(zfM t != 14)) then 9 else match zaM (zki L) Sum.inl 0 () t.Ins with
  | .inl ()=>0
  | .inr e=>e
end Go.Vs
end
section
namespace Go.Vs
open Go.Lib
local instance tabPalShow5:Tab:=⟨fun _=>none⟩
theorem zoN{α β R R':Type}(f:Nat->β->α->β ⊕ R)(g:Nat->β->α->β ⊕ R')(fin:β->R)(fin':β->R')(q:R->R')(hq:∀b,fin' b=q (fin b))
  (hg:∀i b x,g i b x=match f i b x with | .inl b'=>.inl b' | .inr r=>.inr (q r)):∀(l:List α) (i:Nat) (b:β),zaM g fin' i b l=q (zaM f fin i b l)
 | [],i,b=>hq b
 | x::xs,i,b=>by
  simp only [zaM,hg]
  cases f i b x with
  | inl b'=>exact zoN f g fin fin' q hq hg xs (i+1) b'
  | inr r=>rfl
end Go.Vs
end
section
namespace Go.Vs
open Go.Lib
local instance tabPalShow6:Tab:=⟨fun _=>none⟩
theorem zrR(t:zae)(i0:Nat)(x:zad)(hx:t.Ins[i0]?=some x)(hk:zma x)(L:List ByteArray)(hL:L.length<=900000):zaL (zbj t i0) (0,L)=some (znO L x.zLb):=by
 have hn:=hk.n
 have:=zdh x.zLb (fun i (L:List ByteArray)=>(i,L)) (zbj t i0) labF (fun L=>.inl L) (fun i L=>L.length<=900000+i)
  (fun i s hs L hL=>⟨?_,?_⟩) (fun L _=>?_) L (by omega)
 ·exact this
 ·have hi:i<=1000:=by have:=(List.getElem?_eq_some_iff.1 hs).1; omega
  simp only [zbj,zci hx]
  rw [if_pos (zfp hs),if_pos (zb6 hs),zci hs,zgV _ (zsD (hk.lab s (List.mem_of_getElem? hs))),wi (by omega)]
  simp only [Option.bind_some,if_pos (zb6 hs)]
  unfold labF
  cases zbp s
  ·rfl
  ·simp only [Bool.not_true,Bool.false_eq_true,if_false]
   obtain ⟨j,h1,h2⟩:=zoK L s (by omega)
   rw [h1]
   simp only [Option.bind_some,h2]
   rw [if_pos (show Fits (L.length+1) from by unfold Fits; omega)]
   cases has L s <;> rfl
 ·intro a' h
  have hi:i<=1000:=by have:=(List.getElem?_eq_some_iff.1 hs).1; omega
  unfold labF at h
  split at h
  ·cases h
  split at h
  ·cases h
  ·obtain rfl:=Sum.inl.inj h
   simp; omega
 ·simp only [zbj,zci hx]
  rw [if_neg (by simp)]
def qU:List ByteArray ⊕ Int->Unit ⊕ Int
 | .inl L=>.inl ()
 | .inr e=>.inr e
def insH(p:zaf)(i:Nat)(L:List ByteArray)(x:zad):List ByteArray ⊕ (Unit ⊕ Int) :=
 match insF p i L x with
 | .inl L'=>.inl L'
 | .inr (.inl L')=>.inr (.inl ())
 | .inr (.inr e)=>.inr (.inr e)
theorem zmz(p:zaf)(t:zae)(i:Nat)(x:zad)(hx:t.Ins[i]?=some x)(hk:zma x)(L:List ByteArray)(hL:L.length<=900000)(hi:i<=1000000) :
  zbk t p ((i:Int),L)=some (match insH p i L x with | .inl L'=>.inl ((i:Int)+1,L') | .inr r=>.inr r):=by
 simp only [zbk]
 rw [if_pos (zfp hx),if_pos (zb6 hx),zrR t i x hx hk L hL,zci hx,zgX _ hk.to]
 unfold insH insF
 cases hl:znO L x.zLb with
 | inr e=>rfl
 | inl L1 =>
  simp only [Option.bind_some,zbu]
  by_cases hn:insN x=0
  ·obtain ⟨hA,hB⟩:=ztC hn
   have e1:(insN x != 0)=false:=by rw [hn]; rfl
   rw [zhG p _ hA,zhG p _ hB]
   simp only [e1,Bool.false_eq_true,if_false,Option.bind_some]
   rw [wi (by omega)]
   cases (zcD p x.A != 0) <;> cases (zcD p x.B != 0) <;> rfl
  ·have e1:(insN x != 0)=true:=by simpa using hn
   simp only [e1,if_true]
def zq7(s:ByteArray)(i:Nat)(_:Unit)(x:zad):Unit ⊕ (Unit ⊕ Int):=if has x.zLb s then .inr (.inr (i:Int)) else .inl ()
theorem znh(s:ByteArray):∀(xs:List zad) (i:Nat),(zaM (zq7 s) Sum.inl i () xs=.inl ()/\has (xs.flatMap (·.zLb)) s=false)\/∃k:Nat,zaM (zq7 s) Sum.inl i () xs=.inr (k:Int)/\has (xs.flatMap (·.zLb)) s=true
 | [],i=>.inl ⟨rfl,rfl⟩
 | x::xs,i=>by
  have hap:has ((x::xs).flatMap (·.zLb)) s=(has x.zLb s||has (xs.flatMap (·.zLb)) s):=by unfold has; simp
  simp only [zaM]
  unfold zq7
  cases hh:has x.zLb s
  ·rcases znh s xs (i+1) with ⟨h1,h2⟩ | ⟨k,h1,h2⟩
   ·exact .inl ⟨h1,by rw [hap,hh,h2]; rfl⟩
   ·exact .inr ⟨k,h1,by rw [hap,hh,h2]; rfl⟩
  ·exact .inr ⟨i,rfl,by rw [hap,hh]; rfl⟩
theorem znF(t:zae)(ht:ThOk t)(s:ByteArray):∃f,zdg t s=some f/\decide (f<0)=!has (t.Ins.flatMap (·.zLb)) s:=by
 have hn:=ht.n
 have:=zdh t.Ins (fun i (_:Unit)=>i) (zcr t s) (zq7 s) Sum.inl (fun _ _=>True) (fun i x hx a _=>⟨?_,fun _ _=>trivial⟩) (fun a _=>?_) () trivial
 ·unfold zdg
  rw [this]
  rcases znh s t.Ins 0 with ⟨h1,h2⟩ | ⟨k,h1,h2⟩
  ·rw [h1,h2]; exact ⟨-1,rfl,rfl⟩
  ·rw [h1,h2]; exact ⟨k,rfl,by simp⟩
 ·have hi:i<=1000000:=by have:=(List.getElem?_eq_some_iff.1 hx).1; omega
  have hk:=ht.ins x (List.mem_of_getElem? hx)
  have hkn:=hk.n
  simp only [zcr]
  rw [if_pos (zfp hx),if_pos (zb6 hx),zci hx,wi (by omega)]
  obtain ⟨j,h1,h2⟩:=zoK x.zLb s (by omega)
  rw [h1]
  simp only [Option.bind_some,h2]
  unfold zq7
  cases has x.zLb s <;> rfl
 ·simp only [zcr]; rw [if_neg (by simp)]
theorem zsa{p:zaf}{i:Nat}{L L':List ByteArray}{x:zad}(h:insF p i L x=.inl L'):L'.length=L.length+x.zLb.length:=by
 rw [(zm8 h).1,List.length_append]
theorem zlM(p:zaf)(t:zae)(ht:ThOk t):zdb p t=some (zfd p t):=by
 have hn:=ht.n
 unfold zdb zfd
 rw [zmB t (by omega)]
 simp only [Option.bind_some]
 split
 ·rfl
 have h1:=zdh t.Ins (fun i (L:List ByteArray)=>(i,L)) (zbk t p) (insH p) (fun _=>.inl ()) (fun i L=>L.length<=700 * i)
  (fun i x hx L hL=>by
   have hlt:=(List.getElem?_eq_some_iff.1 hx).1
   have hk:=ht.ins x (List.mem_of_getElem? hx)
   have hkn:=hk.n
   refine ⟨by rw [zmz p t i x hx hk L (by omega) (by omega)]; cases insH p i L x <;> rfl,fun L' h=>?_⟩
   unfold insH at h
   cases hf:insF p i L x with
   | inl L1 =>
    rw [hf] at h
    obtain rfl:=Sum.inl.inj h
    rw [zsa hf]; omega
   | inr r=>rw [hf] at h; cases r <;> cases h) (fun L _=>by simp only [zbk]; rw [if_neg (by simp)]) [] (by simp)
 rw [h1,zoN (insF p) (insH p) (Sum.inl:List ByteArray->List ByteArray ⊕ Int) (fun _=>.inl ()) qU (fun _=>rfl) (fun i b x=>by
  unfold insH
  cases insF p i b x with
  | inl L'=>rfl
  | inr r=>cases r <;> rfl)]
 cases hf:zaM (insF p) (Sum.inl:List ByteArray->List ByteArray ⊕ Int) 0 [] t.Ins with
 | inr e=>rfl
 | inl L =>
  obtain ⟨hL,hz⟩:=zm9 _ _ _ _ hf
  simp only [Option.bind_some,zbu,qU]
  rw [List.nil_append] at hL
  have h3:zaL (zbi t) 0=some (match zaM (zki L) Sum.inl 0 () t.Ins with | .inl ()=>.inl () | .inr e=>.inr e):=by
   have h4:=zdh t.Ins (fun i (_:Unit)=>i) (zbi t) (zki L) Sum.inl (fun _ _=>True)
    (fun i x hx a _=>⟨?_,fun _ _=>trivial⟩) (fun a _=>?_) () trivial
   ·rw [h4]
    cases zaM (zki L) Sum.inl 0 () t.Ins with
    | inl u=>rfl
    | inr e=>rfl
   ·have hi:i<=1000000:=by have:=(List.getElem?_eq_some_iff.1 hx).1; omega
    simp only [zbi]
    unfold za1
    obtain ⟨f,hf1,hf2⟩:=znF t ht x.To
    have inb:=zb6 hx
    rw [if_pos (zfp hx),if_pos inb,zci hx,wi (by omega),hf1]
    have ej:((x.Op==10)||(x.Op==11))=zdP x:=rfl
    simp only [Option.bind_some,ej,inb,implies_true,if_true]
    unfold zki
    rw [hL]
    cases zdP x
    ·rfl
    ·simp only [if_true,Option.bind_some,hf2,Bool.true_and]
     cases has (t.Ins.flatMap (·.zLb)) x.To <;> rfl
   ·simp only [zbi]; rw [if_neg (by simp)]
  rw [h3]
  by_cases hl:((t.Ins.length:Int)==0)=true
  ·simp only [hl,Bool.true_or,if_true]
  ·have h0:t.Ins.length≠0:=by simpa using hl
   simp only [Bool.not_eq_true] at hl
   rw [zbG (show I64 ((t.Ins.length:Int)-1) from ⟨by omega,by omega⟩)]
   have w2:InB ((t.Ins.length:Int)-1) t.Ins.length:=⟨by omega,by omega⟩
   simp only [hl,w2,if_true,Bool.false_or,Bool.false_eq_true,if_false]
   have:(rd t.Ins ((t.Ins.length:Int)-1)).Op=zfM t:=rfl
   rw [this]
   split
   ·rfl
   ·cases zaM (zki L) Sum.inl 0 () t.Ins with
    | inl u=>rfl
    | inr e=>rfl
def symF(_:Nat)(L:List ByteArray)(s:zan):List ByteArray ⊕ (Unit ⊕ Int) :=
 if !zbp s.Name then .inr (.inr 3) else if has L s.Name then .inr (.inr 6)
 else if (decide (s.Size<1)||decide (s.Size>64))||decide ((s.Init.length:Int)>s.Size) then .inr (.inr 5) else .inl (L++[s.Name])
def thF(p:zaf)(_:Nat)(_:Unit)(t:zae):Unit ⊕ (Unit ⊕ Int):=if zfd p t != 0 then .inr (.inr (zfd p t)) else .inl ()
def zgJ(p:zaf):Int :=
 if decide ((p.zSy.length:Int)>64)||decide ((p.zTh.length:Int)>64) then 10 else match zaM symF (fun _=>(.inl ():Unit ⊕ Int)) 0 [] p.zSy with
 | .inr e=>e
 | .inl ()=>match zaM (thF p) Sum.inl 0 () p.zTh with
  | .inr e=>e
  | .inl ()=>0
theorem ztn(p:zaf)(hp:zlD p)(i:Nat)(s:zan)(hx:p.zSy[i]?=some s):zaL (zbt (i:Int) p) 0=some (if has ((p.zSy.take i).map (·.Name)) s.Name then .inr 6 else .inl ()):=by
 have hs:=hp.ns
 have hlt:=(List.getElem?_eq_some_iff.1 hx).1
 have h1:=zdh (p.zSy.take i) (fun i (_:Unit)=>i) (zbt (i:Int) p) (fun _ _ y=>if decide (y.Name=s.Name) then .inr (.inr 6) else .inl ()) (fun _=>(.inl ():Unit ⊕ Int)) (fun _ _=>True)
  (fun j y hy _ _=>⟨by
   have hj:=(List.getElem?_eq_some_iff.1 hy).1
   have hj2:j<i:=by simp at hj; omega
   have hy2:p.zSy[j]?=some y:=by rw [List.getElem?_take_of_lt hj2] at hy; exact hy
   simp only [zbt]
   rw [if_pos (by simpa using hj2),if_pos (zb6 hy2),zci hy2,zci hx,wi (by omega)]
   cases decide (y.Name=s.Name) <;> rfl,fun _ _=>trivial⟩) (fun _ _=>by
   simp only [zbt]; rw [if_neg (by simp; omega)]) () trivial
 rw [h1]
 congr 1
 generalize p.zSy.take i=l
 generalize (0:Nat)=k
 induction l generalizing k with
 | nil=>rfl
 | cons y l ih =>
  simp only [zaM]
  unfold has
  simp only [List.map_cons,List.any_cons]
  cases decide (y.Name=s.Name)
  ·simp only [Bool.false_eq_true,if_false,Bool.false_or]
   exact ih (k+1)
  ·rfl
theorem zjg(p:zaf)(hp:zlD p):zcS p=some (zgJ p):=by
 have hs:=hp.ns
 have ht:=hp.nt
 unfold zcS zgJ
 split
 ·rfl
 have h1:zaL (zbb p) 0=some (zaM symF (fun _=>(.inl ():Unit ⊕ Int)) 0 [] p.zSy):=by
  have main:∀(suf pre:List zan),p.zSy=pre++suf->zaL (zbb p) (pre.length:Int)=some (zaM symF (fun _=>(.inl ():Unit ⊕ Int)) pre.length (pre.map (·.Name)) suf):=by
   intro suf
   induction suf with
   | nil =>
    intro pre e
    rw [List.append_nil] at e
    refine zaJ ?_
    simp only [zbb]
    rw [e,if_neg (by simp)]
    rfl
   | cons s suf ih =>
    intro pre e
    have hx:p.zSy[pre.length]?=some s:=by rw [e]; simp
    have hi:pre.length<=1000:=by have:=(List.getElem?_eq_some_iff.1 hx).1; omega
    have hk:=hp.sym s (List.mem_of_getElem? hx)
    have htk:p.zSy.take pre.length=pre:=by rw [e]; simp
    have hst:zbb p (pre.length:Int)=some (match symF pre.length (pre.map (·.Name)) s with | .inl _=>.inl ((pre.length:Int)+1) | .inr r=>.inr r):=by
     simp only [zbb]
     rw [if_pos (zfp hx),if_pos (zb6 hx),zci hx,zgV _ (zsD hk.name),ztn p hp _ s hx,htk,wi (by omega)]
     simp only [Option.bind_some]
     unfold symF
     cases zbp s.Name
     ·rfl
     ·cases has (pre.map (·.Name)) s.Name
      ·simp only [Bool.not_true,Bool.false_eq_true,if_false,zbu,Option.bind_some]
       cases ((decide (s.Size<1)||decide (s.Size>64))||decide ((s.Init.length:Int)>s.Size)) <;> rfl
      ·rfl
    have hnext:=ih (pre++[s]) (by rw [e]; simp)
    simp only [zaM]
    cases hf:symF pre.length (pre.map (·.Name)) s with
    | inl L' =>
     rw [hf] at hst
     rw [zbg hst]
     have:L'=(pre++[s]).map (·.Name):=by
      unfold symF at hf
      split at hf
      ·cases hf
      split at hf
      ·cases hf
      split at hf
      ·cases hf
      ·rw [← Sum.inl.inj hf]; simp
     subst this
     simpa using hnext
    | inr r =>
     rw [hf] at hst
     rw [zaJ hst]
  exact main p.zSy [] rfl
 rw [h1]
 have h2:=zdh p.zTh (fun i (_:Unit)=>i) (zcd p) (thF p) Sum.inl (fun _ _=>True)
  (fun i t hx _ _=>⟨by
   have hi:i<=1000000:=by have:=(List.getElem?_eq_some_iff.1 hx).1; omega
   have hk:=hp.th t (List.mem_of_getElem? hx)
   simp only [zcd]
   rw [if_pos (zfp hx),if_pos (zb6 hx),zci hx,zlM p t hk,wi (by omega)]
   simp only [Option.bind_some]
   unfold thF
   cases (zfd p t != 0) <;> rfl,fun _ _=>trivial⟩) (fun _ _=>by simp only [zcd]; rw [if_neg (by simp)]) () trivial
 rw [h2]
 cases zaM symF (fun _=>(.inl ():Unit ⊕ Int)) 0 [] p.zSy with
 | inr e=>rfl
 | inl u =>
  simp only [Option.bind_some,zbu]
  cases zaM (thF p) Sum.inl 0 () p.zTh with
  | inr e=>rfl
  | inl u=>rfl
end Go.Vs
end
