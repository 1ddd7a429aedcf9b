import Derived.Test.YtocjejladeeckaaGreatDoorPalT
import Derived.Test.YtocjejladeeckaaGreatDoorPalC
import Derived.Test.YtocjejladeeckaaGreatDoorPT1
import Derived.Lib.ItoaLen
set_option linter.all false
section
namespace Go.Vs
end Go.Vs
end
section
namespace Go.Vs
local instance tabPalShow1:Tab:=⟨fun _=>none⟩
def za9{α β R:Type}(f:Nat->β->α->β ⊕ R)(fin:β->R):Nat->β->List α->R
 | _,a,[]=>fin a
 | i,a,x::xs=>match f i a x with
  | .inl a'=>za9 f fin (i+1) a' xs
  | .inr r=>r
theorem zdw{α β σ R:Type}(l:List α)(mk:Int->β->σ)(step:σ->Option (σ ⊕ R))(f:Nat->β->α->β ⊕ R)(fin:β->R)(Inv:Nat->β->Prop)
  (h1:∀(i:Nat) (x:α),l[i]?=some x->∀a,Inv i a->(step (mk (i:Int) a)=some (match f i a x with | .inl a'=>.inl (mk ((i:Int)+1) a') | .inr r=>.inr r))/\∀a',f i a x=.inl a'->Inv (i+1) a')
  (h2:∀a,Inv l.length a->step (mk (l.length:Int) a)=some (.inr (fin a))) (a0:β) (h0:Inv 0 a0):zaN step (mk 0 a0)=some (za9 f fin 0 a0 l):=by
 have main:∀(suf pre:List α) (a:β),l=pre++suf->Inv pre.length a->zaN step (mk (pre.length:Int) a)=some (za9 f fin pre.length a suf):=by
  intro suf
  induction suf with
  | nil =>
   intro pre a e hI
   rw [List.append_nil] at e
   subst e
   exact zaI (h2 a hI)
  | cons x xs ih =>
   intro pre a e hI
   obtain ⟨e1,e2⟩:=h1 pre.length x (by rw [e]; simp) a hI
   cases hf:f pre.length a x with
   | inl a' =>
    rw [hf] at e1
    have:=ih (pre++[x]) a' (by rw [e]; simp) (by simpa using e2 a' hf)
    rw [za4 e1]
    simp only [za9,hf]
    simpa using this
   | inr r =>
    rw [hf] at e1
    rw [zaI e1]
    simp only [za9,hf]
 exact main l [] a0 rfl h0
theorem zb0{α:Type}[Inhabited α]{l:List α}{i:Nat}{x:α}(h:l[i]?=some x):rd l (i:Int)=x:=by
 simp [rd,h]
theorem zbj{α:Type}{l:List α}{i:Nat}{x:α}(h:l[i]?=some x):InB (i:Int) l.length:=⟨by omega,(List.getElem?_eq_some_iff.1 h).1⟩
theorem zfv{α:Type}{l:List α}{i:Nat}{x:α}(h:l[i]?=some x):decide ((i:Int)<(l.length:Int))=true:=by have:=(List.getElem?_eq_some_iff.1 h).1; simpa using this
theorem wi{n:Nat}(h:n<=1000000000):IntKind.wrap .i64 ((n:Int)+1)=(n:Int)+1:=zbE ⟨by omega,by omega⟩
def fnd(l:List ByteArray)(s:ByteArray):Option Nat:=l.findIdx? (fun x=>decide (x=s))
theorem zhm{R:Type}(l:List ByteArray)(s:ByteArray)(hl:l.length<=1000000)(g:Int->R)(step:Int->Option (Int ⊕ (Unit ⊕ R)))
  (hs:∀i,step i=if decide (i<(l.length:Int))=true then (if InB i l.length then (if decide ((rd l i)=s)=true then (some (.inr (.inr (g i)))) else (some (.inl (IntKind.wrap .i64 (i+1))))) else none) else (some (.inr (.inl ())))) :
  zaN step 0=some (match fnd l s with | some i=>.inr (g (i:Int)) | none=>.inl ()):=by
 unfold fnd
 have main:∀(suf pre:List ByteArray),l=pre++suf->zaN step (pre.length:Int)=some (match suf.findIdx? (fun x=>decide (x=s)) with | some i=>.inr (g ((pre.length+i:Nat):Int)) | none=>.inl ()):=by
  intro suf
  induction suf with
  | nil =>
   intro pre e
   rw [List.append_nil] at e; subst e
   refine zaI ?_
   rw [hs,if_neg (by simp)]; rfl
  | cons x xs ih =>
   intro pre e
   have hx:l[pre.length]?=some x:=by rw [e]; simp
   have hlen:pre.length<=1000000:=by have:=(List.getElem?_eq_some_iff.1 hx).1; omega
   have e1:=hs (pre.length:Int)
   rw [if_pos (zfv hx),if_pos (zbj hx),zb0 hx] at e1
   rw [List.findIdx?_cons]
   by_cases hd:x=s
   ·rw [if_pos (by simpa using hd)] at e1
    rw [zaI e1]; simp [hd]
   ·rw [if_neg (by simpa using hd),wi (by omega)] at e1
    rw [za4 e1]
    have:=ih (pre++[x]) (by rw [e]; simp)
    simp only [List.length_append,List.length_cons,List.length_nil,Nat.zero_add] at this
    rw [show ((pre.length:Int)+1)=((pre.length+1:Nat):Int) by omega,this]
    simp only [hd,decide_false,Bool.false_eq_true,if_false]
    cases xs.findIdx? (fun x=>decide (x=s)) with
    | none=>rfl
    | some k=>simp only [Option.map_some]; congr 3; omega
 have:=main l [] rfl
 simpa using this
theorem zsm{l:List ByteArray}{s:ByteArray}:(fnd l s).isSome=l.any (fun x=>decide (x=s)):=by
 unfold fnd; rw [List.findIdx?_isSome]
theorem zoQ{l:List ByteArray}{x s:ByteArray}:fnd (x::l) s=if x=s then some 0 else (fnd l s).map (·+1):=by
 unfold fnd; rw [List.findIdx?_cons]; simp
theorem zjJ(l:List ByteArray)(s:ByteArray)(hl:l.length<=1000000):zaX l s=some (match fnd l s with | some i=>(i:Int) | none=>-1):=by
 unfold zaX
 rw [zhm l s hl (fun i=>i) (zdF l s) (fun i=>rfl)]
 cases fnd l s <;> rfl
def zfS:List ByteArray:=[⟨#[114,97,120]⟩,⟨#[114,98,120]⟩,⟨#[114,99,120]⟩,⟨#[114,100,120]⟩,⟨#[114,115,105]⟩,⟨#[114,100,105]⟩,⟨#[114,56]⟩,⟨#[114,57]⟩]
def opsL:List ByteArray:=[⟨#[109,111,118]⟩,⟨#[97,100,100]⟩,⟨#[115,117,98]⟩,⟨#[97,110,100]⟩,⟨#[111,114]⟩,⟨#[120,111,114]⟩,⟨#[99,109,112]⟩,⟨#[120,99,104,103]⟩,⟨#[99,109,112,120,99,104,103]⟩,⟨#[106,109,112]⟩,⟨#[]⟩,⟨#[109,102,101,110,99,101]⟩,⟨#[110,111,112]⟩,⟨#[104,108,116]⟩]
def zfx:List ByteArray:=[⟨#[106,101]⟩,⟨#[106,110,101]⟩,⟨#[106,108]⟩,⟨#[106,108,101]⟩,⟨#[106,103]⟩,⟨#[106,103,101]⟩,⟨#[106,98]⟩,⟨#[106,98,101]⟩,⟨#[106,97]⟩,⟨#[106,97,101]⟩]
theorem ztz:zht=some zfS:=rfl
theorem zvc:zit=some opsL:=rfl
theorem zsd:zgw=some zfx:=rfl
theorem zon:zds=some zfS:=rfl
theorem zp9:zdQ=some (⟨#[]⟩::opsL):=rfl
theorem zmG:zc6=some (⟨#[]⟩::zfx):=rfl
def kwB(s:ByteArray):Bool:=(decide (s=(⟨#[115,121,109]⟩:ByteArray))||decide (s=(⟨#[116,104,114,101,97,100]⟩:ByteArray)))||decide (s=(⟨#[108,111,99,107]⟩:ByteArray))
def zgq(s:ByteArray):Bool:=(!decide (s=⟨#[]⟩))&&(kwB s||(fnd zfS s).isSome||(fnd opsL s).isSome||(fnd zfx s).isSome)
theorem zev(s:ByteArray):zeF s=some (match fnd zfS s with | some i=>((i:Int),true) | none=>(0,false)):=by
 unfold zeF
 rw [ztz]
 simp only [Option.bind_some]
 rw [zhm zfS s (by decide) (fun i=>(i,true)) (zfL zfS s) (fun i=>rfl)]
 cases fnd zfS s <;> rfl
theorem zne{l:List ByteArray}{s:ByteArray}{i:Nat}(h:fnd l s=some i):i<l.length/\l[i]?=some s:=by
 unfold fnd at h
 rw [List.findIdx?_eq_some_iff_getElem] at h
 obtain ⟨h1,h2,_⟩:=h
 exact ⟨h1,by rw [List.getElem?_eq_getElem h1]; simpa using h2⟩
theorem zh5(s:ByteArray):zgz s=some (if s=⟨#[]⟩ then (0,0,false) else match fnd opsL s with | some i=>((i:Int)+1,0,true) | none=>match fnd zfx s with | some i=>(11,(i:Int)+1,true) | none=>(0,0,false)):=by
 unfold zgz
 by_cases h0:s=⟨#[]⟩
 ·rw [if_pos (by simpa using h0),if_pos h0]
 ·rw [if_neg (by simpa using h0),if_neg h0,zvc]
  simp only [Option.bind_some]
  rw [zhm opsL s (by decide) (fun i=>(IntKind.wrap .i64 (i+1),0,true)) (zgy opsL s) (fun i=>rfl)]
  cases ho:fnd opsL s with
  | some i =>
   have hi:=(zne ho).1
   have hw:=wi (n:=i) (by simp [opsL] at hi; omega)
   simp only [zbM,Option.bind_some,hw]
  | none =>
   simp only [zbM,Option.bind_some,zsd]
   rw [zhm zfx s (by decide) (fun i=>(11,IntKind.wrap .i64 (i+1),true)) (zgx zfx s) (fun i=>rfl)]
   cases hj:fnd zfx s with
   | some i =>
    have hi:=(zne hj).1
    have hw:=wi (n:=i) (by simp [zfx] at hi; omega)
    simp only [zbM,Option.bind_some,hw]
   | none=>rfl
theorem zd5(s:ByteArray):zdR s=some (zgq s):=by
 unfold zdR
 simp only [Option.bind_some]
 change (if kwB s=true then _ else _)=_
 by_cases h0:s=⟨#[]⟩
 ·subst h0
  rw [zev,zh5]
  rfl
 ·unfold zgq
  simp only [h0,decide_false,Bool.not_false,Bool.true_and]
  by_cases hk:kwB s=true
  ·simp [hk]
  ·rw [if_neg hk,zev,zh5,if_neg h0]
   simp only [Bool.not_eq_true] at hk
   rw [hk]
   simp only [Option.bind_some,Bool.false_or]
   cases fnd zfS s <;> cases fnd opsL s <;> cases fnd zfx s <;> rfl
theorem znG(s:ByteArray):zcW s=some (zgq s):=by
 unfold zcW
 simp only [zon,zp9,zmG]
 by_cases h0:s=⟨#[]⟩
 ·subst h0; rfl
 ·have h0':(⟨#[]⟩:ByteArray)≠s:=fun e=>h0 e.symm
  unfold zgq
  change (if (_&&!kwB s)=true then _ else _:Option _).bind _=_
  simp only [h0,decide_false,Bool.not_false,Bool.true_and]
  have hk3:((decide (s=(⟨#[115,121,109]⟩:ByteArray))||decide (s=(⟨#[116,104,114,101,97,100]⟩:ByteArray)))||decide (s=(⟨#[108,111,99,107]⟩:ByteArray)))=kwB s:=rfl
  rw [hk3]
  have hge:∀i:Nat,decide ((i:Int)≥0)=true:=fun i=>by simp
  have hgt:∀i:Nat,decide (((i+1:Nat):Int)>0)=true:=fun i=>by simp
  have hm1:decide ((-1:Int)≥0)=false:=rfl
  have hm2:decide ((-1:Int)>0)=false:=rfl
  cases hk:kwB s
  ·simp only [Bool.not_false,Bool.false_or,if_true,Option.bind_some]
   rw [zjJ _ _ (by decide)]
   cases hr:fnd zfS s with
   | some i=>simp only [Option.bind_some,hge,Bool.true_or,Bool.or_true,Bool.not_true,Bool.false_eq_true,if_false,Option.isSome_some]
   | none =>
    simp only [Option.bind_some,hm1,Bool.false_or,Bool.not_false,if_true]
    rw [zjJ _ _ (by decide),zoQ,if_neg h0']
    cases ho:fnd opsL s with
    | some i=>simp only [Option.bind_some,Option.map_some,hgt,Bool.true_or,Bool.or_true,Bool.not_true,Bool.false_eq_true,if_false,Option.isSome_some,Option.isSome_none]
    | none =>
     simp only [Option.bind_some,Option.map_none,hm2,Bool.false_or,Bool.or_false,Bool.not_false,if_true,Option.isSome_none]
     rw [zjJ _ _ (by decide),zoQ,if_neg h0']
     cases hj:fnd zfx s with
     | some i=>simp only [Option.bind_some,Option.map_some,hgt,Option.isSome_some]
     | none=>rfl
  ·simp
end Go.Vs
end
section
namespace Go.Vs
local instance tabPalShow2:Tab:=⟨fun _=>none⟩
def letB(p0:Int):Bool:=(((decide (p0≥97)&&decide (p0<=122))||(decide (p0≥65)&&decide (p0<=90)))||(p0==95))||(decide (p0≥161)&&decide (p0<=1114111))
def digB(p0:Int):Bool:=decide (p0≥48)&&decide (p0<=57)
theorem gLet(r:Int):zd1 r=some (letB r):=rfl
theorem rLet(r:Int):zbR r=some (letB r):=rfl
theorem gDig(r:Int):zeq r=some (digB r):=rfl
theorem rDig(r:Int):zcL r=some (digB r):=rfl
def badN(i:Nat)(x:zaq):Bool:=x.Bad||(!letB x.Rune&&((i==0)||!digB x.Rune))
def zgL:Nat->List zaq->Bool
 | _,[]=>true
 | i,x::xs=>!badN i x&&zgL (i+1) xs
def zbZ(s:ByteArray):Bool:=(decide (((zbp s).length:Int)≥1)&&decide (((zbp s).length:Int)<=16))&&!zgq s&&zgL 0 (zbp s)
theorem zi5{R:Type}(fin r0:R):∀(l:List zaq) (i:Nat),za9 (fun i (_:Unit) x=>if badN i x=true then Sum.inr r0 else .inl ()) (fun _=>fin) i () l=if zgL i l=true then fin else r0
 | [],i=>by simp [za9,zgL]
 | x::xs,i=>by
  simp only [za9,zgL]
  by_cases hb:badN i x=true
  ·simp [hb]
  ·simp only [hb,if_false,Bool.false_eq_true]
   rw [zi5 fin r0 xs (i+1)]
   simp only [Bool.not_eq_true] at hb
   simp [hb]
theorem zmp(s:ByteArray)(hs:Sm s):(zbp s).length<=1000000:=by
 have:=ziN s s.size 0 1 1
 unfold zbp
 unfold Sm at hs
 omega
theorem zkM(s:ByteArray)(hs:Sm s):zft s=some (zbZ s):=by
 have hl:=zmp s hs
 unfold zft
 rw [zhO s hs]
 simp only [Option.bind_some]
 rw [zdw (zbp s) (fun i (_:Unit)=>(i,i)) (zdS (zbp s)) (fun i _ x=>if badN i x=true then .inr (.inr false) else .inl ()) (fun _=>.inl ((zbp s).length:Int)) (fun _ _=>True)
  (fun i x hx a _=>⟨?_,fun _ _=>trivial⟩) (fun a _=>?_) () trivial]
 ·rw [zi5]
  unfold zbZ
  cases hn:zgL 0 (zbp s)
  ·simp [zbM]
  ·simp only [if_true,zbM,Bool.and_true]
   rw [zd5]
   show (if (decide (((zbp s).length:Int)≥1)&&decide (((zbp s).length:Int)<=16))=true then some (zgq s) else some default).bind (fun v37=>some ((decide (((zbp s).length:Int)≥1)&&decide (((zbp s).length:Int)<=16))&&(!v37)))=_
   cases decide (((zbp s).length:Int)≥1) <;> cases decide (((zbp s).length:Int)<=16) <;> cases zgq s <;> rfl
 ·have hi:i<=1000000:=by have:=(List.getElem?_eq_some_iff.1 hx).1; omega
  simp only [zdS]
  rw [if_pos (zfv hx),if_pos (zbj hx),zb0 hx,gLet,wi (by omega)]
  simp only [gDig]
  have e0:((i:Int)==0)=(i==0):=by cases i <;> rfl
  simp only [e0]
  unfold badN
  cases x.Bad <;> cases letB x.Rune <;> cases (i==0) <;> cases digB x.Rune <;> rfl
 ·simp only [zdS]
  rw [if_neg (by simp)]
theorem zg2(s:ByteArray)(hs:Sm s):zcK s=some (zbZ s):=by
 have hl:=zmp s hs
 unfold zcK
 rw [zmB s hs]
 simp only [Option.bind_some,List.length_map]
 rw [znG]
 have hgo:zaN (zbF ((zbp s).map toR)) 0=some (if zgL 0 (zbp s)=true then .inl () else .inr false):=by
  have:=zdw (zbp s) (fun i (_:Unit)=>i) (zbF ((zbp s).map toR)) (fun i _ x=>if badN i x=true then .inr (.inr false) else .inl ()) (fun _=>.inl ()) (fun _ _=>True)
   (fun i x hx a _=>⟨?_,fun _ _=>trivial⟩) (fun a _=>?_) () trivial
  ·rw [this,zi5]
  ·have hi:i<=1000000:=by have:=(List.getElem?_eq_some_iff.1 hx).1; omega
   have hx2:((zbp s).map toR)[i]?=some (toR x):=by rw [List.getElem?_map,hx]; rfl
   simp only [zbF]
   have e0:((i:Int)==0)=(i==0):=by cases i <;> rfl
   have inb:=zbj hx2
   simp only [if_pos (zfv hx2),if_pos inb,zb0 hx2,rLet,rDig,wi (show i<=1000000000 by omega),e0,inb,implies_true,if_true]
   have hB:(toR x).Bad=x.Bad:=rfl
   have hR:(toR x).Rune=x.Rune:=rfl
   rw [hB,hR]
   unfold badN
   cases x.Bad <;> cases letB x.Rune <;> cases (i==0) <;> cases digB x.Rune <;> rfl
  ·simp only [zbF]
   rw [if_neg (by simp)]
 rw [hgo]
 have e1:decide (((zbp s).length:Int)<1)=!decide (((zbp s).length:Int)≥1):=by rw [← decide_not]; congr 1; simp
 have e2:decide (((zbp s).length:Int)>16)=!decide (((zbp s).length:Int)<=16):=by rw [← decide_not]; congr 1; simp
 rw [e1,e2]
 unfold zbZ
 cases decide (((zbp s).length:Int)≥1) <;> cases decide (((zbp s).length:Int)<=16) <;> cases zgq s <;> cases zgL 0 (zbp s) <;> rfl
def opdB(o:zal):Bool :=
 if o.Kind==1 then ((decide (o.Reg≥0)&&decide (o.Reg<=7))&&(o.Sym==0))&&(o.N==0)
 else if o.Kind==2 then (o.Reg==0)&&(o.Sym==0)
 else if o.Kind==3 then (decide (o.Sym≥0)&&decide (o.N≥0))&&(o.Reg==0)
 else if o.Kind==4 then ((decide (o.Sym≥0)&&decide (o.Reg≥0))&&decide (o.Reg<=7))&&(o.N==0) else false
theorem zir(o:zal):zff o=some (opdB o):=by
 unfold zff opdB zeE
 split
 ·rfl
 split
 ·rfl
 split
 ·rfl
 split
 ·cases decide (o.Sym≥0) <;> simp
 ·rfl
theorem zg3(o:zal):zbG o=some (opdB o):=by
 unfold zbG opdB
 split
 ·rfl
 split
 ·rfl
 split
 ·rfl
 split
 ·rfl
 ·rfl
def memB(o:zal):Bool:=(o.Kind==3)||(o.Kind==4)
theorem zis{o:zal}(h:opdB o=true):o.Kind=1\/o.Kind=2\/o.Kind=3\/o.Kind=4:=by
 unfold opdB at h
 split at h
 ·rename_i e; exact .inl (by simpa using e)
 split at h
 ·rename_i e; exact .inr (.inl (by simpa using e))
 split at h
 ·rename_i e; exact .inr (.inr (.inl (by simpa using e)))
 split at h
 ·rename_i e; exact .inr (.inr (.inr (by simpa using e)))
 ·cases h
def zos(o:zal):zct :=
 if o.Kind==1 then .RegPart ⟨o.Reg⟩ else if o.Kind==2 then .NumPart ⟨o.N⟩ else if o.Kind==3 then .AtPart ⟨o.Sym,o.N⟩ else .ByPart ⟨o.Sym,o.Reg⟩
theorem zld(o:zal):ziW o=some (if opdB o=true then (zos o,true) else (.nil,false)):=by
 unfold ziW zos
 rw [zir]
 cases opdB o
 ·rfl
 ·simp only [Option.bind_some,Bool.not_true,Bool.false_eq_true,if_false,if_true]
  split
  ·rfl
  split
  ·rfl
  split <;> rfl
theorem zkj(o:zal):zex o=some (opdB o&&(o.Kind==1)):=by
 unfold zex
 rw [zld]
 cases h:opdB o
 ·rfl
 ·rcases zis h with e | e | e | e <;> simp [zos,e]
theorem ziy(o:zal):zd7 o=some (opdB o&&memB o):=by
 unfold zd7
 rw [zld]
 cases h:opdB o
 ·rfl
 ·rcases zis h with e | e | e | e <;> simp [zos,e,zgv,memB]
theorem zm2(o:zal):zgl o=some (opdB o&&!memB o):=by
 unfold zgl
 rw [zir,ziy]
 cases opdB o <;> simp
def zjP(o:zal):Bool:=(o.Kind==0)&&((o.Reg==0)&&((o.Sym==0)&&(o.N==0)))
def zdz(x:zae):Bool:=(x.Op==10)||(x.Op==11)
def rowB(x:zae):Bool :=
 if decide (x.Op<1)||decide (x.Op>9) then (zjP x.A&&zjP x.B)&&!x.Lock
 else if !opdB x.A||!opdB x.B then false
 else if x.Op==8 then (memB x.A&&(x.B.Kind==1))&&!x.Lock
 else if x.Op==9 then (memB x.A&&(x.B.Kind==1))&&x.Lock
 else if x.A.Kind==1 then !x.Lock
 else (memB x.A&&!memB x.B)&&(!x.Lock||(decide (x.Op≥2)&&decide (x.Op<=6)))
theorem zpj(x:zae):zdP x=some (rowB x):=by
 unfold zdP rowB
 simp only [zg3]
 split
 ·rfl
 cases ha:opdB x.A
 ·rfl
 cases hb:opdB x.B
 ·rfl
 have hk:=zis hb
 simp only [Bool.not_true,Bool.not_false,Option.bind_some,if_true,Bool.or_self,Bool.false_eq_true,if_false,Bool.or_false]
 split
 ·rfl
 split
 ·rfl
 split
 ·unfold zc5 za0
  rcases hk with e | e | e | e <;> simp [e]
 ·unfold zc5 za0 zdc memB
  rcases hk with e | e | e | e <;> cases (x.A.Kind==3) <;> cases (x.A.Kind==4) <;> cases x.Lock <;> simp [e]
def zkV(x:zae):Bool:=(decide (x.Op≥1)&&decide (x.Op<=14))&&rowB x
theorem zrx(o:zal):((o.Kind==0)&&((o.Reg==0)&&((o.Sym==0)&&(o.N==0))))=zjP o:=rfl
theorem zl2(o:zal):((o.Kind==1)&&memB o)=false:=by
 unfold memB
 by_cases h:o.Kind=1
 ·simp [h]
 ·simp [h]
theorem zkR(x:zae):zeV x=some (zkV x):=by
 unfold zeV zgA
 simp only [zkj,zm2,ziy,zrx]
 unfold zkV rowB
 have hA:=zl2 x.A
 have hB:=zl2 x.B
 generalize opdB x.A=a,opdB x.B=b,(x.A.Kind==1)=kA,memB x.A=mA,(x.B.Kind==1)=kB,memB x.B=mB,x.Lock=lk,zjP x.A=zA,zjP x.B=zB at hA hB ⊢
 generalize x.Op=op
 have h:op<1\/op=1\/op=2\/op=3\/op=4\/op=5\/op=6\/op=7\/op=8\/op=9\/op=10\/op=11\/op=12\/op=13\/op=14\/op>14:=by omega
 have hout:op<1\/op>14->(op==1)=false/\(op==7)=false/\(decide (op≥2)&&decide (op<=6))=false/\(op==8)=false/\(op==9)=false/\(decide (op≥10)&&decide (op<=14))=false/\(decide (op≥1)&&decide (op<=14))=false:=by
  intro h
  refine ⟨?_,?_,?_,?_,?_,?_,?_⟩ <;> simp <;> omega
 rcases h with h | rfl | rfl | rfl | rfl | rfl | rfl | rfl | rfl | rfl | rfl | rfl | rfl | rfl | rfl | h
 case inl =>
  obtain ⟨e1,e2,e3,e4,e5,e6,e7⟩:=hout (.inl h)
  simp only [e1,e2,e3,e4,e5,e6,e7]
  cases a <;> cases b <;> cases kA <;> cases mA <;> first | exact absurd hA (by decide) | (cases mB <;> cases lk <;> rfl)
 case inr.inr.inr.inr.inr.inr.inr.inr.inr.inr.inr.inr.inr.inr.inr =>
  obtain ⟨e1,e2,e3,e4,e5,e6,e7⟩:=hout (.inr h)
  simp only [e1,e2,e3,e4,e5,e6,e7]
  cases a <;> cases b <;> cases kA <;> cases mA <;> first | exact absurd hA (by decide) | (cases mB <;> cases lk <;> rfl)
 all_goals
  cases a <;> cases b <;> cases kA <;> cases mA <;> first | exact absurd hA (by decide) | (cases kB <;> cases mB <;> first | exact absurd hB (by decide) | (cases lk <;> cases zA <;> cases zB <;> rfl))
def zia(x:zae):Bool:=if x.Op==11 then decide (x.Cond≥1)&&decide (x.Cond<=10) else x.Cond==0
theorem znW(x:zae):ziz x=some (zia x&&zkV x):=by
 unfold ziz zia
 rw [zkR]
 split
 ·by_cases h1:x.Cond<1 <;> by_cases h2:x.Cond>10 <;> simp [h1,h2] <;> omega
 ·by_cases h1:x.Cond=0 <;> simp [h1]
def insN(x:zae):Int :=
 if zia x&&zkV x&&(zdz x||decide (x.To=⟨#[]⟩)) then (if zdz x&&!zbZ x.To then 3 else 0) else 4
theorem zm4(x:zae)(hs:Sm x.To):zhg x=some (insN x):=by
 unfold zhg insN
 rw [znW,zkM _ hs]
 have e:((x.Op==10)||(x.Op==11))=zdz x:=rfl
 simp only [Option.bind_some,e]
 cases zia x <;> cases zkV x <;> cases zdz x <;> cases decide (x.To=⟨#[]⟩) <;> cases zbZ x.To <;> rfl
theorem zg4(x:zae)(hs:Sm x.To):zcp x=some (insN x):=by
 unfold zcp insN zbd
 rw [zg2 _ hs,zpj]
 have e:((x.Op==10)||(x.Op==11))=zdz x:=rfl
 simp only [Option.bind_some,e]
 have e1:(decide (x.Op<1)||decide (x.Op>14))=!(decide (x.Op≥1)&&decide (x.Op<=14)):=by
  by_cases h1:x.Op<1 <;> by_cases h2:x.Op>14 <;> simp [h1,h2] <;> omega
 have e2:(((x.Op==11)&&(decide (x.Cond<1)||decide (x.Cond>10)))||((x.Op != 11)&&(x.Cond != 0)))=!zia x:=by
  unfold zia
  by_cases h0:x.Op=11
  ·by_cases h1:x.Cond<1 <;> by_cases h2:x.Cond>10 <;> simp [h0,h1,h2] <;> omega
  ·have h3:(x.Op==11)=false:=by simpa using h0
   simp only [bne,h3,Bool.false_and,Bool.false_or,Bool.not_false,Bool.true_and,Bool.false_eq_true,if_false]
 simp only [e1,e2]
 unfold zkV
 cases zia x <;> cases (decide (x.Op≥1)&&decide (x.Op<=14)) <;> cases rowB x <;> cases zdz x <;> cases decide (x.To=⟨#[]⟩) <;> cases zbZ x.To <;> rfl
end Go.Vs
end
section
namespace Go.Vs
open Go.Lib
local instance tabPalShow3:Tab:=⟨fun _=>none⟩
theorem zew{n:Int}(h:I64 n):(zeh n).size<=21:=by unfold zeh; rw [zdy]; exact itoa_length_le n h.1 h.2
theorem zbc(a b:ByteArray):(a++b).size=a.size+b.size:=ByteArray.size_append
theorem ztL(a:ByteArray):(⟨#[]⟩:ByteArray)++a=a:=bext (by rw [zei]; rfl)
theorem zs6{a b:ByteArray}{n m:Nat}(ha:a.size<=n)(hb:b.size<=m)(h:n+m<=9223372036854775807):zby a b:=by unfold zby; omega
def regT(r:Int):ByteArray:=if decide (r≥0)&&decide (r<8) then rd zfS r else ⟨#[]⟩
theorem zkE(r:Int):zcD r=some (regT r):=by
 unfold zcD regT
 rw [zon]
 simp only [Option.bind_some]
 by_cases h0:r≥0 <;> by_cases h1:r<8
 ·have hi:InB r zfS.length:=⟨h0,by show r.toNat<8; omega⟩
  have e1:decide (r<0)=false:=by simp; omega
  have e2:decide (r>7)=false:=by simp; omega
  simp only [h0,h1,e1,e2,decide_true,Bool.and_true,if_true,hi,Bool.or_self,Bool.false_eq_true,if_false]
 ·have e2:decide (r>7)=true:=by simp; omega
  simp only [e2,Bool.or_true,if_true,h1,decide_false,Bool.and_false,Bool.false_eq_true,if_false]
 ·have e1:decide (r<0)=true:=by simp; omega
  simp only [e1,Bool.true_or,if_true,h0,decide_false,Bool.false_and,Bool.false_eq_true,if_false]
 ·have e1:decide (r<0)=true:=by simp; omega
  simp only [e1,Bool.true_or,if_true,h0,decide_false,Bool.false_and,Bool.false_eq_true,if_false]
theorem zqn{α:Type}[Inhabited α](x:α)(l:List α)(i:Int)(h:1<=i):rd (x::l) i=rd l (i-1):=by
 unfold rd
 rw [show i.toNat=(i-1).toNat+1 by omega]; rfl
def opT(op cond:Int):ByteArray :=
 if ((op==11)&&decide (cond≥1))&&decide (cond<=10) then rd zfx (cond-1)
 else if ((cond==0)&&decide (op≥1))&&decide (op<=14) then rd opsL (op-1) else ⟨#[]⟩
theorem zlK(op cond:Int):zdt op cond=some (opT op cond):=by
 unfold zdt opT
 rw [zmG,zp9]
 simp only [Option.bind_some]
 split
 ·rename_i h
  simp only [Bool.and_eq_true,decide_eq_true_eq] at h
  rw [if_pos (show InB cond (_::zfx).length from ⟨by omega,by show _<11; omega⟩),zqn _ _ _ (by omega)]
 ·have e:((decide (op≥1)&&decide (op<=14))&&(cond==0))=(((cond==0)&&decide (op≥1))&&decide (op<=14)):=by
   cases decide (op≥1) <;> cases decide (op<=14) <;> cases (cond==0) <;> rfl
  rw [e]
  split
  ·rename_i h
   simp only [Bool.and_eq_true,decide_eq_true_eq] at h
   rw [if_pos (show InB op (_::opsL).length from ⟨by omega,by show _<15; omega⟩),zqn _ _ _ (by omega)]
  ·rfl
theorem zhW{l:List ByteArray}{n:Nat}(h:∀s∈l,s.size<=n)(i:Int):(rd l i).size<=n:=by
 unfold rd
 rw [List.getD_eq_getElem?_getD]
 cases e:l[i.toNat]? with
 | none=>show (default:ByteArray).size<=n; exact Nat.zero_le _
 | some s=>exact h s (List.mem_of_getElem? e)
theorem zih(r:Int):(regT r).size<=10:=by
 unfold regT
 split
 ·exact zhW (by decide) r
 ·show 0<=10; omega
theorem zlP(op cond:Int):(opT op cond).size<=10:=by
 unfold opT
 split
 ·exact zhW (by decide) _
 split
 ·exact zhW (by decide) _
 ·show 0<=10; omega
def opdT(o:zal)(syms:List ByteArray):ByteArray :=
 if !opdB o then ⟨#[]⟩ else if o.Kind==1 then regT o.Reg else if o.Kind==2 then zeh o.N
 else if decide (o.Sym≥(syms.length:Int)) then ⟨#[]⟩
 else if o.Kind==3 then ((rd syms o.Sym++⟨#[91]⟩)++zeh o.N)++⟨#[93]⟩
 else ((rd syms o.Sym++⟨#[91]⟩)++regT o.Reg)++⟨#[93]⟩
def zSy(syms:List ByteArray):Prop:=∀s∈syms,s.size<=1000000
theorem zhK(o:zal)(syms:List ByteArray)(hn:I64 o.N)(hs:zSy syms):zcE o syms=some (opdT o syms):=by
 have hz:=zew hn
 have hy:=zhW hs o.Sym
 have hr:=zih o.Reg
 unfold zcE opdT
 rw [zg3,zeD _ hn,zkE]
 simp only [Option.bind_some]
 cases hb:opdB o
 ·rfl
 simp only [Bool.not_true,Bool.false_eq_true,if_false]
 split
 ·rfl
 split
 ·rfl
 rename_i h1 h2
 split
 ·rfl
 rename_i h3
 have hS:o.Sym≥0:=by
  rcases zis hb with e | e | e | e
  ·exact absurd (by simpa using e) h1
  ·exact absurd (by simpa using e) h2
  ·unfold opdB at hb; simp [e] at hb; omega
  ·unfold opdB at hb; simp [e] at hb; omega
 have hi:InB o.Sym syms.length:=⟨hS,by simp at h3; omega⟩
 have c1:zby (rd syms o.Sym) (⟨#[91]⟩:ByteArray):=zs6 hy (Nat.le_refl 1) (by omega)
 have s1:((rd syms o.Sym)++(⟨#[91]⟩:ByteArray)).size<=1000001:=by rw [zbc]; exact Nat.add_le_add hy (Nat.le_refl 1)
 have e93:(⟨#[93]⟩:ByteArray).size=1:=rfl
 have cN:zby ((rd syms o.Sym)++(⟨#[91]⟩:ByteArray)) (zeh o.N):=by unfold zby; omega
 have cN2:zby (((rd syms o.Sym)++(⟨#[91]⟩:ByteArray))++zeh o.N) (⟨#[93]⟩:ByteArray):=by unfold zby; rw [zbc (_++_)]; omega
 have cR:zby ((rd syms o.Sym)++(⟨#[91]⟩:ByteArray)) (regT o.Reg):=by unfold zby; omega
 have cR2:zby (((rd syms o.Sym)++(⟨#[91]⟩:ByteArray))++regT o.Reg) (⟨#[93]⟩:ByteArray):=by unfold zby; rw [zbc (_++_)]; omega
 split
 ·(simp only [if_pos hi,if_pos c1,if_pos cN,if_pos cN2,if_pos cR,if_pos cR2,Option.bind_some]; try rfl)
 ·(simp only [if_pos hi,if_pos c1,if_pos cN,if_pos cN2,if_pos cR,if_pos cR2,Option.bind_some]; try rfl)
theorem zmM(o:zal)(syms:List ByteArray)(hn:I64 o.N)(hs:zSy syms):(opdT o syms).size<=1000100:=by
 have hz:=zew hn
 have hy:=zhW hs o.Sym
 have hr:=zih o.Reg
 have z:(⟨#[]⟩:ByteArray).size=0:=rfl
 have e1:(⟨#[91]⟩:ByteArray).size=1:=rfl
 have e2:(⟨#[93]⟩:ByteArray).size=1:=rfl
 unfold opdT
 split
 ·omega
 split
 ·omega
 split
 ·omega
 split
 ·omega
 split <;> simp only [zbc] <;> omega
def insT(x:zae)(syms:List ByteArray):ByteArray :=
 if insN x != 0 then ⟨#[]⟩ else
  let s:=if x.Lock then (⟨#[108,111,99,107,32]⟩:ByteArray)++opT x.Op x.Cond else opT x.Op x.Cond
  if zdz x then (s++⟨#[32]⟩)++x.To else if decide (x.Op>9) then s
  else if (memB x.A&&decide (x.A.Sym≥(syms.length:Int)))||(memB x.B&&decide (x.B.Sym≥(syms.length:Int))) then ⟨#[]⟩
  else (((s++⟨#[32]⟩)++opdT x.A syms)++⟨#[44,32]⟩)++opdT x.B syms
structure InsOk (x:zae):Prop where
 to:Sm x.To
 a:I64 x.A.N
 b:I64 x.B.N
theorem zqV{x:zae}(h:insN x=0):rowB x=true/\zia x=true/\1<=x.Op/\x.Op<=14/\(zdz x=true->zbZ x.To=true):=by
 unfold insN zkV at h
 split at h
 ·rename_i hc
  simp only [Bool.and_eq_true,decide_eq_true_eq] at hc
  refine ⟨hc.1.2.2,hc.1.1,hc.1.2.1.1,hc.1.2.1.2,fun hj=>?_⟩
  cases hr:zbZ x.To
  ·simp [hj,hr] at h
  ·rfl
 ·cases h
theorem zkD(x:zae)(syms:List ByteArray)(hx:InsOk x)(hs:zSy syms):zda x syms=some (insT x syms):=by
 have ha:=zmM x.A syms hx.a hs
 have hb:=zmM x.B syms hx.b hs
 have hto:x.To.size<=1000000:=hx.to
 have ho:=zlP x.Op x.Cond
 have main:∀s4:ByteArray,s4.size<=5->zbQ x syms s4=some (if zdz x then ((s4++opT x.Op x.Cond)++⟨#[32]⟩)++x.To else if decide (x.Op>9) then s4++opT x.Op x.Cond
  else if (memB x.A&&decide (x.A.Sym≥(syms.length:Int)))||(memB x.B&&decide (x.B.Sym≥(syms.length:Int))) then ⟨#[]⟩
  else ((((s4++opT x.Op x.Cond)++⟨#[32]⟩)++opdT x.A syms)++⟨#[44,32]⟩)++opdT x.B syms):=by
  intro s4 h4
  unfold zbQ zbd za0
  rw [zlK,zhK _ _ hx.a hs,zhK _ _ hx.b hs]
  simp only [Option.bind_some]
  have e:((x.Op==10)||(x.Op==11))=zdz x:=rfl
  have eA:((x.A.Kind==3)||(x.A.Kind==4))=memB x.A:=rfl
  have eB:((x.B.Kind==3)||(x.B.Kind==4))=memB x.B:=rfl
  rw [e,eA,eB]
  generalize hS:s4++opT x.Op x.Cond=S
  have hSz:S.size<=15:=by rw [← hS,zbc]; omega
  have e1:(⟨#[32]⟩:ByteArray).size=1:=rfl
  have e2:(⟨#[44,32]⟩:ByteArray).size=2:=rfl
  rw [if_pos (zs6 h4 ho (by omega))]
  have c1:zby S (⟨#[32]⟩:ByteArray):=by unfold zby; omega
  have c2:zby (S++(⟨#[32]⟩:ByteArray)) x.To:=by unfold zby; simp only [zbc]; omega
  have c3:zby (S++(⟨#[32]⟩:ByteArray)) (opdT x.A syms):=by unfold zby; simp only [zbc]; omega
  have c4:zby ((S++(⟨#[32]⟩:ByteArray))++opdT x.A syms) (⟨#[44,32]⟩:ByteArray):=by unfold zby; simp only [zbc]; omega
  have c5:zby (((S++(⟨#[32]⟩:ByteArray))++opdT x.A syms)++(⟨#[44,32]⟩:ByteArray)) (opdT x.B syms):=by unfold zby; simp only [zbc]; omega
  simp only [if_pos c1,if_pos c2,if_pos c3,if_pos c4,if_pos c5]
  split
  ·rfl
  split
  ·rfl
  cases memB x.A <;> cases decide (x.A.Sym≥(syms.length:Int)) <;> cases memB x.B <;> cases decide (x.B.Sym≥(syms.length:Int)) <;> rfl
 unfold zda insT
 rw [zg4 _ hx.to]
 simp only [Option.bind_some]
 split
 ·rfl
 ·cases x.Lock
  ·simp only [Bool.false_eq_true,if_false]
   rw [main _ (by decide)]
   simp only [ztL]
  ·simp only [if_true]
   rw [main _ (by decide)]
end Go.Vs
end
section
namespace Go.Vs
open Go.Lib
local instance tabPalShow4:Tab:=⟨fun _=>none⟩
def has(l:List ByteArray)(s:ByteArray):Bool:=l.any fun x=>decide (x=s)
theorem zq3{l:List ByteArray}{s:ByteArray}:has l s=true ↔ s∈l:=by
 unfold has
 simp only [List.any_eq_true,decide_eq_true_eq]
 exact ⟨fun ⟨x,h,e⟩=>e▸h,fun h=>⟨s,h,rfl⟩⟩
theorem ztZ{l:List ByteArray}{s:ByteArray}:has l s=false ↔ ¬s∈l:=by rw [← zq3]; simp
def seen(l:List ByteArray):List (ByteArray × Bool):=l.map fun k=>(k,true)
theorem zn0{l:List ByteArray}{s:ByteArray}:(fnd l s).isSome=has l s:=zsm
theorem zoL(l:List ByteArray)(s:ByteArray)(hl:l.length<=1000000):∃i,zaX l s=some i/\decide (i≥0)=has l s:=by
 refine ⟨_,zjJ l s hl,?_⟩
 rw [← zn0]
 cases fnd l s with
 | some i=>simp
 | none=>rfl
structure zme (x:zae):Prop extends InsOk x where
 n:x.zLb.length<=100
 to1:x.To.size<=1000
 lab:∀s∈x.zLb,s.size<=1000
structure ThOk (t:zad):Prop where
 n:t.Ins.length<=100
 ins:∀x∈t.Ins,zme x
structure zpH (s:zak):Prop where
 name:s.Name.size<=1000
 n:s.Init.length<=100
 size:I64 s.Size
 init:∀v∈s.Init,I64 v
structure zjn (p:zag):Prop where
 ns:p.zSy.length<=100
 nt:p.zTh.length<=100
 sym:∀s∈p.zSy,zpH s
 th:∀t∈p.zTh,ThOk t
theorem zsQ{s:ByteArray}(h:s.size<=1000):Sm s:=by unfold Sm; omega
def zjl(t:zad):Int:=za9 (fun _ (n:Int) (x:zae)=>if (x.Op != 12)=true then .inl (n+1) else .inl n) (fun n=>n) 0 0 t.Ins
theorem zkC(t:zad)(ht:t.Ins.length<=1000000):zhT t=some (zjl t):=by
 unfold zhT zjl
 rw [zdw t.Ins (fun i (n:Int)=>(n,i)) (zef t) (fun _ (n:Int) (x:zae)=>if (x.Op != 12)=true then .inl (n+1) else .inl n) (fun n=>n) (fun i n=>0<=n/\n<=i)
  (fun i x hx a ha=>?_) (fun a ha=>?_) 0 ⟨by omega,by omega⟩]
 ·rfl
 ·have hi:i<=1000000:=by have:=(List.getElem?_eq_some_iff.1 hx).1; omega
  simp only [zef]
  rw [if_pos (zfv hx),if_pos (zbj hx),zb0 hx,wi (by omega),zbE ⟨by omega,by omega⟩]
  constructor
  ·split <;> rfl
  ·intro a' h
   split at h
   ·obtain rfl:=Sum.inl.inj h; omega
   ·obtain rfl:=Sum.inl.inj h; omega
 ·simp only [zef]
  rw [if_neg (by simp)]
theorem zmC(t:zad)(ht:t.Ins.length<=1000000):zdK t=some (zjl t):=by
 rw [← zkC t ht]
 unfold zdK zhT
 have:zdH t=zef t:=by
  funext ⟨a,b⟩; rfl
 rw [this]
def zdA(p:zag)(o:zal):Int :=
 if !memB o then 0 else if decide (o.Sym≥(p.zSy.length:Int)) then 7
 else if (o.Kind==3)&&decide (o.N≥(rd p.zSy o.Sym).Size) then 8 else 0
theorem zhJ(p:zag)(o:zal)(h:memB o=true->o.Sym≥0):zcA p o=some (zdA p o):=by
 unfold zcA zdA za0
 have e:((o.Kind==3)||(o.Kind==4))=memB o:=rfl
 rw [e]
 simp only [Option.bind_some]
 cases hm:memB o
 ·rfl
 ·have h0:=h hm
  simp only [Bool.not_true,Bool.false_eq_true,if_false]
  split
  ·rfl
  ·rename_i hs
   have hi:InB o.Sym p.zSy.length:=⟨h0,by simp at hs; omega⟩
   rw [if_pos (fun _=>hi)]
   split <;> rfl
theorem zqH{o:zal}(hb:opdB o=true)(hm:memB o=true):o.Sym≥0:=by
 unfold memB at hm
 simp only [Bool.or_eq_true,beq_iff_eq] at hm
 rcases hm with e | e <;> (unfold opdB at hb; simp [e] at hb; omega)
theorem ztT{x:zae}(h:insN x=0):(memB x.A=true->x.A.Sym≥0)/\(memB x.B=true->x.B.Sym≥0):=by
 obtain ⟨h1,_,h2,h3,_⟩:=zqV h
 unfold rowB at h1
 split at h1
 ·simp only [Bool.and_eq_true,zjP,beq_iff_eq] at h1
  obtain ⟨⟨⟨ha,_⟩,⟨hb,_⟩⟩,_⟩:=h1
  constructor <;> (intro hm; unfold memB at hm; simp [ha,hb] at hm)
 ·split at h1
  ·cases h1
  ·rename_i hab
   simp only [Bool.or_eq_true,Bool.not_eq_true',not_or,Bool.not_eq_false] at hab
   exact ⟨zqH hab.1,zqH hab.2⟩
def labF(_:Nat)(L:List ByteArray)(s:ByteArray):List ByteArray ⊕ (List ByteArray ⊕ Int) :=
 if !zbZ s then .inr (.inr 3) else if has L s then .inr (.inr 6) else .inl (L++[s])
def zm0(L:List ByteArray)(ls:List ByteArray):List ByteArray ⊕ Int:=za9 labF .inl 0 L ls
def insF(p:zag)(_:Nat)(L:List ByteArray)(x:zae):List ByteArray ⊕ (List ByteArray ⊕ Int) :=
 match zm0 L x.zLb with
 | .inr e=>.inr (.inr e)
 | .inl L'=>if insN x != 0 then .inr (.inr (insN x)) else if zdA p x.A != 0 then .inr (.inr (zdA p x.A)) else if zdA p x.B != 0 then .inr (.inr (zdA p x.B)) else .inl L'
theorem zmW:∀(ls:List ByteArray) (i:Nat) (L L':List ByteArray),za9 labF Sum.inl i L ls=Sum.inl L'->L'=L++ls
 | [],i,L,L',h=>by simp only [za9] at h; obtain rfl:=Sum.inl.inj h; simp
 | s::ls,i,L,L',h=>by
  simp only [za9] at h
  cases hf:labF i L s with
  | inr r =>
   rw [hf] at h
   unfold labF at hf
   split at hf
   ·obtain rfl:=Sum.inr.inj hf; cases h
   ·split at hf
    ·obtain rfl:=Sum.inr.inj hf; cases h
    ·cases hf
  | inl L1 =>
   rw [hf] at h
   have:L1=L++[s]:=by
    unfold labF at hf
    split at hf
    ·cases hf
    split at hf
    ·cases hf
    ·exact (Sum.inl.inj hf).symm
   subst this
   have:=zmW ls _ _ _ h
   simpa using this
theorem zm8{p:zag}{i:Nat}{L L':List ByteArray}{x:zae}(h:insF p i L x=.inl L'):L'=L++x.zLb/\insN x=0:=by
 unfold insF at h
 cases hl:zm0 L x.zLb with
 | inr e=>rw [hl] at h; cases h
 | inl L1 =>
  rw [hl] at h
  have hL:=zmW _ _ _ _ hl
  simp only at h
  split at h
  ·cases h
  rename_i hn
  split at h
  ·cases h
  split at h
  ·cases h
  obtain rfl:=Sum.inl.inj h
  exact ⟨hL,by simpa using hn⟩
theorem zkl{p:zag}:∀(xs:List zae) (i:Nat) (L L':List ByteArray),za9 (insF p) Sum.inl i L xs=Sum.inl L'->L'=L++xs.flatMap (·.zLb)/\∀x∈xs,insN x=0
 | [],i,L,L',h=>by simp only [za9] at h; obtain rfl:=Sum.inl.inj h; simp
 | x::xs,i,L,L',h=>by
  simp only [za9] at h
  cases hf:insF p i L x with
  | inr r =>
   rw [hf] at h
   have:∃e,r=.inr e:=by
    unfold insF at hf
    split at hf
    ·exact ⟨_,(Sum.inr.inj hf).symm⟩
    ·split at hf
     ·exact ⟨_,(Sum.inr.inj hf).symm⟩
     split at hf
     ·exact ⟨_,(Sum.inr.inj hf).symm⟩
     split at hf
     ·exact ⟨_,(Sum.inr.inj hf).symm⟩
     ·cases hf
   obtain ⟨e,rfl⟩:=this
   cases h
  | inl L1 =>
   rw [hf] at h
   obtain ⟨rfl,h0⟩:=zm8 hf
   obtain ⟨h1,h2⟩:=zkl xs _ _ _ h
   refine ⟨by rw [h1]; simp,fun y hy=>?_⟩
   rcases List.mem_cons.1 hy with rfl | hy
   ·exact h0
   ·exact h2 y hy
def zke(L:List ByteArray)(_:Nat)(_:Unit)(x:zae):Unit ⊕ (Unit ⊕ Int):=if zdz x&&!has L x.To then .inr (.inr 7) else .inl ()
def zgN(t:zad):Int:=(rd t.Ins ((t.Ins.length:Int)-1)).Op
def ze5(p:zag)(t:zad):Int :=
 if decide (zjl t>4096) then 10 else match za9 (insF p) (Sum.inl:List ByteArray->List ByteArray ⊕ Int) 0 [] t.Ins with
 | .inr e=>e
 | .inl L=>if ((t.Ins.length:Int)==0)||((zgN t != 10)&&(zgN t != 14)) then 9 else match za9 (zke L) Sum.inl 0 () t.Ins with
  | .inl ()=>0
  | .inr e=>e
end Go.Vs
end
section
namespace Go.Vs
open Go.Lib
local instance tabPalShow5:Tab:=⟨fun _=>none⟩
theorem zoO{α β R R':Type}(f:Nat->β->α->β ⊕ R)(g:Nat->β->α->β ⊕ R')(fin:β->R)(fin':β->R')(q:R->R')(hq:∀b,fin' b=q (fin b))
  (hg:∀i b x,g i b x=match f i b x with | .inl b'=>.inl b' | .inr r=>.inr (q r)):∀(l:List α) (i:Nat) (b:β),za9 g fin' i b l=q (za9 f fin i b l)
 | [],i,b=>hq b
 | x::xs,i,b=>by
  simp only [za9,hg]
  cases f i b x with
  | inl b'=>exact zoO f g fin fin' q hq hg xs (i+1) b'
  | inr r=>rfl
end Go.Vs
end
section
namespace Go.Vs
open Go.Lib
local instance tabPalShow6:Tab:=⟨fun _=>none⟩
theorem zrW(t:zad)(i0:Nat)(x:zae)(hx:t.Ins[i0]?=some x)(hk:zme x)(L:List ByteArray)(hL:L.length<=10000):zaN (zbu t i0) (0,L)=some (zm0 L x.zLb):=by
 have hn:=hk.n
 have:=zdw x.zLb (fun i (L:List ByteArray)=>(i,L)) (zbu t i0) labF (fun L=>.inl L) (fun i L=>L.length<=10000+i)
  (fun i s hs L hL=>⟨?_,?_⟩) (fun L _=>?_) L (by omega)
 ·exact this
 ·have hi:i<=1000:=by have:=(List.getElem?_eq_some_iff.1 hs).1; omega
  simp only [zbu,zb0 hx]
  rw [if_pos (zfv hs),if_pos (zbj hs),zb0 hs,zg2 _ (zsQ (hk.lab s (List.mem_of_getElem? hs))),wi (by omega)]
  simp only [Option.bind_some,if_pos (zbj hs)]
  unfold labF
  cases zbZ s
  ·rfl
  ·simp only [Bool.not_true,Bool.false_eq_true,if_false]
   obtain ⟨j,h1,h2⟩:=zoL L s (by omega)
   rw [h1]
   simp only [Option.bind_some,h2]
   rw [if_pos (show Fits (L.length+1) from by unfold Fits; omega)]
   cases has L s <;> rfl
 ·intro a' h
  have hi:i<=1000:=by have:=(List.getElem?_eq_some_iff.1 hs).1; omega
  unfold labF at h
  split at h
  ·cases h
  split at h
  ·cases h
  ·obtain rfl:=Sum.inl.inj h
   simp; omega
 ·simp only [zbu,zb0 hx]
  rw [if_neg (by simp)]
def qU:List ByteArray ⊕ Int->Unit ⊕ Int
 | .inl L=>.inl ()
 | .inr e=>.inr e
def insH(p:zag)(i:Nat)(L:List ByteArray)(x:zae):List ByteArray ⊕ (Unit ⊕ Int) :=
 match insF p i L x with
 | .inl L'=>.inl L'
 | .inr (.inl L')=>.inr (.inl ())
 | .inr (.inr e)=>.inr (.inr e)
theorem zmA(p:zag)(t:zad)(i:Nat)(x:zae)(hx:t.Ins[i]?=some x)(hk:zme x)(L:List ByteArray)(hL:L.length<=10000)(hi:i<=1000000) :
  zbv t p ((i:Int),L)=some (match insH p i L x with | .inl L'=>.inl ((i:Int)+1,L') | .inr r=>.inr r):=by
 simp only [zbv]
 rw [if_pos (zfv hx),if_pos (zbj hx),zrW t i x hx hk L hL,zb0 hx,zg4 _ hk.to]
 unfold insH insF
 cases hl:zm0 L x.zLb with
 | inr e=>rfl
 | inl L1 =>
  simp only [Option.bind_some,zbM]
  by_cases hn:insN x=0
  ·obtain ⟨hA,hB⟩:=ztT hn
   have e1:(insN x != 0)=false:=by rw [hn]; rfl
   rw [zhJ p _ hA,zhJ p _ hB]
   simp only [e1,Bool.false_eq_true,if_false,Option.bind_some]
   rw [wi (by omega)]
   cases (zdA p x.A != 0) <;> cases (zdA p x.B != 0) <;> rfl
  ·have e1:(insN x != 0)=true:=by simpa using hn
   simp only [e1,if_true]
def zra(s:ByteArray)(i:Nat)(_:Unit)(x:zae):Unit ⊕ (Unit ⊕ Int):=if has x.zLb s then .inr (.inr (i:Int)) else .inl ()
theorem znf(s:ByteArray):∀(xs:List zae) (i:Nat),(za9 (zra s) Sum.inl i () xs=.inl ()/\has (xs.flatMap (·.zLb)) s=false)\/∃k:Nat,za9 (zra s) Sum.inl i () xs=.inr (k:Int)/\has (xs.flatMap (·.zLb)) s=true
 | [],i=>.inl ⟨rfl,rfl⟩
 | x::xs,i=>by
  have hap:has ((x::xs).flatMap (·.zLb)) s=(has x.zLb s||has (xs.flatMap (·.zLb)) s):=by unfold has; simp
  simp only [za9]
  unfold zra
  cases hh:has x.zLb s
  ·rcases znf s xs (i+1) with ⟨h1,h2⟩ | ⟨k,h1,h2⟩
   ·exact .inl ⟨h1,by rw [hap,hh,h2]; rfl⟩
   ·exact .inr ⟨k,h1,by rw [hap,hh,h2]; rfl⟩
  ·exact .inr ⟨i,rfl,by rw [hap,hh]; rfl⟩
theorem znI(t:zad)(ht:ThOk t)(s:ByteArray):∃f,zdu t s=some f/\decide (f<0)=!has (t.Ins.flatMap (·.zLb)) s:=by
 have hn:=ht.n
 have:=zdw t.Ins (fun i (_:Unit)=>i) (zcF t s) (zra s) Sum.inl (fun _ _=>True) (fun i x hx a _=>⟨?_,fun _ _=>trivial⟩) (fun a _=>?_) () trivial
 ·unfold zdu
  rw [this]
  rcases znf s t.Ins 0 with ⟨h1,h2⟩ | ⟨k,h1,h2⟩
  ·rw [h1,h2]; exact ⟨-1,rfl,rfl⟩
  ·rw [h1,h2]; exact ⟨k,rfl,by simp⟩
 ·have hi:i<=1000000:=by have:=(List.getElem?_eq_some_iff.1 hx).1; omega
  have hk:=ht.ins x (List.mem_of_getElem? hx)
  have hkn:=hk.n
  simp only [zcF]
  rw [if_pos (zfv hx),if_pos (zbj hx),zb0 hx,wi (by omega)]
  obtain ⟨j,h1,h2⟩:=zoL x.zLb s (by omega)
  rw [h1]
  simp only [Option.bind_some,h2]
  unfold zra
  cases has x.zLb s <;> rfl
 ·simp only [zcF]; rw [if_neg (by simp)]
theorem zsh{p:zag}{i:Nat}{L L':List ByteArray}{x:zae}(h:insF p i L x=.inl L'):L'.length=L.length+x.zLb.length:=by
 rw [(zm8 h).1,List.length_append]
theorem zlJ(p:zag)(t:zad)(ht:ThOk t):zdq p t=some (ze5 p t):=by
 have hn:=ht.n
 unfold zdq ze5
 rw [zmC t (by omega)]
 simp only [Option.bind_some]
 split
 ·rfl
 have h1:=zdw t.Ins (fun i (L:List ByteArray)=>(i,L)) (zbv t p) (insH p) (fun _=>.inl ()) (fun i L=>L.length<=100 * i)
  (fun i x hx L hL=>by
   have hlt:=(List.getElem?_eq_some_iff.1 hx).1
   have hk:=ht.ins x (List.mem_of_getElem? hx)
   have hkn:=hk.n
   refine ⟨by rw [zmA p t i x hx hk L (by omega) (by omega)]; cases insH p i L x <;> rfl,fun L' h=>?_⟩
   unfold insH at h
   cases hf:insF p i L x with
   | inl L1 =>
    rw [hf] at h
    obtain rfl:=Sum.inl.inj h
    rw [zsh hf]; omega
   | inr r=>rw [hf] at h; cases r <;> cases h) (fun L _=>by simp only [zbv]; rw [if_neg (by simp)]) [] (by simp)
 rw [h1,zoO (insF p) (insH p) (Sum.inl:List ByteArray->List ByteArray ⊕ Int) (fun _=>.inl ()) qU (fun _=>rfl) (fun i b x=>by
  unfold insH
  cases insF p i b x with
  | inl L'=>rfl
  | inr r=>cases r <;> rfl)]
 cases hf:za9 (insF p) (Sum.inl:List ByteArray->List ByteArray ⊕ Int) 0 [] t.Ins with
 | inr e=>rfl
 | inl L =>
  obtain ⟨hL,hz⟩:=zkl _ _ _ _ hf
  simp only [Option.bind_some,zbM,qU]
  rw [List.nil_append] at hL
  have h3:zaN (zbt t) 0=some (match za9 (zke L) Sum.inl 0 () t.Ins with | .inl ()=>.inl () | .inr e=>.inr e):=by
   have h4:=zdw t.Ins (fun i (_:Unit)=>i) (zbt t) (zke L) Sum.inl (fun _ _=>True)
    (fun i x hx a _=>⟨?_,fun _ _=>trivial⟩) (fun a _=>?_) () trivial
   ·rw [h4]
    cases za9 (zke L) Sum.inl 0 () t.Ins with
    | inl u=>rfl
    | inr e=>rfl
   ·have hi:i<=1000000:=by have:=(List.getElem?_eq_some_iff.1 hx).1; omega
    simp only [zbt]
    unfold zbd
    obtain ⟨f,hf1,hf2⟩:=znI t ht x.To
    have inb:=zbj hx
    rw [if_pos (zfv hx),if_pos inb,zb0 hx,wi (by omega),hf1]
    have ej:((x.Op==10)||(x.Op==11))=zdz x:=rfl
    simp only [Option.bind_some,ej,inb,implies_true,if_true]
    unfold zke
    rw [hL]
    cases zdz x
    ·rfl
    ·simp only [if_true,Option.bind_some,hf2,Bool.true_and]
     cases has (t.Ins.flatMap (·.zLb)) x.To <;> rfl
   ·simp only [zbt]; rw [if_neg (by simp)]
  rw [h3]
  by_cases hl:((t.Ins.length:Int)==0)=true
  ·simp only [hl,Bool.true_or,if_true]
  ·have h0:t.Ins.length≠0:=by simpa using hl
   simp only [Bool.not_eq_true] at hl
   rw [zbE (show I64 ((t.Ins.length:Int)-1) from ⟨by omega,by omega⟩)]
   have w2:InB ((t.Ins.length:Int)-1) t.Ins.length:=⟨by omega,by omega⟩
   simp only [hl,w2,if_true,Bool.false_or,Bool.false_eq_true,if_false]
   have:(rd t.Ins ((t.Ins.length:Int)-1)).Op=zgN t:=rfl
   rw [this]
   split
   ·rfl
   ·cases za9 (zke L) Sum.inl 0 () t.Ins with
    | inl u=>rfl
    | inr e=>rfl
def symF(_:Nat)(L:List ByteArray)(s:zak):List ByteArray ⊕ (Unit ⊕ Int) :=
 if !zbZ s.Name then .inr (.inr 3) else if has L s.Name then .inr (.inr 6)
 else if (decide (s.Size<1)||decide (s.Size>64))||decide ((s.Init.length:Int)>s.Size) then .inr (.inr 5) else .inl (L++[s.Name])
def thF(p:zag)(_:Nat)(_:Unit)(t:zad):Unit ⊕ (Unit ⊕ Int):=if ze5 p t != 0 then .inr (.inr (ze5 p t)) else .inl ()
def zgp(p:zag):Int :=
 if decide ((p.zSy.length:Int)>64)||decide ((p.zTh.length:Int)>64) then 10 else match za9 symF (fun _=>(.inl ():Unit ⊕ Int)) 0 [] p.zSy with
 | .inr e=>e
 | .inl ()=>match za9 (thF p) Sum.inl 0 () p.zTh with
  | .inr e=>e
  | .inl ()=>0
theorem ztC(p:zag)(hp:zjn p)(i:Nat)(s:zak)(hx:p.zSy[i]?=some s):zaN (zbH (i:Int) p) 0=some (if has ((p.zSy.take i).map (·.Name)) s.Name then .inr 6 else .inl ()):=by
 have hs:=hp.ns
 have hlt:=(List.getElem?_eq_some_iff.1 hx).1
 have h1:=zdw (p.zSy.take i) (fun i (_:Unit)=>i) (zbH (i:Int) p) (fun _ _ y=>if decide (y.Name=s.Name) then .inr (.inr 6) else .inl ()) (fun _=>(.inl ():Unit ⊕ Int)) (fun _ _=>True)
  (fun j y hy _ _=>⟨by
   have hj:=(List.getElem?_eq_some_iff.1 hy).1
   have hj2:j<i:=by simp at hj; omega
   have hy2:p.zSy[j]?=some y:=by rw [List.getElem?_take_of_lt hj2] at hy; exact hy
   simp only [zbH]
   rw [if_pos (by simpa using hj2),if_pos (zbj hy2),zb0 hy2,zb0 hx,wi (by omega)]
   cases decide (y.Name=s.Name) <;> rfl,fun _ _=>trivial⟩) (fun _ _=>by
   simp only [zbH]; rw [if_neg (by simp; omega)]) () trivial
 rw [h1]
 congr 1
 generalize p.zSy.take i=l
 generalize (0:Nat)=k
 induction l generalizing k with
 | nil=>rfl
 | cons y l ih =>
  simp only [za9]
  unfold has
  simp only [List.map_cons,List.any_cons]
  cases decide (y.Name=s.Name)
  ·simp only [Bool.false_eq_true,if_false,Bool.false_or]
   exact ih (k+1)
  ·rfl
theorem zmD(p:zag)(hp:zjn p):zdL p=some (zgp p):=by
 have hs:=hp.ns
 have ht:=hp.nt
 unfold zdL zgp
 split
 ·rfl
 have h1:zaN (zbm p) 0=some (za9 symF (fun _=>(.inl ():Unit ⊕ Int)) 0 [] p.zSy):=by
  have main:∀(suf pre:List zak),p.zSy=pre++suf->zaN (zbm p) (pre.length:Int)=some (za9 symF (fun _=>(.inl ():Unit ⊕ Int)) pre.length (pre.map (·.Name)) suf):=by
   intro suf
   induction suf with
   | nil =>
    intro pre e
    rw [List.append_nil] at e
    refine zaI ?_
    simp only [zbm]
    rw [e,if_neg (by simp)]
    rfl
   | cons s suf ih =>
    intro pre e
    have hx:p.zSy[pre.length]?=some s:=by rw [e]; simp
    have hi:pre.length<=1000:=by have:=(List.getElem?_eq_some_iff.1 hx).1; omega
    have hk:=hp.sym s (List.mem_of_getElem? hx)
    have htk:p.zSy.take pre.length=pre:=by rw [e]; simp
    have hst:zbm p (pre.length:Int)=some (match symF pre.length (pre.map (·.Name)) s with | .inl _=>.inl ((pre.length:Int)+1) | .inr r=>.inr r):=by
     simp only [zbm]
     rw [if_pos (zfv hx),if_pos (zbj hx),zb0 hx,zg2 _ (zsQ hk.name),ztC p hp _ s hx,htk,wi (by omega)]
     simp only [Option.bind_some]
     unfold symF
     cases zbZ s.Name
     ·rfl
     ·cases has (pre.map (·.Name)) s.Name
      ·simp only [Bool.not_true,Bool.false_eq_true,if_false,zbM,Option.bind_some]
       cases ((decide (s.Size<1)||decide (s.Size>64))||decide ((s.Init.length:Int)>s.Size)) <;> rfl
      ·rfl
    have hnext:=ih (pre++[s]) (by rw [e]; simp)
    simp only [za9]
    cases hf:symF pre.length (pre.map (·.Name)) s with
    | inl L' =>
     rw [hf] at hst
     rw [za4 hst]
     have:L'=(pre++[s]).map (·.Name):=by
      unfold symF at hf
      split at hf
      ·cases hf
      split at hf
      ·cases hf
      split at hf
      ·cases hf
      ·rw [← Sum.inl.inj hf]; simp
     subst this
     simpa using hnext
    | inr r =>
     rw [hf] at hst
     rw [zaI hst]
  exact main p.zSy [] rfl
 rw [h1]
 have h2:=zdw p.zTh (fun i (_:Unit)=>i) (zcq p) (thF p) Sum.inl (fun _ _=>True)
  (fun i t hx _ _=>⟨by
   have hi:i<=1000000:=by have:=(List.getElem?_eq_some_iff.1 hx).1; omega
   have hk:=hp.th t (List.mem_of_getElem? hx)
   simp only [zcq]
   rw [if_pos (zfv hx),if_pos (zbj hx),zb0 hx,zlJ p t hk,wi (by omega)]
   simp only [Option.bind_some]
   unfold thF
   cases (ze5 p t != 0) <;> rfl,fun _ _=>trivial⟩) (fun _ _=>by simp only [zcq]; rw [if_neg (by simp)]) () trivial
 rw [h2]
 cases za9 symF (fun _=>(.inl ():Unit ⊕ Int)) 0 [] p.zSy with
 | inr e=>rfl
 | inl u =>
  simp only [Option.bind_some,zbM]
  cases za9 (thF p) Sum.inl 0 () p.zTh with
  | inr e=>rfl
  | inl u=>rfl
end Go.Vs
end
