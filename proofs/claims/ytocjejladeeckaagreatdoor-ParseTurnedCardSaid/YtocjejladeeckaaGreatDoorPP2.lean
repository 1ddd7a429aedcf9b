import Derived.Test.YtocjejladeeckaaGreatDoorPP1
set_option linter.all false
section
namespace Go.Vs
local instance tabPalP6:Tab:=⟨fun _=>none⟩
def opW(s:ByteArray):Int × Int × Bool:=if s=⟨#[]⟩ then (0,0,false) else match fnd opsL s with | some i=>((i:Int)+1,0,true) | none=>match fnd zfW s with | some i=>(11,(i:Int)+1,true) | none=>(0,0,false)
theorem zqZ{s:ByteArray}{op c:Int}(h:opW s=(op,c,true)):1<=op/\op<=14/\(op≠11->c=0):=by
 unfold opW at h
 split at h
 ·simp at h
 ·split at h
  ·rename_i i hi
   have:=(znC hi).1
   simp [opsL] at this
   simp only [Prod.mk.injEq,and_true] at h
   omega
  ·split at h
   ·simp only [Prod.mk.injEq,and_true] at h
    omega
   ·simp at h
def zt8:ByteArray:=⟨#[108,111,99,107]⟩
def zO:zap:=⟨0,0,0,0⟩
def zT:zaa:=⟨0,0,0,⟨#[]⟩⟩
def zof(lk:Bool)(op:Int):Bool:=(lk != (op==9))&&(!((lk&&decide (op≥2))&&decide (op<=6)))
def znv(T:List zaa)(syms:List zam)(lk:Bool)(j:Nat):Res (zae × zaa) :=
 match opW (tk T j).Text with
 | (op,c,ok) =>
  if (((tk T j).Kind != 1)||(!ok))||zof lk op then .inl (flt 4 (tk T j))
  else if (op==10)||(op==11) then match ziE T (j+1) with
   | some f=>.inl f
   | none=>.inr ((⟨op,lk,c,zO,zO,(tk T (j+1)).Text,[]⟩,tk T (j+1)),j+2)
  else if decide (op<=9) then match opsP T syms op lk (j+1) with
   | .inl f=>.inl f
   | .inr ((a,b),k)=>.inr ((⟨op,lk,c,a,b,⟨#[]⟩,[]⟩,zT),k)
  else .inr ((⟨op,lk,c,zO,zO,⟨#[]⟩,[]⟩,zT),j+1)
def insP(T:List zaa)(syms:List zam)(i:Nat):Res (zae × zaa) :=
 if (tk T i).Kind != 1 then .inl (flt 4 (tk T i))
 else if (tk T i).Text=zt8 then znv T syms true (i+1) else znv T syms false i
theorem zh5{T:List zaa}{i:Nat}(h:ziE T i=none):(rd T (i:Int)).Kind=1:=by
 unfold ziE at h
 split at h
 ·cases h
 ·rename_i h1
  simpa [bne] using h1
theorem zlI{T syms lk j x k}(hT:zdr T)(hj:j<T.length)(h:znv T syms lk j=.inr (x,k)):j<k/\k<T.length/\((x.1.To≠⟨#[]⟩) ↔ (x.1.Op=10\/x.1.Op=11))/\x.1.zLb=[]:=by
 unfold znv at h
 rcases hw:opW (tk T j).Text with ⟨op,c,ok⟩
 rw [hw] at h
 simp only at h
 split at h
 ·cases h
 rename_i h1
 simp only [Bool.or_eq_true,not_or,Bool.not_eq_true,Bool.not_eq_false',bne_eq_false_iff_eq] at h1
 have hn:j+1<T.length:=hT.next j hj (by show (tk T j).Kind≠4; omega)
 split at h
 ·rename_i ho
  split at h
  ·cases h
  ·rename_i hnm
   have hk:=zh5 hnm
   have hn2:j+2<T.length:=hT.next (j+1) hn (by rw [hk]; decide)
   cases h
   have hm:tk T (j+1)∈T:=by
    rw [show tk T (j+1)=T[j+1] from zcd (List.getElem?_eq_getElem hn)]
    exact List.getElem_mem hn
   refine ⟨by omega,hn2,⟨fun _=>by simpa using ho,fun _=>hT.name _ hm hk⟩,rfl⟩
 rename_i ho
 have ho':¬(op=10\/op=11):=by simpa using ho
 split at h
 ·split at h
  ·cases h
  ·rename_i a b k' hx
   obtain ⟨e1,e2⟩:=zqW hT hn hx
   cases h
   exact ⟨by omega,e2,⟨fun e=>absurd rfl e,fun e=>absurd e ho'⟩,rfl⟩
 ·cases h
  exact ⟨by omega,hn,⟨fun e=>absurd rfl e,fun e=>absurd e ho'⟩,rfl⟩
theorem zkS{T syms i x k}(hT:zdr T)(hi:i<T.length)(h:insP T syms i=.inr (x,k)):i<k/\k<T.length/\((x.1.To≠⟨#[]⟩) ↔ (x.1.Op=10\/x.1.Op=11))/\x.1.zLb=[]:=by
 unfold insP at h
 split at h
 ·cases h
 rename_i h1
 have hn:i+1<T.length:=hT.next i hi (by have:(tk T i).Kind=1:=by simpa [bne] using h1
                                        show (tk T i).Kind≠4; omega)
 split at h
 ·obtain ⟨a,b⟩:=zlI hT hn h
  exact ⟨by omega,b⟩
 ·exact zlI hT hi h
theorem zyr(s:ByteArray):zgx s=some (opW s):=zgd s
theorem zu8(s:ByteArray):zeH s=some (opW s):=(zqK s).trans (zgd s)
theorem zhc{α:Type}[Inhabited α](D:List α)(c:α):rd (D++[c]) (D.length:Int)=c:=by
 apply zcd; simp
theorem zoR{α:Type}[Inhabited α](D:List α)(c:α){n:Nat}(h:D.length=n):rd (D++[c]) (n:Int)=c:=by
 subst h; exact zhc D c
theorem zha{α:Type}(D:List α)(c d:α):(D++[c]).set D.length d=D++[d]:=by
 rw [List.set_append_right _ _ (Nat.le_refl _)]; simp
theorem zmN{α:Type}(D:List α)(c d:α){n:Nat}(h:D.length=n):(D++[c]).set n d=D++[d]:=by
 subst h; exact zha D c d
theorem zd5{α:Type}(D:List α)(c:α):InB (D.length:Int) (D++[c]).length:=⟨by omega,by simp⟩
theorem zi4{α:Type}(D:List α)(c:α){n:Nat}(h:D.length=n):InB (n:Int) (D++[c]).length:=by
 subst h; exact zd5 D c
def zuA(R:zac)(D:List zaz)(h:zaa)(lb:List (ByteArray × Bool))(o:List ByteArray)(fs tg:List zaa)(x:zae)(ok:Bool)(R':zac)(q:Res (zae × zaa)):Prop:=match q with
 | .inl f=>ok=false/\R'.f=f
 | .inr ((y,t),j)=>ok=true/\x=y/\R'=⟨R.l,(j:Int),R.p,D++[⟨h,lb,o,fs,tg++[t]⟩],R.f⟩
theorem zny(R:zac)(D:List zaz)(h:zaa)(lb:List (ByteArray × Bool))(o:List ByteArray)(fs tg:List zaa)(lk:Bool){j:Nat}(hT:zdr R.l)(hj:j<R.l.length)(hs:R.p.zSy.length<=64)(hb:R.b=D++[⟨h,lb,o,fs,tg++[zT]⟩])(htg:tg.length<=1000000) :
  ∃x ok R',zbg R (D.length:Int) (j:Int) lk (tk R.l j).Kind (tk R.l j).Line (tk R.l j).Col (tk R.l j).Text=some (x,ok,R')/\zuA R D h lb o fs tg x ok R' (znv R.l R.p.zSy lk j):=by
 have hl:=hT.len
 unfold zbg znv
 rw [zyr]
 simp only [Option.bind_some]
 rcases hw:opW (tk R.l j).Text with ⟨op,c,ok⟩
 simp only
 by_cases hbad:((((tk R.l j).Kind != 1)||(!ok))||zof lk op)=true
 ·have hbad':=hbad
  unfold zof at hbad'
  rw [if_pos hbad',if_pos hbad]
  exact ⟨_,_,_,rfl,rfl,rfl⟩
 have hbad':=hbad
 unfold zof at hbad'
 rw [if_neg hbad',if_neg hbad]
 simp only [Bool.or_eq_true,not_or,Bool.not_eq_true,Bool.not_eq_false',bne_eq_false_iff_eq] at hbad
 obtain ⟨⟨hk,rfl⟩,hlk⟩:=hbad
 obtain ⟨hop1,hop2,hc⟩:=zqZ hw
 have hn:j+1<R.l.length:=hT.next j hj (by show (tk R.l j).Kind≠4; omega)
 rw [w1 (show j<=2000010 by omega)]
 by_cases ho:((op==10)||(op==11))=true
 ·rw [if_pos ho,if_pos ho,if_pos (zaO hn),zeJ]
  unfold ziE
  by_cases h1:((tk R.l (j+1)).Kind != 1)=true
  ·rw [if_pos h1,if_pos h1]
   exact ⟨_,_,_,rfl,rfl,rfl⟩
  rw [if_neg h1,if_neg h1]
  simp only [Option.bind_some]
  cases hwd:zgn (tk R.l (j+1)).Text with
  | true=>exact ⟨_,_,_,rfl,rfl,rfl⟩
  | false =>
   simp only [Bool.false_eq_true,if_false]
   rw [hb,if_pos (zd5 _ _),zhc]
   simp only
   have e1:IntKind.wrap .i64 (((tg++[zT]).length:Int)-1)=((tg.length:Nat):Int):=by
    rw [List.length_append,List.length_singleton,zbO ⟨by omega,by omega⟩]; omega
   rw [e1,if_pos (zd5 _ _),if_pos (zd5 _ _),w1 (show j+1<=2000010 by omega)]
   simp only [Int.toNat_natCast,zha]
   exact ⟨_,_,_,rfl,rfl,rfl,rfl⟩
 rw [if_neg ho,if_neg ho]
 by_cases h9:decide (op<=9)=true
 ·rw [if_pos h9,if_pos h9]
  have h9':op<=9:=by simpa using h9
  obtain ⟨ok2,R2,x2,k1,k2,k3⟩:=zsF ⟨R.l,((j+1:Nat):Int),R.p,R.b,R.f⟩ ⟨op,lk,c,zO,zO,⟨#[]⟩,[]⟩ hT hn hs rfl hop1 h9' (hc (by omega)) rfl
  have k1':zbY ⟨R.l,((j+1:Nat):Int),R.p,R.b,R.f⟩ ⟨op,lk,c,⟨0,0,0,0⟩,⟨0,0,0,0⟩,⟨#[]⟩,[]⟩=some (x2,ok2,R2):=k1
  rw [k1']
  simp only [Option.bind_some]
  cases hx:opsP R.l R.p.zSy op lk (j+1) with
  | inl f =>
   rw [show pos (opsP R.l R.p.zSy op lk (j+1))=.inl f by rw [hx]; rfl] at k2
   obtain ⟨rfl,e4⟩:=k2
   exact ⟨_,_,_,rfl,rfl,e4⟩
  | inr q =>
   obtain ⟨⟨a,b⟩,k⟩:=q
   rw [show pos (opsP R.l R.p.zSy op lk (j+1))=.inr k by rw [hx]; rfl] at k2
   obtain ⟨rfl,rfl⟩:=k2
   have e5:=k3 a b k hx
   subst e5
   exact ⟨_,_,_,rfl,rfl,rfl,by rw [hb]⟩
 ·rw [if_neg h9,if_neg h9]
  exact ⟨_,_,_,rfl,rfl,rfl,by rw [hb]⟩
theorem zsG(R:zac)(D:List zaz)(h:zaa)(lb:List (ByteArray × Bool))(o:List ByteArray)(fs tg:List zaa){i:Nat}(hT:zdr R.l)(hi:i<R.l.length)(hs:R.p.zSy.length<=64)(ha:R.at_=(i:Int))(hb:R.b=D++[⟨h,lb,o,fs,tg++[zT]⟩])(htg:tg.length<=1000000) :
  ∃x ok R',zbs R (D.length:Int)=some (x,ok,R')/\zuA R D h lb o fs tg x ok R' (insP R.l R.p.zSy i):=by
 have hl:=hT.len
 unfold zbs insP
 rw [ha,if_pos (by rw [hb]; exact zd5 _ _),if_pos (zaO hi)]
 by_cases h1:((tk R.l i).Kind != 1)=true
 ·rw [if_pos h1,if_pos h1]
  exact ⟨_,_,_,rfl,rfl,rfl⟩
 rw [if_neg h1,if_neg h1]
 have hn:i+1<R.l.length:=hT.next i hi (by have:(tk R.l i).Kind=1:=by simpa [bne] using h1
                                          show (tk R.l i).Kind≠4; omega)
 by_cases h2:(tk R.l i).Text=zt8
 ·have h2':decide ((tk R.l i).Text=(⟨#[108,111,99,107]⟩:ByteArray))=true:=decide_eq_true h2
  rw [if_pos h2',if_pos h2,w1 (show i<=2000010 by omega),if_pos (zaO hn)]
  exact zny R D h lb o fs tg true hT hn hs hb htg
 ·have h2':¬decide ((tk R.l i).Text=(⟨#[108,111,99,107]⟩:ByteArray))=true:=fun e=>h2 (of_decide_eq_true e)
  rw [if_neg h2',if_neg h2]
  exact zny R D h lb o fs tg false hT hi hs hb htg
end Go.Vs
end
section
namespace Go.Vs
local instance tabPalP7:Tab:=⟨fun _=>none⟩
theorem zr1{n:Nat}(h:n<=1000000):IntKind.wrap .i64 (((n+1:Nat):Int)-1)=(n:Int):=by
 rw [zbO ⟨by omega,by omega⟩]; omega
theorem zd1{n:Nat}(h:n<=2000000):Fits n:=by unfold Fits; omega
structure Qat (Q:zab) (D:List zad) (xs:List zae) (F G:List (List zaa)) (fs tg:List zaa):Prop where
 th:Q.P.zTh=D++[⟨xs⟩]
 fi:Q.First=F++[fs]
 to:Q.To=G++[tg]
 lf:F.length=D.length
 lg:G.length=D.length
 n:D.length<=64
 nx:xs.length<=1000000
 nf:fs.length<=1000000
 nt:tg.length<=1000000
def zuz(Q:zab)(i0:Nat)(D:List zad)(xs:List zae)(F G:List (List zaa))(fs tg:List zaa)(ok:Bool)(Q':zab)(q:Res (zae × zaa)):Prop:=match q with
 | .inl f=>ok=false/\Q'.Bad=f
 | .inr ((y,t),j)=>ok=true/\Q'=⟨Q.T,(j:Int),⟨Q.P.zSy,D++[⟨xs++[⟨y.Op,y.Lock,y.Cond,y.A,y.B,y.To,Q.Wait⟩]⟩]⟩,Q.zHd,F++[fs++[tk Q.T i0]],G++[tg++[t]],Q.Left,Q.All,[],Q.Bad⟩
theorem zqI(Q:zab){D xs F G fs tg}(hq:Qat Q D xs F G fs tg)(T:List zaa)(i22:Int)(sy:List zam)(hd:List zaa)(lf:List Int)(al:List ByteArray)(a b c op:Int)(lk:Bool)(cd k1 k2 k3 k4 k5 k6 k7 k8:Int)(s:ByteArray)(m1 m2 m3:Int)(s':ByteArray) :
  zbp Q T i22 sy Q.P.zTh hd Q.First Q.To lf al a b c op lk cd k1 k2 k3 k4 k5 k6 k7 k8 s m1 m2 m3 s'=some (true,⟨T,i22,⟨sy,D++[⟨xs++[⟨op,lk,cd,⟨k1,k2,k3,k4⟩,⟨k5,k6,k7,k8⟩,s,Q.Wait⟩]⟩]⟩,hd,F++[fs++[rd Q.T Q.I]],G++[tg++[⟨m1,m2,m3,s'⟩]],lf,al,[],⟨a,b,c⟩⟩):=by
 obtain ⟨h1,h2,h3,h4,h5,h6,h7,h8,h9⟩:=hq
 unfold zbp
 rw [h1,h2,h3]
 have e:IntKind.wrap .i64 (((D++[(⟨xs⟩:zad)]).length:Int)-1)=(D.length:Int):=by
  rw [List.length_append,List.length_singleton]; exact zr1 (by omega)
 rw [e,zhc,zoR F fs h4,zoR G tg h5]
 simp only
 rw [if_pos (zd5 _ _),if_pos (zd1 (by omega)),if_pos (zd5 _ _)]
 simp only [Option.bind_some,Int.toNat_natCast]
 rw [zha,zmN F _ _ h4,zmN G _ _ h5]
 rw [if_pos (zi4 F _ h4),if_pos (zd1 (by omega)),if_pos (zi4 G _ h5),if_pos (zd1 (by omega)),if_pos (zi4 F _ h4),if_pos (zi4 G _ h5)]
theorem zoN(Q:zab){D xs F G fs tg}(hq:Qat Q D xs F G fs tg)(lk:Bool){i0 j:Nat}(hT:zdr Q.T)(hj:j<Q.T.length)(hs:Q.P.zSy.length<=64)(ha:Q.I=(i0:Int)) :
  ∃ok Q',zbN Q (j:Int) lk (tk Q.T j).Kind (tk Q.T j).Line (tk Q.T j).Col (tk Q.T j).Text=some (ok,Q')/\zuz Q i0 D xs F G fs tg ok Q' (znv Q.T Q.P.zSy lk j):=by
 have hl:=hT.len
 unfold zbN znv
 rw [zu8]
 simp only [Option.bind_some]
 rcases hw:opW (tk Q.T j).Text with ⟨op,c,ok⟩
 simp only
 have hr:(if ((!(((tk Q.T j).Kind != 1)||(!ok)))&&lk)=true then zdh op else some default)=some (if ((!(((tk Q.T j).Kind != 1)||(!ok)))&&lk)=true then (decide (op≥2)&&decide (op<=6)) else default):=by
  split <;> rfl
 rw [hr]
 simp only [Option.bind_some]
 have hb:(((((tk Q.T j).Kind != 1)||(!ok))||((lk&&(!(if ((!(((tk Q.T j).Kind != 1)||(!ok)))&&lk)=true then (decide (op≥2)&&decide (op<=6)) else default)))&&(op != 9)))||((!lk)&&(op==9)))=((((tk Q.T j).Kind != 1)||(!ok))||zof lk op):=by
  unfold zof
  cases h1:((tk Q.T j).Kind != 1) <;> cases ok <;> cases lk <;> simp [bne] <;> cases h9:(op==9) <;> simp [bne,h9] <;> cases (decide (2<=op)) <;> cases (decide (op<=6)) <;> rfl
 rw [hb]
 by_cases hbad:((((tk Q.T j).Kind != 1)||(!ok))||zof lk op)=true
 ·rw [if_pos hbad,if_pos hbad]
  exact ⟨_,_,rfl,rfl,rfl⟩
 rw [if_neg hbad,if_neg hbad]
 simp only [Bool.or_eq_true,not_or,Bool.not_eq_true,Bool.not_eq_false',bne_eq_false_iff_eq] at hbad
 obtain ⟨⟨hk,rfl⟩,hlk⟩:=hbad
 have hn:j+1<Q.T.length:=hT.next j hj (by show (tk Q.T j).Kind≠4; omega)
 rw [w1 (show j<=2000010 by omega)]
 show ∃ok Q',(if ((op==10)||(op==11))=true then _ else _)=some (ok,Q')/\_
 by_cases ho:((op==10)||(op==11))=true
 ·rw [if_pos ho,if_pos ho]
  obtain ⟨ok,Q',en,hnm⟩:=zlv ⟨Q.T,((j+1:Nat):Int),Q.P,Q.zHd,Q.First,Q.To,Q.Left,Q.All,Q.Wait,Q.Bad⟩ hn rfl
  rw [en]
  simp only [Option.bind_some]
  cases hx:ziE Q.T (j+1) with
  | some f =>
   simp only [hx] at hnm
   obtain ⟨rfl,hf⟩:=hnm
   exact ⟨_,_,rfl,rfl,hf⟩
  | none =>
   simp only [hx] at hnm
   obtain ⟨rfl,rfl⟩:=hnm
   simp only [Bool.not_true,Bool.false_eq_true,if_false]
   rw [if_pos (zaO hn),zqI Q hq,ha,w1 (show j+1<=2000010 by omega)]
   exact ⟨_,_,rfl,rfl,rfl⟩
 rw [if_neg ho,if_neg ho]
 by_cases h9:decide (op<=9)=true
 ·rw [if_pos h9,if_pos h9]
  obtain ⟨ok2,Q2,x2,k1,k2,k3⟩:=ztS ⟨Q.T,((j+1:Nat):Int),Q.P,Q.zHd,Q.First,Q.To,Q.Left,Q.All,Q.Wait,Q.Bad⟩ ⟨op,lk,c,⟨0,0,0,0⟩,⟨0,0,0,0⟩,⟨#[]⟩,Q.Wait⟩ hT hn hs rfl
  rw [k1]
  simp only [Option.bind_some]
  cases hx:opsP Q.T Q.P.zSy op lk (j+1) with
  | inl f =>
   rw [show pos (opsP Q.T Q.P.zSy op lk (j+1))=.inl f by rw [hx]; rfl] at k2
   obtain ⟨rfl,e4⟩:=k2
   exact ⟨_,_,rfl,rfl,e4⟩
  | inr q =>
   obtain ⟨⟨a,b⟩,k⟩:=q
   rw [show pos (opsP Q.T Q.P.zSy op lk (j+1))=.inr k by rw [hx]; rfl] at k2
   obtain ⟨rfl,rfl⟩:=k2
   have e5:=k3 a b k hx
   subst e5
   simp only [Bool.not_true,Bool.false_eq_true,if_false]
   rw [zqI Q hq,ha]
   exact ⟨_,_,rfl,rfl,rfl⟩
 ·rw [if_neg h9,if_neg h9]
  rw [zqI Q hq,ha]
  exact ⟨_,_,rfl,rfl,rfl⟩
theorem ztT(Q:zab){D xs F G fs tg}(hq:Qat Q D xs F G fs tg){i:Nat}(hT:zdr Q.T)(hi:i<Q.T.length)(hs:Q.P.zSy.length<=64)(ha:Q.I=(i:Int)) :
  ∃ok Q',zc8 Q=some (ok,Q')/\zuz Q i D xs F G fs tg ok Q' (insP Q.T Q.P.zSy i):=by
 have hl:=hT.len
 unfold zc8 insP
 rw [ha,if_pos (zaO hi)]
 by_cases h1:((tk Q.T i).Kind != 1)=true
 ·rw [if_pos h1,if_pos h1]
  exact ⟨_,_,rfl,rfl,rfl⟩
 rw [if_neg h1,if_neg h1]
 have hn:i+1<Q.T.length:=hT.next i hi (by have:(tk Q.T i).Kind=1:=by simpa [bne] using h1
                                          show (tk Q.T i).Kind≠4; omega)
 by_cases h2:(tk Q.T i).Text=zt8
 ·have h2':decide ((tk Q.T i).Text=(⟨#[108,111,99,107]⟩:ByteArray))=true:=decide_eq_true h2
  rw [if_pos h2',if_pos h2,w1 (show i<=2000010 by omega),if_pos (zaO hn)]
  exact zoN Q hq true hT hn hs ha
 ·have h2':¬decide ((tk Q.T i).Text=(⟨#[108,111,99,107]⟩:ByteArray))=true:=fun e=>h2 (of_decide_eq_true e)
  rw [if_neg h2',if_neg h2]
  exact zoN Q hq false hT hi hs ha
end Go.Vs
end
section
namespace Go.Vs
local instance tabPalP8:Tab:=⟨fun _=>none⟩
structure Bd where
 head:zaa
 all:List ByteArray
 open_:List ByteArray
 zFi:List zaa
 zTg:List zaa
 ins:List zae
structure PSt where
 at_:Nat
 syms:List zam
 done:List Bd
 cur:Option Bd
def PSt.bs(S:PSt):List Bd:=S.done++S.cur.toList
def tmap(al:List ByteArray):List (ByteArray × Bool):=al.map fun s=>(s,true)
def toB(b:Bd):zaz:=⟨b.head,tmap b.all,b.open_,b.zFi,b.zTg⟩
def toTh(b:Bd):zad:=⟨b.ins⟩
def stB(T:List zaa)(S:PSt)(f:zak):zac:=⟨T,(S.at_:Int),⟨S.syms,S.bs.map toTh⟩,S.bs.map toB,f⟩
def stR(T:List zaa)(S:PSt)(f:zak):zab:=⟨T,(S.at_:Int),⟨S.syms,S.bs.map toTh⟩,S.bs.map (·.head),S.bs.map (·.zFi),S.bs.map (·.zTg),S.done.map (fun b=>(b.open_.length:Int)),(S.cur.map (·.all)).getD [],(S.cur.map (·.open_)).getD [],f⟩
def OutB(T:List zaa)(f:zak)(ok:Bool)(R':zac)(q:zak ⊕ PSt):Prop:=match q with
 | .inl g=>ok=false/\R'.f=g
 | .inr S=>ok=true/\R'=stB T S f
def OutR(T:List zaa)(f:zak)(ok:Bool)(Q':zab)(q:zak ⊕ PSt):Prop:=match q with
 | .inl g=>ok=false/\Q'.Bad=g
 | .inr S=>ok=true/\Q'=stR T S f
theorem zne(al:List ByteArray)(s:ByteArray):mixS (tmap al) s=fnd al s:=by
 unfold mixS tmap fnd
 rw [List.findIdx?_map]
 congr 1
 funext x
 simp [eq_comm]
theorem zo0(al:List ByteArray)(s:ByteArray):(mat (tmap al) (mixS (tmap al) s)).getD false=has al s:=by
 rw [zne]
 have h:=zmt (l:=al) (s:=s)
 cases hf:fnd al s with
 | none=>rw [hf] at h; rw [← h]; rfl
 | some i =>
  rw [hf] at h
  obtain ⟨h1,h2⟩:=znC hf
  rw [← h]
  simp only [mat,Option.bind_some,tmap,List.getElem?_map,h2,Option.map_some,Option.getD_some,Option.isSome_some]
theorem zsr{al:List ByteArray}{s:ByteArray}(h:has al s=false):mst (tmap al) (mixS (tmap al) s) s true=tmap (al++[s]):=by
 rw [zne]
 have h2:=zmt (l:=al) (s:=s)
 rw [h] at h2
 cases hf:fnd al s with
 | none=>simp [mst,tmap]
 | some i=>rw [hf] at h2; simp at h2
def zjP:ByteArray:=⟨#[58]⟩
def zkK(T:List zaa):Nat->Nat->List ByteArray->List ByteArray->zak ⊕ (Nat × List ByteArray × List ByteArray)
 | 0,i,al,op=>.inr (i,al,op)
 | n+1,i,al,op =>
  if ((tk T i).Kind==1)&&sgB T (i+1) zjP then
   if zgn (tk T i).Text then .inl (flt 3 (tk T i))
   else if has al (tk T i).Text then .inl (flt 6 (tk T i))
   else zkK T n (i+2) (al++[(tk T i).Text]) (op++[(tk T i).Text])
  else .inr (i,al,op)
theorem zg2{T:List zaa}(hT:zdr T):∀(n i:Nat) (al op:List ByteArray) {j al' op'},i<T.length->zkK T n i al op=.inr (j,al',op')->i<=j/\j<T.length/\(∃w,al'=al++w/\op'=op++w/\w.length<=j-i)
 | 0,i,al,op,j,al',op',hi,h=>by
  simp only [zkK,Sum.inr.injEq,Prod.mk.injEq] at h
  obtain ⟨rfl,rfl,rfl⟩:=h
  exact ⟨Nat.le_refl _,hi,[],by simp,by simp,by simp⟩
 | n+1,i,al,op,j,al',op',hi,h=>by
  unfold zkK at h
  split at h
  ·rename_i hc
   simp only [Bool.and_eq_true,beq_iff_eq] at hc
   have h1:i+1<T.length:=hT.next i hi (by show (tk T i).Kind≠4; omega)
   have h2:i+2<T.length:=hT.next (i+1) h1 (zfi hc.2)
   split at h
   ·cases h
   split at h
   ·cases h
   obtain ⟨e1,e2,w,e3,e4,e5⟩:=zg2 hT n _ _ _ h2 h
   exact ⟨by omega,e2,(tk T i).Text::w,by simp [e3],by simp [e4],by simp; omega⟩
  ·simp only [Sum.inr.injEq,Prod.mk.injEq] at h
   obtain ⟨rfl,rfl,rfl⟩:=h
   exact ⟨Nat.le_refl _,hi,[],by simp,by simp,by simp⟩
theorem zvt(p0:zac)(T:List zaa)(syms:List zam)(th:List zad)(D:List zaz)(hd:zaa)(fs tg:List zaa)(a b c:Int)(hT:zdr T)(hD:p0.b.length=D.length+1)(hD2:D.length<=64) :
  ∀(n i:Nat) (al op:List ByteArray),i<T.length->T.length-i<=n->op.length<=i->∃r,zaP (zcF p0) (T,(i:Int),syms,th,a,b,c,D++[⟨hd,tmap al,op,fs,tg⟩])=some r /\
   match zkK T n i al op with
   | .inl g=>∃R',r=.inr (false,R')/\R'.f=g
   | .inr (j,al',op')=>r=.inl (T,(j:Int),syms,th,a,b,c,D++[⟨hd,tmap al',op',fs,tg⟩])
 | 0,i,al,op,hi,hn,ho=>by omega
 | n+1,i,al,op,hi,hn,ho=>by
  have hl:=hT.len
  have ew:IntKind.wrap .i64 ((p0.b.length:Int)-1)=(D.length:Int):=by rw [hD]; exact zr1 (by omega)
  have hlen:D.length<(D++[(⟨hd,tmap al,op,fs,tg⟩:zaz)]).length:=by simp
  have step:zcF p0 (T,(i:Int),syms,th,a,b,c,D++[⟨hd,tmap al,op,fs,tg⟩])=
    if (((tk T i).Kind==1)&&sgB T (i+1) zjP)=true then
     (if zgn (tk T i).Text=true then some (.inr (.inr (false,⟨T,(i:Int),⟨syms,th⟩,D++[⟨hd,tmap al,op,fs,tg⟩],flt 3 (tk T i)⟩)))
      else if has al (tk T i).Text=true then some (.inr (.inr (false,⟨T,(i:Int),⟨syms,th⟩,D++[⟨hd,tmap al,op,fs,tg⟩],flt 6 (tk T i)⟩)))
      else some (.inl (T,((i+2:Nat):Int),syms,th,a,b,c,D++[⟨hd,tmap (al++[(tk T i).Text]),op++[(tk T i).Text],fs,tg⟩])))
    else some (.inr (.inl (T,(i:Int),syms,th,a,b,c,D++[⟨hd,tmap al,op,fs,tg⟩]))):=by
   simp only [zcF]
   rw [if_pos (zaO hi),w1 (show i<=2000010 by omega),ew]
   have hc:(if ((rd T (i:Int)).Kind==1)=true then za5 ⟨T,(i:Int),⟨syms,th⟩,D++[⟨hd,tmap al,op,fs,tg⟩],⟨a,b,c⟩⟩ ((i+1:Nat):Int) ⟨#[58]⟩ else some (false,⟨T,(i:Int),⟨syms,th⟩,D++[⟨hd,tmap al,op,fs,tg⟩],⟨a,b,c⟩⟩))=some (((tk T i).Kind==1)&&sgB T (i+1) zjP,⟨T,(i:Int),⟨syms,th⟩,D++[⟨hd,tmap al,op,fs,tg⟩],⟨a,b,c⟩⟩):=by
    by_cases h1:((tk T i).Kind==1)=true
    ·have h1n:i+1<T.length:=hT.next i hi (zed h1 (by decide))
     rw [if_pos h1,zgN (i+1) _ h1n,h1,Bool.true_and]; rfl
    ·have h1':((tk T i).Kind==1)=false:=by simpa using h1
     rw [if_neg h1,h1',Bool.false_and]
   rw [hc]
   simp only [Option.bind_some]
   have hm:((((rd T (i:Int)).Kind==1))&&(((tk T i).Kind==1)&&sgB T (i+1) zjP))=(((tk T i).Kind==1)&&sgB T (i+1) zjP):=by
    cases ((tk T i).Kind==1) <;> simp
   rw [hm]
   split
   ·rw [if_pos (zaO hi),zeJ]
    simp only [Option.bind_some]
    split
    ·rfl
    ·rw [if_pos (zd5 _ _),zhc]
     simp only
     rw [zo0]
     split
     ·rfl
     ·rename_i hh
      have hh':has al (tk T i).Text=false:=by simpa using hh
      rw [if_pos (zd5 _ _)]
      simp only [Int.toNat_natCast,zha]
      rw [if_pos (zd5 _ _),zhc]
      simp only
      rw [if_pos (zd1 (by omega)),zsr hh',w2 (show i<=2000010 by omega)]
   ·rfl
  unfold zkK
  by_cases hc:(((tk T i).Kind==1)&&sgB T (i+1) zjP)=true
  ·rw [if_pos hc] at step
   rw [if_pos hc]
   have hc':=hc
   simp only [Bool.and_eq_true,beq_iff_eq] at hc'
   have h1:i+1<T.length:=hT.next i hi (by show (tk T i).Kind≠4; omega)
   have h2:i+2<T.length:=hT.next (i+1) h1 (zfi hc'.2)
   by_cases hw:zgn (tk T i).Text=true
   ·rw [if_pos hw] at step
    rw [if_pos hw]
    exact ⟨_,zaH step,_,rfl,rfl⟩
   rw [if_neg hw] at step
   rw [if_neg hw]
   by_cases hh:has al (tk T i).Text=true
   ·rw [if_pos hh] at step
    rw [if_pos hh]
    exact ⟨_,zaH step,_,rfl,rfl⟩
   rw [if_neg hh] at step
   rw [if_neg hh,za4 step]
   exact zvt p0 T syms th D hd fs tg a b c hT hD hD2 n (i+2) _ _ h2 (by omega) (by simp; omega)
  ·rw [if_neg hc] at step
   rw [if_neg hc]
   exact ⟨_,zaH step,rfl⟩
theorem zu9(T:List zaa)(syms:List zam)(th:List zad)(hd:List zaa)(F G:List (List zaa))(lf:List Int)(a b c:Int)(hT:zdr T) :
  ∀(n i:Nat) (al op:List ByteArray),i<T.length->T.length-i<=n->op.length<=i->al.length<=i->∃r,zaP za9 (T,(i:Int),syms,th,hd,F,G,lf,al,op,a,b,c)=some r /\
   match zkK T n i al op with
   | .inl g=>∃Q',r=.inr (false,Q')/\Q'.Bad=g
   | .inr (j,al',op')=>r=.inl (T,(j:Int),syms,th,hd,F,G,lf,al',op',a,b,c)
 | 0,i,al,op,hi,hn,ho,hA=>by omega
 | n+1,i,al,op,hi,hn,ho,hA=>by
  have hl:=hT.len
  unfold zkK
  have hc0:(((rd T (i:Int)).Kind==1)=true->InB (((i+1:Nat):Int)) T.length):=fun h1=>zaO (hT.next i hi (zed h1 (by decide)))
  have hcc:((((rd T (i:Int)).Kind==1)&&((rd T ((i+1:Nat):Int)).Kind==3))&&decide ((rd T ((i+1:Nat):Int)).Text=(⟨#[58]⟩:ByteArray)))=(((tk T i).Kind==1)&&sgB T (i+1) zjP):=by
   unfold sgB; rw [Bool.and_assoc]; rfl
  have hin:∀k:Nat,k<T.length->InB (k:Int) T.length:=fun k=>zaO
  by_cases hc:(((tk T i).Kind==1)&&sgB T (i+1) zjP)=true
  ·rw [if_pos hc]
   have hc':=hc
   simp only [Bool.and_eq_true,beq_iff_eq] at hc'
   have h1:i+1<T.length:=hT.next i hi (by show (tk T i).Kind≠4; omega)
   have h2:i+2<T.length:=hT.next (i+1) h1 (zfi hc'.2)
   obtain ⟨ok,Q',en,hnm⟩:=zoM ⟨T,(i:Int),⟨syms,th⟩,hd,F,G,lf,al,op,⟨a,b,c⟩⟩ hi rfl
   have hk1:((tk T i).Kind != 1)=false:=by simp [bne,hc'.1]
   have hnp:ziE T i=if zgn (tk T i).Text then some (flt 3 (tk T i)) else none:=by
    unfold ziE; rw [if_neg (by rw [hk1]; decide)]
   by_cases hw:zgn (tk T i).Text=true
   ·rw [if_pos hw]
    rw [if_pos hw] at hnp
    simp only [hnp] at hnm
    obtain ⟨rfl,hf⟩:=hnm
    refine ⟨_,zaH (r:=.inr (false,Q')) ?_,_,rfl,hf⟩
    simp only [za9]
    rw [if_pos (zaO hi),w1 (show i<=2000010 by omega),if_pos hc0,if_pos (fun _=>zaO h1)]
    simp only [Option.bind_some]
    rw [hcc,if_pos hc,en]
    rfl
   rw [if_neg hw]
   rw [if_neg hw] at hnp
   simp only [hnp] at hnm
   obtain ⟨rfl,rfl⟩:=hnm
   have hix:zdR al (tk T i).Text=some (match fnd al (tk T i).Text with | some i=>(i:Int) | none=>-1):=zpR _ _ (by omega)
   have hfm:=zmt (l:=al) (s:=(tk T i).Text)
   by_cases hh:has al (tk T i).Text=true
   ·rw [if_pos hh]
    rw [hh] at hfm
    obtain ⟨k,hk⟩:=Option.isSome_iff_exists.1 hfm
    rw [hk] at hix
    refine ⟨_,zaH (r:=.inr (false,⟨T,(i:Int),⟨syms,th⟩,hd,F,G,lf,al,op,flt 6 (tk T i)⟩)) ?_,_,rfl,rfl⟩
    simp only [za9]
    rw [if_pos (zaO hi),w1 (show i<=2000010 by omega),if_pos hc0,if_pos (fun _=>zaO h1)]
    simp only [Option.bind_some]
    rw [hcc,if_pos hc,en]
    simp only [Option.bind_some,Bool.not_true,Bool.false_eq_true,if_false]
    rw [if_pos (zaO hi),hix]
    simp only [Option.bind_some]
    rw [if_pos (by simp),if_pos (zaO hi)]
    rfl
   rw [if_neg hh]
   have hh':has al (tk T i).Text=false:=by simpa using hh
   rw [hh'] at hfm
   have hk:fnd al (tk T i).Text=none:=by simpa using hfm
   rw [hk] at hix
   rw [za4 (a':=(T,((i+2:Nat):Int),syms,th,hd,F,G,lf,al++[(tk T i).Text],op++[(tk T i).Text],a,b,c)) ?_]
   ·exact zu9 T syms th hd F G lf a b c hT n (i+2) _ _ h2 (by omega) (by simp; omega) (by simp; omega)
   ·simp only [za9]
    rw [if_pos (zaO hi),w1 (show i<=2000010 by omega),if_pos hc0,if_pos (fun _=>zaO h1)]
    simp only [Option.bind_some]
    rw [hcc,if_pos hc,en]
    simp only [Option.bind_some,Bool.not_true,Bool.false_eq_true,if_false]
    rw [if_pos (zaO hi),hix]
    simp only [Option.bind_some]
    rw [if_neg (by decide),if_pos (zd1 (by omega)),if_pos (zd1 (by omega)),w2 (show i<=2000010 by omega)]
  ·rw [if_neg hc]
   refine ⟨_,zaH (r:=.inl (T,(i:Int),syms,th,hd,F,G,lf,al,op,a,b,c)) ?_,rfl⟩
   simp only [za9]
   rw [if_pos (zaO hi),w1 (show i<=2000010 by omega),if_pos hc0,if_pos (fun h=>hc0 (by simp only [Bool.and_eq_true] at h; exact h.1))]
   simp only [Option.bind_some]
   rw [hcc,if_neg hc]
end Go.Vs
end
