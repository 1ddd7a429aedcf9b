import Derived.Test.YtocjejladeeckaaGreatDoorPP1
set_option linter.all false
section
namespace Go.Vs
local instance tabPalP6:Tab:=⟨fun _=>none⟩
def opW(s:ByteArray):Int × Int × Bool:=if s=⟨#[]⟩ then (0,0,false) else match fnd opsL s with | some i=>((i:Int)+1,0,true) | none=>match fnd zfr s with | some i=>(11,(i:Int)+1,true) | none=>(0,0,false)
theorem zmM{s:ByteArray}{op c:Int}(h:opW s=(op,c,true)):1<=op/\op<=14/\(op≠11->c=0):=by
 unfold opW at h
 split at h
 ·simp at h
 ·split at h
  ·rename_i i hi
   have:=(zng hi).1
   simp [opsL] at this
   simp only [Prod.mk.injEq,and_true] at h
   omega
  ·split at h
   ·simp only [Prod.mk.injEq,and_true] at h
    omega
   ·simp at h
def zpp:ByteArray:=⟨#[108,111,99,107]⟩
def zO:zak:=⟨0,0,0,0⟩
def zT:zaa:=⟨0,0,0,⟨#[]⟩⟩
def zlV(lk:Bool)(op:Int):Bool:=(lk != (op==9))&&(!((lk&&decide (op≥2))&&decide (op<=6)))
def zi3(T:List zaa)(syms:List zan)(lk:Bool)(j:Nat):Res (zad × zaa) :=
 match opW (tk T j).Text with
 | (op,c,ok) =>
  if (((tk T j).Kind != 1)||(!ok))||zlV lk op then .inl (flt 4 (tk T j))
  else if (op==10)||(op==11) then match nameP T (j+1) with
   | some f=>.inl f
   | none=>.inr ((⟨op,lk,c,zO,zO,(tk T (j+1)).Text,[]⟩,tk T (j+1)),j+2)
  else if decide (op<=9) then match opsP T syms op lk (j+1) with
   | .inl f=>.inl f
   | .inr ((a,b),k)=>.inr ((⟨op,lk,c,a,b,⟨#[]⟩,[]⟩,zT),k)
  else .inr ((⟨op,lk,c,zO,zO,⟨#[]⟩,[]⟩,zT),j+1)
def insP(T:List zaa)(syms:List zan)(i:Nat):Res (zad × zaa) :=
 if (tk T i).Kind != 1 then .inl (flt 4 (tk T i))
 else if (tk T i).Text=zpp then zi3 T syms true (i+1) else zi3 T syms false i
theorem ziZ{T:List zaa}{i:Nat}(h:nameP T i=none):(rd T (i:Int)).Kind=1:=by
 unfold nameP at h
 split at h
 ·cases h
 ·rename_i h1
  simpa [bne] using h1
theorem zlm{T syms lk j x k}(hT:zdt T)(hj:j<T.length)(h:zi3 T syms lk j=.inr (x,k)):j<k/\k<T.length/\((x.1.To≠⟨#[]⟩) ↔ (x.1.Op=10\/x.1.Op=11))/\x.1.zLb=[]:=by
 unfold zi3 at h
 rcases hw:opW (tk T j).Text with ⟨op,c,ok⟩
 rw [hw] at h
 simp only at h
 split at h
 ·cases h
 rename_i h1
 simp only [Bool.or_eq_true,not_or,Bool.not_eq_true,Bool.not_eq_false',bne_eq_false_iff_eq] at h1
 have hn:j+1<T.length:=hT.next j hj (by show (tk T j).Kind≠4; omega)
 split at h
 ·rename_i ho
  split at h
  ·cases h
  ·rename_i hnm
   have hk:=ziZ hnm
   have hn2:j+2<T.length:=hT.next (j+1) hn (by rw [hk]; decide)
   cases h
   have hm:tk T (j+1)∈T:=by
    rw [show tk T (j+1)=T[j+1] from zci (List.getElem?_eq_getElem hn)]
    exact List.getElem_mem hn
   refine ⟨by omega,hn2,⟨fun _=>by simpa using ho,fun _=>hT.name _ hm hk⟩,rfl⟩
 rename_i ho
 have ho':¬(op=10\/op=11):=by simpa using ho
 split at h
 ·split at h
  ·cases h
  ·rename_i a b k' hx
   obtain ⟨e1,e2⟩:=zqu hT hn hx
   cases h
   exact ⟨by omega,e2,⟨fun e=>absurd rfl e,fun e=>absurd e ho'⟩,rfl⟩
 ·cases h
  exact ⟨by omega,hn,⟨fun e=>absurd rfl e,fun e=>absurd e ho'⟩,rfl⟩
theorem ziB{T syms i x k}(hT:zdt T)(hi:i<T.length)(h:insP T syms i=.inr (x,k)):i<k/\k<T.length/\((x.1.To≠⟨#[]⟩) ↔ (x.1.Op=10\/x.1.Op=11))/\x.1.zLb=[]:=by
 unfold insP at h
 split at h
 ·cases h
 rename_i h1
 have hn:i+1<T.length:=hT.next i hi (by have:(tk T i).Kind=1:=by simpa [bne] using h1
                                        show (tk T i).Kind≠4; omega)
 split at h
 ·obtain ⟨a,b⟩:=zlm hT hn h
  exact ⟨by omega,b⟩
 ·exact zlm hT hi h
theorem zyG(s:ByteArray):zgx s=some (opW s):=zh3 s
theorem zhV{α:Type}[Inhabited α](D:List α)(c:α):rd (D++[c]) (D.length:Int)=c:=by
 apply zci; simp
theorem zic{α:Type}(D:List α)(c d:α):(D++[c]).set D.length d=D++[d]:=by
 rw [List.set_append_right _ _ (Nat.le_refl _)]; simp
theorem zdT{α:Type}(D:List α)(c:α):InB (D.length:Int) (D++[c]).length:=⟨by omega,by simp⟩
def ztZ(R:zab)(D:List zat)(h:zaa)(lb:List (ByteArray × Bool))(o:List ByteArray)(fs tg:List zaa)(x:zad)(ok:Bool)(R':zab)(q:Res (zad × zaa)):Prop:=match q with
 | .inl f=>ok=false/\R'.f=f
 | .inr ((y,t),j)=>ok=true/\x=y/\R'=⟨R.l,(j:Int),R.p,D++[⟨h,lb,o,fs,tg++[t]⟩],R.f⟩
theorem znc(R:zab)(D:List zat)(h:zaa)(lb:List (ByteArray × Bool))(o:List ByteArray)(fs tg:List zaa)(lk:Bool){j:Nat}(hT:zdt R.l)(hj:j<R.l.length)(hs:R.p.zSy.length<=64)(hb:R.b=D++[⟨h,lb,o,fs,tg++[zT]⟩])(htg:tg.length<=1000000) :
  ∃x ok R',zaV R (D.length:Int) (j:Int) lk (tk R.l j).Kind (tk R.l j).Line (tk R.l j).Col (tk R.l j).Text=some (x,ok,R')/\ztZ R D h lb o fs tg x ok R' (zi3 R.l R.p.zSy lk j):=by
 have hl:=hT.len
 unfold zaV zi3
 rw [zyG]
 simp only [Option.bind_some]
 rcases hw:opW (tk R.l j).Text with ⟨op,c,ok⟩
 simp only
 by_cases hbad:((((tk R.l j).Kind != 1)||(!ok))||zlV lk op)=true
 ·have hbad':=hbad
  unfold zlV at hbad'
  rw [if_pos hbad',if_pos hbad]
  exact ⟨_,_,_,rfl,rfl,rfl⟩
 have hbad':=hbad
 unfold zlV at hbad'
 rw [if_neg hbad',if_neg hbad]
 simp only [Bool.or_eq_true,not_or,Bool.not_eq_true,Bool.not_eq_false',bne_eq_false_iff_eq] at hbad
 obtain ⟨⟨hk,rfl⟩,hlk⟩:=hbad
 obtain ⟨hop1,hop2,hc⟩:=zmM hw
 have hn:j+1<R.l.length:=hT.next j hj (by show (tk R.l j).Kind≠4; omega)
 rw [w1 (show j<=2000010 by omega)]
 by_cases ho:((op==10)||(op==11))=true
 ·rw [if_pos ho,if_pos ho,if_pos (zbV hn),zdO]
  unfold nameP
  by_cases h1:((tk R.l (j+1)).Kind != 1)=true
  ·rw [if_pos h1,if_pos h1]
   exact ⟨_,_,_,rfl,rfl,rfl⟩
  rw [if_neg h1,if_neg h1]
  simp only [Option.bind_some]
  cases hwd:ze3 (tk R.l (j+1)).Text with
  | true=>exact ⟨_,_,_,rfl,rfl,rfl⟩
  | false =>
   simp only [Bool.false_eq_true,if_false]
   rw [hb,if_pos (zdT _ _),zhV]
   simp only
   have e1:IntKind.wrap .i64 (((tg++[zT]).length:Int)-1)=((tg.length:Nat):Int):=by
    rw [List.length_append,List.length_singleton,zbG ⟨by omega,by omega⟩]; omega
   rw [e1,if_pos (zdT _ _),if_pos (zdT _ _),w1 (show j+1<=2000010 by omega)]
   simp only [Int.toNat_natCast,zic]
   exact ⟨_,_,_,rfl,rfl,rfl,rfl⟩
 rw [if_neg ho,if_neg ho]
 by_cases h9:decide (op<=9)=true
 ·rw [if_pos h9,if_pos h9]
  have h9':op<=9:=by simpa using h9
  obtain ⟨ok2,R2,x2,k1,k2,k3⟩:=zsc ⟨R.l,((j+1:Nat):Int),R.p,R.b,R.f⟩ ⟨op,lk,c,zO,zO,⟨#[]⟩,[]⟩ hT hn hs rfl hop1 h9' (hc (by omega)) rfl
  have k1':zbe ⟨R.l,((j+1:Nat):Int),R.p,R.b,R.f⟩ ⟨op,lk,c,⟨0,0,0,0⟩,⟨0,0,0,0⟩,⟨#[]⟩,[]⟩=some (x2,ok2,R2):=k1
  rw [k1']
  simp only [Option.bind_some]
  cases hx:opsP R.l R.p.zSy op lk (j+1) with
  | inl f =>
   rw [show pos (opsP R.l R.p.zSy op lk (j+1))=.inl f by rw [hx]; rfl] at k2
   obtain ⟨rfl,e4⟩:=k2
   exact ⟨_,_,_,rfl,rfl,e4⟩
  | inr q =>
   obtain ⟨⟨a,b⟩,k⟩:=q
   rw [show pos (opsP R.l R.p.zSy op lk (j+1))=.inr k by rw [hx]; rfl] at k2
   obtain ⟨rfl,rfl⟩:=k2
   have e5:=k3 a b k hx
   subst e5
   exact ⟨_,_,_,rfl,rfl,rfl,by rw [hb]⟩
 ·rw [if_neg h9,if_neg h9]
  exact ⟨_,_,_,rfl,rfl,rfl,by rw [hb]⟩
theorem zsd(R:zab)(D:List zat)(h:zaa)(lb:List (ByteArray × Bool))(o:List ByteArray)(fs tg:List zaa){i:Nat}(hT:zdt R.l)(hi:i<R.l.length)(hs:R.p.zSy.length<=64)(ha:R.at_=(i:Int))(hb:R.b=D++[⟨h,lb,o,fs,tg++[zT]⟩])(htg:tg.length<=1000000) :
  ∃x ok R',zaZ R (D.length:Int)=some (x,ok,R')/\ztZ R D h lb o fs tg x ok R' (insP R.l R.p.zSy i):=by
 have hl:=hT.len
 unfold zaZ insP
 rw [ha,if_pos (by rw [hb]; exact zdT _ _),if_pos (zbV hi)]
 by_cases h1:((tk R.l i).Kind != 1)=true
 ·rw [if_pos h1,if_pos h1]
  exact ⟨_,_,_,rfl,rfl,rfl⟩
 rw [if_neg h1,if_neg h1]
 have hn:i+1<R.l.length:=hT.next i hi (by have:(tk R.l i).Kind=1:=by simpa [bne] using h1
                                          show (tk R.l i).Kind≠4; omega)
 by_cases h2:(tk R.l i).Text=zpp
 ·have h2':decide ((tk R.l i).Text=(⟨#[108,111,99,107]⟩:ByteArray))=true:=decide_eq_true h2
  rw [if_pos h2',if_pos h2,w1 (show i<=2000010 by omega),if_pos (zbV hn)]
  exact znc R D h lb o fs tg true hT hn hs hb htg
 ·have h2':¬decide ((tk R.l i).Text=(⟨#[108,111,99,107]⟩:ByteArray))=true:=fun e=>h2 (of_decide_eq_true e)
  rw [if_neg h2',if_neg h2]
  exact znc R D h lb o fs tg false hT hi hs hb htg
end Go.Vs
end
section
namespace Go.Vs
local instance tabPalP7:Tab:=⟨fun _=>none⟩
theorem zsY{n:Nat}(h:n<=1000000):IntKind.wrap .i64 (((n+1:Nat):Int)-1)=(n:Int):=by
 rw [zbG ⟨by omega,by omega⟩]; omega
theorem zhe{n:Nat}(h:n<=2000000):Fits n:=by unfold Fits; omega
structure Qat (Q:zac) (D:List zae) (xs:List zad) (F G:List (List zaa)) (fs tg:List zaa):Prop where
 th:Q.P.zTh=D++[⟨xs⟩]
 fi:Q.First=F++[fs]
 to:Q.To=G++[tg]
 lf:F.length=D.length
 lg:G.length=D.length
 n:D.length<=64
 nx:xs.length<=1000000
 nf:fs.length<=1000000
 nt:tg.length<=1000000
def zzQ(Q:zac)(i0:Nat)(D:List zae)(xs:List zad)(F G:List (List zaa))(fs tg:List zaa)(ok:Bool)(Q':zac)(q:Res (zad × zaa)):Prop:=match q with
 | .inl f=>ok=false/\Q'.Bad=f
 | .inr ((y,t),j)=>ok=true/\Q'=⟨Q.T,(j:Int),⟨Q.P.zSy,D++[⟨xs++[⟨y.Op,y.Lock,y.Cond,y.A,y.B,y.To,Q.Wait⟩]⟩]⟩,Q.zHd,F++[fs++[tk Q.T i0]],G++[tg++[t]],Q.Left,Q.All,[],Q.Bad⟩
end Go.Vs
end
section
namespace Go.Vs
local instance tabPalP8:Tab:=⟨fun _=>none⟩
structure Bd where
 head:zaa
 all:List ByteArray
 open_:List ByteArray
 zFi:List zaa
 zTg:List zaa
 ins:List zad
structure PSt where
 at_:Nat
 syms:List zan
 done:List Bd
 cur:Option Bd
def PSt.bs(S:PSt):List Bd:=S.done++S.cur.toList
def tmap(al:List ByteArray):List (ByteArray × Bool):=al.map fun s=>(s,true)
def toB(b:Bd):zat:=⟨b.head,tmap b.all,b.open_,b.zFi,b.zTg⟩
def toTh(b:Bd):zae:=⟨b.ins⟩
def stB(T:List zaa)(S:PSt)(f:zai):zab:=⟨T,(S.at_:Int),⟨S.syms,S.bs.map toTh⟩,S.bs.map toB,f⟩
def stR(T:List zaa)(S:PSt)(f:zai):zac:=⟨T,(S.at_:Int),⟨S.syms,S.bs.map toTh⟩,S.bs.map (·.head),S.bs.map (·.zFi),S.bs.map (·.zTg),S.done.map (fun b=>(b.open_.length:Int)),(S.cur.map (·.all)).getD [],(S.cur.map (·.open_)).getD [],f⟩
def OutB(T:List zaa)(f:zai)(ok:Bool)(R':zab)(q:zai ⊕ PSt):Prop:=match q with
 | .inl g=>ok=false/\R'.f=g
 | .inr S=>ok=true/\R'=stB T S f
def OutR(T:List zaa)(f:zai)(ok:Bool)(Q':zac)(q:zai ⊕ PSt):Prop:=match q with
 | .inl g=>ok=false/\Q'.Bad=g
 | .inr S=>ok=true/\Q'=stR T S f
theorem zmQ(al:List ByteArray)(s:ByteArray):mixS (tmap al) s=fnd al s:=by
 unfold mixS tmap fnd
 rw [List.findIdx?_map]
 congr 1
 funext x
 simp [eq_comm]
theorem zov(al:List ByteArray)(s:ByteArray):(mat (tmap al) (mixS (tmap al) s)).getD false=has al s:=by
 rw [zmQ]
 have h:=znX (l:=al) (s:=s)
 cases hf:fnd al s with
 | none=>rw [hf] at h; rw [← h]; rfl
 | some i =>
  rw [hf] at h
  obtain ⟨h1,h2⟩:=zng hf
  rw [← h]
  simp only [mat,Option.bind_some,tmap,List.getElem?_map,h2,Option.map_some,Option.getD_some,Option.isSome_some]
theorem zrY{al:List ByteArray}{s:ByteArray}(h:has al s=false):mst (tmap al) (mixS (tmap al) s) s true=tmap (al++[s]):=by
 rw [zmQ]
 have h2:=znX (l:=al) (s:=s)
 rw [h] at h2
 cases hf:fnd al s with
 | none=>simp [mst,tmap]
 | some i=>rw [hf] at h2; simp at h2
def zky:ByteArray:=⟨#[58]⟩
def zeX(T:List zaa):Nat->Nat->List ByteArray->List ByteArray->zai ⊕ (Nat × List ByteArray × List ByteArray)
 | 0,i,al,op=>.inr (i,al,op)
 | n+1,i,al,op =>
  if ((tk T i).Kind==1)&&sgB T (i+1) zky then
   if ze3 (tk T i).Text then .inl (flt 3 (tk T i))
   else if has al (tk T i).Text then .inl (flt 6 (tk T i))
   else zeX T n (i+2) (al++[(tk T i).Text]) (op++[(tk T i).Text])
  else .inr (i,al,op)
theorem zgi{T:List zaa}(hT:zdt T):∀(n i:Nat) (al op:List ByteArray) {j al' op'},i<T.length->zeX T n i al op=.inr (j,al',op')->i<=j/\j<T.length/\(∃w,al'=al++w/\op'=op++w/\w.length<=j-i)
 | 0,i,al,op,j,al',op',hi,h=>by
  simp only [zeX,Sum.inr.injEq,Prod.mk.injEq] at h
  obtain ⟨rfl,rfl,rfl⟩:=h
  exact ⟨Nat.le_refl _,hi,[],by simp,by simp,by simp⟩
 | n+1,i,al,op,j,al',op',hi,h=>by
  unfold zeX at h
  split at h
  ·rename_i hc
   simp only [Bool.and_eq_true,beq_iff_eq] at hc
   have h1:i+1<T.length:=hT.next i hi (by show (tk T i).Kind≠4; omega)
   have h2:i+2<T.length:=hT.next (i+1) h1 (zfF hc.2)
   split at h
   ·cases h
   split at h
   ·cases h
   obtain ⟨e1,e2,w,e3,e4,e5⟩:=zgi hT n _ _ _ h2 h
   exact ⟨by omega,e2,(tk T i).Text::w,by simp [e3],by simp [e4],by simp; omega⟩
  ·simp only [Sum.inr.injEq,Prod.mk.injEq] at h
   obtain ⟨rfl,rfl,rfl⟩:=h
   exact ⟨Nat.le_refl _,hi,[],by simp,by simp,by simp⟩
theorem zvm(p0:zab)(T:List zaa)(syms:List zan)(th:List zae)(D:List zat)(hd:zaa)(fs tg:List zaa)(a b c:Int)(hT:zdt T)(hD:p0.b.length=D.length+1)(hD2:D.length<=64) :
  ∀(n i:Nat) (al op:List ByteArray),i<T.length->T.length-i<=n->op.length<=i->∃r,zaL (zbY p0) (T,(i:Int),syms,th,a,b,c,D++[⟨hd,tmap al,op,fs,tg⟩])=some r /\
   match zeX T n i al op with
   | .inl g=>∃R',r=.inr (false,R')/\R'.f=g
   | .inr (j,al',op')=>r=.inl (T,(j:Int),syms,th,a,b,c,D++[⟨hd,tmap al',op',fs,tg⟩])
 | 0,i,al,op,hi,hn,ho=>by omega
 | n+1,i,al,op,hi,hn,ho=>by
  have hl:=hT.len
  have ew:IntKind.wrap .i64 ((p0.b.length:Int)-1)=(D.length:Int):=by rw [hD]; exact zsY (by omega)
  have hlen:D.length<(D++[(⟨hd,tmap al,op,fs,tg⟩:zat)]).length:=by simp
  have step:zbY p0 (T,(i:Int),syms,th,a,b,c,D++[⟨hd,tmap al,op,fs,tg⟩])=
    if (((tk T i).Kind==1)&&sgB T (i+1) zky)=true then
     (if ze3 (tk T i).Text=true then some (.inr (.inr (false,⟨T,(i:Int),⟨syms,th⟩,D++[⟨hd,tmap al,op,fs,tg⟩],flt 3 (tk T i)⟩)))
      else if has al (tk T i).Text=true then some (.inr (.inr (false,⟨T,(i:Int),⟨syms,th⟩,D++[⟨hd,tmap al,op,fs,tg⟩],flt 6 (tk T i)⟩)))
      else some (.inl (T,((i+2:Nat):Int),syms,th,a,b,c,D++[⟨hd,tmap (al++[(tk T i).Text]),op++[(tk T i).Text],fs,tg⟩])))
    else some (.inr (.inl (T,(i:Int),syms,th,a,b,c,D++[⟨hd,tmap al,op,fs,tg⟩]))):=by
   simp only [zbY]
   rw [if_pos (zbV hi),w1 (show i<=2000010 by omega),ew]
   have hc:(if ((rd T (i:Int)).Kind==1)=true then zaO ⟨T,(i:Int),⟨syms,th⟩,D++[⟨hd,tmap al,op,fs,tg⟩],⟨a,b,c⟩⟩ ((i+1:Nat):Int) ⟨#[58]⟩ else some (false,⟨T,(i:Int),⟨syms,th⟩,D++[⟨hd,tmap al,op,fs,tg⟩],⟨a,b,c⟩⟩))=some (((tk T i).Kind==1)&&sgB T (i+1) zky,⟨T,(i:Int),⟨syms,th⟩,D++[⟨hd,tmap al,op,fs,tg⟩],⟨a,b,c⟩⟩):=by
    by_cases h1:((tk T i).Kind==1)=true
    ·have h1n:i+1<T.length:=hT.next i hi (zet h1 (by decide))
     rw [if_pos h1,zf2 (i+1) _ h1n,h1,Bool.true_and]; rfl
    ·have h1':((tk T i).Kind==1)=false:=by simpa using h1
     rw [if_neg h1,h1',Bool.false_and]
   rw [hc]
   simp only [Option.bind_some]
   have hm:((((rd T (i:Int)).Kind==1))&&(((tk T i).Kind==1)&&sgB T (i+1) zky))=(((tk T i).Kind==1)&&sgB T (i+1) zky):=by
    cases ((tk T i).Kind==1) <;> simp
   rw [hm]
   split
   ·rw [if_pos (zbV hi),zdO]
    simp only [Option.bind_some]
    split
    ·rfl
    ·rw [if_pos (zdT _ _),zhV]
     simp only
     rw [zov]
     split
     ·rfl
     ·rename_i hh
      have hh':has al (tk T i).Text=false:=by simpa using hh
      rw [if_pos (zdT _ _)]
      simp only [Int.toNat_natCast,zic]
      rw [if_pos (zdT _ _),zhV]
      simp only
      rw [if_pos (zhe (by omega)),zrY hh',w2 (show i<=2000010 by omega)]
   ·rfl
  unfold zeX
  by_cases hc:(((tk T i).Kind==1)&&sgB T (i+1) zky)=true
  ·rw [if_pos hc] at step
   rw [if_pos hc]
   have hc':=hc
   simp only [Bool.and_eq_true,beq_iff_eq] at hc'
   have h1:i+1<T.length:=hT.next i hi (by show (tk T i).Kind≠4; omega)
   have h2:i+2<T.length:=hT.next (i+1) h1 (zfF hc'.2)
   by_cases hw:ze3 (tk T i).Text=true
   ·rw [if_pos hw] at step
    rw [if_pos hw]
    exact ⟨_,zaJ step,_,rfl,rfl⟩
   rw [if_neg hw] at step
   rw [if_neg hw]
   by_cases hh:has al (tk T i).Text=true
   ·rw [if_pos hh] at step
    rw [if_pos hh]
    exact ⟨_,zaJ step,_,rfl,rfl⟩
   rw [if_neg hh] at step
   rw [if_neg hh,zbg step]
   exact zvm p0 T syms th D hd fs tg a b c hT hD hD2 n (i+2) _ _ h2 (by omega) (by simp; omega)
  ·rw [if_neg hc] at step
   rw [if_neg hc]
   exact ⟨_,zaJ step,rfl⟩
end Go.Vs
end
