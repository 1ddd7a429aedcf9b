import Derived.Test.YtocjejladeeckaaDoorPP1
set_option linter.all false
section
namespace Go.Vs
local instance tabPalP6:Tab:=⟨fun _=>none⟩
def opW(s:ByteArray):Int × Int × Bool:=if s=⟨#[]⟩ then (0,0,false) else match fnd opsL s with | some i=>((i:Int)+1,0,true) | none=>match fnd zfM s with | some i=>(11,(i:Int)+1,true) | none=>(0,0,false)
theorem zmq{s:ByteArray}{op c:Int}(h:opW s=(op,c,true)):1<=op/\op<=14/\(op≠11->c=0):=by
 unfold opW at h
 split at h
 ·simp at h
 ·split at h
  ·rename_i i hi
   have:=(zje hi).1
   simp [opsL] at this
   simp only [Prod.mk.injEq,and_true] at h
   omega
  ·split at h
   ·simp only [Prod.mk.injEq,and_true] at h
    omega
   ·simp at h
def zpP:ByteArray:=⟨#[108,111,99,107]⟩
def zO:zav:=⟨0,0,0,0⟩
def zT:zab:=⟨0,0,0,⟨#[]⟩⟩
def zmI(lk:Bool)(op:Int):Bool:=(lk != (op==9))&&(!((lk&&decide (op≥2))&&decide (op<=6)))
def zim(T:List zab)(syms:List zau)(lk:Bool)(j:Nat):Res (zak × zab) :=
 match opW (tk T j).Text with
 | (op,c,ok) =>
  if (((tk T j).Kind != 1)||(!ok))||zmI lk op then .inl (flt 4 (tk T j))
  else if (op==10)||(op==11) then match nameP T (j+1) with
   | some f=>.inl f
   | none=>.inr ((⟨op,lk,c,zO,zO,(tk T (j+1)).Text,[]⟩,tk T (j+1)),j+2)
  else if decide (op<=9) then match opsP T syms op lk (j+1) with
   | .inl f=>.inl f
   | .inr ((a,b),k)=>.inr ((⟨op,lk,c,a,b,⟨#[]⟩,[]⟩,zT),k)
  else .inr ((⟨op,lk,c,zO,zO,⟨#[]⟩,[]⟩,zT),j+1)
def insP(T:List zab)(syms:List zau)(i:Nat):Res (zak × zab) :=
 if (tk T i).Kind != 1 then .inl (flt 4 (tk T i))
 else if (tk T i).Text=zpP then zim T syms true (i+1) else zim T syms false i
theorem zhH{T:List zab}{i:Nat}(h:nameP T i=none):(rd T (i:Int)).Kind=1:=by
 unfold nameP at h
 split at h
 ·cases h
 ·rename_i h1
  simpa [bne] using h1
theorem zhN{T syms lk j x k}(hT:zcx T)(hj:j<T.length)(h:zim T syms lk j=.inr (x,k)):j<k/\k<T.length/\((x.1.To≠⟨#[]⟩) ↔ (x.1.Op=10\/x.1.Op=11))/\x.1.zLb=[]:=by
 unfold zim at h
 rcases hw:opW (tk T j).Text with ⟨op,c,ok⟩
 rw [hw] at h
 simp only at h
 split at h
 ·cases h
 rename_i h1
 simp only [Bool.or_eq_true,not_or,Bool.not_eq_true,Bool.not_eq_false',bne_eq_false_iff_eq] at h1
 have hn:j+1<T.length:=hT.next j hj (by show (tk T j).Kind≠4; omega)
 split at h
 ·rename_i ho
  split at h
  ·cases h
  ·rename_i hnm
   have hk:=zhH hnm
   have hn2:j+2<T.length:=hT.next (j+1) hn (by rw [hk]; decide)
   cases h
   have hm:tk T (j+1)∈T:=by
    rw [show tk T (j+1)=T[j+1] from zfk (List.getElem?_eq_getElem hn)]
    exact List.getElem_mem hn
   refine ⟨by omega,hn2,⟨fun _=>by simpa using ho,fun _=>hT.name _ hm hk⟩,rfl⟩
 rename_i ho
 have ho':¬(op=10\/op=11):=by simpa using ho
 split at h
 ·split at h
  ·cases h
  ·rename_i a b k' hx
   obtain ⟨e1,e2⟩:=zmp hT hn hx
   cases h
   exact ⟨by omega,e2,⟨fun e=>absurd rfl e,fun e=>absurd e ho'⟩,rfl⟩
 ·cases h
  exact ⟨by omega,hn,⟨fun e=>absurd rfl e,fun e=>absurd e ho'⟩,rfl⟩
theorem zgY{T syms i x k}(hT:zcx T)(hi:i<T.length)(h:insP T syms i=.inr (x,k)):i<k/\k<T.length/\((x.1.To≠⟨#[]⟩) ↔ (x.1.Op=10\/x.1.Op=11))/\x.1.zLb=[]:=by
 unfold insP at h
 split at h
 ·cases h
 rename_i h1
 have hn:i+1<T.length:=hT.next i hi (by have:(tk T i).Kind=1:=by simpa [bne] using h1
                                        show (tk T i).Kind≠4; omega)
 split at h
 ·obtain ⟨a,b⟩:=zhN hT hn h
  exact ⟨by omega,b⟩
 ·exact zhN hT hi h
theorem zwd(s:ByteArray):zej s=some (opW s):=zfo s
theorem zfj{α:Type}[Inhabited α](D:List α)(c:α):rd (D++[c]) (D.length:Int)=c:=by
 apply zfk; simp
theorem zfv{α:Type}(D:List α)(c d:α):(D++[c]).set D.length d=D++[d]:=by
 rw [List.set_append_right _ _ (Nat.le_refl _)]; simp
theorem zcw{α:Type}(D:List α)(c:α):InB (D.length:Int) (D++[c]).length:=⟨by omega,by simp⟩
def zqb(R:zaa)(D:List zao)(h:zab)(lb:List (ByteArray × Bool))(o:List ByteArray)(fs tg:List zab)(x:zak)(ok:Bool)(R':zaa)(q:Res (zak × zab)):Prop:=match q with
 | .inl f=>ok=false/\R'.f=f
 | .inr ((y,t),j)=>ok=true/\x=y/\R'=⟨R.l,(j:Int),R.p,D++[⟨h,lb,o,fs,tg++[t]⟩],R.f⟩
theorem zjb(R:zaa)(D:List zao)(h:zab)(lb:List (ByteArray × Bool))(o:List ByteArray)(fs tg:List zab)(lk:Bool){j:Nat}(hT:zcx R.l)(hj:j<R.l.length)(hs:R.p.zSy.length<=64)(hb:R.b=D++[⟨h,lb,o,fs,tg++[zT]⟩])(htg:tg.length<=1000000) :
  ∃x ok R',zaR R (D.length:Int) (j:Int) lk (tk R.l j).Kind (tk R.l j).Line (tk R.l j).Col (tk R.l j).Text=some (x,ok,R')/\zqb R D h lb o fs tg x ok R' (zim R.l R.p.zSy lk j):=by
 have hl:=hT.len
 unfold zaR zim
 rw [zwd]
 simp only [Option.bind_some]
 rcases hw:opW (tk R.l j).Text with ⟨op,c,ok⟩
 simp only
 by_cases hbad:((((tk R.l j).Kind != 1)||(!ok))||zmI lk op)=true
 ·have hbad':=hbad
  unfold zmI at hbad'
  rw [if_pos hbad',if_pos hbad]
  exact ⟨_,_,_,rfl,rfl,rfl⟩
 have hbad':=hbad
 unfold zmI at hbad'
 rw [if_neg hbad',if_neg hbad]
 simp only [Bool.or_eq_true,not_or,Bool.not_eq_true,Bool.not_eq_false',bne_eq_false_iff_eq] at hbad
 obtain ⟨⟨hk,rfl⟩,hlk⟩:=hbad
 obtain ⟨hop1,hop2,hc⟩:=zmq hw
 have hn:j+1<R.l.length:=hT.next j hj (by show (tk R.l j).Kind≠4; omega)
 rw [w1 (show j<=2000010 by omega)]
 by_cases ho:((op==10)||(op==11))=true
 ·rw [if_pos ho,if_pos ho,if_pos (zbA hn),zct]
  unfold nameP
  by_cases h1:((tk R.l (j+1)).Kind != 1)=true
  ·rw [if_pos h1,if_pos h1]
   exact ⟨_,_,_,rfl,rfl,rfl⟩
  rw [if_neg h1,if_neg h1]
  simp only [Option.bind_some]
  cases hwd:zeD (tk R.l (j+1)).Text with
  | true=>exact ⟨_,_,_,rfl,rfl,rfl⟩
  | false =>
   simp only [Bool.false_eq_true,if_false]
   rw [hb,if_pos (zcw _ _),zfj]
   simp only
   have e1:IntKind.wrap .i64 (((tg++[zT]).length:Int)-1)=((tg.length:Nat):Int):=by
    rw [List.length_append,List.length_singleton,zbQ ⟨by omega,by omega⟩]; omega
   rw [e1,if_pos (zcw _ _),if_pos (zcw _ _),w1 (show j+1<=2000010 by omega)]
   simp only [Int.toNat_natCast,zfv]
   exact ⟨_,_,_,rfl,rfl,rfl,rfl⟩
 rw [if_neg ho,if_neg ho]
 by_cases h9:decide (op<=9)=true
 ·rw [if_pos h9,if_pos h9]
  have h9':op<=9:=by simpa using h9
  obtain ⟨ok2,R2,x2,k1,k2,k3⟩:=zol ⟨R.l,((j+1:Nat):Int),R.p,R.b,R.f⟩ ⟨op,lk,c,zO,zO,⟨#[]⟩,[]⟩ hT hn hs rfl hop1 h9' (hc (by omega)) rfl
  have k1':za6 ⟨R.l,((j+1:Nat):Int),R.p,R.b,R.f⟩ ⟨op,lk,c,⟨0,0,0,0⟩,⟨0,0,0,0⟩,⟨#[]⟩,[]⟩=some (x2,ok2,R2):=k1
  rw [k1']
  simp only [Option.bind_some]
  cases hx:opsP R.l R.p.zSy op lk (j+1) with
  | inl f =>
   rw [show pos (opsP R.l R.p.zSy op lk (j+1))=.inl f by rw [hx]; rfl] at k2
   obtain ⟨rfl,e4⟩:=k2
   exact ⟨_,_,_,rfl,rfl,e4⟩
  | inr q =>
   obtain ⟨⟨a,b⟩,k⟩:=q
   rw [show pos (opsP R.l R.p.zSy op lk (j+1))=.inr k by rw [hx]; rfl] at k2
   obtain ⟨rfl,rfl⟩:=k2
   have e5:=k3 a b k hx
   subst e5
   exact ⟨_,_,_,rfl,rfl,rfl,by rw [hb]⟩
 ·rw [if_neg h9,if_neg h9]
  exact ⟨_,_,_,rfl,rfl,rfl,by rw [hb]⟩
theorem zom(R:zaa)(D:List zao)(h:zab)(lb:List (ByteArray × Bool))(o:List ByteArray)(fs tg:List zab){i:Nat}(hT:zcx R.l)(hi:i<R.l.length)(hs:R.p.zSy.length<=64)(ha:R.at_=(i:Int))(hb:R.b=D++[⟨h,lb,o,fs,tg++[zT]⟩])(htg:tg.length<=1000000) :
  ∃x ok R',zaW R (D.length:Int)=some (x,ok,R')/\zqb R D h lb o fs tg x ok R' (insP R.l R.p.zSy i):=by
 have hl:=hT.len
 unfold zaW insP
 rw [ha,if_pos (by rw [hb]; exact zcw _ _),if_pos (zbA hi)]
 by_cases h1:((tk R.l i).Kind != 1)=true
 ·rw [if_pos h1,if_pos h1]
  exact ⟨_,_,_,rfl,rfl,rfl⟩
 rw [if_neg h1,if_neg h1]
 have hn:i+1<R.l.length:=hT.next i hi (by have:(tk R.l i).Kind=1:=by simpa [bne] using h1
                                          show (tk R.l i).Kind≠4; omega)
 by_cases h2:(tk R.l i).Text=zpP
 ·have h2':decide ((tk R.l i).Text=(⟨#[108,111,99,107]⟩:ByteArray))=true:=decide_eq_true h2
  rw [if_pos h2',if_pos h2,w1 (show i<=2000010 by omega),if_pos (zbA hn)]
  exact zjb R D h lb o fs tg true hT hn hs hb htg
 ·have h2':¬decide ((tk R.l i).Text=(⟨#[108,111,99,107]⟩:ByteArray))=true:=fun e=>h2 (of_decide_eq_true e)
  rw [if_neg h2',if_neg h2]
  exact zjb R D h lb o fs tg false hT hi hs hb htg
end Go.Vs
end
section
namespace Go.Vs
local instance tabPalP7:Tab:=⟨fun _=>none⟩
theorem zpl{n:Nat}(h:n<=1000000):IntKind.wrap .i64 (((n+1:Nat):Int)-1)=(n:Int):=by
 rw [zbQ ⟨by omega,by omega⟩]; omega
theorem zeS{n:Nat}(h:n<=2000000):Fits n:=by unfold Fits; omega
end Go.Vs
end
section
namespace Go.Vs
local instance tabPalP8:Tab:=⟨fun _=>none⟩
structure Bd where
 head:zab
 all:List ByteArray
 open_:List ByteArray
 zFi:List zab
 zTg:List zab
 ins:List zak
structure PSt where
 at_:Nat
 syms:List zau
 done:List Bd
 cur:Option Bd
def PSt.bs(S:PSt):List Bd:=S.done++S.cur.toList
def tmap(al:List ByteArray):List (ByteArray × Bool):=al.map fun s=>(s,true)
def toB(b:Bd):zao:=⟨b.head,tmap b.all,b.open_,b.zFi,b.zTg⟩
def toTh(b:Bd):zaj:=⟨b.ins⟩
def stB(T:List zab)(S:PSt)(f:zag):zaa:=⟨T,(S.at_:Int),⟨S.syms,S.bs.map toTh⟩,S.bs.map toB,f⟩
def OutB(T:List zab)(f:zag)(ok:Bool)(R':zaa)(q:zag ⊕ PSt):Prop:=match q with
 | .inl g=>ok=false/\R'.f=g
 | .inr S=>ok=true/\R'=stB T S f
theorem zi0(al:List ByteArray)(s:ByteArray):mixS (tmap al) s=fnd al s:=by
 unfold mixS tmap fnd
 rw [List.findIdx?_map]
 congr 1
 funext x
 simp [eq_comm]
theorem zkn(al:List ByteArray)(s:ByteArray):(mat (tmap al) (mixS (tmap al) s)).getD false=has al s:=by
 rw [zi0]
 have h:=zm9 (l:=al) (s:=s)
 cases hf:fnd al s with
 | none=>rw [hf] at h; rw [← h]; rfl
 | some i =>
  rw [hf] at h
  obtain ⟨h1,h2⟩:=zje hf
  rw [← h]
  simp only [mat,Option.bind_some,tmap,List.getElem?_map,h2,Option.map_some,Option.getD_some,Option.isSome_some]
theorem zob{al:List ByteArray}{s:ByteArray}(h:has al s=false):mst (tmap al) (mixS (tmap al) s) s true=tmap (al++[s]):=by
 rw [zi0]
 have h2:=zm9 (l:=al) (s:=s)
 rw [h] at h2
 cases hf:fnd al s with
 | none=>simp [mst,tmap]
 | some i=>rw [hf] at h2; simp at h2
def zg9:ByteArray:=⟨#[58]⟩
def zfL(T:List zab):Nat->Nat->List ByteArray->List ByteArray->zag ⊕ (Nat × List ByteArray × List ByteArray)
 | 0,i,al,op=>.inr (i,al,op)
 | n+1,i,al,op =>
  if ((tk T i).Kind==1)&&sgB T (i+1) zg9 then
   if zeD (tk T i).Text then .inl (flt 3 (tk T i))
   else if has al (tk T i).Text then .inl (flt 6 (tk T i))
   else zfL T n (i+2) (al++[(tk T i).Text]) (op++[(tk T i).Text])
  else .inr (i,al,op)
theorem ze0{T:List zab}(hT:zcx T):∀(n i:Nat) (al op:List ByteArray) {j al' op'},i<T.length->zfL T n i al op=.inr (j,al',op')->i<=j/\j<T.length/\(∃w,al'=al++w/\op'=op++w/\w.length<=j-i)
 | 0,i,al,op,j,al',op',hi,h=>by
  simp only [zfL,Sum.inr.injEq,Prod.mk.injEq] at h
  obtain ⟨rfl,rfl,rfl⟩:=h
  exact ⟨Nat.le_refl _,hi,[],by simp,by simp,by simp⟩
 | n+1,i,al,op,j,al',op',hi,h=>by
  unfold zfL at h
  split at h
  ·rename_i hc
   simp only [Bool.and_eq_true,beq_iff_eq] at hc
   have h1:i+1<T.length:=hT.next i hi (by show (tk T i).Kind≠4; omega)
   have h2:i+2<T.length:=hT.next (i+1) h1 (zdG hc.2)
   split at h
   ·cases h
   split at h
   ·cases h
   obtain ⟨e1,e2,w,e3,e4,e5⟩:=ze0 hT n _ _ _ h2 h
   exact ⟨by omega,e2,(tk T i).Text::w,by simp [e3],by simp [e4],by simp; omega⟩
  ·simp only [Sum.inr.injEq,Prod.mk.injEq] at h
   obtain ⟨rfl,rfl,rfl⟩:=h
   exact ⟨Nat.le_refl _,hi,[],by simp,by simp,by simp⟩
theorem zrt(p0:zaa)(T:List zab)(syms:List zau)(th:List zaj)(D:List zao)(hd:zab)(fs tg:List zab)(a b c:Int)(hT:zcx T)(hD:p0.b.length=D.length+1)(hD2:D.length<=64) :
  ∀(n i:Nat) (al op:List ByteArray),i<T.length->T.length-i<=n->op.length<=i->∃r,zbg (zby p0) (T,(i:Int),syms,th,a,b,c,D++[⟨hd,tmap al,op,fs,tg⟩])=some r /\
   match zfL T n i al op with
   | .inl g=>∃R',r=.inr (false,R')/\R'.f=g
   | .inr (j,al',op')=>r=.inl (T,(j:Int),syms,th,a,b,c,D++[⟨hd,tmap al',op',fs,tg⟩])
 | 0,i,al,op,hi,hn,ho=>by omega
 | n+1,i,al,op,hi,hn,ho=>by
  have hl:=hT.len
  have ew:IntKind.wrap .i64 ((p0.b.length:Int)-1)=(D.length:Int):=by rw [hD]; exact zpl (by omega)
  have hlen:D.length<(D++[(⟨hd,tmap al,op,fs,tg⟩:zao)]).length:=by simp
  have step:zby p0 (T,(i:Int),syms,th,a,b,c,D++[⟨hd,tmap al,op,fs,tg⟩])=
    if (((tk T i).Kind==1)&&sgB T (i+1) zg9)=true then
     (if zeD (tk T i).Text=true then some (.inr (.inr (false,⟨T,(i:Int),⟨syms,th⟩,D++[⟨hd,tmap al,op,fs,tg⟩],flt 3 (tk T i)⟩)))
      else if has al (tk T i).Text=true then some (.inr (.inr (false,⟨T,(i:Int),⟨syms,th⟩,D++[⟨hd,tmap al,op,fs,tg⟩],flt 6 (tk T i)⟩)))
      else some (.inl (T,((i+2:Nat):Int),syms,th,a,b,c,D++[⟨hd,tmap (al++[(tk T i).Text]),op++[(tk T i).Text],fs,tg⟩])))
    else some (.inr (.inl (T,(i:Int),syms,th,a,b,c,D++[⟨hd,tmap al,op,fs,tg⟩]))):=by
   simp only [zby]
   rw [if_pos (zbA hi),w1 (show i<=2000010 by omega),ew]
   have hc:(if ((rd T (i:Int)).Kind==1)=true then zaH ⟨T,(i:Int),⟨syms,th⟩,D++[⟨hd,tmap al,op,fs,tg⟩],⟨a,b,c⟩⟩ ((i+1:Nat):Int) ⟨#[58]⟩ else some (false,⟨T,(i:Int),⟨syms,th⟩,D++[⟨hd,tmap al,op,fs,tg⟩],⟨a,b,c⟩⟩))=some (((tk T i).Kind==1)&&sgB T (i+1) zg9,⟨T,(i:Int),⟨syms,th⟩,D++[⟨hd,tmap al,op,fs,tg⟩],⟨a,b,c⟩⟩):=by
    by_cases h1:((tk T i).Kind==1)=true
    ·have h1n:i+1<T.length:=hT.next i hi (zc1 h1 (by decide))
     rw [if_pos h1,zdU (i+1) _ h1n,h1,Bool.true_and]; rfl
    ·have h1':((tk T i).Kind==1)=false:=by simpa using h1
     rw [if_neg h1,h1',Bool.false_and]
   rw [hc]
   simp only [Option.bind_some]
   have hm:((((rd T (i:Int)).Kind==1))&&(((tk T i).Kind==1)&&sgB T (i+1) zg9))=(((tk T i).Kind==1)&&sgB T (i+1) zg9):=by
    cases ((tk T i).Kind==1) <;> simp
   rw [hm]
   split
   ·rw [if_pos (zbA hi),zct]
    simp only [Option.bind_some]
    split
    ·rfl
    ·rw [if_pos (zcw _ _),zfj]
     simp only
     rw [zkn]
     split
     ·rfl
     ·rename_i hh
      have hh':has al (tk T i).Text=false:=by simpa using hh
      rw [if_pos (zcw _ _)]
      simp only [Int.toNat_natCast,zfv]
      rw [if_pos (zcw _ _),zfj]
      simp only
      rw [if_pos (zeS (by omega)),zob hh',w2 (show i<=2000010 by omega)]
   ·rfl
  unfold zfL
  by_cases hc:(((tk T i).Kind==1)&&sgB T (i+1) zg9)=true
  ·rw [if_pos hc] at step
   rw [if_pos hc]
   have hc':=hc
   simp only [Bool.and_eq_true,beq_iff_eq] at hc'
   have h1:i+1<T.length:=hT.next i hi (by show (tk T i).Kind≠4; omega)
   have h2:i+2<T.length:=hT.next (i+1) h1 (zdG hc'.2)
   by_cases hw:zeD (tk T i).Text=true
   ·rw [if_pos hw] at step
    rw [if_pos hw]
    exact ⟨_,zaG step,_,rfl,rfl⟩
   rw [if_neg hw] at step
   rw [if_neg hw]
   by_cases hh:has al (tk T i).Text=true
   ·rw [if_pos hh] at step
    rw [if_pos hh]
    exact ⟨_,zaG step,_,rfl,rfl⟩
   rw [if_neg hh] at step
   rw [if_neg hh,zbu step]
   exact zrt p0 T syms th D hd fs tg a b c hT hD hD2 n (i+2) _ _ h2 (by omega) (by simp; omega)
  ·rw [if_neg hc] at step
   rw [if_neg hc]
   exact ⟨_,zaG step,rfl⟩
end Go.Vs
end
