import Derived.Test.YtkgpofmbegonfaaGreatDoorPP1
set_option linter.all false
section
namespace Go.Vs
local instance tabPalP6:Tab:=⟨fun _=>none⟩
def opW(s:ByteArray):Int × Int × Bool:=if s=⟨#[]⟩ then (0,0,false) else match fnd opsL s with | some i=>((i:Int)+1,0,true) | none=>match fnd zfX s with | some i=>(11,(i:Int)+1,true) | none=>(0,0,false)
theorem zmG{s:ByteArray}{op c:Int}(h:opW s=(op,c,true)):1<=op/\op<=14/\(op≠11->c=0):=by
 unfold opW at h
 split at h
 ·simp at h
 ·split at h
  ·rename_i i hi
   have:=(zjy hi).1
   simp [opsL] at this
   simp only [Prod.mk.injEq,and_true] at h
   omega
  ·split at h
   ·simp only [Prod.mk.injEq,and_true] at h
    omega
   ·simp at h
def zrL:ByteArray:=⟨#[108,111,99,107]⟩
def zO:zax:=⟨0,0,0,0⟩
def zT:zac:=⟨0,0,0,⟨#[]⟩⟩
def zoo(lk:Bool)(op:Int):Bool:=(lk != (op==9))&&(!((lk&&decide (op≥2))&&decide (op<=6)))
def zlr(T:List zac)(syms:List zaz)(lk:Bool)(j:Nat):Res (zao × zac) :=
 match opW (tk T j).Text with
 | (op,c,ok) =>
  if (((tk T j).Kind != 1)||(!ok))||zoo lk op then .inl (flt 4 (tk T j))
  else if (op==10)||(op==11) then match zle T (j+1) with
   | some f=>.inl f
   | none=>.inr ((⟨op,lk,c,zO,zO,(tk T (j+1)).Text,[]⟩,tk T (j+1)),j+2)
  else if decide (op<=9) then match opsP T syms op lk (j+1) with
   | .inl f=>.inl f
   | .inr ((a,b),k)=>.inr ((⟨op,lk,c,a,b,⟨#[]⟩,[]⟩,zT),k)
  else .inr ((⟨op,lk,c,zO,zO,⟨#[]⟩,[]⟩,zT),j+1)
def insP(T:List zac)(syms:List zaz)(i:Nat):Res (zao × zac) :=
 if (tk T i).Kind != 1 then .inl (flt 4 (tk T i))
 else if (tk T i).Text=zrL then zlr T syms true (i+1) else zlr T syms false i
theorem zh8{T:List zac}{i:Nat}(h:zle T i=none):(rd T (i:Int)).Kind=1:=by
 unfold zle at h
 split at h
 ·cases h
 ·rename_i h1
  simpa [bne] using h1
theorem zig{T syms lk j x k}(hT:zcT T)(hj:j<T.length)(h:zlr T syms lk j=.inr (x,k)):j<k/\k<T.length/\((x.1.To≠⟨#[]⟩) ↔ (x.1.Op=10\/x.1.Op=11))/\x.1.zLb=[]:=by
 unfold zlr at h
 rcases hw:opW (tk T j).Text with ⟨op,c,ok⟩
 rw [hw] at h
 simp only at h
 split at h
 ·cases h
 rename_i h1
 simp only [Bool.or_eq_true,not_or,Bool.not_eq_true,Bool.not_eq_false',bne_eq_false_iff_eq] at h1
 have hn:j+1<T.length:=hT.next j hj (by show (tk T j).Kind≠4; omega)
 split at h
 ·rename_i ho
  split at h
  ·cases h
  ·rename_i hnm
   have hk:=zh8 hnm
   have hn2:j+2<T.length:=hT.next (j+1) hn (by rw [hk]; decide)
   cases h
   have hm:tk T (j+1)∈T:=by
    rw [show tk T (j+1)=T[j+1] from zeL (List.getElem?_eq_getElem hn)]
    exact List.getElem_mem hn
   refine ⟨by omega,hn2,⟨fun _=>by simpa using ho,fun _=>hT.name _ hm hk⟩,rfl⟩
 rename_i ho
 have ho':¬(op=10\/op=11):=by simpa using ho
 split at h
 ·split at h
  ·cases h
  ·rename_i a b k' hx
   obtain ⟨e1,e2⟩:=zmF hT hn hx
   cases h
   exact ⟨by omega,e2,⟨fun e=>absurd rfl e,fun e=>absurd e ho'⟩,rfl⟩
 ·cases h
  exact ⟨by omega,hn,⟨fun e=>absurd rfl e,fun e=>absurd e ho'⟩,rfl⟩
theorem zho{T syms i x k}(hT:zcT T)(hi:i<T.length)(h:insP T syms i=.inr (x,k)):i<k/\k<T.length/\((x.1.To≠⟨#[]⟩) ↔ (x.1.Op=10\/x.1.Op=11))/\x.1.zLb=[]:=by
 unfold insP at h
 split at h
 ·cases h
 rename_i h1
 have hn:i+1<T.length:=hT.next i hi (by have:(tk T i).Kind=1:=by simpa [bne] using h1
                                        show (tk T i).Kind≠4; omega)
 split at h
 ·obtain ⟨a,b⟩:=zig hT hn h
  exact ⟨by omega,b⟩
 ·exact zig hT hi h
theorem zy4(s:ByteArray):zeA s=some (opW s):=zfv s
theorem zft{α:Type}[Inhabited α](D:List α)(c:α):rd (D++[c]) (D.length:Int)=c:=by
 apply zeL; simp
theorem zfI{α:Type}(D:List α)(c d:α):(D++[c]).set D.length d=D++[d]:=by
 rw [List.set_append_right _ _ (Nat.le_refl _)]; simp
theorem zcM{α:Type}(D:List α)(c:α):InB (D.length:Int) (D++[c]).length:=⟨by omega,by simp⟩
def zqt(R:zaa)(D:List zat)(h:zac)(lb:List (ByteArray × Bool))(o:List ByteArray)(fs tg:List zac)(x:zao)(ok:Bool)(R':zaa)(q:Res (zao × zac)):Prop:=match q with
 | .inl f=>ok=false/\R'.f=f
 | .inr ((y,t),j)=>ok=true/\x=y/\R'=⟨R.l,(j:Int),R.p,D++[⟨h,lb,o,fs,tg++[t]⟩],R.f⟩
theorem zju(R:zaa)(D:List zat)(h:zac)(lb:List (ByteArray × Bool))(o:List ByteArray)(fs tg:List zac)(lk:Bool){j:Nat}(hT:zcT R.l)(hj:j<R.l.length)(hs:R.p.zSy.length<=64)(hb:R.b=D++[⟨h,lb,o,fs,tg++[zT]⟩])(htg:tg.length<=1000000) :
  ∃x ok R',zaT R (D.length:Int) (j:Int) lk (tk R.l j).Kind (tk R.l j).Line (tk R.l j).Col (tk R.l j).Text=some (x,ok,R')/\zqt R D h lb o fs tg x ok R' (zlr R.l R.p.zSy lk j):=by
 have hl:=hT.len
 unfold zaT zlr
 rw [zy4]
 simp only [Option.bind_some]
 rcases hw:opW (tk R.l j).Text with ⟨op,c,ok⟩
 simp only
 by_cases hbad:((((tk R.l j).Kind != 1)||(!ok))||zoo lk op)=true
 ·have hbad':=hbad
  unfold zoo at hbad'
  rw [if_pos hbad',if_pos hbad]
  exact ⟨_,_,_,rfl,rfl,rfl⟩
 have hbad':=hbad
 unfold zoo at hbad'
 rw [if_neg hbad',if_neg hbad]
 simp only [Bool.or_eq_true,not_or,Bool.not_eq_true,Bool.not_eq_false',bne_eq_false_iff_eq] at hbad
 obtain ⟨⟨hk,rfl⟩,hlk⟩:=hbad
 obtain ⟨hop1,hop2,hc⟩:=zmG hw
 have hn:j+1<R.l.length:=hT.next j hj (by show (tk R.l j).Kind≠4; omega)
 rw [w1 (show j<=2000010 by omega)]
 by_cases ho:((op==10)||(op==11))=true
 ·rw [if_pos ho,if_pos ho,if_pos (zbD hn),zcJ]
  unfold zle
  by_cases h1:((tk R.l (j+1)).Kind != 1)=true
  ·rw [if_pos h1,if_pos h1]
   exact ⟨_,_,_,rfl,rfl,rfl⟩
  rw [if_neg h1,if_neg h1]
  simp only [Option.bind_some]
  cases hwd:zfD (tk R.l (j+1)).Text with
  | true=>exact ⟨_,_,_,rfl,rfl,rfl⟩
  | false =>
   simp only [Bool.false_eq_true,if_false]
   rw [hb,if_pos (zcM _ _),zft]
   simp only
   have e1:IntKind.wrap .i64 (((tg++[zT]).length:Int)-1)=((tg.length:Nat):Int):=by
    rw [List.length_append,List.length_singleton,zbV ⟨by omega,by omega⟩]; omega
   rw [e1,if_pos (zcM _ _),if_pos (zcM _ _),w1 (show j+1<=2000010 by omega)]
   simp only [Int.toNat_natCast,zfI]
   exact ⟨_,_,_,rfl,rfl,rfl,rfl⟩
 rw [if_neg ho,if_neg ho]
 by_cases h9:decide (op<=9)=true
 ·rw [if_pos h9,if_pos h9]
  have h9':op<=9:=by simpa using h9
  obtain ⟨ok2,R2,x2,k1,k2,k3⟩:=zow ⟨R.l,((j+1:Nat):Int),R.p,R.b,R.f⟩ ⟨op,lk,c,zO,zO,⟨#[]⟩,[]⟩ hT hn hs rfl hop1 h9' (hc (by omega)) rfl
  have k1':za6 ⟨R.l,((j+1:Nat):Int),R.p,R.b,R.f⟩ ⟨op,lk,c,⟨0,0,0,0⟩,⟨0,0,0,0⟩,⟨#[]⟩,[]⟩=some (x2,ok2,R2):=k1
  rw [k1']
  simp only [Option.bind_some]
  cases hx:opsP R.l R.p.zSy op lk (j+1) with
  | inl f =>
   rw [show pos (opsP R.l R.p.zSy op lk (j+1))=.inl f by rw [hx]; rfl] at k2
   obtain ⟨rfl,e4⟩:=k2
   exact ⟨_,_,_,rfl,rfl,e4⟩
  | inr q =>
   obtain ⟨⟨a,b⟩,k⟩:=q
   rw [show pos (opsP R.l R.p.zSy op lk (j+1))=.inr k by rw [hx]; rfl] at k2
   obtain ⟨rfl,rfl⟩:=k2
   have e5:=k3 a b k hx
   subst e5
   exact ⟨_,_,_,rfl,rfl,rfl,by rw [hb]⟩
 ·rw [if_neg h9,if_neg h9]
  exact ⟨_,_,_,rfl,rfl,rfl,by rw [hb]⟩
theorem zox(R:zaa)(D:List zat)(h:zac)(lb:List (ByteArray × Bool))(o:List ByteArray)(fs tg:List zac){i:Nat}(hT:zcT R.l)(hi:i<R.l.length)(hs:R.p.zSy.length<=64)(ha:R.at_=(i:Int))(hb:R.b=D++[⟨h,lb,o,fs,tg++[zT]⟩])(htg:tg.length<=1000000) :
  ∃x ok R',zaW R (D.length:Int)=some (x,ok,R')/\zqt R D h lb o fs tg x ok R' (insP R.l R.p.zSy i):=by
 have hl:=hT.len
 unfold zaW insP
 rw [ha,if_pos (by rw [hb]; exact zcM _ _),if_pos (zbD hi)]
 by_cases h1:((tk R.l i).Kind != 1)=true
 ·rw [if_pos h1,if_pos h1]
  exact ⟨_,_,_,rfl,rfl,rfl⟩
 rw [if_neg h1,if_neg h1]
 have hn:i+1<R.l.length:=hT.next i hi (by have:(tk R.l i).Kind=1:=by simpa [bne] using h1
                                          show (tk R.l i).Kind≠4; omega)
 by_cases h2:(tk R.l i).Text=zrL
 ·have h2':decide ((tk R.l i).Text=(⟨#[108,111,99,107]⟩:ByteArray))=true:=decide_eq_true h2
  rw [if_pos h2',if_pos h2,w1 (show i<=2000010 by omega),if_pos (zbD hn)]
  exact zju R D h lb o fs tg true hT hn hs hb htg
 ·have h2':¬decide ((tk R.l i).Text=(⟨#[108,111,99,107]⟩:ByteArray))=true:=fun e=>h2 (of_decide_eq_true e)
  rw [if_neg h2',if_neg h2]
  exact zju R D h lb o fs tg false hT hi hs hb htg
end Go.Vs
end
section
namespace Go.Vs
local instance tabPalP7:Tab:=⟨fun _=>none⟩
theorem zpA{n:Nat}(h:n<=1000000):IntKind.wrap .i64 (((n+1:Nat):Int)-1)=(n:Int):=by
 rw [zbV ⟨by omega,by omega⟩]; omega
theorem ze0{n:Nat}(h:n<=2000000):Fits n:=by unfold Fits; omega
end Go.Vs
end
section
namespace Go.Vs
local instance tabPalP8:Tab:=⟨fun _=>none⟩
structure Bd where
 head:zac
 all:List ByteArray
 open_:List ByteArray
 zFi:List zac
 zTg:List zac
 ins:List zao
structure PSt where
 at_:Nat
 syms:List zaz
 done:List Bd
 cur:Option Bd
def PSt.bs(S:PSt):List Bd:=S.done++S.cur.toList
def tmap(al:List ByteArray):List (ByteArray × Bool):=al.map fun s=>(s,true)
def toB(b:Bd):zat:=⟨b.head,tmap b.all,b.open_,b.zFi,b.zTg⟩
def toTh(b:Bd):zaj:=⟨b.ins⟩
def stB(T:List zac)(S:PSt)(f:zah):zaa:=⟨T,(S.at_:Int),⟨S.syms,S.bs.map toTh⟩,S.bs.map toB,f⟩
def OutB(T:List zac)(f:zah)(ok:Bool)(R':zaa)(q:zah ⊕ PSt):Prop:=match q with
 | .inl g=>ok=false/\R'.f=g
 | .inr S=>ok=true/\R'=stB T S f
theorem zjh(al:List ByteArray)(s:ByteArray):mixS (tmap al) s=fnd al s:=by
 unfold mixS tmap fnd
 rw [List.findIdx?_map]
 congr 1
 funext x
 simp [eq_comm]
theorem zks(al:List ByteArray)(s:ByteArray):(mat (tmap al) (mixS (tmap al) s)).getD false=has al s:=by
 rw [zjh]
 have h:=znd (l:=al) (s:=s)
 cases hf:fnd al s with
 | none=>rw [hf] at h; rw [← h]; rfl
 | some i =>
  rw [hf] at h
  obtain ⟨h1,h2⟩:=zjy hf
  rw [← h]
  simp only [mat,Option.bind_some,tmap,List.getElem?_map,h2,Option.map_some,Option.getD_some,Option.isSome_some]
theorem zok{al:List ByteArray}{s:ByteArray}(h:has al s=false):mst (tmap al) (mixS (tmap al) s) s true=tmap (al++[s]):=by
 rw [zjh]
 have h2:=znd (l:=al) (s:=s)
 rw [h] at h2
 cases hf:fnd al s with
 | none=>simp [mst,tmap]
 | some i=>rw [hf] at h2; simp at h2
def zir:ByteArray:=⟨#[58]⟩
def zjo(T:List zac):Nat->Nat->List ByteArray->List ByteArray->zah ⊕ (Nat × List ByteArray × List ByteArray)
 | 0,i,al,op=>.inr (i,al,op)
 | n+1,i,al,op =>
  if ((tk T i).Kind==1)&&sgB T (i+1) zir then
   if zfD (tk T i).Text then .inl (flt 3 (tk T i))
   else if has al (tk T i).Text then .inl (flt 6 (tk T i))
   else zjo T n (i+2) (al++[(tk T i).Text]) (op++[(tk T i).Text])
  else .inr (i,al,op)
theorem ze9{T:List zac}(hT:zcT T):∀(n i:Nat) (al op:List ByteArray) {j al' op'},i<T.length->zjo T n i al op=.inr (j,al',op')->i<=j/\j<T.length/\(∃w,al'=al++w/\op'=op++w/\w.length<=j-i)
 | 0,i,al,op,j,al',op',hi,h=>by
  simp only [zjo,Sum.inr.injEq,Prod.mk.injEq] at h
  obtain ⟨rfl,rfl,rfl⟩:=h
  exact ⟨Nat.le_refl _,hi,[],by simp,by simp,by simp⟩
 | n+1,i,al,op,j,al',op',hi,h=>by
  unfold zjo at h
  split at h
  ·rename_i hc
   simp only [Bool.and_eq_true,beq_iff_eq] at hc
   have h1:i+1<T.length:=hT.next i hi (by show (tk T i).Kind≠4; omega)
   have h2:i+2<T.length:=hT.next (i+1) h1 (zd7 hc.2)
   split at h
   ·cases h
   split at h
   ·cases h
   obtain ⟨e1,e2,w,e3,e4,e5⟩:=ze9 hT n _ _ _ h2 h
   exact ⟨by omega,e2,(tk T i).Text::w,by simp [e3],by simp [e4],by simp; omega⟩
  ·simp only [Sum.inr.injEq,Prod.mk.injEq] at h
   obtain ⟨rfl,rfl,rfl⟩:=h
   exact ⟨Nat.le_refl _,hi,[],by simp,by simp,by simp⟩
theorem zrS(p0:zaa)(T:List zac)(syms:List zaz)(th:List zaj)(D:List zat)(hd:zac)(fs tg:List zac)(a b c:Int)(hT:zcT T)(hD:p0.b.length=D.length+1)(hD2:D.length<=64) :
  ∀(n i:Nat) (al op:List ByteArray),i<T.length->T.length-i<=n->op.length<=i->∃r,zbn (zbw p0) (T,(i:Int),syms,th,a,b,c,D++[⟨hd,tmap al,op,fs,tg⟩])=some r /\
   match zjo T n i al op with
   | .inl g=>∃R',r=.inr (false,R')/\R'.f=g
   | .inr (j,al',op')=>r=.inl (T,(j:Int),syms,th,a,b,c,D++[⟨hd,tmap al',op',fs,tg⟩])
 | 0,i,al,op,hi,hn,ho=>by omega
 | n+1,i,al,op,hi,hn,ho=>by
  have hl:=hT.len
  have ew:IntKind.wrap .i64 ((p0.b.length:Int)-1)=(D.length:Int):=by rw [hD]; exact zpA (by omega)
  have hlen:D.length<(D++[(⟨hd,tmap al,op,fs,tg⟩:zat)]).length:=by simp
  have step:zbw p0 (T,(i:Int),syms,th,a,b,c,D++[⟨hd,tmap al,op,fs,tg⟩])=
    if (((tk T i).Kind==1)&&sgB T (i+1) zir)=true then
     (if zfD (tk T i).Text=true then some (.inr (.inr (false,⟨T,(i:Int),⟨syms,th⟩,D++[⟨hd,tmap al,op,fs,tg⟩],flt 3 (tk T i)⟩)))
      else if has al (tk T i).Text=true then some (.inr (.inr (false,⟨T,(i:Int),⟨syms,th⟩,D++[⟨hd,tmap al,op,fs,tg⟩],flt 6 (tk T i)⟩)))
      else some (.inl (T,((i+2:Nat):Int),syms,th,a,b,c,D++[⟨hd,tmap (al++[(tk T i).Text]),op++[(tk T i).Text],fs,tg⟩])))
    else some (.inr (.inl (T,(i:Int),syms,th,a,b,c,D++[⟨hd,tmap al,op,fs,tg⟩]))):=by
   simp only [zbw]
   rw [if_pos (zbD hi),w1 (show i<=2000010 by omega),ew]
   have hc:(if ((rd T (i:Int)).Kind==1)=true then zaN ⟨T,(i:Int),⟨syms,th⟩,D++[⟨hd,tmap al,op,fs,tg⟩],⟨a,b,c⟩⟩ ((i+1:Nat):Int) ⟨#[58]⟩ else some (false,⟨T,(i:Int),⟨syms,th⟩,D++[⟨hd,tmap al,op,fs,tg⟩],⟨a,b,c⟩⟩))=some (((tk T i).Kind==1)&&sgB T (i+1) zir,⟨T,(i:Int),⟨syms,th⟩,D++[⟨hd,tmap al,op,fs,tg⟩],⟨a,b,c⟩⟩):=by
    by_cases h1:((tk T i).Kind==1)=true
    ·have h1n:i+1<T.length:=hT.next i hi (zdn h1 (by decide))
     rw [if_pos h1,zef (i+1) _ h1n,h1,Bool.true_and]; rfl
    ·have h1':((tk T i).Kind==1)=false:=by simpa using h1
     rw [if_neg h1,h1',Bool.false_and]
   rw [hc]
   simp only [Option.bind_some]
   have hm:((((rd T (i:Int)).Kind==1))&&(((tk T i).Kind==1)&&sgB T (i+1) zir))=(((tk T i).Kind==1)&&sgB T (i+1) zir):=by
    cases ((tk T i).Kind==1) <;> simp
   rw [hm]
   split
   ·rw [if_pos (zbD hi),zcJ]
    simp only [Option.bind_some]
    split
    ·rfl
    ·rw [if_pos (zcM _ _),zft]
     simp only
     rw [zks]
     split
     ·rfl
     ·rename_i hh
      have hh':has al (tk T i).Text=false:=by simpa using hh
      rw [if_pos (zcM _ _)]
      simp only [Int.toNat_natCast,zfI]
      rw [if_pos (zcM _ _),zft]
      simp only
      rw [if_pos (ze0 (by omega)),zok hh',w2 (show i<=2000010 by omega)]
   ·rfl
  unfold zjo
  by_cases hc:(((tk T i).Kind==1)&&sgB T (i+1) zir)=true
  ·rw [if_pos hc] at step
   rw [if_pos hc]
   have hc':=hc
   simp only [Bool.and_eq_true,beq_iff_eq] at hc'
   have h1:i+1<T.length:=hT.next i hi (by show (tk T i).Kind≠4; omega)
   have h2:i+2<T.length:=hT.next (i+1) h1 (zd7 hc'.2)
   by_cases hw:zfD (tk T i).Text=true
   ·rw [if_pos hw] at step
    rw [if_pos hw]
    exact ⟨_,zaM step,_,rfl,rfl⟩
   rw [if_neg hw] at step
   rw [if_neg hw]
   by_cases hh:has al (tk T i).Text=true
   ·rw [if_pos hh] at step
    rw [if_pos hh]
    exact ⟨_,zaM step,_,rfl,rfl⟩
   rw [if_neg hh] at step
   rw [if_neg hh,zbC step]
   exact zrS p0 T syms th D hd fs tg a b c hT hD hD2 n (i+2) _ _ h2 (by omega) (by simp; omega)
  ·rw [if_neg hc] at step
   rw [if_neg hc]
   exact ⟨_,zaM step,rfl⟩
end Go.Vs
end
section
namespace Go.Vs
local instance tabPalP9:Tab:=⟨fun _=>none⟩
structure StOk (T:List zac) (S:PSt):Prop where
 at_:S.at_<=T.length
 syms:S.syms.length<=64
 done:S.done.length+S.cur.toList.length<=64
 cur:∀c,S.cur=some c->c.all.length<=S.at_/\c.open_.length<=S.at_/\c.zFi.length<=S.at_/\c.zTg.length=c.zFi.length/\c.ins.length=c.zFi.length
def zmt(T:List zac)(S:PSt):zah ⊕ PSt:=match S.cur with
 | none=>.inl (flt 4 (tk T S.at_))
 | some c=>match zjo T T.length S.at_ c.all c.open_ with
  | .inl f=>.inl f
  | .inr (j,al,op)=>if (tk T j).Kind==4 then .inr ⟨j,S.syms,S.done,some ⟨c.head,al,op,c.zFi,c.zTg,c.ins⟩⟩
   else match insP T S.syms j with
    | .inl f=>.inl f
    | .inr ((y,t),k)=>.inr ⟨k,S.syms,S.done,some ⟨c.head,al,[],c.zFi++[tk T j],c.zTg++[t],c.ins++[⟨y.Op,y.Lock,y.Cond,y.A,y.B,y.To,op⟩]⟩⟩
def zjn(T:List zac)(q:zah ⊕ PSt):zah ⊕ PSt:=match q with
 | .inl f=>.inl f
 | .inr S=>if (tk T S.at_).Kind != 4 then .inl (flt 4 (tk T S.at_)) else .inr ⟨S.at_+1,S.syms,S.done,S.cur⟩
theorem ziO(T:List zac)(S:PSt)(f:zah)(hT:zcT T)(hi:S.at_<T.length):∃ok R',za2 (stB T S f)=some (ok,R')/\OutB T f ok R' (zjn T (.inr S)):=by
 have hl:=hT.len
 unfold za2 zjn
 show ∃ok R',(if InB (S.at_:Int) T.length then (if ((rd T (S.at_:Int)).Kind != 4)=true then (if InB (S.at_:Int) T.length then _ else _) else _) else none)=some (ok,R')/\_
 rw [if_pos (zbD hi),if_pos (zbD hi)]
 by_cases h:((tk T S.at_).Kind != 4)=true
 ·simp only
  rw [if_pos h,if_pos h]
  exact ⟨_,_,rfl,rfl,rfl⟩
 ·simp only
  rw [if_neg h,if_neg h]
  exact ⟨_,_,rfl,rfl,by unfold stB; simp only; rw [w1 (by omega)]; rfl⟩
theorem zlt(R:zaa){k:Nat}(hT:zcT R.l)(hk:k<R.l.length)(ha:R.at_=(k:Int)):zb8 R=some (if (tk R.l k).Kind != 4 then (false,⟨R.l,(k:Int),R.p,R.b,flt 4 (tk R.l k)⟩) else (true,⟨R.l,((k+1:Nat):Int),R.p,R.b,R.f⟩)):=by
 have hl:=hT.len
 unfold zb8
 rw [ha,if_pos (zbD hk),if_pos (zbD hk)]
 by_cases h:((tk R.l k).Kind != 4)=true
 ·rw [if_pos h,if_pos h]; rfl
 ·rw [if_neg h,if_neg h,w1 (by omega)]
theorem zqp(S:PSt){c:Bd}(h:S.cur=some c):S.bs=S.done++[c]:=by unfold PSt.bs; rw [h]; rfl
theorem zgK(T:List zac)(i:Nat)(syms:List zaz)(D:List Bd)(c:Bd)(f:zah):stB T ⟨i,syms,D,some c⟩ f=⟨T,(i:Int),⟨syms,D.map toTh++[⟨c.ins⟩]⟩,D.map toB++[⟨c.head,tmap c.all,c.open_,c.zFi,c.zTg⟩],f⟩:=by
 unfold stB PSt.bs; simp [toTh,toB]
theorem zm5(T:List zac)(S:PSt)(f:zah)(hT:zcT T)(hS:StOk T S)(hi:S.at_<T.length)(hd:S.cur=none->S.done=[]):∃ok R',zbH (stB T S f) (tk T S.at_)=some (ok,R')/\OutB T f ok R' (zjn T (zmt T S)):=by
 have hl:=hT.len
 obtain ⟨i,syms,D,cur⟩:=S
 obtain ⟨f1,f2,f3⟩:=f
 cases cur with
 | none =>
  have hd':D=[]:=hd rfl
  subst hd'
  exact ⟨_,_,rfl,rfl,rfl⟩
 | some c =>
  obtain ⟨h1,h2,h3,h4⟩:=hS
  obtain ⟨c1,c2,c3,c4,c5⟩:=h4 c rfl
  simp only [Option.toList_some,List.length_singleton] at h3
  simp only at h1 h2 h3 c1 c2 c3 c4 c5 hi
  rw [zgK]
  unfold zbH
  have hlen:(D.map toB++[(⟨c.head,tmap c.all,c.open_,c.zFi,c.zTg⟩:zat)]).length=(D.map toB).length+1:=by simp
  have hw:IntKind.wrap .i64 (((D.map toB++[(⟨c.head,tmap c.all,c.open_,c.zFi,c.zTg⟩:zat)]).length:Int)-1)=((D.map toB).length:Int):=by
   rw [hlen]; exact zpA (by simp; omega)
  have h0:¬(((D.map toB++[(⟨c.head,tmap c.all,c.open_,c.zFi,c.zTg⟩:zat)]).length:Int)==0)=true:=by
   rw [hlen]; simp; omega
  simp only
  rw [if_neg h0,hw,if_pos (zcM _ _)]
  obtain ⟨r,hr1,hr2⟩:=zrS ⟨T,(i:Int),⟨syms,D.map toTh++[⟨c.ins⟩]⟩,D.map toB++[⟨c.head,tmap c.all,c.open_,c.zFi,c.zTg⟩],⟨f1,f2,f3⟩⟩ T syms (D.map toTh++[⟨c.ins⟩]) (D.map toB) c.head c.zFi c.zTg f1 f2 f3 hT hlen (by simp; omega) T.length i c.all c.open_ hi (by omega) c2
  rw [hr1]
  unfold zmt
  simp only
  cases hx:zjo T T.length i c.all c.open_ with
  | inl g =>
   rw [hx] at hr2
   obtain ⟨R',rfl,hf⟩:=hr2
   exact ⟨_,_,rfl,rfl,hf⟩
  | inr q =>
   obtain ⟨j,al,op⟩:=q
   rw [hx] at hr2
   subst hr2
   obtain ⟨n1,n2,w,n3,n4,n5⟩:=ze9 hT _ _ _ _ hi hx
   simp only [Option.bind_some,zcG]
   rw [if_pos (zbD n2)]
   by_cases h4:((tk T j).Kind==4)=true
   ·rw [if_pos h4,if_pos h4]
    obtain ⟨ok,R',e1,e2⟩:=ziO T ⟨j,syms,D,some ⟨c.head,al,op,c.zFi,c.zTg,c.ins⟩⟩ ⟨f1,f2,f3⟩ hT n2
    rw [zgK] at e1
    simp only at e1
    rw [e1]
    exact ⟨_,_,rfl,e2⟩
   ·rw [if_neg h4,if_neg h4,if_pos (zcM _ _),if_pos (zbD n2),zft]
    simp only
    rw [if_pos (ze0 (by omega))]
    simp only [Option.bind_some,Int.toNat_natCast,zfI]
    rw [if_pos (zcM _ _),zft]
    simp only
    rw [if_pos (ze0 (by omega))]
    have hil:((j:Int))=((j:Nat):Int):=rfl
    obtain ⟨x,ok,R',e1,e2⟩:=zox ⟨T,(j:Int),⟨syms,D.map toTh++[⟨c.ins⟩]⟩,D.map toB++[⟨c.head,tmap al,op,c.zFi++[tk T j],c.zTg++[zT]⟩],⟨f1,f2,f3⟩⟩ (D.map toB) c.head (tmap al) op (c.zFi++[tk T j]) c.zTg hT n2 h2 rfl rfl (by omega)
    have e1':zaW ⟨T,(j:Int),⟨syms,D.map toTh++[⟨c.ins⟩]⟩,D.map toB++[⟨c.head,tmap al,op,c.zFi++[rd T (j:Int)],c.zTg++[⟨0,0,0,⟨#[]⟩⟩]⟩],⟨f1,f2,f3⟩⟩ ((D.map toB).length:Int)=some (x,ok,R'):=e1
    rw [e1']
    simp only [Option.bind_some]
    unfold zqt at e2
    simp only at e2
    cases hy:insP T syms j with
    | inl g =>
     rw [hy] at e2
     obtain ⟨rfl,hf⟩:=e2
     simp only [Bool.not_false,Bool.not_true,Bool.false_eq_true,if_false,Option.bind_some,Bool.or_self,if_true]
     exact ⟨_,_,rfl,rfl,hf⟩
    | inr q =>
     obtain ⟨⟨y,t⟩,k⟩:=q
     rw [hy] at e2
     obtain ⟨rfl,rfl,rfl⟩:=e2
     obtain ⟨m1,m2,m3,m4⟩:=zho hT n2 hy
     simp only [Bool.not_true,Bool.not_false,if_true]
     rw [zlt (k:=k) _ hT m2 rfl]
     simp only [Option.bind_some,zjn]
     by_cases h5:((tk T k).Kind != 4)=true
     ·rw [if_pos h5,if_pos h5]
      simp only [Bool.not_true,Bool.not_false,Bool.or_true,if_true]
      exact ⟨_,_,rfl,rfl,rfl⟩
     ·rw [if_neg h5,if_neg h5]
      simp only [Bool.not_true,Bool.or_self,Bool.false_eq_true,if_false]
      rw [if_pos (zcM _ _),zft]
      simp only [Option.bind_some,Int.toNat_natCast,zfI]
      have hw2:IntKind.wrap .i64 (((D.map toTh++[(⟨c.ins⟩:zaj)]).length:Int)-1)=((D.map toTh).length:Int):=by
       rw [List.length_append,List.length_singleton]; exact zpA (by simp; omega)
      rw [hw2,if_pos (zcM _ _),zft]
      simp only
      rw [if_pos (ze0 (by omega))]
      simp only [Int.toNat_natCast,zfI]
      rw [if_pos (zcM _ _)]
      exact ⟨_,_,rfl,rfl,by rw [zgK]⟩
end Go.Vs
end
section
namespace Go.Vs
local instance tabPalPA:Tab:=⟨fun _=>none⟩
def zgw(T:List zac)(n:Int):Nat->Nat->List Int->zah ⊕ (Nat × List Int)
 | 0,i,l=>.inr (i,l)
 | k+1,i,l=>if (tk T i).Kind==2 then (if (l.length:Int)==n then .inl (flt 5 (tk T i)) else zgw T n k (i+1) (l++[(zcC (tk T i).Text).1])) else .inr (i,l)
theorem zfA{T:List zac}{n:Int}(hT:zcT T)(hn:0<=n):∀(k i:Nat) (l:List Int) {j l'},i<T.length->(l.length:Int)<=n->zgw T n k i l=.inr (j,l')->i<=j/\j<T.length/\(l'.length:Int)<=n
 | 0,i,l,j,l',hi,hl,h=>by
  simp only [zgw,Sum.inr.injEq,Prod.mk.injEq] at h
  obtain ⟨rfl,rfl⟩:=h
  exact ⟨Nat.le_refl _,hi,hl⟩
 | k+1,i,l,j,l',hi,hl,h=>by
  unfold zgw at h
  split at h
  ·rename_i hk
   have h1:i+1<T.length:=hT.next i hi (zdn hk (by decide))
   split at h
   ·cases h
   ·rename_i hne
    have hne':¬(l.length:Int)=n:=by simpa using hne
    obtain ⟨a,b,c⟩:=zfA hT hn k (i+1) _ h1 (by simp; omega) h
    exact ⟨by omega,b,c⟩
  ·simp only [Sum.inr.injEq,Prod.mk.injEq] at h
   obtain ⟨rfl,rfl⟩:=h
   exact ⟨Nat.le_refl _,hi,hl⟩
def symP(T:List zac)(S:PSt):zah ⊕ PSt :=
 if S.bs.length>0 then .inl (flt 4 (tk T S.at_))
 else if S.syms.length≥64 then .inl (flt 10 (tk T S.at_))
 else match zle T (S.at_+1) with
  | some f=>.inl f
  | none=>match fnd (zfw S.syms) (tk T (S.at_+1)).Text with
   | some _=>.inl (flt 6 (tk T (S.at_+1)))
   | none=>if (tk T (S.at_+2)).Kind != 2 then .inl (flt 4 (tk T (S.at_+2)))
    else if decide ((zcC (tk T (S.at_+2)).Text).1<1)||decide ((zcC (tk T (S.at_+2)).Text).1>64) then .inl (flt 5 (tk T (S.at_+2)))
    else match zgw T (zcC (tk T (S.at_+2)).Text).1 T.length (S.at_+3) [] with
     | .inl f=>.inl f
     | .inr (j,l)=>.inr ⟨j,S.syms++[⟨(tk T (S.at_+1)).Text,(zcC (tk T (S.at_+2)).Text).1,l⟩],S.done,S.cur⟩
def thrP(T:List zac)(S:PSt):zah ⊕ PSt :=
 if S.bs.length≥64 then .inl (flt 10 (tk T S.at_)) else .inr ⟨S.at_+1,S.syms,S.bs,some ⟨tk T S.at_,[],[],[],[],[]⟩⟩
theorem zii(v16:Int × Bool × zaa)(v25:Int × Bool)(hT:zcT v16.2.2.l)(hn:v25.1<=64):∀(k i:Nat) (l:List Int),i<v16.2.2.l.length->v16.2.2.l.length-i<=k->(l.length:Int)<=v25.1->∃r,zbn (za0 v16 v25) ((i:Int),l)=some r/\match zgw v16.2.2.l v25.1 k i l with
  | .inl g=>∃R',r=.inr (false,R')/\R'.f=g
  | .inr (j,l')=>r=.inl ((j:Int),l')
 | 0,i,l,hi,hk,hl=>by omega
 | k+1,i,l,hi,hk,hl=>by
  have hlen:=hT.len
  unfold zgw
  by_cases h2:((tk v16.2.2.l i).Kind==2)=true
  ·rw [if_pos h2]
   have h1:i+1<v16.2.2.l.length:=hT.next i hi (zdn h2 (by decide))
   by_cases he:((l.length:Int)==v25.1)=true
   ·rw [if_pos he]
    refine ⟨_,zaM (r:=.inr (false,⟨v16.2.2.l,(i:Int),v16.2.2.p,v16.2.2.b,flt 5 (tk v16.2.2.l i)⟩)) ?_,_,rfl,rfl⟩
    simp only [za0]
    rw [if_pos (zbD hi),if_pos h2,if_pos he,if_pos (zbD hi)]
    rfl
   ·rw [if_neg he]
    have he':¬(l.length:Int)=v25.1:=by simpa using he
    rw [zbC (a':=(((i+1:Nat):Int),l++[(zcC (tk v16.2.2.l i).Text).1])) ?_]
    ·exact zii v16 v25 hT hn k (i+1) _ h1 (by omega) (by simp; omega)
    ·simp only [za0]
     rw [if_pos (zbD hi),if_pos h2,if_neg he,if_pos (zbD hi),hT.read hi]
     simp only [Option.bind_some]
     rw [if_pos (ze0 (by omega)),w1 (by omega)]
  ·rw [if_neg h2]
   refine ⟨_,zaM (r:=.inl ((i:Int),l)) ?_,rfl⟩
   simp only [za0]
   rw [if_pos (zbD hi),if_neg h2]
theorem znn(S:PSt):S.bs.length=S.done.length+S.cur.toList.length:=by unfold PSt.bs; simp
theorem zjX(T:List zac)(S:PSt)(f:zah)(hT:zcT T)(hS:StOk T S)(hi:S.at_+1<T.length):∃ok R',zbF (stB T S f) (tk T S.at_)=some (ok,R')/\OutB T f ok R' (zjn T (symP T S)):=by
 have hl:=hT.len
 have hsy:=hS.syms
 unfold zbF symP
 have hb:((stB T S f).b.length:Int)=(S.bs.length:Int):=by simp [stB]
 have hat:(stB T S f).at_=(S.at_:Int):=rfl
 have hll:(stB T S f).l=T:=rfl
 have hss:(stB T S f).p.zSy=S.syms:=rfl
 rw [hb,hat,hll,hss]
 by_cases h0:S.bs.length>0
 ·rw [if_pos (by simpa using h0),if_pos h0]
  exact ⟨_,_,rfl,rfl,rfl⟩
 rw [if_neg (by simpa using h0),if_neg h0]
 by_cases h64:S.syms.length≥64
 ·rw [if_pos (by simp; omega),if_pos h64]
  exact ⟨_,_,rfl,rfl,rfl⟩
 rw [if_neg (by simp; omega),if_neg h64,w1 (show S.at_<=2000010 by omega),if_pos (zbD hi),zcJ]
 unfold zle
 by_cases h1:((tk T (S.at_+1)).Kind != 1)=true
 ·rw [if_pos h1,if_pos h1]
  exact ⟨_,_,rfl,rfl,rfl⟩
 rw [if_neg h1,if_neg h1]
 have h1':(tk T (S.at_+1)).Kind=1:=by simpa [bne] using h1
 have hi2:S.at_+2<T.length:=hT.next (S.at_+1) hi (by show (tk T (S.at_+1)).Kind≠4; omega)
 simp only [Option.bind_some]
 by_cases hw:zfD (tk T (S.at_+1)).Text=true
 ·rw [if_pos hw,if_pos hw]
  exact ⟨_,_,rfl,rfl,rfl⟩
 rw [if_neg hw,if_neg hw,zqd _ _ (by rw [hss]; omega),hss]
 simp only [Option.bind_some]
 cases hf:fnd (zfw S.syms) (tk T (S.at_+1)).Text with
 | some k =>
  simp only [if_true]
  exact ⟨_,_,rfl,rfl,rfl⟩
 | none =>
  simp only [Bool.false_eq_true,if_false]
  rw [hat,hll,w2 (show S.at_<=2000010 by omega),if_pos (zbD hi2)]
  by_cases h2:((tk T (S.at_+2)).Kind != 2)=true
  ·rw [if_pos h2,if_pos h2]
   exact ⟨_,_,rfl,rfl,rfl⟩
  rw [if_neg h2,if_neg h2]
  have h2':(tk T (S.at_+2)).Kind=2:=by simpa [bne] using h2
  have hi3:S.at_+3<T.length:=hT.next (S.at_+2) hi2 (by show (tk T (S.at_+2)).Kind≠4; omega)
  rw [hT.read hi2]
  simp only [Option.bind_some]
  by_cases hr:(decide ((zcC (tk T (S.at_+2)).Text).1<1)||decide ((zcC (tk T (S.at_+2)).Text).1>64))=true
  ·rw [if_pos hr,if_pos hr]
   exact ⟨_,_,rfl,rfl,rfl⟩
  rw [if_neg hr,if_neg hr,w3 (show S.at_<=2000010 by omega)]
  have hr':=hr
  simp only [Bool.or_eq_true,decide_eq_true_eq,not_or,Int.not_lt,Int.not_gt_eq] at hr'
  obtain ⟨r,e1,e2⟩:=zii (0,false,stB T S f) (zcC (tk T (S.at_+2)).Text) hT hr'.2 T.length (S.at_+3) [] hi3 (by show T.length-(S.at_+3)<=T.length; omega) (by simp; omega)
  rw [e1]
  simp only at e2
  rw [hll] at e2
  cases hx:zgw T (zcC (tk T (S.at_+2)).Text).1 T.length (S.at_+3) [] with
  | inl g =>
   rw [hx] at e2
   obtain ⟨R',rfl,hf⟩:=e2
   exact ⟨_,_,rfl,rfl,hf⟩
  | inr q =>
   obtain ⟨j,l⟩:=q
   rw [hx] at e2
   subst e2
   obtain ⟨_,hj,_⟩:=zfA hT (by omega) _ _ _ hi3 (by simp; omega) hx
   simp only [Option.bind_some,zcG]
   rw [if_pos (ze0 (by rw [hss]; omega)),hss]
   obtain ⟨ok,R',k1,k2⟩:=ziO T ⟨j,S.syms++[⟨(tk T (S.at_+1)).Text,(zcC (tk T (S.at_+2)).Text).1,l⟩],S.done,S.cur⟩ f hT hj
   have k1':za2 ⟨T,(j:Int),⟨S.syms++[⟨(rd T ((S.at_+1:Nat):Int)).Text,(zcC (tk T (S.at_+2)).Text).1,l⟩],(stB T S f).p.zTh⟩,(stB T S f).b,(stB T S f).f⟩=some (ok,R'):=k1
   rw [k1']
   exact ⟨_,_,rfl,k2⟩
end Go.Vs
end
section
namespace Go.Vs
local instance tabPalPB:Tab:=⟨fun _=>none⟩
def symW:ByteArray:=⟨#[115,121,109]⟩
def thrW:ByteArray:=⟨#[116,104,114,101,97,100]⟩
def zhk(T:List zac)(S:PSt):zah ⊕ PSt :=
 if (tk T S.at_).Kind==4 then .inr S
 else if ((tk T S.at_).Kind==1)&&decide ((tk T S.at_).Text=symW) then symP T S
 else if ((tk T S.at_).Kind==1)&&decide ((tk T S.at_).Text=thrW) then thrP T S
 else zmt T S
def zlh(T:List zac)(S:PSt):zah ⊕ PSt:=zjn T (zhk T S)
theorem zm2(T:List zac)(S:PSt)(f:zah)(hT:zcT T)(hS:StOk T S)(hi:S.at_<T.length)(hd:S.cur=none->S.done=[]):∃ok R',zbY (stB T S f)=some (ok,R')/\OutB T f ok R' (zlh T S):=by
 have hl:=hT.len
 have hlen:=znn S
 have hdone:=hS.done
 unfold zbY zlh zhk
 show ∃ok R',(if InB (S.at_:Int) T.length then (if ((rd T (S.at_:Int)).Kind==4)=true then _ else (some (((rd T (S.at_:Int)).Kind==1)&&decide ((rd T (S.at_:Int)).Text=symW))).bind _) else none)=some (ok,R')/\_
 rw [if_pos (zbD hi)]
 by_cases h4:((tk T S.at_).Kind==4)=true
 ·rw [if_pos h4,if_pos h4]
  refine ⟨_,_,rfl,?_⟩
  unfold zjn
  have h4':(tk T S.at_).Kind=4:=by simpa using h4
  simp only
  rw [if_neg (by simp [bne,h4'])]
  refine ⟨rfl,?_⟩
  rw [show IntKind.wrap .i64 ((stB T S f).at_+1)=((S.at_+1:Nat):Int) from w1 (by omega)]
  rfl
 rw [if_neg h4,if_neg h4]
 simp only [Option.bind_some]
 by_cases h1:(((tk T S.at_).Kind==1)&&decide ((tk T S.at_).Text=symW))=true
 ·rw [if_pos h1,if_pos h1]
  have hk:((tk T S.at_).Kind==1)=true:=by simp only [Bool.and_eq_true] at h1; exact h1.1
  obtain ⟨ok,R',e1,e2⟩:=zjX T S f hT hS (hT.next _ hi (zdn hk (by decide)))
  have e1':zbF (stB T S f) (rd (stB T S f).l (stB T S f).at_)=some (ok,R'):=e1
  rw [e1']
  exact ⟨_,_,rfl,e2⟩
 rw [if_neg h1,if_neg h1]
 show ∃ok R',(if (((tk T S.at_).Kind==1)&&decide ((tk T S.at_).Text=thrW))=true then _ else _)=some (ok,R')/\_
 by_cases h2:(((tk T S.at_).Kind==1)&&decide ((tk T S.at_).Text=thrW))=true
 ·rw [if_pos h2,if_pos h2]
  have hk:((tk T S.at_).Kind==1)=true:=by simp only [Bool.and_eq_true] at h2; exact h2.1
  unfold thrP
  have hb:(stB T S f).b.length=S.bs.length:=by simp [stB]
  have hb2:(stB T S f).p.zTh.length=S.bs.length:=by simp [stB]
  rw [hb]
  by_cases h64:S.bs.length≥64
  ·rw [if_pos (by simp; omega),if_pos h64]
   exact ⟨_,_,rfl,rfl,rfl⟩
  rw [if_neg (by simp; omega),if_neg h64,if_pos (ze0 (by omega)),hb2]
  rw [if_pos (ze0 (by omega))]
  obtain ⟨ok,R',e1,e2⟩:=ziO T ⟨S.at_+1,S.syms,S.bs,some ⟨tk T S.at_,[],[],[],[],[]⟩⟩ f hT (hT.next _ hi (zdn hk (by decide)))
  rw [zgK] at e1
  rw [show IntKind.wrap .i64 ((stB T S f).at_+1)=((S.at_+1:Nat):Int) from w1 (by omega)]
  have e1':za2 ⟨T,((S.at_+1:Nat):Int),⟨(stB T S f).p.zSy,(stB T S f).p.zTh++[⟨[]⟩]⟩,(stB T S f).b++[⟨rd T (S.at_:Int),[],[],[],[]⟩],(stB T S f).f⟩=some (ok,R'):=e1
  show ∃ok R',((za2 ⟨T,((S.at_+1:Nat):Int),⟨(stB T S f).p.zSy,(stB T S f).p.zTh++[⟨[]⟩]⟩,(stB T S f).b++[⟨rd T (S.at_:Int),[],[],[],[]⟩],(stB T S f).f⟩).bind fun v20=>some (v20.1,v20.2))=some (ok,R')/\_
  rw [e1']
  exact ⟨_,_,rfl,e2⟩
 rw [if_neg h2,if_neg h2]
 obtain ⟨ok,R',e1,e2⟩:=zm5 T S f hT hS hi hd
 have e1':zbH (stB T S f) (rd (stB T S f).l (stB T S f).at_)=some (ok,R'):=e1
 show ∃ok R',((zbH (stB T S f) (rd (stB T S f).l (stB T S f).at_)).bind fun v22=>some (v22.1,v22.2))=some (ok,R')/\_
 rw [e1']
 exact ⟨_,_,rfl,e2⟩
theorem zjQ{T:List zac}{S S':PSt}(hT:zcT T)(hS:StOk T S)(hi:S.at_<T.length)(h:zhk T S=.inr S'):S.at_<=S'.at_/\S'.at_<T.length/\S'.syms.length<=64/\(S'.done.length+S'.cur.toList.length<=64)/\(∀c,S'.cur=some c->c.all.length<=S'.at_+1/\c.open_.length<=S'.at_+1/\c.zFi.length<=S'.at_+1/\c.zTg.length=c.zFi.length/\c.ins.length=c.zFi.length)/\((S.cur=none->S.done=[])->S'.cur=none->S'.done=[]):=by
 obtain ⟨g1,g2,g3,g4⟩:=hS
 have hbl:=znn S
 unfold zhk at h
 split at h
 ·cases h
  exact ⟨Nat.le_refl _,hi,g2,g3,fun c hc=>by have:=g4 c hc; omega,fun a=>a⟩
 split at h
 ·rename_i h1
  have hk:((tk T S.at_).Kind==1)=true:=by simp only [Bool.and_eq_true] at h1; exact h1.1
  have hi1:S.at_+1<T.length:=hT.next _ hi (zdn hk (by decide))
  unfold symP at h
  split at h
  ·cases h
  split at h
  ·cases h
  rename_i h64
  split at h
  ·cases h
  rename_i hnp
  have hi2:S.at_+2<T.length:=hT.next (S.at_+1) hi1 (by have:=zh8 hnp; omega)
  split at h
  ·cases h
  split at h
  ·cases h
  rename_i h2
  have h2':(tk T (S.at_+2)).Kind=2:=by simpa [bne] using h2
  have hi3:S.at_+3<T.length:=hT.next (S.at_+2) hi2 (by show (tk T (S.at_+2)).Kind≠4; omega)
  split at h
  ·cases h
  rename_i hr
  simp only [Bool.or_eq_true,decide_eq_true_eq,not_or,Int.not_lt,Int.not_gt_eq] at hr
  split at h
  ·cases h
  rename_i j l hx
  obtain ⟨a,b,_⟩:=zfA hT (by omega) _ _ _ hi3 (by simp; omega) hx
  cases h
  exact ⟨by show S.at_<=j; omega,b,by simp; omega,g3,fun c hc=>by have:=g4 c hc; show c.all.length<=j+1/\c.open_.length<=j+1/\c.zFi.length<=j+1/\_/\_; omega,fun a=>a⟩
 split at h
 ·rename_i h1
  have hk:((tk T S.at_).Kind==1)=true:=by simp only [Bool.and_eq_true] at h1; exact h1.1
  have hi1:S.at_+1<T.length:=hT.next _ hi (zdn hk (by decide))
  unfold thrP at h
  split at h
  ·cases h
  cases h
  refine ⟨Nat.le_succ _,hi1,g2,by simp; omega,fun c hc=>?_,fun _ e=>by cases e⟩
  cases hc
  simp
 ·unfold zmt at h
  split at h
  ·cases h
  rename_i c hc
  obtain ⟨c1,c2,c3,c4,c5⟩:=g4 c hc
  split at h
  ·cases h
  rename_i j al op hx
  obtain ⟨n1,n2,w,n3,n4,n5⟩:=ze9 hT _ _ _ _ hi hx
  rw [hc] at g3
  have al_len:al.length<=j:=by rw [n3,List.length_append]; omega
  have op_len:op.length<=j:=by rw [n4,List.length_append]; omega
  split at h
  ·cases h
   refine ⟨n1,n2,g2,g3,fun c hc=>?_,fun _ e=>by cases e⟩
   cases hc
   exact ⟨Nat.le_succ_of_le al_len,Nat.le_succ_of_le op_len,(by show c.zFi.length<=j+1; omega),c4,c5⟩
  ·split at h
   ·cases h
   rename_i y t k hy
   obtain ⟨m1,m2,m3,m4⟩:=zho hT n2 hy
   cases h
   refine ⟨by show S.at_<=k; omega,m2,g2,g3,fun c hc=>?_,fun _ e=>by cases e⟩
   cases hc
   simp only [List.length_append,List.length_singleton,List.length_nil]
   omega
end Go.Vs
end
