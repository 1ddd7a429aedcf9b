import Derived.Test.YtkgpofmbegonfaaGreatDoorVu1
import Derived.Laws.AppendOwn
import Derived.Laws.RangeString
import Derived.Laws.BytesString
import Derived.Lib.OthersKept
import Derived.Lib.AppendStr
import Derived.Lib.UnsafeStr
import Derived.Lib.ConvBytes
set_option linter.all false
section
namespace Go.Vs
variable [Tab]
variable {P:Program}
theorem Ext.renew{I ι h w w'}(hr:Rel I ι h w){b:Nat}{o o':LO}{c' cur' sz':Nat}(hb:h[b]?=some o)(hlv:o.live=true)(hnh:o'≠.hole)
  (hos:w'.os=w.os) (htape:w'.tape=w.tape) (hout:w'.output=w.output) (hsize:w.heap.size<=w'.heap.size)
  (hold:∀c,c<w.heap.size->(∀cur sz,ι b≠some (c,cur,sz))->w'.heap[c]?=w.heap[c]?)
  (hplace:(w.heap.size<=c'/\c'<w'.heap.size)\/∃cur sz,ι b=some (c',cur,sz))
  (hver:∀c cur sz,ι b=some (c,cur,sz)->0<cur/\cur<cur')
  (hbr:∀ι',(∀x v,VR I w ι x v->VR I w' ι' x v)->(∀f x v,(∀d,f d->ι.sub b d)->DC I w ι f x v->DC I w' ι' f x v)->BR I w' ι' (ι.sub b) o' (c',cur',sz')) :
  Ext I ι h w I (upd ι b (c',cur',sz')) (h.set b o') w':=by
 have hlt:b<h.length:=(List.getElem?_eq_some_iff.1 hb).1
 have hownb:∀c cur sz,ι b=some (c,cur,sz)->Own ι h c:=fun c cur sz e=>Own.at hb hlv e
 have hmv:∀b',zby ι (upd ι b (c',cur',sz')) b':=fun b'=>by
  by_cases e:b'=b
  ·subst e
   refine ⟨fun c u s hc=>⟨c',cur',sz',za5 _ _ _,?_,fun e2=>?_⟩,fun c hc=>?_⟩
   ·have:=hver c u s hc; omega
   ·have:=hver c u s hc; omega
   ·have:=hver c 0 0 hc; omega
  ·exact zby.of_eq (zbj e)
 have hIs:∀k,I k->w'.heap[k]?=w.heap[k]?:=fun k hk=>hold k (hr.ilt k hk) fun cur sz e=>hr.sep k (hownb k cur sz e) hk
 have mono:∀x v,VR I w ι x v->VR I w' (upd ι b (c',cur',sz')) x v:=fun x v hv =>
  hv.mono (fun _ h=>h) hIs _ (fun b=>(hmv b).1) (fun b=>(hmv b).2)
 have hothers:∀(b':Nat) (o2:LO) c,b'≠b->h[b']?=some o2->o2.live=true->At ι b' c->w'.heap[c]?=w.heap[c]?:=fun b' o2 c hne ho2 hl2 hx =>
  hold c (hr.lt b' c hx) fun cur sz e=>hne (hr.inj b' b o2 o c ho2 hl2 hb hlv hx (.inl ⟨cur,sz,e⟩))
 have hsub:∀d,ι.sub b d->w'.heap[d]?=w.heap[d]?:=fun d hd=>hold d (hr.lt b d (.inr hd)) fun cur sz e=>hr.own1 b d cur sz e hd
 have cmono:∀f x v,(∀d,f d->ι.sub b d)->DC I w ι f x v->DC I w' (upd ι b (c',cur',sz')) f x v:=fun f x v hf hv =>
  hv.elim (fun h=>.inl (mono x v h)) (fun h=>.inr (h.mono (fun _ h=>h) hIs _ (fun _ h=>h) (fun d hd=>hsub d (hf d hd))))
 have atb:∀c,At (upd ι b (c',cur',sz')) b c->c=c'\/ι.sub b c:=fun c hc=>by
  rcases hc with ⟨u,s,h⟩ | h
  ·rw [za5] at h; simp only [Option.some.injEq,Prod.mk.injEq] at h; exact .inl h.1.symm
  ·exact .inr h
 have ato:∀b' c,b'≠b->At (upd ι b (c',cur',sz')) b' c->At ι b' c:=fun b' c e hc=>(ziZ hc).elim (fun h=>absurd h.1 e) id
 have old:∀(b':Nat) (o2:LO),(h.set b o')[b']?=some o2->b'≠b->h[b']?=some o2:=fun b' o2 h1 e=>by
  rwa [List.getElem?_set,if_neg (fun e2=>e e2.symm)] at h1
 have own:∀k,Own (upd ι b (c',cur',sz')) (h.set b o') k->Own ι h k\/w.heap.size<=k:=by
  rintro k ⟨b',o2,h1,h2,h3⟩
  by_cases e:b'=b
  ·subst e
   rcases atb k h3 with rfl | h3
   ·rcases hplace with h | ⟨cur,sz,h⟩
    ·exact .inr h.1
    ·exact .inl (hownb _ cur sz h)
   ·exact .inl ⟨b',o,hb,hlv,.inr h3⟩
  ·exact .inl ⟨b',o2,old b' o2 h1 e,h2,ato b' k e h3⟩
 have hc'lt:c'<w'.heap.size:=by
  rcases hplace with h | ⟨cur,sz,h⟩
  ·exact h.2
  ·have:=hr.lt' b _ h; simp at this; omega
 have hclash:∀b2 (o2:LO),b2≠b->(h.set b o')[b2]?=some o2->o2.live=true->∀c,At ι b2 c->(c=c'\/ι.sub b c)->False:=by
  intro b2 o2 e h1 h2 c ha hc
  rcases hc with rfl | hc
  ·rcases hplace with h | ⟨cur,sz,h⟩
   ·have:=hr.lt b2 c ha; omega
   ·exact e (hr.inj b2 b o2 o c (old b2 o2 h1 e) h2 hb hlv ha (.inl ⟨cur,sz,h⟩))
  ·exact e (hr.inj b2 b o2 o c (old b2 o2 h1 e) h2 hb hlv ha (.inr hc))
 refine ⟨⟨?_,?_,hr.tab.mono (fun _ h=>h) hIs,?_,?_,?_,?_,?_,?_⟩,⟨hos,htape,hout,hsize,fun k hk hn=>hold k hk fun cur sz e=>hn (hownb k cur sz e)⟩,fun _ h=>h,fun _ h=>.inl h,own,hmv,?_,by simp⟩
 ·intro b' x o2 hx ho
  by_cases e:b'=b
  ·subst e
   rw [za5] at hx
   obtain rfl:=Option.some.inj hx
   simp [hlt] at ho
   subst ho
   exact hbr _ mono cmono
  ·rw [zbj e] at hx
   have ho:=old b' o2 ho e
   by_cases hlo:o2.live=true
   ·exact BR.mono (fun _ h=>h) hIs hmv (fun _ h=>h) (fun d hd=>hothers b' o2 d e ho hlo (.inr hd)) (hothers b' o2 x.1 e ho hlo (.inl ⟨x.2.1,x.2.2,hx⟩)) (hr.real b' x o2 hx ho)
   ·cases o2 <;> first | trivial | exact absurd rfl hlo
 ·intro b' o2 ho hl2
  by_cases e:b'=b
  ·subst e; rw [za5]; rfl
  ·rw [zbj e]
   exact hr.dom b' o2 (old b' o2 ho e) hl2
 ·intro b1 b2 o1 o2 c h1 l1 h2 l2 a1 a2
  by_cases e1:b1=b <;> by_cases e2:b2=b
  ·omega
  ·subst e1; exact (hclash b2 o2 e2 h2 l2 c (ato b2 c e2 a2) (atb c a1)).elim
  ·subst e2; exact (hclash b1 o1 e1 h1 l1 c (ato b1 c e1 a1) (atb c a2)).elim
  ·exact hr.inj b1 b2 o1 o2 c (old b1 o1 h1 e1) l1 (old b2 o2 h2 e2) l2 (ato b1 c e1 a1) (ato b2 c e2 a2)
 ·intro b1 c u s hc hs
  by_cases e:b1=b
  ·subst e
   rw [za5] at hc
   simp only [Option.some.injEq,Prod.mk.injEq] at hc
   obtain ⟨rfl,_,_⟩:=hc
   rcases hplace with h | ⟨cur,sz,h⟩
   ·have:=hr.lt b1 c' (.inr hs); omega
   ·exact hr.own1 b1 c' cur sz h hs
  ·rw [zbj e] at hc; exact hr.own1 b1 c u s hc hs
 ·intro k hk hI
  rcases own k hk with h | h
  ·exact hr.sep k h hI
  ·have:=hr.ilt k hI; omega
 ·intro b' c hx
  by_cases e:b'=b
  ·subst e
   rcases atb c hx with rfl | h
   ·exact hc'lt
   ·have:=hr.lt b' c (.inr h); omega
  ·have:=hr.lt b' c (ato b' c e hx); omega
 ·intro k hk; have:=hr.ilt k hk; omega
 ·intro b' hb'
  by_cases e:b'=b
  ·subst e; simp [hlt] at hb'; exact absurd hb' hnh
  ·have:=hr.hole b' (old b' _ hb' e)
   exact ⟨by rw [zbj e]; exact this.1,this.2⟩
 ·intro b' hb'
  simp at hb'
  exact ⟨zbj (by omega),rfl⟩
theorem Ext.still_set{I ι h w}(hr:Rel I ι h w){b:Nat}{o o':LO}(hb:h[b]?=some o)(hlv:o.live=true)(hnh:o'≠.hole)(hn:ι b=none)(hbn:o'.born=false):Ext I ι h w I ι (h.set b o') w:=by
 have hlt:b<h.length:=(List.getElem?_eq_some_iff.1 hb).1
 have get:∀(b':Nat) (o2:LO),(h.set b o')[b']?=some o2->o2.live=true->∃o3:LO,h[b']?=some o3/\o3.live=true:=by
  intro b' o2 h1 h2
  rw [List.getElem?_set] at h1
  split at h1
  ·rename_i e
   subst e
   exact ⟨o,hb,hlv⟩
  ·exact ⟨o2,h1,h2⟩
 have own:∀k,Own ι (h.set b o') k->Own ι h k:=by
  rintro k ⟨b',o2,h1,h2,h3⟩
  obtain ⟨o3,h4,h5⟩:=get b' o2 h1 h2
  exact ⟨b',o3,h4,h5,h3⟩
 refine ⟨⟨?_,?_,hr.tab,?_,hr.own1,fun k hk=>hr.sep k (own k hk),hr.lt,hr.ilt,?_⟩,Keep.refl _ _ _,fun _ h=>h,fun _ h=>.inl h,fun k hk=>.inl (own k hk),fun b=>zby.refl _ _,fun _ _=>⟨rfl,rfl⟩,by simp⟩
 ·intro b' x o2 hx ho
  by_cases e:b=b'
  ·subst e; rw [hn] at hx; cases hx
  ·rw [List.getElem?_set,if_neg e] at ho; exact hr.real b' x o2 hx ho
 ·intro b' o2 ho hl2
  by_cases e:b=b'
  ·subst e; simp [hlt] at ho; subst ho; rw [hbn] at hl2; cases hl2
  ·rw [List.getElem?_set,if_neg e] at ho; exact hr.dom b' o2 ho hl2
 ·intro b1 b2 o1 o2 c h1 l1 h2 l2 a1 a2
  obtain ⟨o3,h3,l3⟩:=get b1 o1 h1 l1
  obtain ⟨o4,h4,l4⟩:=get b2 o2 h2 l2
  exact hr.inj b1 b2 o3 o4 c h3 l3 h4 l4 a1 a2
 ·intro b' hb'
  by_cases e:b=b'
  ·subst e; simp [hlt] at hb'; exact absurd hb' hnh
  ·rw [List.getElem?_set,if_neg e] at hb'; exact hr.hole b' hb'
def zap(P:Program)(t:TypeId):Option Nat:=(P.info? t).map (·.bytes)
theorem zi5{I w}{ι:Io}{k n:Nat}{rows:List (List AV)}(hk:∀(i:Nat) r,rows[i]?=some r->r.length=k/\r.all oneB=true)(hn:rows.length=n){cell:Nat->Option Value}
  (hc:∀(i:Nat) r (j:Nat) x,rows[i]?=some r->r[j]?=some x->∃y,cell (i * k+j)=some y/\VR I w ι x y) :
  ∃news:List Value,news.length=n * k/\(∀j v,news[j]?=some v->cell j=some v)/\(∀u∈news,u.oneCell'=true) /\
   ∀(i:Nat) r (j:Nat) x y,rows[i]?=some r->r[j]?=some x->news[i * k+j]?=some y->VR I w ι x y:=by
 rcases Nat.eq_zero_or_pos k with rfl | hk0
 ·exact ⟨[],by simp,by simp,by simp,by simp⟩
 have hall:∀m,∃y,m<n * k->cell m=some y/\y.oneCell'=true/\∀r x,rows[m / k]?=some r->r[m % k]?=some x->VR I w ι x y:=by
  intro m
  by_cases hm:m<n * k
  ·have hi:m / k<rows.length:=by rw [hn]; exact (Nat.div_lt_iff_lt_mul hk0).2 hm
   have hj:m % k<k:=Nat.mod_lt _ hk0
   obtain ⟨hrl,hr1⟩:=hk (m / k) rows[m / k] (List.getElem?_eq_getElem hi)
   have hjr:m % k<rows[m / k].length:=by omega
   obtain ⟨y,hy,hv⟩:=hc (m / k) _ (m % k) _ (List.getElem?_eq_getElem hi) (List.getElem?_eq_getElem hjr)
   refine ⟨y,fun _=>⟨by rw [← hy]; congr 1; rw [Nat.mul_comm]; exact (Nat.div_add_mod m k).symm,hv.one ((List.all_eq_true.1 hr1) _ (List.getElem_mem hjr)),fun r x hr hx=>?_⟩⟩
   rw [List.getElem?_eq_getElem hi] at hr
   obtain rfl:=Option.some.inj hr
   rw [List.getElem?_eq_getElem hjr] at hx
   obtain rfl:=Option.some.inj hx
   exact hv
  ·exact ⟨undef,fun h=>absurd h hm⟩
 have hsp:=fun m=>Classical.choose_spec (hall m)
 refine ⟨(List.range (n * k)).map fun m=>Classical.choose (hall m),by simp,?_,?_,?_⟩
 ·intro j v hj
  have hjl:j<n * k:=by have:=(List.getElem?_eq_some_iff.1 hj).1; simpa using this
  simp only [List.getElem?_map,List.getElem?_range hjl,Option.map_some,Option.some.injEq] at hj
  subst hj
  exact (hsp j hjl).1
 ·intro u hu
  simp only [List.mem_map,List.mem_range] at hu
  obtain ⟨m,hm,rfl⟩:=hu
  exact (hsp m hm).2.1
 ·intro i r j x y hi hj hy
  have hjk:j<k:=by rw [← (hk i r hi).1]; exact (List.getElem?_eq_some_iff.1 hj).1
  have hm:i * k+j<n * k:=by have:=(List.getElem?_eq_some_iff.1 hy).1; simpa using this
  simp only [List.getElem?_map,List.getElem?_range hm,Option.map_some,Option.some.injEq] at hy
  subst hy
  have e1:(i * k+j) / k=i:=by rw [Nat.mul_comm,Nat.mul_add_div hk0,Nat.div_eq_of_lt hjk]; simp
  have e2:(i * k+j) % k=j:=by rw [Nat.mul_comm,Nat.mul_add_mod,Nat.mod_eq_of_lt hjk]
  exact (hsp _ hm).2.2 r x (by rw [e1]; exact hi) (by rw [e2]; exact hj)
def Src(I:Nat->Prop)(ι:Io)(w:World)(k:Nat)(rows:List (List AV))(v:Value):Prop :=
 ∃a n c,v=.slice a n c/\n=rows.length/\(rows≠[]->∃ad:Addr,a=some ad/\∃news:List Value,news.length=n * k/\(∀j v,news[j]?=some v->w.cell? (ad.add j)=some v)/\(∀u∈news,u.oneCell'=true) /\
   ∀(i:Nat) r (j:Nat) x y,rows[i]?=some r->r[j]?=some x->news[i * k+j]?=some y->VR I w ι x y)
theorem Src.sl{I ι w k rows v}(h:VR I w ι (.sl rows) v)(hr:∀(i:Nat) r,rows[i]?=some r->r.length=k/\r.all oneB=true):Src I ι w k rows v:=by
 obtain ⟨⟨a,cap,e⟩,hx⟩:=h.sl_inv
 refine ⟨a,rows.length,cap,e,rfl,fun hne=>?_⟩
 obtain ⟨r0,hr0⟩:∃r,rows[0]?=some r:=⟨rows[0]'(List.length_pos_iff.2 hne),List.getElem?_eq_getElem _⟩
 obtain ⟨c,off,cap',e',hI,hcap,_⟩:=hx 0 r0 hr0
 rw [e] at e'
 injection e' with e1 e2 e3
 subst e1
 refine ⟨_,rfl,zi5 hr rfl (cell:=fun j=>w.cell? ((⟨c,off,none⟩:Addr).add j)) fun i r j x hi hj=>?_⟩
 obtain ⟨c2,off2,cap2,e2',hI2,hcap2,hcell⟩:=hx i r hi
 rw [e] at e2'
 injection e2' with e1 e2 e3
 simp only [Option.some.injEq,Addr.mk.injEq] at e1
 obtain ⟨rfl,rfl,_⟩:=e1
 obtain ⟨y,hy,hv⟩:=hcell j x hj
 rw [(hr i r hi).1] at hy
 exact ⟨y,by rw [zbA]; exact hy,hv.pure ι⟩
theorem Src.msl{I ι h w b ver off k len cap rs ty v}(hrel:Rel I ι h w)(hv:VR I w ι (.msl b ver off k len cap) v)(hh:h[b]?=some (.rows rs k ver ty))(hle:off+len<=rs.length)
  (h1:∀(i:Nat) r,rs[i]?=some r->r.all oneB=true):Src I ι w k ((rs.drop off).take len) v:=by
 have hlen:((rs.drop off).take len).length=len:=by simp; omega
 have hget:∀(i:Nat) r,((rs.drop off).take len)[i]?=some r->rs[off+i]?=some r/\i<len:=by
  intro i r hi
  have:=(List.getElem?_eq_some_iff.1 hi).1
  rw [hlen] at this
  rw [List.getElem?_take_of_lt this,List.getElem?_drop] at hi
  exact ⟨hi,this⟩
 rcases hv.msl_inv with ⟨a,n,ccap,c,cur,sz,rfl,hib,hver,hcc⟩ | ⟨rfl,rfl,rfl⟩
 ·obtain ⟨e1,e0,arr,f,⟨_,harr,-⟩,hsz,hle2,hlens,hparts,hx⟩:=hrel.real b _ _ hib hh
  obtain ⟨had,rfl,hcap,hncap,hroom⟩:=hcc e1
  refine ⟨some a,n,ccap,rfl,hlen.symm,fun hne=>?_⟩
  have hn0:n≠0:=fun e=>hne (by apply List.eq_nil_of_length_eq_zero; omega)
  obtain rfl:=had.resolve_right (by omega)
  refine ⟨_,rfl,zi5 (fun i r hi=>⟨hlens _ r (hget i r hi).1,h1 _ r (hget i r hi).1⟩) hlen (cell:=fun j=>w.cell? ((⟨c,off * k,none⟩:Addr).add j)) fun i r j x hi hj=>?_⟩
  obtain ⟨hi',hin⟩:=hget i r hi
  have hjk:j<k:=by rw [← hlens _ r hi']; exact (List.getElem?_eq_some_iff.1 hj).1
  have hm:(off+i+1) * k<=rs.length * k:=Nat.mul_le_mul_right _ (by omega)
  rw [Nat.add_mul,Nat.one_mul] at hm
  have hlt:(off+i) * k+j<arr.size:=by omega
  have he:off * k+(i * k+j)=(off+i) * k+j:=by rw [Nat.add_mul]; omega
  exact ⟨arr[(off+i) * k+j],by simp [zbA,World.cell?,harr,he,hlt],(hx _ r j x _ hi' hj (by simp [hlt])).plain (zld ((List.all_eq_true.1 (h1 _ r hi')) x (List.mem_of_getElem? hj)))⟩
 ·refine ⟨none,0,0,rfl,by simp,fun hne=>absurd (by simp) hne⟩
theorem zda(a:Addr)(w:World):(storeCells a []).run P w=.ok () w:=by simp [storeCells]
theorem zdP{t ty e:TypeId}{i:TypeInfo}(ht:P.underlying t=some (.slice e))(hi:P.info? e=some i)(base:Option Addr)(sLen sCap:Nat)(hle:sLen<=sCap)(a:Option Addr)(c:Nat)(w:World) :
  (Builtin.append_ #[t,t] ty #[.slice base sLen sCap,.slice a 0 c]).run P w=.ok (.slice base sLen sCap) w:=by
 cases a with
 | none=>cases base <;> simp [Builtin.append_,run_underlying ht,sizeOf,typeInfo,hi,Builtin.lenOf,hle,run_firstCells_none,zda]
 | some a =>
  have hf:=run_firstCells_some (P:=P) w i.size 0 a 0 c [] (by simp) (by simp)
  cases base <;> simp [Builtin.append_,run_underlying ht,sizeOf,typeInfo,hi,Builtin.lenOf,hle,hf,zda]
theorem zgW{t:TypeId}{i:TypeInfo}{z:List AV}(hi:P.info? t=some i)(hz:zaH P t=some z):∃v:Value,i.zero=some v/\v.cells.size=z.length:=by
 unfold zaH at hz
 rw [hi] at hz
 cases hv:i.zero with
 | none=>simp [hv] at hz
 | some v=>simp [hv] at hz; subst hz; exact ⟨v,rfl,by simp⟩
theorem zdr(z:Array Value)(n:Nat):(Builtin.zeroCells z n).size=n * z.size:=by simp [Builtin.zeroCells]
theorem zgB{w:World}(t ty e:TypeId)(i:TypeInfo)(ht:P.underlying t=some (.slice e))(hi:P.info? e=some i)
  (g sLen sCap:Nat) (cur:Array Value) (hg:zeq w g cur e)
  (a:Addr) (m c:Nat) (news:List Value) (hl:news.length=m * i.size) (hnews:∀j u,news[j]?=some u->w.cell? (a.add j)=some u) (h1:∀u∈news,u.oneCell'=true)
  (hroom:sLen+m<=sCap) (hfit:sLen * i.size+news.length<=cur.size) :
  (Builtin.append_ #[t,t] ty #[.slice (some ⟨g,0,none⟩) sLen sCap,.slice (some a) m c]).run P w =
   .ok (.slice (some ⟨g,0,none⟩) (sLen+m) sCap) (w.setRow g (cur.toList.take (sLen * i.size)++news++cur.toList.drop (sLen * i.size+news.length)).toArray):=by
 obtain ⟨z,hg,hz⟩:=hg
 have hf:=run_firstCells_some (P:=P) w i.size m a m c news hl hnews
 have hst:=zcr (P:=P) g (sLen * i.size) e z news 0 cur w hg hz (by simpa using hfit) h1
 simp only [Nat.add_zero] at hst
 simp [Builtin.append_,run_underlying ht,sizeOf,typeInfo,hi,Builtin.lenOf,hroom,hf,Addr.add_lit,hst]
theorem zhF{t ty e:TypeId}{k b ver len cap bts:Nat}{z:List AV}{rs rows2:List (List AV)}(ht:P.underlying t=some (.slice e))(hk:tsz P e=some k)(hk0:k≠0)(hz:zaH P e=some z)(hzk:z.length=k)
  (hb:zap P e=some bts) (hb2:bts<=32768) {I ι h w} (hr:Rel I ι h w) {v u:Value} (hv:VR I w ι (.msl b ver 0 k len cap) v) (hh:h[b]?=some (.rows rs k ver e)) (hlen:len<=rs.length)
  (hs:Src I ι w k rows2 u) (hr2:∀(i:Nat) r,rows2[i]?=some r->r.length=k) (hn:len+rows2.length<=4294967296) :
  ∃v' w' ι',(Builtin.append_ #[t,t] ty #[v,u]).run P w=.ok v' w'/\Ext I ι h w I ι' (h.set b (.rows (rs.take len++rows2) k (ver+1) e)) w'/\VR I w' ι' (.msl b (ver+1) 0 k (len+rows2.length) (len+rows2.length)) v':=by
 obtain ⟨i,hi,hik⟩:∃i,P.info? e=some i/\i.size=k:=by
  unfold tsz at hk
  cases hi:P.info? e with
  | none=>simp [hi] at hk
  | some i=>simp [hi] at hk; exact ⟨i,rfl,hk⟩
 obtain ⟨zv,hzv,hzs⟩:=zgW hi hz
 rw [hzk] at hzs
 have hbt:i.bytes=bts:=by unfold zap at hb; simp [hi] at hb; exact hb
 obtain ⟨ua,un,uc,rfl,rfl,hsrc⟩:=hs
 have hlt:b<h.length:=(List.getElem?_eq_some_iff.1 hh).1
 have hrow1:∀cur sz c,ι b=some (c,cur,sz)->(∀(i:Nat) r,rs[i]?=some r->r.length=k):=fun cur sz c hib2=>(hr.real b _ _ hib2 hh).2.2.choose_spec.choose_spec.2.2.2.1
 have hrl:∀(hrs:∀(i:Nat) r,rs[i]?=some r->r.length=k),∀(i:Nat) r,(rs.take len++rows2)[i]?=some r->r.length=k:=by
  intro hrs i r hir
  rw [List.getElem?_append] at hir
  split at hir
  ·rw [List.getElem?_take] at hir
   split at hir
   ·exact hrs i r hir
   ·cases hir
  ·exact hr2 _ r hir
 have htl:(rs.take len).length=len:=by simp; omega
 have hget:∀(i:Nat) r,(rs.take len++rows2)[i]?=some r->(i<len/\rs[i]?=some r)\/(len<=i/\rows2[i-len]?=some r):=by
  intro i r hir
  rw [List.getElem?_append,htl] at hir
  split at hir
  ·rename_i hlt2; rw [List.getElem?_take_of_lt hlt2] at hir; exact .inl ⟨hlt2,hir⟩
  ·exact .inr ⟨by omega,hir⟩
 have hmul:∀i j n:Nat,i<n->j<k->i * k+j<n * k:=by
  intro i j n h1 h2
  have:(i+1) * k<=n * k:=Nat.mul_le_mul_right _ h1
  rw [Nat.add_mul,Nat.one_mul] at this; omega
 rcases hv.msl_inv with ⟨a,n,ccap,c,cur,sz,rfl,hib,hver,hcc⟩ | ⟨rfl,rfl,rfl⟩
 ·obtain ⟨e1,e0,arr,f,harr,hsz,hle2,hlens,hparts,hx⟩:=hr.real b _ _ hib hh
  obtain ⟨had,rfl,hcap,hncap,hroom⟩:=hcc e1
  simp only [Nat.zero_add,Nat.zero_mul] at hroom had
  by_cases h0:rows2.length=0
  ·have hr0:rows2=[]:=List.eq_nil_of_length_eq_zero h0
   subst hr0
   refine ⟨_,w,upd ι b (c,ver+1,sz),zdP ht hi (some a) n ccap hncap ua uc w,Ext.renew hr hh rfl (by simp) rfl rfl rfl (Nat.le_refl _) (fun _ _ _=>rfl) (.inr ⟨cur,sz,hib⟩) (fun c' u s hc=>?_) (fun ι' mono cmono=>?_),?_⟩
   ·rw [hib] at hc; simp only [Option.some.injEq,Prod.mk.injEq] at hc; omega
   ·refine ⟨rfl,by omega,arr,f,harr,hsz,?_,hrl hlens,hparts,fun i r j x y hi hj hy=>?_⟩
    ·simp only [List.append_nil,htl]
     exact Nat.le_trans (Nat.mul_le_mul_right _ hlen) hle2
    ·rcases hget i r hi with ⟨_,h2⟩ | ⟨_,h2⟩
     ·exact cmono _ _ _ (hparts.1 _) (hx i r j x y h2 hj hy)
     ·simp at h2
   ·simp only [List.length_nil,Nat.add_zero]
    exact .msl c (ver+1) sz (za5 _ _ _) (Nat.le_refl _) fun _=>⟨by simpa using had,rfl,hncap,hncap,by simpa using hroom⟩
  ·obtain ⟨ad,rfl,news,hnl,hnc,hn1,hnv⟩:=hsrc (by intro e; subst e; simp at h0)
   rw [← hik] at hnl
   by_cases hroom2:n+rows2.length<=ccap
   ·obtain rfl:=had.resolve_right (by omega)
    have hnk:(n+rows2.length) * k<=ccap * k:=Nat.mul_le_mul_right _ hroom2
    rw [Nat.add_mul] at hnk
    have hnl':news.length=rows2.length * k:=by rw [hnl,hik]
    have hfit:n * i.size+news.length<=arr.size:=by rw [hik]; omega
    have hrun:=zgB (P:=P) t ty e i ht hi c n ccap arr harr ad rows2.length uc news hnl hnc hn1 hroom2 hfit
    refine ⟨_,_,upd ι b (c,ver+1,sz),hrun,Ext.renew hr hh rfl (by simp) (by simp) (by simp) (by simp) (by simp) (fun k' hk' hne=>setRow_other w c k' _ (fun e=>hne cur sz (e▸hib))) (.inr ⟨cur,sz,hib⟩) (fun c' u s hc=>?_) (fun ι' mono cmono=>?_),?_⟩
    ·rw [hib] at hc; simp only [Option.some.injEq,Prod.mk.injEq] at hc; omega
    ·refine ⟨rfl,by omega,_,f,harr.setRow (by simp; omega),?_,?_,hrl hlens,hparts,fun i2 r j x y hi2 hj hy=>cmono _ _ _ (hparts.1 _) ?_⟩
     ·simp; omega
     ·simp only [List.length_append,htl]; rw [Nat.add_mul]; omega
     ·have hjk:j<k:=by rw [← hrl hlens i2 r hi2]; exact (List.getElem?_eq_some_iff.1 hj).1
      rw [zgT _ _ _ (by rw [hik]; omega),hik] at hy
      rcases hget i2 r hi2 with ⟨h1,h2⟩ | ⟨h1,h2⟩
      ·have:=hmul i2 j n h1 hjk
       rw [if_neg (by omega)] at hy
       exact hx i2 r j x y h2 hj hy
      ·have hi2l:i2-n<rows2.length:=(List.getElem?_eq_some_iff.1 h2).1
       have hlow:n * k<=i2 * k:=Nat.mul_le_mul_right _ h1
       have:=hmul (i2-n) j rows2.length hi2l hjk
       have he:i2 * k+j-n * k=(i2-n) * k+j:=by rw [Nat.sub_mul]; omega
       have he3:(i2-n) * k=i2 * k-n * k:=Nat.sub_mul _ _ _
       rw [if_pos (by omega),he] at hy
       exact .inl (hnv (i2-n) r j x y h2 hj hy)
    ·exact .msl c (ver+1) sz (za5 _ _ _) (Nat.le_refl _) fun _=>⟨.inl (by simp),rfl,hroom2,hroom2,by simpa using hroom⟩
   ·have hold:∃olds:List Value,olds.length=n * i.size/\(∀j v,olds[j]?=some v->w.cell? (a.add j)=some v)/\∀j,j<n * k->olds[j]?=arr[j]?:=by
     by_cases hn0:n=0
     ·subst hn0; exact ⟨[],by simp,by simp,by simp⟩
     ·obtain rfl:=had.resolve_right (by omega)
      have hle3:n * k<=arr.size:=by
       have:=Nat.mul_le_mul_right k hncap; omega
      refine ⟨arr.toList.take (n * k),by simp [hik]; omega,fun j v hj=>?_,fun j hj=>by rw [List.getElem?_take_of_lt hj]; simp⟩
      have hjl:=(List.getElem?_eq_some_iff.1 hj).1
      simp at hjl
      rw [List.getElem?_take_of_lt (by omega)] at hj
      obtain ⟨_,harr,-⟩:=harr
      simp only [zbA,Nat.zero_add,World.cell?,harr]
      simpa using hj
    obtain ⟨olds,hol,hoc,hoa⟩:=hold
    have hrun:=run_append_grow (P:=P) w t ty e i zv ht hi hzv a n ccap olds hol hoc ad rows2.length uc news hnl hnc (by omega) (by omega) (growslice_fits (by omega) (by
     rw [hbt]
     calc (n+rows2.length) * bts<=4294967296 * 32768:=Nat.mul_le_mul hn hb2
      _<=140737488355328:=by omega))
    have hge:=grownCap_ge w (n+rows2.length) ccap e
    generalize grownCap w (n+rows2.length) ccap e=nc at hrun hge
    have hsz2:(olds.toArray++news.toArray++Builtin.zeroCells zv.cells (nc-(n+rows2.length))).size=nc * k:=by
     simp only [Array.size_append,List.size_toArray,zdr,hzs,hol,hnl,hik,← Nat.add_mul]
     congr 1; omega
    refine ⟨_,_,upd ι b (w.heap.size,ver+1,nc * k),hrun,Ext.renew hr hh rfl (by simp) rfl rfl rfl (by simp) (fun k' hk' _=>alloc_old w.drew _ k' hk') (.inl ⟨Nat.le_refl _,by simp⟩) (fun c' u s hc=>?_) (fun ι' mono cmono=>?_),?_⟩
    ·rw [hib] at hc; simp only [Option.some.injEq,Prod.mk.injEq] at hc; omega
    ·refine ⟨rfl,by omega,_,f,zeq.of (zbN w.drew _),hsz2,?_,hrl hlens,hparts,fun i2 r j x y hi2 hj hy=>cmono _ _ _ (hparts.1 _) ?_⟩
     ·simp only [List.length_append,htl]; exact Nat.mul_le_mul_right _ hge
     ·have hjk:j<k:=by rw [← hrl hlens i2 r hi2]; exact (List.getElem?_eq_some_iff.1 hj).1
      rw [Array.append_assoc,Array.getElem?_append] at hy
      simp only [List.size_toArray,hol,hik] at hy
      rcases hget i2 r hi2 with ⟨h1,h2⟩ | ⟨h1,h2⟩
      ·have:=hmul i2 j n h1 hjk
       rw [if_pos this] at hy
       simp only [List.getElem?_toArray] at hy
       rw [hoa _ this] at hy
       exact hx i2 r j x y h2 hj hy
      ·have hi2l:i2-n<rows2.length:=(List.getElem?_eq_some_iff.1 h2).1
       have hlow:n * k<=i2 * k:=Nat.mul_le_mul_right _ h1
       have hm2:=hmul (i2-n) j rows2.length hi2l hjk
       have he3:(i2-n) * k=i2 * k-n * k:=Nat.sub_mul _ _ _
       have he:i2 * k+j-n * k=(i2-n) * k+j:=by omega
       rw [if_neg (by omega),Array.getElem?_append] at hy
       simp only [List.size_toArray,hnl,hik] at hy
       rw [if_pos (by omega),he] at hy
       exact .inl (hnv (i2-n) r j x y h2 hj (by simpa using hy))
    ·exact .msl w.heap.size (ver+1) (nc * k) (za5 _ _ _) (Nat.le_refl _) fun _=>⟨.inl (by simp),rfl,hge,hge,by simp⟩
 ·by_cases h0:rows2.length=0
  ·have hr0:rows2=[]:=List.eq_nil_of_length_eq_zero h0
   subst hr0
   have hrun:=zdP (P:=P) (ty:=ty) ht hi none 0 0 (Nat.le_refl _) ua uc w
   cases hib:ι b with
   | none =>
    refine ⟨_,w,ι,hrun,Ext.still_set hr hh rfl (by simp) hib (by simp [LO.born]),?_⟩
    simp only [List.length_nil,Nat.add_zero]; exact .mslnil
   | some q =>
    obtain ⟨c,cur,sz⟩:=q
    obtain ⟨e1,e0,arr,f,harr,hsz,hle2,hlens,hparts,hx⟩:=hr.real b _ _ hib hh
    refine ⟨_,w,upd ι b (c,ver+1,sz),hrun,Ext.renew hr hh rfl (by simp) rfl rfl rfl (Nat.le_refl _) (fun _ _ _=>rfl) (.inr ⟨cur,sz,hib⟩) (fun c' u s hc=>?_) (fun ι' mono cmono=>?_),?_⟩
    ·rw [hib] at hc; simp only [Option.some.injEq,Prod.mk.injEq] at hc; omega
    ·exact ⟨rfl,by omega,arr,f,harr,hsz,by simp,by simp,hparts,by simp⟩
    ·simp only [List.length_nil,Nat.add_zero]; exact .mslnil
  ·obtain ⟨ad,rfl,news,hnl,hnc,hn1,hnv⟩:=hsrc (by intro e; subst e; simp at h0)
   rw [← hik] at hnl
   have hrun:=run_append_nil (P:=P) w t ty e i zv ht hi hzv ad rows2.length uc news hnl hnc (by omega) (by omega) (by
    rw [hbt]
    calc rows2.length * bts<=4294967296 * 32768:=Nat.mul_le_mul (by omega) hb2
     _<=281474976710656:=by omega)
   have hge:=grownCap_ge w rows2.length 0 e
   generalize grownCap w rows2.length 0 e=nc at hrun hge
   have hsz2:(news.toArray++Builtin.zeroCells zv.cells (nc-rows2.length)).size=nc * k:=by
    simp only [Array.size_append,List.size_toArray,zdr,hzs,hnl,hik,← Nat.add_mul]
    congr 1; omega
   refine ⟨_,_,upd ι b (w.heap.size,ver+1,nc * k),hrun,Ext.renew hr hh rfl (by simp) rfl rfl rfl (by simp) (fun k' hk' _=>alloc_old w.drew _ k' hk') (.inl ⟨Nat.le_refl _,by simp⟩) (fun c' u s hc=>?_) (fun ι' mono cmono=>?_),?_⟩
   ·obtain ⟨e1,e0,_⟩:=hr.real b _ _ hc hh; omega
   ·simp only [List.take_zero,List.nil_append] at hrl ⊢
    refine ⟨rfl,by omega,_,_,zeq.of (zbN w.drew _),hsz2,Nat.mul_le_mul_right _ hge,hr2,zdF.none,fun i2 r j x y hi2 hj hy=>.inl (mono _ _ ?_)⟩
    have hjk:j<k:=by rw [← hr2 i2 r hi2]; exact (List.getElem?_eq_some_iff.1 hj).1
    have hi2l:i2<rows2.length:=(List.getElem?_eq_some_iff.1 hi2).1
    have hm2:=hmul i2 j rows2.length hi2l hjk
    rw [Array.getElem?_append] at hy
    simp only [List.size_toArray,hnl,hik] at hy
    rw [if_pos hm2] at hy
    exact hnv i2 r j x y hi2 hj (by simpa using hy)
   ·simp only [Nat.zero_add]
    exact .msl w.heap.size (ver+1) (nc * k) (za5 _ _ _) (Nat.le_refl _) fun _=>⟨.inl (by simp),rfl,hge,hge,by simp⟩
theorem Step.appendA{o:Oper}{ρ:Operand->AV}{h:Hp}{t e:TypeId}{s x:Operand}{k b ver len cap bts:Nat}{z:List AV}{rs rows2:List (List AV)}(ho:o.op=.call { callee:=.builtin .append,args:=#[s,x],argTypes:=#[t,t] })
  (he:zak P t=some e) (hk:tsz P e=some k) (hk0:k≠0) (hz:zaH P e=some z) (hzk:z.length=k) (hb:zap P e=some bts) (hb2:bts<=32768) (hs:ρ s=.msl b ver 0 k len cap) (hh:h[b]?=some (.rows rs k ver e)) (hlen:len<=rs.length)
  (hsrc:∀I ι w v,Rel I ι h w->VR I w ι (ρ x) v->Src I ι w k rows2 v) (hr2:∀(i:Nat) r,rows2[i]?=some r->r.length=k) (hn:len+rows2.length<=4294967296) :
  Step P o ρ h (.msl b (ver+1) 0 k (len+rows2.length) (len+rows2.length)) (h.set b (.rows (rs.take len++rows2) k (ver+1) e)):=by
 intro I ι w a hr _ hx next Q K
 have h1:=hx s (by simp [ho,Op.operands,Call.operands])
 have h2:=hx x (by simp [ho,Op.operands,Call.operands])
 rw [hs] at h1
 obtain ⟨v',w',ι',hrun,hext,hv⟩:=zhF (P:=P) (ty:=o.type) (zaR he) hk hk0 hz hzk hb hb2 hr h1 hh hlen (hsrc I ι w _ hr h2) hr2 hn
 unfold Oper.wp execOp
 simp only [ho,resolve,Go.invoke,builtin,Sem.run_bind,Sem.run_pure,Result.andThen_ok,List.map_toArray,List.map_cons,List.map_nil,hrun]
 exact K v' w' I ι' hext hv
end Go.Vs
end
section
namespace Go.Vs
variable [Tab]
variable {P:Program}
def Fits(n:Nat):Prop:=n<=4294967296
instance (n:Nat):Decidable (Fits n):=inferInstanceAs (Decidable (_<=_))
def zcP(k:Nat)(rows:List (List AV)):Bool:=rows.all fun r=>r.length==k&&r.all oneB
theorem zeg{k:Nat}{rows:List (List AV)}(h:zcP k rows=true){i:Nat}{r:List AV}(hi:rows[i]?=some r):r.length=k/\r.all oneB=true:=by
 have:=(List.all_eq_true.1 h) r (List.mem_of_getElem? hi)
 simpa only [Bool.and_eq_true,beq_iff_eq] using this
theorem zbB{α:Type}{k:Nat}{f:α->List AV}(h:∀x,(f x).length=k/\(f x).all oneB=true)(l:List α):zcP k (l.map f)=true:=by
 simp only [zcP,List.all_map,List.all_eq_true]
 intro x _
 have:=h x
 simp only [Function.comp_apply,this.1,this.2,beq_self_eq_true,Bool.and_self]
theorem zmr{k:Nat}:zcP k []=true:=rfl
theorem zk2{k:Nat}{r:List AV}{l:List (List AV)}:zcP k (r::l)=((r.length==k&&r.all oneB)&&zcP k l):=by simp [zcP]
def srcA(h:Hp)(k:Nat):AV->Option (List (List AV))
 | .sl rows=>if zcP k rows=true then some rows else none
 | .msl b ver off k' len cap=>match h[b]? with
  | some (.rows rs k2 v _)=>if (v=ver/\k'=k/\k2=k)/\off+len<=rs.length/\zcP k rs=true then some ((rs.drop off).take len) else none
  | _=>none
 | .nils=>some []
 | .emp=>some []
 | _=>none
theorem zfH{I ι h w k x v rows}(hr:Rel I ι h w)(hv:VR I w ι x v)(hs:srcA h k x=some rows):Src I ι w k rows v/\∀(i:Nat) r,rows[i]?=some r->r.length=k/\r.all oneB=true:=by
 unfold srcA at hs
 split at hs
 ·split at hs
  ·rename_i h1
   obtain rfl:=Option.some.inj hs
   exact ⟨Src.sl hv fun i r hi=>zeg h1 hi,fun i r hi=>zeg h1 hi⟩
  ·cases hs
 ·rename_i b ver off k' len cap
  split at hs
  ·rename_i rs k2 v2 ty hb
   split at hs
   ·rename_i hc
    obtain ⟨⟨rfl,rfl,rfl⟩,h2,h3⟩:=hc
    obtain rfl:=Option.some.inj hs
    refine ⟨Src.msl hr hv hb h2 fun i r hi=>(zeg h3 hi).2,fun i r hi=>?_⟩
    rw [List.getElem?_take] at hi
    split at hi
    ·rw [List.getElem?_drop] at hi; exact zeg h3 hi
    ·cases hi
   ·cases hs
  ·cases hs
 ·obtain rfl:=Option.some.inj hs
  obtain rfl:=hv.nils_inv
  exact ⟨⟨none,0,0,rfl,rfl,fun h=>absurd rfl h⟩,by simp⟩
 ·obtain rfl:=Option.some.inj hs
  obtain ⟨a0,rfl⟩:=hv.emp_inv
  exact ⟨⟨a0,0,0,rfl,rfl,fun h=>absurd rfl h⟩,by simp⟩
 ·cases hs
def apA(P:Program)(t:TypeId)(h:Hp)(s x:AV):Option (AV × Hp) :=
 match s with
 | .msl b ver off k len cap=>match h[b]? with
  | some (.rows rs k2 v ty)=>(zak P t).bind fun e=>(tsz P e).bind fun k3=>(zaH P e).bind fun z=>(zap P e).bind fun bts=>(srcA h k x).bind fun rows2 =>
   if (off=0/\v=ver/\k2=k/\k3=k/\ty=e/\k≠0/\z.length=k/\bts<=32768/\len<=rs.length)/\Fits (len+rows2.length) then
    some (.msl b (ver+1) 0 k (len+rows2.length) (len+rows2.length),h.set b (.rows (rs.take len++rows2) k (ver+1) ty)) else none
  | _=>none
 | .nils=>(zak P t).bind fun e=>(tsz P e).bind fun k=>(zaH P e).bind fun z=>(zap P e).bind fun bts=>(srcA h k x).bind fun rows2 =>
   if (k≠0/\z.length=k/\bts<=32768)/\Fits rows2.length then some (.msl h.length 1 0 k rows2.length rows2.length,h++[.rows rows2 k 1 e]) else none
 | _=>none
theorem zkg{h:Hp}{k:Nat}{x:AV}{rows:List (List AV)}(hs:srcA h k x=some rows):∀(i:Nat) r,rows[i]?=some r->r.length=k:=by
 intro i r hi
 unfold srcA at hs
 split at hs
 ·split at hs
  ·rename_i h1; obtain rfl:=Option.some.inj hs; exact (zeg h1 hi).1
  ·cases hs
 ·split at hs
  ·split at hs
   ·rename_i hc; obtain rfl:=Option.some.inj hs
    rw [List.getElem?_take] at hi
    split at hi
    ·rw [List.getElem?_drop] at hi; exact (zeg hc.2.2 hi).1
    ·cases hi
   ·cases hs
  ·cases hs
 ·obtain rfl:=Option.some.inj hs; simp at hi
 ·obtain rfl:=Option.some.inj hs; simp at hi
 ·cases hs
theorem Ext.grow{I ι h w}(hr:Rel I ι h w){o:LO}(hf:ι.free h.length)(ho:o.born=false):Ext I ι h w I ι (h++[o]) w:=by
 have get:∀(b:Nat) (o2:LO),(h++[o])[b]?=some o2->h[b]?=some o2\/(b=h.length/\o2=o):=by
  intro b o2 h1
  rw [List.getElem?_append] at h1
  split at h1
  ·exact .inl h1
  ·rename_i hge
   have:=(List.getElem?_eq_some_iff.1 h1).1
   simp at this
   have:b=h.length:=by omega
   subst this; simp at h1; exact .inr ⟨rfl,h1.symm⟩
 have own:∀k,Own ι (h++[o]) k->Own ι h k:=by
  rintro k ⟨b,o2,h1,h2,h3⟩
  rcases get b o2 h1 with h1 | ⟨rfl,rfl⟩
  ·exact ⟨b,o2,h1,h2,h3⟩
  ·exact absurd h3 hf.not
 refine ⟨⟨?_,?_,hr.tab,?_,hr.own1,fun k hk=>hr.sep k (own k hk),hr.lt,hr.ilt,?_⟩,Keep.refl _ _ _,fun _ h=>h,fun _ h=>.inl h,fun k hk=>.inl (own k hk),fun b=>zby.refl _ _,fun _ _=>⟨rfl,rfl⟩,by simp⟩
 ·intro b x o2 hx ho2
  rcases get b o2 ho2 with h1 | ⟨rfl,rfl⟩
  ·exact hr.real b x o2 hx h1
  ·rw [hf.1] at hx; cases hx
 ·intro b o2 ho2 hl
  rcases get b o2 ho2 with h1 | ⟨rfl,rfl⟩
  ·exact hr.dom b o2 h1 hl
  ·rw [ho] at hl; cases hl
 ·intro b1 b2 o1 o2 c h1 l1 h2 l2 a1 a2
  rcases get b1 o1 h1 with h1 | ⟨rfl,rfl⟩
  ·rcases get b2 o2 h2 with h2 | ⟨rfl,rfl⟩
   ·exact hr.inj b1 b2 o1 o2 c h1 l1 h2 l2 a1 a2
   ·exact absurd a2 hf.not
  ·exact absurd a1 hf.not
 ·intro b hb
  rcases get b _ hb with h1 | ⟨rfl,_⟩
  ·exact hr.hole b h1
  ·exact hf
theorem Step.appendNil{o:Oper}{ρ:Operand->AV}{h:Hp}{t e:TypeId}{s x:Operand}{k bts:Nat}{z:List AV}{rows2:List (List AV)}(ho:o.op=.call { callee:=.builtin .append,args:=#[s,x],argTypes:=#[t,t] })
  (he:zak P t=some e) (hk:tsz P e=some k) (hk0:k≠0) (hz:zaH P e=some z) (hzk:z.length=k) (hb:zap P e=some bts) (hb2:bts<=32768) (hs:ρ s=.nils)
  (hsrc:srcA h k (ρ x)=some rows2) (hn:Fits rows2.length):Step P o ρ h (.msl h.length 1 0 k rows2.length rows2.length) (h++[.rows rows2 k 1 e]):=by
 intro I ι w a hr hf hx next Q K
 have h1:=hx s (by simp [ho,Op.operands,Call.operands])
 have h2:=hx x (by simp [ho,Op.operands,Call.operands])
 rw [hs] at h1
 have hf':=hf h.length (Nat.le_refl _) (by simp)
 have hg:=Ext.grow hr (o:=.rows [] k 0 e) hf' rfl
 have hv:VR I w ι (.msl h.length 0 0 k 0 0) (a.eval s):=by rw [h1.nils_inv]; exact .mslnil
 have hsr:=(zfH hr h2 hsrc).1
 have hnn:0+rows2.length<=4294967296:=by rw [Nat.zero_add]; exact hn
 obtain ⟨v',w',ι',hrun,hext,hv'⟩:=zhF (P:=P) (ty:=o.type) (rs:=[]) (zaR he) hk hk0 hz hzk hb hb2 hg.rel hv (by simp) (Nat.zero_le _) hsr (zkg hsrc) hnn
 simp only [List.take_zero,List.nil_append,Nat.zero_add,List.set_append_right _ _ (Nat.le_refl _),Nat.sub_self,List.set_cons_zero] at hext hv'
 unfold Oper.wp execOp
 simp only [ho,resolve,Go.invoke,builtin,Sem.run_bind,Sem.run_pure,Result.andThen_ok,List.map_toArray,List.map_cons,List.map_nil,hrun]
 exact K v' w' I ι' (hg.trans hext) hv'
theorem Step.append{o:Oper}{ρ:Operand->AV}{h:Hp}{t:TypeId}{s x:Operand}{r:AV × Hp}(ho:o.op=.call { callee:=.builtin .append,args:=#[s,x],argTypes:=#[t,t] })(hr:apA P t h (ρ s) (ρ x)=some r):Step P o ρ h r.1 r.2:=by
 unfold apA at hr
 split at hr
 ·rename_i b ver off k len cap hs
  split at hr
  ·rename_i rs k2 v ty hb
   simp only [Option.bind_eq_some_iff] at hr
   obtain ⟨e,he,k3,hk,z,hz,bts,hbt,rows2,hsrc,hr⟩:=hr
   split at hr
   ·rename_i hc
    obtain ⟨⟨rfl,rfl,rfl,rfl,rfl,hk0,hzk,hb2,hlen⟩,hn⟩:=hc
    obtain rfl:=Option.some.inj hr
    have hnn:len+rows2.length<=4294967296:=hn
    exact Step.appendA ho he hk hk0 hz hzk hbt hb2 hs hb hlen (fun I ι w v hrel hv=>(zfH hrel hv hsrc).1) (zkg hsrc) hnn
   ·cases hr
  ·cases hr
 ·rename_i hs
  simp only [Option.bind_eq_some_iff] at hr
  obtain ⟨e,he,k,hk,z,hz,bts,hbt,rows2,hsrc,hr⟩:=hr
  split at hr
  ·rename_i hc
   obtain ⟨⟨hk0,hzk,hb2⟩,hn⟩:=hc
   obtain rfl:=Option.some.inj hr
   exact Step.appendNil ho he hk hk0 hz hzk hbt hb2 hs hsrc hn
  ·cases hr
 ·cases hr
def apI(P:Program)(t:TypeId)(h:Hp)(s x:AV):Option AV :=
 match s with
 | .nils | .emp=>(zak P t).bind fun e=>(tsz P e).bind fun k=>(zaH P e).bind fun z=>(zap P e).bind fun bts=>(srcA h k x).bind fun rows2 =>
   if (k≠0/\z.length=k/\bts<=32768)/\rows2.all zbe=true/\Fits rows2.length then some (.sl rows2) else none
 | _=>none
theorem Step.appendI{o:Oper}{ρ:Operand->AV}{h:Hp}{t:TypeId}{s x:Operand}{r:AV}(ho:o.op=.call { callee:=.builtin .append,args:=#[s,x],argTypes:=#[t,t] })(hr:apI P t h (ρ s) (ρ x)=some r):Step P o ρ h r h:=by
 intro I ι w a hrel hf hx next Q K
 have h1:=hx s (by simp [ho,Op.operands,Call.operands])
 have h2:=hx x (by simp [ho,Op.operands,Call.operands])
 obtain ⟨a0,hbase⟩:∃a0,a.eval s=.slice a0 0 0:=by
  unfold apI at hr
  split at hr
  ·rename_i hs; rw [hs] at h1; exact ⟨none,h1.nils_inv⟩
  ·rename_i hs; rw [hs] at h1; exact h1.emp_inv
  ·cases hr
 have hr':(zak P t).bind (fun e=>(tsz P e).bind fun k=>(zaH P e).bind fun z=>(zap P e).bind fun bts=>(srcA h k (ρ x)).bind fun rows2 =>
   if (k≠0/\z.length=k/\bts<=32768)/\rows2.all zbe=true/\Fits rows2.length then some (.sl rows2) else none)=some r:=by
  unfold apI at hr
  split at hr
  ·exact hr
  ·exact hr
  ·cases hr
 simp only [Option.bind_eq_some_iff] at hr'
 obtain ⟨e,he,k,hk,z,hz,bts,hbt,rows2,hsrc,hr'⟩:=hr'
 split at hr'
 ·rename_i hc
  obtain ⟨⟨hk0,hzk,hb2⟩,hpure,hn⟩:=hc
  obtain rfl:=Option.some.inj hr'
  have hnn:rows2.length<=4294967296:=hn
  obtain ⟨⟨ua,un,uc,hu,rfl,hsr⟩,hrow⟩:=zfH hrel h2 hsrc
  obtain ⟨i,hi,hik⟩:∃i,P.info? e=some i/\i.size=k:=by
   unfold tsz at hk
   cases hi:P.info? e with
   | none=>simp [hi] at hk
   | some i=>simp [hi] at hk; exact ⟨i,rfl,hk⟩
  obtain ⟨zv,hzv,hzs⟩:=zgW hi hz
  rw [hzk] at hzs
  have hbt2:i.bytes=bts:=by unfold zap at hbt; simp [hi] at hbt; exact hbt
  have go:∀v w' I',(Builtin.append_ #[t,t] o.type #[a.eval s,a.eval x]).run P w=.ok v w'->Ext I ι h w I' ι h w'->VR I' w' ι (.sl rows2) v->o.wp P a w next Q:=by
   intro v w' I' hrun hext hv
   unfold Oper.wp execOp
   simp only [ho,resolve,Go.invoke,builtin,Sem.run_bind,Sem.run_pure,Result.andThen_ok,List.map_toArray,List.map_cons,List.map_nil,hrun]
   exact K v w' I' ι hext hv
  by_cases h0:rows2.length=0
  ·have hr0:rows2=[]:=List.eq_nil_of_length_eq_zero h0
   subst hr0
   refine go (.slice a0 0 0) w I ?_ (Ext.refl hrel) .sl0
   rw [hbase,hu]
   exact zdP (zaR he) hi a0 0 0 (Nat.le_refl _) ua uc w
  ·obtain ⟨ad,rfl,news,hnl,hnc,hn1,hnv⟩:=hsr (by intro e; subst e; simp at h0)
   rw [← hik] at hnl
   have fit:∀n:Nat,n<=4294967296->n * i.bytes<=140737488355328:=fun n hn=>by
    rw [hbt2]
    calc n * bts<=4294967296 * 32768:=Nat.mul_le_mul hn hb2
     _<=140737488355328:=by omega
   have key:∀(nc:Nat) (arr:Array Value) (v:Value),rows2.length<=nc->v=.slice (some ⟨w.heap.size,0,none⟩) rows2.length nc->(∀m,m<rows2.length * k->arr[m]?=news[m]?) ->
     (Builtin.append_ #[t,t] o.type #[a.eval s,a.eval x]).run P w=.ok v (w.drew.alloc (.cells arr e))->o.wp P a w next Q:=by
    rintro nc arr v hge rfl harr hrun
    have hb:RowKit.Below w.heap.size w (w.drew.alloc (.cells arr e)):=⟨rfl,rfl,rfl,by simp,fun c hc=>alloc_old w.drew _ c hc⟩
    have hext:Ext I ι h w (fun c=>I c\/c=w.heap.size) ι h (w.drew.alloc (.cells arr e)):=by
     refine Ext.below hrel hb (fun c h=>.inl h) (fun c h=>?_) (fun c h=>?_)
     ·rcases h with h | h
      ·have:=hrel.ilt c h; simp; omega
      ·subst h; simp
     ·exact h.imp id (fun e=>by omega)
    refine go _ _ _ hrun hext ?_
    have hcell:∀(i:Nat) r (j:Nat) x,rows2[i]?=some r->r[j]?=some x->∃y,(w.drew.alloc (.cells arr e)).cell? ⟨w.heap.size,0+(i * k+j),none⟩=some y/\VR I w ι x y/\zcX x=true:=by
     intro i2 r j x2 hi2 hj
     have hjk:j<k:=by rw [← (hrow i2 r hi2).1]; exact (List.getElem?_eq_some_iff.1 hj).1
     have hi2l:i2<rows2.length:=(List.getElem?_eq_some_iff.1 hi2).1
     have hm:i2 * k+j<rows2.length * k:=by
      have:(i2+1) * k<=rows2.length * k:=Nat.mul_le_mul_right _ hi2l
      rw [Nat.add_mul,Nat.one_mul] at this; omega
     have hnlt:i2 * k+j<news.length:=by rw [hnl,hik]; exact hm
     have ha:=harr _ hm
     rw [List.getElem?_eq_getElem hnlt] at ha
     refine ⟨news[i2 * k+j],?_,hnv i2 r j x2 _ hi2 hj (List.getElem?_eq_getElem hnlt),zb6 ((List.all_eq_true.1 hpure) r (List.mem_of_getElem? hi2)) j x2 hj⟩
     have hnew:(w.drew.alloc (.cells arr e)).heap[w.heap.size]?=some (.cells arr e):=zbN w.drew _
     simp only [World.cell?,hnew,Nat.zero_add]
     simp [ha]
    refine .sl k w.heap.size 0 nc (.inr rfl) rfl hge (fun i r hi=>(hrow i r hi).1) (fun i r j x hi hj=>?_) (fun i r j x y hi hj hy=>?_)
    ·obtain ⟨y,hy,_⟩:=hcell i r j x hi hj; exact ⟨y,hy⟩
    ·obtain ⟨y',hy',hv,hp⟩:=hcell i r j x hi hj
     rw [hy'] at hy
     obtain rfl:=Option.some.inj hy
     exact (hv.ext hrel hext).to_pure hp
   cases a0 with
   | none =>
    have hrun:=run_append_nil (P:=P) w t o.type e i zv (zaR he) hi hzv ad rows2.length uc news hnl hnc (by omega) (by omega) (by have:=fit _ hnn; omega)
    refine key _ _ _ (grownCap_ge w rows2.length 0 e) rfl (fun m hm=>?_) (by rw [hbase,hu]; exact hrun)
    rw [Array.getElem?_append,List.size_toArray,if_pos (by rw [hnl,hik]; exact hm)]; simp
   | some b0 =>
    have hrun:=run_append_grow (P:=P) w t o.type e i zv (zaR he) hi hzv b0 0 0 [] (by simp) (by simp) ad rows2.length uc news hnl hnc (by omega) (by omega) (growslice_fits (by omega) (by rw [Nat.zero_add]; exact fit _ hnn))
    simp only [Nat.zero_add] at hrun
    refine key _ _ _ (grownCap_ge w rows2.length 0 e) rfl (fun m hm=>?_) (by rw [hbase,hu]; exact hrun)
    rw [Array.append_assoc,Array.getElem?_append,List.size_toArray,List.length_nil,if_neg (by omega),Array.getElem?_append,List.size_toArray,if_pos (by rw [hnl,hik]; simpa using hm)]; simp
 ·cases hr'
theorem Step.newRows{o:Oper}{ρ:Operand->AV}{h:Hp}{ty:TypeId}{rs:List (List AV)}{k:Nat}
  (hs:∀(I:Nat->Prop) (ι:Io) (w:World) (a:Act),Rel I ι h w->(∀x∈o.op.operands,VR I w ι (ρ x) (a.eval x)) ->
   ∃arr:Array Value,(execOp a.eval o).run P w=.ok (.value (.slice (some ⟨w.heap.size,0,none⟩) rs.length rs.length)) (w.alloc (.cells arr ty))/\arr.size=rs.length * k/\(∀(i:Nat) r,rs[i]?=some r->r.length=k) /\
    ∀(i:Nat) r (j:Nat) x y,rs[i]?=some r->r[j]?=some x->arr[i * k+j]?=some y->VR I w ι x y):Step P o ρ h (.msl h.length 1 0 k rs.length rs.length) (h++[.rows rs k 1 ty]):=by
 intro I ι w a hr hf hx next Q K
 obtain ⟨arr,hrun,hsz,hl,hxy⟩:=hs I ι w a hr hx
 unfold Oper.wp
 rw [hrun]
 refine K _ _ I _ (Ext.alloc hr (hf _ (Nat.le_refl _) (by simp)) (.rows rs k 1 ty) (.cells arr ty) 1 arr.size rfl ?_) ?_
 ·rintro w' ι' rfl rfl mono
  exact ⟨rfl,by omega,arr,_,zeq.of (zbN _ _),rfl,by omega,hl,zdF.none,fun i r j x y hi hj hy=>.inl (mono _ _ (hxy i r j x y hi hj hy))⟩
 ·exact .msl _ 1 arr.size (za5 _ _ _) (Nat.le_refl _) fun _=>⟨.inl (by simp),rfl,Nat.le_refl _,Nat.le_refl _,by rw [Nat.zero_add]; omega⟩
theorem zf5{o:Oper}{ρ:Operand->AV}{h:Hp}{t e:TypeId}{n k:Nat}{parts:Array (Nat × Operand)}{z:List AV}(ho:o.op=.buildSlice t n parts)(he:zak P t=some e)(hk:tsz P e=some k)
  (hz:zaH P e=some z) (hn:parts.toList.map (·.1)=List.range n) (hk0:k≠0) (hb:n * k<=16777216) (hr:(parts.toList.map fun q=>ρ q.2).all (fun x=>(cellsOf x).length==k&&(cellsOf x).all oneB)=true) :
  ∀(I:Nat->Prop) (ι:Io) (w:World) (a:Act),Rel I ι h w->(∀x∈o.op.operands,VR I w ι (ρ x) (a.eval x)) ->
   ∃arr:Array Value,(execOp a.eval o).run P w=.ok (.value (.slice (some ⟨w.heap.size,0,none⟩) (parts.toList.map fun q=>cellsOf (ρ q.2)).length (parts.toList.map fun q=>cellsOf (ρ q.2)).length)) (w.alloc (.cells arr e))/\arr.size=(parts.toList.map fun q=>cellsOf (ρ q.2)).length * k/\(∀(i:Nat) r,(parts.toList.map fun q=>cellsOf (ρ q.2))[i]?=some r->r.length=k) /\
    ∀(i:Nat) r (j:Nat) x y,(parts.toList.map fun q=>cellsOf (ρ q.2))[i]?=some r->r[j]?=some x->arr[i * k+j]?=some y->VR I w ι x y:=by
 intro I ι w a hrel hx
 have hlen:parts.toList.length=n:=by have:=congrArg List.length hn; simpa using this
 have hu:=zaR he
 obtain ⟨zv,hzr,_⟩:=ze6 hz
 have hrow:∀x∈parts.toList.map (fun q=>ρ q.2),(cellsOf x).length=k/\(cellsOf x).all oneB=true:=fun x hx=>by
  have:=(List.all_eq_true.1 hr) x hx
  simpa only [Bool.and_eq_true,beq_iff_eq] using this
 have hparts:(parts.toList.map fun q=>(q.1,ρ q.2))=((parts.toList.map fun q=>ρ q.2).zipIdx 0).map fun q=>(q.2,q.1):=by
  apply List.ext_getElem?
  intro j
  simp only [List.getElem?_map,List.getElem?_zipIdx,Nat.zero_add]
  cases hj:parts.toList[j]? with
  | none=>simp
  | some q =>
   have h1:=congrArg (·[j]?) hn
   simp only [List.getElem?_map,hj,Option.map_some] at h1
   have hlt:j<n:=by rw [← hlen]; exact (List.getElem?_eq_some_iff.1 hj).1
   rw [List.getElem?_range hlt] at h1
   simp only [Option.some.injEq] at h1
   simp [h1]
 have hfa:=zgh k (parts.toList.map fun q=>ρ q.2) 0 (List.replicate (n * k) .undef) (fun x hx=>hrow x hx) (by simp [hlen])
 rw [← hparts] at hfa
 simp only [List.length_map,hlen,Nat.zero_add,Nat.zero_mul,List.take_zero,List.nil_append] at hfa
 rw [List.drop_eq_nil_of_le (by simp),List.append_nil] at hfa
 have hxs:∀q∈parts,VR I w ι (ρ q.2) (a.eval q.2):=fun q hq=>hx q.2 (by simp only [ho,Op.operands]; simp; exact ⟨q.1,hq⟩)
 obtain ⟨zr,hz1,hz2⟩:∃zr:Array Value,(n * k=0->zr=#[])/\(¬n * k=0->zr=zv.cells):=by
  by_cases h0:n * k=0
  ·exact ⟨#[],fun _=>rfl,fun h=>absurd h0 h⟩
  ·exact ⟨zv.cells,fun h=>absurd h h0,fun _=>rfl⟩
 obtain ⟨arr',ha,hcr⟩:=zf2 (I:=I) (w:=w) (ι:=ι) (place:=fun i=>some (i * k,k)) (parts.toList.map fun q=>(q.1,ρ q.2)) (parts.toList.map fun q=>(q.1,a.eval q.2)) _ ((Array.range (n * k)).map (zr[· % zr.size]!)) (by simp)
  (fun j p q hp hq=>by
   simp only [List.getElem?_map,Array.getElem?_toList,Option.map_eq_some_iff] at hp hq
   obtain ⟨p0,hp0,rfl⟩:=hp
   obtain ⟨q0,hq0,rfl⟩:=hq
   rw [hp0] at hq0
   obtain rfl:=Option.some.inj hq0
   exact ⟨rfl,hxs p0 (Array.mem_of_getElem? hp0)⟩) (cs:=List.replicate (n * k) .undef) ⟨by simp,fun j x y hx hy=>by
    have:=List.eq_of_mem_replicate (List.mem_of_getElem? hx); subst this; exact .undef⟩ hfa
 have hfl:((parts.toList.map fun q=>ρ q.2).map cellsOf)=parts.toList.map fun q=>cellsOf (ρ q.2):=by simp
 rw [hfl] at hcr
 have hkl:∀(i:Nat) r,(parts.toList.map fun q=>cellsOf (ρ q.2))[i]?=some r->r.length=k:=by
  intro i r hi
  simp only [List.getElem?_map,Option.map_eq_some_iff] at hi
  obtain ⟨q,hq,rfl⟩:=hi
  exact (hrow _ (List.mem_map.2 ⟨q,List.mem_of_getElem? hq,rfl⟩)).1
 refine ⟨arr',?_,?_,hkl,?_⟩
 ·unfold execOp
  have hparts2:(parts.map fun q=>(q.1,a.eval q.2)).toList=parts.toList.map fun q=>(q.1,a.eval q.2):=by simp
  simp only [ho,Instr.buildSlice]
  rw [Sem.run_bind,Sem.run_bind,zaq hu]
  simp only [Result.andThen_ok]
  rw [Sem.run_bind,zaZ hk]
  simp only [Result.andThen_ok]
  rw [if_neg (by omega)]
  rw [hparts2]
  by_cases h0:n * k=0
  ·have:=hz1 h0
   subst this
   simp only [if_pos h0,Sem.run_bind,Sem.run_pure,Result.andThen_ok,ha]
   simp [newRow,hlen]
  ·have:=hz2 h0
   subst this
   simp only [if_neg h0,Sem.run_bind,hzr,Sem.run_pure,Result.andThen_ok,ha]
   simp [newRow,hlen]
 ·rw [hcr.1,List.length_flatten,List.map_map]
  have:∀l:List (Nat × Operand),(∀q∈l,(cellsOf (ρ q.2)).length=k)->(l.map (List.length ∘ fun q=>cellsOf (ρ q.2))).sum=l.length * k:=by
   intro l
   induction l with
   | nil=>simp
   | cons q l ih=>intro hq; simp [hq q (List.mem_cons_self ..),ih fun q' h'=>hq q' (List.mem_cons_of_mem _ h'),Nat.add_mul]; omega
  rw [this _ fun q hq=>(hrow _ (List.mem_map.2 ⟨q,hq,rfl⟩)).1]; simp
 ·intro i r j x y hi hj hy
  have hjk:j<k:=by rw [← hkl i r hi]; exact (List.getElem?_eq_some_iff.1 hj).1
  have hfg:=ziR (parts.toList.map fun q=>cellsOf (ρ q.2)) (fun r hr=>by
   obtain ⟨i,hi⟩:=List.mem_iff_getElem?.1 hr; exact hkl i r hi) i j r hi hjk
  rw [hj] at hfg
  exact hcr.2 _ x y hfg hy
theorem Step.buildOwn{o:Oper}{ρ:Operand->AV}{h:Hp}{t e:TypeId}{n k:Nat}{parts:Array (Nat × Operand)}{z:List AV}(ho:o.op=.buildSlice t n parts)(he:zak P t=some e)(hk:tsz P e=some k)
  (hz:zaH P e=some z) (hn:parts.toList.map (·.1)=List.range n) (hk0:k≠0) (hb:n * k<=16777216) (hr:(parts.toList.map fun q=>ρ q.2).all (fun x=>(cellsOf x).length==k&&(cellsOf x).all oneB)=true) :
  Step P o ρ h (.msl h.length 1 0 k n n) (h++[.rows (parts.toList.map fun q=>cellsOf (ρ q.2)) k 1 e]):=by
 have hlen:parts.toList.length=n:=by have:=congrArg List.length hn; simpa using this
 have key:=Step.newRows (P:=P) (o:=o) (ρ:=ρ) (h:=h) (ty:=e) (rs:=parts.toList.map fun q=>cellsOf (ρ q.2)) (k:=k) (zf5 ho he hk hz hn hk0 hb hr)
 simp only [List.length_map,hlen] at key; exact key
theorem Step.buildEmp{o:Oper}{ρ:Operand->AV}{h:Hp}{t e:TypeId}{k:Nat}{parts:Array (Nat × Operand)}{z:List AV}(ho:o.op=.buildSlice t 0 parts)(he:zak P t=some e)(hk:tsz P e=some k)
  (hz:zaH P e=some z) (hn:parts.toList.map (·.1)=List.range 0):Step P o ρ h .emp h:=by
 intro I ι w a hrel _ hx next Q K
 have hu:=zaR he
 have hp:parts=#[]:=by
  have:parts.toList=[]:=by simpa using hn
  simpa using this
 subst hp
 have hrun:(execOp a.eval o).run P w=.ok (.value (.slice (some ⟨w.heap.size,0,none⟩) 0 0)) (w.alloc (.cells #[] e)):=by
  unfold execOp
  simp only [ho,Instr.buildSlice]
  rw [Sem.run_bind,Sem.run_bind,zaq hu]
  simp only [Result.andThen_ok]
  rw [Sem.run_bind,zaZ hk]
  simp only [Result.andThen_ok]
  rw [if_neg (by omega)]
  have hemp:∀f:Nat->Value,Array.map f (Array.range 0)=#[]:=fun f=>Array.eq_empty_of_size_eq_zero (by simp)
  simp [newRow,Instr.fill,hemp]
 unfold Oper.wp
 rw [hrun]
 exact K _ _ _ ι (Ext.allocI hrel (.cells #[] e)) .emp
def mkA(P:Program)(t:TypeId):AV->AV->Option (Nat × Nat × List AV × TypeId)
 | .int _ n,.int _ c=>(zak P t).bind fun e=>(tsz P e).bind fun k=>(zaH P e).bind fun z=>(zap P e).bind fun bts =>
  if (n=c/\z.length=k/\k≠0/\bts<=32768)/\0<=n/\Fits n.toNat then some (n.toNat,k,z,e) else none
 | _,_=>none
theorem Step.makeSlice{o:Oper}{ρ:Operand->AV}{h:Hp}{t:TypeId}{n c:Operand}{q:Nat × Nat × List AV × TypeId}(ho:o.op=.makeSlice t n c)(hq:mkA P t (ρ n) (ρ c)=some q) :
  Step P o ρ h (.msl h.length 1 0 q.2.1 q.1 q.1) (h++[.rows (List.replicate q.1 q.2.2.1) q.2.1 1 q.2.2.2]):=by
 unfold mkA at hq
 split at hq
 ·rename_i kk1 a kk2 b hn hc
  simp only [Option.bind_eq_some_iff] at hq
  obtain ⟨e,he,k,hk,z,hz,bts,hbt,hq⟩:=hq
  split at hq
  ·rename_i hcond
   obtain ⟨⟨rfl,hzk,hk0,hb2⟩,h0,hfit⟩:=hcond
   obtain rfl:=Option.some.inj hq
   have hfit':a.toNat<=4294967296:=hfit
   have:=Step.newRows (P:=P) (o:=o) (ρ:=ρ) (h:=h) (ty:=e) (rs:=List.replicate a.toNat z) (k:=k) fun I ι w ac hr hx=>?_
   ·simpa using this
   have h1:=hx n (by simp [ho,Op.operands])
   have h2:=hx c (by simp [ho,Op.operands])
   rw [hn] at h1; rw [hc] at h2
   obtain ⟨zv,hzr,hzc⟩:=ze6 hz
   obtain ⟨z1,z2⟩:=ze4 (I:=I) (w:=w) (ι:=ι) hzc
   obtain ⟨i,hi,hib⟩:∃i,P.info? e=some i/\i.bytes=bts:=by
    unfold zap at hbt
    cases hi:P.info? e with
    | none=>simp [hi] at hbt
    | some i=>simp [hi] at hbt; exact ⟨i,rfl,hbt⟩
   refine ⟨(Array.range (a.toNat * k)).map (zv.cells[· % zv.cells.size]!),?_,by simp,?_,?_⟩
   ·have hw:IntKind.i64.wrap a=a:=by
     simp only [IntKind.wrap,IntKind.bits,IntKind.signed,Bool.true_and,decide_eq_true_eq,ge_iff_le]
     split <;> omega
    have hprod:(i.bytes:Int) * a<=140737488355328:=by
     have e1:i.bytes * a.toNat<=32768 * 4294967296:=Nat.mul_le_mul (by omega) hfit'
     have e2:((i.bytes * a.toNat:Nat):Int)=(i.bytes:Int) * a:=by rw [Int.natCast_mul,Int.toNat_of_nonneg h0]
     omega
    have c1:¬(281474976710656<(i.bytes:Int) * a):=by omega
    have c2:¬(a<0):=by omega
    unfold execOp
    simp only [ho,h1.int_inv,h2.int_inv,Instr.makeSlice,Sem.run_bind,zaq (zaR he),Result.andThen_ok]
    by_cases hz0:a.toNat * k=0
    ·simp [asInt,asIntOf,typeInfo,hi,hw,c1,c2,zaZ hk,hz0,newRow]
     have hemp:∀f:Nat->Value,Array.map f (Array.range 0)=#[]:=fun f=>Array.eq_empty_of_size_eq_zero (by simp)
     rw [hemp,hemp]
    ·simp [asInt,asIntOf,typeInfo,hi,hw,c1,c2,zaZ hk,hz0,hzr,newRow]
   ·intro i r hir
    have:=List.eq_of_mem_replicate (List.mem_of_getElem? hir)
    rw [this]; exact hzk
   ·intro i r j x y hir hj hy
    have hr1:=List.eq_of_mem_replicate (List.mem_of_getElem? hir)
    subst hr1
    have hjk:j<k:=by rw [← hzk]; exact (List.getElem?_eq_some_iff.1 hj).1
    have hm:i * k+j<a.toNat * k:=by have:=(Array.getElem?_eq_some_iff.1 hy).1; simpa using this
    have hmod:(i * k+j) % k=j:=by rw [Nat.mul_comm,Nat.mul_add_mod,Nat.mod_eq_of_lt hjk]
    have hzsz:zv.cells.size=k:=by omega
    simp only [Array.getElem?_map,Array.getElem?_range,hm,if_true,Option.map_some,Option.some.injEq,hzsz,hmod] at hy
    have hlt:j<zv.cells.size:=by omega
    rw [getElem!_pos zv.cells j hlt] at hy
    exact z2 j x y hj (by simp [hlt,hy])
  ·cases hq
 ·cases hq
def mslA(h:Hp)(lo hi:Option AV):AV->Option AV
 | .msl b ver off k len cap=>match h[b]? with
  | some (.rows rs k2 v _)=>if v=ver/\k2=k then (zj2 len lo hi).map fun q=>.msl b ver (off+q.1) k (q.2-q.1) (q.2-q.1) else none
  | _=>none
 | _=>none
theorem Step.sliceMsl{o:Oper}{ρ:Operand->AV}{h:Hp}{t e:TypeId}{k:Nat}{x:Operand}{lo hi:Option Operand}{r:AV}(ho:o.op=.slice t x lo hi none)(ht:zak P t=some e)(hk:tsz P e=some k)
  (hkk:∀b ver off k' len cap,ρ x=.msl b ver off k' len cap->k'=k) (hr:mslA h (lo.map ρ) (hi.map ρ) (ρ x)=some r):Step P o ρ h r h:=by
 refine Step.still fun I ι w a hrel hv=>?_
 have hu:=zaR ht
 have h1:=hv x (by simp [ho,Op.operands])
 unfold mslA at hr
 split at hr
 ·rename_i b ver off k' len cap hx
  obtain rfl:=hkk _ _ _ _ _ _ hx
  rw [hx] at h1
  split at hr
  ·rename_i rs k2 v ty hb
   split at hr
   ·rename_i hc
    obtain ⟨rfl,rfl⟩:=hc
    simp only [Option.map_eq_some_iff] at hr
    obtain ⟨⟨l,u⟩,hbd,rfl⟩:=hr
    have hv1:∀y,lo=some y->VR I w ι (ρ y) (a.eval y):=fun y e=>hv y (by subst e; simp [ho,Op.operands])
    have hv2:∀y,hi=some y->VR I w ι (ρ y) (a.eval y):=fun y e=>hv y (by subst e; simp [ho,Op.operands])
    have hrun:∀(ad:Option Addr) (n ccap:Nat),n=len->n<=ccap->a.eval x=.slice ad n ccap ->
      (execOp a.eval o).run P w=.ok (.value (.slice (if ccap=l then ad else ad.map (·.add (l * k2))) (u-l) (ccap-l))) w/\l<=u/\u<=n:=by
     rintro ad n ccap rfl hnc hax
     obtain ⟨g,g1,g2⟩:=zhC (P:=P) (a:=a) (cap:=ccap) (w:=w) true hnc (fun e=>by cases e) hv1 hv2 hbd
     refine ⟨?_,g1,g2⟩
     unfold execOp
     simp only [ho,Instr.sliceAt,hax]
     rw [Sem.run_bind,Sem.run_bind,zaq hu]
     simp only [Result.andThen_ok,Instr.slice,Option.map_none]
     rw [Sem.run_bind,zaq hu]
     simp [g,zaZ hk]
    rcases h1.msl_inv with ⟨ad,n,ccap,c,cur,sz,e1,hib,hver,hcc⟩ | ⟨e1,rfl,rfl⟩
    ·have hreal:=hrel.real b _ _ hib hb
     obtain ⟨had,rfl,hcap,hncap,hroom⟩:=hcc hreal.1
     obtain ⟨g,g1,g2⟩:=hrun _ _ _ rfl hncap e1
     dsimp only at g1 g2 ⊢
     by_cases hcl:ccap=l
     ·rw [if_pos hcl] at g
      have:u-l=0:=by omega
      refine ⟨_,g,.msl c cur sz hib hver fun _=>⟨.inr ⟨by omega,by rcases had with e | e; exact (by rw [e]); exact e.2⟩,rfl,by omega,by omega,?_⟩⟩
      have:off+l+(ccap-l)=off+ccap:=by omega
      rw [this]; exact hroom
     ·rw [if_neg hcl,Option.map_some] at g
      obtain rfl:=had.resolve_right (by omega)
      refine ⟨_,g,.msl c cur sz hib hver fun _=>⟨.inl (by rw [zbA,Nat.add_mul]),rfl,by omega,by omega,?_⟩⟩
      have:off+l+(ccap-l)=off+ccap:=by omega
      rw [this]; exact hroom
    ·obtain ⟨g,g1,g2⟩:=hrun _ _ _ rfl (Nat.le_refl _) e1
     dsimp only at g1 g2 ⊢
     have hu0:u=0:=by omega
     have hl0:l=0:=by omega
     subst hu0; subst hl0
     refine ⟨_,g,?_⟩
     simp only [if_true,Nat.sub_self]
     exact .mslnil
   ·cases hr
  ·cases hr
 ·cases hr
theorem Step.rangeStr{o:Oper}{ρ:Operand->AV}{h:Hp}{t:TypeId}{x:Operand}{s:ByteArray}(ho:o.op=.range t x)(ht:P.underlying t=some .string)(hx:ρ x=.str s):Step P o ρ h (.ptr h.length 0 0) (h++[.siter s 0]):=by
 intro I ι w a hr hf hv next Q K
 have h1:=hv x (by simp [ho,Op.operands])
 rw [hx] at h1
 unfold Oper.wp execOp
 simp only [ho,h1.str_inv,Sem.run_bind,run_range_string w t s ht,Result.andThen_ok,Sem.run_pure]
 refine K _ _ I _ (Ext.alloc hr (hf _ (Nat.le_refl _) (by simp)) (.siter s 0) (.stringIter s 0) 0 0 rfl ?_) ?_
 ·rintro w' ι' rfl rfl mono
  exact ⟨rfl,rfl,zbN _ _⟩
 ·exact .ptr _ 0 0 (za5 _ _ _) (Nat.le_refl _) fun _=>rfl
theorem Ext.iter{I ι h w}(hr:Rel I ι h w){b:Nat}{s:ByteArray}{pos pos' c cur sz:Nat}(hb:h[b]?=some (.siter s pos))(hi:ι b=some (c,cur,sz)):Ext I ι h w I ι (h.set b (.siter s pos')) (w.iterAt c s pos'):=by
 have hlt:b<h.length:=(List.getElem?_eq_some_iff.1 hb).1
 obtain ⟨hcur,hsz,hw⟩:=hr.real b _ _ hi hb
 have hclt:c<w.heap.size:=(Array.getElem?_eq_some_iff.1 hw).1
 exact Ext.turn hr hb rfl hi (by simp) rfl rfl rfl (by simp [World.iterAt]) (fun k hk=>by simp only [World.iterAt,Array.getElem?_setIfInBounds]; rw [if_neg (fun e=>hk e.symm)])
  fun _ _=>⟨hcur,hsz,by simp [World.iterAt,hclt]⟩
def zmO(h:Hp):AV->Option (AV × Hp)
 | .ptr b 0 0=>match h[b]? with
  | some (.siter s pos)=>if pos<s.size then some (.tuple [.bool true,.int .i64 pos,.int .i32 (Utf8.decode s pos).1],h.set b (.siter s (pos+(Utf8.decode s pos).2))) else some (.tuple [.bool false],h)
  | _=>none
 | _=>none
theorem Step.next{o:Oper}{ρ:Operand->AV}{h:Hp}{x:Operand}{r:AV × Hp}(ho:o.op=.next x true)(hr:zmO h (ρ x)=some r):Step P o ρ h r.1 r.2:=by
 intro I ι w a hrel hf hv next Q K
 have h1:=hv x (by simp [ho,Op.operands])
 unfold zmO at hr
 split at hr
 ·rename_i b hx
  rw [hx] at h1
  obtain ⟨ad,c,cur,sz,e1,hib,hver,hc⟩:=h1.ptr_inv
  split at hr
  ·rename_i s pos hb
   obtain ⟨hcur,hsz,hw⟩:=hrel.real b _ _ hib hb
   have:=hc hcur.symm
   subst this
   split at hr
   ·rename_i hp
    obtain rfl:=Option.some.inj hr
    have hrun:=Lib.run_next_any_at (P:=P) w c s pos o.type hw hp
    unfold Oper.wp execOp
    simp only [ho,e1,Sem.run_bind,hrun,Result.andThen_ok,Sem.run_pure]
    refine K _ _ I ι (Ext.iter hrel hb hib) (.tuple rfl fun j p q hp' hq=>?_)
    match j,hp',hq with
    | 0,hp',hq=>simp at hp' hq; subst hp'; subst hq; exact .bool _
    | 1,hp',hq=>simp at hp' hq; subst hp'; subst hq; exact .int _ _
    | 2,hp',hq=>simp at hp' hq; subst hp'; subst hq; exact .int _ _
    | _+3,hp',hq=>simp at hp'
   ·rename_i hp
    obtain rfl:=Option.some.inj hr
    have hrun:=Lib.run_next_end_at (P:=P) w c s pos o.type hw hp
    unfold Oper.wp execOp
    simp only [ho,e1,Sem.run_bind,hrun,Result.andThen_ok,Sem.run_pure]
    refine K _ _ I ι (Ext.refl hrel) (.tuple rfl fun j p q hp' hq=>?_)
    match j,hp',hq with
    | 0,hp',hq=>simp at hp' hq; subst hp'; subst hq; exact .bool _
    | _+1,hp',hq=>simp at hp'
  ·cases hr
 ·cases hr
def ziE:List AV->Option UInt8
 | [.int .u8 n]=>some (UInt8.ofNat n.toNat)
 | _=>none
def zeS(rows:List (List AV)):Option ByteArray:=(rows.mapM ziE).map fun l=>⟨l.toArray⟩
theorem zim:∀(ns:List Int) (r:ByteArray),ns.foldl (fun r n=>r.push (UInt8.ofNat n.toNat)) r=⟨r.data++(ns.map fun n=>UInt8.ofNat n.toNat).toArray⟩
 | [],r=>by simp
 | b::l,r=>by rw [List.foldl_cons,zim l]; simp [ByteArray.push]
theorem zgs:∀(rows:List (List AV)) (l:List UInt8),rows.mapM ziE=some l->∃ns:List Int,rows=ns.map (fun n=>[AV.int .u8 n])/\l=ns.map fun n=>UInt8.ofNat n.toNat
 | [],l,h=>by simp at h; subst h; exact ⟨[],rfl,rfl⟩
 | r::rows,l,h=>by
  simp only [List.mapM_cons,Option.bind_eq_bind,Option.bind_eq_some_iff,Option.pure_def,Option.some.injEq] at h
  obtain ⟨b,hb,l2,hl2,rfl⟩:=h
  obtain ⟨ns,rfl,rfl⟩:=zgs rows l2 hl2
  unfold ziE at hb
  split at hb
  ·rename_i n; obtain rfl:=Option.some.inj hb; exact ⟨n::ns,rfl,rfl⟩
  ·cases hb
def zar(P:Program)(t:TypeId):Bool:=match zak P t with | some e=>(match P.underlying e with | some (.int .u8)=>true | _=>false) | none=>false
theorem Step.bytesStr{o:Oper}{ρ:Operand->AV}{h:Hp}{s d:TypeId}{x:Operand}{rows:List (List AV)}{r:ByteArray}(ho:o.op=.convert s d x)(hs:zar P s=true)(hd:P.underlying d=some .string)
  (hx:srcA h 1 (ρ x)=some rows) (hr:zeS rows=some r):Step P o ρ h (.str r) h:=by
 refine Step.still fun I ι w a hrel hv=>?_
 have h1:=hv x (by simp [ho,Op.operands])
 obtain ⟨⟨ad,n,c,e1,rfl,hsrc⟩,hrow⟩:=zfH hrel h1 hx
 unfold zar at hs
 split at hs
 ·rename_i e he
  have hu:=zaR he
  have hue:P.underlying e=some (.int .u8):=by split at hs <;> simp_all
  unfold zeS at hr
  simp only [Option.map_eq_some_iff] at hr
  obtain ⟨l,hl,rfl⟩:=hr
  obtain ⟨ns,rfl,rfl⟩:=zgs _ _ hl
  refine ⟨_,?_,.str _⟩
  unfold execOp
  simp only [ho,e1]
  rw [Sem.run_bind,run_convert_bytes_string w s d e _ _ c hu hue hd]
  by_cases h0:ns=[]
  ·subst h0
   cases ad with
   | none=>simp [Conv.bytesToString]; rfl
   | some ad =>
    rw [run_bytesToString (P:=P) w ad _ c [] (by simp [loadCells,loadCellsFrom])]
    simp; rfl
  ·obtain ⟨ad,rfl,news,hnl,hnc,hn1,hnv⟩:=hsrc (by simpa using h0)
   have hnews:news=ns.map (Value.int .u8):=by
    apply List.ext_getElem?
    intro j
    simp only [List.length_map,Nat.mul_one] at hnl
    by_cases hj:j<ns.length
    ·have:=hnv j [.int .u8 ns[j]] 0 (.int .u8 ns[j]) news[j] (by simp [hj]) rfl (by simp [hnl,hj])
     rw [List.getElem?_eq_getElem (by omega),this.int_inv]
     simp [hj]
    ·rw [List.getElem?_eq_none (by omega),List.getElem?_eq_none (by simp; omega)]
   have hld:=run_loadCells_list (P:=P) w ad (ns.map (Value.int .u8)) (fun j v hj=>hnc j v (by rw [hnews]; exact hj))
   simp only [List.length_map] at hld ⊢
   rw [run_bytesToString w ad ns.length c ns hld,zim]
   simp
 ·cases hs
theorem Step.nilCheck{o:Oper}{ρ:Operand->AV}{h:Hp}{x:Operand}(ho:o.op=.nilCheck x)(hx:(match ρ x with | .ptr .. | .eptr .. | .iptr ..=>true | _=>false)=true):Step P o ρ h (ρ x) h:=by
 refine Step.still fun I ι w a hrel hv=>?_
 have h1:=hv x (by simp [ho,Op.operands])
 obtain ⟨ad,had⟩:∃ad,a.eval x=.pointer (some ad):=by
  generalize ρ x=y at h1 hx
  generalize a.eval x=v at h1
  cases h1 <;> first | exact ⟨_,rfl⟩ | cases hx
 refine ⟨_,?_,h1⟩
 unfold execOp
 simp [ho,had]
end Go.Vs
end
section
namespace Go.Vs
variable [Tab]
variable {P:Program} {N n0:Nat}
def frz(h:Hp)(F:List Nat):AV->Option (List (List AV))
 | .msl b ver off k len cap=>if F.contains b=true then match h[b]? with
   | some (.rows rs k2 v _)=>if (v=ver/\k2=k)/\off+len<=rs.length/\rs.all zbe=true then some ((rs.drop off).take len) else none
   | _=>none
  else none
 | _=>none
mutual
def frzC:AV->AV
 | .zBx rows _ _=>.sl (frzR rows)
 | x=>x
def frzL:List AV->List AV
 | []=>[]
 | x::xs=>frzC x::frzL xs
def frzR:List (List AV)->List (List AV)
 | []=>[]
 | r::rs=>frzL r::frzR rs
end
mutual
def okC:AV->Bool
 | .zBx rows _ _=>okR rows
 | x=>zcX x
def okL:List AV->Bool
 | []=>true
 | x::xs=>okC x&&okL xs
def okR:List (List AV)->Bool
 | []=>true
 | r::rs=>okL r&&okR rs
end
theorem zgV:∀l:List AV,frzL l=l.map frzC
 | []=>rfl
 | x::l=>by simp only [frzL,List.map_cons,zgV l]
theorem zgU:∀l:List (List AV),frzR l=l.map frzL
 | []=>rfl
 | x::l=>by simp only [frzR,List.map_cons,zgU l]
theorem zjM:∀l:List AV,okL l=l.all okC
 | []=>rfl
 | x::l=>by simp only [okL,List.all_cons,zjM l]
theorem ziG:∀l:List (List AV),okR l=l.all okL
 | []=>rfl
 | x::l=>by simp only [okR,List.all_cons,ziG l]
theorem zil{x:AV}(h:zcv x=true):frzC x=x:=by cases x <;> first | rfl | cases h
theorem zmK{x:AV}(h:zcv x=true):okC x=zcX x:=by cases x <;> first | rfl | cases h
theorem DR.frz{I I':Nat->Prop}{w S x v}(h:DR I w S x v)(hI:∀c,I c->I' c):okC x=true->(∀c,S c->I' c)->VR I' w Io.nil (frzC x) v:=by
 induction h with
 | plain h =>
  intro hx _
  have hp:=h.notbox
  rw [zil hp]
  exact h.mono hI (fun _ _=>rfl) Io.nil (fun b=>(zby.refl Io.nil b).1) (fun b=>(zby.refl Io.nil b).2)
 | box=>intro hx; cases hx
 | boxsl0=>intro _ _; exact .sl0
 | @zBx S rows esz ty n a c ccap arr f hS hc ha hlen hn hroom hl hf hd hx ih =>
  intro hok hSI
  rw [show frzC (.zBx rows esz ty)=.sl (frzR rows) from rfl,zgU]
  have hok':okR rows=true:=hok
  rw [ziG] at hok'
  by_cases h0:n=0
  ·subst h0
   rw [List.eq_nil_of_length_eq_zero hlen]
   exact .sl0
  ·obtain rfl:=ha.resolve_right (by omega)
   obtain ⟨_,hc,-⟩:=hc
   have hcell:∀(i:Nat) r (j:Nat) x,(rows.map frzL)[i]?=some r->r[j]?=some x->∃y,w.cell? ⟨c,0+(i * esz+j),none⟩=some y/\VR I' w Io.nil x y:=by
    intro i r j x hi hj
    rw [List.getElem?_map,Option.map_eq_some_iff] at hi
    obtain ⟨r0,hi,rfl⟩:=hi
    rw [zgV,List.getElem?_map,Option.map_eq_some_iff] at hj
    obtain ⟨x0,hj,rfl⟩:=hj
    have hjk:j<esz:=by rw [← hl i r0 hi]; exact (List.getElem?_eq_some_iff.1 hj).1
    have hil:i<rows.length:=(List.getElem?_eq_some_iff.1 hi).1
    have hm:(i+1) * esz<=ccap * esz:=Nat.mul_le_mul_right _ (by omega)
    rw [Nat.add_mul,Nat.one_mul] at hm
    have hlt:i * esz+j<arr.size:=by omega
    refine ⟨arr[i * esz+j],by simp [World.cell?,hc,hlt],ih i r0 j x0 _ hi hj (by simp [hlt]) ?_ fun d hd=>hSI d (hf _ d hd).1⟩
    have h1:=(List.all_eq_true.1 hok') r0 (List.mem_of_getElem? hi)
    rw [zjM] at h1
    exact (List.all_eq_true.1 h1) x0 (List.mem_of_getElem? hj)
   refine .sl esz c 0 ccap (hSI c hS) (by simpa using hlen) hn (fun i r hi=>?_) (fun i r j x hi hj=>?_) (fun i r j x y hi hj hy=>?_)
   ·rw [List.getElem?_map,Option.map_eq_some_iff] at hi
    obtain ⟨r0,hi,rfl⟩:=hi
    rw [zgV,List.length_map]; exact hl i r0 hi
   ·obtain ⟨y,hy,_⟩:=hcell i r j x hi hj; exact ⟨y,hy⟩
   ·obtain ⟨y',hy',hv⟩:=hcell i r j x hi hj
    rw [hy'] at hy
    obtain rfl:=Option.some.inj hy
    exact hv
 | zBm=>intro hx; cases hx
def frzd(h:Hp)(F:List Nat):AV->Option (List (List AV))
 | .msl b ver off k len cap=>if F.contains b=true then match h[b]? with
   | some (.rows rs k2 v _)=>if (v=ver/\k2=k)/\off+len<=rs.length/\okR rs=true then some (frzR ((rs.drop off).take len)) else none
   | _=>none
  else none
 | _=>none
def frzp(h:Hp)(F:List Nat):AV->Option (List AV × Nat)
 | .ptr b ver off=>if F.contains b=true then match h[b]? with
   | some (.cells cs v _)=>if v=ver/\zbe cs=true then some (cs,off) else none
   | _=>none
  else none
 | _=>none
def wkS(h:Hp)(F:List Nat)(x y:AV):Prop:=y=x\/y=.undef\/(x=.nils/\(y=.sl []\/y=.emp\/∃b ver off k,y=.msl b ver off k 0 0))\/((x=.emp/\y=.sl [])\/(x=.nilp/\∃b,y=.optp b))\/(∃rows,(frz h F x=some rows\/frzd h F x=some rows)/\y=.sl rows)\/∃cs off,frzp h F x=some (cs,off)/\y=.iptr cs off
def wkL(h:Hp)(F:List Nat):List AV->List AV->Prop
 | [],[]=>True
 | x::xs,y::ys=>wkS h F x y/\wkL h F xs ys
 | _,_=>False
def wk(h:Hp)(F:List Nat)(x y:AV):Prop:=wkS h F x y\/(∃xs ys,x=.agg xs/\y=.agg ys/\wkL h F xs ys)\/(∃xs ys,x=.tuple xs/\y=.tuple ys/\wkL h F xs ys)
theorem zf8{h F}:∀{xs ys:List AV},wkL h F xs ys->xs.length=ys.length/\∀(j:Nat) y,ys[j]?=some y->∃x,xs[j]?=some x/\wkS h F x y
 | [],[],_=>⟨rfl,by simp⟩
 | x::xs,y::ys,hw=>by
  obtain ⟨h1,h2⟩:=zf8 hw.2
  refine ⟨by simp [h1],fun j z hz=>?_⟩
  cases j with
  | zero=>simp at hz; subst hz; exact ⟨x,rfl,hw.1⟩
  | succ j=>exact h2 j z (by simpa using hz)
 | [],_::_,hw=>hw.elim
 | _::_,[],hw=>hw.elim
def IF(I:Nat->Prop)(ι:Io)(F:List Nat):Nat->Prop:=fun c=>I c\/∃b,F.contains b=true/\At ι b c
theorem VR.wkS{I ι h w F x y v}(hr:Rel I ι h w)(hF:∀b,F.contains b=true->b<h.length)(hv:VR I w ι x v)(hw:wkS h F x y):VR (IF I ι F) w ι y v:=by
 have up:∀{x v},VR I w ι x v->VR (IF I ι F) w ι x v:=fun hv=>hv.mono (fun _ h=>.inl h) (fun _ _=>rfl) ι (fun b=>(zby.refl ι b).1) (fun b=>(zby.refl ι b).2)
 rcases hw with rfl | rfl | ⟨rfl,hy⟩ | (⟨rfl,rfl⟩ | ⟨rfl,b,rfl⟩) | ⟨rows,hf | hf,rfl⟩ | ⟨cs,off,hf,rfl⟩
 ·exact up hv
 ·exact .undef
 ·obtain rfl:=hv.nils_inv
  rcases hy with rfl | rfl | ⟨b,ver,off,k,rfl⟩
  ·exact .sl0
  ·exact .emp
  ·exact .mslnil
 ·obtain ⟨a0,rfl⟩:=hv.emp_inv; exact .sl0
 ·obtain rfl:=hv.nilp_inv; exact .optp0
 ·unfold frz at hf
  split at hf
  ·rename_i b ver off k len cap
   split at hf
   ·rename_i hb
    split at hf
    ·rename_i rs k2 v2 ty hh
     split at hf
     ·rename_i hc
      obtain ⟨⟨rfl,rfl⟩,hle,hp⟩:=hc
      obtain rfl:=Option.some.inj hf
      rcases hv.msl_inv with ⟨a,n,ccap,c,cur,sz,rfl,hib,hver,hcc⟩ | ⟨rfl,rfl,rfl⟩
      ·obtain ⟨e1,e0,arr,f,⟨_,harr,-⟩,hsz,hle2,hlens,hparts,hx⟩:=hr.real b _ _ hib hh
       obtain ⟨had,rfl,hcap,hncap,hroom⟩:=hcc e1
       by_cases h0:n=0
       ·subst h0; rw [List.take_zero]; exact .sl0
       ·obtain rfl:=had.resolve_right (by omega)
        have hget:∀(i:Nat) r,((rs.drop off).take n)[i]?=some r->rs[off+i]?=some r/\i<n:=by
         intro i r hi
         rw [List.getElem?_take] at hi
         split at hi
         ·rename_i hlt; rw [List.getElem?_drop] at hi; exact ⟨hi,hlt⟩
         ·cases hi
        have hcell:∀(i:Nat) r (j:Nat) x,((rs.drop off).take n)[i]?=some r->r[j]?=some x->∃y,w.cell? ⟨c,off * k2+(i * k2+j),none⟩=some y/\VR I w ι x y/\zcX x=true:=by
         intro i r j x hi hj
         obtain ⟨hi',hin⟩:=hget i r hi
         have hjk:j<k2:=by rw [← hlens _ r hi']; exact (List.getElem?_eq_some_iff.1 hj).1
         have hlt1:off+i<rs.length:=(List.getElem?_eq_some_iff.1 hi').1
         have hm:(off+i+1) * k2<=rs.length * k2:=Nat.mul_le_mul_right _ hlt1
         rw [Nat.add_mul,Nat.one_mul] at hm
         have he:off * k2+(i * k2+j)=(off+i) * k2+j:=by rw [Nat.add_mul]; omega
         have hlt:(off+i) * k2+j<arr.size:=by omega
         exact ⟨arr[(off+i) * k2+j],by simp [World.cell?,harr,he,hlt],(hx _ r j x _ hi' hj (by simp [hlt])).plain (zhb (zb6 ((List.all_eq_true.1 hp) r (List.mem_of_getElem? hi')) j x hj)),zb6 ((List.all_eq_true.1 hp) r (List.mem_of_getElem? hi')) j x hj⟩
        refine .sl k2 c (off * k2) ccap (.inr ⟨b,hb,.inl ⟨cur,sz,hib⟩⟩) (by simp; omega) hncap (fun i r hi=>hlens _ r (hget i r hi).1) (fun i r j x hi hj=>?_) (fun i r j x y hi hj hy=>?_)
        ·obtain ⟨y,hy,_⟩:=hcell i r j x hi hj; exact ⟨y,hy⟩
        ·obtain ⟨y',hy',hv',hpx⟩:=hcell i r j x hi hj
         rw [hy'] at hy
         obtain rfl:=Option.some.inj hy
         exact (up hv').to_pure hpx
      ·rw [List.take_zero]; exact .sl0
     ·cases hf
    ·cases hf
   ·cases hf
  ·cases hf
 ·unfold frzd at hf
  split at hf
  ·rename_i b ver off k len cap
   split at hf
   ·rename_i hb
    split at hf
    ·rename_i rs k2 v2 ty hh
     split at hf
     ·rename_i hc
      obtain ⟨⟨rfl,rfl⟩,hle,hp⟩:=hc
      obtain rfl:=Option.some.inj hf
      rw [ziG] at hp
      rcases hv.msl_inv with ⟨a,n,ccap,c,cur,sz,rfl,hib,hver,hcc⟩ | ⟨rfl,rfl,rfl⟩
      ·obtain ⟨e1,e0,arr,f,⟨_,harr,-⟩,hsz,hle2,hlens,hparts,hx⟩:=hr.real b _ _ hib hh
       obtain ⟨had,rfl,hcap,hncap,hroom⟩:=hcc e1
       by_cases h0:n=0
       ·subst h0; rw [List.take_zero]; exact .sl0
       ·obtain rfl:=had.resolve_right (by omega)
        rw [zgU]
        have hget:∀(i:Nat) r,(((rs.drop off).take n).map frzL)[i]?=some r->∃r0,rs[off+i]?=some r0/\i<n/\r=r0.map frzC:=by
         intro i r hi
         rw [List.getElem?_map,Option.map_eq_some_iff] at hi
         obtain ⟨r0,hi,rfl⟩:=hi
         rw [List.getElem?_take] at hi
         split at hi
         ·rename_i hlt; rw [List.getElem?_drop] at hi; exact ⟨r0,hi,hlt,zgV r0⟩
         ·cases hi
        have hcell:∀(i:Nat) r (j:Nat) x,(((rs.drop off).take n).map frzL)[i]?=some r->r[j]?=some x->∃y,w.cell? ⟨c,off * k2+(i * k2+j),none⟩=some y/\VR (IF I ι F) w Io.nil x y:=by
         intro i r j x hi hj
         obtain ⟨r0,hi',hin,rfl⟩:=hget i r hi
         rw [List.getElem?_map,Option.map_eq_some_iff] at hj
         obtain ⟨x0,hj,rfl⟩:=hj
         have hjk:j<k2:=by rw [← hlens _ r0 hi']; exact (List.getElem?_eq_some_iff.1 hj).1
         have hlt1:off+i<rs.length:=(List.getElem?_eq_some_iff.1 hi').1
         have hm:(off+i+1) * k2<=rs.length * k2:=Nat.mul_le_mul_right _ hlt1
         rw [Nat.add_mul,Nat.one_mul] at hm
         have he:off * k2+(i * k2+j)=(off+i) * k2+j:=by rw [Nat.add_mul]; omega
         have hlt:(off+i) * k2+j<arr.size:=by omega
         have hok:=(List.all_eq_true.1 hp) r0 (List.mem_of_getElem? hi')
         rw [zjM] at hok
         have hok0:=(List.all_eq_true.1 hok) x0 (List.mem_of_getElem? hj)
         refine ⟨arr[(off+i) * k2+j],by simp [World.cell?,harr,he,hlt],?_⟩
         have hdc:=hx _ r0 j x0 arr[(off+i) * k2+j] hi' hj (by simp [hlt])
         rcases hdc with hd | hd
         ·rw [zil hd.notbox]
          rw [zmK hd.notbox] at hok0
          exact (up hd).to_pure hok0
         ·exact hd.frz (fun _ h=>.inl h) hok0 fun d hd'=>.inr ⟨b,hb,.inr (hparts.1 _ d hd')⟩
        refine .sl k2 c (off * k2) ccap (.inr ⟨b,hb,.inl ⟨cur,sz,hib⟩⟩) (by simp; omega) hncap (fun i r hi=>?_) (fun i r j x hi hj=>?_) (fun i r j x y hi hj hy=>?_)
        ·obtain ⟨r0,hi',_,rfl⟩:=hget i r hi
         rw [List.length_map]; exact hlens _ r0 hi'
        ·obtain ⟨y,hy,_⟩:=hcell i r j x hi hj; exact ⟨y,hy⟩
        ·obtain ⟨y',hy',hv'⟩:=hcell i r j x hi hj
         rw [hy'] at hy
         obtain rfl:=Option.some.inj hy
         exact hv'
      ·rw [List.take_zero]; exact .sl0
     ·cases hf
    ·cases hf
   ·cases hf
  ·cases hf
 ·unfold frzp at hf
  split at hf
  ·rename_i b ver off1
   split at hf
   ·rename_i hb
    split at hf
    ·rename_i cs2 v2 ty hh
     split at hf
     ·rename_i hc
      obtain ⟨rfl,hp⟩:=hc
      obtain ⟨rfl,rfl⟩:=Prod.mk.inj (Option.some.inj hf)
      obtain ⟨a,c,cur,sz,rfl,hib,hver,hcc⟩:=hv.ptr_inv
      obtain ⟨e1,arr,f,harr,hsz,hle2,hparts,hx⟩:=hr.real b _ _ hib hh
      obtain rfl:=hcc e1
      have hcell:∀(j:Nat) x,cs2[j]?=some x->∃y,w.cell? ⟨c,0+j,none⟩=some y/\VR (IF I ι F) w Io.nil x y:=by
       intro j x hj
       have hlt:j<arr.size:=by have:=(List.getElem?_eq_some_iff.1 hj).1; omega
       have hpx:=zb6 hp j x hj
       exact ⟨arr[j],by simp [World.cell?,harr,hlt],(up ((hx j x arr[j] hj (by simp [hlt])).plain (zhb hpx))).to_pure hpx⟩
      rw [show off1=0+off1 by omega]
      have:=VR.iptr (I:=IF I ι F) (w:=w) (ι:=ι) (cs:=cs2) (off:=off1) c 0 (.inr ⟨b,hb,.inl ⟨cur,sz,hib⟩⟩) (fun j x hj=>let ⟨y,hy,_⟩:=hcell j x hj; ⟨y,hy⟩) (fun j x y hj hy=>by
       obtain ⟨y',hy',hv'⟩:=hcell j x hj
       rw [hy'] at hy
       obtain rfl:=Option.some.inj hy
       exact hv')
      simpa using this
     ·cases hf
    ·cases hf
   ·cases hf
  ·cases hf
theorem VR.wk{I ι h w F x y v}(hr:Rel I ι h w)(hF:∀b,F.contains b=true->b<h.length)(hv:VR I w ι x v)(hw:wk h F x y):VR (IF I ι F) w ι y v:=by
 rcases hw with hw | ⟨xs,ys,rfl,rfl,hw⟩ | ⟨xs,ys,rfl,rfl,hw⟩
 ·exact VR.wkS hr hF hv hw
 ·obtain ⟨arr,rfl,hl,hx⟩:=hv.agg_inv
  obtain ⟨h1,h2⟩:=zf8 hw
  refine .agg (by omega) fun j y u hy hu=>?_
  obtain ⟨x,hx1,hx2⟩:=h2 j y hy
  exact VR.wkS hr hF (hx j x u hx1 hu) hx2
 ·obtain ⟨arr,rfl,hl,hx⟩:=hv.tuple_inv
  obtain ⟨h1,h2⟩:=zf8 hw
  refine .tuple (by omega) fun j y u hy hu=>?_
  obtain ⟨x,hx1,hx2⟩:=h2 j y hy
  exact VR.wkS hr hF (hx j x u hx1 hu) hx2
theorem zer{h F}:∀(l:List AV),wkL h F l l
 | []=>trivial
 | x::l=>⟨.inl rfl,zer l⟩
def kill(F:List Nat)(h:Hp):Hp:=F.foldl (fun h b=>h.set b .dead) h
theorem ziM(F:List Nat):∀(h:Hp) (b:Nat),(kill F h)[b]?=if F.contains b=true/\b<h.length then some .dead else h[b]?:=by
 induction F with
 | nil=>intro h b; simp [kill]
 | cons f F ih =>
  intro h b
  have:kill (f::F) h=kill F (h.set f .dead):=rfl
  rw [this,ih]
  simp only [List.length_set,List.getElem?_set,List.contains_cons]
  by_cases h1:F.contains b=true/\b<h.length
  ·rw [if_pos h1,if_pos ⟨by rw [h1.1]; simp,h1.2⟩]
  ·rw [if_neg h1]
   by_cases h2:f=b
   ·subst h2
    by_cases h3:f<h.length
    ·simp [h3]
    ·simp [h3]
   ·rw [if_neg h2]
    rw [if_neg]
    rintro ⟨h3,h4⟩
    simp only [Bool.or_eq_true,beq_iff_eq] at h3
    rcases h3 with h3 | h3
    ·exact h2 h3.symm
    ·exact h1 ⟨h3,h4⟩
theorem zfz(F:List Nat):∀(h:Hp),(kill F h).length=h.length:=by
 induction F with
 | nil=>intro h; rfl
 | cons f F ih=>intro h; show (kill F (h.set f .dead)).length=_; rw [ih]; simp
def zfx(h:Hp)(b:Nat):Bool:=match h[b]? with | some o=>o.live | none=>false
theorem zek{h:Hp}{b:Nat}(hb:zfx h b=true):∃o,h[b]?=some o/\o.live=true:=by
 unfold zfx at hb; split at hb
 ·rename_i o ho; exact ⟨o,ho,hb⟩
 ·cases hb
theorem Rel.kill{I ι h w F}(hr:Rel I ι h w)(hF:F.all (fun b=>zfx h b)=true):Rel (IF I ι F) ι (kill F h) w:=by
 have up:∀{x v},VR I w ι x v->VR (IF I ι F) w ι x v:=fun hv=>hv.mono (fun _ h=>.inl h) (fun _ _=>rfl) ι (fun b=>(zby.refl ι b).1) (fun b=>(zby.refl ι b).2)
 have hFl:∀b,F.contains b=true->∃o,h[b]?=some o/\o.live=true:=fun b hb=>zek ((List.all_eq_true.1 hF) b (by simpa using hb))
 have get:∀(b:Nat) (o:LO),(Vs.kill F h)[b]?=some o->o=.dead\/(h[b]?=some o/\F.contains b=false):=by
  intro b o ho
  rw [ziM] at ho
  split at ho
  ·exact .inl (Option.some.inj ho).symm
  ·rename_i hc
   refine .inr ⟨ho,?_⟩
   have hlt:=(List.getElem?_eq_some_iff.1 ho).1
   cases e:F.contains b with
   | false=>rfl
   | true=>exact absurd ⟨e,hlt⟩ hc
 refine ⟨?_,?_,hr.tab.mono (fun _ h=>.inl h) (fun _ _=>rfl),?_,hr.own1,?_,hr.lt,?_,?_⟩
 ·intro b x o hx ho
  rcases get b o ho with rfl | ⟨ho,_⟩
  ·trivial
  ·exact BR.mono (fun _ h=>.inl h) (fun _ _=>rfl) (fun b=>zby.refl _ _) (fun _ h=>h) (fun _ _=>rfl) rfl (hr.real b x o hx ho)
 ·intro b o ho hl
  rcases get b o ho with rfl | ⟨ho,_⟩
  ·cases hl
  ·exact hr.dom b o ho hl
 ·intro b b' o o' c h1 l1 h2 l2 a1 a2
  rcases get b o h1 with rfl | ⟨h1,_⟩
  ·cases l1
  ·rcases get b' o' h2 with rfl | ⟨h2,_⟩
   ·cases l2
   ·exact hr.inj b b' o o' c h1 l1 h2 l2 a1 a2
 ·rintro c ⟨b,o,h1,h2,h3⟩ hI
  rcases get b o h1 with rfl | ⟨h1,hF⟩
  ·cases h2
  ·rcases hI with hI | ⟨b',hb'F,hb'⟩
   ·exact hr.sep c ⟨b,o,h1,h2,h3⟩ hI
   ·obtain ⟨o',ho',hl'⟩:=hFl b' hb'F
    have:=hr.inj b b' o o' c h1 h2 ho' hl' h3 hb'
    subst this
    rw [hF] at hb'F; cases hb'F
 ·intro c hc
  rcases hc with hc | ⟨b',hb'F,hb'⟩
  ·exact hr.ilt c hc
  ·exact hr.lt b' c hb'
 ·intro b hb
  rcases get b _ hb with h | ⟨h,_⟩
  ·cases h
  ·exact hr.hole b h
def zkX:AV->Bool
 | .undef | .bool _ | .int _ _ | .str _ | .nilp | .nils | .emp | .nili | .nilfn | .nilmap=>true
 | _=>false
def scalT:AV->Bool
 | .tuple vs=>vs.all zkX
 | .agg vs=>vs.all zkX
 | x=>zkX x
theorem VR.scal{I I' w w' ι ι' x v}(h:VR I w ι x v)(hx:zkX x=true):VR I' w' ι' x v:=by
 cases h <;> first | exact .undef | exact .bool _ | exact .int _ _ | exact .str _ | exact .nilp | exact .nilmap | exact .nilfn | exact .nili | exact .nils | exact .emp | simp [zkX] at hx
theorem VR.scalT{I I' w w' ι ι' x v}(h:VR I w ι x v)(hx:scalT x=true):VR I' w' ι' x v:=by
 by_cases h1:∃vs,x=.tuple vs
 ·obtain ⟨vs,rfl⟩:=h1
  obtain ⟨arr,rfl,hl,hxx⟩:=h.tuple_inv
  exact .tuple hl fun j x y hj hy=>(hxx j x y hj hy).scal ((List.all_eq_true.1 hx) x (List.mem_of_getElem? hj))
 ·by_cases h2:∃vs,x=.agg vs
  ·obtain ⟨vs,rfl⟩:=h2
   obtain ⟨arr,rfl,hl,hxx⟩:=h.agg_inv
   exact .agg hl fun j x y hj hy=>(hxx j x y hj hy).scal ((List.all_eq_true.1 hx) x (List.mem_of_getElem? hj))
  ·refine h.scal ?_
   cases x <;> first | exact hx | exact absurd ⟨_,rfl⟩ h1 | exact absurd ⟨_,rfl⟩ h2
structure How where
 F:List Nat
 lend:Bool
 args:List AV
 r:AV
def wkAs(h:Hp)(F:List Nat):List AV->List AV->Prop
 | [],[]=>True
 | x::xs,y::ys=>wk h F x y/\wkAs h F xs ys
 | _,_=>False
theorem ziz{h F}:∀{xs ys:List AV},wkAs h F xs ys->xs.length=ys.length/\∀(j:Nat) y,ys[j]?=some y->∃x,xs[j]?=some x/\wk h F x y
 | [],[],_=>⟨rfl,by simp⟩
 | x::xs,y::ys,hw=>by
  obtain ⟨h1,h2⟩:=ziz hw.2
  refine ⟨by simp [h1],fun j z hz=>?_⟩
  cases j with
  | zero=>simp at hz; subst hz; exact ⟨x,rfl,hw.1⟩
  | succ j=>exact h2 j z (by simpa using hz)
 | [],_::_,hw=>hw.elim
 | _::_,[],hw=>hw.elim
def zlC(P:Program)(f:FuncId)(h:Hp)(xs:List AV)(q:How):Prop :=
 q.F.all (fun b=>zfx h b)=true/\wkAs h q.F xs q.args/\zbe q.args=true/\(q.lend=true->scalT q.r=true)/\zaO P f q.args q.r
def How.hp(q:How)(h:Hp):Hp:=if q.lend then h else kill q.F h
theorem ziI{h:Hp}{F:List Nat}(hF:F.all (fun b=>zfx h b)=true):∀b,F.contains b=true->b<h.length:=fun b hb=>by
 have h1:zfx h b=true:=(List.all_eq_true.1 hF) b (by simpa using hb)
 obtain ⟨o,ho,_⟩:=zek h1
 exact (List.getElem?_eq_some_iff.1 ho).1
theorem Step.callX{o:Oper}{ρ:Operand->AV}{h:Hp}{f:FuncId}{as:Array Operand}{ts:Array TypeId}(ho:o.op=.call { callee:=.value (.func f),args:=as,argTypes:=ts })(hf:fnOk P f=true){q:How}
  (hc:zlC P f h (as.toList.map ρ) q):Step P o ρ h q.r (q.hp h):=by
 intro I ι w a hr _ hx next Q k
 obtain ⟨hF,hwk,hpure,hlend,hcall⟩:=hc
 have hFl:=ziI hF
 obtain ⟨hl1,hget⟩:=ziz hwk
 have hxs:∀x∈as,VR I w ι (ρ x) (a.eval x):=fun x hm=>hx x (by simp [ho,Op.operands,Call.operands,hm])
 have hvs:VRs (IF I ι q.F) w Io.nil q.args (as.map a.eval):=by
  refine ⟨by simp at hl1 ⊢; omega,fun j y v hj hv=>?_⟩
  have hpx:=zb6 hpure j y hj
  obtain ⟨x,hx1,hx2⟩:=hget j y hj
  simp only [List.getElem?_map,Array.getElem?_toList,Option.map_eq_some_iff] at hx1
  simp only [Array.getElem?_map,Option.map_eq_some_iff] at hv
  obtain ⟨x0,hj0,rfl⟩:=hx1
  obtain ⟨y0,hy0,rfl⟩:=hv
  rw [hj0] at hy0
  obtain rfl:=Option.some.inj hy0
  exact (VR.wk hr hFl (hxs x0 (Array.mem_of_getElem? hj0)) hx2).to_pure hpx
 have hrk:=hr.kill (F:=q.F) hF
 have hcall:=hcall (IF I ι q.F) w (as.map a.eval) hrk.ilt hrk.tab hvs
 have hrun:(execOp a.eval o).run P w=.ok (.enter f (as.map a.eval)) w:=by
  unfold execOp
  simp [ho,resolve,Act.eval,Deferred.ofValue,Go.invoke,zd8 hf]
 unfold Oper.wp
 rw [hrun,Oper.upon_enter]
 refine hcall.mono fun e w' ⟨v,I',he,hb,h1,h2,h3,hv⟩=>?_
 subst he
 unfold How.hp at k
 by_cases hld:q.lend=true
 ·rw [if_pos hld] at k
  have hIlt:∀c,I c->c<w'.heap.size:=fun c hc=>by have:=hr.ilt c hc; have:=hb.size; omega
  exact k v w' I ι (Ext.below hr hb (fun _ h=>h) hIlt (fun _ h=>.inl h)) (hv.scalT (hlend hld))
 ·rw [if_neg hld] at k
  have e:=Ext.below hrk hb h1 h2 h3
  refine k v w' I' ι ⟨e.rel,⟨hb.os,hb.tape,hb.output,hb.size,fun c hc _=>hb.block c hc⟩,fun c hc=>h1 c (.inl hc),?_,?_,fun b=>zby.refl _ _,fun _ _=>⟨rfl,rfl⟩,by rw [zfz]; exact Nat.le_refl _⟩ (hv.pure ι)
  ·intro c hc
   rcases h3 c hc with h | h
   ·rcases h with h | ⟨b,hbF,hb'⟩
    ·exact .inl h
    ·obtain ⟨o',ho',hl'⟩:=zek ((List.all_eq_true.1 hF) b (by simpa using hbF))
     exact .inr (.inr ⟨b,o',ho',hl',hb'⟩)
   ·exact .inr (.inl h)
  ·rintro c ⟨b,o',q1,q2,q3⟩
   rw [ziM] at q1
   split at q1
   ·obtain rfl:=Option.some.inj q1; cases q2
   ·exact .inl ⟨b,o',q1,q2,q3⟩
theorem zlC.plain{f:FuncId}{h:Hp}{xs:List AV}{r:AV}(hp:zbe xs=true)(hc:zaO P f xs r):zlC P f h xs ⟨[],false,xs,r⟩:=by
 refine ⟨rfl,?_,hp,(fun h=>by cases h),hc⟩
 have:∀l:List AV,wkAs h [] l l:=fun l=>by
  induction l with
  | nil=>trivial
  | cons x l ih=>exact ⟨.inl (.inl rfl),ih⟩
 exact this xs
theorem FR.of_wk{h:Hp}{F:List Nat}{x y:AV}(hF:F.all (fun b=>zfx h b)=true)(hw:wk h F x y)(hp:zcX y=true):FR h x y:=by
 intro I ι w v hr hv
 refine ⟨IF I ι F,fun _ h=>.inl h,?_,(VR.wk hr (ziI hF) hv hw).to_pure hp⟩
 rintro c (hc | ⟨b,hbF,hb⟩)
 ·exact .inl hc
 ·obtain ⟨o',ho',hl'⟩:=zek ((List.all_eq_true.1 hF) b (by simpa using hbF))
  exact .inr ⟨b,o',ho',hl',hb⟩
end Go.Vs
end
section
namespace Go.Vs
variable [Tab]
variable {P:Program}
mutual
def zaX(n:Nat):AV->Bool
 | .ptr b _ _=>decide (b<n)
 | .eptr b _ _ _ _=>decide (b<n)
 | .msl b _ _ _ _ _=>decide (b<n)
 | .map b=>decide (b<n)
 | .optp b=>decide (b<n)
 | .bptr b _ _=>decide (b<n)
 | .func _ f c=>zaU n f&&zaU n c
 | .iface _ v=>zaX n v
 | .agg cs=>zaU n cs
 | .tuple vs=>zaU n vs
 | _=>true
def zaU(n:Nat):List AV->Bool
 | []=>true
 | x::xs=>zaX n x&&zaU n xs
end
theorem zbv{n:Nat}{cs:List AV}(h:zaU n cs=true):∀(j:Nat) x,cs[j]?=some x->zaX n x=true:=by
 induction cs with
 | nil=>intro j x hj; simp at hj
 | cons a as ih =>
  intro j x hj
  simp only [zaU,Bool.and_eq_true] at h
  cases j with
  | zero=>simp at hj; subst hj; exact h.1
  | succ j=>exact ih h.2 j x (by simpa using hj)
def zkK(n:Nat):LO->Bool
 | .cells cs _ _=>zaU n cs
 | .rows rs _ _ _=>rs.all (zaU n)
 | .map es=>es.all fun e=>zaX n e.1&&zaX n e.2
 | _=>true
def ze2(n:Nat)(h:Hp):Bool:=h.all (zkK n)
mutual
def ren(m:Nat->Nat):AV->AV
 | .ptr b v o=>.ptr (m b) v o
 | .eptr b v e k j=>.eptr (m b) v e k j
 | .msl b v off e n c=>.msl (m b) v off e n c
 | .map b=>.map (m b)
 | .optp b=>.optp (m b)
 | .bptr b v n=>.bptr (m b) v n
 | .func fn f c=>.func fn (rens m f) (rens m c)
 | .iface t v=>.iface t (ren m v)
 | .agg cs=>.agg (rens m cs)
 | .tuple vs=>.tuple (rens m vs)
 | x=>x
def rens(m:Nat->Nat):List AV->List AV
 | []=>[]
 | x::xs=>ren m x::rens m xs
end
theorem zgO(m:Nat->Nat):∀l:List AV,rens m l=l.map (ren m)
 | []=>rfl
 | x::l=>by simp only [rens,List.map_cons,zgO m l]
theorem zeu{m:Nat->Nat}{l:List AV}{j:Nat}{x:AV}(h:l[j]?=some x):(rens m l)[j]?=some (ren m x):=by rw [zgO,List.getElem?_map,h]; rfl
theorem zeh{m:Nat->Nat}{l:List AV}{j:Nat}{y:AV}(h:(rens m l)[j]?=some y):∃x,l[j]?=some x/\y=ren m x:=by
 rw [zgO,List.getElem?_map,Option.map_eq_some_iff] at h
 obtain ⟨x,h1,rfl⟩:=h
 exact ⟨x,h1,rfl⟩
theorem zbP{m:Nat->Nat}{l:List AV}:(rens m l).length=l.length:=by rw [zgO,List.length_map]
theorem zi7{m:Nat->Nat}{x:AV}:zcv (ren m x)=zcv x:=by cases x <;> rfl
def renO(m:Nat->Nat):LO->LO
 | .cells cs v t=>.cells (rens m cs) v t
 | .rows rs k v t=>.rows (rs.map (rens m)) k v t
 | .map es=>.map (es.map fun e=>(ren m e.1,ren m e.2))
 | o=>o
theorem zdQ{m o}:(renO m o).live=o.live:=by cases o <;> rfl
theorem zi8{m o}:(renO m o).born=o.born:=by
 cases o with
 | rows rs k v t=>cases rs <;> rfl
 | _=>rfl
theorem VR.ren{I w}{ι ι':Io}{m:Nat->Nat}(hm:∀b x,ι b=some x->ι' (m b)=some x){x v}(h:VR I w ι x v):VR I w ι' (ren m x) v:=by
 induction h with
 | undef=>exact .undef
 | bool b=>exact .bool b
 | int k n=>exact .int k n
 | str s=>exact .str s
 | nilp=>exact .nilp
 | nilmap=>exact .nilmap
 | nilfn=>exact .nilfn
 | nili=>exact .nili
 | nils=>exact .nils
 | emp=>exact .emp
 | ptr c cur sz h hv hc=>exact .ptr c cur sz (hm _ _ h) hv hc
 | eptr c cur sz h hv hc=>exact .eptr c cur sz (hm _ _ h) hv hc
 | mslnil=>exact .mslnil
 | iptr c base hI hs hv=>exact .iptr c base hI hs hv
 | sl0=>exact .sl0
 | sl esz c off cap hI hn hcap hl hs hv=>exact .sl esz c off cap hI hn hcap hl hs hv
 | msl c cur sz h hv hc=>exact .msl c cur sz (hm _ _ h) hv hc
 | map c h=>exact .map c (hm _ _ h)
 | optp0=>exact .optp0
 | optp c cur sz h hc=>exact .optp c cur sz (hm _ _ h) hc
 | bptr c cur sz h hv hc=>exact .bptr c cur sz (hm _ _ h) hv hc
 | bptr0=>exact .bptr0
 | func h1 h2 _ _ ih3 ih4 =>
  exact .func (by rw [zbP]; exact h1) (by rw [zbP]; exact h2) (fun j x y a b=>by obtain ⟨x0,a',rfl⟩:=zeh a; exact ih3 j x0 y a' b hm) (fun j x y a b=>by obtain ⟨x0,a',rfl⟩:=zeh a; exact ih4 j x0 y a' b hm)
 | iface _ ih=>exact .iface (ih hm)
 | agg hl _ ih=>exact .agg (by rw [zbP]; exact hl) (fun j x y a b=>by obtain ⟨x0,a',rfl⟩:=zeh a; exact ih j x0 y a' b hm)
 | tuple hl _ ih=>exact .tuple (by rw [zbP]; exact hl) (fun j x y a b=>by obtain ⟨x0,a',rfl⟩:=zeh a; exact ih j x0 y a' b hm)
theorem VR.unren{I w}{ι ι':Io}{m:Nat->Nat}{k:Nat}(hm:∀b x,b<k->ι' (m b)=some x->ι b=some x){y v}(h:VR I w ι' y v):∀x,y=Vs.ren m x->zaX k x=true->VR I w ι x v:=by
 induction h with
 | undef=>intro x e _; cases x <;> simp [Vs.ren] at e; exact .undef
 | bool b=>intro x e _; cases x <;> simp [Vs.ren] at e; subst e; exact .bool b
 | int k n=>intro x e _; cases x <;> simp [Vs.ren] at e; obtain ⟨rfl,rfl⟩:=e; exact .int k n
 | str s=>intro x e _; cases x <;> simp [Vs.ren] at e; subst e; exact .str s
 | nilp=>intro x e _; cases x <;> simp [Vs.ren] at e; exact .nilp
 | nilmap=>intro x e _; cases x <;> simp [Vs.ren] at e; exact .nilmap
 | nilfn=>intro x e _; cases x <;> simp [Vs.ren] at e; exact .nilfn
 | nili=>intro x e _; cases x <;> simp [Vs.ren] at e; exact .nili
 | nils=>intro x e _; cases x <;> simp [Vs.ren] at e; exact .nils
 | emp=>intro x e _; cases x <;> simp [Vs.ren] at e; exact .emp
 | ptr c cur sz h hv hc=>intro x e hb; cases x <;> simp [Vs.ren] at e; obtain ⟨rfl,rfl,rfl⟩:=e; simp only [zaX,decide_eq_true_eq] at hb; exact .ptr c cur sz (hm _ _ hb h) hv hc
 | eptr c cur sz h hv hc=>intro x e hb; cases x <;> simp [Vs.ren] at e; obtain ⟨rfl,rfl,rfl,rfl,rfl⟩:=e; simp only [zaX,decide_eq_true_eq] at hb; exact .eptr c cur sz (hm _ _ hb h) hv hc
 | mslnil=>intro x e _; cases x <;> simp [Vs.ren] at e; obtain ⟨rfl,rfl,rfl,rfl,rfl,rfl⟩:=e; exact .mslnil
 | iptr c base hI hs hv=>intro x e _; cases x <;> simp [Vs.ren] at e; obtain ⟨rfl,rfl⟩:=e; exact .iptr c base hI hs hv
 | sl0=>intro x e _; cases x <;> simp [Vs.ren] at e; subst e; exact .sl0
 | sl esz c off cap hI hn hcap hl hs hv=>intro x e _; cases x <;> simp [Vs.ren] at e; subst e; exact .sl esz c off cap hI hn hcap hl hs hv
 | msl c cur sz h hv hc=>intro x e hb; cases x <;> simp [Vs.ren] at e; obtain ⟨rfl,rfl,rfl,rfl,rfl,rfl⟩:=e; simp only [zaX,decide_eq_true_eq] at hb; exact .msl c cur sz (hm _ _ hb h) hv hc
 | map c h=>intro x e hb; cases x <;> simp [Vs.ren] at e; subst e; simp only [zaX,decide_eq_true_eq] at hb; exact .map c (hm _ _ hb h)
 | optp0=>intro x e hb; cases x <;> simp [Vs.ren] at e; subst e; exact .optp0
 | optp c cur sz h hc=>intro x e hb; cases x <;> simp [Vs.ren] at e; subst e; simp only [zaX,decide_eq_true_eq] at hb; exact .optp c cur sz (hm _ _ hb h) hc
 | bptr c cur sz h hv hc=>intro x e hb; cases x <;> simp [Vs.ren] at e; obtain ⟨rfl,rfl,rfl⟩:=e; simp only [zaX,decide_eq_true_eq] at hb; exact .bptr c cur sz (hm _ _ hb h) hv hc
 | bptr0=>intro x e hb; cases x <;> simp [Vs.ren] at e; obtain ⟨rfl,rfl,rfl⟩:=e; exact .bptr0
 | func h1 h2 _ _ ih3 ih4 =>
  intro x e hb
  cases x <;> simp [Vs.ren] at e
  obtain ⟨rfl,rfl,rfl⟩:=e
  rw [zbP] at h1 h2
  simp only [zaX,Bool.and_eq_true] at hb
  exact .func h1 h2 (fun j x y a b=>ih3 j _ y (zeu a) b hm x rfl (zbv hb.1 j x a)) (fun j x y a b=>ih4 j _ y (zeu a) b hm x rfl (zbv hb.2 j x a))
 | iface _ ih=>intro x e hb; cases x <;> simp [Vs.ren] at e; obtain ⟨rfl,rfl⟩:=e; exact .iface (ih hm _ rfl (by simpa [zaX] using hb))
 | agg hl _ ih =>
  intro x e hb
  cases x <;> simp [Vs.ren] at e
  subst e
  rw [zbP] at hl
  exact .agg hl (fun j x y a b=>ih j _ y (zeu a) b hm x rfl (zbv (by simpa [zaX] using hb) j x a))
 | tuple hl _ ih =>
  intro x e hb
  cases x <;> simp [Vs.ren] at e
  subst e
  rw [zbP] at hl
  exact .tuple hl (fun j x y a b=>ih j _ y (zeu a) b hm x rfl (zbv (by simpa [zaX] using hb) j x a))
theorem DR.ren{I w S x v}{m:Nat->Nat}(hp:zcv x=false)(h:DR I w S x v):DR I w S (Vs.ren m x) v:=by cases x <;> first | exact h | cases hp
theorem DR.unren{I w S x v}{m:Nat->Nat}(hp:zcv x=false)(h:DR I w S (Vs.ren m x) v):DR I w S x v:=by cases x <;> first | exact h | cases hp
theorem DC.ren{I w S}{ι ι':Io}{m:Nat->Nat}(hm:∀b x,ι b=some x->ι' (m b)=some x){x v}(h:DC I w ι S x v):DC I w ι' S (Vs.ren m x) v:=by
 cases hp:zcv x with
 | true=>exact .inl ((h.plain hp).ren hm)
 | false=>rcases h with h | h
          ·rw [h.notbox] at hp; cases hp
          ·exact .inr (h.ren hp)
theorem DC.unren{I w S}{ι ι':Io}{m:Nat->Nat}{k:Nat}(hm:∀b x,b<k->ι' (m b)=some x->ι b=some x){x v}(h:DC I w ι' S (Vs.ren m x) v)(hb:zaX k x=true):DC I w ι S x v:=by
 cases hp:zcv x with
 | true=>exact .inl ((h.plain (by rw [zi7]; exact hp)).unren hm x rfl hb)
 | false=>rcases h with h | h
          ·have:=h.notbox; rw [zi7,hp] at this; cases this
          ·exact .inr (h.unren hp)
theorem BR.ren{I w S}{ι ι':Io}{m:Nat->Nat}(hm:∀b x,ι b=some x->ι' (m b)=some x){o x}(h:BR I w ι S o x):BR I w ι' S (renO m o) x:=by
 obtain ⟨c,cur,sz⟩:=x
 cases o with
 | cells cs v t =>
  obtain ⟨e,arr,f,q1,q2,q3,hp,q4⟩:=h
  exact ⟨e,arr,f,q1,q2,by rw [zbP]; exact q3,hp,fun j x y a b=>by obtain ⟨x0,a',rfl⟩:=zeh a; exact (q4 j x0 y a' b).ren hm⟩
 | rows rs k v t =>
  obtain ⟨e,e0,arr,f,q1,q2,q3,q5,hp,q4⟩:=h
  refine ⟨e,e0,arr,f,q1,q2,by rw [List.length_map]; exact q3,fun i r hi=>?_,hp,fun i r j x y hi a b=>?_⟩
  ·rw [List.getElem?_map,Option.map_eq_some_iff] at hi
   obtain ⟨r0,hi',rfl⟩:=hi
   rw [zbP]; exact q5 i r0 hi'
  ·rw [List.getElem?_map,Option.map_eq_some_iff] at hi
   obtain ⟨r0,hi',rfl⟩:=hi
   obtain ⟨x0,a',rfl⟩:=zeh a
   exact (q4 i r0 j x0 y hi' a' b).ren hm
 | siter s p=>exact h
 | hole=>trivial
 | map es =>
  obtain ⟨e1,e2,ents,clock,f,q1,q2,q3,q4,hp,q5⟩:=h
  refine ⟨e1,e2,ents,clock,f,q1,by rw [List.length_map]; exact q2,q3,q4,hp,fun j x e hj he=>?_⟩
  rw [List.getElem?_map,Option.map_eq_some_iff] at hj
  obtain ⟨x0,hj',rfl⟩:=hj
  exact ⟨(q5 j x0 e hj' he).1.ren hm,(q5 j x0 e hj' he).2.ren hm⟩
 | dead=>trivial
theorem BR.unren{I w S}{ι ι':Io}{m:Nat->Nat}{k:Nat}(hm:∀b x,b<k->ι' (m b)=some x->ι b=some x){o x}(h:BR I w ι' S (renO m o) x)(hb:zkK k o=true):BR I w ι S o x:=by
 obtain ⟨c,cur,sz⟩:=x
 cases o with
 | cells cs v t =>
  obtain ⟨e,arr,f,q1,q2,q3,hp,q4⟩:=h
  exact ⟨e,arr,f,q1,q2,by rw [zbP] at q3; exact q3,hp,fun j x y a b=>(q4 j _ y (zeu a) b).unren hm (zbv hb j x a)⟩
 | rows rs k v t =>
  obtain ⟨e,e0,arr,f,q1,q2,q3,q5,hp,q4⟩:=h
  rw [List.length_map] at q3
  refine ⟨e,e0,arr,f,q1,q2,q3,fun i r hi=>?_,hp,fun i r j x y hi a b=>?_⟩
  ·have:=q5 i (rens m r) (by rw [List.getElem?_map,hi]; rfl)
   rwa [zbP] at this
  ·exact (q4 i (rens m r) j _ y (by rw [List.getElem?_map,hi]; rfl) (zeu a) b).unren hm (zbv ((List.all_eq_true.1 hb) r (List.mem_of_getElem? hi)) j x a)
 | siter s p=>exact h
 | hole=>trivial
 | map es =>
  obtain ⟨e1,e2,ents,clock,f,q1,q2,q3,q4,hp,q5⟩:=h
  rw [List.length_map] at q2
  refine ⟨e1,e2,ents,clock,f,q1,q2,q3,q4,hp,fun j x e hj he=>?_⟩
  have:=q5 j (Vs.ren m x.1,Vs.ren m x.2) e (by rw [List.getElem?_map,hj]; rfl) he
  have hbx:=(List.all_eq_true.1 hb) x (List.mem_of_getElem? hj)
  simp only [Bool.and_eq_true] at hbx
  exact ⟨this.1.unren hm x.1 rfl hbx.1,this.2.unren hm hbx.2⟩
 | dead=>trivial
def HF(P:Program)(f:FuncId)(args:List AV)(h:Hp)(r:AV)(h':Hp):Prop :=
 ∀(I:Nat->Prop) (ι:Io) (w:World) (vs:Array Value),Rel I ι h w->(∀b,h.length<=b->ι.free b)->VRs I w ι args vs ->
  Calls P f vs w fun e w'=>∃v I' ι',e=.returned v/\Out h.length I ι h w I' ι' h' w'/\VR I' w' ι' r v
def lay:Hp->List Nat->Hp->Hp
 | h,[],os=>h++os
 | h,n::ns,o::os=>lay (h.set n o) ns os
 | h,_::_,[]=>h
theorem zgg:∀(ns:List Nat) (h os:Hp),ns.length<=os.length->(lay h ns os).length=h.length+(os.length-ns.length)
 | [],h,os,_=>by simp [lay]
 | n::ns,h,o::os,hl=>by
  simp only [lay,List.length_cons] at hl ⊢
  rw [zgg ns _ os (by omega)]; simp
 | n::ns,h,[],hl=>by simp at hl
theorem ziL:∀(ns:List Nat) (h os:Hp) (b:Nat),ns.length<=os.length->b<h.length->b∉ns->(lay h ns os)[b]?=h[b]?
 | [],h,os,b,_,hb,_=>by simp only [lay]; rw [List.getElem?_append_left hb]
 | n::ns,h,o::os,b,hl,hb,hn=>by
  simp only [lay,List.length_cons] at hl ⊢
  rw [ziL ns _ os b (by omega) (by simpa using hb) (fun h=>hn (List.mem_cons_of_mem _ h)),List.getElem?_set,if_neg (fun e=>hn (by rw [e]; exact List.mem_cons_self ..))]
 | n::ns,h,[],b,hl,_,_=>by simp at hl
theorem zgS:∀(ns:List Nat) (h os:Hp) (i n:Nat),ns.length<=os.length->ns.Nodup->(∀n∈ns,n<h.length)->ns[i]?=some n->(lay h ns os)[n]?=os[i]?
 | [],h,os,i,n,_,_,_,hi=>by simp at hi
 | m::ns,h,o::os,i,n,hl,hd,hlt,hi=>by
  simp only [lay,List.length_cons] at hl ⊢
  rw [List.nodup_cons] at hd
  cases i with
  | zero =>
   simp only [List.getElem?_cons_zero,Option.some.injEq] at hi ⊢
   subst hi
   have:=hlt m (List.mem_cons_self ..)
   rw [ziL ns _ os m (by omega) (by simpa using this) hd.1,List.getElem?_set]
   simp [this]
  | succ i =>
   simp only [List.getElem?_cons_succ] at hi ⊢
   exact zgS ns _ os i n (by omega) hd.2 (fun n hn=>by simpa using hlt n (List.mem_cons_of_mem _ hn)) hi
 | m::ns,h,[],i,n,hl,_,_,_=>by simp at hl
theorem zmW:∀(ns:List Nat) (h os:Hp) (j:Nat),ns.length<=os.length->(lay h ns os)[h.length+j]?=os[ns.length+j]?
 | [],h,os,j,_=>by
  simp only [lay,List.length_nil,Nat.zero_add]
  rw [List.getElem?_append_right (by omega)]; congr 1; omega
 | n::ns,h,o::os,j,hl=>by
  simp only [lay,List.length_cons] at hl ⊢
  have:=zmW ns (h.set n o) os j (by omega)
  rw [List.length_set] at this
  rw [this,show ns.length+1+j=(ns.length+j)+1 by omega,List.getElem?_cons_succ]
 | n::ns,h,[],j,hl=>by simp at hl
def nm(ns:List Nat)(n i:Nat):Nat:=if i<ns.length then ns.getD i 0 else n+(i-ns.length)
def inv(ns:List Nat)(n k b:Nat):Option Nat:=if b∈ns then some (ns.idxOf b) else if n<=b/\b<n+k then some (ns.length+(b-n)) else none
theorem zrD{ns:List Nat}{n i:Nat}(h:i<ns.length):ns[i]?=some (nm ns n i):=by
 unfold nm; rw [if_pos h,List.getD_eq_getElem?_getD,List.getElem?_eq_getElem h]; rfl
theorem zmZ{ns:List Nat}{n k i:Nat}(hd:ns.Nodup)(hlt:∀m∈ns,m<n)(hi:i<ns.length+k):inv ns n k (nm ns n i)=some i:=by
 by_cases h:i<ns.length
 ·have h1:=zrD (n:=n) h
  have hm:nm ns n i∈ns:=List.mem_of_getElem? h1
  unfold inv
  rw [if_pos hm]
  have:ns[i]=nm ns n i:=by
   rw [List.getElem?_eq_getElem h] at h1
   exact Option.some.inj h1
  rw [← this,List.Nodup.idxOf_getElem hd]
 ·unfold nm
  rw [if_neg h]
  unfold inv
  rw [if_neg (fun hm=>by have:=hlt _ hm; omega),if_pos (by omega)]
  congr 1; omega
theorem zmM{ns:List Nat}{n k b i:Nat}(h:inv ns n k b=some i):nm ns n i=b/\i<ns.length+k:=by
 unfold inv at h
 split at h
 ·rename_i hm
  obtain rfl:=Option.some.inj h
  have hl:=List.idxOf_lt_length_of_mem hm
  unfold nm
  rw [if_pos hl,List.getD_eq_getElem?_getD,List.getElem?_eq_getElem hl]
  exact ⟨List.getElem_idxOf hl,by omega⟩
 ·split at h
  ·rename_i hb
   obtain rfl:=Option.some.inj h
   unfold nm
   rw [if_neg (by omega)]
   omega
  ·cases h
structure HowH where
 F:List Nat
 ns:List Nat
 args:List AV
 hc:Hp
 r:AV
 hc':Hp
def HowH.res(q:HowH)(h:Hp):AV:=ren (nm q.ns h.length) q.r
def HowH.hp(q:HowH)(h:Hp):Hp:=lay (kill q.F h) q.ns (q.hc'.map (renO (nm q.ns h.length)))
def zfT:List Nat->Bool
 | []=>true
 | n::ns=>!ns.contains n&&zfT ns
theorem zfu:∀{ns:List Nat},zfT ns=true->ns.Nodup
 | [],_=>List.nodup_nil
 | n::ns,h=>by
  simp only [zfT,Bool.and_eq_true,Bool.not_eq_true'] at h
  rw [List.nodup_cons]
  exact ⟨by simpa using h.1,zfu h.2⟩
def zfh(h:Hp)(m:Nat->Nat):List Nat->Hp->Prop
 | [],[]=>True
 | n::ns,o::os=>h[n]?=some (renO m o)/\zfh h m ns os
 | _,_=>False
theorem zh5{h:Hp}{m:Nat->Nat}:∀{ns:List Nat} {os:Hp},zfh h m ns os->ns.length=os.length/\∀(i:Nat) n o,ns[i]?=some n->os[i]?=some o->h[n]?=some (renO m o)
 | [],[],_=>⟨rfl,by simp⟩
 | n::ns,o::os,hp=>by
  obtain ⟨h1,h2⟩:=zh5 hp.2
  refine ⟨by simp [h1],fun i n' o' hn ho=>?_⟩
  cases i with
  | zero=>simp at hn ho; subst hn; subst ho; exact hp.1
  | succ i=>exact h2 i n' o' (by simpa using hn) (by simpa using ho)
 | [],_::_,hp=>hp.elim
 | _::_,[],hp=>hp.elim
def callH(P:Program)(f:FuncId)(h:Hp)(xs:List AV)(q:HowH):Prop :=
 (q.F.all (fun b=>zfx h b)=true/\wkAs h q.F xs (rens (nm q.ns h.length) q.args)/\zfT q.ns=true/\q.ns.all (fun n=>decide (n<h.length))=true/\zfh (kill q.F h) (nm q.ns h.length) q.ns q.hc/\q.ns.length<=q.hc'.length /\
  zaU q.hc.length q.args=true/\ze2 q.hc.length q.hc=true)/\HF P f q.args q.hc q.r q.hc'
theorem Step.callH{o:Oper}{ρ:Operand->AV}{h:Hp}{f:FuncId}{as:Array Operand}{ts:Array TypeId}(ho:o.op=.call { callee:=.value (.func f),args:=as,argTypes:=ts })(hf:fnOk P f=true){q:HowH}
  (hc:callH P f h (as.toList.map ρ) q):Step P o ρ h (q.res h) (q.hp h):=by
 intro I0 ι w a hr0 hfree hx next Q K
 obtain ⟨⟨hF,hwk,hnd,hlt,hpc,hle,hba,hbh⟩,hcall⟩:=hc
 obtain ⟨hl1,hget⟩:=ziz hwk
 have hFl:=ziI hF
 have hrun:(execOp a.eval o).run P w=.ok (.enter f (as.map a.eval)) w:=by
  unfold execOp
  simp [ho,resolve,Act.eval,Deferred.ofValue,Go.invoke,zd8 hf]
 unfold Oper.wp
 rw [hrun,Oper.upon_enter]
 have hr:=hr0.kill (F:=q.F) hF
 generalize hI:IF I0 ι q.F=I at hr
 have hvs0:∀(j:Nat) y v,q.args[j]?=some y->(as.map a.eval)[j]?=some v->VR I w ι (ren (nm q.ns h.length) y) v:=by
  intro j y v hj hv
  obtain ⟨x,hx1,hx2⟩:=hget j _ (zeu hj)
  simp only [List.getElem?_map,Array.getElem?_toList,Option.map_eq_some_iff] at hx1
  simp only [Array.getElem?_map,Option.map_eq_some_iff] at hv
  obtain ⟨x0,hj0,rfl⟩:=hx1
  obtain ⟨y0,hy0,rfl⟩:=hv
  rw [hj0] at hy0
  obtain rfl:=Option.some.inj hy0
  rw [← hI]
  exact VR.wk hr0 hFl (hx x0 (by simp [ho,Op.operands,Call.operands,Array.mem_of_getElem? hj0])) hx2
 have hhp:(q.hp h).length=h.length+(q.hc'.length-q.ns.length):=by
  unfold HowH.hp
  rw [zgg _ _ _ (by simpa using hle),zfz,List.length_map]
 have hkl:(kill q.F h).length=h.length:=zfz _ _
 obtain ⟨ns,hns⟩:∃ns,ns=q.ns:=⟨_,rfl⟩
 obtain ⟨m,hm⟩:∃m,m=nm q.ns h.length:=⟨_,rfl⟩
 rw [← hm] at hpc hvs0
 rw [← hns] at hnd hlt hpc hle hm
 obtain ⟨hl2,hpg⟩:=zh5 hpc
 have hnd:=zfu hnd
 have hltn:∀n∈ns,n<h.length:=fun n hn=>by simpa using (List.all_eq_true.1 hlt) n hn
 have hmi:∀i,i<ns.length->ns[i]?=some (m i):=fun i hi=>by rw [hm]; exact zrD hi
 have hinj:∀i i',i<ns.length->i'<ns.length->m i=m i'->i=i':=fun i i' h1 h2 e=>by
  have g1:=zmZ (n:=h.length) (k:=0) hnd hltn (i:=i) (by omega)
  have g2:=zmZ (n:=h.length) (k:=0) hnd hltn (i:=i') (by omega)
  rw [hm] at e; rw [e,g2] at g1; exact (Option.some.inj g1).symm
 have hblk:∀(i:Nat) o,q.hc[i]?=some o->i<ns.length/\(kill q.F h)[m i]?=some (renO m o):=fun i o ho=>by
  have hi:i<ns.length:=by rw [hl2]; exact (List.getElem?_eq_some_iff.1 ho).1
  exact ⟨hi,hpg i (m i) o (hmi i hi) ho⟩
 let ιc:Io:=⟨fun i=>if i<ns.length then ι (m i) else none,fun i c=>i<ns.length/\ι.sub (m i) c⟩
 have hcb:∀i x,i<ns.length->ι (m i)=some x->ιc i=some x:=fun i x h1 h2=>by simp only [ιc,if_pos h1]; exact h2
 have hca:∀i c,At ιc i c->i<ns.length/\At ι (m i) c:=by
  rintro i c (⟨u,s,h1⟩ | ⟨h1,h2⟩)
  ·simp only [ιc] at h1
   split at h1
   ·rename_i h2; exact ⟨h2,.inl ⟨u,s,h1⟩⟩
   ·cases h1
  ·exact ⟨h1,.inr h2⟩
 have hcs:∀i,i<ns.length->ιc.sub i=ι.sub (m i):=fun i hi=>by funext c; simp [ιc,hi]
 have hownc:∀c,Own ιc q.hc c->∃i o,i<ns.length/\(kill q.F h)[m i]?=some o/\o.live=true/\At ι (m i) c:=by
  rintro c ⟨i,o,h1,h2,h3⟩
  obtain ⟨h4,h5⟩:=hblk i o h1
  exact ⟨i,_,h4,h5,by rw [zdQ]; exact h2,(hca i c h3).2⟩
 have hrc:Rel I ιc q.hc w:=by
  refine ⟨?_,?_,hr.tab,?_,?_,?_,?_,hr.ilt,?_⟩
  ·intro i x o hx ho
   obtain ⟨hi,hb⟩:=hblk i o ho
   have hx':ι (m i)=some x:=by simpa only [ιc,if_pos hi] using hx
   have hreal:=hr.real (m i) x _ hx' hb
   rw [hcs i hi]
   exact hreal.unren (k:=q.hc.length) (fun b y hb hy=>hcb b y (by rw [hl2]; exact hb) hy) ((List.all_eq_true.1 hbh) o (List.mem_of_getElem? ho))
  ·intro i o ho hl
   obtain ⟨hi,hb⟩:=hblk i o ho
   have:=hr.dom (m i) _ hb (by rw [zi8]; exact hl)
   simp only [ιc,if_pos hi]; exact this
  ·intro i i' o o' c h1 l1 h2 l2 a1 a2
   obtain ⟨h3,h4⟩:=hblk i o h1
   obtain ⟨h5,h6⟩:=hblk i' o' h2
   exact hinj i i' h3 h5 (hr.inj _ _ _ _ c h4 (by rw [zdQ]; exact l1) h6 (by rw [zdQ]; exact l2) (hca i c a1).2 (hca i' c a2).2)
  ·intro i c u s h1 h2
   have hi:=h2.1
   have h1':ι (m i)=some (c,u,s):=by simpa only [ιc,if_pos hi] using h1
   exact hr.own1 _ c u s h1' h2.2
  ·intro c hc hI
   obtain ⟨i,o,_,h2,h3,h4⟩:=hownc c hc
   exact hr.sep c ⟨_,o,h2,h3,h4⟩ hI
  ·intro i c h1; exact hr.lt _ c (hca i c h1).2
  ·intro i ho
   obtain ⟨hi,hb⟩:=hblk i _ ho
   have:=hr.hole (m i) hb
   exact ⟨by simp only [ιc,if_pos hi]; exact this.1,fun c hc=>this.2 c hc.2⟩
 have hfc:∀b,q.hc.length<=b->ιc.free b:=fun b hb=>by
  have:¬b<ns.length:=by omega
  exact ⟨by simp only [ιc,if_neg this],fun c hc=>this hc.1⟩
 have hvs:VRs I w ιc q.args (as.map a.eval):=by
  refine ⟨by rw [zbP] at hl1; simp at hl1 ⊢; omega,fun j y v hj hv=>?_⟩
  exact (hvs0 j y v hj hv).unren (k:=q.hc.length) (fun b x hb hx=>hcb b x (by rw [hl2]; exact hb) hx) y rfl (zbv hba j y hj)
 refine (hcall I ιc w (as.map a.eval) hrc hfc hvs).mono fun e w' ⟨v,I',ιc',he,out,hv⟩=>?_
 subst he
 obtain ⟨k,hk⟩:∃k,k=q.hc'.length-ns.length:=⟨_,rfl⟩
 have hck:q.hc'.length=ns.length+k:=by omega
 let ι':Io:=⟨fun b=>match inv ns h.length k b with | some i=>ιc' i | none=>ι b,fun b c=>match inv ns h.length k b with | some i=>ιc'.sub i c | none=>ι.sub b c⟩
 have hin:∀b i,inv ns h.length k b=some i->ι' b=ιc' i/\ι'.sub b=ιc'.sub i:=fun b i e=>⟨by simp only [ι',e],by funext c; simp only [ι',e]⟩
 have hout:∀b,inv ns h.length k b=none->ι' b=ι b/\ι'.sub b=ι.sub b:=fun b e=>⟨by simp only [ι',e],by funext c; simp only [ι',e]⟩
 have hmm:∀i,i<q.hc'.length->inv ns h.length k (m i)=some i:=fun i hi=>by rw [hm]; exact zmZ hnd hltn (by omega)
 have hfresh:∀i,q.hc'.length<=i->ιc'.free i:=out.fresh
 have hfw:∀b x,ιc' b=some x->ι' (m b)=some x:=fun b x e=>by
  have hb:b<q.hc'.length:=by
   rcases Nat.lt_or_ge b q.hc'.length with h1 | h1
   ·exact h1
   ·rw [(hfresh b h1).1] at e; cases e
  rw [(hin _ _ (hmm b hb)).1]; exact e
 have hnew:∀(b:Nat) o,(q.hp h)[b]?=some o->(∃i oc,inv ns h.length k b=some i/\q.hc'[i]?=some oc/\o=renO m oc)\/(inv ns h.length k b=none/\b<h.length/\(kill q.F h)[b]?=some o):=by
  intro b o hb
  have hbl:=(List.getElem?_eq_some_iff.1 hb).1
  rw [hhp] at hbl
  unfold HowH.hp at hb
  rw [← hns] at hb hbl
  have hle':ns.length<=(q.hc'.map (renO (nm ns h.length))).length:=by simpa using hle
  have conv:∀i,(q.hc'.map (renO (nm ns h.length)))[i]?=some o->∃oc,q.hc'[i]?=some oc/\o=renO m oc:=fun i hi=>by
   rw [List.getElem?_map,Option.map_eq_some_iff] at hi
   obtain ⟨oc,h1,h2⟩:=hi
   exact ⟨oc,h1,by rw [hm]; exact h2.symm⟩
  by_cases hbn:b∈ns
  ·have hil:=List.idxOf_lt_length_of_mem hbn
   have hib:ns[ns.idxOf b]?=some b:=by rw [List.getElem?_eq_getElem hil,List.getElem_idxOf hil]
   rw [zgS ns _ _ _ b hle' hnd (fun n hn=>by rw [hkl]; exact hltn n hn) hib] at hb
   obtain ⟨oc,h1,h2⟩:=conv _ hb
   exact .inl ⟨_,oc,by unfold inv; rw [if_pos hbn],h1,h2⟩
  ·by_cases hbh:b<h.length
   ·rw [ziL ns _ _ b hle' (by rw [hkl]; exact hbh) hbn] at hb
    exact .inr ⟨by unfold inv; rw [if_neg hbn,if_neg (by omega)],hbh,hb⟩
   ·have:=zmW ns (kill q.F h) (q.hc'.map (renO (nm ns h.length))) (b-h.length) hle'
    rw [hkl,show h.length+(b-h.length)=b by omega] at this
    rw [this] at hb
    obtain ⟨oc,h1,h2⟩:=conv _ hb
    exact .inl ⟨_,oc,by unfold inv; rw [if_neg hbn,if_pos (by omega)],h1,h2⟩
 have hat:∀b c,At ι' b c->(∃i,inv ns h.length k b=some i/\At ιc' i c)\/(inv ns h.length k b=none/\At ι b c):=by
  intro b c hc
  cases e:inv ns h.length k b with
  | some i =>
   obtain ⟨h1,h2⟩:=hin b i e
   refine .inl ⟨i,rfl,?_⟩
   rcases hc with ⟨u,s,h3⟩ | h3
   ·exact .inl ⟨u,s,h1▸h3⟩
   ·exact .inr (by rw [← h2]; exact h3)
  | none =>
   obtain ⟨h1,h2⟩:=hout b e
   refine .inr ⟨rfl,?_⟩
   rcases hc with ⟨u,s,h3⟩ | h3
   ·exact .inl ⟨u,s,h1▸h3⟩
   ·exact .inr (by rw [← h2]; exact h3)
 have hnotown:∀(b:Nat) o c,inv ns h.length k b=none->b<h.length->(kill q.F h)[b]?=some o->o.live=true->At ι b c->¬Own ιc q.hc c:=by
  rintro b o c hb hbl h1 h2 h3 ho
  obtain ⟨i,o',g1,g2,g3,g4⟩:=hownc c ho
  have e:=hr.inj b (m i) o o' c h1 h2 g2 g3 h3 g4
  subst e
  rw [hmm i (by omega)] at hb; cases hb
 have hst:∀(b:Nat) o c,inv ns h.length k b=none->b<h.length->(kill q.F h)[b]?=some o->o.live=true->At ι b c->w'.heap[c]?=w.heap[c]?:=fun b o c h1 h2 h3 h4 h5=>out.keep.block c (hr.lt b c h5) (hnotown b o c h1 h2 h3 h4 h5)
 have hIs:∀c,I c->w'.heap[c]?=w.heap[c]?:=hrc.imm_same out.keep
 have hmv:∀b,zby ι ι' b:=by
  intro b
  cases e:inv ns h.length k b with
  | none=>exact zby.of_eq (hout b e).1
  | some i =>
   obtain ⟨e2,hik⟩:=zmM e
   by_cases hi:i<ns.length
   ·have hmo:=out.moved i (by omega)
    have h1:ιc i=ι b:=by simp only [ιc,if_pos hi]; rw [hm,e2]
    rw [← hm] at e2
    exact ⟨fun c u s hc=>by rw [(hin b i e).1]; exact hmo.1 c u s (h1.trans hc),fun c hc=>by rw [(hin b i e).1]; exact hmo.2 c (h1.trans hc)⟩
   ·have hbl:h.length<=b/\b<(q.hp h).length:=by
     rw [hhp,← hns,← e2]
     unfold nm
     rw [if_neg hi]; omega
    have:=hfree b hbl.1 hbl.2
    exact ⟨fun c u s hc=>(by rw [this.1] at hc; cases hc),fun c hc=>(by rw [this.1] at hc; cases hc)⟩
 have own':∀c,Own ι' (q.hp h) c->Own ιc' q.hc' c\/∃b o,inv ns h.length k b=none/\b<h.length/\(kill q.F h)[b]?=some o/\o.live=true/\At ι b c:=by
  rintro c ⟨b,o,h1,h2,h3⟩
  rcases hnew b o h1 with ⟨i,oc,e1,e2,rfl⟩ | ⟨e1,e2,e3⟩
  ·rcases hat b c h3 with ⟨i',e4,h4⟩ | ⟨e4,_⟩
   ·rw [e1] at e4; obtain rfl:=Option.some.inj e4
    exact .inl ⟨i,oc,e2,by rw [zdQ] at h2; exact h2,h4⟩
   ·rw [e1] at e4; cases e4
  ·rcases hat b c h3 with ⟨i',e4,_⟩ | ⟨_,h4⟩
   ·rw [e1] at e4; cases e4
   ·exact .inr ⟨b,o,e1,e2,e3,h2,h4⟩
 have ownk:∀c,Own ι (kill q.F h) c->Own ι h c:=by
  rintro c ⟨b,o,h1,h2,h3⟩
  rw [ziM] at h1
  split at h1
  ·obtain rfl:=Option.some.inj h1; cases h2
  ·exact ⟨b,o,h1,h2,h3⟩
 have ownc1:∀c,Own ιc q.hc c->Own ι h c:=fun c hc=>by
  obtain ⟨i,o,_,h2,h3,h4⟩:=hownc c hc
  exact ownk c ⟨_,o,h2,h3,h4⟩
 have hapart:∀c,Own ιc' q.hc' c->∀(b:Nat) o,inv ns h.length k b=none->b<h.length->(kill q.F h)[b]?=some o->o.live=true->At ι b c->False:=by
  intro c hc b o e1 e2 e3 e4 e5
  rcases out.own c hc with h1 | h1
  ·exact hnotown b o c e1 e2 e3 e4 e5 h1
  ·have:=hr.lt b c e5; omega
 have hrel:Rel I' ι' (q.hp h) w':=by
  refine ⟨?_,?_,out.rel.tab,?_,?_,?_,?_,out.rel.ilt,?_⟩
  ·intro b x o hx ho
   rcases hnew b o ho with ⟨i,oc,e1,e2,rfl⟩ | ⟨e1,e2,e3⟩
   ·rw [(hin b i e1).1] at hx
    rw [(hin b i e1).2]
    exact (out.rel.real i x oc hx e2).ren hfw
   ·rw [(hout b e1).1] at hx
    rw [(hout b e1).2]
    by_cases hlo:o.live=true
    ·exact BR.mono out.imm hIs hmv (fun _ h=>h) (fun c hc=>hst b o c e1 e2 e3 hlo (.inr hc)) (hst b o x.1 e1 e2 e3 hlo (.inl ⟨x.2.1,x.2.2,hx⟩)) (hr.real b x o hx e3)
    ·cases o <;> first | trivial | exact absurd rfl hlo
  ·intro b o ho hl
   rcases hnew b o ho with ⟨i,oc,e1,e2,rfl⟩ | ⟨e1,e2,e3⟩
   ·rw [(hin b i e1).1]; exact out.rel.dom i oc e2 (by rw [zi8] at hl; exact hl)
   ·rw [(hout b e1).1]; exact hr.dom b o e3 hl
  ·intro b b' o o' c h1 l1 h2 l2 a1 a2
   rcases hnew b o h1 with ⟨i,oc,e1,e2,rfl⟩ | ⟨e1,e2,e3⟩ <;> rcases hnew b' o' h2 with ⟨i',oc',e1',e2',rfl⟩ | ⟨e1',e2',e3'⟩
   ·rcases hat b c a1 with ⟨j,f1,g1⟩ | ⟨f1,_⟩
    ·rcases hat b' c a2 with ⟨j',f1',g1'⟩ | ⟨f1',_⟩
     ·rw [e1] at f1; obtain rfl:=Option.some.inj f1
      rw [e1'] at f1'; obtain rfl:=Option.some.inj f1'
      rw [zdQ] at l1 l2
      have:=out.rel.inj i i' oc oc' c e2 l1 e2' l2 g1 g1'
      subst this
      rw [← (zmM e1).1,← (zmM e1').1]
     ·rw [e1'] at f1'; cases f1'
    ·rw [e1] at f1; cases f1
   ·rcases hat b c a1 with ⟨j,f1,g1⟩ | ⟨f1,_⟩
    ·rw [e1] at f1; obtain rfl:=Option.some.inj f1
     rcases hat b' c a2 with ⟨_,f1',_⟩ | ⟨_,g1'⟩
     ·rw [e1'] at f1'; cases f1'
     ·rw [zdQ] at l1
      exact (hapart c ⟨i,oc,e2,l1,g1⟩ b' o' e1' e2' e3' l2 g1').elim
    ·rw [e1] at f1; cases f1
   ·rcases hat b' c a2 with ⟨j,f1,g1⟩ | ⟨f1,_⟩
    ·rw [e1'] at f1; obtain rfl:=Option.some.inj f1
     rcases hat b c a1 with ⟨_,f1',_⟩ | ⟨_,g1'⟩
     ·rw [e1] at f1'; cases f1'
     ·rw [zdQ] at l2
      exact (hapart c ⟨i',oc',e2',l2,g1⟩ b o e1 e2 e3 l1 g1').elim
    ·rw [e1'] at f1; cases f1
   ·rcases hat b c a1 with ⟨_,f1,_⟩ | ⟨_,g1⟩
    ·rw [e1] at f1; cases f1
    ·rcases hat b' c a2 with ⟨_,f1,_⟩ | ⟨_,g1'⟩
     ·rw [e1'] at f1; cases f1
     ·exact hr.inj b b' o o' c e3 l1 e3' l2 g1 g1'
  ·intro b c u s hx hs
   cases e:inv ns h.length k b with
   | some i=>rw [(hin b i e).1] at hx; rw [(hin b i e).2] at hs; exact out.rel.own1 i c u s hx hs
   | none=>rw [(hout b e).1] at hx; rw [(hout b e).2] at hs; exact hr.own1 b c u s hx hs
  ·intro c hc hIc
   rcases own' c hc with h1 | ⟨b,o,e1,e2,e3,e4,e5⟩
   ·exact out.rel.sep c h1 hIc
   ·rcases out.new c hIc with h2 | h2 | h2
    ·exact hr.sep c ⟨b,o,e3,e4,e5⟩ h2
    ·have:=hr.lt b c e5; omega
    ·exact hnotown b o c e1 e2 e3 e4 e5 h2
  ·intro b c hc
   rcases hat b c hc with ⟨i,_,h1⟩ | ⟨_,h1⟩
   ·exact out.rel.lt i c h1
   ·have:=hr.lt b c h1; have:=out.keep.size; omega
  ·intro b hb
   rcases hnew b _ hb with ⟨i,oc,e1,e2,e3⟩ | ⟨e1,e2,e3⟩
   ·have hoc:oc=.hole:=by cases oc <;> first | rfl | cases e3
    subst hoc
    have:=out.rel.hole i e2
    exact ⟨by rw [(hin b i e1).1]; exact this.1,fun c hc=>this.2 c (by rw [(hin b i e1).2] at hc; exact hc)⟩
   ·have:=hr.hole b e3
    exact ⟨by rw [(hout b e1).1]; exact this.1,fun c hc=>this.2 c (by rw [(hout b e1).2] at hc; exact hc)⟩
 have hnewI:∀c,I c->I0 c\/Own ι h c:=by
  intro c hc
  rw [← hI] at hc
  rcases hc with hc | ⟨b,hbF,hb⟩
  ·exact .inl hc
  ·obtain ⟨o',ho',hl'⟩:=zek ((List.all_eq_true.1 hF) b (by simpa using hbF))
   exact .inr ⟨b,o',ho',hl',hb⟩
 refine K v w' I' ι' ⟨hrel,⟨out.keep.os,out.keep.tape,out.keep.output,out.keep.size,fun c hc hn=>out.keep.block c hc fun ho=>hn (ownc1 c ho)⟩,fun c hc=>out.imm c (by rw [← hI]; exact .inl hc),?_,?_,hmv,?_,by rw [hhp]; omega⟩ ?_
 ·intro c hc
  rcases out.new c hc with h1 | h1 | h1
  ·exact (hnewI c h1).imp id .inr
  ·exact .inr (.inl h1)
  ·exact .inr (.inr (ownc1 c h1))
 ·intro c hc
  rcases own' c hc with h1 | ⟨b,o,e1,e2,e3,e4,e5⟩
  ·exact (out.own c h1).imp (ownc1 c) id
  ·exact .inl (ownk c ⟨b,o,e3,e4,e5⟩)
 ·intro b hb
  rw [hhp,← hns] at hb
  refine hout b ?_
  unfold inv
  rw [if_neg (fun hm=>by have:=hltn b hm; omega),if_neg (by omega)]
 ·show VR I' w' ι' (ren (nm q.ns h.length) q.r) v
  rw [← hns,← hm]
  exact hv.ren hfw
end Go.Vs
end
section
namespace Go.Vs
variable [Tab]
variable {P:Program}
def zhA:LO->Nat->Nat->Option AV
 | .cells cs _ _,_,j=>cs[j]?
 | .rows rs _ _ _,i,j=>(rs[i]?).bind (·[j]?)
 | .map es,i,_=>(es[i]?).map (·.2)
 | _,_,_=>none
def putP:LO->Nat->Nat->AV->LO
 | .cells cs v t,_,j,x=>.cells (cs.set j x) v t
 | .rows rs k v t,i,j,x=>.rows (match rs[i]? with | some r=>rs.set i (r.set j x) | none=>rs) k v t
 | .map es,i,_,x=>.map (match es[i]? with | some e=>es.set i (e.1,x) | none=>es)
 | o,_,_,_=>o
theorem zha{o i j x}(h:(zhA o i j).isSome=true):(putP o i j x).live=true/\o.live=true:=by cases o <;> first | exact ⟨rfl,rfl⟩ | cases h
theorem zmB{o i j x}(h:(putP o i j x).born=true):o.born=true:=by
 cases o with
 | rows rs k v t =>
  cases rs with
  | nil=>simp [putP,LO.born] at h
  | cons r rs=>rfl
 | _=>exact h
theorem zqA{I w}{ι:Io}{S:Nat->Prop}{o:LO}{q:Nat × Nat × Nat}{i j:Nat}{x:AV}(h:BR I w ι S o q)(hx:zhA o i j=some x) :
  ∃(y:Value) (fp:Nat->Prop),(∀d,fp d->S d)/\DC I w ι fp x y /\
   ∀(ι':Io) (S' f':Nat->Prop) (x':AV),(∀x v,VR I w ι x v->VR I w ι' x v)->(∀d,S d->¬fp d->S' d)->(∀d,f' d->S' d)->(∀d,S d->¬fp d->¬f' d)->DC I w ι' f' x' y->BR I w ι' S' (putP o i j x') q:=by
 obtain ⟨c,cur,sz⟩:=q
 have up:∀{ι':Io} {f x v},(∀x v,VR I w ι x v->VR I w ι' x v)->DC I w ι f x v->DC I w ι' f x v:=fun hm h=>h.elim (fun h=>.inl (hm _ _ h)) .inr
 have parts:∀{f:Nat->Nat->Prop} {p:Nat} {S' f':Nat->Prop},zdF S f->(∀d,S d->¬f p d->S' d)->(∀d,f' d->S' d)->(∀d,S d->¬f p d->¬f' d)->zdF S' (fun n=>if n=p then f' else f n):=by
  intro f p S' f' hp h1 h2 h3
  refine ⟨fun n d hd=>?_,fun a b d ha hb=>?_⟩
  ·by_cases e:n=p
   ·simp only [if_pos e] at hd; exact h2 d hd
   ·simp only [if_neg e] at hd; exact h1 d (hp.1 n d hd) (fun h=>e (hp.2 n p d hd h))
  ·by_cases e1:a=p <;> by_cases e2:b=p
   ·omega
   ·simp only [if_pos e1,if_neg e2] at ha hb; exact absurd ha (h3 d (hp.1 b d hb) (fun h=>e2 (hp.2 b p d hb h)))
   ·simp only [if_neg e1,if_pos e2] at ha hb; exact absurd hb (h3 d (hp.1 a d ha) (fun h=>e1 (hp.2 a p d ha h)))
   ·simp only [if_neg e1,if_neg e2] at ha hb; exact hp.2 a b d ha hb
 cases o with
 | cells cs v t =>
  obtain ⟨e,arr,f,q1,q2,q3,hp,q4⟩:=h
  simp only [zhA] at hx
  have hlt:j<cs.length:=(List.getElem?_eq_some_iff.1 hx).1
  refine ⟨arr[j]'(by omega),f j,hp.1 j,q4 j x _ hx (by simp),fun ι' S' f' x' hm h1 h2 h3 hd=>⟨e,arr,fun n=>if n=j then f' else f n,q1,q2,by simpa using q3,parts hp h1 h2 h3,fun n y z hy hz=>?_⟩⟩
  rw [List.getElem?_set] at hy
  by_cases e:j=n
  ·subst e
   simp [hlt] at hy
   subst hy
   simp only [if_true]
   have:arr[j]'(by omega)=z:=by rw [Array.getElem?_eq_getElem (by omega)] at hz; exact Option.some.inj hz
   exact this▸hd
  ·rw [if_neg e] at hy
   simp only [if_neg (fun e2:n=j=>e e2.symm)]
   exact up hm (q4 n y z hy hz)
 | rows rs k v t =>
  obtain ⟨e,e0,arr,f,q1,q2,q3,q5,hp,q4⟩:=h
  simp only [zhA,Option.bind_eq_some_iff] at hx
  obtain ⟨r,hr,hx⟩:=hx
  have hil:i<rs.length:=(List.getElem?_eq_some_iff.1 hr).1
  have hjl:j<r.length:=(List.getElem?_eq_some_iff.1 hx).1
  have hrl:=q5 i r hr
  have hm1:(i+1) * k<=rs.length * k:=Nat.mul_le_mul_right _ hil
  rw [Nat.add_mul,Nat.one_mul] at hm1
  have hlt:i * k+j<arr.size:=by omega
  refine ⟨arr[i * k+j],f (i * k+j),hp.1 _,q4 i r j x _ hr hx (by simp [hlt]),fun ι' S' f' x' hm h1 h2 h3 hd=>?_⟩
  simp only [putP,hr]
  refine ⟨e,e0,arr,fun n=>if n=i * k+j then f' else f n,q1,q2,by simpa using q3,fun n s hn=>?_,parts hp h1 h2 h3,fun n s m y z hn hy hz=>?_⟩
  ·rw [List.getElem?_set] at hn
   by_cases en:i=n
   ·subst en; simp [hil] at hn; rw [← hn]; simpa using hrl
   ·rw [if_neg en] at hn; exact q5 n s hn
  ·rw [List.getElem?_set] at hn
   by_cases en:i=n
   ·subst en
    simp [hil] at hn
    subst hn
    rw [List.getElem?_set] at hy
    by_cases em:j=m
    ·subst em
     simp [hjl] at hy
     subst hy
     simp only [if_true]
     have:arr[i * k+j]=z:=by rw [Array.getElem?_eq_getElem hlt] at hz; exact Option.some.inj hz
     exact this▸hd
    ·rw [if_neg em] at hy
     simp only [if_neg (show ¬i * k+m=i * k+j by omega)]
     exact up hm (q4 i r m y z hr hy hz)
   ·rw [if_neg en] at hn
    have hml:m<k:=by rw [← q5 n s hn]; exact (List.getElem?_eq_some_iff.1 hy).1
    have hne:¬n * k+m=i * k+j:=by
     intro e3
     rcases Nat.lt_or_gt_of_ne en with h | h
     ·have:=Nat.mul_le_mul_right k (show i+1<=n from h)
      rw [Nat.add_mul,Nat.one_mul] at this; omega
     ·have:=Nat.mul_le_mul_right k (show n+1<=i from h)
      rw [Nat.add_mul,Nat.one_mul] at this; omega
    simp only [if_neg hne]
    exact up hm (q4 n s m y z hn hy hz)
 | siter s p=>cases hx
 | hole=>cases hx
 | map es =>
  obtain ⟨e1,e2,ents,clock,f,q1,q2,q3,q4,hp,q5⟩:=h
  simp only [zhA,Option.map_eq_some_iff] at hx
  obtain ⟨en,hen,rfl⟩:=hx
  have hil:i<es.length:=(List.getElem?_eq_some_iff.1 hen).1
  refine ⟨(ents[i]'(by omega)).val,f i,hp.1 i,(q5 i en _ hen (by simp)).2,fun ι' S' f' x' hm h1 h2 h3 hd=>?_⟩
  simp only [putP,hen]
  refine ⟨e1,e2,ents,clock,fun n=>if n=i then f' else f n,q1,by simpa using q2,q3,q4,parts hp h1 h2 h3,fun n y z hy hz=>?_⟩
  rw [List.getElem?_set] at hy
  by_cases en2:i=n
  ·subst en2
   simp [hil] at hy
   subst hy
   simp only [if_true]
   have:ents[i]'(by omega)=z:=by rw [Array.getElem?_eq_getElem (by omega)] at hz; exact Option.some.inj hz
   exact ⟨hm _ _ (q5 i en z hen hz).1,this▸hd⟩
  ·rw [if_neg en2] at hy
   simp only [if_neg (fun e2:n=i=>en2 e2.symm)]
   exact ⟨hm _ _ (q5 n y z hy hz).1,up hm (q5 n y z hy hz).2⟩
 | dead=>cases hx
inductive Gh where
 | foc (b i j:Nat)
 | fol (b i j:Nat)
 | nbx (b i j esz:Nat) (ty:TypeId)
 | res
def foc1(n:Nat):AV->Option (AV × LO)
 | .box cs ty=>some (.ptr n 0 0,.cells cs 0 ty)
 | .zBx rows esz ty=>some (.msl n 1 0 esz rows.length rows.length,.rows rows esz 1 ty)
 | .zBm es=>some (.map n,.map es)
 | _=>none
def clB(cs:List AV):Bool:=zaU 0 cs
def fol1(h:Hp):AV->Option (Nat × AV)
 | .ptr n 0 0=>match h[n]? with
  | some (.cells cs 0 ty)=>if clB cs=true then some (n,.box cs ty) else none
  | _=>none
 | .msl n ver 0 esz len cap=>match h[n]? with
  | some (.rows rs e v ty)=>if (v=ver/\e=esz/\len=rs.length)/\rs.all clB=true then some (n,.zBx rs esz ty) else none
  | _=>none
 | .map n=>match h[n]? with
  | some (.map es)=>if (es.all fun e=>zaX 0 e.1&&zaX 0 e.2)=true then some (n,.zBm es) else none
  | _=>none
 | _=>none
def gh1(h:Hp):Gh->Option Hp
 | .foc b i j=>(h[b]?).bind fun o=>(zhA o i j).bind fun x=>(foc1 h.length x).bind fun p=>some (h.set b (putP o i j p.1)++[p.2])
 | .fol b i j=>(h[b]?).bind fun o=>(zhA o i j).bind fun x=>(fol1 h x).bind fun p=>if p.1=b then none else some ((h.set b (putP o i j p.2)).set p.1 .dead)
 | .nbx b i j k ty=>(h[b]?).bind fun o=>(zhA o i j).bind fun x=>match x with | .nils=>some (h.set b (putP o i j (.zBx [] k ty))) | _=>none
 | .res=>some (h++[.hole])
def ghs(h:Hp):List Gh->Option Hp
 | []=>some h
 | g::gs=>(gh1 h g).bind fun h'=>ghs h' gs
structure GhOk (I:Nat->Prop) (ι:Io) (h:Hp) (w:World) (ι':Io) (h':Hp):Prop where
 rel:Rel I ι' h' w
 far:∀b,h'.length<=b->ι' b=ι b/\ι'.sub b=ι.sub b
 own:∀c,Own ι' h' c->Own ι h c
 moved:∀b,zby ι ι' b
 len:h.length<=h'.length
 vr:∀x v,VR I w ι x v->VR I w ι' x v
theorem GhOk.fresh{I ι h w ι' h'}(k:GhOk I ι h w ι' h')(hf:∀b,h.length<=b->ι.free b):∀b,h'.length<=b->ι'.free b:=fun b hb=>by
 have h1:=k.far b hb
 have h2:=hf b (Nat.le_trans k.len hb)
 exact ⟨h1.1.trans h2.1,by rw [h1.2]; exact h2.2⟩
theorem VR.cl{I w ι x v}(h:VR I w ι x v)(hx:zaX 0 x=true):VR I w Io.nil x v :=
 VR.unren (m:=fun b=>b) (k:=0) (fun b x hb _=>by omega) h x (by
  have:∀x:AV,Vs.ren (fun b=>b) x=x/\True:=fun x=>by
   induction x using AV.rec (motive_2:=fun l=>rens (fun b=>b) l=l) (motive_3:=fun _=>True) (motive_4:=fun _=>True) (motive_5:=fun _=>True) <;> simp_all [Vs.ren,rens]
  exact (this x).1.symm) hx
theorem DC.cl{I w ι S x v}(h:DC I w ι S x v)(hx:zaX 0 x=true):DR I w S x v:=h.elim (fun h=>.plain (h.cl hx)) id
theorem znm{cs:List AV}(h:clB cs=true){j:Nat}{x:AV}(hj:cs[j]?=some x):zaX 0 x=true:=zbv h j x hj
theorem zrX{I ι h w b i j h'}(hr:Rel I ι h w)(hf:ι.free h.length)(hg:gh1 h (.foc b i j)=some h'):∃ι',GhOk I ι h w ι' h':=by
 simp only [gh1,Option.bind_eq_some_iff] at hg
 obtain ⟨o,ho,x,hx,⟨x',on⟩,hfo,hg⟩:=hg
 obtain rfl:=Option.some.inj hg
 have hlt:b<h.length:=(List.getElem?_eq_some_iff.1 ho).1
 have hlo:=zha (x:=x') (o:=o) (i:=i) (j:=j) (by rw [hx]; rfl)
 have hnb:∀q,ι b=some q->BR I w ι (ι.sub b) o q:=fun q hq=>hr.real b q o hq ho
 have hbn:o.born=true->(ι b).isSome=true:=hr.dom b o ho
 have hborn:o.born=true:=by
  cases o with
  | cells=>rfl
  | rows rs k v t=>cases rs with
   | nil=>simp [zhA] at hx
   | cons r rs=>rfl
  | siter=>rfl
  | hole=>cases hx
  | map=>rfl
  | dead=>cases hx
 obtain ⟨q,hq⟩:=Option.isSome_iff_exists.1 (hbn hborn)
 obtain ⟨y,fp,hfp,hdc,hre⟩:=zqA (hnb q hq) hx
 obtain ⟨nb,sb,hsb,hnbc,hbr,hvr,hboth⟩:∃(nb:Option (Nat × Nat × Nat)) (sb:Nat->Prop),(∀d,sb d->fp d)/\(∀c u s,nb=some (c,u,s)->fp c/\¬sb c)/\(∀q,nb=some q->BR I w ι sb on q) /\
   (∀ι':Io,ι' h.length=nb->VR I w ι' x' y)/\(nb=none->on.born=false/\∀d,¬sb d):=by
  have hd:DR I w fp x y:=by
   rcases hdc with h1 | h1
   ·have:=h1.notbox; cases x <;> first | (cases this; done) | (cases hfo; done)
   ·exact h1
  cases hd with
  | plain h1=>have:=h1.notbox; cases x <;> first | (cases this; done) | (cases hfo; done)
  | box c arr f hS hc hn hff hd hxx =>
   simp only [foc1,Option.some.injEq,Prod.mk.injEq] at hfo
   obtain ⟨rfl,rfl⟩:=hfo
   refine ⟨some (c,0,arr.size),fun d=>∃j,f j d,fun d ⟨j,hj⟩=>(hff j d hj).1,fun c' u s e=>?_,fun q e=>?_,fun ι' e=>.ptr c 0 arr.size e (Nat.le_refl _) fun _=>rfl,fun e=>by cases e⟩
   ·simp only [Option.some.injEq,Prod.mk.injEq] at e
    obtain ⟨rfl,_,_⟩:=e
    exact ⟨hS,fun ⟨j,hj⟩=>(hff j _ hj).2 rfl⟩
   ·obtain rfl:=Option.some.inj e
    exact ⟨rfl,arr,f,hc,rfl,hn,⟨fun j d hj=>⟨j,hj⟩,hd⟩,fun j x y a b=>.inr (hxx j x y a b)⟩
  | boxsl0 =>
   simp only [foc1,Option.some.injEq,Prod.mk.injEq] at hfo
   obtain ⟨rfl,rfl⟩:=hfo
   exact ⟨none,fun _=>False,fun _ h=>h.elim,(fun _ _ _ e=>by cases e),(fun _ e=>by cases e),(fun _ _=>VR.mslnil),fun _=>⟨rfl,fun _ h=>h⟩⟩
  | zBx c ccap arr f hS hc ha hlen hn hroom hl hff hd hxx =>
   simp only [foc1,Option.some.injEq,Prod.mk.injEq] at hfo
   obtain ⟨rfl,rfl⟩:=hfo
   subst hlen
   refine ⟨some (c,1,arr.size),fun d=>∃j,f j d,fun d ⟨j,hj⟩=>(hff j d hj).1,fun c' u s e=>?_,fun q e=>?_,fun ι' e=>.msl c 1 arr.size e (Nat.le_refl _) fun _=>⟨by simpa using ha,rfl,hn,hn,by simpa using hroom⟩,fun e=>by cases e⟩
   ·simp only [Option.some.injEq,Prod.mk.injEq] at e
    obtain ⟨rfl,_,_⟩:=e
    exact ⟨hS,fun ⟨j,hj⟩=>(hff j _ hj).2 rfl⟩
   ·obtain rfl:=Option.some.inj e
    exact ⟨rfl,Nat.one_pos,arr,f,hc,rfl,Nat.le_trans (Nat.mul_le_mul_right _ hn) hroom,hl,⟨fun j d hj=>⟨j,hj⟩,hd⟩,fun i r j x y a b e=>.inr (hxx i r j x y a b e)⟩
  | zBm c clock ents f hS hc hn hb hbi hff hd hk hxx =>
   simp only [foc1,Option.some.injEq,Prod.mk.injEq] at hfo
   obtain ⟨rfl,rfl⟩:=hfo
   refine ⟨some (c,0,0),fun d=>∃j,f j d,fun d ⟨j,hj⟩=>(hff j d hj).1,fun c' u s e=>?_,fun q e=>?_,fun ι' e=>.map c e,fun e=>by cases e⟩
   ·simp only [Option.some.injEq,Prod.mk.injEq] at e
    obtain ⟨rfl,_,_⟩:=e
    exact ⟨hS,fun ⟨j,hj⟩=>(hff j _ hj).2 rfl⟩
   ·obtain rfl:=Option.some.inj e
    exact ⟨rfl,rfl,ents,clock,f,hc,hn,hb,hbi,⟨fun j d hj=>⟨j,hj⟩,hd⟩,fun j x e a b=>⟨(hk j x e a b).pure ι,.inr (hxx j x e a b)⟩⟩
 have hfl:=hf
 let ι':Io:=⟨fun b'=>if b'=h.length then nb else ι b',fun b' d=>if b'=h.length then sb d else if b'=b then ι.sub b d/\¬fp d else ι.sub b' d⟩
 have e1:ι' h.length=nb:=by simp [ι']
 have e2:∀b',b'≠h.length->ι' b'=ι b':=fun b' e=>by simp [ι',e]
 have s1:∀d,ι'.sub h.length d ↔ sb d:=fun d=>by simp [ι']
 have s2:∀d,ι'.sub b d ↔ (ι.sub b d/\¬fp d):=fun d=>by simp [ι',show ¬b=h.length by omega]
 have s3:∀b' d,b'≠h.length->b'≠b->(ι'.sub b' d ↔ ι.sub b' d):=fun b' d e e'=>by simp [ι',e,e']
 have hmv:∀b',zby ι ι' b':=fun b'=>by
  by_cases e:b'=h.length
  ·subst e; exact ⟨fun c u s hc=>(by rw [hfl.1] at hc; cases hc),fun c hc=>(by rw [hfl.1] at hc; cases hc)⟩
  ·exact zby.of_eq (e2 b' e)
 have hvv:∀x v,VR I w ι x v->VR I w ι' x v:=fun x v h=>h.mono (fun _ h=>h) (fun _ _=>rfl) ι' (fun b=>(hmv b).1) (fun b=>(hmv b).2)
 have atn:∀c,At ι' h.length c->fp c:=fun c hc=>by
  rcases hc with ⟨u,s,h1⟩ | h1
  ·exact (hnbc c u s (e1▸h1)).1
  ·exact hsb c ((s1 c).1 h1)
 have atb:∀c,At ι' b c->At ι b c/\¬fp c:=fun c hc=>by
  rcases hc with ⟨u,s,h1⟩ | h1
  ·rw [e2 b (by omega)] at h1
   exact ⟨.inl ⟨u,s,h1⟩,fun h=>hr.own1 b c u s h1 (hfp c h)⟩
  ·exact ⟨.inr ((s2 c).1 h1).1,((s2 c).1 h1).2⟩
 have ato:∀b' c,b'≠h.length->b'≠b->At ι' b' c->At ι b' c:=fun b' c n1 n2 hc=>by
  rcases hc with ⟨u,s,h1⟩ | h1
  ·rw [e2 b' n1] at h1; exact .inl ⟨u,s,h1⟩
  ·exact .inr ((s3 b' c n1 n2).1 h1)
 have back:∀(b':Nat) o' c,(h.set b (putP o i j x')++[on])[b']?=some o'->o'.live=true->At ι' b' c->∃bo oo,h[bo]?=some oo/\oo.live=true/\At ι bo c/\((b'=h.length/\bo=b/\fp c)\/(b'≠h.length/\bo=b'/\(b'=b->¬fp c))):=by
  intro b' o' c h1 h2 h3
  by_cases n1:b'=h.length
  ·subst n1
   exact ⟨b,o,ho,hlo.2,.inr (hfp c (atn c h3)),.inl ⟨rfl,rfl,atn c h3⟩⟩
  ·have hl:=(List.getElem?_eq_some_iff.1 h1).1
   simp at hl
   rw [List.getElem?_append_left (by simp; omega),List.getElem?_set] at h1
   by_cases n2:b'=b
   ·subst n2
    exact ⟨b',o,ho,hlo.2,(atb c h3).1,.inr ⟨n1,rfl,fun _=>(atb c h3).2⟩⟩
   ·rw [if_neg (fun e=>n2 e.symm)] at h1
    exact ⟨b',o',h1,h2,ato b' c n1 n2 h3,.inr ⟨n1,rfl,fun e=>absurd e n2⟩⟩
 have own:∀c,Own ι' (h.set b (putP o i j x')++[on]) c->Own ι h c:=by
  rintro c ⟨b',o',h1,h2,h3⟩
  obtain ⟨bo,oo,g1,g2,g3,_⟩:=back b' o' c h1 h2 h3
  exact ⟨bo,oo,g1,g2,g3⟩
 refine ⟨ι',⟨?_,?_,hr.tab,?_,?_,fun c hc=>hr.sep c (own c hc),?_,hr.ilt,?_⟩,fun b' hb'=>?_,own,hmv,by simp,hvv⟩
 ·intro b' x2 o2 hx2 ho2
  by_cases n1:b'=h.length
  ·subst n1
   rw [e1] at hx2
   rw [List.getElem?_append_right (by simp)] at ho2
   simp at ho2
   subst ho2
   exact BR.mono (fun _ h=>h) (fun _ _=>rfl) hmv (fun d hd=>(s1 d).2 hd) (fun _ _=>rfl) rfl (hbr x2 hx2)
  ·rw [e2 b' n1] at hx2
   have hl:=(List.getElem?_eq_some_iff.1 ho2).1
   simp at hl
   rw [List.getElem?_append_left (by simp; omega),List.getElem?_set] at ho2
   by_cases n2:b'=b
   ·subst n2
    simp [hlt] at ho2
    subst ho2
    rw [hq] at hx2
    obtain rfl:=Option.some.inj hx2
    refine hre ι' _ (fun _=>False) x' hvv (fun d h1 h2=>(s2 d).2 ⟨h1,h2⟩) (fun _ h=>h.elim) (fun _ _ _ h=>h) (.inl (hvr ι' e1))
   ·rw [if_neg (fun e=>n2 e.symm)] at ho2
    exact BR.mono (fun _ h=>h) (fun _ _=>rfl) hmv (fun d hd=>(s3 b' d n1 n2).2 hd) (fun _ _=>rfl) rfl (hr.real b' x2 o2 hx2 ho2)
 ·intro b' o2 ho2 hl2
  by_cases n1:b'=h.length
  ·subst n1
   rw [e1]
   rw [List.getElem?_append_right (by simp)] at ho2
   simp at ho2
   subst ho2
   cases hn:nb with
   | some _=>rfl
   | none=>rw [(hboth hn).1] at hl2; cases hl2
  ·rw [e2 b' n1]
   have hl:=(List.getElem?_eq_some_iff.1 ho2).1
   simp at hl
   rw [List.getElem?_append_left (by simp; omega),List.getElem?_set] at ho2
   by_cases n2:b'=b
   ·subst n2; rw [hq]; rfl
   ·rw [if_neg (fun e=>n2 e.symm)] at ho2; exact hr.dom b' o2 ho2 hl2
 ·intro b1 b2 o1 o2 c h1 l1 h2 l2 a1 a2
  obtain ⟨p1,q1,g1,k1,m1,r1⟩:=back b1 o1 c h1 l1 a1
  obtain ⟨p2,q2,g2,k2,m2,r2⟩:=back b2 o2 c h2 l2 a2
  have:=hr.inj p1 p2 q1 q2 c g1 k1 g2 k2 m1 m2
  rcases r1 with ⟨u1,u2,u3⟩ | ⟨u1,u2,u3⟩ <;> rcases r2 with ⟨v1,v2,v3⟩ | ⟨v1,v2,v3⟩
  ·omega
  ·exact absurd u3 (v3 (by omega))
  ·exact absurd v3 (u3 (by omega))
  ·omega
 ·intro b1 c u s h1 h2
  by_cases n1:b1=h.length
  ·subst n1; rw [e1] at h1; exact (hnbc c u s h1).2 ((s1 c).1 h2)
  ·rw [e2 b1 n1] at h1
   by_cases n2:b1=b
   ·subst n2; exact hr.own1 b1 c u s h1 ((s2 c).1 h2).1
   ·exact hr.own1 b1 c u s h1 ((s3 b1 c n1 n2).1 h2)
 ·intro b1 c h1
  by_cases n1:b1=h.length
  ·subst n1; exact hr.lt b c (.inr (hfp c (atn c h1)))
  ·by_cases n2:b1=b
   ·subst n2; exact hr.lt b1 c (atb c h1).1
   ·exact hr.lt b1 c (ato b1 c n1 n2 h1)
 ·intro b' ho2
  by_cases n1:b'=h.length
  ·subst n1
   rw [List.getElem?_append_right (by simp)] at ho2
   simp at ho2
   subst ho2
   exact absurd hfo (by cases x <;> simp [foc1])
  ·have hl:=(List.getElem?_eq_some_iff.1 ho2).1
   simp at hl
   rw [List.getElem?_append_left (by simp; omega),List.getElem?_set] at ho2
   by_cases n2:b'=b
   ·subst n2
    simp [hlt] at ho2
    rw [ho2] at hlo; cases hlo.1
   ·rw [if_neg (fun e=>n2 e.symm)] at ho2
    have:=hr.hole b' ho2
    exact ⟨by rw [e2 b' n1]; exact this.1,fun c hc=>this.2 c ((s3 b' c n1 n2).1 hc)⟩
 ·simp at hb'
  exact ⟨e2 b' (by omega),funext fun c=>propext (s3 b' c (by omega) (by omega))⟩
theorem zrW{I ι h w b i j h'}(hr:Rel I ι h w)(hg:gh1 h (.fol b i j)=some h'):∃ι',GhOk I ι h w ι' h':=by
 simp only [gh1,Option.bind_eq_some_iff] at hg
 obtain ⟨o,ho,x,hx,⟨n,x'⟩,hfo,hg⟩:=hg
 split at hg
 ·cases hg
 rename_i hne
 obtain rfl:=Option.some.inj hg
 dsimp only at hne ⊢
 have hlt:b<h.length:=(List.getElem?_eq_some_iff.1 ho).1
 have hlo:=zha (x:=x') (o:=o) (i:=i) (j:=j) (by rw [hx]; rfl)
 have hborn:o.born=true:=by
  cases o with
  | cells=>rfl
  | rows rs k v t=>cases rs with
   | nil=>simp [zhA] at hx
   | cons r rs=>rfl
  | siter=>rfl
  | hole=>cases hx
  | map=>rfl
  | dead=>cases hx
 obtain ⟨q,hq⟩:=Option.isSome_iff_exists.1 (hr.dom b o ho hborn)
 obtain ⟨y,fp,hfp,hdc,hre⟩:=zqA (hr.real b q o hq ho) hx
 obtain ⟨on,hon,hlon,hnew⟩:∃on:LO,h[n]?=some on/\on.live=true/\DR I w (fun d=>At ι n d) x' y:=by
  unfold fol1 at hfo
  split at hfo
  ·rename_i n'
   have hv:=hdc.plain rfl
   split at hfo
   ·rename_i cs ty hn
    split at hfo
    ·rename_i hcl
     simp only [Option.some.injEq,Prod.mk.injEq] at hfo
     obtain ⟨rfl,rfl⟩:=hfo
     obtain ⟨a,c,cur,sz,rfl,hi,hver,hc⟩:=hv.ptr_inv
     obtain ⟨g1,arr,f,g2,g3,g4,gp,g5⟩:=hr.real _ _ _ hi hn
     rw [hc g1]
     exact ⟨_,hn,rfl,.box c arr f (.inl ⟨cur,sz,hi⟩) g2 (by omega) (fun j d hj=>⟨.inr (gp.1 j d hj),fun e=>hr.own1 _ c cur sz hi (e▸gp.1 j d hj)⟩) gp.2 fun j x y a b=>(g5 j x y a b).cl (znm hcl a)⟩
    ·cases hfo
   ·cases hfo
  ·rename_i n' ver esz len cap
   have hv:=hdc.plain rfl
   split at hfo
   ·rename_i rs e v ty hn
    split at hfo
    ·rename_i hcl
     obtain ⟨⟨rfl,rfl,rfl⟩,hcl⟩:=hcl
     simp only [Option.some.injEq,Prod.mk.injEq] at hfo
     obtain ⟨rfl,rfl⟩:=hfo
     refine ⟨_,hn,rfl,?_⟩
     rcases hv.msl_inv with ⟨a,m,ccap,c,cur,sz,rfl,hi,hver,hc⟩ | ⟨rfl,h0,_⟩
     ·obtain ⟨g1,g0,arr,f,g2,g3,g4,g6,gp,g5⟩:=hr.real _ _ _ hi hn
      obtain ⟨k1,k2,k3,k4,k5⟩:=hc g1
      exact .zBx c ccap arr f (.inl ⟨cur,sz,hi⟩) g2 (by simpa using k1) k2.symm k4 (by simpa [g3] using k5) g6 (fun j d hj=>⟨.inr (gp.1 j d hj),fun e=>hr.own1 _ c cur sz hi (e▸gp.1 j d hj)⟩) gp.2 fun i r j x y a b e=>(g5 i r j x y a b e).cl (znm ((List.all_eq_true.1 hcl) r (List.mem_of_getElem? a)) b)
     ·rw [List.eq_nil_of_length_eq_zero h0]; exact .boxsl0
    ·cases hfo
   ·cases hfo
  ·rename_i n'
   have hv:=hdc.plain rfl
   split at hfo
   ·rename_i es hn
    split at hfo
    ·rename_i hcl
     simp only [Option.some.injEq,Prod.mk.injEq] at hfo
     obtain ⟨rfl,rfl⟩:=hfo
     cases hv with
     | map c hi =>
      obtain ⟨g1,g2,ents,clock,f,k1,k2,k3,k4,gp,k5⟩:=hr.real _ _ _ hi hn
      have hcl2:∀(j:Nat) x,es[j]?=some x->zaX 0 x.1=true/\zaX 0 x.2=true:=fun j x hj=>by
       have:=(List.all_eq_true.1 hcl) x (List.mem_of_getElem? hj); simpa using this
      exact ⟨_,hn,rfl,.zBm c clock ents f (.inl ⟨0,0,hi⟩) k1 k2 k3 k4 (fun j d hj=>⟨.inr (gp.1 j d hj),fun e=>hr.own1 _ c 0 0 hi (e▸gp.1 j d hj)⟩) gp.2 (fun j x e a b=>(k5 j x e a b).1.cl (hcl2 j x a).1) fun j x e a b=>(k5 j x e a b).2.cl (hcl2 j x a).2⟩
    ·cases hfo
   ·cases hfo
  ·cases hfo
 have hnl:n<h.length:=(List.getElem?_eq_some_iff.1 hon).1
 let ι':Io:=⟨ι.blk,fun b' d=>if b'=b then ι.sub b d\/At ι n d else if b'=n then False else ι.sub b' d⟩
 have s1:∀d,ι'.sub b d ↔ (ι.sub b d\/At ι n d):=fun d=>by simp [ι']
 have s3:∀b' d,b'≠n->b'≠b->(ι'.sub b' d ↔ ι.sub b' d):=fun b' d e e'=>by simp [ι',e,e']
 have hmv:∀b',zby ι ι' b':=fun b'=>zby.of_eq rfl
 have hvv:∀x v,VR I w ι x v->VR I w ι' x v:=fun x v h=>h.mono (fun _ h=>h) (fun _ _=>rfl) ι' (fun b=>(hmv b).1) (fun b=>(hmv b).2)
 have atb:∀c,At ι' b c->At ι b c\/At ι n c:=fun c hc=>by
  rcases hc with h1 | h1
  ·exact .inl (.inl h1)
  ·exact ((s1 c).1 h1).imp .inr id
 have ato:∀b' c,b'≠n->b'≠b->At ι' b' c->At ι b' c:=fun b' c n1 n2 hc=>hc.imp id fun h1=>(s3 b' c n1 n2).1 h1
 have get:∀(b':Nat) o',((h.set b (putP o i j x')).set n .dead)[b']?=some o'->o'.live=true->b'≠n/\(b'≠b->h[b']?=some o'):=by
  intro b' o' h1 h2
  rw [List.getElem?_set] at h1
  by_cases e:n=b'
  ·rw [if_pos e] at h1
   split at h1
   ·obtain rfl:=Option.some.inj h1; cases h2
   ·cases h1
  ·rw [if_neg e,List.getElem?_set] at h1
   exact ⟨fun e2=>e e2.symm,fun e2=>by rwa [if_neg (fun e3=>e2 e3.symm)] at h1⟩
 have back:∀(b':Nat) o' c,((h.set b (putP o i j x')).set n .dead)[b']?=some o'->o'.live=true->At ι' b' c->∃bo oo,h[bo]?=some oo/\oo.live=true/\At ι bo c/\((bo=n/\b'=b)\/(bo=b'/\b'≠n)):=by
  intro b' o' c h1 h2 h3
  obtain ⟨g1,g2⟩:=get b' o' h1 h2
  by_cases n2:b'=b
  ·subst n2
   rcases atb c h3 with h4 | h4
   ·exact ⟨b',o,ho,hlo.2,h4,.inr ⟨rfl,g1⟩⟩
   ·exact ⟨n,on,hon,hlon,h4,.inl ⟨rfl,rfl⟩⟩
  ·exact ⟨b',o',g2 n2,h2,ato b' c g1 n2 h3,.inr ⟨rfl,g1⟩⟩
 have own:∀c,Own ι' ((h.set b (putP o i j x')).set n .dead) c->Own ι h c:=by
  rintro c ⟨b',o',h1,h2,h3⟩
  obtain ⟨bo,oo,g1,g2,g3,_⟩:=back b' o' c h1 h2 h3
  exact ⟨bo,oo,g1,g2,g3⟩
 refine ⟨ι',⟨?_,?_,hr.tab,?_,?_,fun c hc=>hr.sep c (own c hc),?_,hr.ilt,?_⟩,fun b' hb'=>?_,own,hmv,by simp,hvv⟩
 ·intro b' x2 o2 hx2 ho2
  by_cases hl2:o2.live=true
  ·obtain ⟨g1,g2⟩:=get b' o2 ho2 hl2
   by_cases n2:b'=b
   ·subst n2
    rw [List.getElem?_set,if_neg (fun e=>g1 e.symm),List.getElem?_set] at ho2
    simp [hlt] at ho2
    subst ho2
    have hx2':ι b'=some x2:=hx2
    rw [hq] at hx2'
    obtain rfl:=Option.some.inj hx2'
    exact hre ι' _ (fun d=>At ι n d) x' hvv (fun d h1 _=>(s1 d).2 (.inl h1)) (fun d h1=>(s1 d).2 (.inr h1)) (fun d h1 _ h2=>g1 (hr.inj b' n o on d ho hlo.2 hon hlon (.inr h1) h2)) (.inr hnew)
   ·exact BR.mono (fun _ h=>h) (fun _ _=>rfl) hmv (fun d hd=>(s3 b' d g1 n2).2 hd) (fun _ _=>rfl) rfl (hr.real b' x2 o2 hx2 (g2 n2))
  ·cases o2 <;> first | trivial | exact absurd rfl hl2
 ·intro b' o2 ho2 hb2
  have hl2:o2.live=true:=by cases o2 <;> first | rfl | cases hb2
  obtain ⟨g1,g2⟩:=get b' o2 ho2 hl2
  by_cases n2:b'=b
  ·subst n2; show (ι b').isSome=true; rw [hq]; rfl
  ·exact hr.dom b' o2 (g2 n2) hb2
 ·intro b1 b2 o1 o2 c h1 l1 h2 l2 a1 a2
  obtain ⟨p1,q1,g1,k1,m1,r1⟩:=back b1 o1 c h1 l1 a1
  obtain ⟨p2,q2,g2,k2,m2,r2⟩:=back b2 o2 c h2 l2 a2
  have:=hr.inj p1 p2 q1 q2 c g1 k1 g2 k2 m1 m2
  rcases r1 with ⟨u1,u2⟩ | ⟨u1,u2⟩ <;> rcases r2 with ⟨v1,v2⟩ | ⟨v1,v2⟩ <;> omega
 ·intro b1 c u s h1 h2
  have h1':ι b1=some (c,u,s):=h1
  by_cases n2:b1=b
  ·subst n2
   rcases (s1 c).1 h2 with h3 | h3
   ·exact hr.own1 b1 c u s h1' h3
   ·exact hne (hr.inj n b1 on o c hon hlon ho hlo.2 h3 (.inl ⟨u,s,h1'⟩))
  ·by_cases n1:b1=n
   ·subst n1; simp [ι',n2] at h2
   ·exact hr.own1 b1 c u s h1' ((s3 b1 c n1 n2).1 h2)
 ·intro b1 c h1
  by_cases n2:b1=b
  ·subst n2; exact (atb c h1).elim (hr.lt _ c) (hr.lt _ c)
  ·by_cases n1:b1=n
   ·subst n1
    rcases h1 with h1 | h1
    ·exact hr.lt b1 c (.inl h1)
    ·simp [ι',n2] at h1
   ·exact hr.lt b1 c (ato b1 c n1 n2 h1)
 ·intro b' ho2
  rw [List.getElem?_set] at ho2
  split at ho2
  ·split at ho2
   ·cases ho2
   ·cases ho2
  ·rename_i n1
   rw [List.getElem?_set] at ho2
   by_cases n2:b=b'
   ·subst n2
    simp [hlt] at ho2
    rw [ho2] at hlo; cases hlo.1
   ·rw [if_neg n2] at ho2
    have:=hr.hole b' ho2
    exact ⟨this.1,fun c hc=>this.2 c ((s3 b' c (fun e=>n1 e.symm) (fun e=>n2 e.symm)).1 hc)⟩
 ·simp at hb'
  exact ⟨rfl,funext fun c=>propext (s3 b' c (by omega) (by omega))⟩
theorem zrE{I ι h w b i j k ty h'}(hr:Rel I ι h w)(hg:gh1 h (.nbx b i j k ty)=some h'):∃ι',GhOk I ι h w ι' h':=by
 simp only [gh1,Option.bind_eq_some_iff] at hg
 obtain ⟨o,ho,x,hx,hg⟩:=hg
 cases x <;> first | (cases hg; done) | skip
 obtain rfl:=Option.some.inj hg
 have hlt:b<h.length:=(List.getElem?_eq_some_iff.1 ho).1
 have hlo:=zha (x:=.zBx [] k ty) (o:=o) (i:=i) (j:=j) (by rw [hx]; rfl)
 have get:∀(b':Nat) o',(h.set b (putP o i j (.zBx [] k ty)))[b']?=some o'->(b'=b/\o'=putP o i j (.zBx [] k ty))\/(b'≠b/\h[b']?=some o'):=by
  intro b' o' h1
  rw [List.getElem?_set] at h1
  by_cases e:b=b'
  ·rw [if_pos e,if_pos hlt] at h1
   exact .inl ⟨e.symm,(Option.some.inj h1).symm⟩
  ·rw [if_neg e] at h1; exact .inr ⟨fun e2=>e e2.symm,h1⟩
 have back:∀(b':Nat) o',(h.set b (putP o i j (.zBx [] k ty)))[b']?=some o'->o'.live=true->∃oo,h[b']?=some oo/\oo.live=true:=by
  intro b' o' h1 h2
  rcases get b' o' h1 with ⟨rfl,rfl⟩ | ⟨_,g2⟩
  ·exact ⟨o,ho,hlo.2⟩
  ·exact ⟨o',g2,h2⟩
 have own:∀c,Own ι (h.set b (putP o i j (.zBx [] k ty))) c->Own ι h c:=by
  rintro c ⟨b',o',h1,h2,h3⟩
  obtain ⟨oo,g1,g2⟩:=back b' o' h1 h2
  exact ⟨b',oo,g1,g2,h3⟩
 refine ⟨ι,⟨?_,?_,hr.tab,?_,hr.own1,fun c hc=>hr.sep c (own c hc),hr.lt,hr.ilt,?_⟩,fun b' _=>⟨rfl,rfl⟩,own,fun b=>zby.refl _ b,by simp,fun _ _ h=>h⟩
 ·intro b' x2 o2 hx2 ho2
  rcases get b' o2 ho2 with ⟨rfl,rfl⟩ | ⟨_,g2⟩
  ·obtain ⟨y,fp,hfp,hdc,hre⟩:=zqA (hr.real b' x2 o hx2 ho) hx
   have hy:y=.slice none 0 0:=(hdc.plain rfl).nils_inv
   subst hy
   exact hre ι _ (fun _=>False) _ (fun _ _ h=>h) (fun d h1 _=>h1) (fun _ h=>h.elim) (fun _ _ _ h=>h) (.inr .boxsl0)
  ·exact hr.real b' x2 o2 hx2 g2
 ·intro b' o2 ho2 hl2
  rcases get b' o2 ho2 with ⟨rfl,rfl⟩ | ⟨_,g2⟩
  ·exact hr.dom b' o ho (zmB hl2)
  ·exact hr.dom b' o2 g2 hl2
 ·intro b1 b2 o1 o2 c h1 l1 h2 l2 a1 a2
  obtain ⟨p1,q1,k1⟩:=back b1 o1 h1 l1
  obtain ⟨p2,q2,k2⟩:=back b2 o2 h2 l2
  exact hr.inj b1 b2 p1 p2 c q1 k1 q2 k2 a1 a2
 ·intro b' ho2
  rcases get b' _ ho2 with ⟨rfl,g⟩ | ⟨_,g2⟩
  ·rw [← g] at hlo; cases hlo.1
  ·exact hr.hole b' g2
theorem GhOk.refl{I ι h w}(hr:Rel I ι h w):GhOk I ι h w ι h:=⟨hr,fun _ _=>⟨rfl,rfl⟩,fun _ h=>h,fun _=>zby.refl _ _,Nat.le_refl _,fun _ _ h=>h⟩
theorem GhOk.trans{I ι h w ι' h' ι'' h''}(a:GhOk I ι h w ι' h')(b:GhOk I ι' h' w ι'' h''):GhOk I ι h w ι'' h'' :=
 ⟨b.rel,fun n hn=>⟨(b.far n hn).1.trans (a.far n (Nat.le_trans b.len hn)).1,(b.far n hn).2.trans (a.far n (Nat.le_trans b.len hn)).2⟩,fun c hc=>a.own c (b.own c hc),fun n=>(a.moved n).trans (b.moved n),Nat.le_trans a.len b.len,fun x v h=>b.vr x v (a.vr x v h)⟩
theorem zm7{h h':Hp}{g:Gh}(hg:gh1 h g=some h'):h.length<=h'.length:=by
 cases g with
 | foc b i j =>
  simp only [gh1,Option.bind_eq_some_iff] at hg
  obtain ⟨_,_,_,_,_,_,hg⟩:=hg
  obtain rfl:=Option.some.inj hg; simp
 | fol b i j =>
  simp only [gh1,Option.bind_eq_some_iff] at hg
  obtain ⟨_,_,_,_,_,_,hg⟩:=hg
  split at hg
  ·cases hg
  ·obtain rfl:=Option.some.inj hg; simp
 | nbx b i j k ty =>
  simp only [gh1,Option.bind_eq_some_iff] at hg
  obtain ⟨_,_,x,_,hg⟩:=hg
  cases x <;> first | (cases hg; done) | skip
  obtain rfl:=Option.some.inj hg; simp
 | res=>obtain rfl:=Option.some.inj hg; simp
theorem ziQ:∀{g:List Gh} {h h':Hp},ghs h g=some h'->h.length<=h'.length
 | [],h,h',hg=>by obtain rfl:=Option.some.inj hg; exact Nat.le_refl _
 | g::gs,h,h',hg=>by
  simp only [ghs,Option.bind_eq_some_iff] at hg
  obtain ⟨h1,hg1,hg2⟩:=hg
  exact Nat.le_trans (zm7 hg1) (ziQ hg2)
theorem ziP{I w}:∀{g:List Gh} {ι h h'},Rel I ι h w->ghs h g=some h'->(∀b,h.length<=b->b<h'.length->ι.free b)->∃ι',GhOk I ι h w ι' h'
 | [],ι,h,h',hr,hg,hf=>by
  obtain rfl:=Option.some.inj hg
  exact ⟨ι,GhOk.refl hr⟩
 | g::gs,ι,h,h',hr,hg,hf=>by
  simp only [ghs,Option.bind_eq_some_iff] at hg
  obtain ⟨h1,hg1,hg2⟩:=hg
  have hl1:=zm7 hg1
  have hl2:=ziQ hg2
  obtain ⟨ι1,k1⟩:∃ι',GhOk I ι h w ι' h1:=by
   cases g with
   | foc b i j =>
    refine zrX hr (hf _ (Nat.le_refl _) ?_) hg1
    simp only [gh1,Option.bind_eq_some_iff] at hg1
    obtain ⟨_,_,_,_,_,_,hg3⟩:=hg1
    obtain rfl:=Option.some.inj hg3
    simp at hl2; omega
   | fol b i j=>exact zrW hr hg1
   | nbx b i j k ty=>exact zrE hr hg1
   | res =>
    obtain rfl:=Option.some.inj hg1
    have k:=Ext.grow hr (o:=.hole) (hf _ (Nat.le_refl _) (by simp at hl2; omega)) rfl
    exact ⟨ι,k.rel,fun _ _=>⟨rfl,rfl⟩,fun c hc=>(k.own c hc).elim id fun h=>by
     obtain ⟨b,o,h1,h2,h3⟩:=hc
     have:=hr.lt b c h3; omega,fun _=>zby.refl _ _,by simp,fun _ _ h=>h⟩
  obtain ⟨ι2,k2⟩:=ziP k1.rel hg2 (fun b hb hb2=>by
   have h1:=k1.far b hb
   have h2:=hf b (by omega) hb2
   exact ⟨h1.1.trans h2.1,by rw [h1.2]; exact h2.2⟩)
  exact ⟨ι2,k1.trans k2⟩
theorem zpl{I w}{g:List Gh}{ι h h'}(hr:Rel I ι h w)(hf:∀b,h.length<=b->ι.free b)(hg:ghs h g=some h'):∃ι',GhOk I ι h w ι' h':=ziP hr hg fun b hb _=>hf b hb
theorem GhOk.out{n0 I ι h w ι' h'}(a:GhOk I ι h w ι' h')(hf:∀b,h.length<=b->ι.free b)(hn:n0<=h.length):Out n0 I ι h w I ι' h' w :=
 ⟨a.rel,a.fresh hf,Keep.refl _ _ _,fun _ h=>h,fun _ h=>.inl h,fun c hc=>.inl (a.own c hc),fun b _=>a.moved b,Nat.le_trans hn a.len⟩
theorem Step.pre{o:Oper}{ρ:Operand->AV}{h h1 h':Hp}{r:AV}{g:List Gh}(hg:ghs h g=some h1)(hl:h1.length<=h'.length)(hs:Step P o ρ h1 r h'):Step P o ρ h r h':=by
 intro I ι w a hr hf hx next Q k
 obtain ⟨ι1,kk⟩:=ziP hr hg fun b hb hb2=>hf b hb (Nat.lt_of_lt_of_le hb2 hl)
 refine hs I ι1 w a kk.rel (fun b hb hb2=>?_) (fun x hx'=>kk.vr _ _ (hx x hx')) next Q fun v w' I' ι' e hv=>?_
 ·have h1:=kk.far b hb
  have h2:=hf b (Nat.le_trans kk.len hb) hb2
  exact ⟨h1.1.trans h2.1,by rw [h1.2]; exact h2.2⟩
 ·refine k v w' I' ι' ⟨e.rel,⟨e.keep.os,e.keep.tape,e.keep.output,e.keep.size,fun c hc hn=>e.keep.block c hc fun ho=>hn (kk.own c ho)⟩,e.imm,fun c hc=>(e.new c hc).imp id fun h=>h.imp id (kk.own c),fun c hc=>(e.own c hc).imp (kk.own c) id,fun b=>(kk.moved b).trans (e.moved b),fun b hb=>?_,Nat.le_trans kk.len e.len⟩ hv
  have h1:=e.far b hb
  have h2:=kk.far b (Nat.le_trans e.len hb)
  exact ⟨h1.1.trans h2.1,h1.2.trans h2.2⟩
theorem Step.post{o:Oper}{ρ:Operand->AV}{h h1 h':Hp}{r:AV}{g:List Gh}(hs:Step P o ρ h r h1)(hg:ghs h1 g=some h'):Step P o ρ h r h':=by
 intro I ι w a hr hf hx next Q k
 have hl:=ziQ hg
 refine hs I ι w a hr (fun b hb hb2=>hf b hb (by omega)) hx next Q fun v w' I' ι' e hv=>?_
 obtain ⟨ι2,kk⟩:=ziP e.rel hg fun b hb hb2=>by
  have h1:=e.far b hb
  have h2:=hf b (Nat.le_trans e.len hb) hb2
  exact ⟨h1.1.trans h2.1,by rw [h1.2]; exact h2.2⟩
 refine k v w' I' ι2 ⟨kk.rel,e.keep,e.imm,e.new,fun c hc=>e.own c (kk.own c hc),fun b=>(e.moved b).trans (kk.moved b),fun b hb=>?_,Nat.le_trans e.len kk.len⟩ (kk.vr _ _ hv)
 have h1:=e.far b (Nat.le_trans kk.len hb)
 have h2:=kk.far b hb
 exact ⟨h2.1.trans h1.1,h2.2.trans h1.2⟩
inductive Hw where
 | pure (q:How)
 | heap (q:HowH)
 | gheap (g:List Gh) (q:HowH) (g':List Gh)
def zzr(P:Program)(f:FuncId)(h:Hp)(xs:List AV)(g:List Gh)(q:HowH)(g':List Gh):Prop:=∃h1 h2,ghs h g=some h1/\callH P f h1 xs q/\ghs (q.hp h1) g'=some h2/\h1.length<=(q.hp h1).length
def callQ(P:Program)(f:FuncId)(h:Hp)(xs:List AV):Hw->Prop
 | .pure q=>zlC P f h xs q
 | .heap q=>callH P f h xs q
 | .gheap g q g'=>zzr P f h xs g q g'
def Hw.res(h:Hp):Hw->AV
 | .pure q=>q.r
 | .heap q=>q.res h
 | .gheap g q g'=>q.res ((ghs h g).getD [])
def Hw.hp(h:Hp):Hw->Hp
 | .pure q=>q.hp h
 | .heap q=>q.hp h
 | .gheap g q g'=>(ghs (q.hp ((ghs h g).getD [])) g').getD []
theorem callQ.plain{f:FuncId}{h:Hp}{xs:List AV}{r:AV}(hp:zbe xs=true)(hc:zaO P f xs r):callQ P f h xs (.pure ⟨[],false,xs,r⟩):=zlC.plain hp hc
theorem callQ.of{f:FuncId}{h:Hp}{xs:List AV}{q:How}(h1:q.F.all (fun b=>zfx h b)=true)(h2:wkAs h q.F xs q.args)(h3:zbe q.args=true)(h4:q.lend=true->scalT q.r=true)(h5:zaO P f q.args q.r):callQ P f h xs (.pure q):=⟨h1,h2,h3,h4,h5⟩
theorem callQ.ofH{f:FuncId}{h:Hp}{xs:List AV}{q:HowH}(h1:(q.F.all (fun b=>zfx h b)=true/\wkAs h q.F xs (rens (nm q.ns h.length) q.args)/\zfT q.ns=true/\q.ns.all (fun n=>decide (n<h.length))=true/\zfh (kill q.F h) (nm q.ns h.length) q.ns q.hc/\q.ns.length<=q.hc'.length/\zaU q.hc.length q.args=true/\ze2 q.hc.length q.hc=true))(h2:HF P f q.args q.hc q.r q.hc'):callQ P f h xs (.heap q):=⟨h1,h2⟩
theorem Step.callQ{o:Oper}{ρ:Operand->AV}{h:Hp}{f:FuncId}{as:Array Operand}{ts:Array TypeId}(ho:o.op=.call { callee:=.value (.func f),args:=as,argTypes:=ts })(hf:fnOk P f=true){q:Hw}
  (hc:callQ P f h (as.toList.map ρ) q):Step P o ρ h (q.res h) (q.hp h):=by
 cases q with
 | pure q=>exact Step.callX ho hf hc
 | heap q=>exact Step.callH ho hf hc
 | gheap g q g' =>
  obtain ⟨h1,h2,e1,hc,e2,hl⟩:=hc
  simp only [Hw.res,Hw.hp,e1,Option.getD_some,e2]
  exact Step.pre e1 (Nat.le_trans hl (ziQ e2)) (Step.post (Step.callH ho hf hc) e2)
end Go.Vs
end
section
namespace Go.Vs
variable [Tab]
variable {P:Program}
theorem zpz(a b:ByteArray):(a==b)=decide (a=b):=by
 cases a; cases b
 rw [Bool.eq_iff_iff]
 rename_i x y
 rw [decide_eq_true_eq]
 show (x==y)=true ↔ _
 rw [beq_iff_eq,ByteArray.mk.injEq]
def zhi(P:Program)(t:TypeId):Option (TypeId × TypeId):=match P.underlying t with | some (.map k e)=>some (k,e) | _=>none
theorem zia{t:TypeId}{q:TypeId × TypeId}(h:zhi P t=some q):P.underlying t=some (.map q.1 q.2):=by
 unfold zhi at h; split at h <;> simp_all; obtain ⟨rfl,rfl⟩:=h; simp_all
def zeN(P:Program)(t:TypeId):AV->Bool
 | .int _ _=>match P.underlying t with | some (.int _)=>true | _=>false
 | .str _=>match P.underlying t with | some .string=>true | _=>false
 | .bool _=>match P.underlying t with | some .bool=>true | _=>false
 | _=>false
def zhO:AV->AV->Option Bool
 | .int k a,.int k' b=>if k=k' then some (a==b) else none
 | .str a,.str b=>some (decide (a=b))
 | .bool a,.bool b=>some (a==b)
 | _,_=>none
def lkI(x:AV):List (AV × AV)->Nat->Option (Option Nat)
 | [],_=>some none
 | e::es,i=>match zhO x e.1 with
  | some true=>some (some i)
  | some false=>lkI x es (i+1)
  | none=>none
theorem zjj{x:AV}:∀{es:List (AV × AV)} {i n:Nat},lkI x es i=some (some n)->i<=n/\n<i+es.length
 | [],i,n,h=>by simp [lkI] at h
 | e::es,i,n,h=>by
  simp only [lkI] at h
  split at h
  ·simp only [Option.some.injEq] at h; subst h; simp
  ·have:=zjj h; simp; omega
  ·cases h
theorem zjS{t:TypeId}{I w ι x v}(h:VR I w ι x v)(hk:zeN P t x=true):(∃k n,x=.int k n/\v=.int k n)\/(∃s,x=.str s/\v=.string s)\/∃b,x=.bool b/\v=.bool b:=by
 cases x <;> simp only [zeN] at hk <;> first | (cases hk; done) | skip
 ·exact .inr (.inr ⟨_,rfl,h.bool_inv⟩)
 ·exact .inl ⟨_,_,rfl,h.int_inv⟩
 ·exact .inr (.inl ⟨_,rfl,h.str_inv⟩)
theorem zgr{t:TypeId}{x:AV}{I ι w v}(e:Bool)(hv:VR I w ι x v)(hk:zeN P t x=true):(Instr.checkKey e 10000 t v).run P w=.ok () w:=by
 rcases zjS hv hk with ⟨k,n,rfl,rfl⟩ | ⟨s,rfl,rfl⟩ | ⟨b,rfl,rfl⟩ <;>
 ·simp only [zeN] at hk
  split at hk
  ·rename_i hu
   unfold Instr.checkKey
   rw [Sem.run_bind,zaq hu]
   simp
  ·cases hk
theorem zgx{I ι w}{t:TypeId}{x:AV}{v:Value}{kd:TypeDesc}(hu:P.underlying t=some kd)(hk:zeN P t x=true)(hv:VR I w ι x v):∀(es:List (AV × AV)) (ents:List MapEntry) (i:Nat) (r:Option Nat),es.length=ents.length ->
  (∀(j:Nat) a b,es[j]?=some a->ents[j]?=some b->VR I w ι a.1 b.key)->lkI x es i=some r ->
  match r with | none=>Instr.findNow kd v ents i=some none | some n=>∃e,ents[n-i]?=some e/\Instr.findNow kd v ents i=some (some (n,e.val))
 | [],ents,i,r,hl,_,h=>by
  simp only [lkI,Option.some.injEq] at h; subst h
  have:ents=[]:=List.eq_nil_of_length_eq_zero hl.symm
  subst this; rfl
 | a::es,[],i,r,hl,_,h=>by simp at hl
 | a::es,b::ents,i,r,hl,hx,h=>by
  simp only [lkI] at h
  have h0:=hx 0 a b rfl rfl
  have key:∀q,zhO x a.1=some q->Instr.sameNow kd v b.key=some q:=by
   intro q hq
   rcases zjS hv hk with ⟨k,n,rfl,rfl⟩ | ⟨s,rfl,rfl⟩ | ⟨c,rfl,rfl⟩
   ·simp only [zeN,hu] at hk
    cases ha:a.1 <;> simp only [ha,zhO] at hq <;> try cases hq
    rw [ha] at h0
    rw [h0.int_inv]
    cases kd <;> simp only at hk <;> try cases hk
    simpa [Instr.sameNow] using hq
   ·simp only [zeN,hu] at hk
    cases ha:a.1 <;> simp only [ha,zhO] at hq <;> try cases hq
    rw [ha] at h0
    rw [h0.str_inv]
    cases kd <;> simp only at hk <;> try cases hk
    simp only [Instr.sameNow,zpz]
   ·simp only [zeN,hu] at hk
    cases ha:a.1 <;> simp only [ha,zhO] at hq <;> try cases hq
    rw [ha] at h0
    rw [h0.bool_inv]
    cases kd <;> simp only at hk <;> try cases hk
    rfl
  split at h
  ·rename_i hq
   simp only [Option.some.injEq] at h; subst h
   exact ⟨b,by simp,by simp only [Instr.findNow,key _ hq]⟩
  ·rename_i hq
   have ih:=zgx hu hk hv es ents (i+1) r (by simpa using hl) (fun j a b ha hb=>hx (j+1) a b (by simpa using ha) (by simpa using hb)) h
   simp only [Instr.findNow,key _ hq]
   cases r with
   | none=>exact ih
   | some n =>
    obtain ⟨e,h1,h2⟩:=ih
    have:=(zjj h).1
    exact ⟨e,by rw [show n-i=(n-(i+1))+1 by omega]; simpa using h1,h2⟩
  ·cases h
def zjO(h:Hp):AV->Option (Nat × List (AV × AV))
 | .map b=>match h[b]? with
  | some (.map es)=>some (b,es)
  | _=>none
 | _=>none
def mapV(es:List (AV × AV))(r:Option Nat):Option AV:=r.bind fun n=>(es[n]?).map (·.2)
def lkR(v:Option AV)(z:AV)(ok:Bool):AV:=if ok then .tuple [v.getD z,.bool v.isSome] else v.getD z
def ziV(P:Program)(t:TypeId):Option AV:=((P.info? t).bind (·.zero)).map ofC
def lkA(P:Program)(t:TypeId)(h:Hp)(m x:AV)(ok:Bool):Option AV :=
 (zhi P t).bind fun q=>(zjO h m).bind fun p=>(lkI x p.2 0).bind fun r=>(ziV P q.2).bind fun z =>
  if zeN P q.1 x=true/\(mapV p.2 r).all zcv=true then some (lkR (mapV p.2 r) z ok) else none
theorem zmn{t:TypeId}{z:AV}(hz:ziV P t=some z)(w:World):∃v,(zeroValue t).run P w=.ok v w/\∀I ι,VR I w ι z v:=by
 unfold ziV at hz
 cases hi:P.info? t with
 | none=>simp [hi] at hz
 | some i =>
  cases hv:i.zero with
  | none=>simp [hi,hv] at hz
  | some v =>
   simp [hi,hv] at hz
   subst hz
   exact ⟨v,by simp [zeroValue,typeInfo,hi,hv],fun I ι=>VR.ofC I w ι v⟩
theorem zkt{I ι h w m v b es}(hr:Rel I ι h w)(hv:VR I w ι m v)(hm:zjO h m=some (b,es)):∃c ents clock f,v=.map (some c)/\ι b=some (c,0,0)/\h[b]?=some (.map es)/\w.heap[c]?=some (.map ents clock)/\ents.size=es.length /\
  (∀(j:Nat) e,ents[j]?=some e->e.born<clock)/\(∀(i j:Nat) e e',ents[i]?=some e->ents[j]?=some e'->e.born=e'.born->i=j)/\zdF (ι.sub b) f /\
  ∀(j:Nat) x e,es[j]?=some x->ents[j]?=some e->VR I w ι x.1 e.key/\DC I w ι (f j) x.2 e.val:=by
 unfold zjO at hm
 split at hm
 ·rename_i b'
  split at hm
  ·rename_i es' hb
   simp only [Option.some.injEq,Prod.mk.injEq] at hm
   obtain ⟨rfl,rfl⟩:=hm
   cases hv with
   | map c hi =>
    obtain ⟨_,_,ents,clock,f,k1,k2,k3,k4,gp,k5⟩:=hr.real _ _ _ hi hb
    exact ⟨c,ents,clock,f,rfl,hi,hb,k1,k2,k3,k4,gp,k5⟩
  ·cases hm
 ·cases hm
theorem zjT{t:TypeId}{x:AV}(hk:zeN P t x=true):∃kd,P.underlying t=some kd:=by
 cases x <;> simp only [zeN] at hk <;> first | (cases hk; done) | (split at hk <;> first | exact ⟨_,by assumption⟩ | cases hk)
theorem zg8{I ι w}{t:TypeId}{x:AV}{v:Value}{es:List (AV × AV)}{ents:Array MapEntry}{r:Option Nat}(hk:zeN P t x=true)(hv:VR I w ι x v)(hl:ents.size=es.length)
  (hx:∀(j:Nat) a b,es[j]?=some a->ents[j]?=some b->VR I w ι a.1 b.key) (h:lkI x es 0=some r) :
  ∃q,(Instr.findKey t v ents.toList).run P w=.ok q w/\match r with | none=>q=none | some n=>∃e,ents[n]?=some e/\q=some (n,e.val):=by
 obtain ⟨kd,hu⟩:=zjT hk
 have:=zgx hu hk hv es ents.toList 0 r (by simpa using hl.symm) (fun j a b ha hb=>hx j a b ha (by simpa using hb)) h
 have run:∀q,Instr.findNow kd v ents.toList 0=some q->(Instr.findKey t v ents.toList).run P w=.ok q w:=fun q hq=>by
  unfold Instr.findKey
  rw [Sem.run_bind,zaq hu]
  simp [hq]
 cases r with
 | none=>exact ⟨none,run _ this,rfl⟩
 | some n =>
  obtain ⟨e,h1,h2⟩:=this
  exact ⟨_,run _ h2,e,by simpa using h1,rfl⟩
theorem zg7{c k:Nat}{es:Array MapEntry}{w:World}(h:w.heap[c]?=some (.map es k)):(getObj c).run P w=.ok (.map es k) w:=by simp [getObj,Sem.run,h]
theorem Step.lookup{o:Oper}{ρ:Operand->AV}{h:Hp}{t:TypeId}{m x:Operand}{ok:Bool}{r:AV}(ho:o.op=.lookup t m x ok)(hl:lkA P t h (ρ m) (ρ x) ok=some r):Step P o ρ h r h:=by
 refine Step.still fun I ι w a hr hx=>?_
 have hm:=hx m (by simp [ho,Op.operands])
 have hk:=hx x (by simp [ho,Op.operands])
 unfold lkA at hl
 simp only [Option.bind_eq_some_iff] at hl
 obtain ⟨q,hq,⟨b,es⟩,hma,ri,hri,z,hz,hl⟩:=hl
 split at hl
 ·rename_i hc
  obtain ⟨hkd,hpl⟩:=hc
  obtain rfl:=Option.some.inj hl
  obtain ⟨c,ents,clock,f,hv,hi,hb,hw,hsz,_,_,hp,hxy⟩:=zkt hr hm hma
  obtain ⟨zv,hzr,hzv⟩:=zmn hz w
  obtain ⟨g,hg,hgr⟩:=zg8 (P:=P) hkd hk hsz (fun j a b h1 h2=>(hxy j a b h1 h2).1) hri
  have run:∀(v:Value) (okb:Bool),(match g with | some (_,v)=>(pure (v,true):Sem (Value × Bool)) | none=>do pure (← zeroValue q.2,false)).run P w=.ok (v,okb) w ->
    (execOp a.eval o).run P w=.ok (.value (if ok then .tuple #[v,.bool okb] else v)) w:=by
   intro v okb hv2
   unfold execOp
   simp only [ho,hv,Instr.lookup]
   rw [Sem.run_bind,Sem.run_bind,run_underlying (zia hq)]
   simp only [Result.andThen_ok,Sem.run_bind,zg7 hw,Sem.run_pure,zgr _ hk hkd,hg]
   cases g with
   | none=>simp only [] at hv2 ⊢; simp only [Sem.run_bind,hzr,Result.andThen_ok,Sem.run_pure] at hv2 ⊢; simp at hv2; obtain ⟨rfl,rfl⟩:=hv2; rfl
   | some g=>obtain ⟨gi,gv⟩:=g; simp only [Sem.run_pure] at hv2 ⊢; simp at hv2; obtain ⟨rfl,rfl⟩:=hv2; rfl
  cases ri with
  | none =>
   subst hgr
   refine ⟨_,run zv false (by simp [Sem.run_bind,hzr]),?_⟩
   simp only [mapV,Option.bind_none,lkR,Option.getD_none,Option.isSome_none]
   cases ok with
   | false=>exact hzv I ι
   | true =>
    refine .tuple rfl fun j p u hp' hu=>?_
    match j,hp',hu with
    | 0,hp',hu=>simp at hp' hu; subst hp'; subst hu; exact hzv I ι
    | 1,hp',hu=>simp at hp' hu; subst hp'; subst hu; exact .bool _
    | _+2,hp',hu=>simp at hp'
  | some n =>
   obtain ⟨e,he,rfl⟩:=hgr
   have hne:n<es.length:=by have:=zjj hri; dsimp only at this; omega
   have hval:mapV es (some n)=some es[n].2:=by simp [mapV,hne]
   rw [hval] at hpl
   have hve:VR I w ι es[n].2 e.val:=((hxy n es[n] e (List.getElem?_eq_getElem hne) he).2).plain (by simpa using hpl)
   refine ⟨_,run e.val true (by simp),?_⟩
   rw [hval]
   simp only [lkR,Option.getD_some,Option.isSome_some]
   cases ok with
   | false=>exact hve
   | true =>
    refine .tuple rfl fun j p u hp' hu=>?_
    match j,hp',hu with
    | 0,hp',hu=>simp at hp' hu; subst hp'; subst hu; exact hve
    | 1,hp',hu=>simp at hp' hu; subst hp'; subst hu; exact .bool _
    | _+2,hp',hu=>simp at hp'
 ·cases hl
theorem Step.makeMap{o:Oper}{ρ:Operand->AV}{h:Hp}{t:TypeId}(ho:o.op=.makeMap t none):Step P o ρ h (.map h.length) (h++[.map []]):=by
 intro I ι w a hr hf hx next Q k
 have hrun:(execOp a.eval o).run P w=.ok (.value (.map (some w.heap.size))) (w.alloc (.map #[] 0)):=by
  unfold execOp
  simp [ho,Instr.makeMap]
 unfold Oper.wp
 rw [hrun]
 refine k _ _ I _ (Ext.alloc hr (hf _ (Nat.le_refl _) (by simp)) (.map []) (.map #[] 0) 0 0 rfl ?_) ?_
 ·rintro w' ι' rfl rfl mono
  exact ⟨rfl,rfl,#[],0,_,zbN _ _,rfl,by simp,by simp,zdF.none,by simp⟩
 ·exact .map _ (za5 _ _ _)
def mput(es:List (AV × AV))(r:Option Nat)(x v:AV):List (AV × AV):=match r with | none=>es++[(x,v)] | some n=>es.set n (x,v)
def muA(P:Program)(t:TypeId)(h:Hp)(m x v:AV):Option Hp :=
 (zhi P t).bind fun q=>(zjO h m).bind fun p=>(lkI x p.2 0).bind fun r=>if zeN P q.1 x=true/\oneB v=true then some (h.set p.1 (.map (mput p.2 r x v))) else none
theorem zjI{t:TypeId}{I ι w}{x a:AV}{v u:Value}(hk:zeN P t x=true)(hv:VR I w ι x v)(hu:VR I w ι a u)(he:zhO x a=some true):Instr.sameBits 10000 u v=true:=by
 rcases zjS hv hk with ⟨k,n,rfl,rfl⟩ | ⟨s,rfl,rfl⟩ | ⟨c,rfl,rfl⟩ <;> cases a <;> simp only [zhO] at he <;> try cases he
 ·rw [hu.int_inv]
  split at he
  ·rename_i e; subst e; simp at he; subst he; simp [Instr.sameBits]
  ·cases he
 ·rw [hu.str_inv]; simp at he; subst he; simp [Instr.sameBits,zpz]
 ·rw [hu.bool_inv]; simp at he; subst he; simp [Instr.sameBits]
theorem zpf{x:AV}:∀{es:List (AV × AV)} {i n:Nat},lkI x es i=some (some n)->∃e,es[n-i]?=some e/\zhO x e.1=some true
 | [],i,n,h=>by simp [lkI] at h
 | e::es,i,n,h=>by
  simp only [lkI] at h
  split at h
  ·rename_i hq
   simp only [Option.some.injEq] at h; subst h
   exact ⟨e,by simp,hq⟩
  ·have:=zjj h
   obtain ⟨e',h1,h2⟩:=zpf h
   exact ⟨e',by rw [show n-i=(n-(i+1))+1 by omega]; simpa using h1,h2⟩
  ·cases h
theorem zh2{c k:Nat}{es:Array MapEntry}{o:Obj}{w:World}(h:w.heap[c]?=some (.map es k)):(setObj c o).run P w=.ok () { w with heap:=w.heap.setIfInBounds c o }:=by
 simp [setObj,Sem.run,h]
theorem Step.mapUpdate{o:Oper}{ρ:Operand->AV}{h h':Hp}{t:TypeId}{m x y:Operand}(ho:o.op=.mapUpdate t m x y\/o.op=.insert t m x y)(hl:muA P t h (ρ m) (ρ x) (ρ y)=some h'):Step P o ρ h .undef h':=by
 intro I ι w a hr hf hx next Q K
 have hm:=hx m (by rcases ho with ho | ho <;> simp [ho,Op.operands])
 have hk:=hx x (by rcases ho with ho | ho <;> simp [ho,Op.operands])
 have hy:=hx y (by rcases ho with ho | ho <;> simp [ho,Op.operands])
 unfold muA at hl
 simp only [Option.bind_eq_some_iff] at hl
 obtain ⟨q,hq,⟨b,es⟩,hma,ri,hri,hl⟩:=hl
 split at hl
 ·rename_i hc
  obtain ⟨hkd,hone⟩:=hc
  obtain rfl:=Option.some.inj hl
  obtain ⟨c,ents,clock,f,hv,hi,hb,hw,hsz,hbo,hinj,hp,hxy⟩:=zkt hr hm hma
  obtain ⟨g,hg,hgr⟩:=zg8 (P:=P) hkd hk hsz (fun j a b h1 h2=>(hxy j a b h1 h2).1) hri
  have hcl:c<w.heap.size:=(Array.getElem?_eq_some_iff.1 hw).1
  have run:∀(ob:Obj),(do match g with
     | some (i,_)=>do
      let key ← Instr.keyThatStays (((ents[i]?).map (·.key)).getD (a.eval x)) (a.eval x)
      setObj c (.map (ents.modify i fun e=>{ e with key,val:=a.eval y }) clock)
     | none=>setObj c (.map (ents.push { key:=a.eval x,val:=a.eval y,born:=clock }) (clock+1)):Sem Unit).run P w=.ok () { w with heap:=w.heap.setIfInBounds c ob } ->
    (execOp a.eval o).run P w=.ok .skip { w with heap:=w.heap.setIfInBounds c ob }:=by
   intro ob hob
   unfold execOp
   rcases ho with ho | ho <;>
   ·simp only [ho,hv,Instr.mapUpdate]
    rw [Sem.run_bind,Sem.run_bind,run_underlying (zia hq)]
    simp only [Result.andThen_ok,Sem.run_bind,zg7 hw,Sem.run_pure,zgr _ hk hkd,hg]
    refine Eq.trans (congrArg (fun r=>Result.andThen r _) (?_:_=.ok () _)) rfl
    cases g with
    | none=>exact hob
    | some g=>exact hob
  have fin:∀(ents':Array MapEntry) (clock':Nat),(execOp a.eval o).run P w=.ok .skip { w with heap:=w.heap.setIfInBounds c (.map ents' clock') }->ents'.size=(mput es ri (ρ x) (ρ y)).length ->
    (∀(j:Nat) e,ents'[j]?=some e->e.born<clock')->(∀(i j:Nat) e e',ents'[i]?=some e->ents'[j]?=some e'->e.born=e'.born->i=j) ->
    (∀(j:Nat) z e,(mput es ri (ρ x) (ρ y))[j]?=some z->ents'[j]?=some e->VR I w ι z.1 e.key/\DC I w ι (f j) z.2 e.val)->o.wp P a w next Q:=by
   intro ents' clock' hrun h1 h2 h3 h4
   unfold Oper.wp
   rw [hrun]
   refine K undef _ I ι (Ext.turn (w':={ w with heap:=w.heap.setIfInBounds c (.map ents' clock') }) hr hb rfl hi (by simp) rfl rfl rfl (by simp) (fun k hk=>by simp only [Array.getElem?_setIfInBounds]; rw [if_neg (fun e=>hk e.symm)]) fun mono cmono=>?_) .undef
   exact ⟨rfl,rfl,ents',clock',f,by simp [hcl],h1,h2,h3,hp,fun j z e hj he=>⟨mono _ _ (h4 j z e hj he).1,cmono _ _ _ (hp.1 j) (h4 j z e hj he).2⟩⟩
  cases ri with
  | none =>
   subst hgr
   refine fin _ _ (run (.map (ents.push { key:=a.eval x,val:=a.eval y,born:=clock }) (clock+1)) (zh2 hw)) ?_ ?_ ?_ ?_
   ·simp [mput,hsz]
   ·intro j e he
    rw [Array.getElem?_push] at he
    split at he
    ·obtain rfl:=Option.some.inj he; simp
    ·have:=hbo j e he; omega
   ·intro i j e e' he he' hee
    rw [Array.getElem?_push] at he he'
    split at he <;> split at he'
    ·omega
    ·obtain rfl:=Option.some.inj he; have:=hbo j e' he'; simp at hee; omega
    ·obtain rfl:=Option.some.inj he'; have:=hbo i e he; simp at hee; omega
    ·exact hinj i j e e' he he' hee
   ·intro j z e hz he
    simp only [mput] at hz
    rw [List.getElem?_append] at hz
    rw [Array.getElem?_push] at he
    split at hz
    ·rename_i hlt
     rw [if_neg (by omega)] at he
     exact hxy j z e hz he
    ·rename_i hlt
     have:j-es.length=0:=by
      have:=(List.getElem?_eq_some_iff.1 hz).1; simp at this; omega
     rw [this] at hz
     simp at hz
     subst hz
     rw [if_pos (by omega)] at he
     obtain rfl:=Option.some.inj he
     exact ⟨hk,.inl hy⟩
  | some n =>
   obtain ⟨e,he,rfl⟩:=hgr
   have hne:n<es.length:=by have:=zjj hri; dsimp only at this; omega
   have hsame:Instr.sameBits 10000 e.key (a.eval x)=true:=by
    obtain ⟨en,h1,h2⟩:=zpf hri
    rw [Nat.sub_zero] at h1
    exact zjI hkd hk (hxy n en e h1 he).1 h2
   have hrun:=run (.map (ents.modify n fun e=>{ e with key:=a.eval x,val:=a.eval y }) clock) (by
    simp only [he,Option.map_some,Option.getD_some,Instr.keyThatStays,hsame,if_true,Sem.run_bind,Sem.run_pure,Result.andThen_ok]
    exact zh2 hw)
   have hgm:∀j,(ents.modify n fun e=>{ e with key:=a.eval x,val:=a.eval y })[j]?=if n=j then (ents[j]?).map (fun e=>{ e with key:=a.eval x,val:=a.eval y }) else ents[j]?:=fun j=>by
    rw [Array.getElem?_modify]
   refine fin _ _ hrun ?_ ?_ ?_ ?_
   ·simp [mput,hsz]
   ·intro j e' he'
    rw [hgm] at he'
    split at he'
    ·obtain ⟨e0,h0,rfl⟩:=Option.map_eq_some_iff.1 he'; exact hbo j e0 h0
    ·exact hbo j e' he'
   ·intro i j e1 e2 h1 h2 hee
    rw [hgm] at h1 h2
    split at h1 <;> split at h2
    ·omega
    ·obtain ⟨e0,h0,rfl⟩:=Option.map_eq_some_iff.1 h1; exact hinj i j e0 e2 h0 h2 hee
    ·obtain ⟨e0,h0,rfl⟩:=Option.map_eq_some_iff.1 h2; exact hinj i j e1 e0 h1 h0 hee
    ·exact hinj i j e1 e2 h1 h2 hee
   ·intro j z e1 hz h1
    simp only [mput] at hz
    rw [List.getElem?_set] at hz
    rw [hgm] at h1
    split at hz
    ·rename_i enj
     subst enj
     simp [hne] at hz
     subst hz
     rw [if_pos rfl] at h1
     obtain ⟨e0,h0,rfl⟩:=Option.map_eq_some_iff.1 h1
     exact ⟨hk,.inl hy⟩
    ·rename_i enj
     rw [if_neg enj] at h1
     exact hxy j z e1 hz h1
 ·cases hl
end Go.Vs
end
section
namespace Go.Vs
variable [Tab]
variable {P:Program}
def sB(s:ByteArray):List (List AV):=s.data.toList.map fun u=>[.int .u8 u.toNat]
theorem zeQ{s:ByteArray}:(sB s).length=s.size:=by unfold sB; rw [List.length_map,Array.length_toList]; rfl
theorem zru{s t:ByteArray}:sB s++sB t=sB (s++t):=by unfold sB; rw [ByteArray.data_append]; simp
theorem zrt:sB ⟨#[]⟩=[]:=rfl
theorem zrs{s:ByteArray}{i:Nat}{r:List AV}(h:(sB s)[i]?=some r):r.length=1:=by
 unfold sB at h
 rw [List.getElem?_map,Option.map_eq_some_iff] at h
 obtain ⟨u,_,rfl⟩:=h; rfl
theorem zpH{I w ι}{s:ByteArray}{i:Nat}{r:List AV}{x:AV}{y:Value}(h1:(sB s)[i]?=some r)(h2:r[0]?=some x)(h3:(Lib.strCells s)[i]?=some y):VR I w ι x y:=by
 unfold sB at h1
 unfold Lib.strCells at h3
 rw [List.getElem?_map,Option.map_eq_some_iff] at h1 h3
 obtain ⟨u,hu,rfl⟩:=h1
 obtain ⟨u',hu',rfl⟩:=h3
 rw [hu] at hu'
 obtain rfl:=Option.some.inj hu'
 simp at h2; subst h2
 exact .int _ _
theorem zfr{t t2 ty e:TypeId}{i:TypeInfo}(ht:P.underlying t=some (.slice e))(ht2:P.underlying t2=some .string)(hi:P.info? e=some i)(base:Option Addr)(sLen sCap:Nat)(hle:sLen<=sCap)(s:ByteArray)(hs:s.size=0)(w:World) :
  (Builtin.append_ #[t,t2] ty #[.slice base sLen sCap,.string s]).run P w=.ok (.slice base sLen sCap) w:=by
 have hc:(s.extract 0 0).data.map (fun b=>Value.int .u8 b.toNat)=#[]:=by
  apply Array.eq_empty_of_size_eq_zero; simp
 cases base <;> simp [Builtin.append_,run_underlying ht,run_underlying ht2,sizeOf,typeInfo,hi,Builtin.lenOf,hs,hle,Builtin.firstCells,zda]
theorem zet{w:World}(t u ty e:TypeId)(i:TypeInfo)(ht:P.underlying t=some (.slice e))(hu:P.underlying u=some .string)(hi:P.info? e=some i)(hs1:i.size=1)
  (g sLen sCap:Nat) (cur:Array Value) (hg:zeq w g cur e) (s:ByteArray)
  (hroom:sLen+s.size<=sCap) (hfit:sLen+s.size<=cur.size) :
  (Builtin.append_ #[t,u] ty #[.slice (some ⟨g,0,none⟩) sLen sCap,.string s]).run P w =
   .ok (.slice (some ⟨g,0,none⟩) (sLen+s.size) sCap) (w.setRow g (cur.toList.take sLen++Lib.strCells s++cur.toList.drop (sLen+s.size)).toArray):=by
 obtain ⟨z,hg,hz⟩:=hg
 have hf:=Lib.run_firstCells_string (P:=P) w 1 s
 have hst:=zcr (P:=P) g sLen e z (Lib.strCells s) 0 cur w hg hz (by simpa [Lib.strCells_length] using hfit) (Lib.strCells_oneCell s)
 simp only [Nat.add_zero,Lib.strCells_length] at hst
 simp [Builtin.append_,run_underlying ht,run_underlying hu,sizeOf,typeInfo,hi,hs1,Builtin.lenOf,hroom,hf,Addr.add_lit,hst]
theorem zjC{t t2 ty e:TypeId}{k b ver len cap bts:Nat}(hk1:k=1){z:List AV}{rs:List (List AV)}{str:ByteArray}(ht2:P.underlying t2=some .string)(ht:P.underlying t=some (.slice e))(hk:tsz P e=some k)(hz:zaH P e=some z)(hzk:z.length=k)
  (hb:zap P e=some bts) (hb2:bts<=32768) {I ι h w} (hr:Rel I ι h w) {v:Value} (hv:VR I w ι (.msl b ver 0 k len cap) v) (hh:h[b]?=some (.rows rs k ver e)) (hlen:len<=rs.length)
  (hn:len+str.size<=4294967296) :
  ∃v' w' ι',(Builtin.append_ #[t,t2] ty #[v,.string str]).run P w=.ok v' w'/\Ext I ι h w I ι' (h.set b (.rows (rs.take len++sB str) k (ver+1) e)) w'/\VR I w' ι' (.msl b (ver+1) 0 k (len+str.size) (len+str.size)) v':=by
 obtain ⟨rows2,hrows2⟩:∃rows2,rows2=sB str:=⟨_,rfl⟩
 have hrl2:str.size=rows2.length:=by rw [hrows2,zeQ]
 rw [← hrows2]
 rw [hrl2] at hn ⊢
 have hr2:∀(i:Nat) r,rows2[i]?=some r->r.length=k:=by rw [hrows2,hk1]; exact fun i r=>zrs
 have hk0:k≠0:=by omega
 obtain ⟨i,hi,hik⟩:∃i,P.info? e=some i/\i.size=k:=by
  unfold tsz at hk
  cases hi:P.info? e with
  | none=>simp [hi] at hk
  | some i=>simp [hi] at hk; exact ⟨i,rfl,hk⟩
 obtain ⟨zv,hzv,hzs⟩:=zgW hi hz
 rw [hzk] at hzs
 have hbt:i.bytes=bts:=by unfold zap at hb; simp [hi] at hb; exact hb
 have hs1:i.size=1:=by omega
 have hsz0:rows2.length=0->∀base sLen sCap,sLen<=sCap->(Builtin.append_ #[t,t2] ty #[.slice base sLen sCap,.string str]).run P w=.ok (.slice base sLen sCap) w:=fun h0 base sLen sCap hle=>zfr ht ht2 hi base sLen sCap hle str (by omega) w
 obtain ⟨news,hnews⟩:∃news,news=Lib.strCells str:=⟨_,rfl⟩
 have hnl0:news.length=rows2.length:=by rw [hnews,Lib.strCells_length,hrl2]
 have hnv:∀(i:Nat) r (j:Nat) x y,rows2[i]?=some r->r[j]?=some x->news[i * k+j]?=some y->VR I w ι x y:=by
  intro i r j x y h1 h2 h3
  have hj:j=0:=by have:=hr2 i r h1; have:=(List.getElem?_eq_some_iff.1 h2).1; omega
  subst hj
  rw [hk1,Nat.mul_one,Nat.add_zero,hnews] at h3
  rw [hrows2] at h1
  exact zpH h1 h2 h3
 have hlt:b<h.length:=(List.getElem?_eq_some_iff.1 hh).1
 have hrow1:∀cur sz c,ι b=some (c,cur,sz)->(∀(i:Nat) r,rs[i]?=some r->r.length=k):=fun cur sz c hib2=>(hr.real b _ _ hib2 hh).2.2.choose_spec.choose_spec.2.2.2.1
 have hrl:∀(hrs:∀(i:Nat) r,rs[i]?=some r->r.length=k),∀(i:Nat) r,(rs.take len++rows2)[i]?=some r->r.length=k:=by
  intro hrs i r hir
  rw [List.getElem?_append] at hir
  split at hir
  ·rw [List.getElem?_take] at hir
   split at hir
   ·exact hrs i r hir
   ·cases hir
  ·exact hr2 _ r hir
 have htl:(rs.take len).length=len:=by simp; omega
 have hget:∀(i:Nat) r,(rs.take len++rows2)[i]?=some r->(i<len/\rs[i]?=some r)\/(len<=i/\rows2[i-len]?=some r):=by
  intro i r hir
  rw [List.getElem?_append,htl] at hir
  split at hir
  ·rename_i hlt2; rw [List.getElem?_take_of_lt hlt2] at hir; exact .inl ⟨hlt2,hir⟩
  ·exact .inr ⟨by omega,hir⟩
 have hmul:∀i j n:Nat,i<n->j<k->i * k+j<n * k:=by
  intro i j n h1 h2
  have:(i+1) * k<=n * k:=Nat.mul_le_mul_right _ h1
  rw [Nat.add_mul,Nat.one_mul] at this; omega
 rcases hv.msl_inv with ⟨a,n,ccap,c,cur,sz,rfl,hib,hver,hcc⟩ | ⟨rfl,rfl,rfl⟩
 ·obtain ⟨e1,e0,arr,f,harr,hsz,hle2,hlens,hparts,hx⟩:=hr.real b _ _ hib hh
  obtain ⟨had,rfl,hcap,hncap,hroom⟩:=hcc e1
  simp only [Nat.zero_add,Nat.zero_mul] at hroom had
  by_cases h0:rows2.length=0
  ·have hr0:rows2=[]:=List.eq_nil_of_length_eq_zero h0
   subst hr0
   refine ⟨_,w,upd ι b (c,ver+1,sz),hsz0 h0 (some a) n ccap hncap,Ext.renew hr hh rfl (by simp) rfl rfl rfl (Nat.le_refl _) (fun _ _ _=>rfl) (.inr ⟨cur,sz,hib⟩) (fun c' u s hc=>?_) (fun ι' mono cmono=>?_),?_⟩
   ·rw [hib] at hc; simp only [Option.some.injEq,Prod.mk.injEq] at hc; omega
   ·refine ⟨rfl,by omega,arr,f,harr,hsz,?_,hrl hlens,hparts,fun i r j x y hi hj hy=>?_⟩
    ·simp only [List.append_nil,htl]
     exact Nat.le_trans (Nat.mul_le_mul_right _ hlen) hle2
    ·rcases hget i r hi with ⟨_,h2⟩ | ⟨_,h2⟩
     ·exact cmono _ _ _ (hparts.1 _) (hx i r j x y h2 hj hy)
     ·simp at h2
   ·simp only [List.length_nil,Nat.add_zero]
    exact .msl c (ver+1) sz (za5 _ _ _) (Nat.le_refl _) fun _=>⟨by simpa using had,rfl,hncap,hncap,by simpa using hroom⟩
  ·have hnl:news.length=rows2.length * k:=by rw [hnl0,hk1,Nat.mul_one]
   rw [← hik] at hnl
   by_cases hroom2:n+rows2.length<=ccap
   ·obtain rfl:=had.resolve_right (by omega)
    have hnk:(n+rows2.length) * k<=ccap * k:=Nat.mul_le_mul_right _ hroom2
    rw [Nat.add_mul] at hnk
    have hnl':news.length=rows2.length * k:=by rw [hnl,hik]
    have hfit:n * i.size+news.length<=arr.size:=by rw [hik]; omega
    have hrun:=zet (P:=P) t t2 ty e i ht ht2 hi hs1 c n ccap arr harr str (by omega) (by rw [hs1] at hfit; omega)
    rw [hrl2,← hnews] at hrun
    have hrun:(Builtin.append_ #[t,t2] ty #[.slice (some ⟨c,0,none⟩) n ccap,.string str]).run P w=.ok (.slice (some ⟨c,0,none⟩) (n+rows2.length) ccap) (w.setRow c (arr.toList.take (n * i.size)++news++arr.toList.drop (n * i.size+news.length)).toArray):=by
     rw [hs1,Nat.mul_one,hnl0]; exact hrun
    refine ⟨_,_,upd ι b (c,ver+1,sz),hrun,Ext.renew hr hh rfl (by simp) (by simp) (by simp) (by simp) (by simp) (fun k' hk' hne=>setRow_other w c k' _ (fun e=>hne cur sz (e▸hib))) (.inr ⟨cur,sz,hib⟩) (fun c' u s hc=>?_) (fun ι' mono cmono=>?_),?_⟩
    ·rw [hib] at hc; simp only [Option.some.injEq,Prod.mk.injEq] at hc; omega
    ·refine ⟨rfl,by omega,_,f,harr.setRow (by simp; omega),?_,?_,hrl hlens,hparts,fun i2 r j x y hi2 hj hy=>cmono _ _ _ (hparts.1 _) ?_⟩
     ·simp; omega
     ·simp only [List.length_append,htl]; rw [Nat.add_mul]; omega
     ·have hjk:j<k:=by rw [← hrl hlens i2 r hi2]; exact (List.getElem?_eq_some_iff.1 hj).1
      rw [zgT _ _ _ (by rw [hik]; omega),hik] at hy
      rcases hget i2 r hi2 with ⟨h1,h2⟩ | ⟨h1,h2⟩
      ·have:=hmul i2 j n h1 hjk
       rw [if_neg (by omega)] at hy
       exact hx i2 r j x y h2 hj hy
      ·have hi2l:i2-n<rows2.length:=(List.getElem?_eq_some_iff.1 h2).1
       have hlow:n * k<=i2 * k:=Nat.mul_le_mul_right _ h1
       have:=hmul (i2-n) j rows2.length hi2l hjk
       have he:i2 * k+j-n * k=(i2-n) * k+j:=by rw [Nat.sub_mul]; omega
       have he3:(i2-n) * k=i2 * k-n * k:=Nat.sub_mul _ _ _
       rw [if_pos (by omega),he] at hy
       exact .inl (hnv (i2-n) r j x y h2 hj hy)
    ·exact .msl c (ver+1) sz (za5 _ _ _) (Nat.le_refl _) fun _=>⟨.inl (by simp),rfl,hroom2,hroom2,by simpa using hroom⟩
   ·have hold:∃olds:List Value,olds.length=n * i.size/\(∀j v,olds[j]?=some v->w.cell? (a.add j)=some v)/\∀j,j<n * k->olds[j]?=arr[j]?:=by
     by_cases hn0:n=0
     ·subst hn0; exact ⟨[],by simp,by simp,by simp⟩
     ·obtain rfl:=had.resolve_right (by omega)
      have hle3:n * k<=arr.size:=by
       have:=Nat.mul_le_mul_right k hncap; omega
      refine ⟨arr.toList.take (n * k),by simp [hik]; omega,fun j v hj=>?_,fun j hj=>by rw [List.getElem?_take_of_lt hj]; simp⟩
      have hjl:=(List.getElem?_eq_some_iff.1 hj).1
      simp at hjl
      rw [List.getElem?_take_of_lt (by omega)] at hj
      obtain ⟨_,harr,-⟩:=harr
      simp only [zbA,Nat.zero_add,World.cell?,harr]
      simpa using hj
    obtain ⟨olds,hol,hoc,hoa⟩:=hold
    have hrun:=Lib.run_append_grow_string (P:=P) w t t2 ty e i zv ht ht2 hi hzv a n ccap olds hol hoc str (by omega) (by omega) (growslice_fits (by omega) (by
     rw [hbt]
     rw [hrl2]
     calc (n+rows2.length) * bts<=4294967296 * 32768:=Nat.mul_le_mul hn hb2
      _<=140737488355328:=by omega))
    rw [hrl2,← hnews] at hrun
    have hge:=grownCap_ge w (n+rows2.length) ccap e
    generalize grownCap w (n+rows2.length) ccap e=nc at hrun hge
    have hsz2:(olds.toArray++news.toArray++Builtin.zeroCells zv.cells (nc-(n+rows2.length))).size=nc * k:=by
     simp only [Array.size_append,List.size_toArray,zdr,hzs,hol,hnl,hik,← Nat.add_mul]
     congr 1; omega
    refine ⟨_,_,upd ι b (w.heap.size,ver+1,nc * k),hrun,Ext.renew hr hh rfl (by simp) rfl rfl rfl (by simp) (fun k' hk' _=>alloc_old w.drew _ k' hk') (.inl ⟨Nat.le_refl _,by simp⟩) (fun c' u s hc=>?_) (fun ι' mono cmono=>?_),?_⟩
    ·rw [hib] at hc; simp only [Option.some.injEq,Prod.mk.injEq] at hc; omega
    ·refine ⟨rfl,by omega,_,f,zeq.of (zbN w.drew _),hsz2,?_,hrl hlens,hparts,fun i2 r j x y hi2 hj hy=>cmono _ _ _ (hparts.1 _) ?_⟩
     ·simp only [List.length_append,htl]; exact Nat.mul_le_mul_right _ hge
     ·have hjk:j<k:=by rw [← hrl hlens i2 r hi2]; exact (List.getElem?_eq_some_iff.1 hj).1
      rw [Array.append_assoc,Array.getElem?_append] at hy
      simp only [List.size_toArray,hol,hik] at hy
      rcases hget i2 r hi2 with ⟨h1,h2⟩ | ⟨h1,h2⟩
      ·have:=hmul i2 j n h1 hjk
       rw [if_pos this] at hy
       simp only [List.getElem?_toArray] at hy
       rw [hoa _ this] at hy
       exact hx i2 r j x y h2 hj hy
      ·have hi2l:i2-n<rows2.length:=(List.getElem?_eq_some_iff.1 h2).1
       have hlow:n * k<=i2 * k:=Nat.mul_le_mul_right _ h1
       have hm2:=hmul (i2-n) j rows2.length hi2l hjk
       have he3:(i2-n) * k=i2 * k-n * k:=Nat.sub_mul _ _ _
       have he:i2 * k+j-n * k=(i2-n) * k+j:=by omega
       rw [if_neg (by omega),Array.getElem?_append] at hy
       simp only [List.size_toArray,hnl,hik] at hy
       rw [if_pos (by omega),he] at hy
       exact .inl (hnv (i2-n) r j x y h2 hj (by simpa using hy))
    ·exact .msl w.heap.size (ver+1) (nc * k) (za5 _ _ _) (Nat.le_refl _) fun _=>⟨.inl (by simp),rfl,hge,hge,by simp⟩
 ·by_cases h0:rows2.length=0
  ·have hr0:rows2=[]:=List.eq_nil_of_length_eq_zero h0
   subst hr0
   have hrun:=hsz0 h0 none 0 0 (Nat.le_refl _)
   cases hib:ι b with
   | none =>
    refine ⟨_,w,ι,hrun,Ext.still_set hr hh rfl (by simp) hib (by simp [LO.born]),?_⟩
    simp only [List.length_nil,Nat.add_zero]; exact .mslnil
   | some q =>
    obtain ⟨c,cur,sz⟩:=q
    obtain ⟨e1,e0,arr,f,harr,hsz,hle2,hlens,hparts,hx⟩:=hr.real b _ _ hib hh
    refine ⟨_,w,upd ι b (c,ver+1,sz),hrun,Ext.renew hr hh rfl (by simp) rfl rfl rfl (Nat.le_refl _) (fun _ _ _=>rfl) (.inr ⟨cur,sz,hib⟩) (fun c' u s hc=>?_) (fun ι' mono cmono=>?_),?_⟩
    ·rw [hib] at hc; simp only [Option.some.injEq,Prod.mk.injEq] at hc; omega
    ·exact ⟨rfl,by omega,arr,f,harr,hsz,by simp,by simp,hparts,by simp⟩
    ·simp only [List.length_nil,Nat.add_zero]; exact .mslnil
  ·have hnl:news.length=rows2.length * k:=by rw [hnl0,hk1,Nat.mul_one]
   rw [← hik] at hnl
   have hrun:=run_append_nil_string (P:=P) w t t2 ty e i zv ht ht2 hi hzv str (by omega) (by omega) (by
    rw [hbt,hrl2]
    calc rows2.length * bts<=4294967296 * 32768:=Nat.mul_le_mul (by omega) hb2
     _<=281474976710656:=by omega)
   have e1:(str.data.map fun b=>Value.int .u8 b.toNat)=news.toArray:=by
    rw [hnews]
    apply Array.ext'
    simp [Lib.strCells]
   rw [e1,hrl2] at hrun
   have hge:=grownCap_ge w rows2.length 0 e
   generalize grownCap w rows2.length 0 e=nc at hrun hge
   have hsz2:(news.toArray++Builtin.zeroCells zv.cells (nc-rows2.length)).size=nc * k:=by
    simp only [Array.size_append,List.size_toArray,zdr,hzs,hnl,hik,← Nat.add_mul]
    congr 1; omega
   refine ⟨_,_,upd ι b (w.heap.size,ver+1,nc * k),hrun,Ext.renew hr hh rfl (by simp) rfl rfl rfl (by simp) (fun k' hk' _=>alloc_old w.drew _ k' hk') (.inl ⟨Nat.le_refl _,by simp⟩) (fun c' u s hc=>?_) (fun ι' mono cmono=>?_),?_⟩
   ·obtain ⟨e1,e0,_⟩:=hr.real b _ _ hc hh; omega
   ·simp only [List.take_zero,List.nil_append] at hrl ⊢
    refine ⟨rfl,by omega,_,_,zeq.of (zbN w.drew _),hsz2,Nat.mul_le_mul_right _ hge,hr2,zdF.none,fun i2 r j x y hi2 hj hy=>.inl (mono _ _ ?_)⟩
    have hjk:j<k:=by rw [← hr2 i2 r hi2]; exact (List.getElem?_eq_some_iff.1 hj).1
    have hi2l:i2<rows2.length:=(List.getElem?_eq_some_iff.1 hi2).1
    have hm2:=hmul i2 j rows2.length hi2l hjk
    rw [Array.getElem?_append] at hy
    simp only [List.size_toArray,hnl,hik] at hy
    rw [if_pos hm2] at hy
    exact hnv i2 r j x y hi2 hj (by simpa using hy)
   ·simp only [Nat.zero_add]
    exact .msl w.heap.size (ver+1) (nc * k) (za5 _ _ _) (Nat.le_refl _) fun _=>⟨.inl (by simp),rfl,hge,hge,by simp⟩
def apS(P:Program)(t t':TypeId)(h:Hp)(s:AV):AV->Option (AV × Hp)
 | .str x=>match s with
  | .msl b ver off k len cap=>match h[b]? with
   | some (.rows rs k2 v ty)=>(zak P t).bind fun e=>(tsz P e).bind fun k3=>(zaH P e).bind fun z=>(zap P e).bind fun bts =>
    if ((off=0/\v=ver/\k2=k/\k3=k/\ty=e/\k=1/\z.length=k/\bts<=32768/\len<=rs.length)/\zaJ P t'=true)/\Fits (len+x.size) then
     some (.msl b (ver+1) 0 k (len+x.size) (len+x.size),h.set b (.rows (rs.take len++sB x) k (ver+1) ty)) else none
   | _=>none
  | _=>none
 | _=>none
theorem Step.appendStr{o:Oper}{ρ:Operand->AV}{h:Hp}{t t':TypeId}{s x:Operand}{r:AV × Hp}(ho:o.op=.call { callee:=.builtin .append,args:=#[s,x],argTypes:=#[t,t'] })(hr:apS P t t' h (ρ s) (ρ x)=some r):Step P o ρ h r.1 r.2:=by
 intro I ι w a hrel hf hx next Q K
 have h1:=hx s (by simp [ho,Op.operands,Call.operands])
 have h2:=hx x (by simp [ho,Op.operands,Call.operands])
 unfold apS at hr
 split at hr
 ·rename_i str hxe
  split at hr
  ·rename_i b ver off k len cap hs
   split at hr
   ·rename_i rs k2 v ty hb
    simp only [Option.bind_eq_some_iff] at hr
    obtain ⟨e,he,k3,hk,z,hz,bts,hbt,hr⟩:=hr
    split at hr
    ·rename_i hc
     obtain ⟨⟨⟨rfl,rfl,rfl,rfl,rfl,hk1,hzk,hb2,hlen⟩,hstr⟩,hn⟩:=hc
     obtain rfl:=Option.some.inj hr
     rw [hs] at h1
     rw [hxe] at h2
     have hu:P.underlying t'=some .string:=by
      unfold zaJ at hstr; split at hstr <;> simp_all
     obtain ⟨v',w',ι',hrun,hext,hv⟩:=zjC (P:=P) (ty:=o.type) hk1 hu (zaR he) hk hz hzk hbt hb2 hrel h1 hb hlen hn
     rw [← h2.str_inv] at hrun
     unfold Oper.wp execOp
     simp only [ho,resolve,Go.invoke,builtin,Sem.run_bind,Sem.run_pure,Result.andThen_ok,List.map_toArray,List.map_cons,List.map_nil,hrun]
     exact K v' w' I ι' hext hv
    ·cases hr
   ·cases hr
  ·cases hr
 ·cases hr
def zk9(P:Program)(t:TypeId):Option TypeId:=match P.underlying t with | some (.pointer e)=>some e | _=>none
theorem zh4{t e:TypeId}(h:zk9 P t=some e):P.underlying t=some (.pointer e):=by unfold zk9 at h; split at h <;> simp_all
def sdA(P:Program)(ty:TypeId)(h:Hp):AV->Option AV
 | .msl b ver 0 1 len cap=>match h[b]? with
  | some (.rows rs 1 v _)=>if v=ver/\(zk9 P ty).isSome=true then some (.bptr b ver len) else none
  | _=>none
 | _=>none
theorem Step.sliceData{o:Oper}{ρ:Operand->AV}{h:Hp}{t:TypeId}{x:Operand}{r:AV}(ho:o.op=.call { callee:=.builtin .unsafeSliceData,args:=#[x],argTypes:=#[t] })(hr:sdA P o.type h (ρ x)=some r):Step P o ρ h r h:=by
 intro I ι w a hrel hf hx next Q K
 have h1:=hx x (by simp [ho,Op.operands,Call.operands])
 unfold sdA at hr
 split at hr
 ·rename_i b ver len cap hxe
  split at hr
  ·rename_i rs v ty hb
   split at hr
   ·rename_i hc
    obtain ⟨rfl,hp⟩:=hc
    obtain ⟨e,hp⟩:=Option.isSome_iff_exists.1 hp
    obtain rfl:=Option.some.inj hr
    rw [hxe] at h1
    have go:∀v' w',(Builtin.unsafeSliceData_ #[t] o.type #[a.eval x]).run P w=.ok v' w'->Ext I ι h w I ι h w'->VR I w' ι (.bptr b v len) v'->o.wp P a w next Q:=by
     intro v' w' hrun hext hv
     unfold Oper.wp execOp
     simp only [ho,resolve,Go.invoke,builtin,Sem.run_bind,Sem.run_pure,Result.andThen_ok,List.map_toArray,List.map_cons,List.map_nil,hrun]
     exact K v' w' I ι hext hv
    rcases h1.msl_inv with ⟨ad,n,ccap,c,cur,sz,e1,hib,hver,hcc⟩ | ⟨e1,rfl,rfl⟩
    ·obtain ⟨g1,g0,arr,f,⟨_,g2,-⟩,g3,g4,g5,gp,g6⟩:=hrel.real _ _ _ hib hb
     obtain ⟨had,rfl,hcap,hncap,hroom⟩:=hcc g1
     by_cases h0:ccap=0
     ·have hbl:ad.block=c:=by rcases had with e | e; exact (by rw [e]); exact e.2
      have hn0:n=0:=by omega
      subst hn0
      subst h0
      have hsh:w.shape? ad.block=some (ty,arr.size):=by simp [World.shape?,hbl,g2]
      refine go _ _ (by rw [e1]; exact Lib.run_unsafeSliceData_zero w #[t] o.type e (zh4 hp) ad 0 _ hsh) ?_ .bptr0
      exact Ext.below hrel ((RowKit.Below.refl _ _).alloc (Nat.le_refl _) _) (fun _ h=>h) (fun c hc=>by have:=hrel.ilt c hc; rw [zcA]; omega) (fun c hc=>.inl hc)
     ·refine go _ w (by rw [e1]; exact Lib.run_unsafeSliceData_row w #[t] o.type ad n ccap h0) (Ext.refl hrel) (.bptr c cur sz hib hver fun e2 hne=>?_)
      obtain rfl:=had.resolve_right (by omega)
      simp
    ·exact go _ w (by rw [e1]; rfl) (Ext.refl hrel) .bptr0
   ·cases hr
  ·cases hr
 ·cases hr
theorem zoT{I w ι b ver n v}(h:VR I w ι (.bptr b ver n) v):∃p,v=.pointer p:=by cases h <;> exact ⟨_,rfl⟩
theorem zoU{I w b ver n v}{ι:Io}(h:VR I w ι (.bptr b ver n) v)(hn:¬n=0):∃c cur sz,ι b=some (c,cur,sz)/\(ver=cur->n≠0->v=.pointer (some ⟨c,0,none⟩)):=by
 cases h with
 | bptr c cur sz h hv hc=>exact ⟨c,cur,sz,h,fun e1 e3=>by rw [hc e1 e3]⟩
 | bptr0=>exact absurd rfl hn
theorem Step.unsafeString{o:Oper}{ρ:Operand->AV}{h:Hp}{t t' e:TypeId}{x n:Operand}{b ver:Nat}{s:ByteArray}(ho:o.op=.call { callee:=.builtin .unsafeString,args:=#[x,n],argTypes:=#[t,t'] })
  (hp:zk9 P t=some e) (hc1:P.cellsOf e=1) (hxe:ρ x=.bptr b ver s.size) (hne:ρ n=.int .i64 s.size) (hb:h[b]?=some (.rows (sB s) 1 ver e)) (hn:Fits s.size):Step P o ρ h (.str s) (h.set b .dead):=by
 intro I ι w a hrel hf hx next Q K
 have h1:=hx x (by simp [ho,Op.operands,Call.operands])
 have h2:=hx n (by simp [ho,Op.operands,Call.operands])
 rw [hxe] at h1
 rw [hne] at h2
 have e2:=h2.int_inv
 have hbl:b<h.length:=(List.getElem?_eq_some_iff.1 hb).1
 have go:∀w',(Builtin.unsafeString_ #[t,t'] o.type #[a.eval x,a.eval n]).run P w=.ok (.string s) w'->Ext I ι h w I ι (h.set b .dead) w'->o.wp P a w next Q:=by
  intro w' hrun hext
  unfold Oper.wp execOp
  simp only [ho,resolve,Go.invoke,builtin,Sem.run_bind,Sem.run_pure,Result.andThen_ok,List.map_toArray,List.map_cons,List.map_nil,hrun]
  exact K (.string s) w' I ι hext (.str s)
 by_cases h0:s.size=0
 ·have hs:s=.empty:=by
   apply ByteArray.ext
   exact Array.eq_empty_of_size_eq_zero h0
  obtain ⟨p,hp2⟩:∃p,a.eval x=.pointer p:=by
   exact zoT h1
  refine go w ?_ ?_
  ·rw [hp2,e2,h0,hs]
   exact Lib.run_unsafeString_none w t t' o.type p
  ·cases hib:ι b with
   | none=>exact Ext.still_set hrel hb rfl (by simp) hib rfl
   | some q =>
    obtain ⟨c,cur,sz⟩:=q
    exact Ext.turn hrel hb rfl hib (by simp) rfl rfl rfl rfl (fun _ _=>rfl) fun _ _=>trivial
 ·have hq:∃c cur sz,ι b=some (c,cur,sz)/\(ver=cur->s.size≠0->a.eval x=.pointer (some ⟨c,0,none⟩)):=by
   exact zoU h1 h0
  obtain ⟨c,cur,sz,hib,hcc⟩:=hq
  obtain ⟨g1,g0,arr,f,⟨_,g2,-⟩,g3,g4,g5,gp,g6⟩:=hrel.real _ _ _ hib hb
  have ea:=hcc g1 h0
  have hsl:s.data.toList.length=s.size:=by rw [Array.length_toList]; rfl
  have hcell:∀j y,s.data.toList[j]?=some y->w.cell? ((⟨c,0,none⟩:Addr).add j)=some (.int .u8 y.toNat):=by
   intro j y hj
   have hjl:j<s.size:=by rw [← hsl]; exact (List.getElem?_eq_some_iff.1 hj).1
   have hr1:(sB s)[j]?=some [.int .u8 y.toNat]:=by unfold sB; rw [List.getElem?_map,hj]; rfl
   rw [zeQ,Nat.mul_one] at g4
   have hlt:j * 1+0<arr.size:=by omega
   have:=(g6 j _ 0 _ arr[j * 1+0] hr1 rfl (by simp [hlt])).plain rfl
   simp only [zbA,Nat.zero_add,World.cell?,g2]
   rw [← this.int_inv]
   simp at hlt ⊢
  have hsh:w.shape? c=some (e,arr.size):=by simp [World.shape?,g2]
  rw [zeQ,Nat.mul_one] at g4
  have hn2:s.size<=4294967296:=hn
  have hrun:=Lib.run_unsafeString_row (P:=P) w t t' o.type e (zh4 hp) hc1 c arr.size hsh s.data.toList (by intro e; rw [e] at hsl; simp at hsl; omega) (by omega) (by omega) hcell
  refine go (w.freeze ⟨c,0,none⟩ s.data.toList.length) ?_ ?_
  ·rw [ea,e2,← hsl]
   have hss:s=⟨s.data.toList.toArray⟩:=by simp
   rw [hrun]
  ·have hfz:w.freeze ⟨c,0,none⟩ s.data.toList.length={ w with heap:=(w.freeze ⟨c,0,none⟩ s.data.toList.length).heap }:=by unfold World.freeze; split <;> rfl
   rw [hfz]
   refine Ext.turn hrel hb rfl hib (by simp) rfl rfl rfl (by simp only [World.freeze]; split <;> simp) (fun k hk=>?_) fun _ _=>trivial
   simp only [World.freeze]
   split
   ·rfl
   ·simp only [Array.getElem?_modify]; rw [if_neg (fun e=>hk e.symm)]
def ziN(s:ByteArray):List Int:=s.data.toList.map fun b=>(b.toNat:Int)
theorem zgv(s:ByteArray):(ziN s).length=s.size:=by unfold ziN; rw [List.length_map,Array.length_toList]; rfl
def bC(s:ByteArray):List (List AV):=(ziN s).map fun n=>[.int .u8 n]
theorem zns(s:ByteArray):(bC s).length=s.size:=by unfold bC; rw [List.length_map,zgv]
theorem zjq{P:Program}{t e:TypeId}(h:zar P t=true)(he:zak P t=some e):P.underlying e=some (.int .u8):=by
 unfold zar at h
 rw [he] at h
 simp only at h
 split at h
 ·assumption
 ·cases h
theorem Step.strBytes{o:Oper}{ρ:Operand->AV}{h:Hp}{s d e:TypeId}{x:Operand}{str:ByteArray}(ho:o.op=.convert s d x)(hs:P.underlying s=some .string)(hd:zar P d=true)(he:zak P d=some e)
  (hx:ρ x=.str str):Step P o ρ h (.msl h.length 1 0 1 str.size str.size) (h++[.rows (bC str) 1 1 e]):=by
 intro I ι w a hr hf hv next Q K
 have h1:=hv x (by simp [ho,Op.operands])
 rw [hx] at h1
 have hstr:a.eval x=.string str:=by generalize a.eval x=v at h1; cases h1; rfl
 have hrun:=Lib.run_convert_string_bytes (P:=P) w s d e str hs (zaR he) (zjq hd he)
 have hex:(execOp a.eval o).run P w=.ok (.value (.slice (some ⟨w.heap.size,0,none⟩) str.size (grownCap w str.size 0 e))) (Lib.bytesWorld w e str):=by
  unfold execOp
  simp [ho,hstr,hrun]
 have hge:=grownCap_ge w str.size 0 e
 have hsz:(Lib.bytesCells w e str).size=grownCap w str.size 0 e:=by
  unfold Lib.bytesCells
  rw [Array.size_append,Array.size_map,Array.size_replicate]
  show str.size+_=_
  omega
 unfold Oper.wp
 rw [hex]
 refine K _ _ I _ (Ext.allocW hr (hf _ (Nat.le_refl _) (by simp)) (.rows (bC str) 1 1 e) (Lib.bytesWorld w e str) (Lib.bytesWorld_size w e str) (fun c hc=>Lib.bytesWorld_at_old w e str c hc) rfl rfl rfl 1 (Lib.bytesCells w e str).size rfl fun mono=>?_) ?_
 ·refine ⟨rfl,by omega,Lib.bytesCells w e str,_,⟨_,Lib.bytesWorld_at_new w e str,.inr (Nat.le_refl _)⟩,rfl,by rw [zns,hsz]; omega,fun i r hi=>?_,zdF.none,fun i r j x y hi hj hy=>.inl ?_⟩
  ·unfold bC at hi
   rw [List.getElem?_map,Option.map_eq_some_iff] at hi
   obtain ⟨n,_,rfl⟩:=hi; rfl
  ·unfold bC ziN at hi
   rw [List.map_map,List.getElem?_map,Option.map_eq_some_iff] at hi
   obtain ⟨b,hb,rfl⟩:=hi
   have hj0:j=0:=by
    have:=(List.getElem?_eq_some_iff.1 hj).1; simp at this; omega
   subst hj0
   obtain rfl:AV.int .u8 (b.toNat:Int)=x:=by simpa using hj
   have hlt:i<str.data.size:=by have:=(List.getElem?_eq_some_iff.1 hb).1; simpa using this
   have hb2:str.data[i]?=some b:=by simpa using hb
   unfold Lib.bytesCells at hy
   rw [Nat.mul_one,Nat.add_zero,Array.getElem?_append,Array.size_map,if_pos hlt,Array.getElem?_map,hb2] at hy
   obtain rfl:=Option.some.inj hy
   exact .int _ _
 ·exact .msl _ 1 (Lib.bytesCells w e str).size (za5 _ _ _) (Nat.le_refl _) fun _=>⟨.inl (by simp),rfl,hge,hge,by rw [hsz]; omega⟩
end Go.Vs
end
