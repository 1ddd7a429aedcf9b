import Derived.Calls
import Derived.Laws.Sem
import Derived.Laws.Cells
import Derived.Laws.CopyRow
import Derived.Below
import Derived.Laws.Entries
import Derived.Laws.Strings
import Derived.Laws.StructEq
import Derived.ChangeKeysEq
set_option linter.all false
attribute [go_sem_proc ↓] reduceIte
attribute [go_sem_proc] Nat.reduceAdd Nat.reduceMul Nat.reduceSub Nat.reduceEqDiff Nat.reduceLeDiff Nat.reduceLT Nat.reduceBEq Int.reduceEq reduceCtorEq
section
namespace Go.Vs
inductive AV where
 | undef
 | bool (b:Bool)
 | int (k:IntKind) (n:Int)
 | str (s:ByteArray)
 | nilp | nilmap | nilfn | nili | nils | emp
 | ptr (b ver off:Nat)
 | eptr (b ver esz k j:Nat)
 | iptr (cs:List AV) (off:Nat)
 | sl (rows:List (List AV))
 | msl (b ver off esz len cap:Nat)
 | map (b:Nat)
 | func (fn:Fn) (first caps:List AV)
 | iface (t:TypeId) (v:AV)
 | agg (cs:List AV)
 | tuple (vs:List AV)
 | box (cs:List AV) (ty:TypeId)
 | zBx (rows:List (List AV)) (esz:Nat) (ty:TypeId)
 | zBm (es:List (AV × AV))
 | optp (b:Nat)
 | bptr (b ver len:Nat)
 deriving Inhabited
structure Io where
 blk:Nat->Option (Nat × Nat × Nat)
 sub:Nat->Nat->Prop
instance:CoeFun Io (fun _=>Nat->Option (Nat × Nat × Nat)):=⟨Io.blk⟩
def Io.nil:Io:=⟨fun _=>none,fun _ _=>False⟩
def At(ι:Io)(b c:Nat):Prop:=(∃cur sz,ι b=some (c,cur,sz))\/ι.sub b c
def Io.free(ι:Io)(b:Nat):Prop:=ι b=none/\∀c,¬ι.sub b c
theorem Io.free.not{ι:Io}{b c:Nat}(h:ι.free b):¬At ι b c:=by
 rintro (⟨u,s,h2⟩ | h2)
 ·rw [h.1] at h2; cases h2
 ·exact h.2 c h2
inductive VR (I:Nat->Prop) (w:World):Io->AV->Value->Prop
 | undef {ι v}:VR I w ι .undef v
 | bool {ι} (b):VR I w ι (.bool b) (.bool b)
 | int {ι} (k n):VR I w ι (.int k n) (.int k n)
 | str {ι} (s):VR I w ι (.str s) (.string s)
 | nilp {ι}:VR I w ι .nilp (.pointer none)
 | nilmap {ι}:VR I w ι .nilmap (.map none)
 | nilfn {ι}:VR I w ι .nilfn .nilFunc
 | nili {ι}:VR I w ι .nili .nilIface
 | nils {ι}:VR I w ι .nils (.slice none 0 0)
 | emp {ι a}:VR I w ι .emp (.slice a 0 0)
 | ptr {ι b ver off a} (c cur sz:Nat) (h:ι b=some (c,cur,sz)) (hv:ver<=cur) (hc:ver=cur->a=⟨c,off,none⟩):VR I w ι (.ptr b ver off) (.pointer (some a))
 | eptr {ι b ver esz k j a} (c cur sz:Nat) (h:ι b=some (c,cur,sz)) (hv:ver<=cur) (hc:ver=cur->a=⟨c,k * esz+j,none⟩):VR I w ι (.eptr b ver esz k j) (.pointer (some a))
 | iptr {ι cs off} (c base:Nat) (hI:I c) (hs:∀(j:Nat) (x:AV),cs[j]?=some x->∃y,w.cell? ⟨c,base+j,none⟩=some y)
   (hv:∀(j:Nat) (x:AV) (y:Value),cs[j]?=some x->w.cell? ⟨c,base+j,none⟩=some y->VR I w Io.nil x y):VR I w ι (.iptr cs off) (.pointer (some ⟨c,base+off,none⟩))
 | sl0 {ι a cap}:VR I w ι (.sl []) (.slice a 0 cap)
 | sl {ι rows n} (esz c off cap:Nat) (hI:I c) (hn:rows.length=n) (hcap:n<=cap) (hl:∀(i:Nat) (r:List AV),rows[i]?=some r->r.length=esz)
   (hs:∀(i:Nat) (r:List AV) (j:Nat) (x:AV),rows[i]?=some r->r[j]?=some x->∃y,w.cell? ⟨c,off+(i * esz+j),none⟩=some y)
   (hv:∀(i:Nat) (r:List AV) (j:Nat) (x:AV) (y:Value),rows[i]?=some r->r[j]?=some x->w.cell? ⟨c,off+(i * esz+j),none⟩=some y->VR I w Io.nil x y) :
   VR I w ι (.sl rows) (.slice (some ⟨c,off,none⟩) n cap)
 | msl {ι b ver off esz len cap a n ccap} (c cur sz:Nat) (h:ι b=some (c,cur,sz)) (hv:ver<=cur)
   (hc:ver=cur->(a=⟨c,off * esz,none⟩\/(ccap=0/\a.block=c))/\n=len/\cap<=ccap/\n<=ccap/\(off+ccap) * esz<=sz):VR I w ι (.msl b ver off esz len cap) (.slice (some a) n ccap)
 | mslnil {ι b ver off esz}:VR I w ι (.msl b ver off esz 0 0) (.slice none 0 0)
 | map {ι b} (c:Nat) (h:ι b=some (c,0,0)):VR I w ι (.map b) (.map (some c))
 | optp0 {ι b}:VR I w ι (.optp b) (.pointer none)
 | optp {ι b p} (c cur sz:Nat) (h:ι b=some (c,cur,sz)) (hc:0=cur->p=none\/p=some ⟨c,0,none⟩):VR I w ι (.optp b) (.pointer p)
 | bptr {ι b ver len p} (c cur sz:Nat) (h:ι b=some (c,cur,sz)) (hv:ver<=cur) (hc:ver=cur->len≠0->p=some ⟨c,0,none⟩):VR I w ι (.bptr b ver len) (.pointer p)
 | bptr0 {ι b ver p}:VR I w ι (.bptr b ver 0) (.pointer p)
 | func {ι fn first caps fs cs} (h1:fs.size=first.length) (h2:cs.size=caps.length) (h3:∀(j:Nat) x y,first[j]?=some x->fs[j]?=some y->VR I w ι x y)
   (h4:∀(j:Nat) x y,caps[j]?=some x->cs[j]?=some y->VR I w ι x y):VR I w ι (.func fn first caps) (.func fn fs cs)
 | iface {ι t x y} (h:VR I w ι x y):VR I w ι (.iface t x) (.iface t y)
 | agg {ι cs} {arr:Array Value} (hl:arr.size=cs.length) (h:∀(j:Nat) x y,cs[j]?=some x->arr[j]?=some y->VR I w ι x y):VR I w ι (.agg cs) (.agg arr)
 | tuple {ι cs} {arr:Array Value} (hl:arr.size=cs.length) (h:∀(j:Nat) x y,cs[j]?=some x->arr[j]?=some y->VR I w ι x y):VR I w ι (.tuple cs) (.tuple arr)
theorem World.cell_block{w w':World}{c:Nat}(h:w'.heap[c]?=w.heap[c]?)(o:Nat):w'.cell? ⟨c,o,none⟩=w.cell? ⟨c,o,none⟩:=by
 simp [World.cell?,h]
theorem VR.bool_inv{I w ι b v}(h:VR I w ι (.bool b) v):v=.bool b:=by cases h; rfl
theorem VR.int_inv{I w ι k n v}(h:VR I w ι (.int k n) v):v=.int k n:=by cases h; rfl
theorem VR.str_inv{I w ι s v}(h:VR I w ι (.str s) v):v=.string s:=by cases h; rfl
theorem VR.nilp_inv{I w ι v}(h:VR I w ι .nilp v):v=.pointer none:=by cases h; rfl
theorem VR.nils_inv{I w ι v}(h:VR I w ι .nils v):v=.slice none 0 0:=by cases h; rfl
theorem VR.emp_inv{I w ι v}(h:VR I w ι .emp v):∃a,v=.slice a 0 0:=by cases h; exact ⟨_,rfl⟩
theorem VR.nili_inv{I w ι v}(h:VR I w ι .nili v):v=.nilIface:=by cases h; rfl
theorem VR.agg_inv{I w ι cs v}(h:VR I w ι (.agg cs) v):∃arr:Array Value,v=.agg arr/\arr.size=cs.length/\∀(j:Nat) x y,cs[j]?=some x->arr[j]?=some y->VR I w ι x y:=by
 cases h; exact ⟨_,rfl,by assumption,by assumption⟩
theorem VR.tuple_inv{I w ι cs v}(h:VR I w ι (.tuple cs) v):∃arr:Array Value,v=.tuple arr/\arr.size=cs.length/\∀(j:Nat) x y,cs[j]?=some x->arr[j]?=some y->VR I w ι x y:=by
 cases h; exact ⟨_,rfl,by assumption,by assumption⟩
theorem VR.ptr_inv{I w ι b ver off v}(h:VR I w ι (.ptr b ver off) v):∃a c cur sz,v=.pointer (some a)/\ι b=some (c,cur,sz)/\ver<=cur/\(ver=cur->a=⟨c,off,none⟩):=by
 cases h; exact ⟨_,_,_,_,rfl,by assumption,by assumption,by assumption⟩
theorem VR.eptr_inv{I w ι b ver esz k j v}(h:VR I w ι (.eptr b ver esz k j) v):∃a c cur sz,v=.pointer (some a)/\ι b=some (c,cur,sz)/\ver<=cur/\(ver=cur->a=⟨c,k * esz+j,none⟩):=by
 cases h; exact ⟨_,_,_,_,rfl,by assumption,by assumption,by assumption⟩
theorem VR.iptr_inv{I w ι cs off v}(h:VR I w ι (.iptr cs off) v):∃c base,v=.pointer (some ⟨c,base+off,none⟩)/\I c /\
  ∀(j:Nat) x,cs[j]?=some x->∃y,w.cell? ⟨c,base+j,none⟩=some y/\VR I w Io.nil x y:=by
 cases h with
 | iptr c base hI hs hv=>exact ⟨c,base,rfl,hI,fun j x hj=>let ⟨y,hy⟩:=hs j x hj; ⟨y,hy,hv j x y hj hy⟩⟩
theorem VR.msl_inv{I w ι b ver off esz len cap v}(h:VR I w ι (.msl b ver off esz len cap) v):(∃a n ccap c cur sz,v=.slice (some a) n ccap/\ι b=some (c,cur,sz)/\ver<=cur /\
  (ver=cur->(a=⟨c,off * esz,none⟩\/(ccap=0/\a.block=c))/\n=len/\cap<=ccap/\n<=ccap/\(off+ccap) * esz<=sz))\/(v=.slice none 0 0/\len=0/\cap=0):=by
 cases h
 ·exact .inl ⟨_,_,_,_,_,_,rfl,by assumption,by assumption,by assumption⟩
 ·exact .inr ⟨rfl,rfl,rfl⟩
theorem VR.sl_inv{I w ι rows v}(h:VR I w ι (.sl rows) v):(∃a cap,v=.slice a rows.length cap)/\∀(i:Nat) r,rows[i]?=some r->∃c off cap,v=.slice (some ⟨c,off,none⟩) rows.length cap/\I c/\rows.length<=cap /\
  ∀(j:Nat) x,r[j]?=some x->∃y,w.cell? ⟨c,off+(i * r.length+j),none⟩=some y/\VR I w Io.nil x y:=by
 cases h with
 | sl0=>exact ⟨⟨_,_,rfl⟩,fun i r h=>by simp at h⟩
 | sl esz c off cap hI hn hcap hl hs hv =>
  subst hn
  refine ⟨⟨_,_,rfl⟩,fun i r h=>⟨c,off,cap,rfl,hI,hcap,fun j x hj=>?_⟩⟩
  rw [hl i r h]
  obtain ⟨y,hy⟩:=hs i r j x h hj
  exact ⟨y,hy,hv i r j x y h hj hy⟩
theorem VR.iface_inv{I w ι t x v}(h:VR I w ι (.iface t x) v):∃y,v=.iface t y/\VR I w ι x y:=by
 cases h; exact ⟨_,rfl,by assumption⟩
theorem VR.mono{I I':Nat->Prop}{w w':World}(hI:∀c,I c->I' c)(hw:∀c,I c->w'.heap[c]?=w.heap[c]?){ι:Io}{x:AV}{v:Value}(h:VR I w ι x v) :
  ∀ι':Io,(∀b c cur sz,ι b=some (c,cur,sz)->∃c' cur' sz',ι' b=some (c',cur',sz')/\cur<=cur'/\(cur=cur'->c'=c/\sz'=sz))->(∀b c,ι b=some (c,0,0)->ι' b=some (c,0,0))->VR I' w' ι' x v:=by
 induction h with
 | undef=>intro ι' _ _; exact .undef
 | bool b=>intro ι' _ _; exact .bool b
 | int k n=>intro ι' _ _; exact .int k n
 | str s=>intro ι' _ _; exact .str s
 | nilp=>intro ι' _ _; exact .nilp
 | nilmap=>intro ι' _ _; exact .nilmap
 | nilfn=>intro ι' _ _; exact .nilfn
 | nili=>intro ι' _ _; exact .nili
 | nils=>intro ι' _ _; exact .nils
 | emp=>intro ι' _ _; exact .emp
 | ptr c cur sz h hv hc =>
  intro ι' hi _
  obtain ⟨c',cur',sz',h1,h2,h3⟩:=hi _ _ _ _ h
  refine .ptr c' cur' sz' h1 (by omega) fun e=>?_
  have e2:cur=cur':=by omega
  obtain ⟨rfl,rfl⟩:=h3 e2
  exact hc (by omega)
 | eptr c cur sz h hv hc =>
  intro ι' hi _
  obtain ⟨c',cur',sz',h1,h2,h3⟩:=hi _ _ _ _ h
  refine .eptr c' cur' sz' h1 (by omega) fun e=>?_
  have e2:cur=cur':=by omega
  obtain ⟨rfl,rfl⟩:=h3 e2
  exact hc (by omega)
 | mslnil=>intro ι' _ _; exact .mslnil
 | iptr c base hIc hs hv ih =>
  intro ι' _ _
  have e:=fun o=>World.cell_block (hw c hIc) o
  refine .iptr c base (hI c hIc) (fun j x hj=>by rw [e]; exact hs j x hj) fun j x y hj hy=>?_
  rw [e] at hy
  exact ih j x y hj hy Io.nil (fun b c cur sz h=>by simp [Io.nil] at h) (fun b c h=>by simp [Io.nil] at h)
 | sl0=>intro ι' _ _; exact .sl0
 | sl esz c off cap hIc hn hcap hl hs hv ih =>
  intro ι' _ _
  have e:=fun o=>World.cell_block (hw c hIc) o
  refine .sl esz c off cap (hI c hIc) hn hcap hl (fun i r j x hi hj=>by rw [e]; exact hs i r j x hi hj) fun i r j x y hi hj hy=>?_
  rw [e] at hy
  exact ih i r j x y hi hj hy Io.nil (fun b c cur sz h=>by simp [Io.nil] at h) (fun b c h=>by simp [Io.nil] at h)
 | msl c cur sz h hv hc =>
  intro ι' hi _
  obtain ⟨c',cur',sz',h1,h2,h3⟩:=hi _ _ _ _ h
  refine .msl c' cur' sz' h1 (by omega) fun e=>?_
  have e2:cur=cur':=by omega
  obtain ⟨rfl,rfl⟩:=h3 e2
  exact hc (by omega)
 | map c h=>intro ι' _ hi; exact .map c (hi _ _ h)
 | optp0=>intro ι' _ _; exact .optp0
 | optp c cur sz h hc =>
  intro ι' hi _
  obtain ⟨c',cur',sz',h1,h2,h3⟩:=hi _ _ _ _ h
  refine .optp c' cur' sz' h1 fun e=>?_
  have e2:cur=cur':=by omega
  obtain ⟨rfl,rfl⟩:=h3 e2
  exact hc (by omega)
 | bptr c cur sz h hv hc =>
  intro ι' hi _
  obtain ⟨c',cur',sz',h1,h2,h3⟩:=hi _ _ _ _ h
  refine .bptr c' cur' sz' h1 (by omega) fun e=>?_
  have e2:cur=cur':=by omega
  obtain ⟨rfl,rfl⟩:=h3 e2
  exact hc (by omega)
 | bptr0=>intro ι' _ _; exact .bptr0
 | func h1 h2 _ _ ih3 ih4=>intro ι' hi hm; exact .func h1 h2 (fun j x y a b=>ih3 j x y a b ι' hi hm) (fun j x y a b=>ih4 j x y a b ι' hi hm)
 | iface _ ih=>intro ι' hi hm; exact .iface (ih ι' hi hm)
 | agg hl _ ih=>intro ι' hi hm; exact .agg hl (fun j x y a b=>ih j x y a b ι' hi hm)
 | tuple hl _ ih=>intro ι' hi hm; exact .tuple hl (fun j x y a b=>ih j x y a b ι' hi hm)
theorem VR.pure{I:Nat->Prop}{w:World}{x:AV}{v:Value}(h:VR I w Io.nil x v)(ι:Io):VR I w ι x v :=
 h.mono (fun _ h=>h) (fun _ _=>rfl) ι (fun b c cur sz h=>by simp [Io.nil] at h) (fun b c h=>by simp [Io.nil] at h)
def zcv:AV->Bool
 | .box _ _ | .zBx _ _ _ | .zBm _=>false
 | _=>true
def zeq(w:World)(c:Nat)(arr:Array Value)(ty:TypeId):Prop:=∃z:Nat × Nat,w.heap[c]?=some (.cells arr ty z)/\(z=(0,0)\/arr.size<=z.1)
theorem zeq.of{w:World}{c:Nat}{arr:Array Value}{ty:TypeId}(h:w.heap[c]?=some (.cells arr ty (0,0))):zeq w c arr ty:=⟨_,h,.inl rfl⟩
theorem zeq.congr{w w':World}{c:Nat}{arr:Array Value}{ty:TypeId}(h:zeq w c arr ty)(e:w'.heap[c]?=w.heap[c]?):zeq w' c arr ty:=h.elim fun z h=>⟨z,e.trans h.1,h.2⟩
inductive DR (I:Nat->Prop) (w:World):(Nat->Prop)->AV->Value->Prop
 | plain {S x v} (h:VR I w Io.nil x v):DR I w S x v
 | box {S cs ty} (c:Nat) (arr:Array Value) (f:Nat->Nat->Prop) (hS:S c) (hc:w.heap[c]?=some (.cells arr ty (0,0))) (hn:cs.length=arr.size) (hf:∀j d,f j d->S d/\d≠c) (hd:∀i j d,f i d->f j d->i=j)
   (hx:∀(j:Nat) x y,cs[j]?=some x->arr[j]?=some y->DR I w (f j) x y):DR I w S (.box cs ty) (.pointer (some ⟨c,0,none⟩))
 | boxsl0 {S esz ty}:DR I w S (.zBx [] esz ty) (.slice none 0 0)
 | zBx {S rows esz ty n a} (c ccap:Nat) (arr:Array Value) (f:Nat->Nat->Prop) (hS:S c) (hc:zeq w c arr ty) (ha:a=⟨c,0,none⟩\/(ccap=0/\a.block=c)) (hlen:rows.length=n) (hn:n<=ccap) (hroom:ccap * esz<=arr.size) (hl:∀(i:Nat) r,rows[i]?=some r->r.length=esz)
   (hf:∀j d,f j d->S d/\d≠c) (hd:∀i j d,f i d->f j d->i=j)
   (hx:∀(i:Nat) r (j:Nat) x y,rows[i]?=some r->r[j]?=some x->arr[i * esz+j]?=some y->DR I w (f (i * esz+j)) x y):DR I w S (.zBx rows esz ty) (.slice (some a) n ccap)
 | zBm {S es} (c clock:Nat) (ents:Array MapEntry) (f:Nat->Nat->Prop) (hS:S c) (hc:w.heap[c]?=some (.map ents clock)) (hn:ents.size=es.length)
   (hb:∀(j:Nat) e,ents[j]?=some e->e.born<clock) (hbi:∀(i j:Nat) e e',ents[i]?=some e->ents[j]?=some e'->e.born=e'.born->i=j)
   (hf:∀j d,f j d->S d/\d≠c) (hd:∀i j d,f i d->f j d->i=j)
   (hk:∀(j:Nat) x e,es[j]?=some x->ents[j]?=some e->VR I w Io.nil x.1 e.key) (hx:∀(j:Nat) x e,es[j]?=some x->ents[j]?=some e->DR I w (f j) x.2 e.val):DR I w S (.zBm es) (.map (some c))
theorem DR.plain_inv{I w S x v}(h:DR I w S x v)(hx:zcv x=true):VR I w Io.nil x v:=by
 cases h <;> first | assumption | cases hx
theorem DR.mono{I I':Nat->Prop}{w w':World}(hI:∀c,I c->I' c)(hw:∀c,I c->w'.heap[c]?=w.heap[c]?){S:Nat->Prop}{x:AV}{v:Value}(h:DR I w S x v) :
  ∀S':Nat->Prop,(∀c,S c->S' c)->(∀c,S c->w'.heap[c]?=w.heap[c]?)->DR I' w' S' x v:=by
 induction h with
 | plain h=>intro S' _ _; exact .plain (h.mono hI hw Io.nil (fun b c cur sz h=>by simp [Io.nil] at h) (fun b c h=>by simp [Io.nil] at h))
 | box c arr f hS hc hn hf hd hx ih =>
  intro S' h1 h2
  exact .box c arr f (h1 c hS) (by rw [h2 c hS]; exact hc) hn (fun j d hj=>⟨h1 d (hf j d hj).1,(hf j d hj).2⟩) hd
   (fun j x y a b=>ih j x y a b (f j) (fun _ h=>h) (fun d hd'=>h2 d (hf j d hd').1))
 | boxsl0=>intro S' _ _; exact .boxsl0
 | zBx c ccap arr f hS hc ha hlen hn hroom hl hf hd hx ih =>
  intro S' h1 h2
  exact .zBx c ccap arr f (h1 c hS) (hc.congr (h2 c hS)) ha hlen hn hroom hl (fun j d hj=>⟨h1 d (hf j d hj).1,(hf j d hj).2⟩) hd
   (fun i r j x y a b e=>ih i r j x y a b e _ (fun _ h=>h) (fun d hd'=>h2 d (hf _ d hd').1))
 | zBm c clock ents f hS hc hn hb hbi hf hd hk hx ih =>
  intro S' h1 h2
  exact .zBm c clock ents f (h1 c hS) (by rw [h2 c hS]; exact hc) hn hb hbi (fun j d hj=>⟨h1 d (hf j d hj).1,(hf j d hj).2⟩) hd
   (fun j x e a b=>(hk j x e a b).mono hI hw Io.nil (fun b c cur sz h=>by simp [Io.nil] at h) (fun b c h=>by simp [Io.nil] at h))
   (fun j x e a b=>ih j x e a b (f j) (fun _ h=>h) (fun d hd'=>h2 d (hf j d hd').1))
def DC(I:Nat->Prop)(w:World)(ι:Io)(S:Nat->Prop)(x:AV)(v:Value):Prop:=VR I w ι x v\/DR I w S x v
theorem DC.plain{I w ι S x v}(h:DC I w ι S x v)(hx:zcv x=true):VR I w ι x v:=h.elim id fun h=>(h.plain_inv hx).pure ι
theorem VR.notbox{I w ι x v}(h:VR I w ι x v):zcv x=true:=by cases h <;> rfl
inductive LO where
 | cells (cs:List AV) (ver:Nat) (ty:TypeId)
 | rows (rs:List (List AV)) (esz ver:Nat) (ty:TypeId)
 | siter (s:ByteArray) (pos:Nat)
 | map (es:List (AV × AV))
 | hole
 | dead
 deriving Inhabited
abbrev Hp:=List LO
def LO.live:LO->Bool
 | .dead=>false
 | .hole=>false
 | _=>true
def LO.born:LO->Bool
 | .dead=>false
 | .hole=>false
 | .rows [] _ _ _=>false
 | _=>true
def zdF(S:Nat->Prop)(f:Nat->Nat->Prop):Prop:=(∀j d,f j d->S d)/\∀i j d,f i d->f j d->i=j
theorem zdF.none{S:Nat->Prop}:zdF S (fun _ _=>False):=⟨fun _ _ h=>h.elim,fun _ _ _ h=>h.elim⟩
def BR(I:Nat->Prop)(w:World)(ι:Io)(S:Nat->Prop):LO->Nat × Nat × Nat->Prop
 | .cells cs ver ty,(c,cur,sz)=>ver=cur/\∃(arr:Array Value) (f:Nat->Nat->Prop),w.heap[c]?=some (.cells arr ty (0,0))/\arr.size=sz/\cs.length=sz/\zdF S f /\
   ∀(j:Nat) x y,cs[j]?=some x->arr[j]?=some y->DC I w ι (f j) x y
 | .rows rs esz ver ty,(c,cur,sz)=>ver=cur/\0<ver/\∃(arr:Array Value) (f:Nat->Nat->Prop),zeq w c arr ty/\arr.size=sz/\rs.length * esz<=sz/\(∀(i:Nat) r,rs[i]?=some r->r.length=esz)/\zdF S f /\
   ∀(i:Nat) r (j:Nat) x y,rs[i]?=some r->r[j]?=some x->arr[i * esz+j]?=some y->DC I w ι (f (i * esz+j)) x y
 | .siter s pos,(c,cur,sz)=>cur=0/\sz=0/\w.heap[c]?=some (.stringIter s pos)
 | .map es,(c,cur,sz)=>cur=0/\sz=0/\∃(ents:Array MapEntry) (clock:Nat) (f:Nat->Nat->Prop),w.heap[c]?=some (.map ents clock)/\ents.size=es.length /\
   (∀(j:Nat) e,ents[j]?=some e->e.born<clock)/\(∀(i j:Nat) e e',ents[i]?=some e->ents[j]?=some e'->e.born=e'.born->i=j)/\zdF S f /\
   ∀(j:Nat) x e,es[j]?=some x->ents[j]?=some e->VR I w ι x.1 e.key/\DC I w ι (f j) x.2 e.val
 | .hole,_=>True
 | .dead,_=>True
def Own(ι:Io)(h:Hp)(c:Nat):Prop:=∃(b:Nat) (o:LO),h[b]?=some o/\o.live=true/\At ι b c
class Tab where
 tab:Nat->Option (List AV)
variable [Tab]
def TT(I:Nat->Prop)(w:World):Prop:=∀(g:Nat) cs,Tab.tab g=some cs->I g/\(∃arr ty z,w.heap[g]?=some (.cells arr ty z)/\arr.size=cs.length) /\
 (∀(j:Nat) x,cs[j]?=some x->∃y,w.cell? ⟨g,j,none⟩=some y/\VR I w Io.nil x y)
theorem TT.mono{I I':Nat->Prop}{w w':World}(h:TT I w)(hI:∀c,I c->I' c)(hw:∀c,I c->w'.heap[c]?=w.heap[c]?):TT I' w':=by
 intro g cs hg
 obtain ⟨h1,⟨arr,ty,z,h3,h4⟩,h2⟩:=h g cs hg
 refine ⟨hI g h1,⟨arr,ty,z,(hw g h1).trans h3,h4⟩,fun j x hj=>?_⟩
 obtain ⟨y,hy,hv⟩:=h2 j x hj
 exact ⟨y,by rw [World.cell_block (hw g h1)]; exact hy,hv.mono hI hw Io.nil (fun b c cur sz h=>by simp [Io.nil] at h) (fun b c h=>by simp [Io.nil] at h)⟩
structure Rel (I:Nat->Prop) (ι:Io) (h:Hp) (w:World):Prop where
 real:∀(b:Nat) x o,ι b=some x->h[b]?=some o->BR I w ι (ι.sub b) o x
 dom:∀(b:Nat) o,h[b]?=some o->o.born=true->(ι b).isSome=true
 tab:TT I w
 inj:∀(b b':Nat) o o' c,h[b]?=some o->o.live=true->h[b']?=some o'->o'.live=true->At ι b c->At ι b' c->b=b'
 own1:∀(b:Nat) c cur sz,ι b=some (c,cur,sz)->¬ι.sub b c
 sep:∀c,Own ι h c->¬I c
 lt:∀(b:Nat) c,At ι b c->c<w.heap.size
 ilt:∀c,I c->c<w.heap.size
 hole:∀(b:Nat),h[b]?=some .hole->ι.free b
theorem Rel.lt'{I ι h w}(hr:Rel I ι h w)(b:Nat)(x:Nat × Nat × Nat)(hx:ι b=some x):x.1<w.heap.size:=hr.lt b x.1 (.inl ⟨x.2.1,x.2.2,hx⟩)
theorem Own.at{ι:Io}{h:Hp}{b:Nat}{o:LO}{c cur sz:Nat}(h1:h[b]?=some o)(h2:o.live=true)(h3:ι b=some (c,cur,sz)):Own ι h c:=⟨b,o,h1,h2,.inl ⟨cur,sz,h3⟩⟩
structure Keep (ι:Io) (h:Hp) (w w':World):Prop where
 os:w'.os=w.os
 tape:w'.tape=w.tape
 output:w'.output=w.output
 size:w.heap.size<=w'.heap.size
 block:∀c,c<w.heap.size->¬Own ι h c->w'.heap[c]?=w.heap[c]?
def zby(ι ι':Io)(b:Nat):Prop :=
 (∀c cur sz,ι b=some (c,cur,sz)->∃c' cur' sz',ι' b=some (c',cur',sz')/\cur<=cur'/\(cur=cur'->c'=c/\sz'=sz))/\(∀c,ι b=some (c,0,0)->ι' b=some (c,0,0))
theorem zby.refl(ι:Io)(b:Nat):zby ι ι b:=⟨fun c cur sz h=>⟨c,cur,sz,h,Nat.le_refl _,fun _=>⟨rfl,rfl⟩⟩,fun _ h=>h⟩
theorem zby.of_eq{ι ι':Io}{b:Nat}(h:ι' b=ι b):zby ι ι' b:=⟨fun c cur sz e=>⟨c,cur,sz,h.trans e,Nat.le_refl _,fun _=>⟨rfl,rfl⟩⟩,fun _ e=>h.trans e⟩
theorem zby.trans{ι ι' ι'':Io}{b:Nat}(h:zby ι ι' b)(h':zby ι' ι'' b):zby ι ι'' b:=by
 refine ⟨fun c cur sz e=>?_,fun c e=>h'.2 c (h.2 c e)⟩
 obtain ⟨c1,u1,s1,e1,l1,k1⟩:=h.1 c cur sz e
 obtain ⟨c2,u2,s2,e2,l2,k2⟩:=h'.1 c1 u1 s1 e1
 refine ⟨c2,u2,s2,e2,by omega,fun he=>?_⟩
 obtain ⟨rfl,rfl⟩:=k1 (by omega)
 exact k2 (by omega)
structure Ext (I:Nat->Prop) (ι:Io) (h:Hp) (w:World) (I':Nat->Prop) (ι':Io) (h':Hp) (w':World):Prop where
 rel:Rel I' ι' h' w'
 keep:Keep ι h w w'
 imm:∀c,I c->I' c
 new:∀c,I' c->I c\/w.heap.size<=c\/Own ι h c
 own:∀c,Own ι' h' c->Own ι h c\/w.heap.size<=c
 moved:∀b,zby ι ι' b
 far:∀b,h'.length<=b->ι' b=ι b/\ι'.sub b=ι.sub b
 len:h.length<=h'.length
theorem Rel.imm_same{I ι h w w'}(r:Rel I ι h w)(k:Keep ι h w w'):∀c,I c->w'.heap[c]?=w.heap[c]? :=
 fun c hc=>k.block c (r.ilt c hc) (fun ho=>r.sep c ho hc)
theorem VR.ext{I ι h w I' ι' h' w'}(r:Rel I ι h w)(e:Ext I ι h w I' ι' h' w'){x:AV}{v:Value}(hv:VR I w ι x v):VR I' w' ι' x v :=
 hv.mono e.imm (r.imm_same e.keep) ι' (fun b=>(e.moved b).1) (fun b=>(e.moved b).2)
theorem Keep.refl(ι h w):Keep ι h w w:=⟨rfl,rfl,rfl,Nat.le_refl _,fun _ _ _=>rfl⟩
theorem Ext.refl{I ι h w}(r:Rel I ι h w):Ext I ι h w I ι h w :=
 ⟨r,Keep.refl _ _ _,fun _ h=>h,fun _ h=>.inl h,fun _ h=>.inl h,fun b=>zby.refl _ b,fun _ _=>⟨rfl,rfl⟩,Nat.le_refl _⟩
theorem Keep.trans{ι h w ι' h' w' w''}(k:Keep ι h w w')(k':Keep ι' h' w' w'')(ho:∀c,Own ι' h' c->Own ι h c\/w.heap.size<=c):Keep ι h w w'' :=
 ⟨k'.os.trans k.os,k'.tape.trans k.tape,k'.output.trans k.output,Nat.le_trans k.size k'.size,fun c hc hn =>
  (k'.block c (Nat.lt_of_lt_of_le hc k.size) (fun h=>(ho c h).elim hn (fun h=>by omega))).trans (k.block c hc hn)⟩
theorem Ext.trans{I ι h w I' ι' h' w' I'' ι'' h'' w''}(e:Ext I ι h w I' ι' h' w')(e':Ext I' ι' h' w' I'' ι'' h'' w''):Ext I ι h w I'' ι'' h'' w'' where
 rel:=e'.rel
 keep:=e.keep.trans e'.keep e.own
 imm c hc:=e'.imm c (e.imm c hc)
 new c hc:=by
  rcases e'.new c hc with h | h | h
  ·exact e.new c h
  ·exact .inr (.inl (Nat.le_trans e.keep.size h))
  ·rcases e.own c h with h | h
   ·exact .inr (.inr h)
   ·exact .inr (.inl h)
 own c hc:=by
  rcases e'.own c hc with h | h
  ·exact e.own c h
  ·exact .inr (Nat.le_trans e.keep.size h)
 moved b:=(e.moved b).trans (e'.moved b)
 far b hb:=⟨(e'.far b hb).1.trans (e.far b (Nat.le_trans e'.len hb)).1,(e'.far b hb).2.trans (e.far b (Nat.le_trans e'.len hb)).2⟩
 len:=Nat.le_trans e.len e'.len
end Go.Vs
end
section
namespace Go.Vs
variable [Tab]
abbrev zaC:=List (Nat × AV)
def zaC.get:zaC->Nat->AV
 | [],_=>.undef
 | (i,v)::r,t=>if i=t then v else zaC.get r t
def ofC1:Value->AV
 | .bool b=>.bool b
 | .int k n=>.int k n
 | .string s=>.str s
 | .pointer none=>.nilp
 | .map none=>.nilmap
 | .nilFunc=>.nilfn
 | .nilIface=>.nili
 | .slice none 0 0=>.nils
 | _=>.undef
def ofC:Value->AV
 | .agg cs=>.agg (cs.toList.map ofC1)
 | .func fn fs cs=>if fs.size=0/\cs.size=0 then .func fn [] [] else .undef
 | v=>ofC1 v
theorem VR.ofC1(I w ι)(v:Value):VR I w ι (ofC1 v) v:=by
 unfold Vs.ofC1
 split
 ·exact .bool _
 ·exact .int _ _
 ·exact .str _
 ·exact .nilp
 ·exact .nilmap
 ·exact .nilfn
 ·exact .nili
 ·exact .nils
 ·exact .undef
theorem VR.ofC(I w ι)(v:Value):VR I w ι (ofC v) v:=by
 unfold Vs.ofC
 split
 ·rename_i cs
  refine .agg (by simp) fun j x y hx hy=>?_
  simp only [List.getElem?_map,Array.getElem?_toList,hy,Option.map_some,Option.some.injEq] at hx
  subst hx
  exact VR.ofC1 I w ι y
 ·rename_i fn fs cs
  split
  ·rename_i h
   obtain ⟨h1,h2⟩:=h
   exact .func (by simpa using h1) (by simpa using h2) (by simp) (by simp)
  ·exact .undef
 ·exact VR.ofC1 I w ι v
def zaC.ev(s:zaC):Operand->AV
 | .tmp t=>s.get t
 | .const v=>ofC v
 | .global g=>match Tab.tab g with | some cs=>.iptr cs 0 | none=>.undef
 | .func f=>.func (.func f) [] []
structure AR (I:Nat->Prop) (w:World) (ι:Io) (N:Nat) (s:zaC) (a:Act):Prop where
 size:a.tmps.size=N
 get:∀t,VR I w ι (s.get t) (a.tmps.getD t undef)
 defers:a.defers=[]
theorem TT.global{I w ι}(h:TT I w)(g:Nat):VR I w ι (match Tab.tab g with | some cs=>.iptr cs 0 | none=>.undef) (.pointer (some ⟨g,0,none⟩)):=by
 split
 ·rename_i cs hg
  obtain ⟨h1,_,h2⟩:=h g cs hg
  refine .iptr g 0 h1 (fun j x hj=>?_) (fun j x y hj hy=>?_)
  ·obtain ⟨y,hy,_⟩:=h2 j x hj
   exact ⟨y,by rw [Nat.zero_add]; exact hy⟩
  ·obtain ⟨y',hy',hv⟩:=h2 j x hj
   rw [Nat.zero_add,hy'] at hy
   obtain rfl:=Option.some.inj hy
   exact hv
 ·exact .undef
theorem AR.ev{I w ι N s a}(ht:TT I w)(h:AR I w ι N s a)(x:Operand):VR I w ι (s.ev x) (a.eval x):=by
 cases x with
 | tmp t=>exact h.get t
 | const v=>exact VR.ofC I w ι v
 | global g=>exact ht.global g
 | func f=>exact .func (by simp) (by simp) (by simp) (by simp)
def zaC.put(s:zaC)(d:Option Nat)(r:AV):zaC :=
 match d with
 | some d=>(d,r)::s
 | none=>s
theorem AR.put{I w ι N s a}(h:AR I w ι N s a)(d:Option Nat)(hd:∀t,d=some t->t<N){r:AV}{v:Value}(hv:VR I w ι r v):AR I w ι N (s.put d r) (a.put d v):=by
 cases d with
 | none=>exact h
 | some d =>
  have hlt:=hd d rfl
  refine ⟨by simp [Act.put,h.size],fun t=>?_,h.defers⟩
  simp only [zaC.put,zaC.get,Act.put]
  by_cases e:d=t
  ·subst e
   have:d<a.tmps.size:=by rw [h.size]; exact hlt
   simp [this,hv]
  ·have:=h.get t
   simpa [e,Array.getElem?_setIfInBounds,if_neg e] using this
theorem AR.ext{I ι h w I' ι' h' w' N s a}(r:Rel I ι h w)(e:Ext I ι h w I' ι' h' w')(ha:AR I w ι N s a):AR I' w' ι' N s a :=
 ⟨ha.size,fun t=>(ha.get t).ext r e,ha.defers⟩
def Step(P:Program)(o:Oper)(ρ:Operand->AV)(h:Hp)(r:AV)(h':Hp):Prop :=
 ∀(I:Nat->Prop) (ι:Io) (w:World) (a:Act),Rel I ι h w->(∀b,h.length<=b->b<h'.length->ι.free b)->(∀x∈o.op.operands,VR I w ι (ρ x) (a.eval x)) ->
  ∀(next:Act->World->Prop) (Q:Exit->Act->World->Prop),
   (∀v w' I' ι',Ext I ι h w I' ι' h' w'->VR I' w' ι' r v->next (a.put o.dst v) w')->o.wp P a w next Q
theorem Step.still{P:Program}{o:Oper}{ρ:Operand->AV}{h:Hp}{r:AV}
  (hs:∀(I:Nat->Prop) (ι:Io) (w:World) (a:Act),Rel I ι h w->(∀x∈o.op.operands,VR I w ι (ρ x) (a.eval x))->∃v,(execOp a.eval o).run P w=.ok (.value v) w/\VR I w ι r v):Step P o ρ h r h:=by
 intro I ι w a hr _ hx next Q k
 obtain ⟨v,hrun,hv⟩:=hs I ι w a hr hx
 unfold Oper.wp
 rw [hrun]
 exact k v w I ι (Ext.refl hr) hv
def zce(ops:Array Oper)(s:zaC)(o:Oper):Option Bool :=
 match o.guard with
 | none=>some true
 | some (j,want)=>match (ops[j]?).bind (·.dst) with
  | some t=>match s.get t with
   | .bool b=>some (b==want)
   | .tuple []=>some false
   | _=>none
  | none=>none
theorem zgL{I w ι}:VR I w ι (.tuple []) Go.undef:=.tuple rfl (fun j x y hx _=>by cases hx)
theorem zcb{I w ι N s a ops o b}(h:AR I w ι N s a)(hg:zce ops s o=some b):Region.wanted o (yielded ops a.tmps)=b:=by
 unfold zce at hg
 unfold Region.wanted
 split at hg
 ·rename_i e; rw [e]; simpa using hg
 ·rename_i j want e
  rw [e]
  split at hg
  ·rename_i t et
   split at hg
   ·rename_i b' hb
    have hv:=h.get t
    rw [hb] at hv
    have:a.tmps.getD t undef=.bool b':=hv.bool_inv
    have ey:yielded ops a.tmps j=some b':=by
     unfold yielded
     rw [et]
     simp only [Array.getD_eq_getD_getElem?] at this
     cases e2:a.tmps[t]? with
     | none=>rw [e2] at this; simp [undef] at this
     | some v=>rw [e2] at this; simp at this; simp [e2,this]
    simp only [ey]
    simp only [Option.some.injEq] at hg
    subst hg
    cases b' <;> cases want <;> rfl
   ·rename_i hb
    have hv:=h.get t
    rw [hb] at hv
    have this:a.tmps.getD t undef=.tuple #[]:=by
     obtain ⟨arr,h1,h2,_⟩:=hv.tuple_inv
     rw [h1]; congr 1; exact Array.eq_empty_of_size_eq_zero h2
    have ey:yielded ops a.tmps j=none:=by
     unfold yielded
     rw [et]
     simp only [Array.getD_eq_getD_getElem?] at this
     cases e2:a.tmps[t]? with
     | none=>simp [e2]
     | some v=>rw [e2] at this; simp at this; simp [e2,this]
    simp only [ey]
    simp only [Option.some.injEq] at hg
    subst hg
    cases want <;> rfl
   ·cases hg
  ·cases hg
def Run(P:Program)(ops:Array Oper)(Q:zaC->Hp->Prop):List Oper->zaC->Hp->Prop
 | [],s,h=>Q s h
 | o::rest,s,h =>
  match zce ops s o with
  | some true=>∃r h',Step P o s.ev h r h'/\Run P ops Q rest (s.put o.dst r) h'
  | some false=>Run P ops Q rest (s.put o.dst (.tuple [])) h
  | none=>False
structure Out (n0:Nat) (I:Nat->Prop) (ι:Io) (h:Hp) (w:World) (I':Nat->Prop) (ι':Io) (h':Hp) (w':World):Prop where
 rel:Rel I' ι' h' w'
 fresh:∀b,h'.length<=b->ι'.free b
 keep:Keep ι h w w'
 imm:∀c,I c->I' c
 new:∀c,I' c->I c\/w.heap.size<=c\/Own ι h c
 own:∀c,Own ι' h' c->Own ι h c\/w.heap.size<=c
 moved:∀b,b<n0->zby ι ι' b
 len:n0<=h'.length
theorem Out.refl{n0 I ι h w}(r:Rel I ι h w)(hf:∀b,h.length<=b->ι.free b)(hn:n0<=h.length):Out n0 I ι h w I ι h w :=
 ⟨r,hf,Keep.refl _ _ _,fun _ h=>h,fun _ h=>.inl h,fun _ h=>.inl h,fun b _=>zby.refl _ b,hn⟩
theorem Out.trans{n0 I ι h w I' ι' h' w' I'' ι'' h'' w''}(e:Out n0 I ι h w I' ι' h' w')(e':Out n0 I' ι' h' w' I'' ι'' h'' w''):Out n0 I ι h w I'' ι'' h'' w'' where
 rel:=e'.rel
 fresh:=e'.fresh
 keep:=e.keep.trans e'.keep e.own
 imm c hc:=e'.imm c (e.imm c hc)
 new c hc:=by
  rcases e'.new c hc with h | h | h
  ·exact e.new c h
  ·exact .inr (.inl (Nat.le_trans e.keep.size h))
  ·rcases e.own c h with h | h
   ·exact .inr (.inr h)
   ·exact .inr (.inl h)
 own c hc:=by
  rcases e'.own c hc with h | h
  ·exact e.own c h
  ·exact .inr (Nat.le_trans e.keep.size h)
 moved b hb:=(e.moved b hb).trans (e'.moved b hb)
 len:=e'.len
theorem Ext.out{n0 I ι h w I' ι' h' w'}(e:Ext I ι h w I' ι' h' w')(hf:∀b,h.length<=b->ι.free b)(hn:n0<=h.length):Out n0 I ι h w I' ι' h' w' :=
 ⟨e.rel,fun b hb=>by have h1:=hf b (Nat.le_trans e.len hb); have h2:=e.far b hb; exact ⟨h2.1.trans h1.1,by rw [h2.2]; exact h1.2⟩,e.keep,e.imm,e.new,e.own,fun b _=>e.moved b,Nat.le_trans hn e.len⟩
def Post(N n0:Nat)(Q:Exit->zaC->Hp->Prop)(I:Nat->Prop)(ι:Io)(h:Hp)(w:World):Exit->Act->World->Prop :=
 fun e a' w'=>∃I' ι' s' h',Q e s' h'/\Out n0 I ι h w I' ι' h' w'/\AR I' w' ι' N s' a'
def WP(P:Program)(N n0:Nat)(c:Code)(s:zaC)(h:Hp)(Q:Exit->zaC->Hp->Prop):Prop :=
 ∀(I:Nat->Prop) (ι:Io) (w:World) (a:Act),Rel I ι h w->(∀b,h.length<=b->ι.free b)->n0<=h.length->AR I w ι N s a->c.wp P (Post N n0 Q I ι h w) a w
variable {P:Program} {N n0:Nat}
theorem WP.mono{c s h}{Q Q':Exit->zaC->Hp->Prop}(hw:WP P N n0 c s h Q)(hq:∀e s h,Q e s h->Q' e s h):WP P N n0 c s h Q' :=
 fun I ι w a r f n ar=>wp_mono (hw I ι w a r f n ar) fun _ _ _ ⟨I',ι',s',h',q,rest⟩=>⟨I',ι',s',h',hq _ _ _ q,rest⟩
theorem WP.skip{s h Q}(hq:Q .normal s h):WP P N n0 .skip s h Q :=
 fun I ι w a r f n ar=>wp_skip ⟨I,ι,s,h,hq,Out.refl r f n,ar⟩
theorem WP.exit{id s h Q}(hq:Q (.exit id) s h):WP P N n0 (.exit id) s h Q :=
 fun I ι w a r f n ar=>wp_exit ⟨I,ι,s,h,hq,Out.refl r f n,ar⟩
theorem WP.ret{s h Q}(hq:Q .ret s h):WP P N n0 .ret s h Q :=
 fun I ι w a r f n ar=>wp_ret ⟨I,ι,s,h,hq,Out.refl r f n,ar⟩
@[reducible] def zeK(next:zaC->Hp->Prop)(Q:Exit->zaC->Hp->Prop):Exit->zaC->Hp->Prop
 | .normal,s,h=>next s h
 | e,s,h=>Q e s h
theorem WP.seq{x y s h Q}(hx:WP P N n0 x s h (zeK (fun s h=>WP P N n0 y s h Q) Q)):WP P N n0 (.seq x y) s h Q:=by
 intro I ι w a r f n ar
 refine wp_seq (wp_mono (hx I ι w a r f n ar) fun e a' w' ⟨I',ι',s',h',q,out,ar'⟩=>?_)
 cases e with
 | normal =>
  refine wp_mono (q I' ι' w' a' out.rel out.fresh out.len ar') fun e a'' w'' ⟨I'',ι'',s'',h'',q2,out2,ar2⟩=>?_
  exact ⟨I'',ι'',s'',h'',q2,out.trans out2,ar2⟩
 | _=>exact ⟨I',ι',s',h',q,out,ar'⟩
theorem WP.cond{c x y s h Q b}(hc:s.ev c=.bool b)(hw:WP P N n0 (if b then x else y) s h Q):WP P N n0 (.cond c x y) s h Q:=by
 intro I ι w a r f n ar
 have hv:=ar.ev r.tab c
 rw [hc] at hv
 have:a.eval c=.bool b:=hv.bool_inv
 exact wp_cond this (hw I ι w a r f n ar)
theorem WP.cond_split{c x y s h Q}(b:Bool)(hc:s.ev c=.bool b)(ht:b=true->WP P N n0 x s h Q)(hf:b=false->WP P N n0 y s h Q):WP P N n0 (.cond c x y) s h Q:=by
 refine WP.cond hc ?_
 cases b
 ·exact hf rfl
 ·exact ht rfl
@[reducible] def zhD(id:Nat)(Q:Exit->zaC->Hp->Prop):Exit->zaC->Hp->Prop
 | .exit id',s,h=>if id'=id then Q .normal s h else Q (.exit id') s h
 | e,s,h=>Q e s h
theorem WP.block{id c s h Q}(hw:WP P N n0 c s h (zhD id Q)):WP P N n0 (.block id c) s h Q:=by
 intro I ι w a r f n ar
 refine wp_block (wp_mono (hw I ι w a r f n ar) fun e a' w' ⟨I',ι',s',h',q,out,ar'⟩=>?_)
 cases e with
 | exit id' =>
  simp only [zhD] at q
  simp only [Exit.inBlock]
  split at q
  ·rename_i e; rw [if_pos e]; exact ⟨I',ι',s',h',q,out,ar'⟩
  ·rename_i e; rw [if_neg e]; exact ⟨I',ι',s',h',q,out,ar'⟩
 | _=>exact ⟨I',ι',s',h',q,out,ar'⟩
theorem WP.loop{c s h}{Q:Exit->zaC->Hp->Prop}(J:Nat->zaC->Hp->Prop)(m:Nat)(h0:J m s h)
  (round:∀m s h,J m s h->WP P N n0 c s h (zeK (fun s' h'=>∃m',m'<m/\J m' s' h') Q)):WP P N n0 (.loop c) s h Q:=by
 intro I ι w a r f n ar
 let Inv:Act->World->Prop:=fun a' w'=>∃m I' ι' s' h',J m s' h'/\Out n0 I ι h w I' ι' h' w'/\AR I' w' ι' N s' a'
 intro b k cs
 have key:∀m (a:Act) (w1:World),(∃I' ι' s' h',J m s' h'/\Out n0 I ι h w I' ι' h' w1/\AR I' w1 ι' N s' a) ->
   ∃e a' w',Post N n0 Q I ι h w e a' w'/\Arrives P (lone (b.at a (.code c::.inLoop c::k)) cs w1) b k cs e a' w':=by
  intro m
  induction m using Nat.strongRecOn with
  | _ m ih =>
   intro a w1 ⟨I',ι',s',h',hJ,out,ar'⟩
   obtain ⟨e,a₁,w₁,⟨I2,ι2,s2,h2,q,out2,ar2⟩,harr⟩:=round m s' h' hJ I' ι' w1 a out.rel out.fresh out.len ar' b (.inLoop c::k) cs
   have out3:=out.trans out2
   cases e with
   | normal =>
    obtain ⟨m',hlt,hJ'⟩:=q
    obtain ⟨e₂,a₂,w₂,hq₂,harr₂⟩:=ih m' hlt a₁ w₁ ⟨I2,ι2,s2,h2,hJ',out3,ar2⟩
    exact ⟨e₂,a₂,w₂,hq₂,.of_steps (Steps.trans harr (.one step_inLoop)) harr₂⟩
   | exit id=>exact ⟨_,a₁,w₁,⟨I2,ι2,s2,h2,q,out3,ar2⟩,.pass (x:=.inLoop c) rfl (fun _ _=>.inl (by simp)) harr⟩
   | goto l=>exact ⟨_,a₁,w₁,⟨I2,ι2,s2,h2,q,out3,ar2⟩,.pass (x:=.inLoop c) rfl (fun _ _=>.inl (by simp)) harr⟩
   | ret=>exact ⟨_,a₁,w₁,⟨I2,ι2,s2,h2,q,out3,ar2⟩,.pass (x:=.inLoop c) rfl (fun _ _=>.inl (by simp)) harr⟩
   | panic ch=>exact ⟨_,a₁,w₁,⟨I2,ι2,s2,h2,q,out3,ar2⟩,.pass (x:=.inLoop c) rfl (fun _ _=>.inl (by simp)) harr⟩
   | outgrown=>exact ⟨_,a₁,w₁,⟨I2,ι2,s2,h2,q,out3,ar2⟩,.pass (x:=.inLoop c) rfl (fun _ _=>.inl (by simp)) harr⟩
 obtain ⟨e,a',w',hq,harr⟩:=key m a w ⟨I,ι,s,h,h0,Out.refl r f n,ar⟩
 exact ⟨e,a',w',hq,.of_steps (.one step_loop) harr⟩
theorem zpI{ops:Array Oper}(hN:∀o∈ops,∀t,o.dst=some t->t<N){Q:zaC->Hp->Prop}{I0 ι0 h0 w0} :
  ∀(k:Nat) (s h) (I ι w a),k<=ops.size->Run P ops Q (ops.toList.drop k) s h->Rel I ι h w->(∀b,h.length<=b->ι.free b)->n0<=h.length->AR I w ι N s a->Out n0 I0 ι0 h0 w0 I ι h w ->
  ∀(R:Exit->zaC->Hp->Prop),(∀s h,Q s h->R .normal s h) ->
   wpOps P ops (Post N n0 R I0 ι0 h0 w0) ((List.range ops.size).drop k) a w:=by
 intro k
 generalize hm:ops.size-k=m
 induction m generalizing k with
 | zero =>
  intro s h I ι w a hk hrun hr hf hn ar out R hR
  have:ops.toList.drop k=[]:=by rw [List.drop_eq_nil_iff]; simp; omega
  rw [this] at hrun
  have:(List.range ops.size).drop k=[]:=by rw [List.drop_eq_nil_iff]; simp; omega
  rw [this]
  exact ⟨I,ι,s,h,hR _ _ hrun,out,ar⟩
 | succ m ih =>
  intro s h I ι w a hk hrun hr hf hn ar out R hR
  have hlt:k<ops.size:=by omega
  have e1:ops.toList.drop k=ops[k]::ops.toList.drop (k+1):=by
   rw [List.drop_eq_getElem_cons (by simpa using hlt)]; simp
  have e2:(List.range ops.size).drop k=k::(List.range ops.size).drop (k+1):=by
   rw [List.drop_eq_getElem_cons (by simpa using hlt)]; simp
  rw [e1] at hrun
  rw [e2]
  simp only [wpOps,Array.getElem?_eq_getElem hlt]
  simp only [Run] at hrun
  have hd:=hN ops[k] (by simp)
  split at hrun
  ·rename_i hg
   obtain ⟨r,h',hstep,hrun⟩:=hrun
   rw [zcb ar hg,if_pos rfl]
   left
   refine hstep I ι w a hr (fun b hb _=>hf b hb) (fun x _=>ar.ev hr.tab x) _ _ fun v w' I' ι' e hv=>?_
   have o2:=e.out (n0:=n0) hf hn
   exact ih (k+1) (by omega) _ _ I' ι' w' _ (by omega) hrun e.rel o2.fresh o2.len ((ar.ext hr e).put _ hd hv) (out.trans o2) R hR
  ·rename_i hg
   rw [zcb ar hg,if_neg (by simp)]
   exact ih (k+1) (by omega) _ _ I ι w _ (by omega) hrun hr hf hn (ar.put _ hd zgL) out R hR
  ·exact hrun.elim
theorem WP.region{id ops s h Q}(hN:∀o∈ops,∀t,o.dst=some t->t<N)(hrun:Run P ops (fun s h=>Q .normal s h) ops.toList s h):WP P N n0 (.region id ops false) s h Q:=by
 intro I ι w a r f n ar
 have:=zpI (n0:=n0) hN 0 s h I ι w a (by omega) hrun r f n ar (Out.refl r f n) Q (fun _ _ h=>h)
 rw [List.drop_zero] at this
 exact wp_region this
end Go.Vs
end
section
namespace Go.Vs
variable [Tab]
variable {P:Program}
def zaF(P:Program)(t:TypeId):Option Bool:=(P.underlying t).map fun | .struct _ | .array _ _=>true | _=>false
def tsz(P:Program)(t:TypeId):Option Nat:=(P.info? t).map (·.size)
def zaH(P:Program)(t:TypeId):Option (List AV):=((P.info? t).bind (·.zero)).map fun v=>v.cells.toList.map ofC1
def plc(P:Program)(t:TypeId):Option (List (Nat × Nat)) :=
 match P.underlying t with
 | some (.struct fs)=>fs.toList.mapM fun f=>(tsz P f.type).map fun n=>(f.offset,n)
 | _=>none
def fld(P:Program)(t:TypeId)(i:Nat):Option (Nat × Nat):=(plc P t).bind (·[i]?)
theorem zaq{t:TypeId}{d:TypeDesc}(h:P.underlying t=some d)(w:World):(underlying t).run P w=.ok d w:=run_underlying h w
theorem zdk{t:TypeId}{b:Bool}(h:zaF P t=some b)(w:World):(isAgg t).run P w=.ok b w:=by
 unfold zaF at h
 cases hu:P.underlying t with
 | none=>simp [hu] at h
 | some d =>
  simp only [hu,Option.map_some,Option.some.injEq] at h
  unfold isAgg
  rw [Sem.run_bind,run_underlying hu w]
  cases d <;> simp_all
theorem zaZ{t:TypeId}{n:Nat}(h:tsz P t=some n)(w:World):(sizeOf t).run P w=.ok n w:=by
 unfold tsz at h
 cases hu:P.info? t with
 | none=>simp [hu] at h
 | some d=>simp [hu] at h; simp [sizeOf,typeInfo,hu,h]
def zfc(h:Hp):AV->Option (List AV × Nat)
 | .ptr b ver off=>match h[b]? with
  | some (.cells cs v _)=>if v=ver then some (cs,off) else none
  | _=>none
 | .eptr b ver esz k j=>match h[b]? with
  | some (.rows rs e v _)=>if v=ver/\e=esz then rs[k]?.map fun r=>(r,j) else none
  | _=>none
 | .iptr cs off=>some (cs,off)
 | _=>none
theorem zbA(c o n:Nat):(⟨c,o,none⟩:Addr).add n=⟨c,o+n,none⟩:=by unfold Addr.add; split <;> simp_all
theorem zkj{I ι h w p v cs off}(hr:Rel I ι h w)(hv:VR I w ι p v)(he:zfc h p=some (cs,off)) :
  ∃c base,v=.pointer (some ⟨c,base+off,none⟩)/\∀(j:Nat) x,cs[j]?=some x->∃y,w.cell? ⟨c,base+j,none⟩=some y/\(zcv x=true->VR I w ι x y):=by
 unfold zfc at he
 split at he
 ·rename_i b ver off'
  split at he
  ·rename_i cs' v' ty hb'
   split at he
   ·rename_i e
    simp only [Option.some.injEq,Prod.mk.injEq] at he
    obtain ⟨rfl,rfl⟩:=he
    obtain ⟨a,c,cur,sz,rfl,hb,hver,hc⟩:=hv.ptr_inv
    obtain ⟨e1,arr,f,harr,hsz,hle,hp,hx⟩:=hr.real b _ _ hb hb'
    refine ⟨c,0,by rw [hc (by omega)]; simp,fun j x hj=>?_⟩
    have hlt:j<arr.size:=by
     have:=(List.getElem?_eq_some_iff.1 hj).1
     omega
    refine ⟨arr[j],by simp [World.cell?,harr,hlt],(hx j x arr[j] hj (by simp [hlt])).plain⟩
   ·cases he
  ·cases he
 ·rename_i b ver esz k j
  split at he
  ·rename_i rs e v ty hb'
   split at he
   ·rename_i e
    obtain ⟨rfl,rfl⟩:=e
    simp only [Option.map_eq_some_iff,Prod.mk.injEq] at he
    obtain ⟨r,hr1,rfl,rfl⟩:=he
    obtain ⟨a,c,cur,sz,rfl,hb,hver,hc⟩:=hv.eptr_inv
    obtain ⟨e1,e0,arr,f,⟨_,harr,-⟩,hsz,hle,hlen,hp,hx⟩:=hr.real b _ _ hb hb'
    refine ⟨c,k * e,by rw [hc (by omega)],fun j' x hj=>?_⟩
    have hk:k<rs.length:=(List.getElem?_eq_some_iff.1 hr1).1
    have hj2:j'<e:=by rw [← hlen k _ hr1]; exact (List.getElem?_eq_some_iff.1 hj).1
    have hm:(k+1) * e<=rs.length * e:=Nat.mul_le_mul_right _ hk
    rw [Nat.add_mul,Nat.one_mul] at hm
    have hlt:k * e+j'<arr.size:=by omega
    refine ⟨arr[k * e+j'],by simp [World.cell?,harr,hlt],(hx k _ j' x arr[k * e+j'] hr1 hj (by simp [hlt])).plain⟩
   ·cases he
  ·cases he
 ·simp only [Option.some.injEq,Prod.mk.injEq] at he
  obtain ⟨rfl,rfl⟩:=he
  obtain ⟨c,base,rfl,_,hx⟩:=hv.iptr_inv
  refine ⟨c,base,rfl,fun j x hj=>?_⟩
  obtain ⟨y,hy,hyv⟩:=hx j x hj
  exact ⟨y,hy,fun _=>hyv.pure ι⟩
 ·cases he
def ldA(agg:Bool)(n:Nat):Option (List AV × Nat)->Option AV
 | some (cs,off)=>if agg then (if off+n<=cs.length/\((cs.drop off).take n).all zcv=true then some (.agg ((cs.drop off).take n)) else none) else (cs[off]?).bind fun x=>if zcv x=true then some x else none
 | none=>none
theorem Step.load{o:Oper}{ρ:Operand->AV}{h:Hp}{t:TypeId}{x:Operand}{agg:Bool}{n:Nat}{r:AV}(ho:o.op=.load t x)(ha:zaF P t=some agg)(hn:tsz P t=some n)
  (hl:ldA agg n (zfc h (ρ x))=some r):Step P o ρ h r h:=by
 refine Step.still fun I ι w a hr hx=>?_
 have hp:=hx x (by simp [ho,Op.operands])
 cases he:zfc h (ρ x) with
 | none=>simp [he,ldA] at hl
 | some q =>
  obtain ⟨cs,off⟩:=q
  obtain ⟨c,base,hv,hcell⟩:=zkj hr hp he
  rw [he] at hl
  simp only [ldA] at hl
  cases agg with
  | false =>
   simp only [Bool.false_eq_true,if_false,Option.bind_eq_some_iff] at hl
   obtain ⟨x0,hl,hp⟩:=hl
   split at hp
   rotate_left
   ·cases hp
   rename_i hp0
   obtain rfl:=Option.some.inj hp
   obtain ⟨y,hy,hvr⟩:=hcell off _ hl
   refine ⟨y,?_,hvr hp0⟩
   unfold execOp
   simp [ho,hv,Instr.loadAt,Instr.sureAddr,loadVar,zdk ha,hy]
  | true =>
   simp only [if_true] at hl
   split at hl
   ·rename_i hlen
    obtain ⟨hlen,hpl⟩:=hlen
    simp only [Option.some.injEq] at hl
    subst hl
    have hall:∀j,∃y,j<n->w.cell? ⟨c,base+off+j,none⟩=some y/\∀x,cs[off+j]?=some x->VR I w ι x y:=by
     intro j
     by_cases hj:j<n
     ·obtain ⟨y,hy,hvr⟩:=hcell (off+j) cs[off+j] (List.getElem?_eq_getElem (by omega))
      refine ⟨y,fun _=>⟨by rw [Nat.add_assoc]; exact hy,fun x hx=>?_⟩⟩
      rw [List.getElem?_eq_getElem (by omega)] at hx
      obtain rfl:=Option.some.inj hx
      refine hvr ((List.all_eq_true.1 hpl) _ (List.mem_of_getElem? (i:=j) ?_))
      rw [List.getElem?_take_of_lt hj,List.getElem?_drop,List.getElem?_eq_getElem (by omega)]
     ·exact ⟨undef,fun h=>absurd h hj⟩
    have hf:=fun j=>Classical.choose_spec (hall j)
    generalize (fun j=>Classical.choose (hall j))=f at hf
    refine ⟨.agg ((List.range n).map fun j=>Classical.choose (hall j)).toArray,?_,?_⟩
    ·unfold execOp
     have:=run_loadCells (P:=P) w ⟨c,base+off,none⟩ n (fun j=>Classical.choose (hall j)) (fun j hj=>by rw [zbA]; exact (Classical.choose_spec (hall j) hj).1)
     simp [ho,hv,Instr.loadAt,Instr.sureAddr,loadVar,zdk ha,zaZ hn,this]
    ·refine .agg (by simp; omega) fun j x y hx hy=>?_
     have hj:j<n:=by
      have:=(List.getElem?_eq_some_iff.1 hx).1
      simp at this; omega
     simp only [List.getElem?_toArray,List.getElem?_map,List.getElem?_range hj,Option.map_some,Option.some.injEq] at hy
     subst hy
     refine (Classical.choose_spec (hall j) hj).2 x ?_
     rw [List.getElem?_take_of_lt hj,List.getElem?_drop] at hx
     exact hx
   ·cases hl
def upd(ι:Io)(b:Nat)(x:Nat × Nat × Nat):Io:=⟨fun b'=>if b'=b then some x else ι b',ι.sub⟩
theorem za5(ι b x):upd ι b x b=some x:=by simp [upd]
theorem zbj{ι:Io}{b:Nat}{x:Nat × Nat × Nat}{b':Nat}(h:b'≠b):upd ι b x b'=ι b':=by simp [upd,h]
theorem ziZ{ι:Io}{b:Nat}{x:Nat × Nat × Nat}{b' c:Nat}(h:At (upd ι b x) b' c):(b'=b/\c=x.1)\/At ι b' c:=by
 rcases h with ⟨u,s,h⟩ | h
 ·by_cases e:b'=b
  ·subst e; rw [za5] at h; obtain rfl:=Option.some.inj h; exact .inl ⟨rfl,rfl⟩
  ·rw [zbj e] at h; exact .inr (.inl ⟨u,s,h⟩)
 ·exact .inr (.inr h)
theorem alloc_old(w:World)(o:Obj)(c:Nat)(h:c<w.heap.size):(w.alloc o).heap[c]?=w.heap[c]?:=by
 show (w.heap.push o)[c]?=_
 rw [Array.getElem?_push,if_neg (by omega)]
theorem zbN(w:World)(o:Obj):(w.alloc o).heap[w.heap.size]?=some o:=by
 show (w.heap.push o)[w.heap.size]?=_
 rw [Array.getElem?_push,if_pos rfl]
theorem zcA(w:World)(o:Obj):(w.alloc o).heap.size=w.heap.size+1:=by
 show (w.heap.push o).size=_
 simp
theorem BR.mono{I I':Nat->Prop}{w w':World}{ι ι':Io}(hI:∀c,I c->I' c)(hw:∀c,I c->w'.heap[c]?=w.heap[c]?)
  (hi:∀b,zby ι ι' b) {S S':Nat->Prop} (hS:∀c,S c->S' c) (hSw:∀c,S c->w'.heap[c]?=w.heap[c]?) {o:LO} {x:Nat × Nat × Nat} (hx:w'.heap[x.1]?=w.heap[x.1]?) (h:BR I w ι S o x):BR I' w' ι' S' o x:=by
 obtain ⟨c,cur,sz⟩:=x
 have cmono:∀{f:Nat->Prop} {a:AV} {v:Value},(∀d,f d->S d)->DC I w ι f a v->DC I' w' ι' f a v:=fun hf h=>h.elim (fun h=>.inl (h.mono hI hw ι' (fun b=>(hi b).1) (fun b=>(hi b).2))) (fun h=>.inr (h.mono hI hw _ (fun _ h=>h) (fun c hc=>hSw c (hf c hc))))
 have pmono:∀{f:Nat->Nat->Prop},zdF S f->zdF S' f:=fun hp=>⟨fun j d h=>hS d (hp.1 j d h),hp.2⟩
 have mono:∀{a:AV} {v:Value},VR I w ι a v->VR I' w' ι' a v:=fun h=>h.mono hI hw ι' (fun b=>(hi b).1) (fun b=>(hi b).2)
 cases o with
 | cells cs ver ty =>
  obtain ⟨e,arr,f,h1,h2,h3,hp,h4⟩:=h
  exact ⟨e,arr,f,by rw [hx]; exact h1,h2,h3,pmono hp,fun j x y hj hy=>cmono (hp.1 j) (h4 j x y hj hy)⟩
 | rows rs esz ver ty =>
  obtain ⟨e,e0,arr,f,h1,h2,h3,h4,hp,h5⟩:=h
  exact ⟨e,e0,arr,f,h1.congr hx,h2,h3,h4,pmono hp,fun i r j x y hi hj hy=>cmono (hp.1 _) (h5 i r j x y hi hj hy)⟩
 | siter s pos=>obtain ⟨e1,e2,h1⟩:=h; exact ⟨e1,e2,by rw [hx]; exact h1⟩
 | hole=>trivial
 | map es =>
  obtain ⟨e1,e2,ents,clock,f,h1,h2,h3,h4,hp,h5⟩:=h
  exact ⟨e1,e2,ents,clock,f,by rw [hx]; exact h1,h2,h3,h4,pmono hp,fun j x e hj he=>⟨mono (h5 j x e hj he).1,cmono (hp.1 j) (h5 j x e hj he).2⟩⟩
 | dead=>trivial
theorem Ext.allocW{I ι h w}(hr:Rel I ι h w)(hf:ι.free h.length)(o:LO)(w':World)(hsz:w'.heap.size=w.heap.size+1)(hsame:∀c,c<w.heap.size->w'.heap[c]?=w.heap[c]?)(hos:w'.os=w.os)(htape:w'.tape=w.tape)(hout:w'.output=w.output)(cur sz:Nat)(ho:o.live=true)
  (hb:(∀x v,VR I w ι x v->VR I w' (upd ι h.length (w.heap.size,cur,sz)) x v)->BR I w' (upd ι h.length (w.heap.size,cur,sz)) (fun _=>False) o (w.heap.size,cur,sz)) :
  Ext I ι h w I (upd ι h.length (w.heap.size,cur,sz)) (h++[o]) w':=by
 have hmv:∀b,zby ι (upd ι h.length (w.heap.size,cur,sz)) b:=fun b=>by
  by_cases e:b=h.length
  ·subst e; exact ⟨fun c u s hc=>(by rw [hf.1] at hc; cases hc),fun c hc=>(by rw [hf.1] at hc; cases hc)⟩
  ·exact zby.of_eq (zbj e)
 have hIs:∀c,I c->w'.heap[c]?=w.heap[c]?:=fun c hc=>hsame c (hr.ilt c hc)
 have mono:∀x v,VR I w ι x v->VR I w' (upd ι h.length (w.heap.size,cur,sz)) x v :=
  fun x v hv=>hv.mono (fun _ h=>h) hIs _ (fun b=>(hmv b).1) (fun b=>(hmv b).2)
 have atl:∀c,At (upd ι h.length (w.heap.size,cur,sz)) h.length c->c=w.heap.size:=fun c hc=>by
  rcases ziZ hc with ⟨_,e⟩ | h
  ·exact e
  ·exact absurd h hf.not
 have ato:∀b c,b≠h.length->At (upd ι h.length (w.heap.size,cur,sz)) b c->At ι b c:=fun b c e hc=>(ziZ hc).elim (fun h=>absurd h.1 e) id
 have old:∀b o',(h++[o])[b]?=some o'->b≠h.length->h[b]?=some o':=fun b o' ho' e=>by
  have hlt:=(List.getElem?_eq_some_iff.1 ho').1
  simp at hlt
  rwa [List.getElem?_append_left (by omega)] at ho'
 have own:∀c,Own (upd ι h.length (w.heap.size,cur,sz)) (h++[o]) c->Own ι h c\/w.heap.size<=c:=by
  rintro c ⟨b,ob',hb1,hb2,hb3⟩
  by_cases e:b=h.length
  ·subst e; have:=atl c hb3; right; omega
  ·left; exact ⟨b,ob',old b ob' hb1 e,hb2,ato b c e hb3⟩
 refine ⟨⟨?_,?_,hr.tab.mono (fun _ h=>h) hIs,?_,?_,?_,?_,?_,?_⟩,⟨hos,htape,hout,by rw [hsz]; omega,fun c hc _=>hsame c hc⟩,fun _ h=>h,fun _ h=>.inl h,own,hmv,?_,by simp⟩
 ·intro b x o' hx ho'
  by_cases e:b=h.length
  ·subst e
   rw [za5] at hx
   obtain rfl:=Option.some.inj hx
   simp at ho'
   subst ho'
   exact BR.mono (fun _ h=>h) (fun _ _=>rfl) (fun b=>zby.refl _ _) (fun _ h=>h.elim) (fun _ h=>h.elim) rfl (hb mono)
  ·rw [zbj e] at hx
   exact BR.mono (fun _ h=>h) hIs hmv (fun _ h=>h) (fun c hc=>hsame c (hr.lt b c (.inr hc))) (hsame _ (hr.lt' b x hx)) (hr.real b x o' hx (old b o' ho' e))
 ·intro b o' ho' hl
  by_cases e:b=h.length
  ·subst e; rw [za5]; rfl
  ·rw [zbj e]; exact hr.dom b o' (old b o' ho' e) hl
 ·intro b b' o1 o2 c h1 l1 h2 l2 a1 a2
  by_cases e1:b=h.length <;> by_cases e2:b'=h.length
  ·omega
  ·subst e1; have:=atl c a1; have:=hr.lt b' c (ato b' c e2 a2); omega
  ·subst e2; have:=atl c a2; have:=hr.lt b c (ato b c e1 a1); omega
  ·exact hr.inj b b' o1 o2 c (old b o1 h1 e1) l1 (old b' o2 h2 e2) l2 (ato b c e1 a1) (ato b' c e2 a2)
 ·intro b c u s hc hs
  by_cases e:b=h.length
  ·subst e; exact hf.2 c hs
  ·rw [zbj e] at hc; exact hr.own1 b c u s hc hs
 ·intro c hc hI
  rcases own c hc with h' | h'
  ·exact hr.sep c h' hI
  ·have:=hr.ilt c hI; omega
 ·intro b c hx
  by_cases e:b=h.length
  ·subst e; have:=atl c hx; rw [hsz]; omega
  ·have:=hr.lt b c (ato b c e hx); rw [hsz]; omega
 ·intro c hc; have:=hr.ilt c hc; rw [hsz]; omega
 ·intro b hb'
  by_cases e:b=h.length
  ·subst e; simp at hb'; subst hb'; cases ho
  ·have:=hr.hole b (old b _ hb' e)
   exact ⟨by rw [zbj e]; exact this.1,this.2⟩
 ·intro b hb'
  simp at hb'
  exact ⟨zbj (by omega),rfl⟩
theorem Ext.alloc{I ι h w}(hr:Rel I ι h w)(hf:ι.free h.length)(o:LO)(ob:Obj)(cur sz:Nat)(ho:o.live=true)
  (hb:∀w' ι',w'=w.alloc ob->ι'=upd ι h.length (w.heap.size,cur,sz)->(∀x v,VR I w ι x v->VR I w' ι' x v)->BR I w' ι' (fun _=>False) o (w.heap.size,cur,sz)) :
  Ext I ι h w I (upd ι h.length (w.heap.size,cur,sz)) (h++[o]) (w.alloc ob) :=
 Ext.allocW hr hf o (w.alloc ob) (zcA w ob) (fun c hc=>alloc_old w ob c hc) rfl rfl rfl cur sz ho fun mono=>hb _ _ rfl rfl mono
theorem Own.lt{I ι h w c}(hr:Rel I ι h w)(ho:Own ι h c):c<w.heap.size:=by
 obtain ⟨b,o,_,_,hb⟩:=ho; exact hr.lt b c hb
theorem Ext.turn{I ι h w}(hr:Rel I ι h w){b:Nat}{o o':LO}{c cur sz:Nat}(hb:h[b]?=some o)(hlv:o.live=true)(hi:ι b=some (c,cur,sz))
  (hnh:o'≠.hole) {w':World} (hos:w'.os=w.os) (htape:w'.tape=w.tape) (hout:w'.output=w.output) (hsize:w'.heap.size=w.heap.size) (hsame:∀k,k≠c->w'.heap[k]?=w.heap[k]?)
  (hv:(∀x v,VR I w ι x v->VR I w' ι x v)->(∀f x v,(∀d,f d->ι.sub b d)->DC I w ι f x v->DC I w' ι f x v)->BR I w' ι (ι.sub b) o' (c,cur,sz)) :
  Ext I ι h w I ι (h.set b o') w':=by
 have hlt:b<h.length:=(List.getElem?_eq_some_iff.1 hb).1
 have hown:Own ι h c:=Own.at hb hlv hi
 have hIs:∀k,I k->w'.heap[k]?=w.heap[k]?:=fun k hk=>hsame k (fun e=>hr.sep c hown (e▸hk))
 have mono:∀x v,VR I w ι x v->VR I w' ι x v:=fun x v hv =>
  hv.mono (fun _ h=>h) hIs _ (fun b=>(zby.refl ι b).1) (fun b=>(zby.refl ι b).2)
 have cmono:∀f x v,(∀d,f d->ι.sub b d)->DC I w ι f x v->DC I w' ι f x v:=fun f x v hf hv =>
  hv.elim (fun h=>.inl (mono x v h)) (fun h=>.inr (h.mono (fun _ h=>h) hIs _ (fun _ h=>h) (fun d hd=>hsame d (fun e=>hr.own1 b c cur sz hi (e▸hf d hd)))))
 have get:∀(b':Nat) (o2:LO),(h.set b o')[b']?=some o2->o2.live=true->∃o3:LO,h[b']?=some o3/\o3.live=true:=by
  intro b' o2 h1 h2
  rw [List.getElem?_set] at h1
  split at h1
  ·rename_i e
   subst e
   exact ⟨o,hb,hlv⟩
  ·exact ⟨o2,h1,h2⟩
 have own:∀k,Own ι (h.set b o') k->Own ι h k:=by
  rintro k ⟨b',o,h1,h2,h3⟩
  obtain ⟨o3,h4,h5⟩:=get b' o h1 h2
  exact ⟨b',o3,h4,h5,h3⟩
 refine ⟨⟨?_,?_,hr.tab.mono (fun _ h=>h) hIs,?_,hr.own1,fun k hk=>hr.sep k (own k hk),?_,?_,?_⟩,⟨hos,htape,hout,by omega,fun k hk hn=>hsame k (fun e=>hn (e▸hown))⟩,fun _ h=>h,fun _ h=>.inl h,fun k hk=>.inl (own k hk),fun b=>zby.refl _ _,fun _ _=>⟨rfl,rfl⟩,by simp⟩
 ·intro b' x o2 hx ho
  rw [List.getElem?_set] at ho
  split at ho
  ·rename_i e
   subst e
   rw [hi] at hx
   obtain rfl:=Option.some.inj hx
   have ho:some o'=some o2:=by simpa [hlt] using ho
   obtain rfl:=Option.some.inj ho
   exact hv mono cmono
  ·rename_i e
   by_cases hlo:o2.live=true
   ·have hne:∀d,At ι b' d->d≠c:=fun d hd e2=>e (hr.inj b' b o2 o c ho hlo hb hlv (e2▸hd) (.inl ⟨cur,sz,hi⟩)).symm
    exact BR.mono (fun _ h=>h) hIs (fun b=>zby.refl _ _) (fun _ h=>h) (fun d hd=>hsame d (hne d (.inr hd))) (hsame _ (hne _ (.inl ⟨x.2.1,x.2.2,hx⟩))) (hr.real b' x o2 hx ho)
   ·cases o2 <;> first | trivial | exact absurd rfl hlo
 ·intro b' o2 ho hl2
  rw [List.getElem?_set] at ho
  split at ho
  ·rename_i e; subst e; rw [hi]; rfl
  ·exact hr.dom b' o2 ho hl2
 ·intro b1 b2 o1 o2 k h1 l1 h2 l2 a1 a2
  obtain ⟨o3,h3,l3⟩:=get b1 o1 h1 l1
  obtain ⟨o4,h4,l4⟩:=get b2 o2 h2 l2
  exact hr.inj b1 b2 o3 o4 k h3 l3 h4 l4 a1 a2
 ·intro b' x hx; have:=hr.lt b' x hx; omega
 ·intro k hk; have:=hr.ilt k hk; omega
 ·intro b' hb'
  rw [List.getElem?_set] at hb'
  split at hb'
  ·rename_i e; subst e; simp [hlt] at hb'; exact absurd hb' hnh
  ·exact hr.hole b' hb'
theorem Ext.writeO{I ι h w}(hr:Rel I ι h w){b:Nat}{o o':LO}{ty:TypeId}{c cur sz:Nat}(hb:h[b]?=some o)(hlv:o.live=true)(hi:ι b=some (c,cur,sz))
  (arr arr':Array Value) {z:Nat × Nat} (harr:w.heap[c]?=some (.cells arr ty z)) (hlv':o'.live=true)
  (hv:∀w',(∀x v,VR I w ι x v->VR I w' ι x v)->(∀f x v,(∀d,f d->ι.sub b d)->DC I w ι f x v->DC I w' ι f x v)->w'.heap[c]?=some (.cells arr' ty z)->BR I w' ι (ι.sub b) o' (c,cur,sz)) :
  Ext I ι h w I ι (h.set b o') (w.setRow c arr') :=
 Ext.turn hr hb hlv hi (fun e=>by rw [e] at hlv'; cases hlv') rfl rfl rfl (by simp) (fun k hk=>setRow_other w c k arr' hk) fun mono cmono=>hv _ mono cmono (setRow_heap w c arr arr' ty z harr)
theorem Ext.write{I ι h w}(hr:Rel I ι h w){b:Nat}{cs cs':List AV}{ver:Nat}{ty:TypeId}{c cur sz:Nat}(hb:h[b]?=some (.cells cs ver ty))(hi:ι b=some (c,cur,sz))
  (arr':Array Value) (hsz:arr'.size=sz) (hlen:cs'.length=sz) (f:Nat->Nat->Prop) (hp:zdF (ι.sub b) f)
  (hv:∀(j:Nat) x y,cs'[j]?=some x->arr'[j]?=some y->DC I w ι (f j) x y) :
  Ext I ι h w I ι (h.set b (.cells cs' ver ty)) (w.setRow c arr'):=by
 obtain ⟨e1,arr,_,harr,hasz,hale,_⟩:=hr.real b _ _ hi hb
 exact Ext.writeO hr hb rfl hi arr arr' harr rfl fun w' mono cmono hw=>⟨e1,arr',f,hw,hsz,hlen,hp,fun j x y hj hy=>cmono _ _ _ (hp.1 j) (hv j x y hj hy)⟩
def oneB:AV->Bool
 | .undef | .agg _ | .tuple _ | .box _ _ | .zBx _ _ _ | .zBm _=>false
 | _=>true
theorem zld{x:AV}(h:oneB x=true):zcv x=true:=by cases x <;> first | rfl | cases h
theorem VR.one{I w ι x v}(h:VR I w ι x v)(hx:oneB x=true):v.oneCell'=true:=by
 cases h <;> first | rfl | simp [oneB] at hx
def cellsOf:AV->List AV
 | .agg cs=>cs
 | x=>[x]
theorem VR.cells{I w ι x v}(h:VR I w ι x v)(hx:(cellsOf x).all oneB=true):v.cells.size=(cellsOf x).length/\(∀y∈v.cells,y.oneCell'=true) /\
  ∀(j:Nat) a b,(cellsOf x)[j]?=some a->v.cells[j]?=some b->VR I w ι a b:=by
 by_cases hagg:∃cs,x=.agg cs
 ·obtain ⟨cs,rfl⟩:=hagg
  obtain ⟨arr,rfl,hl,hxy⟩:=h.agg_inv
  refine ⟨hl,fun y hy=>?_,hxy⟩
  obtain ⟨j,hj,rfl⟩:=Array.getElem_of_mem hy
  have hj':j<cs.length:=by simp only [Value.cells] at hj; omega
  refine (hxy j cs[j] _ (by simp [hj']) (by simp [Value.cells] at hj ⊢)).one ?_
  exact (List.all_eq_true.1 hx) _ (List.getElem_mem hj')
 ·have e:cellsOf x=[x]:=by cases x <;> first | rfl | exact absurd ⟨_,rfl⟩ hagg
  rw [e] at hx ⊢
  have h1:=h.one (by simpa using hx)
  have e2:v.cells=#[v]:=by cases v <;> first | rfl | simp [Value.oneCell'] at h1
  rw [e2]
  refine ⟨rfl,by simpa using h1,fun j a b ha hb=>?_⟩
  cases j with
  | zero=>simp at ha hb; subst ha; subst hb; exact h
  | succ j=>simp at ha
def spl(cs:List AV):Nat->List AV->List AV
 | _,[]=>cs
 | off,x::xs=>spl (cs.set off x) (off+1) xs
theorem ze5(xs:List AV):∀(cs:List AV) (off:Nat),(spl cs off xs).length=cs.length:=by
 induction xs with
 | nil=>intros; rfl
 | cons x xs ih=>intro cs off; simp [spl,ih]
theorem ziC(xs:List AV):∀(cs:List AV) (off j:Nat),off+xs.length<=cs.length->(spl cs off xs)[j]?=if off<=j/\j<off+xs.length then xs[j-off]? else cs[j]?:=by
 induction xs with
 | nil=>intro cs off j h; simp [spl]; intros; omega
 | cons x xs ih =>
  intro cs off j h
  simp only [List.length_cons] at h
  rw [spl,ih _ _ _ (by simp; omega)]
  by_cases h1:off+1<=j/\j<off+1+xs.length
  ·rw [if_pos h1,if_pos ⟨by omega,by simp; omega⟩]
   have:j-off=(j-(off+1))+1:=by omega
   rw [this,List.getElem?_cons_succ]
  ·rw [if_neg h1,List.getElem?_set]
   by_cases h2:off=j
   ·subst h2; rw [if_pos rfl,if_pos (by omega),if_pos ⟨by omega,by simp⟩]; simp
   ·rw [if_neg h2,if_neg (by simp; omega)]
theorem zgT(arr:Array Value)(off:Nat)(xs:List Value)(hle:off+xs.length<=arr.size)(m:Nat) :
  ((arr.toList.take off++xs++arr.toList.drop (off+xs.length)).toArray)[m]?=if off<=m/\m<off+xs.length then xs[m-off]? else arr[m]?:=by
 simp only [List.getElem?_toArray]
 have hmin:min off arr.size=off:=by omega
 rw [List.append_assoc,List.getElem?_append]
 simp only [List.length_take,Array.length_toList,hmin]
 by_cases hj:m<off
 ·rw [if_pos hj,if_neg (by omega),List.getElem?_take_of_lt hj]; simp
 ·rw [if_neg hj,List.getElem?_append]
  by_cases hj2:m<off+xs.length
  ·rw [if_pos (by omega),if_pos (by omega)]
  ·rw [if_neg (by omega),if_neg (by omega),List.getElem?_drop]
   have:off+xs.length+(m-off-xs.length)=m:=by omega
   rw [this]; simp
def stA(h:Hp)(p:AV)(xs:List AV):Option Hp :=
 match p with
 | .ptr b ver off=>match h[b]? with
  | some (.cells cs v ty)=>if v=ver then (if off+xs.length<=cs.length then some (h.set b (.cells (spl cs off xs) v ty)) else none) else none
  | _=>none
 | .eptr b ver esz k j=>match h[b]? with
  | some (.rows rs e v ty)=>if v=ver/\e=esz then match rs[k]? with
    | some r=>if j+xs.length<=r.length then some (h.set b (.rows (rs.set k (spl r j xs)) e v ty)) else none
    | none=>none
   else none
  | _=>none
 | _=>none
theorem zcr(g o:Nat)(t:TypeId)(fz:Nat × Nat):∀(vs:List Value) (i:Nat) (cur:Array Value) (w:World),w.heap[g]?=some (.cells cur t fz)->(fz=(0,0)\/cur.size<=fz.1)->o+i+vs.length<=cur.size->(∀v∈vs,v.oneCell'=true) ->
  (storeCells ⟨g,o,none⟩ vs i).run P w=.ok () (w.setRow g (cur.toList.take (o+i)++vs++cur.toList.drop (o+i+vs.length)).toArray)
 | [],i,cur,w,hg,_,_,_=>by
  simp only [storeCells,List.append_nil,List.length_nil,Nat.add_zero,List.take_append_drop,Array.toArray_toList]
  rw [setRow_self w g cur t fz hg]
  rfl
 | v::rest,i,cur,w,hg,hfz,hl,h1=>by
  have hi:o+i<cur.size:=by simp at hl; omega
  have hadd:(⟨g,o,none⟩:Addr).add i=⟨g,o+i,none⟩:=by unfold Addr.add; split <;> simp_all
  have hcell:w.cell? ⟨g,o+i,none⟩=some cur[o+i]:=by simp [World.cell?,hg,hi]
  have hfro:w.frozen? ⟨g,o+i,none⟩=false:=by
   obtain ⟨lo,hi'⟩:=fz
   simp only [World.frozen?,hg,Bool.and_eq_false_iff,decide_eq_false_iff_not]
   rcases hfz with h | h
   ·obtain ⟨rfl,rfl⟩:=Prod.mk.inj h; right; omega
   ·left; simp only at h; omega
  have hst:(store ((⟨g,o,none⟩:Addr).add i) v).run P w=.ok () (w.setRow g (cur.setIfInBounds (o+i) v)):=by
   rw [hadd,run_store P w _ v _ (h1 v (by simp)),hcell]
   simp [hfro,setCell_eq_setRow w g (o+i) cur t fz v hg]
  have ih:=zcr g o t fz rest (i+1) (cur.setIfInBounds (o+i) v) (w.setRow g (cur.setIfInBounds (o+i) v)) (setRow_heap w g cur _ t _ hg) (by simpa using hfz) (by simp at hl ⊢; omega) (fun x hx=>h1 x (by simp [hx]))
  simp only [storeCells,Sem.run_bind,hst,Result.andThen_ok,ih,setRow_setRow]
  congr 3
  have e:=list_seg_step cur.toList (o+i) v rest (by simp at hl ⊢; omega)
  simpa [Array.toList_setIfInBounds,Nat.add_assoc] using e
theorem zeq.setRow{w:World}{c:Nat}{arr arr':Array Value}{ty:TypeId}(h:zeq w c arr ty)(e:arr'.size=arr.size):zeq (w.setRow c arr') c arr' ty:=h.elim fun z h=>⟨z,setRow_heap w c arr arr' ty z h.1,by rw [e]; exact h.2⟩
theorem Step.store{o:Oper}{ρ:Operand->AV}{h h':Hp}{t:TypeId}{p x:Operand}(ho:o.op=.store t p x)(hn:tsz P t=some (cellsOf (ρ x)).length)
  (h1:(cellsOf (ρ x)).all oneB=true) (hs:stA h (ρ p) (cellsOf (ρ x))=some h'):Step P o ρ h .undef h':=by
 intro I ι w a hr _ hx next Q k
 have hp:=hx p (by simp [ho,Op.operands])
 have hv:=hx x (by simp [ho,Op.operands])
 obtain ⟨hc1,hc2,hc3⟩:=hv.cells h1
 have hsize:(a.eval x).cells.toList.length=(cellsOf (ρ x)).length:=by simp [hc1]
 have run:∀(c off:Nat) (ty:TypeId) (arr:Array Value),a.eval p=.pointer (some ⟨c,off,none⟩)->zeq w c arr ty->off+(cellsOf (ρ x)).length<=arr.size ->
   (execOp a.eval o).run P w=.ok .skip (w.setRow c (arr.toList.take off++(a.eval x).cells.toList++arr.toList.drop (off+(a.eval x).cells.toList.length)).toArray):=by
  rintro c off ty arr hpe ⟨z,harr,hz⟩ hle
  have hst:=zcr (P:=P) c off ty z (a.eval x).cells.toList 0 arr w harr hz (by simp [hc1]; omega) (fun y hy=>hc2 y (by simpa using hy))
  unfold execOp
  simp only [ho,hpe,Instr.storeAt,Instr.sureAddr,storeVar]
  simp [zaZ hn,hc1,hst]
 generalize hg:ρ p=pp at hp hs
 unfold stA at hs
 split at hs
 ·rename_i b ver off
  obtain ⟨ad,c,cur,sz,hpe,hb,hver,hcc⟩:=hp.ptr_inv
  split at hs
  ·rename_i cs v ty hb'
   split at hs
   ·rename_i e
    split at hs
    ·rename_i hlen
     obtain rfl:=Option.some.inj hs
     obtain ⟨e1,arr,f,harr,hasz,hale,hparts,hxy⟩:=hr.real b _ _ hb hb'
     have had:=hcc (by omega)
     subst had
     have hrun:=run c off ty arr hpe (.of harr) (by omega)
     unfold Oper.wp
     rw [hrun]
     refine k undef _ I ι (Ext.write hr hb' hb _ ?_ ?_ f hparts ?_) .undef
     ·simp [hc1]; omega
     ·rw [ze5]; omega
     ·intro j a' b' ha' hb2
      rw [ziC _ _ _ _ hlen] at ha'
      rw [zgT _ _ _ (by omega),hsize] at hb2
      by_cases hj:off<=j/\j<off+(cellsOf (ρ x)).length
      ·rw [if_pos hj] at ha' hb2
       exact .inl (hc3 _ a' b' ha' (by simpa using hb2))
      ·rw [if_neg hj] at ha' hb2
       exact hxy j a' b' ha' hb2
    ·cases hs
   ·cases hs
  ·cases hs
 ·rename_i b ver esz kk j0
  obtain ⟨ad,c,cur,sz,hpe,hb,hver,hcc⟩:=hp.eptr_inv
  split at hs
  ·rename_i rs e v ty hb'
   split at hs
   ·rename_i ee
    obtain ⟨rfl,rfl⟩:=ee
    split at hs
    ·rename_i r hr1
     split at hs
     ·rename_i hlen
      obtain rfl:=Option.some.inj hs
      obtain ⟨e1,e0,arr,f,harr,hasz,hle,hrl,hparts,hxy⟩:=hr.real b _ _ hb hb'
      have had:=hcc (by omega)
      subst had
      have hk:kk<rs.length:=(List.getElem?_eq_some_iff.1 hr1).1
      have hre:=hrl kk r hr1
      have hm:(kk+1) * e<=rs.length * e:=Nat.mul_le_mul_right _ hk
      rw [Nat.add_mul,Nat.one_mul] at hm
      have hrun:=run c (kk * e+j0) ty arr hpe harr (by omega)
      obtain ⟨z,harr,hz⟩:=harr
      unfold Oper.wp
      rw [hrun]
      refine k undef _ I ι (Ext.writeO hr hb' rfl hb arr _ harr rfl fun w' mono cmono hw=>⟨e1,e0,_,f,⟨z,hw,by simpa [hc1] using hz.imp id fun h=>by omega⟩,?_,?_,?_,hparts,?_⟩) .undef
      ·simp [hc1]; omega
      ·simp; exact hle
      ·intro i r' hi
       rw [List.getElem?_set] at hi
       split at hi
       ·simp [hk] at hi; rw [← hi,ze5]; exact hre
       ·exact hrl i r' hi
      ·intro i r' j a' b' hi ha' hb2
       refine cmono _ _ _ (hparts.1 _) ?_
       rw [zgT _ _ _ (by omega),hsize] at hb2
       rw [List.getElem?_set] at hi
       by_cases hik:kk=i
       ·subst hik
        simp [hk] at hi
        subst hi
        rw [ziC _ _ _ _ hlen] at ha'
        by_cases hj:j0<=j/\j<j0+(cellsOf (ρ x)).length
        ·rw [if_pos hj] at ha'
         rw [if_pos (by omega)] at hb2
         have:kk * e+j-(kk * e+j0)=j-j0:=by omega
         rw [this] at hb2
         exact .inl (hc3 _ a' b' ha' (by simpa using hb2))
        ·rw [if_neg hj] at ha'
         rw [if_neg (by omega)] at hb2
         exact hxy kk r j a' b' hr1 ha' hb2
       ·rw [if_neg hik] at hi
        have hji:j<e:=by rw [← hrl i r' hi]; exact (List.getElem?_eq_some_iff.1 ha').1
        rw [if_neg ?_] at hb2
        ·exact hxy i r' j a' b' hi ha' hb2
        ·rintro ⟨h1,h2⟩
         rcases Nat.lt_or_ge i kk with hlt | hge
         ·have:(i+1) * e<=kk * e:=Nat.mul_le_mul_right _ hlt
          rw [Nat.add_mul,Nat.one_mul] at this; omega
         ·have:(kk+1) * e<=i * e:=Nat.mul_le_mul_right _ (by omega)
          rw [Nat.add_mul,Nat.one_mul] at this; omega
     ·cases hs
    ·cases hs
   ·cases hs
  ·cases hs
 ·cases hs
end Go.Vs
end
section
namespace Go.Vs
variable [Tab]
variable {P:Program}
mutual
def zcX:AV->Bool
 | .ptr .. | .eptr .. | .msl .. | .map _ | .optp _ | .bptr .. | .box .. | .zBx .. | .zBm _=>false
 | .func _ f c=>zbe f&&zbe c
 | .iface _ v=>zcX v
 | .agg cs=>zbe cs
 | .tuple vs=>zbe vs
 | _=>true
def zbe:List AV->Bool
 | []=>true
 | x::xs=>zcX x&&zbe xs
end
theorem zhb{x:AV}(h:zcX x=true):zcv x=true:=by cases x <;> first | rfl | simp [zcX] at h
theorem zb6{cs:List AV}(h:zbe cs=true):∀(j:Nat) x,cs[j]?=some x->zcX x=true:=by
 induction cs with
 | nil=>intro j x hj; simp at hj
 | cons a as ih =>
  intro j x hj
  simp only [zbe,Bool.and_eq_true] at h
  cases j with
  | zero=>simp at hj; subst hj; exact h.1
  | succ j=>exact ih h.2 j x (by simpa using hj)
theorem VR.to_pure{I w ι x v}(h:VR I w ι x v)(hx:zcX x=true):VR I w Io.nil x v:=by
 induction h with
 | undef=>exact .undef
 | bool b=>exact .bool b
 | int k n=>exact .int k n
 | str s=>exact .str s
 | nilp=>exact .nilp
 | nilmap=>exact .nilmap
 | nilfn=>exact .nilfn
 | nili=>exact .nili
 | nils=>exact .nils
 | emp=>exact .emp
 | ptr=>simp [zcX] at hx
 | eptr=>simp [zcX] at hx
 | mslnil=>simp [zcX] at hx
 | iptr c base hI hs hv=>exact .iptr c base hI hs hv
 | sl0=>exact .sl0
 | sl esz c off cap hI hn hcap hl hs hv=>exact .sl esz c off cap hI hn hcap hl hs hv
 | msl=>simp [zcX] at hx
 | map=>simp [zcX] at hx
 | optp0=>simp [zcX] at hx
 | optp=>simp [zcX] at hx
 | bptr=>simp [zcX] at hx
 | bptr0=>simp [zcX] at hx
 | func h1 h2 _ _ ih3 ih4 =>
  simp only [zcX,Bool.and_eq_true] at hx
  exact .func h1 h2 (fun j x y a b=>ih3 j x y a b (zb6 hx.1 j x a)) (fun j x y a b=>ih4 j x y a b (zb6 hx.2 j x a))
 | iface _ ih=>exact .iface (ih (by simpa [zcX] using hx))
 | agg hl _ ih=>exact .agg hl (fun j x y a b=>ih j x y a b (zb6 (by simpa [zcX] using hx) j x a))
 | tuple hl _ ih=>exact .tuple hl (fun j x y a b=>ih j x y a b (zb6 (by simpa [zcX] using hx) j x a))
theorem Step.move{o:Oper}{ρ:Operand->AV}{h:Hp}{x:Operand}(ho:o.op=.move x\/o.op=.assign x):Step P o ρ h (ρ x) h:=by
 refine Step.still fun I ι w a hr hx=>?_
 have hv:=hx x (by rcases ho with ho | ho <;> simp [ho,Op.operands])
 refine ⟨_,?_,hv⟩
 unfold execOp
 rcases ho with ho | ho <;> simp [ho]
theorem Step.pick{o:Oper}{ρ:Operand->AV}{h:Hp}{c x y:Operand}{b:Bool}(ho:o.op=.pick c x y)(hc:ρ c=.bool b):Step P o ρ h (if b then ρ x else ρ y) h:=by
 refine Step.still fun I ι w a hr hx=>?_
 have hv:=hx c (by simp [ho,Op.operands])
 rw [hc] at hv
 have e:=hv.bool_inv
 unfold execOp
 cases b with
 | true=>exact ⟨a.eval x,by simp [ho,e,asBool],by simpa using hx x (by simp [ho,Op.operands])⟩
 | false=>exact ⟨a.eval y,by simp [ho,e,asBool],by simpa using hx y (by simp [ho,Op.operands])⟩
theorem Step.extract{o:Oper}{ρ:Operand->AV}{h:Hp}{x:Operand}{i:Nat}{vs:List AV}{r:AV}(ho:o.op=.extract x i)(hx:ρ x=.tuple vs)(hi:vs[i]?=some r):Step P o ρ h r h:=by
 refine Step.still fun I ι w a hr hxx=>?_
 have hv:=hxx x (by simp [ho,Op.operands])
 rw [hx] at hv
 obtain ⟨arr,e,hl,hxy⟩:=hv.tuple_inv
 have hlt:i<arr.size:=by have:=(List.getElem?_eq_some_iff.1 hi).1; omega
 have hg:arr[i]?=some arr[i]:=by simp [hlt]
 exact ⟨arr[i],by unfold execOp; simp [ho,e,Instr.extract,hg],hxy i r _ hi hg⟩
def addO:AV->Nat->Option AV
 | .ptr b ver off,n=>some (.ptr b ver (off+n))
 | .eptr b ver esz k j,n=>some (.eptr b ver esz k (j+n))
 | .iptr cs off,n=>some (.iptr cs (off+n))
 | _,_=>none
theorem VR.addO{I w ι p v n r}(hv:VR I w ι p v)(h:addO p n=some r):∃a:Addr,v=.pointer (some a)/\VR I w ι r (.pointer (some (a.add n))):=by
 unfold Vs.addO at h
 split at h
 ·obtain ⟨a,c,cur,sz,rfl,hb,hver,hc⟩:=hv.ptr_inv
  obtain rfl:=Option.some.inj h
  exact ⟨a,rfl,.ptr c cur sz hb hver fun e=>by rw [hc e,zbA]⟩
 ·obtain ⟨a,c,cur,sz,rfl,hb,hver,hc⟩:=hv.eptr_inv
  obtain rfl:=Option.some.inj h
  exact ⟨a,rfl,.eptr c cur sz hb hver fun e=>by rw [hc e,zbA,Nat.add_assoc]⟩
 ·obtain rfl:=Option.some.inj h
  cases hv with
  | iptr c base hI hs hx =>
   refine ⟨_,rfl,?_⟩
   rw [zbA,Nat.add_assoc]
   exact .iptr c base hI hs hx
 ·cases h
theorem zgR{α β:Type}{g:α->Option β}:∀(l:List α) (l':List β),l.mapM g=some l'->l'.length=l.length/\∀(i:Nat) y,l'[i]?=some y->∃x,l[i]?=some x/\g x=some y
 | [],l',h=>by simp at h; subst h; simp
 | x::l,l',h=>by
  simp only [List.mapM_cons,Option.bind_eq_bind,Option.bind_eq_some_iff,Option.pure_def,Option.some.injEq] at h
  obtain ⟨y,hy,l2,hl2,rfl⟩:=h
  obtain ⟨h1,h2⟩:=zgR l l2 hl2
  refine ⟨by simp [h1],fun i z hz=>?_⟩
  cases i with
  | zero=>simp at hz; subst hz; exact ⟨x,rfl,hy⟩
  | succ i=>exact h2 i z (by simpa using hz)
theorem zmE{t:TypeId}{l:List (Nat × Nat)}{i off n:Nat}(hl:plc P t=some l)(hi:l[i]?=some (off,n)) :
  ∃fs:Array Field,P.underlying t=some (.struct fs)/\∃fd,fs[i]?=some fd/\tsz P fd.type=some n/\fd.offset=off:=by
 unfold plc at hl
 split at hl
 ·rename_i fs hu
  obtain ⟨_,h2⟩:=zgR _ _ hl
  obtain ⟨fd,hfd,hg⟩:=h2 i _ hi
  simp only [Option.map_eq_some_iff,Prod.mk.injEq] at hg
  obtain ⟨m,hm,e1,e2⟩:=hg
  subst e2
  exact ⟨fs,hu,fd,by simpa using hfd,hm,e1⟩
 ·cases hl
theorem Step.fieldAddr{o:Oper}{ρ:Operand->AV}{h:Hp}{t:TypeId}{x:Operand}{f off n:Nat}{r:AV}(ho:o.op=.fieldAddr t x f)(hf:fld P t f=some (off,n))(hn:n≠0)
  (ha:addO (ρ x) off=some r):Step P o ρ h r h:=by
 refine Step.still fun I ι w a hr hx=>?_
 have hv:=hx x (by simp [ho,Op.operands])
 obtain ⟨ad,e,hvr⟩:=hv.addO ha
 refine ⟨_,?_,hvr⟩
 obtain ⟨l,hl,hlf⟩:=Option.bind_eq_some_iff.1 hf
 obtain ⟨fs,hu,fd,hfd,hsz,hoff⟩:=zmE hl hlf
 subst hoff
 unfold execOp
 simp [ho,e,Instr.fieldAt,zaq hu,hfd,Instr.sureAddr,fieldPlace,zaZ hsz,hn]
theorem Step.newCells{o:Oper}{ρ:Operand->AV}{h:Hp}{ty:TypeId}{cs:List AV}
  (hs:∀(I:Nat->Prop) (ι:Io) (w:World) (a:Act),Rel I ι h w->(∀x∈o.op.operands,VR I w ι (ρ x) (a.eval x)) ->
   ∃arr:Array Value,(execOp a.eval o).run P w=.ok (.value (.pointer (some ⟨w.heap.size,0,none⟩))) (w.alloc (.cells arr ty))/\arr.size=cs.length /\
    ∀(j:Nat) x y,cs[j]?=some x->arr[j]?=some y->VR I w ι x y):Step P o ρ h (.ptr h.length 0 0) (h++[.cells cs 0 ty]):=by
 intro I ι w a hr hf hx next Q k
 obtain ⟨arr,hrun,hsz,hxy⟩:=hs I ι w a hr hx
 unfold Oper.wp
 rw [hrun]
 refine k _ _ I _ (Ext.alloc hr (hf _ (Nat.le_refl _) (by simp)) (.cells cs 0 ty) (.cells arr ty) 0 arr.size rfl ?_) ?_
 ·rintro w' ι' rfl rfl mono
  exact ⟨rfl,arr,_,zbN _ _,rfl,by omega,zdF.none,fun j x y hj hy=>.inl (mono _ _ (hxy j x y hj hy))⟩
 ·exact .ptr _ 0 arr.size (za5 _ _ _) (Nat.le_refl _) fun _=>rfl
theorem ze6{t:TypeId}{z:List AV}(h:zaH P t=some z):∃v:Value,(∀w,(zeroValue t).run P w=.ok v w)/\v.cells.toList.map ofC1=z:=by
 unfold zaH at h
 cases hi:P.info? t with
 | none=>simp [hi] at h
 | some i =>
  cases hz:i.zero with
  | none=>simp [hi,hz] at h
  | some v =>
   simp [hi,hz] at h
   exact ⟨v,fun w=>by simp [zeroValue,typeInfo,hi,hz],by simpa using h⟩
theorem ze4{I w ι}{v:Value}{z:List AV}(h:v.cells.toList.map ofC1=z):v.cells.size=z.length/\∀(j:Nat) x y,z[j]?=some x->v.cells[j]?=some y->VR I w ι x y:=by
 subst h
 refine ⟨by simp,fun j x y hx hy=>?_⟩
 simp only [List.getElem?_map,Array.getElem?_toList,hy,Option.map_some,Option.some.injEq] at hx
 subst hx
 exact VR.ofC1 _ _ _ _
theorem Step.alloc{o:Oper}{ρ:Operand->AV}{h:Hp}{t:TypeId}{z:List AV}(ho:o.op=.alloc t)(hz:zaH P t=some z):Step P o ρ h (.ptr h.length 0 0) (h++[.cells z 0 t]):=by
 refine Step.newCells fun I ι w a hr hx=>?_
 obtain ⟨v,hv,hz⟩:=ze6 hz
 obtain ⟨e1,e2⟩:=ze4 (I:=I) (w:=w) (ι:=ι) hz
 refine ⟨v.cells,?_,e1,e2⟩
 unfold execOp
 simp only [ho,Instr.alloc,newVar,newRow]
 simp [hv]
theorem Step.box{o:Oper}{ρ:Operand->AV}{h:Hp}{t:TypeId}{x:Operand}(ho:o.op=.box t x)(h1:(cellsOf (ρ x)).all oneB=true):Step P o ρ h (.ptr h.length 0 0) (h++[.cells (cellsOf (ρ x)) 0 t]):=by
 refine Step.newCells fun I ι w a hr hx=>?_
 have hv:=hx x (by simp [ho,Op.operands])
 obtain ⟨e1,e2,e3⟩:=hv.cells h1
 refine ⟨(a.eval x).cells,?_,e1,e3⟩
 unfold execOp
 simp only [ho,Instr.box,newVar,newRow]
 simp
def zoI(op:BinOp)(k:IntKind)(a b:Int):Option AV :=
 match op with
 | .add=>some (.int k (k.wrap (a+b)))
 | .sub=>some (.int k (k.wrap (a-b)))
 | .mul=>some (.int k (k.wrap (a * b)))
 | .quo=>if b=0 then none else some (.int k (k.wrap (a.tdiv b)))
 | .rem=>if b=0 then none else some (.int k (a.tmod b))
 | .and=>some (.int k (Go.bits .and k a b))
 | .or=>some (.int k (Go.bits .or k a b))
 | .xor=>some (.int k (Go.bits .xor k a b))
 | .eql=>some (.bool (a==b))
 | .neq=>some (.bool (a != b))
 | .lss=>some (.bool (decide (a<b)))
 | .leq=>some (.bool (decide (a<=b)))
 | .gtr=>some (.bool (decide (a>b)))
 | .geq=>some (.bool (decide (a≥b)))
 | _=>none
theorem Step.binInt{o:Oper}{ρ:Operand->AV}{h:Hp}{op:BinOp}{t t':TypeId}{x y:Operand}{k:IntKind}{a b:Int}{r:AV}(ho:o.op=.binOp op t x y t')
  (hx:ρ x=.int k a) (hy:ρ y=.int k b) (he:zoI op k a b=some r):Step P o ρ h r h:=by
 refine Step.still fun I ι w ac hr hv=>?_
 have h1:=hv x (by simp [ho,Op.operands])
 have h2:=hv y (by simp [ho,Op.operands])
 rw [hx] at h1; rw [hy] at h2
 have e1:=h1.int_inv
 have e2:=h2.int_inv
 unfold execOp
 simp only [ho,e1,e2]
 cases op <;> simp only [zoI,Option.some.injEq,reduceCtorEq] at he
 all_goals try (split at he <;> simp only [Option.some.injEq,reduceCtorEq] at he)
 all_goals (subst he)
 all_goals (first | refine ⟨_,?_,.int _ _⟩ | refine ⟨_,?_,.bool _⟩)
 all_goals first
  | (simp [eqGuard,binOp,Op.intArith,Op.intCmp,Op.intDiv, *]; done)
  | (simp [eqGuard,binOp]; rfl)
theorem Step.not{o:Oper}{ρ:Operand->AV}{h:Hp}{t:TypeId}{x:Operand}{b:Bool}(ho:o.op=.unOp .not t x)(hx:ρ x=.bool b):Step P o ρ h (.bool (!b)) h:=by
 refine Step.still fun I ι w a hr hv=>?_
 have h1:=hv x (by simp [ho,Op.operands])
 rw [hx] at h1
 refine ⟨_,?_,.bool _⟩
 unfold execOp; simp [ho,h1.bool_inv,Op.unary]
theorem Step.neg{o:Oper}{ρ:Operand->AV}{h:Hp}{t:TypeId}{x:Operand}{k:IntKind}{n:Int}(ho:o.op=.unOp .neg t x)(hx:ρ x=.int k n):Step P o ρ h (.int k (k.wrap (0-n))) h:=by
 refine Step.still fun I ι w a hr hv=>?_
 have h1:=hv x (by simp [ho,Op.operands])
 rw [hx] at h1
 refine ⟨_,?_,.int _ _⟩
 unfold execOp; simp only [ho,h1.int_inv,Op.unary,Op.intArith]; rfl
theorem Step.convInt{o:Oper}{ρ:Operand->AV}{h:Hp}{s d:TypeId}{ds:TypeDesc}{x:Operand}{k k':IntKind}{n:Int}(ho:o.op=.convert s d x)(hs:P.underlying s=some ds)
  (hd:P.underlying d=some (.int k')) (hx:ρ x=.int k n):Step P o ρ h (.int k' (k'.wrap n)) h:=by
 refine Step.still fun I ι w a hr hv=>?_
 have h1:=hv x (by simp [ho,Op.operands])
 rw [hx] at h1
 refine ⟨_,?_,.int _ _⟩
 unfold execOp; simp [ho,h1.int_inv,convert,zaq hs,zaq hd,Conv.intToInt]
theorem zfJ{t:TypeId}(ht:P.underlying t=some .bool)(a b:Bool)(w:World):(Op.equal t (.bool a) (.bool b)).run P w=.ok (a==b) w:=by
 show (Op.equalIn (9999+1) t (.bool a) (.bool b)).run P w=_
 rw [Op.equalIn]
 rw [Sem.run_bind,zaq ht]
 rfl
theorem Step.eqBool{o:Oper}{ρ:Operand->AV}{h:Hp}{t t':TypeId}{x y:Operand}{a b:Bool}(ho:o.op=.binOp .eql t x y t')(ht:P.underlying t=some .bool)
  (hx:ρ x=.bool a) (hy:ρ y=.bool b):Step P o ρ h (.bool (a==b)) h:=by
 refine Step.still fun I ι w ac hr hv=>?_
 have h1:=hv x (by simp [ho,Op.operands])
 have h2:=hv y (by simp [ho,Op.operands])
 rw [hx] at h1; rw [hy] at h2
 refine ⟨_,?_,.bool _⟩
 unfold execOp
 simp only [ho,h1.bool_inv,h2.bool_inv,eqGuard]
 have e:binOp .eql t (.bool a) (.bool b)=(do pure (.bool (← Op.equal t (.bool a) (.bool b)))):=rfl
 simp [e,zfJ ht]
theorem Step.neqBool{o:Oper}{ρ:Operand->AV}{h:Hp}{t t':TypeId}{x y:Operand}{a b:Bool}(ho:o.op=.binOp .neq t x y t')(ht:P.underlying t=some .bool)
  (hx:ρ x=.bool a) (hy:ρ y=.bool b):Step P o ρ h (.bool (a != b)) h:=by
 refine Step.still fun I ι w ac hr hv=>?_
 have h1:=hv x (by simp [ho,Op.operands])
 have h2:=hv y (by simp [ho,Op.operands])
 rw [hx] at h1; rw [hy] at h2
 refine ⟨_,?_,.bool _⟩
 unfold execOp
 simp only [ho,h1.bool_inv,h2.bool_inv,eqGuard]
 have e:binOp .neq t (.bool a) (.bool b)=(do pure (.bool (!(← Op.equal t (.bool a) (.bool b))))):=rfl
 simp [e,zfJ ht]
 cases a <;> cases b <;> rfl
end Go.Vs
end
section
namespace Go.Vs
variable [Tab]
variable {P:Program}
def VRs(I:Nat->Prop)(w:World)(ι:Io)(xs:List AV)(vs:Array Value):Prop :=
 vs.size=xs.length/\∀(j:Nat) x y,xs[j]?=some x->vs[j]?=some y->VR I w ι x y
def zaO(P:Program)(f:FuncId)(args:List AV)(r:AV):Prop :=
 ∀(I:Nat->Prop) (w:World) (vs:Array Value),(∀c,I c->c<w.heap.size)->TT I w->VRs I w Io.nil args vs ->
  Calls P f vs w fun e w'=>∃v I',e=.returned v/\RowKit.Below w.heap.size w w'/\(∀c,I c->I' c)/\(∀c,I' c->c<w'.heap.size)/\(∀c,I' c->I c\/w.heap.size<=c)/\VR I' w' Io.nil r v
theorem Ext.below{I I' ι h w w'}(hr:Rel I ι h w)(hb:RowKit.Below w.heap.size w w')(h1:∀c,I c->I' c)(h2:∀c,I' c->c<w'.heap.size)(h3:∀c,I' c->I c\/w.heap.size<=c):Ext I ι h w I' ι h w':=by
 have hIs:∀c,I c->w'.heap[c]?=w.heap[c]?:=fun c hc=>hb.block c (hr.ilt c hc)
 refine ⟨⟨?_,hr.dom,hr.tab.mono h1 hIs,hr.inj,hr.own1,?_,?_,h2,hr.hole⟩,⟨hb.os,hb.tape,hb.output,hb.size,fun c hc _=>hb.block c hc⟩,h1,fun c hc=>(h3 c hc).imp id .inl,fun c hc=>.inl hc,fun b=>zby.refl _ _,fun _ _=>⟨rfl,rfl⟩,Nat.le_refl _⟩
 ·intro b x o hx ho
  exact BR.mono h1 hIs (fun b=>zby.refl _ _) (fun _ h=>h) (fun c hc=>hb.block c (hr.lt b c (.inr hc))) (hb.block _ (hr.lt' b x hx)) (hr.real b x o hx ho)
 ·intro c hc hI
  rcases h3 c hI with h | h
  ·exact hr.sep c hc h
  ·have:=Own.lt hr hc; omega
 ·intro b c hx; have:=hr.lt b c hx; have:=hb.size; omega
def fnOk(P:Program)(f:FuncId):Bool :=
 match P.funcs[f]? with
 | some fn=>!(fn.name== "runtime.NumGoroutine")&&fn.body.isSome
 | none=>false
theorem zd8{f:FuncId}(h:fnOk P f=true)(args:Array Value)(w:World):(callFunc f args).run P w=.ok (.enter f args) w:=by
 unfold fnOk at h
 split at h
 ·rename_i fn hf
  simp only [Bool.and_eq_true,Bool.not_eq_true'] at h
  have h1:¬fn.name= "runtime.NumGoroutine":=by simpa using h.1
  have h2:¬fn.body=none:=by intro e; simp [e] at h
  simp [callFunc,hf,h1,h2]
 ·cases h
theorem Step.call{o:Oper}{ρ:Operand->AV}{h:Hp}{f:FuncId}{as:Array Operand}{ts:Array TypeId}{r:AV}(ho:o.op=.call { callee:=.value (.func f),args:=as,argTypes:=ts })(hf:fnOk P f=true)
  (hp:zbe (as.toList.map ρ)=true) (hc:zaO P f (as.toList.map ρ) r):Step P o ρ h r h:=by
 intro I ι w a hr _ hx next Q k
 have hxs:∀x∈as,VR I w ι (ρ x) (a.eval x):=fun x hm=>hx x (by simp [ho,Op.operands,Call.operands,hm])
 have hvs:VRs I w Io.nil (as.toList.map ρ) (as.map a.eval):=by
  refine ⟨by simp,fun j x y hj hy=>?_⟩
  have hpx:=zb6 hp j x hj
  simp only [List.getElem?_map,Array.getElem?_toList,Option.map_eq_some_iff] at hj
  simp only [Array.getElem?_map,Option.map_eq_some_iff] at hy
  obtain ⟨x0,hj,rfl⟩:=hj
  obtain ⟨y0,hy,rfl⟩:=hy
  rw [hj] at hy
  obtain rfl:=Option.some.inj hy
  exact (hxs x0 (Array.mem_of_getElem? hj)).to_pure hpx
 have hcall:=hc I w (as.map a.eval) hr.ilt hr.tab hvs
 have hrun:(execOp a.eval o).run P w=.ok (.enter f (as.map a.eval)) w:=by
  unfold execOp
  simp [ho,resolve,Act.eval,Deferred.ofValue,invoke,zd8 hf]
 unfold Oper.wp
 rw [hrun,Oper.upon_enter]
 refine hcall.mono fun e w' ⟨v,I',he,hb,h1,h2,h3,hv⟩=>?_
 subst he
 exact k v w' I' ι (Ext.below hr hb h1 h2 h3) (hv.pure ι)
def argS:Nat->List AV->zaC
 | _,[]=>[]
 | i,x::xs=>(i,x)::argS (i+1) xs
theorem zkL(xs:List AV):∀(i t:Nat),(argS i xs).get t=if i<=t then xs[t-i]?.getD .undef else .undef:=by
 induction xs with
 | nil=>intro i t; simp [argS,zaC.get]
 | cons x xs ih =>
  intro i t
  simp only [argS,zaC.get,ih]
  by_cases h:i=t
  ·subst h; simp
  ·rw [if_neg h]
   by_cases h2:i<=t
   ·rw [if_pos h2,if_pos (by omega)]
    have:t-i=(t-(i+1))+1:=by omega
    rw [this]; simp
   ·rw [if_neg h2,if_neg (by omega)]
def zfK(P:Program)(s:zaC)(h:Hp):List ResultVar->Option (List AV)
 | []=>some []
 | .tmp t::rs=>(zfK P s h rs).map fun l=>s.get t::l
 | .cell t ty::rs=>(zaF P ty).bind fun agg=>(tsz P ty).bind fun n=>(ldA agg n (zfc h (s.get t))).bind fun x=>(zfK P s h rs).map fun l=>x::l
def one?:List AV->AV
 | [x]=>x
 | l=>.tuple l
theorem zpJ{I ι h w p v agg n r t}(hr:Rel I ι h w)(hp:VR I w ι p v)(ha:zaF P t=some agg)(hn:tsz P t=some n)(hl:ldA agg n (zfc h p)=some r) :
  ∃ad y,v=.pointer (some ad)/\(loadVar t ad).run P w=.ok y w/\VR I w ι r y:=by
 cases he:zfc h p with
 | none=>simp [he,ldA] at hl
 | some q =>
  obtain ⟨cs,off⟩:=q
  obtain ⟨c,base,hv,hcell⟩:=zkj hr hp he
  rw [he] at hl
  simp only [ldA] at hl
  refine ⟨⟨c,base+off,none⟩,?_⟩
  cases agg with
  | false =>
   simp only [Bool.false_eq_true,if_false,Option.bind_eq_some_iff] at hl
   obtain ⟨x0,hl,hp⟩:=hl
   split at hp
   rotate_left
   ·cases hp
   rename_i hp0
   obtain rfl:=Option.some.inj hp
   obtain ⟨y,hy,hvr⟩:=hcell off _ hl
   exact ⟨y,hv,by simp [loadVar,zdk ha,hy],hvr hp0⟩
  | true =>
   simp only [if_true] at hl
   split at hl
   ·rename_i hlen
    obtain ⟨hlen,hpl⟩:=hlen
    obtain rfl:=Option.some.inj hl
    have hall:∀j,∃y,j<n->w.cell? ⟨c,base+off+j,none⟩=some y/\∀x,cs[off+j]?=some x->VR I w ι x y:=by
     intro j
     by_cases hj:j<n
     ·obtain ⟨y,hy,hvr⟩:=hcell (off+j) cs[off+j] (List.getElem?_eq_getElem (by omega))
      refine ⟨y,fun _=>⟨by rw [Nat.add_assoc]; exact hy,fun x hx=>?_⟩⟩
      rw [List.getElem?_eq_getElem (by omega)] at hx
      obtain rfl:=Option.some.inj hx
      refine hvr ((List.all_eq_true.1 hpl) _ (List.mem_of_getElem? (i:=j) ?_))
      rw [List.getElem?_take_of_lt hj,List.getElem?_drop,List.getElem?_eq_getElem (by omega)]
     ·exact ⟨undef,fun h=>absurd h hj⟩
    refine ⟨.agg ((List.range n).map fun j=>Classical.choose (hall j)).toArray,hv,?_,?_⟩
    ·have:=run_loadCells (P:=P) w ⟨c,base+off,none⟩ n (fun j=>Classical.choose (hall j)) (fun j hj=>by rw [zbA]; exact (Classical.choose_spec (hall j) hj).1)
     simp [loadVar,zdk ha,zaZ hn,this]
    ·refine .agg (by simp; omega) fun j x y hx hy=>?_
     have hj:j<n:=by
      have:=(List.getElem?_eq_some_iff.1 hx).1
      simp at this; omega
     simp only [List.getElem?_toArray,List.getElem?_map,List.getElem?_range hj,Option.map_some,Option.some.injEq] at hy
     subst hy
     refine (Classical.choose_spec (hall j) hj).2 x ?_
     rw [List.getElem?_take_of_lt hj,List.getElem?_drop] at hx
     exact hx
   ·cases hl
def zfs(tmps:Array Value):ResultVar->Sem Value
 | .tmp t=>pure (tmps.getD t undef)
 | .cell a t=>do loadVar t (← asAddr (tmps.getD a undef))
theorem zdu{I ι h w N s a}(hr:Rel I ι h w)(ar:AR I w ι N s a):∀(rs:List ResultVar) (l:List AV),zfK P s h rs=some l ->
  ∃vs:List Value,(rs.mapM (zfs a.tmps)).run P w=.ok vs w/\vs.length=l.length/\∀(j:Nat) x y,l[j]?=some x->vs[j]?=some y->VR I w ι x y
 | [],l,hl=>by
  simp [zfK] at hl; subst hl
  exact ⟨[],by simp,rfl,by simp⟩
 | .tmp t::rs,l,hl=>by
  simp only [zfK,Option.map_eq_some_iff] at hl
  obtain ⟨l',hl',rfl⟩:=hl
  obtain ⟨vs,h1,h2,h3⟩:=zdu hr ar rs l' hl'
  refine ⟨a.tmps.getD t undef::vs,by simp [List.mapM_cons,zfs,h1],by simp [h2],fun j x y hx hy=>?_⟩
  cases j with
  | zero=>simp at hx hy; subst hx; subst hy; simpa using ar.get t
  | succ j=>exact h3 j x y (by simpa using hx) (by simpa using hy)
 | .cell t ty::rs,l,hl=>by
  simp only [zfK,Option.bind_eq_some_iff,Option.map_eq_some_iff] at hl
  obtain ⟨agg,ha,n,hn,x,hx,l',hl',rfl⟩:=hl
  obtain ⟨vs,h1,h2,h3⟩:=zdu hr ar rs l' hl'
  obtain ⟨ad,y,hv,hrun,hvr⟩:=zpJ (P:=P) hr (ar.get t) ha hn hx
  refine ⟨y::vs,?_,by simp [h2],fun j x y hx hy=>?_⟩
  ·rw [List.mapM_cons]
   simp only [zfs,hv,asAddr]
   simp [hrun,h1]
  ·cases j with
   | zero=>simp at hx hy; subst hx; subst hy; exact hvr
   | succ j=>exact h3 j x y (by simpa using hx) (by simpa using hy)
theorem zg6{I ι h w N s a}{fn:Func}(hr:Rel I ι h w)(ar:AR I w ι N s a){l:List AV}(hl:zfK P s h fn.results.toList=some l) :
  ∃v,(results fn a.tmps).run P w=.ok v w/\VR I w ι (one? l) v:=by
 obtain ⟨vs,h1,h2,h3⟩:=zdu (P:=P) hr ar _ l hl
 have e:fn.results.mapM (zfs a.tmps)=Functor.map List.toArray (fn.results.toList.mapM (zfs a.tmps)):=by
  rw [Array.mapM_eq_mapM_toList]
 have hm:(fn.results.mapM (zfs a.tmps)).run P w=.ok vs.toArray w:=by
  rw [e,Sem.run_map,h1]; rfl
 have hres:(results fn a.tmps).run P w=.ok (if h:vs.toArray.size=1 then vs.toArray[0] else .tuple vs.toArray) w:=by
  unfold results
  show ((fn.results.mapM (zfs a.tmps)).bind _).run P w=_
  rw [Sem.run_bind',hm]
  rfl
 refine ⟨_,hres,?_⟩
 match l,vs,h2,h3 with
 | [x],[v],_,h3=>exact h3 0 x v rfl rfl
 | [],[],_,h3=>exact .tuple (by simp) (by simp)
 | x::x'::l,v::v'::vs,h2,h3 =>
  rw [dif_neg (by simp)]
  exact .tuple (by simpa using h2) (fun j a b ha hb=>h3 j a b ha (by simpa using hb))
def FR(h:Hp)(r r':AV):Prop :=
 ∀(I:Nat->Prop) (ι:Io) (w:World) (v:Value),Rel I ι h w->VR I w ι r v->∃I':Nat->Prop,(∀c,I c->I' c)/\(∀c,I' c->I c\/Own ι h c)/\VR I' w Io.nil r' v
theorem FR.pure{h r}(hp:zcX r=true):FR h r r:=fun I ι w v _ hv=>⟨I,fun _ h=>h,fun _ h=>.inl h,hv.to_pure hp⟩
def zcB(P:Program)(fn:Func)(r:AV):Exit->zaC->Hp->Prop:=fun e s h =>
 (e=.normal\/e=.ret)/\∃l,zfK P s h fn.results.toList=some l/\FR h (one? l) r
theorem zaO.of_wp{f:FuncId}{fn:Func}{c:Code}{args:List AV}{r:AV}(hf:P.funcs[f]?=some fn)(hb:fn.body=some c)(hn:args.length<=fn.ntmps)
  (hw:WP P fn.ntmps 0 c (argS 0 args) [] (zcB P fn r)):zaO P f args r:=by
 intro I w vs hI htt hvs
 have hr:Rel I Io.nil [] w:=⟨fun b x o h=>by simp [Io.nil] at h,fun b o h=>by simp at h,htt,fun b b' o o' c h=>by simp at h,fun b c u s h=>by simp [Io.nil] at h,fun c ⟨b,o,h,_⟩=>by simp at h,fun b c h=>by simp [At,Io.nil] at h,hI,fun b h=>by simp at h⟩
 have ar:AR I w Io.nil fn.ntmps (argS 0 args) { tmps:=vs++Array.replicate (fn.ntmps-vs.size) undef,defers:=[] }:=by
  refine ⟨by simp [hvs.1]; omega,fun t=>?_,rfl⟩
  rw [zkL,if_pos (Nat.zero_le _)]
  simp only [Nat.sub_zero]
  cases hx:args[t]? with
  | none=>exact .undef
  | some x =>
   have hlt:t<vs.size:=by have:=(List.getElem?_eq_some_iff.1 hx).1; rw [hvs.1]; exact this
   simp only [Option.getD_some]
   refine hvs.2 t x _ hx ?_
   have e1:(vs++Array.replicate (fn.ntmps-vs.size) undef)[t]?=some vs[t]:=by
    rw [Array.getElem?_append_left hlt]; simp [hlt]
   rw [Array.getD_eq_getD_getElem?,e1]
   simp [hlt]
 refine calls_of_wp hf hb (wp_mono (hw I Io.nil w _ hr (fun _ _=>⟨rfl,fun _ h=>h⟩) (Nat.zero_le _) ar) fun e a' w' ⟨I',ι',s',h',⟨he,l,hl,hfr⟩,out,ar'⟩=>?_)
 obtain ⟨v,hrun,hv⟩:=zg6 (P:=P) out.rel ar' hl
 obtain ⟨I'',g1,g2,hv2⟩:=hfr I' ι' w' v out.rel hv
 have hown:∀c,¬Own Io.nil [] c:=fun c ⟨b,o,h,_⟩=>by simp at h
 have hpost:a'.defers=[]/\∃v,(results fn a'.tmps).run P w'=.ok v w'/\∃v_1 I',Ending.returned v=.returned v_1/\RowKit.Below w.heap.size w w'/\(∀c,I c->I' c)/\(∀c,I' c->c<w'.heap.size)/\(∀c,I' c->I c\/w.heap.size<=c)/\VR I' w' Io.nil r v_1:=by
  refine ⟨ar'.defers,v,hrun,v,I'',rfl,⟨out.keep.os,out.keep.tape,out.keep.output,out.keep.size,fun c hc=>out.keep.block c hc (hown c)⟩,fun c hc=>g1 c (out.imm c hc),fun c hc=>?_,fun c hc=>?_,hv2⟩
  ·rcases g2 c hc with h | h
   ·exact out.rel.ilt c h
   ·exact Own.lt out.rel h
  ·rcases g2 c hc with h | h
   ·rcases out.new c h with h | h | h
    ·exact .inl h
    ·exact .inr h
    ·exact absurd h (hown c)
   ·rcases out.own c h with h | h
    ·exact absurd h (hown c)
    ·exact .inr h
 rcases he with rfl | rfl
 ·exact hpost
 ·exact hpost
end Go.Vs
end
section
namespace Go.Vs
variable [Tab]
variable {P:Program}
theorem znc(xs:List Value):∀(off n:Nat) (cells:Array Value),off+n+xs.length<=cells.size ->
  ((xs.zipIdx n).foldl (fun cs (q:Value × Nat)=>cs.setIfInBounds (off+q.2) q.1) cells).size=cells.size /\
  ∀k,((xs.zipIdx n).foldl (fun cs (q:Value × Nat)=>cs.setIfInBounds (off+q.2) q.1) cells)[k]?=if off+n<=k/\k<off+n+xs.length then xs[k-(off+n)]? else cells[k]?:=by
 induction xs with
 | nil=>intro off n cells h; simp; intros; omega
 | cons x xs ih =>
  intro off n cells h
  simp only [List.length_cons] at h
  simp only [List.zipIdx_cons,List.foldl_cons]
  obtain ⟨h1,h2⟩:=ih off (n+1) (cells.setIfInBounds (off+n) x) (by simp; omega)
  refine ⟨by simp [h1],fun k=>?_⟩
  rw [h2]
  by_cases e1:off+(n+1)<=k/\k<off+(n+1)+xs.length
  ·rw [if_pos e1,if_pos ⟨by omega,by simp; omega⟩]
   have:k-(off+n)=(k-(off+(n+1)))+1:=by omega
   rw [this,List.getElem?_cons_succ]
  ·rw [if_neg e1,Array.getElem?_setIfInBounds]
   by_cases e2:off+n=k
   ·subst e2; rw [if_pos rfl,if_pos (by omega),if_pos ⟨by omega,by simp⟩]; simp
   ·rw [if_neg e2,if_neg (by simp; omega)]
def zhu(place:Nat->Option (Nat × Nat))(cs:List AV):List (Nat × AV)->Option (List AV)
 | []=>some cs
 | (i,x)::rest=>match place i with
  | some (off,n)=>if (cellsOf x).length=n/\off+n<=cs.length/\(cellsOf x).all oneB=true then zhu place (spl cs off (cellsOf x)) rest else none
  | none=>none
def CR(I:Nat->Prop)(w:World)(ι:Io)(cs:List AV)(arr:Array Value):Prop :=
 arr.size=cs.length/\∀(j:Nat) x y,cs[j]?=some x->arr[j]?=some y->VR I w ι x y
theorem zf2{I w ι}{place:Nat->Option (Nat × Nat)}:∀(parts:List (Nat × AV)) (vals:List (Nat × Value)) (cs cs':List AV) (arr:Array Value),
  vals.length=parts.length->(∀(j:Nat) p q,parts[j]?=some p->vals[j]?=some q->p.1=q.1/\VR I w ι p.2 q.2)->CR I w ι cs arr->zhu place cs parts=some cs' ->
  ∃arr',Instr.fill place arr vals=some arr'/\CR I w ι cs' arr'
 | [],vals,cs,cs',arr,hl,hp,hc,hf=>by
  simp at hl; subst hl
  simp only [zhu,Option.some.injEq] at hf; subst hf
  exact ⟨arr,rfl,hc⟩
 | (i,x)::parts,[],cs,cs',arr,hl,hp,hc,hf=>by simp at hl
 | (i,x)::parts,(i',v)::vals,cs,cs',arr,hl,hp,hc,hf=>by
  obtain ⟨e,hv⟩:=hp 0 (i,x) (i',v) rfl rfl
  dsimp only at e hv
  subst e
  simp only [zhu] at hf
  split at hf
  ·rename_i off n hpl
   split at hf
   ·rename_i hcond
    obtain ⟨h1,h2,h3⟩:=hcond
    obtain ⟨c1,c2,c3⟩:=hv.cells h3
    have hsize:=hc.1
    obtain ⟨z1,z2⟩:=znc v.cells.toList off 0 arr (by simp [c1]; omega)
    have hfold:v.cells.zipIdx.foldl (fun cs (q:Value × Nat)=>cs.setIfInBounds (off+q.2) q.1) arr=(v.cells.toList.zipIdx 0).foldl (fun cs (q:Value × Nat)=>cs.setIfInBounds (off+q.2) q.1) arr:=by
     rw [← Array.foldl_toList,Array.toList_zipIdx]
    rw [← hfold] at z1 z2
    have hcr0:CR I w ι (spl cs off (cellsOf x)) (v.cells.zipIdx.foldl (fun cs (q:Value × Nat)=>cs.setIfInBounds (off+q.2) q.1) arr):=by
     refine ⟨by rw [z1,ze5,hsize],fun j a b ha hb=>?_⟩
     rw [z2] at hb
     rw [ziC _ _ _ _ (by omega)] at ha
     simp only [Nat.add_zero,Array.length_toList,c1] at hb
     by_cases hj:off<=j/\j<off+(cellsOf x).length
     ·rw [if_pos hj] at ha hb
      exact c3 _ a b ha (by simpa using hb)
     ·rw [if_neg hj] at ha hb
      exact hc.2 j a b ha hb
    obtain ⟨arr',ha,hcr⟩:=zf2 (place:=place) parts vals (spl cs off (cellsOf x)) cs' _ (by simpa using hl) (fun j p q hp' hq=>hp (j+1) p q hp' hq) hcr0 hf
    refine ⟨arr',?_,hcr⟩
    rw [Instr.fill]
    simp only [hpl]
    have hle:off+v.cells.size<=arr.size:=by omega
    have hcn:v.cells.size=n:=by omega
    rw [if_neg (by simp only [hcn,ne_eq,not_true_eq_false,decide_false,Bool.false_or,decide_eq_true_eq]; omega)]
    exact ha
   ·cases hf
  ·cases hf
def zAI(P:Program)(t:TypeId)(i:Nat):Option (Nat × Nat) :=
 match P.underlying t with
 | some (.struct _)=>fld P t i
 | some (.array _ e)=>(tsz P e).map fun n=>(i * n,n)
 | _=>none
theorem zeR:∀(fs:List Field) (l:List (Nat × Nat)),(fs.mapM fun f=>(tsz P f.type).map fun n=>(f.offset,n))=some l->∀w,
  (fs.mapM fun f=>(do pure (f.offset,← sizeOf f.type):Sem (Nat × Nat))).run P w=.ok l w
 | [],l,h,w=>by simp at h; subst h; simp
 | f::fs,l,h,w=>by
  simp only [List.mapM_cons,Option.bind_eq_bind,Option.bind_eq_some_iff,Option.pure_def,Option.some.injEq,Option.map_eq_some_iff] at h
  obtain ⟨y,⟨n,hn,rfl⟩,l2,hl2,rfl⟩:=h
  rw [List.mapM_cons]
  simp only [Sem.run_bind,zaZ hn,Result.andThen_ok,Sem.run_pure,zeR fs l2 hl2 w]
theorem Step.build{o:Oper}{ρ:Operand->AV}{h:Hp}{t:TypeId}{parts:Array (Nat × Operand)}{z cs:List AV}{l:List (Nat × Nat)}(ho:o.op=.build t parts)(hz:zaH P t=some z)
  (hpl:plc P t=some l) (hf:zhu (fun i:Nat=>l[i]?) z (parts.toList.map fun q=>(q.1,ρ q.2))=some cs):Step P o ρ h (.agg cs) h:=by
 refine Step.still fun I ι w a hr hx=>?_
 obtain ⟨zv,hzr,hzc⟩:=ze6 hz
 obtain ⟨e1,e2⟩:=ze4 (I:=I) (w:=w) (ι:=ι) hzc
 have hxs:∀q∈parts,VR I w ι (ρ q.2) (a.eval q.2):=fun q hq=>hx q.2 (by simp only [ho,Op.operands]; simp; exact ⟨q.1,hq⟩)
 obtain ⟨arr',ha,hcr⟩:=zf2 (I:=I) (w:=w) (ι:=ι) (place:=fun i:Nat=>l[i]?) (parts.toList.map fun q=>(q.1,ρ q.2)) (parts.toList.map fun q=>(q.1,a.eval q.2)) z cs zv.cells (by simp)
  (fun j p q hp hq=>by
   simp only [List.getElem?_map,Array.getElem?_toList,Option.map_eq_some_iff] at hp hq
   obtain ⟨p0,hp0,rfl⟩:=hp
   obtain ⟨q0,hq0,rfl⟩:=hq
   rw [hp0] at hq0
   obtain rfl:=Option.some.inj hq0
   exact ⟨rfl,hxs p0 (Array.mem_of_getElem? hp0)⟩) ⟨e1,e2⟩ hf
 refine ⟨.agg arr',?_,.agg hcr.1 hcr.2⟩
 unfold plc at hpl
 split at hpl
 ·rename_i fs hu
  have hpls:=zeR (P:=P) fs.toList l hpl w
  have e:(fs.mapM fun f=>(do pure (f.offset,← sizeOf f.type):Sem (Nat × Nat))).run P w=.ok l.toArray w:=by
   rw [Array.mapM_eq_mapM_toList,Sem.run_map,hpls]; rfl
  have hfn:(fun i:Nat=>l.toArray[i]?)=fun i:Nat=>l[i]?:=by funext i; simp
  unfold execOp
  have hparts:(parts.map fun q=>(q.1,a.eval q.2)).toList=parts.toList.map fun q=>(q.1,a.eval q.2):=by simp
  simp only [ho,Instr.build]
  rw [Sem.run_bind,Sem.run_bind,hzr]
  simp only [Result.andThen_ok]
  rw [Sem.run_bind,zaq hu]
  simp only [Result.andThen_ok]
  rw [Sem.run_bind,e]
  simp only [Result.andThen_ok]
  rw [hfn,hparts,ha]
  rfl
 ·cases hpl
def zay(P:Program)(t:TypeId):Option Bool:=(P.underlying t).map fun | .interface _=>true | _=>false
theorem Step.makeInterface{o:Oper}{ρ:Operand->AV}{h:Hp}{t:TypeId}{x:Operand}(ho:o.op=.makeInterface t x)(ht:zay P t=some false):Step P o ρ h (.iface t (ρ x)) h:=by
 refine Step.still fun I ι w a hr hx=>?_
 refine ⟨_,?_,.iface (hx x (by simp [ho,Op.operands]))⟩
 unfold zay at ht
 cases hu:P.underlying t with
 | none=>simp [hu] at ht
 | some d =>
  unfold execOp
  simp only [ho,Instr.makeInterface]
  rw [Sem.run_bind,Sem.run_bind,zaq hu]
  cases d <;> simp_all
theorem Ext.allocI{I ι h w}(hr:Rel I ι h w)(ob:Obj):Ext I ι h w (fun c=>I c\/c=w.heap.size) ι h (w.alloc ob):=by
 have hb:RowKit.Below w.heap.size w (w.alloc ob):=(RowKit.Below.refl _ _).alloc (Nat.le_refl _) _
 refine Ext.below hr hb (fun c h=>.inl h) (fun c h=>?_) (fun c h=>?_)
 ·rcases h with h | h
  ·have:=hr.ilt c h; rw [zcA]; omega
  ·rw [zcA]; omega
 ·exact h.imp id (fun e=>by omega)
def zak(P:Program)(t:TypeId):Option TypeId :=
 match P.underlying t with
 | some (.slice e)=>some e
 | _=>none
theorem zaR{t e:TypeId}(h:zak P t=some e):P.underlying t=some (.slice e):=by
 unfold zak at h; split at h <;> simp_all
def InB(i:Int)(n:Nat):Prop:=0<=i/\i.toNat<n
instance (i:Int) (n:Nat):Decidable (InB i n):=inferInstanceAs (Decidable (_/\_))
def idx?(n:Nat):AV->Option Nat
 | .int _ i=>if InB i n then some i.toNat else none
 | _=>none
def ixOf(P:Program)(t:TypeId):Option (Option Nat × TypeId) :=
 match P.underlying t with
 | some (.slice e)=>some (none,e)
 | some (.array n e)=>some (some n,e)
 | _=>none
theorem zlo{t e:TypeId}(h:ixOf P t=some (none,e)):P.underlying t=some (.slice e):=by
 unfold ixOf at h; split at h <;> simp_all
theorem zlp{t e:TypeId}{n:Nat}(h:ixOf P t=some (some n,e)):P.underlying t=some (.array n e):=by
 unfold ixOf at h; split at h <;> simp_all
def tnI(i:Int):Nat:=i.toNat
def idxR?(n:Nat):AV->Option Nat
 | .int _ i=>if InB i n then some (tnI i) else none
 | _=>none
theorem zp7(n:Nat)(x:AV):idxR? n x=idx? n x:=by cases x <;> rfl
def elR(n esz:Nat)(x:AV)(i:AV):Option AV :=
 match x with
 | .ptr b ver off=>match idxR? n i with
  | some k=>some (.ptr b ver (off+k * esz))
  | none=>none
 | .eptr b ver e k j=>match idxR? n i with
  | some q=>some (.eptr b ver e k (j+q * esz))
  | none=>none
 | .iptr cs off=>match idxR? n i with
  | some k=>some (.iptr cs (off+k * esz))
  | none=>none
 | _=>none
def elS(esz:Nat)(x:AV)(i:AV):Option AV :=
 match x with
 | .sl rows=>match idx? rows.length i with
  | some k=>match rows[k]? with
   | some row=>if row.length=esz then some (.iptr row 0) else none
   | none=>none
  | none=>none
 | .msl b ver off e len cap=>match idx? len i with
  | some k=>if e=esz then some (.eptr b ver esz (off+k) 0) else none
  | none=>none
 | _=>none
def elA(m:Option Nat)(esz:Nat)(x:AV)(i:AV):Option AV :=
 match m with
 | some n=>elR n esz x i
 | none=>elS esz x i
theorem Step.indexArr{o:Oper}{ρ:Operand->AV}{h:Hp}{t e:TypeId}{x i:Operand}{n esz:Nat}{r:AV}(ho:o.op=.indexAddr t x i)(ht:ixOf P t=some (some n,e))(hs:tsz P e=some esz)
  (he:elR n esz (ρ x) (ρ i)=some r):Step P o ρ h r h:=by
 refine Step.still fun I ι w a hr hx=>?_
 have h1:=hx x (by simp [ho,Op.operands])
 have h2:=hx i (by simp [ho,Op.operands])
 have hu:=zlp ht
 have key:∀(k:Nat) (ad:Addr),idx? n (ρ i)=some k->a.eval x=.pointer (some ad)->(execOp a.eval o).run P w=.ok (.value (.pointer (some (ad.add (k * esz))))) w:=by
  intro k ad hk hp
  unfold idx? at hk
  split at hk
  ·rename_i kk m hie
   split at hk
   ·rename_i hb
    obtain rfl:=Option.some.inj hk
    rw [hie] at h2
    have e2:=h2.int_inv
    have hlt:m<(n:Int):=by have:=hb.1; have:=hb.2; omega
    unfold execOp
    simp [ho,hp,e2,Instr.indexAt,asIntOf,zaq hu,hb.1,hlt,zaZ hs,Instr.sureAddr]
   ·cases hk
  ·cases hk
 unfold elR at he
 simp only [zp7] at he
 split at he
 ·rename_i b ver off hxe
  rw [hxe] at h1
  split at he
  ·rename_i k hk
   obtain rfl:=Option.some.inj he
   obtain ⟨ad,c,cur,sz,e1,hib,hle,hc⟩:=h1.ptr_inv
   refine ⟨_,key k ad hk e1,.ptr c cur sz hib hle fun e=>?_⟩
   rw [hc e,zbA]
  ·cases he
 ·rename_i b ver es k j hxe
  rw [hxe] at h1
  split at he
  ·rename_i q hk
   obtain rfl:=Option.some.inj he
   obtain ⟨ad,c,cur,sz,e1,hib,hle,hc⟩:=h1.eptr_inv
   refine ⟨_,key q ad hk e1,.eptr c cur sz hib hle fun e=>?_⟩
   rw [hc e,zbA,Nat.add_assoc]
  ·cases he
 ·rename_i cs off hxe
  rw [hxe] at h1
  split at he
  ·rename_i k hk
   obtain rfl:=Option.some.inj he
   obtain ⟨c,base,e1,hI,hcell⟩:=h1.iptr_inv
   refine ⟨_,key k _ hk e1,?_⟩
   rw [zbA,Nat.add_assoc]
   refine .iptr c base hI (fun j x hj=>?_) fun j x y hj hy=>?_
   ·obtain ⟨y,hy,_⟩:=hcell j x hj; exact ⟨y,hy⟩
   ·obtain ⟨y',hy',hv⟩:=hcell j x hj
    rw [hy'] at hy; obtain rfl:=Option.some.inj hy; exact hv
  ·cases he
 ·cases he
theorem Step.indexSl{o:Oper}{ρ:Operand->AV}{h:Hp}{t e:TypeId}{x i:Operand}{esz:Nat}{r:AV}(ho:o.op=.indexAddr t x i)(ht:ixOf P t=some (none,e))(hs:tsz P e=some esz)
  (he:elS esz (ρ x) (ρ i)=some r) (hstale:∀b ver off e len cap,ρ x=.msl b ver off e len cap->∃rs ty,h[b]?=some (.rows rs e ver ty)):Step P o ρ h r h:=by
 refine Step.still fun I ι w a hr hx=>?_
 have h1:=hx x (by simp [ho,Op.operands])
 have h2:=hx i (by simp [ho,Op.operands])
 have hu:=zlo ht
 unfold elS at he
 split at he
 ·rename_i rows hxe
  rw [hxe] at h1
  split at he
  ·rename_i k hk
   split at he
   ·rename_i row hrow
    split at he
    ·rename_i hlen
     obtain rfl:=Option.some.inj he
     unfold idx? at hk
     split at hk
     ·rename_i kk n hie
      split at hk
      ·rename_i hb
       obtain rfl:=Option.some.inj hk
       rw [hie] at h2
       have e2:=h2.int_inv
       obtain ⟨_,hrows⟩:=h1.sl_inv
       obtain ⟨c,off,cap,e1,hI,hcap,hcell⟩:=hrows _ row hrow
       refine ⟨.pointer (some ⟨c,off+n.toNat * esz+0,none⟩),?_,.iptr c (off+n.toNat * esz) hI ?_ ?_⟩
       ·unfold execOp
        have hlt:n<(rows.length:Int):=by have:=hb.1; have:=hb.2; omega
        simp [ho,e1,e2,Instr.indexAt,asIntOf,zaq hu,hb.1,hlt,zaZ hs,zbA]
       ·intro j y hj
        obtain ⟨z,hz,_⟩:=hcell j y hj
        exact ⟨z,by rw [← hlen,Nat.add_assoc]; exact hz⟩
       ·intro j y z hj hz
        obtain ⟨z',hz',hv⟩:=hcell j y hj
        rw [← hlen,Nat.add_assoc,hz'] at hz
        obtain rfl:=Option.some.inj hz
        exact hv
      ·cases hk
     ·cases hk
    ·cases he
   ·cases he
  ·cases he
 ·rename_i b ver off e' len cap hxe
  rw [hxe] at h1
  split at he
  ·rename_i k hk
   split at he
   ·rename_i hee
    subst hee
    obtain rfl:=Option.some.inj he
    unfold idx? at hk
    split at hk
    ·rename_i kk n hie
     split at hk
     ·rename_i hb
      obtain rfl:=Option.some.inj hk
      rw [hie] at h2
      have e2:=h2.int_inv
      rcases h1.msl_inv with ⟨ad,m,ccap,c,cur,sz,e1,hib,hver,hcc⟩ | ⟨e1,e3,e4⟩
      ·obtain ⟨cs,ty,hcs⟩:=hstale _ _ _ _ _ _ hxe
       have hreal:=hr.real b _ _ hib hcs
       obtain ⟨had,rfl,hcap,hcap2,hroom⟩:=hcc hreal.1
       obtain rfl:=had.resolve_right (by have:=hb.2; omega)
       refine ⟨.pointer (some ⟨c,(off+n.toNat) * e'+0,none⟩),?_,.eptr c cur sz hib hver fun _=>rfl⟩
       unfold execOp
       have hlt:n<(m:Int):=by have:=hb.1; have:=hb.2; omega
       simp [ho,e1,e2,Instr.indexAt,asIntOf,zaq hu,hb.1,hlt,zaZ hs,zbA,Nat.add_mul]
      ·have:=hb.2; omega
     ·cases hk
    ·cases hk
   ·cases he
  ·cases he
 ·cases he
theorem Step.indexAddr{o:Oper}{ρ:Operand->AV}{h:Hp}{t:TypeId}{q:Option Nat × TypeId}{x i:Operand}{esz:Nat}{r:AV}(ho:o.op=.indexAddr t x i)(ht:ixOf P t=some q)(hs:tsz P q.2=some esz)
  (he:elA q.1 esz (ρ x) (ρ i)=some r) (hstale:∀b ver off e len cap,ρ x=.msl b ver off e len cap->∃rs ty,h[b]?=some (.rows rs e ver ty)):Step P o ρ h r h:=by
 obtain ⟨m,e⟩:=q
 cases m with
 | none=>exact Step.indexSl ho ht hs he hstale
 | some n=>exact Step.indexArr ho ht hs he
def lenA:AV->Option Nat
 | .sl rows=>some rows.length
 | .str s=>some s.size
 | .nils=>some 0
 | .emp=>some 0
 | .msl _ _ _ _ len _=>some len
 | _=>none
theorem Step.len{o:Oper}{ρ:Operand->AV}{h:Hp}{t:TypeId}{x:Operand}{n:Nat}(ho:o.op=.call { callee:=.builtin .len,args:=#[x],argTypes:=#[t] })
  (ht:(zak P t).isSome=true\/P.underlying t=some .string) (hs:∀s,ρ x=.str s->P.underlying t=some .string) (hs2:(∀s,ρ x≠.str s)->(zak P t).isSome=true) (hn:lenA (ρ x)=some n) (hstale:∀b ver off e len cap,ρ x=.msl b ver off e len cap->∃rs ty,h[b]?=some (.rows rs e ver ty)):Step P o ρ h (.int .i64 n) h:=by
 refine Step.still fun I ι w a hr hx=>?_
 have h1:=hx x (by simp [ho,Op.operands,Call.operands])
 refine ⟨_,?_,.int _ _⟩
 unfold execOp
 unfold lenA at hn
 split at hn
 ·rename_i rows hxe
  obtain rfl:=Option.some.inj hn
  rw [hxe] at h1
  obtain ⟨⟨ad,cap,e⟩,_⟩:=h1.sl_inv
  have hel:=hs2 (by rw [hxe]; simp)
  obtain ⟨el,hel⟩:=Option.isSome_iff_exists.1 hel
  simp [ho,resolve,invoke,builtin,Builtin.len_,e,zaq (zaR hel),goInt]
 ·rename_i s hxe
  obtain rfl:=Option.some.inj hn
  have:=hs s hxe
  rw [hxe] at h1
  simp [ho,resolve,invoke,builtin,Builtin.len_,h1.str_inv,zaq this,goInt]
 ·rename_i hxe
  obtain rfl:=Option.some.inj hn
  rw [hxe] at h1
  have hel:=hs2 (by rw [hxe]; simp)
  obtain ⟨el,hel⟩:=Option.isSome_iff_exists.1 hel
  simp [ho,resolve,invoke,builtin,Builtin.len_,h1.nils_inv,zaq (zaR hel),goInt]
 ·rename_i hxe
  obtain rfl:=Option.some.inj hn
  rw [hxe] at h1
  have hel:=hs2 (by rw [hxe]; simp)
  obtain ⟨el,hel⟩:=Option.isSome_iff_exists.1 hel
  obtain ⟨a0,e0⟩:=h1.emp_inv
  simp [ho,resolve,invoke,builtin,Builtin.len_,e0,zaq (zaR hel),goInt]
 ·rename_i b ver off e len cap hxe
  obtain rfl:=Option.some.inj hn
  rw [hxe] at h1
  have hel:=hs2 (by rw [hxe]; simp)
  obtain ⟨el,hel⟩:=Option.isSome_iff_exists.1 hel
  rcases h1.msl_inv with ⟨ad,m,ccap,c,cur,sz,e1,hib,hver,hcc⟩ | ⟨e1,e3,e4⟩
  ·obtain ⟨cs,ty,hcs⟩:=hstale _ _ _ _ _ _ hxe
   have hreal:=hr.real b _ _ hib hcs
   obtain ⟨had,rfl,hcap,hcap2,hroom⟩:=hcc hreal.1
   simp [ho,resolve,invoke,builtin,Builtin.len_,e1,zaq (zaR hel),goInt]
  ·subst e3
   simp [ho,resolve,invoke,builtin,Builtin.len_,e1,zaq (zaR hel),goInt]
 ·cases hn
end Go.Vs
end
section
namespace Go.Vs
variable [Tab]
variable {P:Program}
def zem(P:Program):Nat->TypeId->Option (List Nat)
 | 0,_=>none
 | d+1,t=>match P.underlying t with
  | some .bool=>some [0]
  | some (.int _)=>some [1]
  | some .string=>some [2]
  | some (.struct fs)=>if P.stoodInHeld t then none else leavesF (fun t=>(zem P d t).bind fun l=>if tsz P t=some l.length/\(zaF P t).isSome=true then some l else none) 0 fs.toList
  | some (.array n e)=>(zem P d e).bind fun l=>match l with
   | [k]=>if zaF P e=some false/\tsz P e=some 1/\P.cellsOf e=1 then some (List.replicate n k) else none
   | _=>none
  | _=>none
where
 leavesF (g:TypeId->Option (List Nat)):Nat->List Field->Option (List Nat)
  | _,[]=>some []
  | pos,f::fs=>if f.name≠ "_"/\f.offset=pos then (g f.type).bind fun l=>(leavesF g (pos+l.length) fs).map fun r=>l++r else none
def veq:Nat->Value->Value->Option Bool
 | 0,.bool a,.bool b=>some (a==b)
 | 1,.int k a,.int k' b=>if k=k' then some (a==b) else none
 | 2,.string a,.string b=>some (a==b)
 | _,_,_=>none
def eqL:List Nat->List Value->List Value->Option Bool
 | [],[],[]=>some true
 | k::ks,x::xs,y::ys=>(veq k x y).bind fun a=>(eqL ks xs ys).map fun b=>a&&b
 | _,_,_=>none
theorem zgi:∀(k1 k2:List Nat) (x1 x2 y1 y2:List Value),x1.length=k1.length->y1.length=k1.length->∀b,eqL (k1++k2) (x1++x2) (y1++y2)=some b ->
  ∃a c,eqL k1 x1 y1=some a/\eqL k2 x2 y2=some c/\b=(a&&c)
 | [],k2,x1,x2,y1,y2,hx,hy,b,h=>by
  simp at hx hy; subst hx; subst hy
  exact ⟨true,b,rfl,h,by simp⟩
 | k::k1,k2,x::x1,x2,y::y1,y2,hx,hy,b,h=>by
  simp only [List.cons_append,eqL,Option.bind_eq_some_iff,Option.map_eq_some_iff] at h ⊢
  obtain ⟨a,ha,c,hc,rfl⟩:=h
  obtain ⟨a2,c2,h1,h2,rfl⟩:=zgi k1 k2 x1 x2 y1 y2 (by simpa using hx) (by simpa using hy) c hc
  exact ⟨a&&a2,c2,⟨a,ha,a2,h1,rfl⟩,h2,by simp [Bool.and_assoc]⟩
 | _::_,_,[],_,_,_,hx,_,_,_=>by simp at hx
 | _::_,_,_::_,_,[],_,_,hy,_,_=>by simp at hy
def pack(P:Program)(t:TypeId)(xs:List Value):Value:=if zaF P t=some true then .agg xs.toArray else xs.headD undef
theorem zgM{t:TypeId}{n:Nat}{ag:Bool}(ha:zaF P t=some ag)(hs:tsz P t=some n)(xs:List Value)(off:Nat)(w:World)(hl:off+n<=xs.length)(h1:ag=false->n=1) :
  (part t xs.toArray off).run P w=.ok (pack P t ((xs.drop off).take n)) w:=by
 unfold part pack
 rw [Sem.run_bind,zdk ha]
 cases ag with
 | true =>
  simp only [Result.andThen_ok,if_true,ha]
  rw [Sem.run_bind,zaZ hs]
  simp [List.extract_eq_take_drop]
 | false =>
  have:=h1 rfl
  subst this
  have hlt:off<xs.length:=by omega
  have e:List.take 1 (List.drop off xs)=[xs[off]]:=by rw [List.drop_eq_getElem_cons hlt]; rfl
  rw [e]
  simp [ha,hlt]
theorem zpK{d:Nat}:∀(t:TypeId) (ks:List Nat),zem P d t=some ks->∀(D:Nat),d<=D->∀(xs ys:List Value),xs.length=ks.length->ys.length=ks.length ->
  ∀b,eqL ks xs ys=some b->∀w,(Op.equalIn D t (pack P t xs) (pack P t ys)).run P w=.ok b w:=by
 induction d with
 | zero=>intro t ks h; simp [zem] at h
 | succ d ih =>
  intro t ks h D hD xs ys hx hy b hb w
  obtain ⟨D,rfl⟩:∃D',D=D'+1:=⟨D-1,by omega⟩
  unfold zem at h
  have scalar:∀(k:Nat) (dd:TypeDesc),P.underlying t=some dd->(match dd with | .struct _ | .array _ _=>true | _=>false)=false->some [k]=some ks ->
    (∀x y a,veq k x y=some a->(Op.equalIn (D+1) t x y).run P w=.ok a w)->(Op.equalIn (D+1) t (pack P t xs) (pack P t ys)).run P w=.ok b w:=by
   intro k dd hu hna hk hv
   obtain rfl:=Option.some.inj hk
   have ha:zaF P t=some false:=by unfold zaF; rw [hu]; cases dd <;> first | rfl | cases hna
   match xs,ys,hx,hy with
   | [x],[y],_,_ =>
    simp only [eqL,Option.bind_eq_some_iff,Option.map_some,Option.some.injEq,Bool.and_true] at hb
    obtain ⟨a,h1,rfl⟩:=hb
    simp only [pack,ha,Option.some.injEq,Bool.false_eq_true,if_false,List.headD_cons]
    exact hv x y a h1
  split at h
  ·rename_i hu
   refine scalar 0 _ hu rfl h fun x y a hv=>?_
   unfold veq at hv; split at hv
   ·obtain rfl:=Option.some.inj hv; exact run_equalIn_bool' w D t _ _ hu
   ·simp_all
   ·simp_all
   ·cases hv
  ·rename_i k hu
   refine scalar 1 _ hu rfl h fun x y a hv=>?_
   unfold veq at hv; split at hv
   ·simp_all
   ·split at hv
    ·rename_i e; subst e; obtain rfl:=Option.some.inj hv; exact run_equalIn_int w D t _ _ _ _ hu
    ·cases hv
   ·simp_all
   ·cases hv
  ·rename_i hu
   refine scalar 2 _ hu rfl h fun x y a hv=>?_
   unfold veq at hv; split at hv
   ·simp_all
   ·simp_all
   ·obtain rfl:=Option.some.inj hv; rw [run_equalIn_string w D t _ _ hu,beq_toListBytes]
   ·cases hv
  ·rename_i fs hu
   split at h
   ·cases h
   ·rename_i hst
    have ha:zaF P t=some true:=by unfold zaF; rw [hu]; rfl
    have hfo:P.fieldsOf t=fs:=by unfold Program.fieldsOf; rw [hu]
    simp only [pack,ha,if_true]
    rw [run_equalIn_struct w D t _ _ (by rw [hfo]; exact hu) (by simpa using hst),hfo]
    have key:∀(l:List Field) (pos:Nat) (kk:List Nat),zem.leavesF (fun t=>(zem P d t).bind fun l=>if tsz P t=some l.length/\(zaF P t).isSome=true then some l else none) pos l=some kk ->
      ∀b,eqL kk (xs.drop pos) (ys.drop pos)=some b->pos+kk.length=xs.length->pos+kk.length=ys.length->∀w,(Op.eqFields D xs.toArray ys.toArray l).run P w=.ok b w:=by
     intro l
     induction l with
     | nil =>
      intro pos kk h b hb h1 h2 w
      simp only [zem.leavesF,Option.some.injEq] at h; subst h
      simp only [List.length_nil,Nat.add_zero] at h1 h2
      rw [h1,List.drop_length,← h1,h2,List.drop_length] at hb
      simp only [eqL,Option.some.injEq] at hb
      subst hb
      simp [Op.eqFields]
     | cons f fs ihf =>
      intro pos kk h b hb h1 h2 w
      simp only [zem.leavesF] at h
      split at h
      ·rename_i hcond
       obtain ⟨hname,hoff⟩:=hcond
       simp only [Option.bind_eq_some_iff,Option.map_eq_some_iff] at h
       obtain ⟨l1,⟨l0,hl0,hcnd⟩,r,hr,rfl⟩:=h
       split at hcnd
       ·rename_i hc2
        obtain rfl:=Option.some.inj hcnd
        obtain ⟨hsz,hag⟩:=hc2
        obtain ⟨ag,hag⟩:=Option.isSome_iff_exists.1 hag
        simp only [List.length_append] at h1 h2
        have hag1:ag=false->l0.length=1:=by
         intro e; subst e
         unfold zaF at hag
         cases d with
         | zero=>simp [zem] at hl0
         | succ d =>
          unfold zem at hl0
          cases hu2:P.underlying f.type with
          | none=>simp [hu2] at hag
          | some dd =>
           rw [hu2] at hl0 hag
           cases dd <;> simp_all <;> (subst hl0; rfl)
        have e1:xs.drop pos=(xs.drop pos).take l0.length++xs.drop (pos+l0.length):=by rw [← List.drop_drop,List.take_append_drop]
        have e2:ys.drop pos=(ys.drop pos).take l0.length++ys.drop (pos+l0.length):=by rw [← List.drop_drop,List.take_append_drop]
        rw [e1,e2] at hb
        obtain ⟨a,c,ha1,hc1,rfl⟩:=zgi l0 r _ _ _ _ (by simp; omega) (by simp; omega) b hb
        have hrec:=ih f.type l0 hl0 D (by omega) _ _ (by simp; omega) (by simp; omega) a ha1 w
        simp only [Op.eqFields]
        rw [if_pos hname]
        simp only [Sem.run_bind]
        rw [hoff,zgM hag hsz xs pos w (by omega) hag1]
        simp only [Result.andThen_ok]
        rw [zgM hag hsz ys pos w (by omega) hag1]
        simp only [Result.andThen_ok]
        rw [hrec]
        simp only [Result.andThen_ok]
        cases a with
        | false=>simp
        | true =>
         simp only [Bool.not_true,Bool.false_eq_true,if_false,Bool.true_and]
         exact ihf (pos+l0.length) r hr c hc1 (by omega) (by omega) w
       ·cases hcnd
      ·cases h
    exact key fs.toList 0 ks h b (by simpa using hb) (by simpa using hx.symm) (by simpa using hy.symm) w
  ·rename_i n e hu
   obtain ⟨l,hl,h⟩:=Option.bind_eq_some_iff.1 h
   split at h
   ·rename_i k
    split at h
    ·rename_i hc
     obtain rfl:=Option.some.inj h
     obtain ⟨hag,hts,hco⟩:=hc
     have ha:zaF P t=some true:=by unfold zaF; rw [hu]; rfl
     simp only [pack,ha,if_true]
     obtain ⟨i,hi⟩:∃i,P.info? e=some i:=by
      unfold zaF at hag
      cases he:P.underlying e with
      | none=>simp [he] at hag
      | some dd=>exact info_of_underlying he
     rw [run_equalIn_array w D xs.toArray ys.toArray hu hi,hco]
     have key:∀(m pos:Nat) (b:Bool),eqL (List.replicate m k) (xs.drop pos) (ys.drop pos)=some b->pos+m=xs.length->pos+m=ys.length->∀w,
       (Op.eqItems D e 1 xs.toArray ys.toArray (List.range' pos m)).run P w=.ok b w:=by
      intro m
      induction m with
      | zero =>
       intro pos b hb h1 h2 w
       simp only [Nat.add_zero] at h1 h2
       rw [h1,List.drop_length,← h1,h2,List.drop_length] at hb
       simp only [List.replicate_zero,eqL,Option.some.injEq] at hb
       subst hb
       simp [Op.eqItems]
      | succ m ihm =>
       intro pos b hb h1 h2 w
       have e1:xs.drop pos=(xs.drop pos).take 1++xs.drop (pos+1):=by rw [← List.drop_drop,List.take_append_drop]
       have e2:ys.drop pos=(ys.drop pos).take 1++ys.drop (pos+1):=by rw [← List.drop_drop,List.take_append_drop]
       rw [e1,e2,show List.replicate (m+1) k=[k]++List.replicate m k from rfl] at hb
       obtain ⟨a,c,ha1,hc1,rfl⟩:=zgi [k] (List.replicate m k) _ _ _ _ (by simp; omega) (by simp; omega) b hb
       have hrec:=ih e [k] hl D (by omega) _ _ (by simp; omega) (by simp; omega) a ha1 w
       rw [List.range'_succ]
       simp only [Op.eqItems,Nat.mul_one]
       simp only [Sem.run_bind]
       rw [zgM hag hts xs pos w (by omega) (fun _=>rfl)]
       simp only [Result.andThen_ok]
       rw [zgM hag hts ys pos w (by omega) (fun _=>rfl)]
       simp only [Result.andThen_ok]
       rw [hrec]
       simp only [Result.andThen_ok]
       cases a with
       | false=>simp
       | true =>
        simp only [Bool.not_true,Bool.false_eq_true,if_false,Bool.true_and]
        exact ihm (pos+1) c hc1 (by omega) (by omega) w
     rw [List.range_eq_range']
     exact key n 0 b (by simpa using hb) (by simpa using hx.symm) (by simpa using hy.symm) w
    ·cases h
   ·cases h
  ·cases h
def scV:AV->Option Value
 | .bool b=>some (.bool b)
 | .int k n=>some (.int k n)
 | .str s=>some (.string s)
 | _=>none
theorem zn4{I w ι x v u}(h:VR I w ι x v)(hx:scV x=some u):v=u:=by
 unfold scV at hx
 split at hx
 ·rw [h.bool_inv]; simpa using hx
 ·rw [h.int_inv]; simpa using hx
 ·rw [h.str_inv]; simpa using hx
 ·cases hx
def eqA:List AV->List AV->Option Bool
 | [],[]=>some true
 | x::xs,y::ys=>(match x,y with
  | .bool a,.bool b=>some (a==b)
  | .int k a,.int k' b=>if k=k' then some (a==b) else none
  | .str a,.str b=>some (a==b)
  | _,_=>none).bind fun a=>(eqA xs ys).map fun b=>a&&b
 | _,_=>none
def zjR:AV->Nat
 | .bool _=>0
 | .int _ _=>1
 | _=>2
theorem zkF:∀(xs ys:List AV) (b:Bool),eqA xs ys=some b->∃vs us:List Value,xs.mapM scV=some vs/\ys.mapM scV=some us/\eqL (xs.map zjR) vs us=some b
 | [],[],b,h=>by simp [eqA] at h; subst h; exact ⟨[],[],rfl,rfl,rfl⟩
 | x::xs,y::ys,b,h=>by
  simp only [eqA,Option.bind_eq_some_iff,Option.map_eq_some_iff] at h
  obtain ⟨a,ha,c,hc,rfl⟩:=h
  obtain ⟨vs,us,h1,h2,h3⟩:=zkF xs ys c hc
  split at ha
  ·rename_i p q
   refine ⟨.bool p::vs,.bool q::us,by simp [List.mapM_cons,scV,h1],by simp [List.mapM_cons,scV,h2],?_⟩
   simp only [Option.some.injEq] at ha; subst ha
   simp [eqL,zjR,veq,h3]
  ·rename_i k p k' q
   split at ha
   ·rename_i e; subst e
    refine ⟨.int k p::vs,.int k q::us,by simp [List.mapM_cons,scV,h1],by simp [List.mapM_cons,scV,h2],?_⟩
    simp only [Option.some.injEq] at ha; subst ha
    simp [eqL,zjR,veq,h3]
   ·cases ha
  ·rename_i p q
   refine ⟨.string p::vs,.string q::us,by simp [List.mapM_cons,scV,h1],by simp [List.mapM_cons,scV,h2],?_⟩
   simp only [Option.some.injEq] at ha; subst ha
   simp [eqL,zjR,veq,h3]
  ·cases ha
 | [],_::_,_,h=>by simp [eqA] at h
 | _::_,[],_,h=>by simp [eqA] at h
theorem VR.scs{I w ι}{cs:List AV}{vs:List Value}{arr:Array Value}(hm:cs.mapM scV=some vs)(hl:arr.size=cs.length)(h:∀(j:Nat) x y,cs[j]?=some x->arr[j]?=some y->VR I w ι x y):arr=vs.toArray:=by
 obtain ⟨h1,h2⟩:=zgR _ _ hm
 apply Array.ext
 ·simp [hl,h1]
 ·intro j hj1 hj2
  have hj:j<vs.length:=by simpa using hj2
  obtain ⟨x,hx,hs⟩:=h2 j vs[j] (List.getElem?_eq_getElem hj)
  have:=zn4 (h j x arr[j] hx (by simp [hj1])) hs
  simpa using this
theorem Step.eqAgg{o:Oper}{ρ:Operand->AV}{h:Hp}{t t':TypeId}{x y:Operand}{xs ys:List AV}{ks:List Nat}{b:Bool}{neg:Bool}
  (ho:o.op=.binOp (if neg then .neq else .eql) t x y t') (hx:ρ x=.agg xs) (hy:ρ y=.agg ys) (hk:zem P 8 t=some ks) (hag:zaF P t=some true) (hg:P.eqGuardType P.depth t=false)
  (hks:xs.map zjR=ks) (hb:eqA xs ys=some b):Step P o ρ h (.bool (if neg then !b else b)) h:=by
 refine Step.still fun I ι w a hr hv=>?_
 have h1:=hv x (by simp [ho,Op.operands])
 have h2:=hv y (by simp [ho,Op.operands])
 rw [hx] at h1; rw [hy] at h2
 obtain ⟨ax,e1,l1,r1⟩:=h1.agg_inv
 obtain ⟨ay,e2,l2,r2⟩:=h2.agg_inv
 obtain ⟨vs,us,m1,m2,m3⟩:=zkF xs ys b hb
 have q1:=VR.scs m1 l1 r1
 have q2:=VR.scs m2 l2 r2
 subst q1; subst q2
 rw [hks] at m3
 have hlx:vs.length=ks.length:=by rw [← hks]; simp at l1 ⊢; exact l1
 have hly:us.length=ks.length:=by
  have:∀(ks:List Nat) (vs us:List Value) b,eqL ks vs us=some b->us.length=ks.length:=by
   intro ks
   induction ks with
   | nil=>intro vs us b h; cases vs <;> cases us <;> simp [eqL] at h ⊢
   | cons k ks ih =>
    intro vs us b h
    cases vs with
    | nil=>simp [eqL] at h
    | cons v vs=>cases us with
     | nil=>simp [eqL] at h
     | cons u us =>
      simp only [eqL,Option.bind_eq_some_iff,Option.map_eq_some_iff] at h
      obtain ⟨_,_,c,hc,_⟩:=h
      simp [ih vs us c hc]
  exact this ks vs us b m3
 have hrun:=zpK t ks hk 10000 (by omega) vs us hlx hly b m3 w
 simp only [pack,hag,if_true] at hrun
 refine ⟨_,?_,.bool _⟩
 unfold execOp
 cases neg with
 | false =>
  have ho':o.op=.binOp .eql t x y t':=by simpa using ho
  simp only [ho',e1,e2]
  have e:binOp .eql t (.agg vs.toArray) (.agg us.toArray)=(do pure (.bool (← Op.equal t (.agg vs.toArray) (.agg us.toArray)))):=rfl
  simp only [Sem.run_bind,run_eqGuard_agg w .eql t x y _ _ hg,Result.andThen_ok,e]
  have:(Op.equal t (.agg vs.toArray) (.agg us.toArray)).run P w=.ok b w:=hrun
  simp [this]
 | true =>
  have ho':o.op=.binOp .neq t x y t':=by simpa using ho
  simp only [ho',e1,e2]
  have e:binOp .neq t (.agg vs.toArray) (.agg us.toArray)=(do pure (.bool (!(← Op.equal t (.agg vs.toArray) (.agg us.toArray))))):=rfl
  simp only [Sem.run_bind,run_eqGuard_agg w .neq t x y _ _ hg,Result.andThen_ok,e]
  have:(Op.equal t (.agg vs.toArray) (.agg us.toArray)).run P w=.ok b w:=hrun
  simp [this]
def eqOk(P:Program)(t:TypeId):Option (List Nat):=if zaF P t=some true/\P.eqGuardType P.depth t=false then zem P 8 t else none
def zkD(P:Program)(t:TypeId)(xs ys:List AV):Option Bool:=(eqOk P t).bind fun ks=>if xs.map zjR=ks then eqA xs ys else none
theorem Step.eqAg{o:Oper}{ρ:Operand->AV}{h:Hp}{t t':TypeId}{x y:Operand}{xs ys:List AV}{b:Bool}{neg:Bool}
  (ho:o.op=.binOp (if neg then .neq else .eql) t x y t') (hx:ρ x=.agg xs) (hy:ρ y=.agg ys) (he:zkD P t xs ys=some b):Step P o ρ h (.bool (if neg then !b else b)) h:=by
 obtain ⟨ks,hk,he⟩:=Option.bind_eq_some_iff.1 he
 split at he
 ·rename_i hks
  unfold eqOk at hk
  split at hk
  ·rename_i hc
   exact Step.eqAgg ho hx hy hk hc.1 hc.2 hks he
  ·cases hk
 ·cases he
end Go.Vs
end
section
namespace Go.Vs
variable [Tab]
variable {P:Program}
theorem zrr(xs cs:List AV)(off:Nat)(h:off+xs.length<=cs.length):spl cs off xs=cs.take off++xs++cs.drop (off+xs.length):=by
 apply List.ext_getElem?
 intro j
 rw [ziC _ _ _ _ h,List.append_assoc,List.getElem?_append,List.length_take,Nat.min_eq_left (by omega)]
 by_cases h1:j<off
 ·rw [if_neg (by omega),if_pos h1,List.getElem?_take_of_lt h1]
 ·rw [if_neg h1,List.getElem?_append]
  by_cases h2:j<off+xs.length
  ·rw [if_pos ⟨by omega,h2⟩,if_pos (by omega)]
  ·rw [if_neg (by omega),if_neg (by omega),List.getElem?_drop]
   congr 1; omega
theorem zgh(k:Nat):∀(vals:List AV) (s:Nat) (cs:List AV),(∀x∈vals,(cellsOf x).length=k/\(cellsOf x).all oneB=true)->(s+vals.length) * k<=cs.length ->
  zhu (fun i=>some (i * k,k)) cs ((vals.zipIdx s).map fun q=>(q.2,q.1))=some (cs.take (s * k)++(vals.map cellsOf).flatten++cs.drop ((s+vals.length) * k))
 | [],s,cs,_,_=>by simp [zhu]
 | x::vals,s,cs,hx,hl=>by
  obtain ⟨h1,h2⟩:=hx x (List.mem_cons_self ..)
  have hl':(s+1+vals.length) * k<=cs.length:=by simpa [Nat.add_assoc,Nat.add_comm 1] using hl
  have hsk:s * k+k<=cs.length:=by
   have:(s+1) * k<=(s+1+vals.length) * k:=Nat.mul_le_mul_right _ (by omega)
   rw [Nat.add_mul,Nat.one_mul] at this; omega
  simp only [List.zipIdx_cons,List.map_cons,zhu]
  rw [if_pos ⟨h1,hsk,h2⟩,zgh k vals (s+1) _ (fun x hx'=>hx x (List.mem_cons_of_mem _ hx')) (by rw [ze5]; exact hl')]
  rw [zrr _ _ _ (by rw [h1]; exact hsk),h1]
  have e1:(s+1) * k=s * k+k:=by rw [Nat.add_mul,Nat.one_mul]
  have e2:(s+(vals.length+1)) * k=(s+1+vals.length) * k:=by congr 1; omega
  simp only [List.flatten_cons,List.length_cons]
  rw [e2,e1]
  congr 1
  have hA:(List.take (s * k) cs).length=s * k:=by simp; omega
  have t1:List.take (s * k+k) (List.take (s * k) cs++cellsOf x++List.drop (s * k+k) cs)=List.take (s * k) cs++cellsOf x:=by
   rw [List.take_append_of_le_length (by simp [hA,h1]),List.take_of_length_le (by simp [hA,h1])]
  have hge:s * k+k<=(s+1+vals.length) * k:=by rw [← e1]; exact Nat.mul_le_mul_right _ (by omega)
  have t2:List.drop ((s+1+vals.length) * k) (List.take (s * k) cs++cellsOf x++List.drop (s * k+k) cs)=List.drop ((s+1+vals.length) * k) cs:=by
   rw [List.drop_append,List.drop_eq_nil_of_le (by simp [hA,h1]; omega),List.nil_append,List.drop_drop]
   congr 1
   simp [hA,h1]; omega
  rw [t1,t2]
  simp [List.append_assoc]
theorem ziR{k:Nat}:∀(rows:List (List AV)),(∀r∈rows,r.length=k)->∀(i j:Nat) r,rows[i]?=some r->j<k->rows.flatten[i * k+j]?=r[j]?
 | [],_,i,j,r,h,_=>by simp at h
 | r0::rows,hl,i,j,r,h,hj=>by
  have h0:=hl r0 (List.mem_cons_self ..)
  rw [List.flatten_cons,List.getElem?_append]
  cases i with
  | zero =>
   simp at h; subst h
   rw [Nat.zero_mul,Nat.zero_add,if_pos (by omega)]
  | succ i =>
   rw [if_neg (by rw [h0,Nat.add_mul,Nat.one_mul]; omega),h0]
   have:(i+1) * k+j-k=i * k+j:=by rw [Nat.add_mul,Nat.one_mul]; omega
   rw [this]
   exact ziR rows (fun r hr=>hl r (List.mem_cons_of_mem _ hr)) i j r (by simpa using h) hj
def zi6(k:Nat)(x:AV):Bool:=(cellsOf x).length==k&&(cellsOf x).all oneB&&zbe (cellsOf x)
theorem Step.buildSlice{o:Oper}{ρ:Operand->AV}{h:Hp}{t e:TypeId}{n k:Nat}{parts:Array (Nat × Operand)}{z:List AV}(ho:o.op=.buildSlice t n parts)(he:zak P t=some e)(hk:tsz P e=some k)
  (hz:zaH P e=some z) (hn:parts.toList.map (·.1)=List.range n) (hn0:n≠0) (hk0:k≠0) (hb:n * k<=16777216) (hr:(parts.toList.map fun q=>ρ q.2).all (zi6 k)=true) :
  Step P o ρ h (.sl (parts.toList.map fun q=>cellsOf (ρ q.2))) h:=by
 intro I ι w a hrel _ hx next Q K
 have hu:=zaR he
 obtain ⟨zv,hzr,_⟩:=ze6 hz
 have hlen:parts.toList.length=n:=by have:=congrArg List.length hn; simpa using this
 have hrow:∀x∈parts.toList.map (fun q=>ρ q.2),(cellsOf x).length=k/\(cellsOf x).all oneB=true/\zbe (cellsOf x)=true:=fun x hx=>by
  have:=(List.all_eq_true.1 hr) x hx
  simp only [zi6,Bool.and_eq_true,beq_iff_eq] at this
  exact ⟨this.1.1,this.1.2,this.2⟩
 have hparts:(parts.toList.map fun q=>(q.1,ρ q.2))=((parts.toList.map fun q=>ρ q.2).zipIdx 0).map fun q=>(q.2,q.1):=by
  apply List.ext_getElem?
  intro j
  simp only [List.getElem?_map,List.getElem?_zipIdx,Nat.zero_add]
  cases hj:parts.toList[j]? with
  | none=>simp
  | some q =>
   have h1:=congrArg (·[j]?) hn
   simp only [List.getElem?_map,hj,Option.map_some] at h1
   have hlt:j<n:=by rw [← hlen]; exact (List.getElem?_eq_some_iff.1 hj).1
   rw [List.getElem?_range hlt] at h1
   simp only [Option.some.injEq] at h1
   simp [h1]
 have hfa:=zgh k (parts.toList.map fun q=>ρ q.2) 0 (List.replicate (n * k) .undef) (fun x hx=>⟨(hrow x hx).1,(hrow x hx).2.1⟩) (by simp [hlen])
 rw [← hparts] at hfa
 simp only [List.length_map,hlen,Nat.zero_add,Nat.zero_mul,List.take_zero,List.nil_append] at hfa
 rw [List.drop_eq_nil_of_le (by simp),List.append_nil] at hfa
 have hxs:∀q∈parts,VR I w ι (ρ q.2) (a.eval q.2):=fun q hq=>hx q.2 (by simp only [ho,Op.operands]; simp; exact ⟨q.1,hq⟩)
 obtain ⟨arr',ha,hcr⟩:=zf2 (I:=I) (w:=w) (ι:=ι) (place:=fun i=>some (i * k,k)) (parts.toList.map fun q=>(q.1,ρ q.2)) (parts.toList.map fun q=>(q.1,a.eval q.2)) _ ((Array.range (n * k)).map (zv.cells[· % zv.cells.size]!)) (by simp)
  (fun j p q hp hq=>by
   simp only [List.getElem?_map,Array.getElem?_toList,Option.map_eq_some_iff] at hp hq
   obtain ⟨p0,hp0,rfl⟩:=hp
   obtain ⟨q0,hq0,rfl⟩:=hq
   rw [hp0] at hq0
   obtain rfl:=Option.some.inj hq0
   exact ⟨rfl,hxs p0 (Array.mem_of_getElem? hp0)⟩) (cs:=List.replicate (n * k) .undef) ⟨by simp,fun j x y hx hy=>by
    have:=List.eq_of_mem_replicate (List.mem_of_getElem? hx); subst this; exact .undef⟩ hfa
 have hrun:(execOp a.eval o).run P w=.ok (.value (.slice (some ⟨w.heap.size,0,none⟩) n n)) (w.alloc (.cells arr' e)):=by
  unfold execOp
  have hparts2:(parts.map fun q=>(q.1,a.eval q.2)).toList=parts.toList.map fun q=>(q.1,a.eval q.2):=by simp
  simp only [ho,Instr.buildSlice]
  rw [Sem.run_bind,Sem.run_bind,zaq hu]
  simp only [Result.andThen_ok]
  rw [Sem.run_bind,zaZ hk]
  simp only [Result.andThen_ok]
  rw [if_neg (by omega)]
  have hnk:¬n * k=0:=Nat.mul_ne_zero hn0 hk0
  simp only [if_neg hnk]
  simp only [Sem.run_bind,hzr,Result.andThen_ok,Sem.run_pure]
  rw [hparts2,ha]
  simp [newRow]
 unfold Oper.wp
 rw [hrun]
 have ext:=Ext.allocI hrel (.cells arr' e)
 refine K _ _ _ ι ext ?_
 have mono:∀{x v},VR I w ι x v->VR (fun c=>I c\/c=w.heap.size) (w.alloc (.cells arr' e)) ι x v:=fun hv=>hv.ext hrel ext
 refine .sl k w.heap.size 0 n (.inr rfl) (by simp [hlen]) (Nat.le_refl _) ?_ ?_ ?_
 ·intro i r hi
  simp only [List.getElem?_map,Option.map_eq_some_iff] at hi
  obtain ⟨q,hq,rfl⟩:=hi
  exact (hrow _ (List.mem_map.2 ⟨q,List.mem_of_getElem? hq,rfl⟩)).1
 all_goals
  intro i r j x
  have key:(parts.toList.map fun q=>cellsOf (ρ q.2))[i]?=some r->r[j]?=some x->∃y,arr'[i * k+j]?=some y/\VR I w ι x y/\zcX x=true:=by
   intro hi hj
   simp only [List.getElem?_map,Option.map_eq_some_iff] at hi
   obtain ⟨q,hq,rfl⟩:=hi
   have hm:=hrow _ (List.mem_map.2 ⟨q,List.mem_of_getElem? hq,rfl⟩)
   have hjk:j<k:=by rw [← hm.1]; exact (List.getElem?_eq_some_iff.1 hj).1
   have hfl:=ziR ((parts.toList.map fun q=>ρ q.2).map cellsOf) (fun r hr=>by
    obtain ⟨y,hy,rfl⟩:=List.mem_map.1 hr
    exact (hrow y hy).1) i j (cellsOf (ρ q.2)) (by simp [hq]) hjk
   rw [hj] at hfl
   have hlt:=(List.getElem?_eq_some_iff.1 hfl).1
   rw [← hcr.1] at hlt
   exact ⟨arr'[i * k+j],by simp [hlt],hcr.2 _ x _ hfl (by simp [hlt]),zb6 hm.2.2 j x hj⟩
  first
  | (intro hi hj
     obtain ⟨y,hy,_⟩:=key hi hj
     exact ⟨y,by simp only [World.cell?,zbN,Nat.zero_add]; simpa using hy⟩)
  | (intro y hi hj hy
     obtain ⟨y',hy',hv,hp⟩:=key hi hj
     simp only [World.cell?,zbN,Nat.zero_add] at hy
     have:y'=y:=by
       have h2:arr'[i * k+j]?=some y:=by simpa using hy
       rw [hy'] at h2; exact Option.some.inj h2
     subst this
     exact (mono hv).to_pure hp)
end Go.Vs
end
section
namespace Go.Vs
variable [Tab]
variable {P:Program}
theorem zn6(w:World):(program).run P w=.ok P w:=by first | rfl | simp
def zV(P:Program)(t:TypeId):Option AV:=((P.info? t).bind (·.zero)).map ofC
theorem zo4{t:TypeId}{r:AV}(h:zV P t=some r):∃v:Value,(∀w,(zeroValue t).run P w=.ok v w)/\∀I w ι,VR I w ι r v:=by
 unfold zV at h
 cases hi:P.info? t with
 | none=>simp [hi] at h
 | some i =>
  cases hz:i.zero with
  | none=>simp [hi,hz] at h
  | some v =>
   simp [hi,hz] at h
   subst h
   exact ⟨v,fun w=>by simp [zeroValue,typeInfo,hi,hz],fun I w ι=>VR.ofC I w ι v⟩
def tasA(P:Program)(asserted:TypeId)(ok:Bool)(x:AV):Option AV :=
 match x with
 | .iface t v=>if t=asserted then some (bif ok then .tuple [v,.bool true] else v) else bif ok then (zV P asserted).map fun z=>.tuple [z,.bool false] else none
 | .nili=>bif ok then (zV P asserted).map fun z=>.tuple [z,.bool false] else none
 | _=>none
theorem VR.pair{I w ι x v b}(h:VR I w ι x v):VR I w ι (.tuple [x,.bool b]) (.tuple #[v,.bool b]):=by
 refine .tuple rfl fun j a c ha hc=>?_
 match j,ha,hc with
 | 0,ha,hc=>simp at ha hc; subst ha; subst hc; exact h
 | 1,ha,hc=>simp at ha hc; subst ha; subst hc; exact .bool _
 | _+2,ha,hc=>simp at ha
theorem Step.typeAssert{o:Oper}{ρ:Operand->AV}{h:Hp}{x:Operand}{xt t:TypeId}{ok:Bool}{r:AV}(ho:o.op=.typeAssert x xt t ok)(ht:zay P t=some false)(hr:tasA P t ok (ρ x)=some r):Step P o ρ h r h:=by
 refine Step.still fun I ι w a hrel hx=>?_
 have hv:=hx x (by simp [ho,Op.operands])
 unfold zay at ht
 cases hu:P.underlying t with
 | none=>simp [hu] at ht
 | some d =>
  have hd:∀ms,d≠.interface ms:=by rintro ms rfl; simp [hu] at ht
  unfold execOp
  simp only [ho]
  unfold tasA at hr
  split at hr
  ·rename_i t' y hxe
   rw [hxe] at hv
   obtain ⟨v,hve,hvr⟩:=hv.iface_inv
   split at hr
   ·rename_i e
    subst e
    cases ok
    ·simp at hr; subst hr
     refine ⟨v,?_,hvr⟩
     simp only [Instr.typeAssert,hve]
     rw [Sem.run_bind,Sem.run_bind,zaq hu]
     cases d <;> simp_all
    ·simp at hr; subst hr
     refine ⟨_,?_,hvr.pair⟩
     simp only [Instr.typeAssert,hve]
     rw [Sem.run_bind,Sem.run_bind,zaq hu]
     cases d <;> simp_all
   ·rename_i e
    cases ok
    ·simp at hr
    ·simp at hr
     obtain ⟨z,hz,rfl⟩:=hr
     obtain ⟨zv,hz1,hz2⟩:=zo4 hz
     refine ⟨_,?_,(hz2 I w ι).pair⟩
     simp only [Instr.typeAssert,hve]
     rw [Sem.run_bind,Sem.run_bind,zaq hu]
     cases d <;> simp_all
  ·rename_i hxe
   rw [hxe] at hv
   have hve:=hv.nili_inv
   cases ok
   ·simp at hr
   ·simp at hr
    obtain ⟨z,hz,rfl⟩:=hr
    obtain ⟨zv,hz1,hz2⟩:=zo4 hz
    refine ⟨_,?_,(hz2 I w ι).pair⟩
    simp only [Instr.typeAssert,hve]
    rw [Sem.run_bind,Sem.run_bind,zaq hu]
    cases d <;> simp_all
  ·cases hr
def zeF(a b:ByteArray):Prop:=a.size+b.size<=9223372036854775807
instance (a b:ByteArray):Decidable (zeF a b):=inferInstanceAs (Decidable (_<=_))
def zmd(a b:ByteArray):Option AV:=if zeF a b then some (.str (a++b)) else none
def zne(op:BinOp)(a b:ByteArray):Option AV :=
 match op with
 | .add=>zmd a b
 | .eql=>some (.bool (decide (a=b)))
 | .neq=>some (.bool (!decide (a=b)))
 | .lss=>some (.bool (Op.bytesLess a.data.toList b.data.toList))
 | .leq=>some (.bool (Op.bytesLess a.data.toList b.data.toList||decide (a=b)))
 | .gtr=>some (.bool (!(Op.bytesLess a.data.toList b.data.toList||decide (a=b))))
 | .geq=>some (.bool (!Op.bytesLess a.data.toList b.data.toList))
 | _=>none
theorem zo3(a b:ByteArray):(a.toList==b.toList)=decide (a=b):=by
 rw [Bool.eq_iff_iff,beq_iff_eq,decide_eq_true_eq,ByteArray.toList_eq,ByteArray.toList_eq]
 constructor
 ·intro h; cases a; cases b; simpa using h
 ·rintro rfl; rfl
theorem Step.binStr{o:Oper}{ρ:Operand->AV}{h:Hp}{op:BinOp}{t t':TypeId}{x y:Operand}{a b:ByteArray}{r:AV}(ho:o.op=.binOp op t x y t')
  (hx:ρ x=.str a) (hy:ρ y=.str b) (he:zne op a b=some r):Step P o ρ h r h:=by
 refine Step.still fun I ι w ac hr hv=>?_
 have h1:=hv x (by simp [ho,Op.operands])
 have h2:=hv y (by simp [ho,Op.operands])
 rw [hx] at h1; rw [hy] at h2
 have e1:=h1.str_inv
 have e2:=h2.str_inv
 unfold execOp
 simp only [ho,e1,e2]
 have hg:(eqGuard op t x y (.string a) (.string b)).run P w=.ok () w:=by
  unfold eqGuard
  cases op <;> first | rfl | simp
 cases op <;> simp only [zne,Option.some.injEq,reduceCtorEq] at he
 case add =>
  unfold zmd at he
  split at he
  ·rename_i hle
   obtain rfl:=Option.some.inj he
   refine ⟨_,?_,.str _⟩
   have:¬((a.size+b.size:Nat):Int)>IntKind.i64.max:=by
    have:IntKind.i64.max=9223372036854775807:=rfl
    rw [this]; have hle':a.size+b.size<=9223372036854775807:=hle; omega
   rw [Sem.run_bind,Sem.run_bind,hg]
   simp only [Result.andThen_ok,binOp,Op.stringOp,if_neg this,Sem.run_pure]
  ·cases he
 all_goals
  subst he
  refine ⟨_,?_,.bool _⟩
  rw [Sem.run_bind,Sem.run_bind,hg]
  simp only [Result.andThen_ok,binOp,Op.stringOp,Sem.run_pure,zo3]
  try simp only [ByteArray.toList_eq]
def bt(s:ByteArray)(i:Int):Int:=((s.data.toList.getD i.toNat 0).toNat:Int)
def zln(x i:AV):Option AV :=
 match x,i with
 | .str s,.int _ i=>if InB i s.size then some (.int .u8 (bt s i)) else none
 | _,_=>none
theorem Step.indexStr{o:Oper}{ρ:Operand->AV}{h:Hp}{t:TypeId}{x i:Operand}{r:AV}(ho:o.op=.index t x i)(ht:P.underlying t=some .string)(hr:zln (ρ x) (ρ i)=some r):Step P o ρ h r h:=by
 refine Step.still fun I ι w a hrel hv=>?_
 have h1:=hv x (by simp [ho,Op.operands])
 have h2:=hv i (by simp [ho,Op.operands])
 unfold zln at hr
 split at hr
 ·rename_i s k n hx hi
  rw [hx] at h1; rw [hi] at h2
  split at hr
  ·rename_i hin
   obtain rfl:=Option.some.inj hr
   have hb:(if 0<=n then s[n.toNat]? else none)=some (s.data.toList.getD n.toNat 0):=by
    have h2:=hin.2
    rw [if_pos hin.1]
    have h3:n.toNat<s.data.toList.length:=by simpa using h2
    rw [List.getD_eq_getElem?_getD,List.getElem?_eq_getElem h3,Option.getD_some]
    rw [getElem?_pos s n.toNat h2]; rfl
   refine ⟨_,?_,.int _ _⟩
   unfold execOp
   simp only [ho,h1.str_inv,h2.int_inv,Instr.index,asIntOf]
   rw [Sem.run_bind,Sem.run_bind]
   simp [zaq ht,hb,bt]
  ·cases hr
 ·cases hr
def zji(P:Program)(t:TypeId)(name:String):Option FuncId :=
 match P.underlying t,(P.info? t).bind fun i=>i.methods.find? (·.name==name) with
 | some (.pointer _),_=>none
 | some _,some m=>match m.func,m.path.toList with
  | some (f,false),[]=>some f
  | _,_=>none
 | _,_=>none
theorem zkZ{t:TypeId}{name:String}{f:FuncId}(h:zji P t name=some f)(v:Value)(n:Nat)(w:World):(method (n+1) t v name).run P w=.ok (f,v) w:=by
 unfold zji at h
 split at h
 ·cases h
 ·rename_i d m hnp hu hm
  split at h
  ·rename_i f' hf hp
   obtain rfl:=Option.some.inj h
   obtain ⟨i,hi,hm⟩:=Option.bind_eq_some_iff.1 hm
   have hti:(typeInfo t).run P w=.ok i w:=by simp [typeInfo,hi]
   unfold method
   rw [Sem.run_bind,hti]
   simp only [Result.andThen_ok,hm]
   rw [Sem.run_bind,hp]
   simp only [follow,Sem.run_pure,Result.andThen_ok,hf]
   rw [Sem.run_bind]
   unfold receiverAt
   rw [Sem.run_bind,zaq hu]
   cases d <;> simp_all [Place.get]
  ·cases h
 ·cases h
theorem Step.invoke{o:Oper}{ρ:Operand->AV}{h:Hp}{x:Operand}{name:String}{as:Array Operand}{ts:Array TypeId}{t:TypeId}{v r:AV}{f:FuncId}(ho:o.op=.call { callee:=.invoke x name,args:=as,argTypes:=ts })
  (hx:ρ x=.iface t v) (hm:zji P t name=some f) (hf:fnOk P f=true) (hp:zbe (v::as.toList.map ρ)=true) (hc:zaO P f (v::as.toList.map ρ) r):Step P o ρ h r h:=by
 intro I ι w a hr _ hxs next Q k
 have h1:=hxs x (by simp [ho,Op.operands,Call.operands])
 rw [hx] at h1
 obtain ⟨y,hy,hvy⟩:=h1.iface_inv
 have hargs:∀z∈as,VR I w ι (ρ z) (a.eval z):=fun z hm=>hxs z (by simp [ho,Op.operands,Call.operands,hm])
 have hvs:VRs I w Io.nil (v::as.toList.map ρ) (#[y]++as.map a.eval):=by
  refine ⟨by simp; omega,fun j x y' hj hy'=>?_⟩
  have hpx:=zb6 hp j x hj
  cases j with
  | zero =>
   simp at hj
   rw [Array.getElem?_append_left (by simp)] at hy'
   simp at hy'
   subst hj; subst hy'
   exact hvy.to_pure hpx
  | succ j =>
   simp only [List.getElem?_cons_succ,List.getElem?_map,Array.getElem?_toList,Option.map_eq_some_iff] at hj
   rw [Array.getElem?_append_right (by simp)] at hy'
   simp only [List.size_toArray,List.length_cons,List.length_nil,Nat.zero_add,Nat.add_sub_cancel,Array.getElem?_map,Option.map_eq_some_iff] at hy'
   obtain ⟨x0,hj,rfl⟩:=hj
   obtain ⟨y0,hy',rfl⟩:=hy'
   rw [hj] at hy'
   obtain rfl:=Option.some.inj hy'
   exact (hargs x0 (Array.mem_of_getElem? hj)).to_pure hpx
 have hcall:=hc I w (#[y]++as.map a.eval) hr.ilt hr.tab hvs
 have hrun:(execOp a.eval o).run P w=.ok (.enter f (#[y]++as.map a.eval)) w:=by
  unfold execOp
  have e0:(#[Value.iface t y]++as.map a.eval)[0]?=some (Value.iface t y):=by rw [Array.getElem?_append_left (by simp)]; rfl
  have e1:(#[Value.iface t y]++as.map a.eval).extract 1 (#[Value.iface t y]++as.map a.eval).size=as.map a.eval:=by
   apply Array.ext'
   simp
   rw [List.take_of_length_le (by simp)]
  simp only [ho,resolve,hy,Go.invoke,Sem.run_bind,Sem.run_pure,Result.andThen_ok,e0,e1,callMethod,zn6]
  have:P.types.size+Made.depth=(P.types.size+99)+1:=rfl
  rw [this,zkZ hm]
  simp only [Result.andThen_ok,zd8 hf]
 unfold Oper.wp
 rw [hrun,Oper.upon_enter]
 refine hcall.mono fun e w' ⟨v,I',he,hb,h1,h2,h3,hv⟩=>?_
 subst he
 exact k v w' I' ι (Ext.below hr hb h1 h2 h3) (hv.pure ι)
def zgG:Operand->Bool
 | .const _=>true
 | _=>false
def zjf(P:Program)(t:TypeId)(cst:Bool)(x y:AV):Option Bool :=
 match x,y with
 | .iface _ _,.nili=>if zay P t=some true then some false else none
 | .nili,.nili=>if zay P t=some true/\cst=true then some true else none
 | .nils,.nils=>if (zak P t).isSome=true then some true else none
 | .sl (_::_),.nils=>if (zak P t).isSome=true then some false else none
 | _,_=>none
theorem zkz{t:TypeId}(h:zay P t=some true):∃ms,P.underlying t=some (.interface ms):=by
 unfold zay at h
 cases hu:P.underlying t with
 | none=>simp [hu] at h
 | some d=>cases d <;> simp_all
theorem zhv{t:TypeId}(h:(zak P t).isSome=true):∃e,P.underlying t=some (.slice e):=by
 obtain ⟨e,he⟩:=Option.isSome_iff_exists.1 h
 exact ⟨e,zaR he⟩
theorem zmN{I w ι}{t:TypeId}{x y:Operand}{a b:AV}{v u:Value}{r:Bool}{op:BinOp}(ha:VR I w ι a v)(hb:VR I w ι b u)(hr:zjf P t (zgG x||zgG y) a b=some r) :
  (eqGuard op t x y v u).run P w=.ok () w/\(Op.equal t v u).run P w=.ok r w:=by
 have heq:∀v u,Op.equal t v u=Op.equalIn (9999+1) t v u:=fun _ _=>rfl
 unfold zjf at hr
 split at hr
 ·split at hr
  ·rename_i ht
   obtain rfl:=Option.some.inj hr
   obtain ⟨ms,hu⟩:=zkz ht
   obtain ⟨v',rfl,_⟩:=ha.iface_inv
   obtain rfl:=hb.nili_inv
   refine ⟨by unfold eqGuard; cases op <;> first | rfl | simp,?_⟩
   rw [heq,Op.equalIn,Sem.run_bind,zaq hu]; rfl
  ·cases hr
 ·split at hr
  ·rename_i ht
   obtain rfl:=Option.some.inj hr
   obtain ⟨ms,hu⟩:=zkz ht.1
   obtain rfl:=ha.nili_inv
   obtain rfl:=hb.nili_inv
   refine ⟨by
    have hq:=ht.2
    unfold eqGuard
    cases op <;> first | rfl | (cases x <;> cases y <;> first | rfl | exact absurd hq (by simp [zgG]) | (simp; done)),?_⟩
   rw [heq,Op.equalIn,Sem.run_bind,zaq hu]; rfl
  ·cases hr
 ·split at hr
  ·rename_i ht
   obtain rfl:=Option.some.inj hr
   obtain ⟨ms,hu⟩:=zhv ht
   obtain rfl:=ha.nils_inv
   obtain rfl:=hb.nils_inv
   refine ⟨by unfold eqGuard; cases op <;> first | rfl | simp,?_⟩
   rw [heq,Op.equalIn,Sem.run_bind,zaq hu]; rfl
  ·cases hr
 ·split at hr
  ·rename_i ht
   obtain rfl:=Option.some.inj hr
   obtain ⟨ms,hu⟩:=zhv ht
   obtain rfl:=hb.nils_inv
   cases ha
   refine ⟨by unfold eqGuard; cases op <;> first | rfl | simp,?_⟩
   rw [heq,Op.equalIn,Sem.run_bind,zaq hu]; rfl
  ·cases hr
 ·cases hr
theorem Step.eqNil{o:Oper}{ρ:Operand->AV}{h:Hp}{t t':TypeId}{x y:Operand}{r:Bool}(neg:Bool)(ho:o.op=.binOp (bif neg then .neq else .eql) t x y t')
  (hr:zjf P t (zgG x||zgG y) (ρ x) (ρ y)=some r):Step P o ρ h (.bool (r != neg)) h:=by
 refine Step.still fun I ι w ac hrel hv=>?_
 have h1:=hv x (by simp [ho,Op.operands])
 have h2:=hv y (by simp [ho,Op.operands])
 refine ⟨_,?_,.bool _⟩
 obtain ⟨g1,g2⟩:=zmN (op:=bif neg then .neq else .eql) h1 h2 hr
 unfold execOp
 simp only [ho]
 rw [Sem.run_bind,Sem.run_bind,g1]
 simp only [Result.andThen_ok]
 generalize ac.eval x=v at *
 generalize ac.eval y=u at *
 have key:binOp (bif neg then .neq else .eql) t v u=(do pure (.bool ((← Op.equal t v u) != neg))):=by
  unfold zjf at hr
  split at hr
  all_goals first | (cases hr; done) | skip
  all_goals (rename_i hx hy; rw [hx] at h1; rw [hy] at h2; cases h1; cases h2; cases neg <;> simp [binOp])
 rw [key,Sem.run_bind,g2]
 rfl
def fldT(P:Program)(t:TypeId)(f:Nat):Option (Nat × TypeId):=match P.underlying t with | some (.struct fs)=>fs[f]?.map fun q=>(q.offset,q.type) | _=>none
def fdA(ag:Bool)(n off:Nat)(x:AV):Option AV:=match x with
 | .agg cs=>bif ag then (if off+n<=cs.length then some (.agg ((cs.drop off).take n)) else none) else cs[off]?
 | _=>none
theorem Step.field{o:Oper}{ρ:Operand->AV}{h:Hp}{t e:TypeId}{x:Operand}{f off n:Nat}{ag:Bool}{r:AV}(ho:o.op=.field t x f)(hf:fldT P t f=some (off,e))(ha:zaF P e=some ag)(hn:tsz P e=some n)
  (hr:fdA ag n off (ρ x)=some r):Step P o ρ h r h:=by
 refine Step.still fun I ι w a hrel hv=>?_
 have h1:=hv x (by simp [ho,Op.operands])
 unfold fdA at hr
 split at hr
 ·rename_i cs hx
  rw [hx] at h1
  obtain ⟨arr,hve,hl,hcs⟩:=h1.agg_inv
  unfold fldT at hf
  split at hf
  ·rename_i fs hu
   simp only [Option.map_eq_some_iff,Prod.mk.injEq] at hf
   obtain ⟨q,hq,rfl,rfl⟩:=hf
   have hrun0:(execOp a.eval o).run P w=((part q.type arr q.offset).run P w).andThen fun v w'=>.ok (.value v) w':=by
    unfold execOp
    simp only [ho,hve,Instr.field]
    rw [Sem.run_bind,Sem.run_bind,zaq hu]
    simp [hq,asAgg]
   cases ag
   ·simp only [cond_false] at hr
    have hlt:=(List.getElem?_eq_some_iff.1 hr).1
    refine ⟨arr[q.offset],?_,hcs _ _ _ hr (by simp [hl,hlt])⟩
    rw [hrun0]
    simp [part,zdk ha,hl,hlt]
   ·simp only [cond_true] at hr
    split at hr
    ·rename_i hle
     obtain rfl:=Option.some.inj hr
     refine ⟨.agg (arr.extract q.offset (q.offset+n)),?_,.agg (by simp; omega) fun j y z hy hz=>?_⟩
     ·rw [hrun0]
      simp [part,zdk ha,zaZ hn]
     ·have hj:j<n:=by
       have:=(List.getElem?_eq_some_iff.1 hy).1
       simp at this; omega
      rw [List.getElem?_take_of_lt hj,List.getElem?_drop] at hy
      rw [Array.getElem?_extract] at hz
      split at hz
      ·exact hcs _ _ _ hy hz
      ·cases hz
    ·cases hr
  ·cases hf
 ·cases hr
end Go.Vs
end
section
namespace Go.Vs
variable [Tab]
variable {P:Program}
def Bnd(i:Int)(n:Nat):Prop:=0<=i/\i<=(n:Int)
instance (i:Int) (n:Nat):Decidable (Bnd i n):=inferInstanceAs (Decidable (_/\_))
def bndO(y d:Nat):Option AV->Option Nat
 | none=>some d
 | some (.int _ i)=>if Bnd i y then some i.toNat else none
 | _=>none
theorem zf6{I w ι}{y d n:Nat}{x:AV}{v:Value}{code:BoundsCode}(hv:VR I w ι x v)(h:bndO y d (some x)=some n):(Instr.sliceBound v y code).run P w=.ok n w/\n<=y:=by
 unfold bndO at h
 split at h
 ·rename_i e; cases e
 ·rename_i k i e
  obtain rfl:=Option.some.inj e
  split at h
  ·rename_i hc
   obtain rfl:=Option.some.inj h
   obtain rfl:=hv.int_inv
   have h1:=hc.1
   have h2:=hc.2
   refine ⟨?_,by omega⟩
   simp [Instr.sliceBound,asIntOf,hc.1,hc.2]
  ·cases h
 ·cases h
def zj2(len:Nat)(lo hi:Option AV):Option (Nat × Nat):=(bndO len len hi).bind fun h=>(bndO h 0 lo).map fun l=>(l,h)
theorem zhC{I w ι}{a:Act}{ρ:Operand->AV}{len cap:Nat}{lo hi:Option Operand}{l h:Nat}(isS:Bool)(hlc:len<=cap)(hs:isS=false->cap=len)
  (h1:∀x,lo=some x->VR I w ι (ρ x) (a.eval x)) (h2:∀x,hi=some x->VR I w ι (ρ x) (a.eval x)) (hb:zj2 len (lo.map ρ) (hi.map ρ)=some (l,h)) :
  (Instr.sliceBounds isS len cap (lo.map a.eval) (hi.map a.eval) none).run P w=.ok (l,h,cap) w/\l<=h/\h<=len:=by
 obtain ⟨h',hh,hb⟩:=Option.bind_eq_some_iff.1 hb
 simp only [Option.map_eq_some_iff,Prod.mk.injEq] at hb
 obtain ⟨l',hl,rfl,rfl⟩:=hb
 have hhl:h'<=len:=by
  cases hi with
  | none=>simp [bndO] at hh; omega
  | some x=>exact (zf6 (P:=P) (code:=.index) (h2 x rfl) hh).2
 have hll:l'<=h':=by
  cases lo with
  | none=>simp [bndO] at hl; omega
  | some x=>exact (zf6 (P:=P) (code:=.index) (h1 x rfl) hl).2
 refine ⟨?_,hll,hhl⟩
 have hwide:∀x,hi=some x->bndO cap cap (some (ρ x))=some h':=by
  rintro x rfl
  simp only [Option.map_some] at hh
  unfold bndO at hh ⊢
  split at hh
  ·rename_i e; cases e
  ·rename_i k i e
   obtain e:=Option.some.inj e
   split at hh
   ·rename_i hc; have h1:=hc.1; have h2:=hc.2; rw [if_pos ⟨hc.1,by omega⟩]; exact hh
   ·cases hh
  ·cases hh
 unfold Instr.sliceBounds
 cases hi with
 | none =>
  simp [bndO] at hh
  subst hh
  cases lo with
  | none=>simp [bndO] at hl; subst hl; simp
  | some x =>
   have:=(zf6 (P:=P) (code:=.sliceB) (h1 x rfl) hl).1
   simp [this]
 | some y =>
  have hy:=fun c=>(zf6 (P:=P) (code:=c) (h2 y rfl) (hwide y rfl)).1
  cases lo with
  | none=>simp [bndO] at hl; subst hl; cases isS <;> simp [hy]
  | some x =>
   have:=(zf6 (P:=P) (code:=.sliceB) (h1 x rfl) hl).1
   cases isS <;> simp [hy,this]
theorem Step.sliceStr{o:Oper}{ρ:Operand->AV}{h:Hp}{t:TypeId}{x:Operand}{lo hi:Option Operand}{s:ByteArray}{l u:Nat}(ho:o.op=.slice t x lo hi none)(ht:P.underlying t=some .string)
  (hx:ρ x=.str s) (hb:zj2 s.size (lo.map ρ) (hi.map ρ)=some (l,u)):Step P o ρ h (.str (s.extract l u)) h:=by
 refine Step.still fun I ι w a hrel hv=>?_
 have h1:=hv x (by simp [ho,Op.operands])
 rw [hx] at h1
 obtain ⟨g,_,_⟩:=zhC (P:=P) (a:=a) (cap:=s.size) false (Nat.le_refl _) (fun _=>rfl) (fun y e=>hv y (by subst e; simp [ho,Op.operands])) (fun y e=>hv y (by subst e; simp [ho,Op.operands])) hb
 refine ⟨_,?_,.str _⟩
 unfold execOp
 simp only [ho,Instr.sliceAt,h1.str_inv]
 rw [Sem.run_bind,Sem.run_bind,zaq ht]
 simp only [Result.andThen_ok,Instr.slice,Option.map_none]
 rw [Sem.run_bind,zaq ht]
 simp [g]
theorem Step.sliceSl{o:Oper}{ρ:Operand->AV}{h:Hp}{t e:TypeId}{k:Nat}{x:Operand}{lo hi:Option Operand}{rows:List (List AV)}{l u:Nat}(ho:o.op=.slice t x lo hi none)(ht:zak P t=some e)(hk:tsz P e=some k)
  (hx:ρ x=.sl rows) (hr:rows.all (·.length==k)=true) (hb:zj2 rows.length (lo.map ρ) (hi.map ρ)=some (l,u)):Step P o ρ h (.sl ((rows.take u).drop l)) h:=by
 refine Step.still fun I ι w a hrel hv=>?_
 have hu:=zaR ht
 have h1:=hv x (by simp [ho,Op.operands])
 rw [hx] at h1
 have hv1:∀y,lo=some y->VR I w ι (ρ y) (a.eval y):=fun y e=>hv y (by subst e; simp [ho,Op.operands])
 have hv2:∀y,hi=some y->VR I w ι (ρ y) (a.eval y):=fun y e=>hv y (by subst e; simp [ho,Op.operands])
 have hrun:∀(ad:Option Addr) (n cap:Nat),n=rows.length->n<=cap->a.eval x=.slice ad n cap ->
   (execOp a.eval o).run P w=.ok (.value (.slice (if cap=l then ad else ad.map (·.add (l * k))) (u-l) (cap-l))) w/\l<=u/\u<=n:=by
  rintro ad n cap rfl hnc hax
  obtain ⟨g,g1,g2⟩:=zhC (P:=P) (a:=a) (cap:=cap) (w:=w) true hnc (fun e=>by cases e) hv1 hv2 hb
  refine ⟨?_,g1,g2⟩
  unfold execOp
  simp only [ho,Instr.sliceAt,hax]
  rw [Sem.run_bind,Sem.run_bind,zaq hu]
  simp only [Result.andThen_ok,Instr.slice,Option.map_none]
  rw [Sem.run_bind,zaq hu]
  simp [g,zaZ hk]
 generalize hax:a.eval x=v at h1
 cases h1 with
 | sl0 =>
  obtain ⟨g,g1,g2⟩:=hrun _ _ _ rfl (Nat.zero_le _) hax
  refine ⟨_,g,?_⟩
  have:u=0:=by simpa using g2
  subst this
  have:l=0:=by omega
  subst this
  exact .sl0
 | sl esz c off cap hI hn hcap hl hs hvv =>
  obtain ⟨g,g1,g2⟩:=hrun _ _ _ hn.symm hcap hax
  refine ⟨_,g,?_⟩
  rcases Nat.lt_or_ge l u with hlu | hlu
  ·have hne:¬cap=l:=by omega
   rw [if_neg hne]
   have hz:∃r,rows[0]?=some r:=⟨rows[0]'(by omega),List.getElem?_eq_getElem (by omega)⟩
   obtain ⟨r0,hr0⟩:=hz
   have hek:esz=k:=by
    have a1:=hl 0 r0 hr0
    have a2:=(List.all_eq_true.1 hr) r0 (List.mem_of_getElem? hr0)
    simp at a2; omega
   subst hek
   have hget:∀(i:Nat) (r:List AV),((rows.take u).drop l)[i]?=some r->rows[l+i]?=some r:=by
    intro i r hi
    rw [List.getElem?_drop] at hi
    rw [List.getElem?_take] at hi
    split at hi
    ·exact hi
    ·cases hi
   have hoff:∀i j:Nat,off+l * esz+(i * esz+j)=off+((l+i) * esz+j):=by
    intro i j; rw [Nat.add_mul]; omega
   have ea:(some (⟨c,off,none⟩:Addr)).map (·.add (l * esz))=some ⟨c,off+l * esz,none⟩:=by
    rw [Option.map_some]; congr 1; exact zbA _ _ _
   rw [ea]
   refine .sl esz c (off+l * esz) (cap-l) hI (by simp; omega) (by omega) (fun i r hi=>hl _ r (hget i r hi)) (fun i r j x hi hj=>?_) (fun i r j x y hi hj hy=>?_)
   ·rw [hoff]; exact hs (l+i) r j x (hget i r hi) hj
   ·rw [hoff] at hy; exact hvv (l+i) r j x y (hget i r hi) hj hy
  ·have e0:u-l=0:=by omega
   have e1:(rows.take u).drop l=[]:=by rw [List.drop_eq_nil_iff]; simp; omega
   rw [e0,e1]
   exact .sl0
def zaJ(P:Program)(t:TypeId):Bool:=match P.underlying t with | some .string=>true | _=>false
theorem zdL{t:TypeId}(h:zaJ P t=true):P.underlying t=some .string:=by unfold zaJ at h; split at h <;> simp_all
def zgl(P:Program)(t:TypeId):Option (Nat × TypeId):=match P.underlying t with | some (.array n e)=>some (n,e) | _=>none
theorem zlJ{t:TypeId}{q:Nat × TypeId}(h:zgl P t=some q):P.underlying t=some (.array q.1 q.2):=by
 unfold zgl at h; split at h
 ·rename_i n e he; obtain rfl:=Option.some.inj h; exact he
 ·cases h
def ones:List AV->List (List AV)
 | []=>[]
 | x::l=>[x]::ones l
theorem ziF:∀l:List AV,ones l=l.map fun x=>[x]
 | []=>rfl
 | x::l=>by simp only [ones,List.map_cons,ziF l]
theorem Step.sliceArr{o:Oper}{ρ:Operand->AV}{h:Hp}{t:TypeId}{q:Nat × TypeId}{x:Operand}{cs:List AV}{off:Nat}(ho:o.op=.slice t x none none none)(ht:zgl P t=some q)(hk:tsz P q.2=some 1)
  (hx:ρ x=.iptr cs off) (hle:off+q.1<=cs.length):Step P o ρ h (.sl (ones ((cs.drop off).take q.1))) h:=by
 refine Step.still fun I ι w a hrel hv=>?_
 have hu:=zlJ ht
 have h1:=hv x (by simp [ho,Op.operands])
 rw [hx] at h1
 obtain ⟨c,base,he,hI,hcell⟩:=h1.iptr_inv
 refine ⟨.slice (some ⟨c,base+off,none⟩) q.1 q.1,?_,?_⟩
 ·unfold execOp
  simp only [ho,Instr.sliceAt,he,Option.map_none]
  rw [Sem.run_bind,Sem.run_bind,zaq hu]
  simp [Instr.sureAddr,Instr.sliceBounds,zaZ hk]
  by_cases h0:q.1=0
  ·simp [h0]
  ·simp [h0,zbA]
 ·have hget:∀(i:Nat) r,(ones ((cs.drop off).take q.1))[i]?=some r->∃z,cs[off+i]?=some z/\r=[z]:=by
   intro i r hi
   rw [ziF,List.getElem?_map,Option.map_eq_some_iff] at hi
   obtain ⟨z,hi,rfl⟩:=hi
   rw [List.getElem?_take] at hi
   split at hi
   ·rw [List.getElem?_drop] at hi; exact ⟨z,hi,rfl⟩
   ·cases hi
  have hc2:∀(i:Nat) r (j:Nat) z,(ones ((cs.drop off).take q.1))[i]?=some r->r[j]?=some z->∃y,w.cell? ⟨c,base+off+(i * 1+j),none⟩=some y/\VR I w Io.nil z y:=by
   intro i r j z hi hj
   obtain ⟨z0,hz,rfl⟩:=hget i r hi
   have hj0:j=0:=by
    have:=(List.getElem?_eq_some_iff.1 hj).1; simp at this; omega
   subst hj0
   obtain rfl:z0=z:=by simpa using hj
   obtain ⟨y,h2,h3⟩:=hcell (off+i) z0 hz
   exact ⟨y,by rw [show base+off+(i * 1+0)=base+(off+i) by omega]; exact h2,h3⟩
  refine .sl 1 c (base+off) q.1 hI (by rw [ziF]; simp; omega) (Nat.le_refl _) (fun i r hi=>?_) (fun i r j z hi hj=>?_) (fun i r j z y hi hj hy=>?_)
  ·obtain ⟨z,_,rfl⟩:=hget i r hi; rfl
  ·obtain ⟨y,h2,_⟩:=hc2 i r j z hi hj; exact ⟨y,h2⟩
  ·obtain ⟨y',h2,h3⟩:=hc2 i r j z hi hj
   rw [h2] at hy; obtain rfl:=Option.some.inj hy; exact h3
def slA(P:Program)(t:TypeId)(lo hi:Option AV)(x:AV):Option AV:=match x with
 | .iptr cs off=>match lo,hi with
  | none,none=>(zgl P t).bind fun q=>if tsz P q.2=some 1/\off+q.1<=cs.length then some (.sl (ones ((cs.drop off).take q.1))) else none
  | _,_=>none
 | .str s=>if zaJ P t=true then (zj2 s.size lo hi).map fun q=>.str (s.extract q.1 q.2) else none
 | .sl rows=>(zak P t).bind fun e=>(tsz P e).bind fun k=>if rows.all (·.length==k)=true then (zj2 rows.length lo hi).map fun q=>.sl ((rows.take q.2).drop q.1) else none
 | _=>none
theorem Step.slice{o:Oper}{ρ:Operand->AV}{h:Hp}{t:TypeId}{x:Operand}{lo hi:Option Operand}{r:AV}(ho:o.op=.slice t x lo hi none)(hr:slA P t (lo.map ρ) (hi.map ρ) (ρ x)=some r):Step P o ρ h r h:=by
 unfold slA at hr
 split at hr
 ·rename_i cs off hx
  split at hr
  ·rename_i hlo hhi
   obtain rfl:=Option.map_eq_none_iff.1 hlo
   obtain rfl:=Option.map_eq_none_iff.1 hhi
   obtain ⟨q,hq,hr⟩:=Option.bind_eq_some_iff.1 hr
   split at hr
   ·rename_i hc
    obtain rfl:=Option.some.inj hr
    exact Step.sliceArr ho hq hc.1 hx hc.2
   ·cases hr
  ·cases hr
 ·rename_i s hx
  split at hr
  ·rename_i ht
   simp only [Option.map_eq_some_iff] at hr
   obtain ⟨⟨l,u⟩,hb,rfl⟩:=hr
   exact Step.sliceStr ho (zdL ht) hx hb
  ·cases hr
 ·rename_i rows hx
  obtain ⟨e,he,hr⟩:=Option.bind_eq_some_iff.1 hr
  obtain ⟨k,hk,hr⟩:=Option.bind_eq_some_iff.1 hr
  split at hr
  ·rename_i hall
   simp only [Option.map_eq_some_iff] at hr
   obtain ⟨⟨l,u⟩,hb,rfl⟩:=hr
   exact Step.sliceSl ho he hk hx hall hb
  ·cases hr
 ·cases hr
theorem Step.minInt{o:Oper}{ρ:Operand->AV}{h:Hp}{ts:Array TypeId}{x y:Operand}{k:IntKind}{a b:Int}(ho:o.op=.call { callee:=.builtin .min,args:=#[x,y],argTypes:=ts })
  (hx:ρ x=.int k a) (hy:ρ y=.int k b):Step P o ρ h (.int k (if b<a then b else a)) h:=by
 refine Step.still fun I ι w ac hr hv=>?_
 have h1:=hv x (by simp [ho,Op.operands,Call.operands])
 have h2:=hv y (by simp [ho,Op.operands,Call.operands])
 rw [hx] at h1; rw [hy] at h2
 refine ⟨_,?_,.int _ _⟩
 unfold execOp
 simp [ho,resolve,Go.invoke,builtin,Builtin.min_,Builtin.min2,h1.int_inv,h2.int_inv]
end Go.Vs
end
