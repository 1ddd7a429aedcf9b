import Derived.Test.YtkgpofmbegonfaaGreatDoorVu2
import Derived.Orders
import Derived.KernelRfl
set_option linter.all false
section
namespace Go.Vs
variable [Tab]
universe u
variable {P:Program}
def Hold{α:Sort u}(_:α):Type:=Unit
def held{α:Sort u}(a:α):Hold a:=()
def onS'{α:Type}(o:Option α)(K:α->Prop)(_:Hold K):Prop:=match o with | some a=>K a | none=>False
abbrev onS{α:Type}(o:Option α)(K:α->Prop):Prop:=onS' o K (held K)
@[go_sem] theorem zch{α:Type}(a:α)(K:α->Prop)(k:Hold K):onS' (some a) K k=K a:=rfl
@[go_sem] theorem zvL{α:Type}(K:α->Prop)(k:Hold K):onS' none K k=False:=rfl
def onC'{α:Type}(o:Option α)(f:α->Prop)(g:Prop)(_:Hold (f,g)):Prop:=match o with | some a=>f a | none=>g
@[go_sem] theorem zvM{α:Type}(a:α)(f:α->Prop)(g:Prop)(k:Hold (f,g)):onC' (some a) f g k=f a:=rfl
@[go_sem] theorem zvN{α:Type}(f:α->Prop)(g:Prop)(k:Hold (f,g)):onC' none f g k=g:=rfl
theorem zav{α:Type}{o:Option α}{K:α->Prop}{k:Hold K}(h:onS' o K k):∃a,o=some a/\K a:=by
 cases o with
 | none=>exact h.elim
 | some a=>exact ⟨a,rfl,h⟩
def zaB(P:Program)(t:TypeId):Bool:=match P.underlying t with | some .bool=>true | _=>false
theorem zhm{t:TypeId}(h:zaB P t=true):P.underlying t=some .bool:=by unfold zaB at h; split at h <;> simp_all
def zoJ(P:Program)(op:BinOp)(t:TypeId)(cst:Bool):AV->AV->Option AV
 | .int k a,.int k' b=>if k=k' then zoI op k a b else none
 | .bool a,.bool b=>match op with
  | .eql=>if zaB P t=true then some (.bool (a==b)) else none
  | .neq=>if zaB P t=true then some (.bool (a != b)) else none
  | _=>none
 | .agg xs,.agg ys=>match op with
  | .eql=>(zkD P t xs ys).map fun b=>.bool b
  | .neq=>(zkD P t xs ys).map fun b=>.bool (!b)
  | _=>none
 | .str a,.str b=>zne op a b
 | a,b=>match op with
  | .eql=>(zjf P t cst a b).map fun b=>.bool b
  | .neq=>(zjf P t cst a b).map fun b=>.bool (!b)
  | _=>none
def evUn(op:UnOp):AV->Option AV
 | .bool b=>match op with
  | .not=>some (.bool (!b))
  | _=>none
 | .int k n=>match op with
  | .neg=>some (.int k (k.wrap (0-n)))
  | _=>none
 | _=>none
def zcZ(P:Program)(t:TypeId):Option IntKind:=match P.underlying t with | some (.int k)=>some k | _=>none
def zkE(P:Program)(h:Hp)(s d:TypeId):AV->Option AV
 | .int _ n=>if (P.underlying s).isSome=true then (zcZ P d).map fun k=>.int k (k.wrap n) else none
 | .sl rows=>if zar P s=true/\zaJ P d=true then (srcA h 1 (.sl rows)).bind fun rows=>(zeS rows).map fun r=>.str r else none
 | .msl b ver off k len cap=>if zar P s=true/\zaJ P d=true then (srcA h 1 (.msl b ver off k len cap)).bind fun rows=>(zeS rows).map fun r=>.str r else none
 | _=>none
def strC(P:Program)(s d:TypeId):AV->Option (TypeId × ByteArray)
 | .str t=>if zaJ P s=true/\zar P d=true then (zak P d).bind fun e=>some (e,t) else none
 | _=>none
def zdO(h:Hp):AV->Bool
 | .msl b ver _ esz _ _=>match h[b]? with
  | some (.rows _ e v _)=>v==ver&&e==esz
  | _=>false
 | _=>true
theorem zg1{h x}(hs:zdO h x=true):∀b ver off e len cap,x=.msl b ver off e len cap->∃rs ty,h[b]?=some (.rows rs e ver ty):=by
 rintro b ver off e len cap rfl
 simp only [zdO] at hs
 split at hs
 ·rename_i rs e2 v ty hb
  simp only [Bool.and_eq_true,beq_iff_eq] at hs
  obtain ⟨rfl,rfl⟩:=hs
  exact ⟨rs,ty,hb⟩
 ·cases hs
def tupS:AV->Option (List AV)
 | .tuple vs=>some vs
 | _=>none
def zoV:AV->Option Bool
 | .bool b=>some b
 | _=>none
def zol(P:Program)(x:AV)(name:String):Option (FuncId × AV):=match x with | .iface t v=>(zji P t name).map fun f=>(f,v) | _=>none
def strS:AV->Option ByteArray
 | .str s=>some s
 | _=>none
def slH(P:Program)(h:Hp)(t:TypeId)(lo hi:Option AV):AV->Option AV
 | .msl b ver off k len cap=>(zak P t).bind fun e=>(tsz P e).bind fun k2=>if k=k2 then mslA h lo hi (.msl b ver off k len cap) else none
 | x=>slA P t lo hi x
def usOk(P:Program)(t:TypeId)(h:Hp)(x n:AV)(q:ByteArray × TypeId × Nat × Nat):Prop :=
 zk9 P t=some q.2.1/\P.cellsOf q.2.1=1/\x=.bptr q.2.2.1 q.2.2.2 q.1.size/\n=.int .i64 q.1.size/\h[q.2.2.1]?=some (.rows (sB q.1) 1 q.2.2.2 q.2.1)/\Fits q.1.size
def evB(P:Program)(b:Builtin)(ts:Array TypeId)(rt:TypeId)(xs:List AV)(h:Hp)(K:AV->Hp->Prop)(els:Prop):Prop :=
 match b,ts.toList,xs with
 | .len,[t],[x]=>onS (lenA x) fun n=>((match x with | .str _=>zaJ P t | _=>(zak P t).isSome)=true/\zdO h x=true)/\K (.int .i64 n) h
 | .append,[t,t'],[s,x]=>∃own:Bool,True/\((t=t'/\bif own then (onS (apA P t h s x) fun r=>K r.1 r.2) else onS (apI P t h s x) fun r=>K r h)\/onS (apS P t t' h s x) fun r=>K r.1 r.2)
 | .unsafeSliceData,[t],[x]=>onS (sdA P rt h x) fun r=>K r h
 | .unsafeString,[t,t'],[x,n]=>∃q,usOk P t h x n q/\K (.str q.1) (h.set q.2.2.1 .dead)
 | .min,_,[.int k a,.int k' b]=>k=k'/\K (.int k (if b<a then b else a)) h
 | _,_,_=>els
def nz:AV->AV
 | .nils=>.sl []
 | x=>x
theorem VR.nz{I w ι x v}(h:VR I w ι x v):VR I w ι (Go.Vs.nz x) v:=by
 unfold Go.Vs.nz
 split
 ·cases h; exact .sl0
 ·exact h
theorem VR.slnz{I w ι}{rows:List (List AV)}{v:Value}(h:VR I w ι (.sl rows) v):VR I w ι (.sl (rows.map fun r=>r.map Go.Vs.nz)) v:=by
 cases h with
 | sl0=>exact .sl0
 | sl esz c off cap hI hn hcap hl hs hv =>
  refine .sl esz c off cap hI (by simpa using hn) hcap ?_ ?_ ?_
  ·intro i r hr
   rw [List.getElem?_map] at hr
   obtain ⟨r0,h0,rfl⟩:=Option.map_eq_some_iff.1 hr
   simpa using hl i r0 h0
  ·intro i r j x hr hx
   rw [List.getElem?_map] at hr
   obtain ⟨r0,h0,rfl⟩:=Option.map_eq_some_iff.1 hr
   rw [List.getElem?_map] at hx
   obtain ⟨x0,hx0,rfl⟩:=Option.map_eq_some_iff.1 hx
   exact hs i r0 j x0 h0 hx0
  ·intro i r j x y hr hx hy
   rw [List.getElem?_map] at hr
   obtain ⟨r0,h0,rfl⟩:=Option.map_eq_some_iff.1 hr
   rw [List.getElem?_map] at hx
   obtain ⟨x0,hx0,rfl⟩:=Option.map_eq_some_iff.1 hx
   exact (hv i r0 j x0 y h0 hx0 hy).nz
theorem Step.weakR{P:Program}{o:Oper}{ρ:Operand->AV}{h h':Hp}{r r':AV}(hs:Step P o ρ h r h')(hw:∀I w ι v,VR I w ι r v->VR I w ι r' v):Step P o ρ h r' h' :=
 fun I ι w a hr hf hx next Q k=>hs I ι w a hr hf hx next Q fun v w' I' ι' e hv=>k v w' I' ι' e (hw _ _ _ _ hv)
def evS(P:Program)(o:Oper)(ρ:Operand->AV)(h:Hp)(K:AV->Hp->Prop):Prop :=
 match o.op with
 | .move x=>K (ρ x) h
 | .assign x=>K (ρ x) h
 | .pick c x y=>onS (zoV (ρ c)) fun b=>K (if b then ρ x else ρ y) h
 | .extract x i=>onS (tupS (ρ x)) fun vs=>onS vs[i]? fun r=>K r h
 | .load t p=>onS (zaF P t) fun agg=>onS (tsz P t) fun n=>onS (ldA agg n (zfc h (ρ p))) fun r=>K r h
 | .store t p x=>onS (tsz P t) fun n=>n=(cellsOf (ρ x)).length/\(cellsOf (ρ x)).all oneB=true/\onS (stA h (ρ p) (cellsOf (ρ x))) fun h'=>K .undef h'
 | .fieldAddr t x f=>onS (fld P t f) fun q=>q.2≠0/\onS (addO (ρ x) q.1) fun r=>K r h
 | .alloc t=>onS (zaH P t) fun z=>K (.ptr h.length 0 0) (h++[.cells z 0 t])
 | .box t x=>(cellsOf (ρ x)).all oneB=true/\K (.ptr h.length 0 0) (h++[.cells (cellsOf (ρ x)) 0 t])
 | .binOp op t x y _=>onS (zoJ P op t (zgG x||zgG y) (ρ x) (ρ y)) fun r=>K r h
 | .unOp op _ x=>onS (evUn op (ρ x)) fun r=>K r h
 | .convert s d x=>onC' (strC P s d (ρ x)) (fun q=>K (.msl h.length 1 0 1 (ziN q.2).length (ziN q.2).length) (h++[.rows (bC q.2) 1 1 q.1])) (onS (zkE P h s d (ρ x)) fun r=>K r h) (held _)
 | .build t parts=>onS (zaH P t) fun z=>onS (plc P t) fun l=>onS (zhu (fun i:Nat=>l[i]?) z (parts.toList.map fun q=>(q.1,ρ q.2))) fun cs=>K (.agg cs) h
 | .buildSlice t n parts=>∃own:Bool,True/\onS (zak P t) fun e=>onS (tsz P e) fun k=>onS (zaH P e) fun _=>(parts.toList.map (·.1)=List.range n/\k≠0/\n * k<=16777216)/\bif own then (zcP k (parts.toList.map fun q=>cellsOf (ρ q.2))=true/\K (.msl h.length 1 0 k n n) (h++[.rows (parts.toList.map fun q=>cellsOf (ρ q.2)) k 1 e]))
   else ((parts.toList.map fun q=>ρ q.2).all (zi6 k)=true/\K (if n=0 then .emp else .sl (parts.toList.map fun q=>(cellsOf (ρ q.2)).map nz)) h)
 | .makeInterface t x=>zay P t=some false/\K (.iface t (ρ x)) h
 | .indexAddr t x i=>onS (ixOf P t) fun q=>onS (tsz P q.2) fun n=>onS (elA q.1 n (ρ x) (ρ i)) fun r=>zdO h (ρ x)=true/\K r h
 | .field t x f=>onS (fldT P t f) fun q=>onS (zaF P q.2) fun ag=>onS (tsz P q.2) fun n=>onS (fdA ag n q.1 (ρ x)) fun r=>K r h
 | .slice t x lo hi none=>onS (slH P h t (lo.map ρ) (hi.map ρ) (ρ x)) fun r=>K r h
 | .makeSlice t n c=>onS (mkA P t (ρ n) (ρ c)) fun q=>K (.msl h.length 1 0 q.2.1 q.1 q.1) (h++[.rows (List.replicate q.1 q.2.2.1) q.2.1 1 q.2.2.2])
 | .range t x=>onS (strS (ρ x)) fun s=>zaJ P t=true/\K (.ptr h.length 0 0) (h++[.siter s 0])
 | .next x true=>onS (zmO h (ρ x)) fun r=>K r.1 r.2
 | .nilCheck x=>(match ρ x with | .ptr .. | .eptr .. | .iptr ..=>true | _=>false)=true/\K (ρ x) h
 | .makeMap t none=>K (.map h.length) (h++[.map []])
 | .lookup t m x ok=>onS (lkA P t h (ρ m) (ρ x) ok) fun r=>K r h
 | .mapUpdate t m x y=>onS (muA P t h (ρ m) (ρ x) (ρ y)) fun h'=>K .undef h'
 | .insert t m x y=>onS (muA P t h (ρ m) (ρ x) (ρ y)) fun h'=>K .undef h'
 | .typeAssert x _ t ok=>zay P t=some false/\onS (tasA P t ok (ρ x)) fun r=>K r h
 | .index t x i=>zaJ P t=true/\onS (zln (ρ x) (ρ i)) fun r=>K r h
 | .call c=>match c.callee with
  | .invoke x name=>onS (zol P (ρ x) name) fun q=>fnOk P q.1=true/\zbe (q.2::c.args.toList.map ρ)=true/\∃r,zaO P q.1 (q.2::c.args.toList.map ρ) r/\K r h
  | .value (.func f)=>fnOk P f=true/\∃q,callQ P f h (c.args.toList.map ρ) q/\K (q.res h) (q.hp h)
  | .builtin b=>evB P b c.argTypes o.type (c.args.toList.map ρ) h K (∃r h',Step P o ρ h r h'/\K r h')
  | _=>∃r h',Step P o ρ h r h'/\K r h'
 | _=>∃r h',Step P o ρ h r h'/\K r h'
theorem zdh{o:Oper}{ρ:Operand->AV}{h:Hp}{K:AV->Hp->Prop}(he:evS P o ρ h K):∃r h',Step P o ρ h r h'/\K r h':=by
 unfold evS at he
 split at he
 ·rename_i x ho; exact ⟨_,_,Step.move (.inl ho),he⟩
 ·rename_i x ho; exact ⟨_,_,Step.move (.inr ho),he⟩
 ·rename_i c x y ho
  obtain ⟨b,hb,hk⟩:=zav he
  have:ρ c=.bool b:=by unfold zoV at hb; split at hb <;> simp_all
  exact ⟨_,_,Step.pick ho this,hk⟩
 ·rename_i x i ho
  obtain ⟨vs,hv,he⟩:=zav he
  obtain ⟨r,hr,hk⟩:=zav he
  have:ρ x=.tuple vs:=by unfold tupS at hv; split at hv <;> simp_all
  exact ⟨_,_,Step.extract ho this hr,hk⟩
 ·rename_i t p ho
  obtain ⟨agg,ha,he⟩:=zav he
  obtain ⟨n,hn,he⟩:=zav he
  obtain ⟨r,hr,hk⟩:=zav he
  exact ⟨_,_,Step.load ho ha hn hr,hk⟩
 ·rename_i t p x ho
  obtain ⟨n,hn,e,h1,he⟩:=zav he
  obtain ⟨h',hs,hk⟩:=zav he
  exact ⟨_,_,Step.store ho (e▸hn) h1 hs,hk⟩
 ·rename_i t x f ho
  obtain ⟨⟨off,n⟩,hf,hn,he⟩:=zav he
  obtain ⟨r,hr,hk⟩:=zav he
  exact ⟨_,_,Step.fieldAddr ho hf hn hr,hk⟩
 ·rename_i t ho
  obtain ⟨z,hz,hk⟩:=zav he
  exact ⟨_,_,Step.alloc ho hz,hk⟩
 ·rename_i t x ho
  exact ⟨_,_,Step.box ho he.1,he.2⟩
 ·rename_i op t x y t' ho
  obtain ⟨r,hr,hk⟩:=zav he
  unfold zoJ at hr
  split at hr
  ·rename_i k a k' b hx hy
   split at hr
   ·rename_i e; subst e; exact ⟨_,_,Step.binInt ho hx hy hr,hk⟩
   ·cases hr
  ·rename_i a b hx hy
   split at hr
   ·split at hr
    ·rename_i ht; obtain rfl:=Option.some.inj hr; exact ⟨_,_,Step.eqBool ho (zhm ht) hx hy,hk⟩
    ·cases hr
   ·split at hr
    ·rename_i ht; obtain rfl:=Option.some.inj hr; exact ⟨_,_,Step.neqBool ho (zhm ht) hx hy,hk⟩
    ·cases hr
   ·cases hr
  ·rename_i xs ys hx hy
   split at hr
   ·simp only [Option.map_eq_some_iff] at hr
    obtain ⟨b,hb,rfl⟩:=hr
    exact ⟨_,_,Step.eqAg (neg:=false) ho hx hy hb,hk⟩
   ·simp only [Option.map_eq_some_iff] at hr
    obtain ⟨b,hb,rfl⟩:=hr
    exact ⟨_,_,Step.eqAg (neg:=true) ho hx hy hb,hk⟩
   ·cases hr
  ·rename_i a b hx hy
   exact ⟨_,_,Step.binStr ho hx hy hr,hk⟩
  ·split at hr
   ·simp only [Option.map_eq_some_iff] at hr
    obtain ⟨b,hb,rfl⟩:=hr
    have:=Step.eqNil (h:=h) false ho hb
    rw [Bool.bne_false] at this
    exact ⟨_,_,this,hk⟩
   ·simp only [Option.map_eq_some_iff] at hr
    obtain ⟨b,hb,rfl⟩:=hr
    have:=Step.eqNil (h:=h) true ho hb
    rw [Bool.bne_true] at this
    exact ⟨_,_,this,hk⟩
   ·cases hr
 ·rename_i op t x ho
  obtain ⟨r,hr,hk⟩:=zav he
  unfold evUn at hr
  split at hr
  ·rename_i b hx
   split at hr
   ·obtain rfl:=Option.some.inj hr; exact ⟨_,_,Step.not ho hx,hk⟩
   ·cases hr
  ·rename_i k n hx
   split at hr
   ·obtain rfl:=Option.some.inj hr; exact ⟨_,_,Step.neg ho hx,hk⟩
   ·cases hr
  ·cases hr
 ·rename_i s d x ho
  unfold onC' at he
  split at he
  ·rename_i q hq
   unfold strC at hq
   split at hq
   ·rename_i t hx
    split at hq
    ·rename_i hc
     obtain ⟨e,hel,hq⟩:=Option.bind_eq_some_iff.1 hq
     obtain rfl:=Option.some.inj hq
     refine ⟨_,_,Step.strBytes ho (zdL hc.1) hc.2 hel hx,?_⟩
     rw [← zgv]; exact he
    ·cases hq
   ·cases hq
  obtain ⟨r,hr,hk⟩:=zav he
  unfold zkE at hr
  split at hr
  ·rename_i k n hx
   split at hr
   ·rename_i hs
    obtain ⟨ds,hs⟩:=Option.isSome_iff_exists.1 hs
    simp only [Option.map_eq_some_iff] at hr
    obtain ⟨k',hk',rfl⟩:=hr
    unfold zcZ at hk'
    split at hk'
    ·rename_i k2 hu
     obtain rfl:=Option.some.inj hk'
     exact ⟨_,_,Step.convInt ho hs hu hx,hk⟩
    ·cases hk'
   ·cases hr
  ·rename_i rows0 hx
   split at hr
   ·rename_i hc
    simp only [Option.bind_eq_some_iff,Option.map_eq_some_iff] at hr
    obtain ⟨rows,h1,r2,h2,rfl⟩:=hr
    rw [← hx] at h1
    exact ⟨_,_,Step.bytesStr ho hc.1 (zdL hc.2) h1 h2,hk⟩
   ·cases hr
  ·rename_i hx
   split at hr
   ·rename_i hc
    simp only [Option.bind_eq_some_iff,Option.map_eq_some_iff] at hr
    obtain ⟨rows,h1,r2,h2,rfl⟩:=hr
    rw [← hx] at h1
    exact ⟨_,_,Step.bytesStr ho hc.1 (zdL hc.2) h1 h2,hk⟩
   ·cases hr
  ·cases hr
 ·rename_i t parts ho
  obtain ⟨z,hz,he⟩:=zav he
  obtain ⟨l,hl,he⟩:=zav he
  obtain ⟨cs,hcs,hk⟩:=zav he
  exact ⟨_,_,Step.build ho hz hl hcs,hk⟩
 ·rename_i t n parts ho
  obtain ⟨own,_,he⟩:=he
  obtain ⟨e,hel,he⟩:=zav he
  obtain ⟨k,hk,he⟩:=zav he
  obtain ⟨z,hz,⟨h1,h3,h4⟩,he⟩:=zav he
  cases own with
  | true =>
   obtain ⟨h5,hk'⟩:=he
   refine ⟨_,_,Step.buildOwn ho hel hk hz h1 h3 h4 ?_,hk'⟩
   simpa [zcP,List.all_map,Function.comp_def] using h5
  | false =>
   obtain ⟨h5,hk'⟩:=he
   by_cases h2:n=0
   ·rw [if_pos h2] at hk'
    subst h2
    exact ⟨_,_,Step.buildEmp ho hel hk hz h1,hk'⟩
   ·rw [if_neg h2] at hk'
    refine ⟨_,_,(Step.buildSlice ho hel hk hz h1 h2 h3 h4 h5).weakR (fun I w ι v hv=>?_),hk'⟩
    have:=hv.slnz
    simpa [List.map_map,Function.comp_def] using this
 ·rename_i t x ho
  exact ⟨_,_,Step.makeInterface ho he.1,he.2⟩
 ·rename_i t x i ho
  obtain ⟨e,hel,he⟩:=zav he
  obtain ⟨n,hn,he⟩:=zav he
  obtain ⟨r,hr,hst,hk⟩:=zav he
  exact ⟨_,_,Step.indexAddr ho hel hn hr (zg1 hst),hk⟩
 ·rename_i t x f ho
  obtain ⟨q,hq,he⟩:=zav he
  obtain ⟨ag,ha,he⟩:=zav he
  obtain ⟨n,hn,he⟩:=zav he
  obtain ⟨r,hr,hk⟩:=zav he
  exact ⟨_,_,Step.field ho hq ha hn hr,hk⟩
 ·rename_i t x lo hi ho
  obtain ⟨r,hr,hk⟩:=zav he
  unfold slH at hr
  split at hr
  ·rename_i b ver off k len cap hx
   simp only [Option.bind_eq_some_iff] at hr
   obtain ⟨e,hel,k2,hk2,hr⟩:=hr
   split at hr
   ·rename_i ek
    subst ek
    rw [← hx] at hr
    exact ⟨_,_,Step.sliceMsl ho hel hk2 (fun b' v' o' k' l' c' e'=>by rw [hx] at e'; injection e' with _ _ _ e4; exact e4.symm) hr,hk⟩
   ·cases hr
  ·exact ⟨_,_,Step.slice ho hr,hk⟩
 ·rename_i t n c ho
  obtain ⟨q,hq,hk⟩:=zav he
  exact ⟨_,_,Step.makeSlice ho hq,hk⟩
 ·rename_i t x ho
  obtain ⟨s,hs,hst,hk⟩:=zav he
  have hx:ρ x=.str s:=by unfold strS at hs; split at hs <;> simp_all
  exact ⟨_,_,Step.rangeStr ho (zdL hst) hx,hk⟩
 ·rename_i x ho
  obtain ⟨r,hr,hk⟩:=zav he
  exact ⟨_,_,Step.next ho hr,hk⟩
 ·rename_i x ho
  exact ⟨_,_,Step.nilCheck ho he.1,he.2⟩
 ·rename_i t ho
  exact ⟨_,_,Step.makeMap ho,he⟩
 ·rename_i t m x ok ho
  obtain ⟨r,hr,hk⟩:=zav he
  exact ⟨_,_,Step.lookup ho hr,hk⟩
 ·rename_i t m x y ho
  obtain ⟨r,hr,hk⟩:=zav he
  exact ⟨_,_,Step.mapUpdate (.inl ho) hr,hk⟩
 ·rename_i t m x y ho
  obtain ⟨r,hr,hk⟩:=zav he
  exact ⟨_,_,Step.mapUpdate (.inr ho) hr,hk⟩
 ·rename_i x xt t ok ho
  obtain ⟨hi,he⟩:=he
  obtain ⟨r,hr,hk⟩:=zav he
  exact ⟨_,_,Step.typeAssert ho hi hr,hk⟩
 ·rename_i t x i ho
  obtain ⟨hi,he⟩:=he
  obtain ⟨r,hr,hk⟩:=zav he
  exact ⟨_,_,Step.indexStr ho (zdL hi) hr,hk⟩
 ·rename_i c ho
  split at he
  ·rename_i x name hc
   obtain ⟨q,hq,hf,hp,r,hr,hk⟩:=zav he
   unfold zol at hq
   split at hq
   ·rename_i t v hx
    simp only [Option.map_eq_some_iff] at hq
    obtain ⟨f,hm,rfl⟩:=hq
    exact ⟨_,_,Step.invoke (as:=c.args) (ts:=c.argTypes) (by rw [ho]; cases c; simp_all) hx hm hf hp hr,hk⟩
   ·cases hq
  ·rename_i f hc
   obtain ⟨hf,q,hq,hk⟩:=he
   exact ⟨_,_,Step.callQ (as:=c.args) (ts:=c.argTypes) (by rw [ho]; cases c; simp_all) hf hq,hk⟩
  ·rename_i b hc
   unfold evB at he
   split at he
   ·rename_i t x hts hxs
    obtain ⟨n,hn,⟨hcond,hst⟩,hk⟩:=zav he
    have h1:c.argTypes=#[t]:=by
     have:=congrArg List.toArray hts; simpa using this
    obtain ⟨x0,hx0,hx1⟩:∃x0,c.args=#[x0]/\ρ x0=x:=by
     have hl:c.args.toList.map ρ=[x]:=hxs
     match hca:c.args.toList,hl with
     | [x0],hl=>exact ⟨x0,by have:=congrArg List.toArray hca; simpa using this,by simpa using hl⟩
     | [],hl=>simp at hl
     | _::_::_,hl=>simp at hl
    have ho':o.op=.call { callee:=.builtin .len,args:=#[x0],argTypes:=#[t] }:=by rw [ho]; cases c; simp_all
    have hstr:∀s,x=.str s->P.underlying t=some .string:=by
     intro s hs; rw [hs] at hcond; simp only [zaJ] at hcond; split at hcond <;> simp_all
    have hsl:(∀s,x≠.str s)->(zak P t).isSome=true:=by
     intro hs
     split at hcond
     ·rename_i s; exact absurd rfl (hs s)
     ·exact hcond
    refine ⟨_,_,Step.len ho' ?_ ?_ ?_ (by rw [hx1]; exact hn) (by rw [hx1]; exact zg1 hst),hk⟩
    ·by_cases hs:∃s,x=.str s
     ·obtain ⟨s,hs⟩:=hs; exact .inr (hstr s hs)
     ·exact .inl (hsl fun s e=>hs ⟨s,e⟩)
    ·intro s hs; rw [hx1] at hs; exact hstr s hs
    ·intro hs
     exact hsl fun s e=>hs s (hx1.trans e)
   ·rename_i t t' s x hts hxs
    obtain ⟨own,_,he⟩:=he
    have h1:c.argTypes=#[t,t']:=by
     have:=congrArg List.toArray hts; simpa using this
    obtain ⟨x0,y0,hx0,hx1,hx2⟩:∃x0 y0,c.args=#[x0,y0]/\ρ x0=s/\ρ y0=x:=by
     match hca:c.args.toList,hxs with
     | [x0,y0],hl=>exact ⟨x0,y0,by have:=congrArg List.toArray hca; simpa using this,by simpa using hl⟩
     | [],hl=>simp at hl
     | [_],hl=>simp at hl
     | _::_::_::_,hl=>simp at hl
    subst hx1; subst hx2
    rcases he with ⟨rfl,he⟩ | he
    ·cases own with
     | true =>
      simp only [cond_true] at he
      obtain ⟨r,hr,hk⟩:=zav he
      exact ⟨_,_,Step.append (by rw [ho]; cases c; simp_all) hr,hk⟩
     | false =>
      simp only [cond_false] at he
      obtain ⟨r,hr,hk⟩:=zav he
      exact ⟨_,_,Step.appendI (by rw [ho]; cases c; simp_all) hr,hk⟩
    ·obtain ⟨r,hr,hk⟩:=zav he
     exact ⟨_,_,Step.appendStr (by rw [ho]; cases c; simp_all) hr,hk⟩
   ·rename_i t x hts hxs
    obtain ⟨r,hr,hk⟩:=zav he
    have h1:c.argTypes=#[t]:=by
     have:=congrArg List.toArray hts; simpa using this
    obtain ⟨x0,hx0,hx1⟩:∃x0,c.args=#[x0]/\ρ x0=x:=by
     match hca:c.args.toList,hxs with
     | [x0],hl=>exact ⟨x0,by have:=congrArg List.toArray hca; simpa using this,by simpa using hl⟩
     | [],hl=>simp at hl
     | _::_::_,hl=>simp at hl
    subst hx1
    exact ⟨_,_,Step.sliceData (t:=t) (by rw [ho]; cases c; simp_all) hr,hk⟩
   ·rename_i t t' x n hts hxs
    obtain ⟨⟨s,e,b,ver⟩,⟨q1,q2,q3,q4,q5,q6⟩,hk⟩:=he
    have h1:c.argTypes=#[t,t']:=by
     have:=congrArg List.toArray hts; simpa using this
    obtain ⟨x0,y0,hx0,hx1,hx2⟩:∃x0 y0,c.args=#[x0,y0]/\ρ x0=x/\ρ y0=n:=by
     match hca:c.args.toList,hxs with
     | [x0,y0],hl=>exact ⟨x0,y0,by have:=congrArg List.toArray hca; simpa using this,by simpa using hl⟩
     | [],hl=>simp at hl
     | [_],hl=>simp at hl
     | _::_::_::_,hl=>simp at hl
    subst hx1; subst hx2
    exact ⟨_,_,Step.unsafeString (t:=t) (t':=t') (x:=x0) (n:=y0) (by rw [ho]; cases c; simp_all) q1 q2 q3 q4 q5 q6,hk⟩
   ·rename_i k a k' b hxs
    obtain ⟨rfl,hk⟩:=he
    obtain ⟨x0,y0,hx0,hx1,hx2⟩:∃x0 y0,c.args=#[x0,y0]/\ρ x0=.int k a/\ρ y0=.int k b:=by
     match hca:c.args.toList,hxs with
     | [x0,y0],hl=>exact ⟨x0,y0,by have:=congrArg List.toArray hca; simpa using this,by simpa using hl⟩
     | [],hl=>simp at hl
     | [_],hl=>simp at hl
     | _::_::_::_,hl=>simp at hl
    exact ⟨_,_,Step.minInt (ts:=c.argTypes) (by rw [ho]; cases c; simp_all) hx1 hx2,hk⟩
   ·exact he
  ·exact he
 ·exact he
end Go.Vs
end
section
namespace Go.Vs
variable [Tab]
universe u
variable {P:Program} {N n0:Nat}
def onG(g:Option Bool)(t f:Unit->Prop)(_:Hold (t,f)):Prop:=match g with | some true=>t () | some false=>f () | none=>False
@[go_sem] theorem zpX(t f:Unit->Prop)(k:Hold (t,f)):onG (some true) t f k=t ():=rfl
@[go_sem] theorem zpY(t f:Unit->Prop)(k:Hold (t,f)):onG (some false) t f k=f ():=rfl
theorem zcl{b:Bool}{t f:Unit->Prop}{k:Hold (t,f)}(ht:b=true->t ())(hf:b=false->f ()):onG (some b) t f k:=by
 cases b
 ·exact hf rfl
 ·exact ht rfl
theorem zdI{b:Bool}{t f:Unit->Prop}{k:Hold (t,f)}(ht:b=false->t ())(hf:b=true->f ()):onG (some (!b)) t f k:=by
 cases b
 ·exact ht rfl
 ·exact hf rfl
def evK(P:Program)(o:Oper)(ρ:Operand->AV)(h:Hp)(K:AV->Hp->Prop)(_:Hold (o,K)):Prop:=evS P o ρ h K
def exP{α:Type}(A:α->Prop)(K:α->Prop)(_:Hold K):Prop:=∃r,A r/\K r
theorem exP.mk{α:Type}{A K:α->Prop}{k:Hold K}(r:α)(ha:A r)(hk:K r):exP A K k:=⟨r,ha,hk⟩
def evBK(P:Program)(b:Builtin)(ts:Array TypeId)(rt:TypeId)(xs:List AV)(h:Hp)(K:AV->Hp->Prop)(els:Unit->Prop)(_:Hold (K,els)):Prop:=evB P b ts rt xs h K (els ())
def RunE(P:Program)(ops:Array Oper)(Q:zaC->Hp->Prop):(l:List Oper)->zaC->Hp->Hold (ops,Q,l)->Prop
 | [],s,h,_=>Q s h
 | o::rest,s,h,_=>onG (zce ops s o) (fun _=>evS P o s.ev h fun r h'=>RunE P ops Q rest (s.put o.dst r) h' (held _)) (fun _=>RunE P ops Q rest (s.put o.dst (.tuple [])) h (held _)) (held _)
theorem ziU{ops:Array Oper}{Q:zaC->Hp->Prop}:∀(l:List Oper) (s h) (k),RunE P ops Q l s h k->Run P ops Q l s h
 | [],s,h,_,hr=>hr
 | o::rest,s,h,_,hr=>by
  simp only [RunE] at hr
  simp only [Run]
  split
  ·rename_i e
   rw [e,zpX] at hr
   obtain ⟨r,h',hst,hk⟩:=zdh hr
   exact ⟨r,h',hst,ziU rest _ _ _ hk⟩
  ·rename_i e
   rw [e,zpY] at hr
   exact ziU rest _ _ _ hr
  ·rename_i e
   rw [e] at hr
   exact hr
def W(P:Program)(N n0:Nat)(c:Code)(Q:Exit->zaC->Hp->Prop)(s:zaC)(h:Hp)(_:Hold (c,Q)):Prop:=WP P N n0 c s h Q
abbrev WK(P:Program)(N n0:Nat)(c:Code)(Q:Exit->zaC->Hp->Prop)(s:zaC)(h:Hp):Prop:=W P N n0 c Q s h (held _)
def zdY(N:Nat)(ops:Array Oper):Bool:=ops.toList.all fun o=>match o.dst with | some t=>decide (t<N) | none=>true
theorem zgj{ops:Array Oper}(h:zdY N ops=true):∀o∈ops,∀t,o.dst=some t->t<N:=by
 intro o ho t ht
 have:=(List.all_eq_true.1 h) o (by simpa using ho)
 rw [ht] at this
 simpa using this
theorem W.region{id}{l:List Oper}{s h Q k}(hN:zdY N l.toArray=true)(hrun:RunE P l.toArray (fun s h=>Q .normal s h) l s h (held _)):W P N n0 (.region id l.toArray false) Q s h k :=
 WP.region (zgj hN) (by rw [List.toList_toArray]; exact ziU _ _ _ _ hrun)
theorem W.seq{x y s h Q k}(hx:WK P N n0 x (zeK (fun s h=>WK P N n0 y Q s h) Q) s h):W P N n0 (.seq x y) Q s h k:=WP.seq hx
theorem W.exit{id s h Q k}(hq:Q (.exit id) s h):W P N n0 (.exit id) Q s h k:=WP.exit hq
theorem W.ret{s h Q k}(hq:Q .ret s h):W P N n0 .ret Q s h k:=WP.ret hq
theorem W.skip{s h Q k}(hq:Q .normal s h):W P N n0 .skip Q s h k:=WP.skip hq
theorem W.block{id c s h Q k}(hw:WK P N n0 c (zhD id Q) s h):W P N n0 (.block id c) Q s h k:=WP.block hw
theorem W.cond{c x y s h Q k}(b:Bool)(hc:s.ev c=.bool b)(ht:b=true->WK P N n0 x Q s h)(hf:b=false->WK P N n0 y Q s h):W P N n0 (.cond c x y) Q s h k :=
 WP.cond_split b hc ht hf
@[go_sem ↓] theorem zo2{K:zaC->Hp->Prop}{Q:Exit->zaC->Hp->Prop}{s h}:zeK K Q .normal s h=K s h:=rfl
@[go_sem ↓] theorem zqF{K:zaC->Hp->Prop}{Q:Exit->zaC->Hp->Prop}{i s h}:zeK K Q (.exit i) s h=Q (.exit i) s h:=rfl
@[go_sem ↓] theorem zrp{K:zaC->Hp->Prop}{Q:Exit->zaC->Hp->Prop}{s h}:zeK K Q .ret s h=Q .ret s h:=rfl
@[go_sem ↓] theorem zoW{Q:Exit->zaC->Hp->Prop}{i s h}:zhD i Q .normal s h=Q .normal s h:=rfl
theorem zj3{Q:Exit->zaC->Hp->Prop}{i j s h}:zhD i Q (.exit j) s h=if j=i then Q .normal s h else Q (.exit j) s h:=rfl
@[go_sem ↓] theorem zqq{Q:Exit->zaC->Hp->Prop}{i s h}:zhD i Q (.exit i) s h=Q .normal s h:=by rw [zj3,if_pos rfl]
@[go_sem ↓] theorem zq4{Q:Exit->zaC->Hp->Prop}{i s h}:zhD i Q .ret s h=Q .ret s h:=rfl
theorem zcB.ret{fn:Func}{r:AV}{s h}(hr:onS (zfK P s h fn.results.toList) fun l=>FR h (one? l) r):zcB P fn r .ret s h:=by
 obtain ⟨x,hx,hf⟩:=zav hr
 exact ⟨.inr rfl,x,hx,hf⟩
theorem zcB.normal{fn:Func}{r:AV}{s h}(hr:onS (zfK P s h fn.results.toList) fun l=>FR h (one? l) r):zcB P fn r .normal s h:=by
 obtain ⟨x,hx,hf⟩:=zav hr
 exact ⟨.inl rfl,x,hx,hf⟩
theorem zaO.of{f:FuncId}{fn:Func}{c:Code}{args:List AV}{r:AV}{N:Nat}(hf:P.funcs[f]?=some fn)(hb:fn.body=some c)(hN:fn.ntmps=N)(hn:args.length<=N)
  (hw:WK P N 0 c (zcB P fn r) (argS 0 args) []):zaO P f args r:=by
 subst hN; exact zaO.of_wp hf hb hn hw
def zhw(ops:Array Oper)(j:Nat):Option Nat:=(ops[j]?).bind (·.dst)
def grd(x:AV)(want:Bool):Option Bool:=match x with | .bool b=>some (match want with | true=>b | false=>!b) | .tuple []=>some false | _=>none
def zhR(o:Option Nat)(s:zaC)(want:Bool):Option Bool:=match o with | some t=>grd (s.get t) want | none=>none
section rules
variable {ops:Array Oper} {Q:zaC->Hp->Prop} {rest:List Oper} {s:zaC} {h:Hp} {d:Option Nat} {ty:TypeId} {pos:String} {af:Array Edge} {g:Option (Nat × Bool)} {ρ:Operand->AV} {K:AV->Hp->Prop}
variable {k:Hold (ops,Q,rest)} {kk:Hold K}
@[go_sem] theorem zwr{k}:RunE P ops Q [] s h k=Q s h:=rfl
@[go_sem] theorem zq7{op:Op}{k}:RunE P ops Q ({ dst:=d,op:=op,type:=ty,pos:=pos,after:=af,guard:=none }::rest) s h k =
  evK P { dst:=d,op:=op,type:=ty,pos:=pos,after:=af,guard:=none } s.ev h (fun r h'=>RunE P ops Q rest (s.put d r) h' (held _)) (held _):=rfl
@[go_sem] theorem zq8{op:Op}{j:Nat}{want:Bool}{k}:RunE P ops Q ({ dst:=d,op:=op,type:=ty,pos:=pos,after:=af,guard:=some (j,want) }::rest) s h k =
  onG (zhR (zhw ops j) s want) (fun _=>evK P { dst:=d,op:=op,type:=ty,pos:=pos,after:=af,guard:=some (j,want) } s.ev h (fun r h'=>RunE P ops Q rest (s.put d r) h' (held _)) (held _))
   (fun _=>RunE P ops Q rest (s.put d (.tuple [])) h (held _)) (held _):=by
 have e:zce ops s { dst:=d,op:=op,type:=ty,pos:=pos,after:=af,guard:=some (j,want) }=zhR (zhw ops j) s want:=by
  simp only [zce,zhw,zhR]
  cases (ops[j]?).bind (·.dst) with
  | none=>rfl
  | some t=>simp only [grd]; cases s.get t <;> first | rfl | (rename_i b; cases b <;> cases want <;> rfl)
 rw [← e]; rfl
@[go_sem] theorem zv7(b:Bool):grd (.bool b) true=some b:=rfl
@[go_sem] theorem zrT(b:Bool):grd (.bool b) false=some (!b):=rfl
@[go_sem] theorem zv8(w:Bool):grd (.tuple []) w=some false:=rfl
@[go_sem] theorem zqS(t:Nat)(s:zaC)(want:Bool):zhR (some t) s want=grd (s.get t) want:=rfl
@[go_sem] theorem zq2(l:List Oper)(j:Nat):zhw l.toArray j=(l[j]?).bind (·.dst):=by simp [zhw]
@[go_sem] theorem zvH{t:Nat}{r:AV}:s.put (some t) r=(t,r)::s:=rfl
@[go_sem] theorem zvI{r:AV}:s.put none r=s:=rfl
@[go_sem] theorem zzj{t:Nat}:zaC.get [] t=.undef:=rfl
@[go_sem] theorem zkB{i t:Nat}{v:AV}{r:zaC}:zaC.get ((i,v)::r) t=if i=t then v else zaC.get r t:=rfl
@[go_sem] theorem zpq{t:Nat}:zaC.ev s (.tmp t)=s.get t:=rfl
@[go_sem] theorem zwc{v:Value}:zaC.ev s (.const v)=ofC v:=rfl
@[go_sem] theorem zrZ{g:Nat}:zaC.ev s (.global g)=match Tab.tab g with | some cs=>.iptr cs 0 | none=>.undef:=rfl
@[go_sem] theorem zzl{f:FuncId}:zaC.ev s (.func f)=.func (.func f) [] []:=rfl
@[go_sem] theorem zy7{k n}:ofC (.int k n)=.int k n:=rfl
@[go_sem] theorem zvS{b}:ofC (.bool b)=.bool b:=rfl
@[go_sem] theorem zqJ{b}:ofC (.string b)=.str b:=rfl
@[go_sem] theorem zvQ:ofC (.pointer none)=.nilp:=rfl
@[go_sem] theorem zvR:ofC .nilIface=.nili:=rfl
@[go_sem] theorem zrC:ofC .nilFunc=.nilfn:=rfl
@[go_sem] theorem zqK:ofC (.map none)=.nilmap:=rfl
@[go_sem] theorem zvP:ofC (.slice none 0 0)=.nils:=rfl
@[go_sem] theorem zwn{x:Operand}{k}:evK P { dst:=d,op:=.move x,type:=ty,pos:=pos,after:=af,guard:=g } ρ h K k=K (ρ x) h:=rfl
@[go_sem] theorem zq0{x:Operand}{k}:evK P { dst:=d,op:=.assign x,type:=ty,pos:=pos,after:=af,guard:=g } ρ h K k=K (ρ x) h:=rfl
@[go_sem] theorem zwl{c x y:Operand}{k}:evK P { dst:=d,op:=.pick c x y,type:=ty,pos:=pos,after:=af,guard:=g } ρ h K k=onS (zoV (ρ c)) fun b=>K (if b then ρ x else ρ y) h:=rfl
@[go_sem] theorem zqf{x:Operand}{i:Nat}{k}:evK P { dst:=d,op:=.extract x i,type:=ty,pos:=pos,after:=af,guard:=g } ρ h K k=onS (tupS (ρ x)) fun vs=>onS vs[i]? fun r=>K r h:=rfl
@[go_sem] theorem zwo{x:Operand}{t:TypeId}{k}:evK P { dst:=d,op:=.load t x,type:=ty,pos:=pos,after:=af,guard:=g } ρ h K k=onS (zaF P t) fun agg=>onS (tsz P t) fun n=>onS (ldA agg n (zfc h (ρ x))) fun r=>K r h:=rfl
@[go_sem] theorem zr2{p x:Operand}{t:TypeId}{k}:evK P { dst:=d,op:=.store t p x,type:=ty,pos:=pos,after:=af,guard:=g } ρ h K k=onS (tsz P t) fun n=>n=(cellsOf (ρ x)).length/\(cellsOf (ρ x)).all oneB=true/\onS (stA h (ρ p) (cellsOf (ρ x))) fun h'=>K .undef h':=rfl
@[go_sem] theorem zoH{x:Operand}{t:TypeId}{f:Nat}{k}:evK P { dst:=d,op:=.fieldAddr t x f,type:=ty,pos:=pos,after:=af,guard:=g } ρ h K k=onS (fld P t f) fun q=>q.2≠0/\onS (addO (ρ x) q.1) fun r=>K r h:=rfl
@[go_sem] theorem zr9{t:TypeId}{k}:evK P { dst:=d,op:=.alloc t,type:=ty,pos:=pos,after:=af,guard:=g } ρ h K k=onS (zaH P t) fun z=>K (.ptr h.length 0 0) (h++[.cells z 0 t]):=rfl
@[go_sem] theorem zzm{x:Operand}{t:TypeId}{k}:evK P { dst:=d,op:=.box t x,type:=ty,pos:=pos,after:=af,guard:=g } ρ h K k=((cellsOf (ρ x)).all oneB=true/\K (.ptr h.length 0 0) (h++[.cells (cellsOf (ρ x)) 0 t])):=rfl
@[go_sem] theorem zr8{x y:Operand}{op:BinOp}{t t':TypeId}{k}:evK P { dst:=d,op:=.binOp op t x y t',type:=ty,pos:=pos,after:=af,guard:=g } ρ h K k=onS (zoJ P op t (zgG x||zgG y) (ρ x) (ρ y)) fun r=>K r h:=rfl
@[go_sem] theorem zwk{x:Operand}{op:UnOp}{t:TypeId}{k}:evK P { dst:=d,op:=.unOp op t x,type:=ty,pos:=pos,after:=af,guard:=g } ρ h K k=onS (evUn op (ρ x)) fun r=>K r h:=rfl
@[go_sem] theorem zqg{x:Operand}{t t':TypeId}{k}:evK P { dst:=d,op:=.convert t t' x,type:=ty,pos:=pos,after:=af,guard:=g } ρ h K k=onC' (strC P t t' (ρ x)) (fun q=>K (.msl h.length 1 0 1 (ziN q.2).length (ziN q.2).length) (h++[.rows (bC q.2) 1 1 q.1])) (onS (zkE P h t t' (ρ x)) fun r=>K r h) (held _):=rfl
@[go_sem] theorem zr7{parts:Array (Nat × Operand)}{t:TypeId}{k}:evK P { dst:=d,op:=.build t parts,type:=ty,pos:=pos,after:=af,guard:=g } ρ h K k=onS (zaH P t) fun z=>onS (plc P t) fun l=>onS (zhu (fun i:Nat=>l[i]?) z (parts.toList.map fun q=>(q.1,ρ q.2))) fun cs=>K (.agg cs) h:=rfl
@[go_sem] theorem zlA{x:Operand}{t:TypeId}{k}:evK P { dst:=d,op:=.makeInterface t x,type:=ty,pos:=pos,after:=af,guard:=g } ρ h K k=(zay P t=some false/\K (.iface t (ρ x)) h):=rfl
@[go_sem] theorem znL{t:TypeId}{n:Nat}{parts:Array (Nat × Operand)}{k}:evK P { dst:=d,op:=.buildSlice t n parts,type:=ty,pos:=pos,after:=af,guard:=g } ρ h K k=exP (fun _:Bool=>True) (fun own=>onS (zak P t) fun e=>onS (tsz P e) fun k=>onS (zaH P e) fun _=>(parts.toList.map (·.1)=List.range n/\k≠0/\n * k<=16777216)/\bif own then (zcP k (parts.toList.map fun q=>cellsOf (ρ q.2))=true/\K (.msl h.length 1 0 k n n) (h++[.rows (parts.toList.map fun q=>cellsOf (ρ q.2)) k 1 e]))
   else ((parts.toList.map fun q=>ρ q.2).all (zi6 k)=true/\K (if n=0 then .emp else .sl (parts.toList.map fun q=>(cellsOf (ρ q.2)).map nz)) h)) (held _):=rfl
attribute [go_sem] nz
@[go_sem] theorem zr6{x:Operand}{t:TypeId}{f:Nat}{k}:evK P { dst:=d,op:=.field t x f,type:=ty,pos:=pos,after:=af,guard:=g } ρ h K k=onS (fldT P t f) fun q=>onS (zaF P q.2) fun ag=>onS (tsz P q.2) fun n=>onS (fdA ag n q.1 (ρ x)) fun r=>K r h:=rfl
@[go_sem] theorem zr3{x:Operand}{t:TypeId}{lo hi:Option Operand}{k}:evK P { dst:=d,op:=.slice t x lo hi none,type:=ty,pos:=pos,after:=af,guard:=g } ρ h K k=onS (slH P h t (lo.map ρ) (hi.map ρ) (ρ x)) fun r=>K r h:=rfl
@[go_sem] theorem zoF{n c:Operand}{t:TypeId}{k}:evK P { dst:=d,op:=.makeSlice t n c,type:=ty,pos:=pos,after:=af,guard:=g } ρ h K k=onS (mkA P t (ρ n) (ρ c)) fun q=>K (.msl h.length 1 0 q.2.1 q.1 q.1) (h++[.rows (List.replicate q.1 q.2.2.1) q.2.1 1 q.2.2.2]):=rfl
@[go_sem] theorem zr4{x:Operand}{t:TypeId}{k}:evK P { dst:=d,op:=.range t x,type:=ty,pos:=pos,after:=af,guard:=g } ρ h K k=onS (strS (ρ x)) fun s=>zaJ P t=true/\K (.ptr h.length 0 0) (h++[.siter s 0]):=rfl
@[go_sem] theorem zwm{x:Operand}{k}:evK P { dst:=d,op:=.next x true,type:=ty,pos:=pos,after:=af,guard:=g } ρ h K k=onS (zmO h (ρ x)) fun r=>K r.1 r.2:=rfl
@[go_sem] theorem zpr{x:Operand}{k}:evK P { dst:=d,op:=.nilCheck x,type:=ty,pos:=pos,after:=af,guard:=g } ρ h K k=((match ρ x with | .ptr .. | .eptr .. | .iptr ..=>true | _=>false)=true/\K (ρ x) h):=rfl
@[go_sem] theorem znK{x:Operand}{t t':TypeId}{ok:Bool}{k}:evK P { dst:=d,op:=.typeAssert x t' t ok,type:=ty,pos:=pos,after:=af,guard:=g } ρ h K k=(zay P t=some false/\onS (tasA P t ok (ρ x)) fun r=>K r h):=rfl
@[go_sem] theorem zr5{x i:Operand}{t:TypeId}{k}:evK P { dst:=d,op:=.index t x i,type:=ty,pos:=pos,after:=af,guard:=g } ρ h K k=(zaJ P t=true/\onS (zln (ρ x) (ρ i)) fun r=>K r h):=rfl
@[go_sem] theorem zqY{x:Operand}{name:String}{as:Array Operand}{ts:Array TypeId}{k}:evK P { dst:=d,op:=.call { callee:=.invoke x name,args:=as,argTypes:=ts },type:=ty,pos:=pos,after:=af,guard:=g } ρ h K k =
  onS (zol P (ρ x) name) fun q=>(fnOk P q.1=true/\zbe (q.2::as.toList.map ρ)=true/\exP (zaO P q.1 (q.2::as.toList.map ρ)) (fun r=>K r h) (held _)):=rfl
@[go_sem] theorem zAM:(false||false)=false:=rfl
@[go_sem] theorem zAL:(false||true)=true:=rfl
@[go_sem] theorem zAK:(true||false)=true:=rfl
@[go_sem] theorem zAJ:(true||true)=true:=rfl
@[go_sem] theorem zrR{t:Nat}:zgG (.tmp t)=false:=rfl
@[go_sem] theorem zp6{v:Value}:zgG (.const v)=true:=rfl
@[go_sem] theorem zqO{f:FuncId}:zgG (.func f)=false:=rfl
@[go_sem] theorem zoG{x i:Operand}{t:TypeId}{k}:evK P { dst:=d,op:=.indexAddr t x i,type:=ty,pos:=pos,after:=af,guard:=g } ρ h K k=onS (ixOf P t) fun q=>onS (tsz P q.2) fun n=>onS (elA q.1 n (ρ x) (ρ i)) fun r=>zdO h (ρ x)=true/\K r h:=rfl
@[go_sem] theorem zwp{f:FuncId}{as:Array Operand}{ts:Array TypeId}{k}:evK P { dst:=d,op:=.call { callee:=.value (.func f),args:=as,argTypes:=ts },type:=ty,pos:=pos,after:=af,guard:=g } ρ h K k =
  (fnOk P f=true/\exP (callQ P f h (as.toList.map ρ)) (fun q=>K (q.res h) (q.hp h)) (held _)):=rfl
@[go_sem] theorem zp8{q:How}:Hw.res h (.pure q)=q.r:=rfl
@[go_sem] theorem zqP{q:How}:Hw.hp h (.pure q)=q.hp h:=rfl
@[go_sem] theorem zp9{q:HowH}:Hw.res h (.heap q)=ren (nm q.ns h.length) q.r:=rfl
@[go_sem] theorem zqQ{q:HowH}:Hw.hp h (.heap q)=lay (kill q.F h) q.ns (q.hc'.map (renO (nm q.ns h.length))):=rfl
@[go_sem] theorem zv6{args:List AV}{r:AV}:How.hp ⟨[],false,args,r⟩ h=h:=rfl
@[go_sem] theorem zzf{F:List Nat}{args:List AV}{r:AV}:How.hp ⟨F,true,args,r⟩ h=h:=rfl
@[go_sem] theorem zzg{F:List Nat}{args:List AV}{r:AV}:How.hp ⟨F,false,args,r⟩ h=kill F h:=rfl
@[go_sem] theorem zv5:kill [] h=h:=rfl
@[go_sem] theorem zrO{b:Nat}{F:List Nat}:kill (b::F) h=kill F (h.set b .dead):=rfl
@[go_sem] theorem zqh{b:Builtin}{as:Array Operand}{ts:Array TypeId}{k}:evK P { dst:=d,op:=.call { callee:=.builtin b,args:=as,argTypes:=ts },type:=ty,pos:=pos,after:=af,guard:=g } ρ h K k =
  evBK P b ts ty (as.toList.map ρ) h K (fun _=>∃r h',Step P { dst:=d,op:=.call { callee:=.builtin b,args:=as,argTypes:=ts },type:=ty,pos:=pos,after:=af,guard:=g } ρ h r h'/\K r h') (held _):=rfl
@[go_sem] theorem zzn{ts:Array TypeId}{rt:TypeId}{i j:IntKind}{a b:Int}{els:Unit->Prop}{k}:evBK P .min ts rt [.int i a,.int j b] h K els k=(i=j/\K (.int i (if b<a then b else a)) h):=rfl
@[go_sem] theorem zzo{t rt:TypeId}{x:AV}{els:Unit->Prop}{k}:evBK P .len #[t] rt [x] h K els k=onS (lenA x) fun n=>((match x with | .str _=>zaJ P t | _=>(zak P t).isSome)=true/\zdO h x=true)/\K (.int .i64 n) h:=rfl
@[go_sem] theorem zq1{t t' rt:TypeId}{s x:AV}{els:Unit->Prop}{k}:evBK P .append #[t,t'] rt [s,x] h K els k=exP (fun _:Bool=>True) (fun own=>(t=t'/\bif own then (onS (apA P t h s x) fun r=>K r.1 r.2) else onS (apI P t h s x) fun r=>K r h)\/onS (apS P t t' h s x) fun r=>K r.1 r.2) (held _):=rfl
@[go_sem] theorem zoK{t rt:TypeId}{x:AV}{els:Unit->Prop}{k}:evBK P .unsafeSliceData #[t] rt [x] h K els k=onS (sdA P rt h x) fun r=>K r h:=rfl
@[go_sem] theorem zlY{t t' rt:TypeId}{x n:AV}{els:Unit->Prop}{k}:evBK P .unsafeString #[t,t'] rt [x,n] h K els k=exP (usOk P t h x n) (fun q=>K (.str q.1) (h.set q.2.2.1 .dead)) (held _):=rfl
@[go_sem] theorem zqe{t:TypeId}{k}:evK P { dst:=d,op:=.makeMap t none,type:=ty,pos:=pos,after:=af,guard:=g } ρ h K k=K (.map h.length) (h++[.map []]):=rfl
@[go_sem] theorem zqX{m x:Operand}{t:TypeId}{ok:Bool}{k}:evK P { dst:=d,op:=.lookup t m x ok,type:=ty,pos:=pos,after:=af,guard:=g } ρ h K k=onS (lkA P t h (ρ m) (ρ x) ok) fun r=>K r h:=rfl
@[go_sem] theorem zoE{m x y:Operand}{t:TypeId}{k}:evK P { dst:=d,op:=.mapUpdate t m x y,type:=ty,pos:=pos,after:=af,guard:=g } ρ h K k=onS (muA P t h (ρ m) (ρ x) (ρ y)) fun h'=>K .undef h':=rfl
@[go_sem] theorem zqZ{m x y:Operand}{t:TypeId}{k}:evK P { dst:=d,op:=.insert t m x y,type:=ty,pos:=pos,after:=af,guard:=g } ρ h K k=onS (muA P t h (ρ m) (ρ x) (ρ y)) fun h'=>K .undef h':=rfl
end rules
attribute [go_sem] argS zfK one? List.getElem?_cons_zero List.getElem?_cons_succ List.getElem?_nil List.set_cons_zero List.set_cons_succ List.all_cons List.all_nil Bool.and_true Bool.and_self Bool.true_and true_and and_true and_self List.drop_succ_cons List.drop_zero List.take_succ_cons List.take_zero List.nil_append List.cons_append Option.bind_some Option.map_some ne_eq not_false_eq_true List.toList_toArray List.map_cons List.map_nil List.length_cons List.length_nil zoV tupS zoJ zkD eqA zjR evUn zkE strC zoI ldA zfc stA addO elA elS elR idx? idxR? lenA cellsOf oneB spl zhu zdO fld zcX zbe zi6 fdA tasA zln zjf zol zne List.range_zero List.append_eq cond_true cond_false
end Go.Vs
end
section
namespace Go.Vs
variable [Tab]
variable {P:Program} {N n0:Nat}
def cut(n:Nat)(ι:Io):Io:=⟨fun b=>if b<n then ι b else none,fun b c=>b<n/\ι.sub b c⟩
theorem zni{n:Nat}{ι:Io}{b c:Nat}(h:At (cut n ι) b c):b<n/\At ι b c:=by
 rcases h with ⟨u,s,h⟩ | h
 ·simp only [cut] at h
  split at h
  ·exact ⟨by assumption,.inl ⟨u,s,h⟩⟩
  ·cases h
 ·exact ⟨h.1,.inr h.2⟩
theorem zoQ{n:Nat}{ι:Io}{b:Nat}(h:n<=b):(cut n ι).free b:=⟨by simp [cut]; omega,fun c hc=>by simp [cut] at hc; omega⟩
theorem zqi{n:Nat}{ι:Io}{b:Nat}(h:b<n):(cut n ι).sub b=ι.sub b:=by funext c; simp [cut,h]
theorem VR.cutB{I w ι x v}{n:Nat}(h:VR I w ι x v)(hx:zaX n x=true):VR I w (cut n ι) x v:=by
 induction h with
 | undef=>exact .undef
 | bool b=>exact .bool b
 | int k n=>exact .int k n
 | str s=>exact .str s
 | nilp=>exact .nilp
 | nilmap=>exact .nilmap
 | nilfn=>exact .nilfn
 | nili=>exact .nili
 | nils=>exact .nils
 | emp=>exact .emp
 | ptr c cur sz h hv hc=>simp only [zaX,decide_eq_true_eq] at hx; exact .ptr c cur sz (by simp [cut,hx,h]) hv hc
 | eptr c cur sz h hv hc=>simp only [zaX,decide_eq_true_eq] at hx; exact .eptr c cur sz (by simp [cut,hx,h]) hv hc
 | mslnil=>exact .mslnil
 | iptr c base hI hs hv=>exact .iptr c base hI hs hv
 | sl0=>exact .sl0
 | sl esz c off cap hI hn hcap hl hs hv=>exact .sl esz c off cap hI hn hcap hl hs hv
 | msl c cur sz h hv hc=>simp only [zaX,decide_eq_true_eq] at hx; exact .msl c cur sz (by simp [cut,hx,h]) hv hc
 | map c h=>simp only [zaX,decide_eq_true_eq] at hx; exact .map c (by simp [cut,hx,h])
 | optp0=>exact .optp0
 | optp c cur sz h hc=>simp only [zaX,decide_eq_true_eq] at hx; exact .optp c cur sz (by simp [cut,hx,h]) hc
 | bptr c cur sz h hv hc=>simp only [zaX,decide_eq_true_eq] at hx; exact .bptr c cur sz (by simp [cut,hx,h]) hv hc
 | bptr0=>exact .bptr0
 | func h1 h2 _ _ ih3 ih4 =>
  simp only [zaX,Bool.and_eq_true] at hx
  exact .func h1 h2 (fun j x y a b=>ih3 j x y a b (zbv hx.1 j x a)) (fun j x y a b=>ih4 j x y a b (zbv hx.2 j x a))
 | iface _ ih=>exact .iface (ih (by simpa [zaX] using hx))
 | agg hl _ ih=>exact .agg hl (fun j x y a b=>ih j x y a b (zbv (by simpa [zaX] using hx) j x a))
 | tuple hl _ ih=>exact .tuple hl (fun j x y a b=>ih j x y a b (zbv (by simpa [zaX] using hx) j x a))
def zgy(n:Nat)(s:zaC):Bool:=s.all fun p=>zaX n p.2
theorem zlI{n:Nat}{s:zaC}(h:zgy n s=true)(t:Nat):zaX n (s.get t)=true:=by
 induction s with
 | nil=>simp [zaC.get,zaX]
 | cons p s ih =>
  simp only [zgy,List.all_cons,Bool.and_eq_true] at h
  obtain ⟨i,v⟩:=p
  simp only [zaC.get]
  split
  ·exact h.1
  ·exact ih h.2
def zeG(h:Hp)(F:List Nat):List (List AV)->List (List AV)->Prop
 | [],[]=>True
 | x::xs,y::ys=>wkL h F x y/\zeG h F xs ys
 | _,_=>False
theorem zhU{h F}:∀{xs ys:List (List AV)},zeG h F xs ys->xs.length=ys.length/\∀(j:Nat) y,ys[j]?=some y->∃x,xs[j]?=some x/\wkL h F x y
 | [],[],_=>⟨rfl,by simp⟩
 | x::xs,y::ys,hw=>by
  obtain ⟨h1,h2⟩:=zhU hw.2
  refine ⟨by simp [h1],fun j z hz=>?_⟩
  cases j with
  | zero=>simp at hz; subst hz; exact ⟨x,rfl,hw.1⟩
  | succ j=>exact h2 j z (by simpa using hz)
 | [],_::_,hw=>hw.elim
 | _::_,[],hw=>hw.elim
def wkO(h:Hp)(F:List Nat)(b:Nat):LO->LO->Prop
 | o,.dead=>True
 | .cells cs v t,.cells cs' v' t'=>F.contains b=false/\v'=v/\t'=t/\wkL h F cs cs'
 | .rows rs k v t,.rows rs' k' v' t'=>F.contains b=false/\k'=k/\v'=v/\t'=t/\zeG h F rs rs'
 | .siter s p,.siter s' p'=>F.contains b=false/\s'=s/\p'=p
 | .map es,.map es'=>F.contains b=false/\es'=es
 | .hole,.hole=>True
 | _,_=>False
def zip:LO->Bool
 | .dead=>true
 | .rows [] _ 0 _=>true
 | _=>false
def wkH(h:Hp)(F:List Nat):Nat->Hp->Hp->Prop
 | _,_,[]=>True
 | b,o::os,o'::os'=>wkO h F b o o'/\wkH h F (b+1) os os'
 | b,[],o'::os'=>zip o'=true/\wkH h F (b+1) [] os'
theorem ziy{h F}:∀{os os':Hp} {b:Nat},wkH h F b os os'->∀(j:Nat) o',os'[j]?=some o'->(∃o,os[j]?=some o/\wkO h F (b+j) o o')\/(os.length<=j/\zip o'=true)
 | os,[],b,_=>by simp
 | o::os,o'::os',b,hw=>by
  have h2:=ziy hw.2
  intro j z hz
  cases j with
  | zero=>simp at hz; subst hz; exact .inl ⟨o,rfl,hw.1⟩
  | succ j =>
   rcases h2 j z (by simpa using hz) with ⟨x,hx,hx2⟩ | ⟨h3,h4⟩
   ·exact .inl ⟨x,by simpa using hx,by rw [show b+(j+1)=b+1+j by omega]; exact hx2⟩
   ·exact .inr ⟨by simp only [List.length_cons]; omega,h4⟩
 | [],o'::os',b,hw=>by
  have h2:=ziy hw.2
  intro j z hz
  cases j with
  | zero=>simp at hz; subst hz; exact .inr ⟨by simp,hw.1⟩
  | succ j =>
   rcases h2 j z (by simpa using hz) with ⟨x,hx,hx2⟩ | ⟨h3,h4⟩
   ·simp at hx
   ·exact .inr ⟨by simp,h4⟩
theorem zj0{o:LO}(h:zip o=true):o.born=false:=by
 unfold zip at h; split at h <;> first | rfl | cases h
def wkSl(h:Hp)(F:List Nat)(s:zaC):zaC->Prop
 | []=>True
 | (t,v)::s1=>wk h F (s.get t) v/\wkSl h F s s1
theorem zj8{h F s}:∀{s1:zaC},wkSl h F s s1->∀t,wk h F (s.get t) (s1.get t)
 | [],_,t=>.inl (.inr (.inl rfl))
 | (i,v)::s1,hw,t=>by
  simp only [zaC.get]
  split
  ·rename_i e; subst e; exact hw.1
  ·exact zj8 hw.2 t
structure Weak (n0:Nat) (F:List Nat) (s:zaC) (h:Hp) (s1:zaC) (h1:Hp):Prop where
 fr:F.all (fun b=>decide (b<h.length))=true
 sub:wkSl h F s s1
 len:n0<=h1.length
 blk:wkH h F 0 h h1
 sl:zgy h1.length s1=true
 hp:ze2 h1.length h1=true
theorem DC.wkS{I ι h w F x y v}{S:Nat->Prop}(hr:Rel I ι h w)(hF:∀b,F.contains b=true->b<h.length)(hv:DC I w ι S x v)(hw:wkS h F x y):DC (IF I ι F) w ι S y v:=by
 rcases hv with hv | hv
 ·exact .inl (VR.wkS hr hF hv hw)
 ·by_cases hp:zcv x=true
  ·exact .inl (VR.wkS hr hF ((hv.plain_inv hp).pure ι) hw)
  ·rcases hw with rfl | rfl | ⟨rfl,_⟩ | (⟨rfl,_⟩ | ⟨rfl,_⟩) | ⟨rows,hf,_⟩ | ⟨cs,off,hf,_⟩
   ·exact .inr (hv.mono (fun _ h=>.inl h) (fun _ _=>rfl) _ (fun _ h=>h) (fun _ _=>rfl))
   ·exact .inl .undef
   ·exact absurd rfl hp
   ·exact absurd rfl hp
   ·exact absurd rfl hp
   ·cases x <;> first | exact absurd rfl hp | (rcases hf with hf | hf <;> cases hf)
   ·cases x <;> first | exact absurd rfl hp | cases hf
theorem DC.cutB{I w ι S x v}{n:Nat}(h:DC I w ι S x v)(hx:zaX n x=true):DC I w (cut n ι) S x v:=h.elim (fun h=>.inl (h.cutB hx)) .inr
theorem zj9{h F b}{o o':LO}(hw:wkO h F b o o')(hl:o'.live=true):o.live=true/\F.contains b=false:=by
 cases o' with
 | dead=>cases hl
 | cells cs v t=>cases o <;> first | exact hw.elim | exact ⟨rfl,hw.1⟩
 | rows rs k v t=>cases o <;> first | exact hw.elim | exact ⟨rfl,hw.1⟩
 | siter s p=>cases o <;> first | exact hw.elim | exact ⟨rfl,hw.1⟩
 | map es=>cases o <;> first | exact hw.elim | exact ⟨rfl,hw.1⟩
 | hole=>cases hl
theorem Weak.rel{F s h s1 h1 I ι w}(hf:Weak n0 F s h s1 h1)(hfr:∀b,h.length<=b->ι.free b)(hfrz:∀b,F.contains b=true->∃o,h[b]?=some o/\o.live=true)(hr:Rel I ι h w):Rel (IF I ι F) (cut h1.length ι) h1 w:=by
 have hF:∀b,F.contains b=true->b<h.length:=fun b hb=>by
  have:=(List.all_eq_true.1 hf.fr) b (by simpa using hb); simpa using this
 have hget:=ziy hf.blk
 simp only [Nat.zero_add] at hget
 have got:∀(b:Nat) (o':LO) c,h1[b]?=some o'->o'.live=true->At (cut h1.length ι) b c->∃o,h[b]?=some o/\o.live=true/\F.contains b=false/\At ι b c:=by
  intro b o' c h2 h3 h4
  have hι:=(zni h4).2
  rcases hget b o' h2 with ⟨o,ho,hw⟩ | ⟨h5,_⟩
  ·have:=zj9 hw h3
   exact ⟨o,ho,this.1,this.2,hι⟩
  ·exact absurd hι (hfr b h5).not
 refine ⟨?_,?_,hr.tab.mono (fun _ h=>.inl h) (fun _ _=>rfl),?_,?_,?_,?_,?_,?_⟩
 ·intro b x o' hx ho'
  have hb:b<h1.length:=(List.getElem?_eq_some_iff.1 ho').1
  have hx':ι b=some x:=by simpa [cut,hb] using hx
  rw [zqi hb]
  rcases hget b o' ho' with ⟨o,ho,hw⟩ | ⟨h5,_⟩
  rotate_left
  ·rw [(hfr b h5).1] at hx'; cases hx'
  have hreal:=hr.real b x o hx' ho
  have hob:zkK h1.length o'=true:=(List.all_eq_true.1 hf.hp) o' (List.mem_of_getElem? ho')
  obtain ⟨c,cur,sz⟩:=x
  cases o' with
  | dead=>trivial
  | hole=>trivial
  | cells cs' v' t' =>
   cases o with
   | cells cs v t =>
    obtain ⟨_,rfl,rfl,hcs⟩:=hw
    obtain ⟨e,arr,f,q1,q2,q3,hp,q4⟩:=hreal
    obtain ⟨g1,g2⟩:=zf8 hcs
    refine ⟨e,arr,f,q1,q2,by omega,hp,fun j x y hj hy=>?_⟩
    obtain ⟨x0,hx0,hw0⟩:=g2 j x hj
    exact (DC.wkS hr hF (q4 j x0 y hx0 hy) hw0).cutB (zbv hob j x hj)
   | _=>exact hw.elim
  | rows rs' k' v' t' =>
   cases o with
   | rows rs k v t =>
    obtain ⟨_,rfl,rfl,rfl,hcs⟩:=hw
    obtain ⟨e,e0,arr,f,q1,q2,q3,q5,hp,q4⟩:=hreal
    have hbr:∀(i:Nat) r,rs'[i]?=some r->zaU h1.length r=true:=fun i r hi=>(List.all_eq_true.1 hob) r (List.mem_of_getElem? hi)
    obtain ⟨g1,g2⟩:=zhU hcs
    refine ⟨e,e0,arr,f,q1,q2,by rw [← g1]; exact q3,fun i r hi=>?_,hp,fun i r j x y hi hj hy=>?_⟩
    ·obtain ⟨r0,hr0,hw0⟩:=g2 i r hi
     rw [← (zf8 hw0).1]; exact q5 i r0 hr0
    ·obtain ⟨r0,hr0,hw0⟩:=g2 i r hi
     obtain ⟨x0,hx0,hw1⟩:=(zf8 hw0).2 j x hj
     exact (DC.wkS hr hF (q4 i r0 j x0 y hr0 hx0 hy) hw1).cutB (zbv (hbr i r hi) j x hj)
   | _=>exact hw.elim
  | siter s p =>
   cases o with
   | siter s0 p0=>obtain ⟨_,rfl,rfl⟩:=hw; exact hreal
   | _=>exact hw.elim
  | map es =>
   cases o with
   | map es0 =>
    obtain ⟨_,rfl⟩:=hw
    obtain ⟨e1,e2,ents,clock,f,q1,q2,q3,q4,hp,q5⟩:=hreal
    refine ⟨e1,e2,ents,clock,f,q1,q2,q3,q4,hp,fun j x e hj he=>?_⟩
    have:=(List.all_eq_true.1 hob) x (List.mem_of_getElem? hj)
    simp only [Bool.and_eq_true] at this
    exact ⟨(VR.wkS hr hF (q5 j x e hj he).1 (.inl rfl)).cutB this.1,(DC.wkS hr hF (q5 j x e hj he).2 (.inl rfl)).cutB this.2⟩
   | _=>exact hw.elim
 ·intro b o' ho' hl
  have hb:b<h1.length:=(List.getElem?_eq_some_iff.1 ho').1
  simp only [cut,hb,if_true]
  rcases hget b o' ho' with ⟨o,ho,hw⟩ | ⟨h5,h6⟩
  rotate_left
  ·rw [zj0 h6] at hl; cases hl
  refine hr.dom b o ho ?_
  cases o' with
  | dead=>cases hl
  | hole=>cases hl
  | cells cs v t=>cases o <;> first | exact hw.elim | rfl
  | rows rs' k v t =>
   cases o with
   | rows rs k0 v0 t0 =>
    obtain ⟨_,_,_,_,hcs⟩:=hw
    cases rs with
    | nil=>cases rs' with
     | nil=>simp [LO.born] at hl
     | cons r rs'=>exact hcs.elim
    | cons r rs=>rfl
   | _=>exact hw.elim
  | siter s p=>cases o <;> first | exact hw.elim | rfl
  | map es=>cases o <;> first | exact hw.elim | rfl
 ·intro b b' o o' c g1 l1 g2 l2 a1 a2
  obtain ⟨o1,k1,m1,_,q1⟩:=got b o c g1 l1 a1
  obtain ⟨o2,k2,m2,_,q2⟩:=got b' o' c g2 l2 a2
  exact hr.inj b b' o1 o2 c k1 m1 k2 m2 q1 q2
 ·intro b c u sz hx hs
  simp only [cut] at hx hs
  rw [if_pos hs.1] at hx
  exact hr.own1 b c u sz hx hs.2
 ·rintro c ⟨b,o,g1,l1,a1⟩ hI
  obtain ⟨o1,k1,m1,hbF,q1⟩:=got b o c g1 l1 a1
  rcases hI with hI | ⟨b',hb'F,hb'⟩
  ·exact hr.sep c ⟨b,o1,k1,m1,q1⟩ hI
  ·obtain ⟨o2,k2,m2⟩:=hfrz b' hb'F
   have:=hr.inj b b' o1 o2 c k1 m1 k2 m2 q1 hb'
   subst this; rw [hbF] at hb'F; cases hb'F
 ·intro b c hx; exact hr.lt b c (zni hx).2
 ·intro c hc
  rcases hc with hc | ⟨b,_,hb⟩
  ·exact hr.ilt c hc
  ·exact hr.lt b _ hb
 ·intro b hb
  rcases hget b _ hb with ⟨o,ho,hw⟩ | ⟨h5,_⟩
  ·have:o=.hole:=by cases o <;> first | rfl | exact hw.elim
   subst this
   have:=hr.hole b ho
   exact ⟨by simp only [cut]; split <;> first | exact this.1 | rfl,fun c hc=>this.2 c hc.2⟩
  ·have:=hfr b h5
   exact ⟨by simp only [cut]; split <;> first | exact this.1 | rfl,fun c hc=>this.2 c hc.2⟩
theorem Weak.ar{F s h s1 h1 I ι w a}(hf:Weak n0 F s h s1 h1)(hr:Rel I ι h w)(ar:AR I w ι N s a):AR (IF I ι F) w (cut h1.length ι) N s1 a:=by
 have hF:∀b,F.contains b=true->b<h.length:=fun b hb=>by
  have:=(List.all_eq_true.1 hf.fr) b (by simpa using hb); simpa using this
 exact ⟨ar.size,fun t=>(VR.wk hr hF (ar.get t) (zj8 hf.sub t)).cutB (zlI hf.sl t),ar.defers⟩
theorem Weak.out{F s h s1 h1 I ι w I' ι' h' w'}(hf:Weak n0 F s h s1 h1)(hfr:∀b,h.length<=b->ι.free b)(hfrz:∀b,F.contains b=true->∃o,h[b]?=some o/\o.live=true)(hr:Rel I ι h w)(out:Out n0 (IF I ι F) (cut h1.length ι) h1 w I' ι' h' w'):Out n0 I ι h w I' ι' h' w':=by
 have hget:=ziy hf.blk
 simp only [Nat.zero_add] at hget
 have own1:∀c,Own (cut h1.length ι) h1 c->Own ι h c:=by
  rintro c ⟨b,o',h2,h3,h4⟩
  have hι:=(zni h4).2
  rcases hget b o' h2 with ⟨o,ho,hw⟩ | ⟨h5,_⟩
  ·exact ⟨b,o,ho,(zj9 hw h3).1,hι⟩
  ·exact absurd hι (hfr b h5).not
 refine ⟨out.rel,out.fresh,⟨out.keep.os,out.keep.tape,out.keep.output,out.keep.size,fun c hc hn=>out.keep.block c hc fun ho=>hn (own1 c ho)⟩,fun c hc=>out.imm c (.inl hc),?_,?_,?_,out.len⟩
 ·intro c hc
  rcases out.new c hc with h | h | h
  ·rcases h with h | ⟨b,hbF,hb⟩
   ·exact .inl h
   ·obtain ⟨o,ho,hl⟩:=hfrz b hbF
    exact .inr (.inr ⟨b,o,ho,hl,hb⟩)
  ·exact .inr (.inl h)
  ·exact .inr (.inr (own1 c h))
 ·intro c hc
  exact (out.own c hc).imp (own1 c) id
 ·intro b hb
  have hlt:b<h1.length:=Nat.lt_of_lt_of_le hb hf.len
  have:=out.moved b hb
  have e:cut h1.length ι b=ι b:=by simp [cut,hlt]
  exact ⟨fun c u s hc=>this.1 c u s (e.trans hc),fun c hc=>this.2 c (e.trans hc)⟩
def AT0(n0:Nat)(F:List Nat)(s1:zaC)(h1:Hp)(s:zaC)(h:Hp):Prop:=Weak n0 F s h s1 h1/\F.all (fun b=>match h[b]? with | some o=>o.live | none=>false)=true
theorem AT0.frz{F s1 h1 s h}(ha:AT0 n0 F s1 h1 s h):∀b,F.contains b=true->∃o,h[b]?=some o/\o.live=true:=by
 intro b hb
 have:=(List.all_eq_true.1 ha.2) b (by simpa using hb)
 split at this
 ·rename_i o ho; exact ⟨o,ho,this⟩
 ·cases this
structure Gs where
 F:List Nat
 g:List Gh
instance:Coe (List Nat) Gs:=⟨fun F=>⟨F,[]⟩⟩
def AT(n0:Nat)(G:Gs)(s1:zaC)(h1:Hp)(s:zaC)(h:Hp):Prop:=∃h2,ghs h G.g=some h2/\AT0 n0 G.F s1 h1 s h2
def atP(n0:Nat)(F:List Nat)(s1:zaC)(h1:Hp)(s:zaC)(h:Hp):Prop :=
 F.all (fun b=>match h[b]? with | some o=>o.live | none=>false)=true/\F.all (fun b=>decide (b<h.length))=true/\n0<=h1.length/\zgy h1.length s1=true/\ze2 h1.length h1=true/\wkH h F 0 h h1/\wkSl h F s s1
theorem AT0.of{F s1 h1 s h}(ha:atP n0 F s1 h1 s h):AT0 n0 F s1 h1 s h:=⟨⟨ha.2.1,ha.2.2.2.2.2.2,ha.2.2.1,ha.2.2.2.2.2.1,ha.2.2.2.1,ha.2.2.2.2.1⟩,ha.1⟩
theorem AT.sound{G s1 h1 s h}(hf:AT n0 G s1 h1 s h){I ι w}(hr:Rel I ι h w)(hfr:∀b,h.length<=b->ι.free b)(hn:n0<=h.length) :
  ∃I1 ι1,Rel I1 ι1 h1 w/\(∀b,h1.length<=b->ι1.free b)/\n0<=h1.length/\(∀N a,AR I w ι N s a->AR I1 w ι1 N s1 a)/\∀{I' ι' h' w'},Out n0 I1 ι1 h1 w I' ι' h' w'->Out n0 I ι h w I' ι' h' w':=by
 obtain ⟨h2,hg,hf⟩:=hf
 obtain ⟨ι2,k⟩:=zpl hr hfr hg
 refine ⟨IF I ι2 G.F,cut h1.length ι2,hf.1.rel (k.fresh hfr) hf.frz k.rel,fun b hb=>zoQ hb,hf.1.len,fun N a ar=>hf.1.ar k.rel ⟨ar.size,fun t=>k.vr _ _ (ar.get t),ar.defers⟩,fun out=>(k.out hfr hn).trans (hf.1.out (k.fresh hfr) hf.frz k.rel out)⟩
theorem WP.weak{c s h s1 h1 Q}{G:Gs}(hf:AT n0 G s1 h1 s h)(hw:WP P N n0 c s1 h1 Q):WP P N n0 c s h Q:=by
 intro I ι w a hr hfr hn ar
 obtain ⟨I1,ι1,k1,k2,k3,k4,k5⟩:=hf.sound hr hfr hn
 refine wp_mono (hw I1 ι1 w a k1 k2 k3 (k4 N a ar)) fun e a' w' ⟨I',ι',s',h',q,out,ar'⟩=>?_
 exact ⟨I',ι',s',h',q,k5 out,ar'⟩
theorem WP.weakN{c s h}{K:zaC->Hp->Prop}{Q:Exit->zaC->Hp->Prop}(hw:WP P N n0 c s h (zeK (fun s' h'=>∃G s1 h1,AT n0 G s1 h1 s' h'/\K s1 h1) Q)):WP P N n0 c s h (zeK K Q):=by
 intro I ι w a hr hfr hn ar
 refine wp_mono (hw I ι w a hr hfr hn ar) fun e a' w' ⟨I',ι',s',h',q,out,ar'⟩=>?_
 cases e with
 | normal =>
  obtain ⟨G,s1,h1,hf,q⟩:=q
  obtain ⟨I1,ι1,k1,k2,k3,k4,k5⟩:=hf.sound out.rel out.fresh out.len
  exact ⟨I1,ι1,s1,h1,q,out.trans (k5 (Out.refl k1 k2 k3)),k4 N a' ar'⟩
 | _=>exact ⟨I',ι',s',h',q,out,ar'⟩
mutual
def rv(b ver n:Nat):AV->AV
 | .msl b' v off e len cap=>if b'=b/\v=ver then .msl n 1 off e len cap else .msl b' v off e len cap
 | .agg cs=>.agg (rvs b ver n cs)
 | .tuple vs=>.tuple (rvs b ver n vs)
 | x=>x
def rvs(b ver n:Nat):List AV->List AV
 | []=>[]
 | x::xs=>rv b ver n x::rvs b ver n xs
end
theorem zg4(b ver n:Nat):∀l:List AV,rvs b ver n l=l.map (rv b ver n)
 | []=>rfl
 | x::l=>by simp only [rvs,List.map_cons,zg4 b ver n l]
theorem VR.rv{I w}{ι ι':Io}{b ver n:Nat}(hm:∀b x,ι b=some x->ι' b=some x)(hb:∀c sz,ι b=some (c,ver,sz)->ι' n=some (c,1,sz))(hc:∀c cur sz,ι b=some (c,cur,sz)->cur=ver){x v}(h:VR I w ι x v):VR I w ι' (Vs.rv b ver n x) v:=by
 have base:∀{x v},VR I w ι x v->VR I w ι' x v:=fun {x v} h=>by
  have:=h.ren (m:=fun b=>b) (ι':=ι') hm
  have e:∀x:AV,Vs.ren (fun b=>b) x=x/\True:=fun x=>by
   induction x using AV.rec (motive_2:=fun l=>rens (fun b=>b) l=l) (motive_3:=fun _=>True) (motive_4:=fun _=>True) (motive_5:=fun _=>True) <;> simp_all [Vs.ren,rens]
  rw [(e x).1] at this; exact this
 induction h with
 | @msl ι b' v' off esz len cap a m ccap c cur sz h hv hcc =>
  simp only [Vs.rv]
  split
  ·rename_i hh
   obtain ⟨rfl,rfl⟩:=hh
   obtain rfl:=hc _ _ _ h
   exact .msl c 1 sz (hb c sz h) (Nat.le_refl _) fun _=>hcc rfl
  ·exact .msl c cur sz (hm _ _ h) hv hcc
 | @mslnil ι b' v' off esz =>
  simp only [Vs.rv]
  split
  ·exact .mslnil
  ·exact .mslnil
 | agg hl _ ih =>
  simp only [Vs.rv]
  refine .agg (by rw [zg4,List.length_map]; exact hl) fun j x y a b=>?_
  rw [zg4,List.getElem?_map,Option.map_eq_some_iff] at a
  obtain ⟨x0,a',rfl⟩:=a
  exact ih j x0 y a' b hm hb hc base
 | tuple hl _ ih =>
  simp only [Vs.rv]
  refine .tuple (by rw [zg4,List.length_map]; exact hl) fun j x y a b=>?_
  rw [zg4,List.getElem?_map,Option.map_eq_some_iff] at a
  obtain ⟨x0,a',rfl⟩:=a
  exact ih j x0 y a' b hm hb hc base
 | undef=>exact .undef
 | bool b=>exact .bool b
 | int k n=>exact .int k n
 | str s=>exact .str s
 | nilp=>exact .nilp
 | nilmap=>exact .nilmap
 | nilfn=>exact .nilfn
 | nili=>exact .nili
 | nils=>exact .nils
 | emp=>exact .emp
 | ptr c cur sz h hv hcc=>exact .ptr c cur sz (hm _ _ h) hv hcc
 | eptr c cur sz h hv hcc=>exact .eptr c cur sz (hm _ _ h) hv hcc
 | iptr c bs0 hI hs hv=>exact .iptr c bs0 hI hs hv
 | sl0=>exact .sl0
 | sl esz c off cap hI hn hcap hl hs hv=>exact .sl esz c off cap hI hn hcap hl hs hv
 | map c h=>exact .map c (hm _ _ h)
 | optp0=>exact .optp0
 | optp c cur sz h hcc=>exact .optp c cur sz (hm _ _ h) hcc
 | bptr c cur sz h hv hcc=>exact .bptr c cur sz (hm _ _ h) hv hcc
 | bptr0=>exact .bptr0
 | func h1 h2 h3 h4 _ _=>exact base (.func h1 h2 h3 h4)
 | iface h _=>exact base (.iface h)
def rnm1(h:Hp)(b:Nat):Option (Nat × Hp):=match h[b]? with | some (.rows rs k v ty)=>some (v,(h.set b .dead)++[.rows rs k 1 ty]) | _=>none
theorem zpQ{I ι h w b v h'}(hr:Rel I ι h w)(hf:ι.free h.length)(hg:rnm1 h b=some (v,h')):∃ι',GhOk I ι h w ι' h'/\∀x u,VR I w ι x u->VR I w ι' (rv b v h.length x) u:=by
 unfold rnm1 at hg
 split at hg
 ·rename_i rs k v' ty hb
  simp only [Option.some.injEq,Prod.mk.injEq] at hg
  obtain ⟨rfl,rfl⟩:=hg
  have hlt:b<h.length:=(List.getElem?_eq_some_iff.1 hb).1
  have hcur:∀c cur sz,ι b=some (c,cur,sz)->cur=v':=fun c cur sz e=>(hr.real b _ _ e hb).1.symm
  let ι':Io:=⟨fun b'=>if b'=h.length then (ι b).map (fun q=>(q.1,1,q.2.2)) else ι b',fun b' d=>if b'=h.length then ι.sub b d else ι.sub b' d⟩
  have e1:ι' h.length=(ι b).map (fun q=>(q.1,1,q.2.2)):=by simp [ι']
  have e2:∀b',b'≠h.length->ι' b'=ι b':=fun b' e=>by simp [ι',e]
  have s1:ι'.sub h.length=ι.sub b:=by funext d; simp [ι']
  have s2:∀b',b'≠h.length->ι'.sub b'=ι.sub b':=fun b' e=>by funext d; simp [ι',e]
  have hm:∀b' x,ι b'=some x->ι' b'=some x:=fun b' x e=>by
   by_cases n1:b'=h.length
   ·subst n1; rw [hf.1] at e; cases e
   ·rw [e2 b' n1]; exact e
  have hmv:∀b',zby ι ι' b':=fun b'=>by
   by_cases n1:b'=h.length
   ·subst n1; exact ⟨fun c u s hc=>(by rw [hf.1] at hc; cases hc),fun c hc=>(by rw [hf.1] at hc; cases hc)⟩
   ·exact zby.of_eq (e2 b' n1)
  have hvv:∀x v,VR I w ι x v->VR I w ι' x v:=fun x v h=>h.mono (fun _ h=>h) (fun _ _=>rfl) ι' (fun b=>(hmv b).1) (fun b=>(hmv b).2)
  have atn:∀c,At ι' h.length c->At ι b c:=fun c hc=>by
   rcases hc with ⟨u,s,h1⟩ | h1
   ·rw [e1,Option.map_eq_some_iff] at h1
    obtain ⟨⟨c0,u0,z0⟩,h2,h3⟩:=h1
    simp only [Prod.mk.injEq] at h3
    obtain ⟨rfl,_,_⟩:=h3
    exact .inl ⟨u0,z0,h2⟩
   ·rw [s1] at h1; exact .inr h1
  have ato:∀b' c,b'≠h.length->At ι' b' c->At ι b' c:=fun b' c n1 hc=>by
   rcases hc with ⟨u,s,h1⟩ | h1
   ·rw [e2 b' n1] at h1; exact .inl ⟨u,s,h1⟩
   ·rw [s2 b' n1] at h1; exact .inr h1
  have get:∀(b':Nat) o',((h.set b .dead)++[.rows rs k 1 ty])[b']?=some o'->(b'=h.length/\o'=.rows rs k 1 ty)\/(b'=b/\o'=.dead)\/(b'≠h.length/\b'≠b/\h[b']?=some o'):=by
   intro b' o' h1
   by_cases n1:b'=h.length
   ·subst n1
    rw [List.getElem?_append_right (by simp)] at h1
    simp at h1
    exact .inl ⟨rfl,h1.symm⟩
   ·have hl:=(List.getElem?_eq_some_iff.1 h1).1
    simp at hl
    rw [List.getElem?_append_left (by simp; omega),List.getElem?_set] at h1
    by_cases n2:b=b'
    ·rw [if_pos n2,if_pos hlt] at h1
     exact .inr (.inl ⟨n2.symm,(Option.some.inj h1).symm⟩)
    ·rw [if_neg n2] at h1
     exact .inr (.inr ⟨n1,fun e=>n2 e.symm,h1⟩)
  have back:∀(b':Nat) o' c,((h.set b .dead)++[.rows rs k 1 ty])[b']?=some o'->o'.live=true->At ι' b' c->∃bo oo,h[bo]?=some oo/\oo.live=true/\At ι bo c/\((b'=h.length/\bo=b)\/(b'≠h.length/\b'≠b/\bo=b')):=by
   intro b' o' c h1 h2 h3
   rcases get b' o' h1 with ⟨rfl,rfl⟩ | ⟨rfl,rfl⟩ | ⟨n1,n2,g⟩
   ·exact ⟨b,_,hb,rfl,atn c h3,.inl ⟨rfl,rfl⟩⟩
   ·cases h2
   ·exact ⟨b',o',g,h2,ato b' c n1 h3,.inr ⟨n1,n2,rfl⟩⟩
  have own:∀c,Own ι' ((h.set b .dead)++[.rows rs k 1 ty]) c->Own ι h c:=by
   rintro c ⟨b',o',h1,h2,h3⟩
   obtain ⟨bo,oo,g1,g2,g3,_⟩:=back b' o' c h1 h2 h3
   exact ⟨bo,oo,g1,g2,g3⟩
  refine ⟨ι',⟨⟨?_,?_,hr.tab,?_,?_,fun c hc=>hr.sep c (own c hc),?_,hr.ilt,?_⟩,fun b' hb'=>?_,own,hmv,by simp,hvv⟩,fun x u hx=>hx.rv hm (fun c sz e=>by rw [e1,e]; rfl) hcur⟩
  ·intro b' x2 o2 hx2 ho2
   rcases get b' o2 ho2 with ⟨rfl,rfl⟩ | ⟨rfl,rfl⟩ | ⟨n1,n2,g⟩
   ·rw [e1,Option.map_eq_some_iff] at hx2
    obtain ⟨⟨c0,u0,z0⟩,h2,rfl⟩:=hx2
    obtain ⟨g1,g0,arr,f,q1,q2,q3,q4,q5,q6⟩:=hr.real b _ _ h2 hb
    rw [s1]
    exact ⟨rfl,Nat.one_pos,arr,f,q1,q2,q3,q4,q5,fun i r j x y a b' e=>(q6 i r j x y a b' e).imp (hvv _ _) id⟩
   ·trivial
   ·rw [e2 b' n1] at hx2
    rw [s2 b' n1]
    exact BR.mono (fun _ h=>h) (fun _ _=>rfl) hmv (fun d hd=>hd) (fun _ _=>rfl) rfl (hr.real b' x2 o2 hx2 g)
  ·intro b' o2 ho2 hl2
   rcases get b' o2 ho2 with ⟨rfl,rfl⟩ | ⟨rfl,rfl⟩ | ⟨n1,n2,g⟩
   ·have hl3:LO.born (.rows rs k v' ty)=true:=by cases rs with | nil=>cases hl2 | cons=>rfl
    have:=hr.dom b _ hb hl3
    rw [e1]
    simpa using this
   ·cases hl2
   ·rw [e2 b' n1]; exact hr.dom b' o2 g hl2
  ·intro b1 b2 o1 o2 c h1 l1 h2 l2 a1 a2
   obtain ⟨p1,q1,g1,k1,m1,r1⟩:=back b1 o1 c h1 l1 a1
   obtain ⟨p2,q2,g2,k2,m2,r2⟩:=back b2 o2 c h2 l2 a2
   have:=hr.inj p1 p2 q1 q2 c g1 k1 g2 k2 m1 m2
   rcases r1 with ⟨u1,u2⟩ | ⟨u1,u2,u3⟩ <;> rcases r2 with ⟨w1,w2⟩ | ⟨w1,w2,w3⟩ <;> omega
  ·intro b1 c u s h1 h2
   by_cases n1:b1=h.length
   ·subst n1
    rw [e1,Option.map_eq_some_iff] at h1
    obtain ⟨⟨c0,u0,z0⟩,h3,h4⟩:=h1
    simp only [Prod.mk.injEq] at h4
    obtain ⟨rfl,_,_⟩:=h4
    rw [s1] at h2
    exact hr.own1 b _ _ _ h3 h2
   ·rw [e2 b1 n1] at h1; rw [s2 b1 n1] at h2; exact hr.own1 b1 c u s h1 h2
  ·intro b1 c h1
   by_cases n1:b1=h.length
   ·subst n1; exact hr.lt b c (atn c h1)
   ·exact hr.lt b1 c (ato b1 c n1 h1)
  ·intro b' ho2
   rcases get b' _ ho2 with ⟨_,e⟩ | ⟨_,e⟩ | ⟨n1,n2,g⟩
   ·cases e
   ·cases e
   ·have:=hr.hole b' g
    exact ⟨by rw [e2 b' n1]; exact this.1,fun c hc=>this.2 c (by rw [s2 b' n1] at hc; exact hc)⟩
  ·simp at hb'
   exact ⟨e2 b' (by omega),s2 b' (by omega)⟩
 ·cases hg
def rnms(h:Hp):List (Option Nat)->AV->Option (AV × Hp)
 | [],x=>some (x,h)
 | none::bs,x=>rnms (h++[.hole]) bs x
 | some b::bs,x=>(rnm1 h b).bind fun q=>rnms q.2 bs (rv b q.1 h.length x)
theorem zjL{I w}:∀{bs:List (Option Nat)} {ι h x x' h' u},Rel I ι h w->(∀b,h.length<=b->ι.free b)->rnms h bs x=some (x',h')->VR I w ι x u->∃ι',GhOk I ι h w ι' h'/\VR I w ι' x' u
 | [],ι,h,x,x',h',u,hr,hf,hg,hx=>by
  simp only [rnms,Option.some.injEq,Prod.mk.injEq] at hg
  obtain ⟨rfl,rfl⟩:=hg
  exact ⟨ι,GhOk.refl hr,hx⟩
 | none::bs,ι,h,x,x',h',u,hr,hf,hg,hx=>by
  simp only [rnms] at hg
  obtain ⟨ι1,k1⟩:=zpl (g:=[.res]) (h':=h++[.hole]) hr hf rfl
  obtain ⟨ι2,k2,hx2⟩:=zjL k1.rel (k1.fresh hf) hg (k1.vr _ _ hx)
  exact ⟨ι2,k1.trans k2,hx2⟩
 | some b::bs,ι,h,x,x',h',u,hr,hf,hg,hx=>by
  simp only [rnms,Option.bind_eq_some_iff] at hg
  obtain ⟨⟨v,h1⟩,hg1,hg2⟩:=hg
  obtain ⟨ι1,k1,hv1⟩:=zpQ hr (hf _ (Nat.le_refl _)) hg1
  obtain ⟨ι2,k2,hx2⟩:=zjL k1.rel (k1.fresh hf) hg2 (hv1 _ _ hx)
  exact ⟨ι2,k1.trans k2,hx2⟩
def zgn(P:Program)(fn:Func)(n:Nat)(r:AV)(h':Hp):Exit->zaC->Hp->Prop:=fun e s h =>
 (e=.normal\/e=.ret)/\∃l,zfK P s h fn.results.toList=some l/\∃bs x' h2 G,rnms h bs (one? l)=some (x',h2)/\AT n G [(0,r)] h' [(0,x')] h2
theorem HF.of_wp{f:FuncId}{fn:Func}{c:Code}{args:List AV}{h:Hp}{r:AV}{h':Hp}(hf:P.funcs[f]?=some fn)(hb:fn.body=some c)(hn:args.length<=fn.ntmps)
  (hw:WP P fn.ntmps h.length c (argS 0 args) h (zgn P fn h.length r h')):HF P f args h r h':=by
 intro I ι w vs hr hfr hvs
 have ar:AR I w ι fn.ntmps (argS 0 args) { tmps:=vs++Array.replicate (fn.ntmps-vs.size) undef,defers:=[] }:=by
  refine ⟨by simp [hvs.1]; omega,fun t=>?_,rfl⟩
  rw [zkL,if_pos (Nat.zero_le _)]
  simp only [Nat.sub_zero]
  cases hx:args[t]? with
  | none=>exact .undef
  | some x =>
   have hlt:t<vs.size:=by have:=(List.getElem?_eq_some_iff.1 hx).1; rw [hvs.1]; exact this
   simp only [Option.getD_some]
   refine hvs.2 t x _ hx ?_
   have e1:(vs++Array.replicate (fn.ntmps-vs.size) undef)[t]?=some vs[t]:=by
    rw [Array.getElem?_append_left hlt]; simp [hlt]
   rw [Array.getD_eq_getD_getElem?,e1]
   simp [hlt]
 refine calls_of_wp hf hb (wp_mono (hw I ι w _ hr hfr (Nat.le_refl _) ar) fun e a' w' ⟨I',ι',s',h2,⟨he,l,hl,bs,x',h3,G,hrn,hat⟩,out,ar'⟩=>?_)
 obtain ⟨v,hrun,hv⟩:=zg6 (P:=P) out.rel ar' hl
 obtain ⟨ι3,kk,hv3⟩:=zjL out.rel out.fresh hrn hv
 obtain ⟨I1,ι1,k1,k2,k3,k4,k5⟩:=hat.sound kk.rel (kk.fresh out.fresh) (Nat.le_trans out.len kk.len)
 have ha:=(k4 1 { tmps:=#[v],defers:=[] } ⟨rfl,fun t=>by
  simp only [zaC.get]
  split
  ·rename_i e; subst e; exact hv3
  ·exact .undef,rfl⟩).get 0
 have hpost:a'.defers=[]/\∃v,(results fn a'.tmps).run P w'=.ok v w'/\∃v_1 I' ι',Ending.returned v=.returned v_1/\Out h.length I ι h w I' ι' h' w'/\VR I' w' ι' r v_1 :=
  ⟨ar'.defers,v,hrun,v,I1,ι1,rfl,out.trans ((kk.out out.fresh out.len).trans (k5 (Out.refl k1 k2 k3))),by simpa [zaC.get] using ha⟩
 rcases he with rfl | rfl
 ·exact hpost
 ·exact hpost
theorem HF.of{f:FuncId}{fn:Func}{c:Code}{args:List AV}{h:Hp}{r:AV}{h':Hp}{N n:Nat}(hf:P.funcs[f]?=some fn)(hb:fn.body=some c)(hN:fn.ntmps=N)(hn:args.length<=N)(hh:h.length=n)
  (hw:WK P N n c (zgn P fn n r h') (argS 0 args) h):HF P f args h r h':=by
 subst hN; subst hh; exact HF.of_wp hf hb hn hw
theorem zgn.retW{fn:Func}{n:Nat}{r:AV}{h':Hp}{s h}(G:Gs)(hr:onS (zfK P s h fn.results.toList) fun l=>AT n G [(0,r)] h' [(0,one? l)] h):zgn P fn n r h' .ret s h:=by
 obtain ⟨x,hx,h1⟩:=zav hr
 exact ⟨.inr rfl,x,hx,[],_,h,G,rfl,h1⟩
def zfg{α R:Type}(step:α->Option (α ⊕ R)):Nat->α->Option R
 | 0,_=>none
 | n+1,a=>match step a with
  | none=>none
  | some (.inr r)=>some r
  | some (.inl a')=>zfg step n a'
theorem zgf{α R:Type}{step:α->Option (α ⊕ R)}:∀{n m:Nat} {a:α} {r:R},n<=m->zfg step n a=some r->zfg step m a=some r
 | 0,_,_,_,_,h=>by simp [zfg] at h
 | n+1,0,_,_,hle,_=>by omega
 | n+1,m+1,a,r,hle,h=>by
  simp only [zfg] at h ⊢
  split at h
  ·cases h
  ·exact h
  ·exact zgf (by omega) h
open Classical in
noncomputable def zbn{α R:Type}(step:α->Option (α ⊕ R))(a:α):Option R :=
 if h:∃r n,zfg step n a=some r then some h.choose else none
theorem zfV{α R:Type}{step:α->Option (α ⊕ R)}{a:α}{r:R}:zbn step a=some r ↔ ∃n,zfg step n a=some r:=by
 unfold zbn
 constructor
 ·intro h
  split at h
  ·rename_i hex
   obtain rfl:=Option.some.inj h
   exact hex.choose_spec
  ·cases h
 ·rintro ⟨n,hn⟩
  have hex:∃r n,zfg step n a=some r:=⟨r,n,hn⟩
  rw [dif_pos hex]
  obtain ⟨m,hm⟩:=hex.choose_spec
  have h1:=zgf (Nat.le_max_left n m) hn
  have h2:=zgf (Nat.le_max_right n m) hm
  rw [h1] at h2
  exact h2.symm
theorem zon{α R:Type}{step:α->Option (α ⊕ R)}{a:α}{r:R}(n:Nat)(h:zfg step n a=some r):zbn step a=some r:=zfV.2 ⟨n,h⟩
theorem zbC{α R:Type}{step:α->Option (α ⊕ R)}{a a':α}(h:step a=some (.inl a')):zbn step a=zbn step a':=by
 apply Option.ext
 intro r
 rw [zfV,zfV]
 constructor
 ·rintro ⟨n,hn⟩
  cases n with
  | zero=>simp [zfg] at hn
  | succ n=>simp only [zfg,h] at hn; exact ⟨n,hn⟩
 ·rintro ⟨n,hn⟩
  exact ⟨n+1,by simp only [zfg,h]; exact hn⟩
theorem zaM{α R:Type}{step:α->Option (α ⊕ R)}{a:α}{r:R}(h:step a=some (.inr r)):zbn step a=some r:=zon 1 (by simp [zfg,h])
theorem W.loopM{c s h}{Q:Exit->zaC->Hp->Prop}{k}{α V R:Type}{step:α->Option (α ⊕ R)}(S:α->V->zaC × Hp){a0:α}(v0:V){r0:R}(hl:zbn step a0=some r0)(F:Gs)(h0:AT n0 F (S a0 v0).1 (S a0 v0).2 s h)
  (round:∀a v x,step a=some x->(∀r,x=.inr r->r=r0)->WK P N n0 c (zeK (fun s' h'=>∃a' v' F,x=.inl a'/\AT n0 F (S a' v').1 (S a' v').2 s' h') Q) (S a v).1 (S a v).2):W P N n0 (.loop c) Q s h k:=by
 refine WP.weak h0 ?_
 obtain ⟨n,hn⟩:=zfV.1 hl
 refine WP.loop (fun m s h=>∃a v,zfg step m a=some r0/\s=(S a v).1/\h=(S a v).2) n ⟨a0,v0,hn,rfl,rfl⟩ ?_
 rintro m s h ⟨a,v,hm,rfl,rfl⟩
 cases m with
 | zero=>simp [zfg] at hm
 | succ m =>
  simp only [zfg] at hm
  cases hx:step a with
  | none=>rw [hx] at hm; cases hm
  | some x =>
   rw [hx] at hm
   have hr:=round a v x hx (fun r e=>by subst e; simpa using hm)
   refine WP.weakN (WP.mono hr fun e s' h' q=>?_)
   cases e with
   | normal =>
    obtain ⟨a',v',F',rfl,hat⟩:=q
    exact ⟨F',_,_,hat,m,Nat.lt_succ_self m,a',v',hm,rfl,rfl⟩
   | _=>exact q
theorem W.weak{c s h s1 h1 Q k}(F:Gs)(hf:AT n0 F s1 h1 s h)(hw:WK P N n0 c Q s1 h1):W P N n0 c Q s h k:=WP.weak hf hw
theorem W.mono{c s h}{Q Q':Exit->zaC->Hp->Prop}{k}(hw:WK P N n0 c Q s h)(hq:∀e s h,Q e s h->Q' e s h):W P N n0 c Q' s h k:=WP.mono hw hq
theorem W.cut{x y s h Q k}(M:zaC->Hp->Prop)(hx:WK P N n0 x (zeK M Q) s h)(hy:∀s h,M s h->WK P N n0 y Q s h):W P N n0 (.seq x y) Q s h k :=
 WP.seq (WP.mono hx fun e s h q=>by cases e <;> first | exact hy s h q | exact q)
theorem W.regL{id}{l:List Oper}{s h Q k}(F:Gs)(s1:zaC)(h1:Hp)(hN:zdY N l.toArray=true)(hrun:RunE P l.toArray (fun s h=>AT n0 F s1 h1 s h) l s h (held _))(hy:Q .normal s1 h1):W P N n0 (.region id l.toArray false) Q s h k:=by
 have:=WP.weakN (K:=Q .normal) (Q:=Q) (WP.mono (W.region (P:=P) (N:=N) (n0:=n0) (id:=id) (k:=held _) (Q:=zeK (fun s h=>AT n0 F s1 h1 s h) (fun _ _ _=>False)) hN hrun) fun e s h q=>by
  cases e with
  | normal=>exact ⟨F,s1,h1,q,hy⟩
  | _=>exact q.elim)
 exact WP.mono this fun e s h q=>by cases e <;> exact q
theorem W.seqR{id}{l:List Oper}{y s h Q k}(F:Gs)(s1:zaC)(h1:Hp)(hN:zdY N l.toArray=true)(hrun:RunE P l.toArray (fun s h=>AT n0 F s1 h1 s h) l s h (held _))(hy:WK P N n0 y Q s1 h1):W P N n0 (.seq (.region id l.toArray false) y) Q s h k :=
 WP.seq (WP.mono (W.region (k:=held _) (Q:=zeK (fun s h=>AT n0 F s1 h1 s h) (fun _ _ _=>False)) hN hrun) fun e s h q=>by
  cases e with
  | normal=>exact WP.weak q hy
  | _=>exact q.elim)
attribute [go_sem] zip zgy ze2 zkK zaX zaU List.take_succ_cons List.take_zero List.take_nil
end Go.Vs
end
section
namespace Go.Vs
variable [Tab]
variable {P:Program} {N n0:Nat}
def hop(H:List Nat)(i:Nat):Bool:=H.contains i
def zdf(ops:Array Oper)(o:Oper):List Nat :=
 o.dst.toList++(o.op.operands.toList.filterMap fun | .tmp t=>some t | _=>none)++(match o.guard with | some (j,_)=>((ops[j]?).bind (·.dst)).toList | none=>[])
def zhz(ops:Array Oper):Nat->Nat->List Nat
 | 0,_=>[]
 | f+1,j=>match ops[j]? with
  | some o=>o.after.toList.flatMap fun e=>if Region.binds .any e then e.on::zhz ops f e.on else []
  | none=>[]
def zf9(L A B:List Nat)(ops:Array Oper)(i j:Nat)(x y:Oper):Bool:=(hop L i&&!(hop A i&&hop B j))||(hop L j&&!(hop A j&&hop B i))||(match x.dst with | some d=>(zdf ops y).contains d | none=>false)||(match y.dst with | some d=>(zdf ops x).contains d | none=>false)
def zdZ(L A B:List Nat)(ops:Array Oper):Bool :=
 (B.all fun i=>!hop L i)&&(List.range ops.size).all fun j=>(List.range j).all fun i =>
  match ops[i]?,ops[j]? with
  | some x,some y=>!zf9 L A B ops i j x y||(zhz ops ops.size j).contains i
  | _,_=>true
def upOk(ops:Array Oper):Bool :=
 (List.range ops.size).all fun j=>match ops[j]? with
  | some o=>o.after.toList.all fun e=>!Region.binds .any e||decide (e.on<j)
  | none=>true
def cloV(ops:Array Oper)(C:List (List Nat)):Bool :=
 (List.range ops.size).all fun j=>match ops[j]? with
  | some o=>(C.getD j []).all fun i=>o.after.toList.any fun e=>Region.binds .any e&&(e.on==i||(C.getD e.on []).contains i)
  | none=>true
theorem zpu{ops:Array Oper}(C:List (List Nat))(hu:upOk ops=true)(hv:cloV ops C=true):∀(j:Nat) (o:Oper),ops[j]?=some o->∀i∈C.getD j [],∀f,j<f->i∈zhz ops f j:=by
 intro j
 induction j using Nat.strongRecOn with
 | ind j ih =>
  intro o ho i hi f hf
  have hj:j<ops.size:=(Array.getElem?_eq_some_iff.1 ho).1
  have h1:=(List.all_eq_true.1 hv) j (List.mem_range.2 hj)
  rw [ho] at h1
  have h2:=(List.all_eq_true.1 h1) i hi
  obtain ⟨e,he,h3⟩:=List.any_eq_true.1 h2
  rw [Bool.and_eq_true,Bool.or_eq_true] at h3
  obtain ⟨hb,h3⟩:=h3
  have h4:=(List.all_eq_true.1 hu) j (List.mem_range.2 hj)
  rw [ho] at h4
  have h5:=(List.all_eq_true.1 h4) e he
  rw [hb] at h5
  have hlt:e.on<j:=by simpa using h5
  obtain ⟨f,rfl⟩:∃g,f=g+1:=⟨f-1,by omega⟩
  simp only [zhz,ho,List.mem_flatMap]
  refine ⟨e,he,?_⟩
  rw [if_pos hb]
  rcases h3 with h3 | h3
  ·have:e.on=i:=by simpa using h3
   rw [this]; exact List.mem_cons_self ..
  ·refine List.mem_cons_of_mem _ ?_
   have hon:ops[e.on]?=some (ops[e.on]'(by omega)):=Array.getElem?_eq_getElem (by omega)
   exact ih e.on hlt _ hon i (by simpa using h3) f (by omega)
def zsa(L A B:List Nat)(C:List (List Nat))(ops:Array Oper):Bool :=
 (B.all fun i=>!hop L i)&&(List.range ops.size).all fun j=>(List.range j).all fun i =>
  match ops[i]?,ops[j]? with
  | some x,some y=>!zf9 L A B ops i j x y||(C.getD j []).contains i
  | _,_=>true
theorem zf3{ops:Array Oper}{L A B:List Nat}(C:List (List Nat))(hu:upOk ops=true)(hv:cloV ops C=true)(hd:zsa L A B C ops=true):zdZ L A B ops=true:=by
 have key:=zpu C hu hv
 unfold zsa at hd
 unfold zdZ
 rw [Bool.and_eq_true] at hd ⊢
 refine ⟨hd.1,List.all_eq_true.2 fun j hj=>List.all_eq_true.2 fun i hi=>?_⟩
 have h1:=(List.all_eq_true.1 ((List.all_eq_true.1 hd.2) j hj)) i hi
 have hj':j<ops.size:=List.mem_range.1 hj
 have hi':i<j:=List.mem_range.1 hi
 have e1:ops[j]?=some (ops[j]'hj'):=Array.getElem?_eq_getElem hj'
 have e2:ops[i]?=some (ops[i]'(by omega)):=Array.getElem?_eq_getElem (by omega)
 rw [e1,e2] at h1 ⊢
 simp only [Bool.or_eq_true] at h1 ⊢
 refine h1.imp id fun h=>?_
 have:=key j _ e1 i (by simpa using h) ops.size hj'
 simpa using this
theorem zep{ops:Array Oper}{listed:Array Bool}(hd:∀i o,ops[i]?=some o->listed.getD i false=true->∀e∈o.after,Region.binds .any e=true->listed.getD e.on false=true) :
  ∀(f j:Nat) (o:Oper),ops[j]?=some o->(∀e∈o.after,Region.binds .any e=true->listed.getD e.on false=true)->∀i∈zhz ops f j,listed.getD i false=true
 | 0,j,o,ho,h,i,hi=>by simp [zhz] at hi
 | f+1,j,o,ho,h,i,hi=>by
  simp only [zhz,ho,List.mem_flatMap] at hi
  obtain ⟨e,he,hi⟩:=hi
  split at hi
  ·rename_i hb
   have hl:=h e (by simpa using he) hb
   rcases List.mem_cons.1 hi with rfl | hi
   ·exact hl
   ·cases hoe:ops[e.on]? with
    | none=>cases f <;> simp [zhz,hoe] at hi
    | some o'=>exact zep hd f e.on o' hoe (hd e.on o' hoe hl) i hi
  ·simp at hi
def RunD(P:Program)(ops:Array Oper)(L A B:List Nat)(m:Nat)(Q:zaC->Hp->Prop):Nat->List Oper->zaC->Hp->Prop
 | _,[],s,h=>Q s h
 | k,o::rest,s,h =>
  match zce ops s o with
  | some true=>∃r h',Step P o s.ev h r h'/\((hop L k=false->h'=h)/\(hop A k=true->h'.take m=h.take m)/\(hop B k=true->∀h2:Hp,h2.take m=h.take m->Step P o s.ev h2 r h2))/\RunD P ops L A B m Q (k+1) rest (s.put o.dst r) h'
  | some false=>RunD P ops L A B m Q (k+1) rest (s.put o.dst (.tuple [])) h
  | none=>False
def zit(P:Program)(ops:Array Oper)(L A B:List Nat)(m:Nat)(S:Nat->zaC)(H:Nat->Hp)(R:Nat->AV)(j:Nat)(o:Oper):Prop :=
 (zce ops (S j) o=some true/\Step P o (S j).ev (H j) (R j) (H (j+1))/\((hop L j=false->H (j+1)=H j)/\(hop A j=true->(H (j+1)).take m=(H j).take m)/\(hop B j=true->∀h2:Hp,h2.take m=(H j).take m->Step P o (S j).ev h2 (R j) h2)))\/(zce ops (S j) o=some false/\R j=.tuple []/\H (j+1)=H j)
def CF(P:Program)(ops:Array Oper)(L A B:List Nat)(m:Nat)(Q:zaC->Hp->Prop)(k n:Nat)(s:zaC)(h:Hp):Prop :=
 ∃(S:Nat->zaC) (H:Nat->Hp) (R:Nat->AV),S k=s/\H k=h/\Q (S (k+n)) (H (k+n)) /\
  (∀(j:Nat) o,k<=j->ops[j]?=some o->S (j+1)=(S j).put o.dst (R j))/\(∀(j:Nat) o,k<=j->ops[j]?=some o->zit P ops L A B m S H R j o)
theorem ziw{ops:Array Oper}{L A B:List Nat}{m:Nat}{Q:zaC->Hp->Prop}:∀(l:List Oper) (k:Nat) (s h),ops.toList.drop k=l->RunD P ops L A B m Q k l s h->CF P ops L A B m Q k l.length s h
 | [],k,s,h,hl,hr=>by
  refine ⟨fun _=>s,fun _=>h,fun _=>.tuple [],rfl,rfl,hr,fun j o hj ho=>?_,fun j o hj ho=>?_⟩ <;>
  ·have:ops.size<=k:=by simpa using List.drop_eq_nil_iff.1 hl
   have:=(Array.getElem?_eq_some_iff.1 ho).1
   omega
 | o::l,k,s,h,hl,hr=>by
  have ho:ops[k]?=some o:=by
   have:=congrArg (·[0]?) hl
   simpa using this
  have hl':ops.toList.drop (k+1)=l:=by
   have:=congrArg List.tail hl
   simpa using this
  simp only [RunD] at hr
  have glue:∀(r:AV) (h':Hp),((zce ops s o=some true/\Step P o s.ev h r h'/\((hop L k=false->h'=h)/\(hop A k=true->h'.take m=h.take m)/\(hop B k=true->∀h2:Hp,h2.take m=h.take m->Step P o s.ev h2 r h2)))\/(zce ops s o=some false/\r=.tuple []/\h'=h))->RunD P ops L A B m Q (k+1) l (s.put o.dst r) h'->CF P ops L A B m Q k (o::l).length s h:=by
   intro r h' hst hrun
   obtain ⟨S,H,R,e1,e2,hq,hp,hs⟩:=ziw l (k+1) (s.put o.dst r) h' hl' hrun
   refine ⟨fun j=>if j=k then s else S j,fun j=>if j=k then h else H j,fun j=>if j=k then r else R j,by simp,by simp,?_,?_,?_⟩
   ·simp only [List.length_cons]; rw [if_neg (by omega),if_neg (by omega)]; rw [show k+(l.length+1)=k+1+l.length by omega]; exact hq
   ·intro j o' hj ho'
    by_cases e:j=k
    ·subst e; rw [ho] at ho'; obtain rfl:=Option.some.inj ho'; simp [e1]
    ·simp only [if_neg e,if_neg (show ¬j+1=k by omega)]; exact hp j o' (by omega) ho'
   ·intro j o' hj ho'
    by_cases e:j=k
    ·subst e; rw [ho] at ho'; obtain rfl:=Option.some.inj ho'; simpa [zit,e2] using hst
    ·have:=hs j o' (by omega) ho'
     simp only [zit,if_neg e,if_neg (show ¬j+1=k by omega)] at this ⊢; exact this
  split at hr
  ·rename_i hg
   obtain ⟨r,h',hst,hh,hrun⟩:=hr
   exact glue r h' (.inl ⟨hg,hst,hh⟩) hrun
  ·rename_i hg
   exact glue (.tuple []) h (.inr ⟨hg,rfl,rfl⟩) hr
  ·exact hr.elim
def SD(ops:Array Oper)(R:Nat->AV)(listed:Array Bool)(s0:zaC):Nat->zaC
 | 0=>s0
 | j+1=>if listed.getD j false=true then (SD ops R listed s0 j).put ((ops[j]?).bind (·.dst)) (R j) else SD ops R listed s0 j
theorem zdX(s:zaC)(d:Option Nat)(r:AV)(t:Nat):(s.put d r).get t=if d=some t then r else s.get t:=by
 cases d with
 | none=>simp [zaC.put]
 | some d=>simp [zaC.put,zaC.get]
theorem ziu{ops:Array Oper}{R:Nat->AV}{listed:Array Bool}{S:Nat->zaC}(hS:∀(j:Nat) o,ops[j]?=some o->S (j+1)=(S j).put o.dst (R j)){t j:Nat}(hj:j<=ops.size)
  (hlow:∀(i:Nat) o,ops[i]?=some o->o.dst=some t->i<j->listed.getD i false=true) (hhigh:∀(i:Nat) o,ops[i]?=some o->o.dst=some t->j<=i->listed.getD i false=false) :
  (SD ops R listed (S 0) ops.size).get t=(S j).get t:=by
 have low:∀i,i<=j->(SD ops R listed (S 0) i).get t=(S i).get t:=by
  intro i
  induction i with
  | zero=>intro _; rfl
  | succ i ih =>
   intro hi
   have hlt:i<ops.size:=by omega
   have ho:ops[i]?=some ops[i]:=by simp [hlt]
   simp only [SD]
   rw [hS i _ ho,zdX]
   by_cases hd:ops[i].dst=some t
   ·rw [if_pos (hlow i _ ho hd (by omega)),zdX,ho]
    simp [hd]
   ·split
    ·rw [zdX,ho]; simp [hd,ih (by omega)]
    ·simp [hd,ih (by omega)]
 have high:∀n,j+n<=ops.size->(SD ops R listed (S 0) (j+n)).get t=(SD ops R listed (S 0) j).get t:=by
  intro n
  induction n with
  | zero=>intro _; rfl
  | succ n ih =>
   intro hn
   have hlt:j+n<ops.size:=by omega
   have ho:ops[j+n]?=some ops[j+n]:=by simp [hlt]
   rw [show j+(n+1)=(j+n)+1 by omega]
   simp only [SD]
   split
   ·rename_i hl
    rw [zdX,ho]
    have:¬ops[j+n].dst=some t:=fun hd=>by rw [hhigh (j+n) _ ho hd (by omega)] at hl; cases hl
    simp [this,ih (by omega)]
   ·exact ih (by omega)
 have:=high (ops.size-j) (by omega)
 rw [show j+(ops.size-j)=ops.size by omega] at this
 rw [this,low j (Nat.le_refl _)]
theorem zjz{α:Type}{p p':α->Bool}:∀(l:List α),(∀x∈l,p' x=true->p x=true)->(l.filter p').length<=(l.filter p).length
 | [],_=>by simp
 | x::l,h=>by
  have ih:=zjz l fun y hy=>h y (List.mem_cons_of_mem _ hy)
  have hx:=h x (List.mem_cons_self ..)
  simp only [List.filter_cons]
  cases e:p' x <;> cases e2:p x <;> simp_all <;> omega
theorem zht{α:Type}{p p':α->Bool}:∀(l:List α),(∀x∈l,p' x=true->p x=true)->(∃x∈l,p x=true/\p' x=false)->(l.filter p').length<(l.filter p).length
 | [],_,⟨x,hx,_⟩=>by simp at hx
 | x::l,h,⟨y,hy,h1,h2⟩=>by
  have ih:=zjz l fun y hy=>h y (List.mem_cons_of_mem _ hy)
  have hx:=h x (List.mem_cons_self ..)
  simp only [List.filter_cons]
  rcases List.mem_cons.1 hy with rfl | hy
  ·simp [h1,h2]; omega
  ·have ih2:=zht l (fun y hy=>h y (List.mem_cons_of_mem _ hy)) ⟨y,hy,h1,h2⟩
   cases e:p' x <;> cases e2:p x <;> simp_all <;> omega
theorem AR.congr{I w ι s s' a}(h:AR I w ι N s a)(e:∀t,s'.get t=s.get t):AR I w ι N s' a:=⟨h.size,fun t=>by rw [e]; exact h.get t,h.defers⟩
theorem zoL{ops:Array Oper}{L A B:List Nat}(hok:zdZ L A B ops=true){i:Nat}(h:hop B i=true):hop L i=false:=by
 unfold zdZ at hok
 rw [Bool.and_eq_true] at hok
 have:=(List.all_eq_true.1 hok.1) i (by simpa [hop] using h)
 simpa using this
theorem zhx{ops:Array Oper}{L A B:List Nat}(hok:zdZ L A B ops=true){i j:Nat}{x y:Oper}(hx:ops[i]?=some x)(hy:ops[j]?=some y)(hij:i<j)(ht:zf9 L A B ops i j x y=true):i∈zhz ops ops.size j:=by
 unfold zdZ at hok
 rw [Bool.and_eq_true] at hok
 replace hok:=hok.2
 have hj:j<ops.size:=(Array.getElem?_eq_some_iff.1 hy).1
 have h1:=(List.all_eq_true.1 hok) j (List.mem_range.2 hj)
 have h2:=(List.all_eq_true.1 h1) i (List.mem_range.2 hij)
 simp only [hx,hy,ht,Bool.not_true,Bool.false_or,List.contains_eq_mem,decide_eq_true_eq] at h2
 exact h2
theorem zl9{ops:Array Oper}(hup:upOk ops=true){j:Nat}{y:Oper}(hy:ops[j]?=some y):∀e∈y.after,Region.binds .any e=true->e.on<j:=by
 intro e he hb
 unfold upOk at hup
 have hj:j<ops.size:=(Array.getElem?_eq_some_iff.1 hy).1
 have h1:=(List.all_eq_true.1 hup) j (List.mem_range.2 hj)
 simp only [hy] at h1
 have h2:=(List.all_eq_true.1 h1) e (by simpa using he)
 simpa [hb] using h2
theorem zis{ops:Array Oper}(hup:upOk ops=true){listed:Array Bool}(hsz:listed.size=ops.size)(hr:Region.ready .any ops listed=[]):∀i,i<ops.size->listed.getD i false=true:=by
 intro i
 induction i using Nat.strongRecOn with
 | _ i ih =>
  intro hi
  cases hl:listed.getD i false with
  | true=>rfl
  | false =>
   exfalso
   have hlt:i<listed.size:=by omega
   have:i∈Region.ready .any ops listed:=by
    rw [mem_ready]
    refine ⟨?_,ops[i],by simp [hi],fun e he hb=>?_⟩
    ·simp only [Array.getD,hlt,dif_pos] at hl ⊢; exact hl
    ·have:=zl9 hup (j:=i) (y:=ops[i]) (by simp [hi]) e he hb
     exact ih e.on this (by omega)
   rw [hr] at this
   simp at this
theorem zhq{ops:Array Oper}{L A B:List Nat}{m:Nat}{S:Nat->zaC}{H:Nat->Hp}{R:Nat->AV}(hst:∀(j:Nat) o,ops[j]?=some o->zit P ops L A B m S H R j o){k i:Nat}(hki:k<=i)(hi:i<=ops.size)
  (hno:∀(e:Nat) o,ops[e]?=some o->k<=e->e<i->hop L e=false):H i=H k:=by
 induction i with
 | zero=>have:k=0:=by omega
         rw [this]
 | succ i ih =>
  by_cases e:k=i+1
  ·rw [e]
  ·have hlt:i<ops.size:=by omega
   have ho:ops[i]?=some ops[i]:=by simp [hlt]
   have h1:=ih (by omega) (by omega) fun e o ho h1 h2=>hno e o ho h1 (by omega)
   rw [← h1]
   rcases hst i _ ho with ⟨_,_,h2,_⟩ | ⟨_,_,h2⟩
   ·exact h2 (hno i _ ho (by omega) (by omega))
   ·exact h2
theorem zi1{ops:Array Oper}{L A B:List Nat}{m:Nat}{S:Nat->zaC}{H:Nat->Hp}{R:Nat->AV}(hst:∀(j:Nat) o,ops[j]?=some o->zit P ops L A B m S H R j o){k i:Nat}(hki:k<=i)(hi:i<=ops.size)
  (hno:∀(e:Nat) o,ops[e]?=some o->k<=e->e<i->hop L e=true->hop A e=true):(H i).take m=(H k).take m:=by
 induction i with
 | zero=>have:k=0:=by omega
         rw [this]
 | succ i ih =>
  by_cases e:k=i+1
  ·rw [e]
  ·have hlt:i<ops.size:=by omega
   have ho:ops[i]?=some ops[i]:=by simp [hlt]
   have h1:=ih (by omega) (by omega) fun e o ho h1 h2=>hno e o ho h1 (by omega)
   rw [← h1]
   rcases hst i _ ho with ⟨_,_,h2,h3,_⟩ | ⟨_,_,h2⟩
   ·cases hh:hop L i with
    | false=>rw [h2 hh]
    | true=>exact h3 (hno i _ ho (by omega) (by omega) hh)
   ·rw [h2]
theorem zkM{ops:Array Oper}{R:Nat->AV}{listed:Array Bool}{s0:zaC}{i t:Nat}{o:Oper}(ho:ops[i]?=some o)(hd:o.dst≠some t):∀j,(SD ops R (listed.setIfInBounds i true) s0 j).get t=(SD ops R listed s0 j).get t:=by
 intro j
 induction j with
 | zero=>rfl
 | succ j ih =>
  simp only [SD]
  by_cases e:i=j
  ·subst e
   split <;> split <;> simp [zdX,ho,hd,ih]
  ·rw [getD_set_ne false e]
   split
   ·rw [zdX,zdX,ih]
   ·exact ih
theorem zjE{ops:Array Oper}{L A B:List Nat}{m:Nat}(hN:∀o∈ops,∀t,o.dst=some t->t<N)(hok:zdZ L A B ops=true)(hup:upOk ops=true){S:Nat->zaC}{H:Nat->Hp}{R:Nat->AV}
  (hS:∀(j:Nat) o,ops[j]?=some o->S (j+1)=(S j).put o.dst (R j)) (hst:∀(j:Nat) o,ops[j]?=some o->zit P ops L A B m S H R j o)
  {Q:Exit->zaC->Hp->Prop} (hQ:Q .normal (S ops.size) (H ops.size)) {I0 ι0 h0 w0} :
  ∀(fuel:Nat) (listed:Array Bool) (a:Act) (w:World),listed.size=ops.size ->
   (∀(i:Nat) o,ops[i]?=some o->listed.getD i false=true->∀e∈o.after,Region.binds .any e=true->listed.getD e.on false=true) ->
   (∃k,k<=ops.size/\(∀(i:Nat) o,ops[i]?=some o->hop L i=true->(listed.getD i false=true ↔ i<k))/\∃I ι,Out n0 I0 ι0 h0 w0 I ι (H k) w/\AR I w ι N (SD ops R listed (S 0) ops.size) a) ->
   ((List.range ops.size).filter fun i=>!listed.getD i false).length<=fuel ->
   wpAny P .any ops (Post N n0 Q I0 ι0 h0 w0) fuel listed a w:=by
 intro fuel
 have fin:∀(listed:Array Bool) (a:Act) (w:World),listed.size=ops.size ->
   (∃k,k<=ops.size/\(∀(i:Nat) o,ops[i]?=some o->hop L i=true->(listed.getD i false=true ↔ i<k))/\∃I ι,Out n0 I0 ι0 h0 w0 I ι (H k) w/\AR I w ι N (SD ops R listed (S 0) ops.size) a) ->
   Region.ready .any ops listed=[]->Post N n0 Q I0 ι0 h0 w0 .normal a w:=by
  intro listed a w hsz ⟨k,hk,hheap,I,ι,out,ar⟩ hr
  have hall:=zis hup hsz hr
  have e:H ops.size=H k:=zhq hst hk (Nat.le_refl _) fun e o ho h1 h2=>by
   cases hh:hop L e with
   | false=>rfl
   | true=>have:=(hheap e o ho hh).1 (hall e h2); omega
  refine ⟨I,ι,S ops.size,H ops.size,hQ,by rw [e]; exact out,ar.congr fun t=>?_⟩
  exact (ziu hS (Nat.le_refl _) (fun i o ho _ h=>hall i h) (fun i o ho _ h=>by have:=(Array.getElem?_eq_some_iff.1 ho).1; omega)).symm
 induction fuel with
 | zero =>
  intro listed a w hsz hd hinv hc
  have hr:Region.ready .any ops listed=[]:=by
   rw [List.eq_nil_iff_forall_not_mem]
   intro i hi
   rw [mem_ready] at hi
   obtain ⟨h1,o,ho,_⟩:=hi
   have hlt:i<ops.size:=(Array.getElem?_eq_some_iff.1 ho).1
   have hlt2:i<listed.size:=by omega
   have h2:listed.getD i false=false:=by simp only [Array.getD,hlt2,dif_pos] at h1 ⊢; exact h1
   have:i∈(List.range ops.size).filter fun i=>!listed.getD i false:=List.mem_filter.2 ⟨List.mem_range.2 hlt,by simp only [h2,Bool.not_false]⟩
   have:=List.length_pos_of_mem this
   omega
  exact ⟨hr,fin listed a w hsz hinv hr⟩
 | succ fuel ih =>
  intro listed a w hsz hd hinv hc
  refine ⟨fun hr=>fin listed a w hsz hinv hr,fun i hi=>?_⟩
  rw [mem_ready] at hi
  obtain ⟨hli,o,ho,hpre⟩:=hi
  have hlt:i<ops.size:=(Array.getElem?_eq_some_iff.1 ho).1
  have hlt2:i<listed.size:=by omega
  have hlf:listed.getD i false=false:=by simp only [Array.getD,hlt2,dif_pos] at hli ⊢; exact hli
  obtain ⟨k,hk,hheap,I,ι,out,ar⟩:=hinv
  have before:∀(e:Nat) x,ops[e]?=some x->e<i->zf9 L A B ops e i x o=true->listed.getD e false=true:=fun e x hx he ht =>
   zep hd ops.size i o ho hpre e (zhx hok hx ho he ht)
  have behind:∀(e:Nat) x,ops[e]?=some x->i<e->zf9 L A B ops i e o x=true->listed.getD e false=false:=fun e x hx he ht=>by
   cases hl:listed.getD e false with
   | false=>rfl
   | true =>
    have:=zep hd ops.size e x hx (hd e x hx hl) i (zhx hok ho hx he ht)
    rw [hlf] at this; cases this
  have same:∀t,t∈zdf ops o->(SD ops R listed (S 0) ops.size).get t=(S i).get t:=fun t ht=>by
   refine ziu hS (Nat.le_of_lt hlt) (fun e x hx hxd he=>before e x hx he ?_) (fun e x hx hxd he=>?_)
   ·simp [zf9,hxd,ht]
   ·by_cases e2:e=i
    ·subst e2; exact hlf
    ·refine behind e x hx (by omega) ?_
     simp [zf9,hxd,ht]
  have hguard:zce ops (SD ops R listed (S 0) ops.size) o=zce ops (S i) o:=by
   unfold zce
   split
   ·rfl
   ·rename_i j want hg
    split
    ·rename_i t ht
     rw [same t (by simp [zdf,hg,ht])]
    ·rfl
  have hd':∀(i':Nat) o',ops[i']?=some o'->(listed.setIfInBounds i true).getD i' false=true->∀e∈o'.after,Region.binds .any e=true->(listed.setIfInBounds i true).getD e.on false=true:=by
   intro i' o' ho' hl' e he hb
   by_cases e2:i=i'
   ·subst e2
    rw [ho] at ho'; obtain rfl:=Option.some.inj ho'
    exact getD_set_true (hpre e he hb)
   ·rw [getD_set_ne false e2] at hl'
    exact getD_set_true (hd i' o' ho' hl' e he hb)
  have hset:(listed.setIfInBounds i true).getD i false=true:=by simp [Array.getD,hlt2]
  have hc':((List.range ops.size).filter fun j=>!(listed.setIfInBounds i true).getD j false).length<=fuel:=by
   have:=zht (p:=fun j=>!listed.getD j false) (p':=fun j=>!(listed.setIfInBounds i true).getD j false) (List.range ops.size) (fun x _ hx=>by
    by_cases e2:i=x
    ·subst e2; simp [hset] at hx
    ·simpa [getD_set_ne false e2] using hx) ⟨i,List.mem_range.2 hlt,by simp [hlf],by simp [hset]⟩
   omega
  have slots:∀t,(SD ops R (listed.setIfInBounds i true) (S 0) ops.size).get t=((SD ops R listed (S 0) ops.size).put o.dst (R i)).get t:=fun t=>by
   rw [zdX]
   by_cases hdt:o.dst=some t
   ·rw [if_pos hdt]
    have hnm:t∈zdf ops o:=by simp [zdf,hdt]
    rw [ziu hS (j:=i+1) (by omega) (fun e x hx hxd he=>?_) (fun e x hx hxd he=>?_),hS i o ho,zdX,if_pos hdt]
    ·by_cases e2:i=e
     ·subst e2; exact hset
     ·rw [getD_set_ne false e2]; exact before e x hx (by omega) (by simp [zf9,hxd,hnm])
    ·rw [getD_set_ne false (by omega)]; exact behind e x hx (by omega) (by simp [zf9,hxd,hnm])
   ·rw [if_neg hdt]; exact zkM ho hdt _
  have hdN:=hN o (Array.mem_of_getElem? ho)
  have hop2:∀x,x∈o.op.operands->VR I w ι ((S i).ev x) (a.eval x):=fun x hx=>by
   cases x with
   | tmp t =>
    show VR I w ι ((S i).get t) _
    rw [← same t (by simp only [zdf,List.mem_append]; exact .inl (.inr (List.mem_filterMap.2 ⟨.tmp t,by simpa using hx,rfl⟩)))]
    exact ar.get t
   | const v=>exact VR.ofC _ _ _ v
   | global g=>exact out.rel.tab.global g
   | func f=>exact .func (by simp) (by simp) (by simp) (by simp)
  cases hB:hop B i with
  | true =>
   have hLi:=zoL hok hB
   have hbetw:∀(e:Nat) x,ops[e]?=some x->hop L e=true->(e<k ↔ ¬e<i)->hop A e=true:=fun e x hx hh hne=>by
    cases hA:hop A e with
    | true=>rfl
    | false =>
     exfalso
     rcases Nat.lt_trichotomy e i with h | h | h
     ·have h1:=before e x hx h (by simp [zf9,hh,hA])
      have h2:=(hheap e x hx hh).1 h1
      omega
     ·subst h; rw [hLi] at hh; cases hh
     ·have h1:=behind e x hx h (by simp [zf9,hh,hA])
      have h2:¬e<k:=fun h2=>by rw [(hheap e x hx hh).2 h2] at h1; cases h1
      omega
   have eT:(H k).take m=(H i).take m:=by
    rcases Nat.le_total k i with h | h
    ·exact (zi1 hst h (Nat.le_of_lt hlt) fun e x hx h1 h2 hh=>hbetw e x hx hh (by omega)).symm
    ·exact zi1 hst h hk fun e x hx h1 h2 hh=>hbetw e x hx hh (by omega)
   have hheap4:∀(e:Nat) x,ops[e]?=some x->hop L e=true->((listed.setIfInBounds i true).getD e false=true ↔ e<k):=fun e x hx hh=>by
    by_cases e2:i=e
    ·subst e2; rw [hLi] at hh; cases hh
    ·rw [getD_set_ne false e2,hheap e x hx hh]
   unfold wpOp
   simp only [ho]
   rcases hst i o ho with ⟨hg,_,_,_,hlight⟩ | ⟨hg,hu,hH⟩
   ·rw [zcb ar (hguard.trans hg),if_pos rfl]
    left
    refine hlight hB (H k) eT I ι w a out.rel (fun b hb _=>out.fresh b hb) hop2 _ _ fun v w' I' ι' e hv=>?_
    have o2:=e.out (n0:=n0) out.fresh out.len
    exact ih _ _ _ (by simpa using hsz) hd' ⟨k,hk,hheap4,I',ι',out.trans o2,((ar.ext out.rel e).put _ hdN hv).congr slots⟩ hc'
   ·rw [zcb ar (hguard.trans hg),if_neg (by simp)]
    refine ih _ _ _ (by simpa using hsz) hd' ⟨k,hk,hheap4,I,ι,out,AR.congr (ar.put o.dst hdN zgL) fun t=>?_⟩ hc'
    rw [slots t,hu]
  | false =>
   have hheap2:∀(e:Nat) x,ops[e]?=some x->hop L e=true->(listed.getD e false=true ↔ e<i):=fun e x hx hh=>by
    constructor
    ·intro hl
     rcases Nat.lt_trichotomy e i with h | h | h
     ·exact h
     ·subst h; rw [hlf] at hl; cases hl
     ·rw [behind e x hx h (by simp [zf9,hh,hB])] at hl; cases hl
    ·intro h; exact before e x hx h (by simp [zf9,hh,hB])
   have eH:H k=H i:=by
    rcases Nat.le_total k i with h | h
    ·exact (zhq hst h (Nat.le_of_lt hlt) fun e x hx h1 h2=>by
      cases hh:hop L e with
      | false=>rfl
      | true=>have:=(hheap e x hx hh).1 ((hheap2 e x hx hh).2 h2); omega).symm
    ·exact zhq hst h hk fun e x hx h1 h2=>by
      cases hh:hop L e with
      | false=>rfl
      | true=>have:=(hheap2 e x hx hh).1 ((hheap e x hx hh).2 h2); omega
   rw [eH] at out
   have hheap3:∀(e:Nat) x,ops[e]?=some x->hop L e=true->((listed.setIfInBounds i true).getD e false=true ↔ e<i+1):=fun e x hx hh=>by
    by_cases e2:i=e
    ·subst e2; simp [hset]
    ·rw [getD_set_ne false e2,hheap2 e x hx hh]; omega
   unfold wpOp
   simp only [ho]
   rcases hst i o ho with ⟨hg,hstep,_⟩ | ⟨hg,hu,hH⟩
   ·rw [zcb ar (hguard.trans hg),if_pos rfl]
    left
    refine hstep I ι w a out.rel (fun b hb _=>out.fresh b hb) hop2 _ _ fun v w' I' ι' e hv=>?_
    ·have o2:=e.out (n0:=n0) out.fresh out.len
     exact ih _ _ _ (by simpa using hsz) hd' ⟨i+1,by omega,hheap3,I',ι',out.trans o2,((ar.ext out.rel e).put _ hdN hv).congr slots⟩ hc'
   ·rw [zcb ar (hguard.trans hg),if_neg (by simp)]
    refine ih _ _ _ (by simpa using hsz) hd' ⟨i+1,by omega,hheap3,I,ι,by rw [hH]; exact out,AR.congr (ar.put o.dst hdN zgL) fun t=>?_⟩ hc'
    rw [slots t,hu]
theorem WP.regionD{id ops s h}(L A B:List Nat)(m:Nat){Q:Exit->zaC->Hp->Prop}(hm:P.follows .mixedOrders=true)(hN:zdY N ops=true)(hok:zdZ L A B ops=true)(hup:upOk ops=true)
  (hrun:RunD P ops L A B m (fun s h=>Q .normal s h) 0 ops.toList s h):WP P N n0 (.region id ops true) s h Q:=by
 intro I ι w a r f n ar
 obtain ⟨S,H,R,e1,e2,hq,hp,hs⟩:=ziw ops.toList 0 s h (by simp) hrun
 subst e1; subst e2
 simp only [Nat.zero_add,Array.length_toList] at hq
 have hrd:Rel I ι (H 0) { w with drawn:=w.drawn+1 }:=⟨fun b x o hx ho=>BR.mono (w:=w) (w':={ w with drawn:=w.drawn+1 }) (fun _ h=>h) (fun _ _=>rfl) (fun b=>zby.refl _ _) (fun _ h=>h) (fun _ _=>rfl) rfl (r.real b x o hx ho),r.dom,r.tab.mono (fun _ h=>h) (fun _ _=>rfl),r.inj,r.own1,r.sep,r.lt,r.ilt,r.hole⟩
 have hob:Out n0 I ι (H 0) w I ι (H 0) { w with drawn:=w.drawn+1 }:=⟨hrd,f,⟨rfl,rfl,rfl,Nat.le_refl _,fun _ _ _=>rfl⟩,fun _ h=>h,fun _ h=>.inl h,fun _ h=>.inl h,fun b _=>zby.refl _ _,n⟩
 have hget:∀(i:Nat),(Array.replicate ops.size false).getD i false=false:=fun i=>by simp [Array.getD]
 have hSD:∀j,SD ops R (Array.replicate ops.size false) (S 0) j=S 0:=by
  intro j
  induction j with
  | zero=>rfl
  | succ j ih=>simp only [SD,hget]; simpa using ih
 refine wp_region_any hm (zjE (zgj hN) hok hup (fun j o ho=>hp j o (Nat.zero_le _) ho) (fun j o ho=>hs j o (Nat.zero_le _) ho) hq ops.size _ a _ (by simp) (fun i o ho h=>by rw [hget] at h; cases h)
  ⟨0,Nat.zero_le _,fun i o ho hh=>by rw [hget]; simp,I,ι,hob,?_⟩ ?_)
 ·rw [hSD]
  exact ⟨ar.size,fun t=>VR.mono (w:=w) (w':={ w with drawn:=w.drawn+1 }) (I:=I) (fun _ h=>h) (fun _ _=>rfl) (ar.get t) ι (fun b=>(zby.refl ι b).1) (fun b=>(zby.refl ι b).2),ar.defers⟩
 ·exact Nat.le_trans (List.length_filter_le _ _) (by simp)
end Go.Vs
end
section
namespace Go.Vs
variable [Tab]
variable {P:Program} {N n0:Nat}
def rdOp:Op->Option (List Operand)
 | .move _=>some []
 | .assign _=>some []
 | .pick _ _ _=>some []
 | .extract _ _=>some []
 | .fieldAddr _ _ _=>some []
 | .binOp _ _ _ _ _=>some []
 | .unOp _ _ _=>some []
 | .load _ p=>some [p]
 | .indexAddr _ x _=>some [x]
 | .index _ _ _=>some []
 | .field _ _ _=>some []
 | .build _ _=>some []
 | .slice _ x _ _ none=>some [x]
 | .lookup _ m _ _=>some [m]
 | .nilCheck _=>some []
 | _=>none
def refB:AV->Option Nat
 | .ptr b _ _=>some b
 | .eptr b _ _ _ _=>some b
 | .msl b _ _ _ _ _=>some b
 | .map b=>some b
 | _=>none
def farB(m:Nat)(x:AV):Bool:=match refB x with | some b=>decide (b<m) | none=>true
def zic(m:Nat)(o:Op)(ρ:Operand->AV):Bool:=match rdOp o with | some l=>l.all fun x=>farB m (ρ x) | none=>false
theorem zgJ{m:Nat}{h h2:Hp}(e:h2.take m=h.take m){b:Nat}(hb:b<m):h2[b]?=h[b]?:=by
 have:=congrArg (·[b]?) e
 simpa [List.getElem?_take,hb] using this
theorem zms{m:Nat}{h h2:Hp}(e:h2.take m=h.take m){x:AV}(hx:farB m x=true):zfc h2 x=zfc h x:=by
 unfold farB refB at hx
 cases x <;> first | rfl | (simp only [decide_eq_true_eq] at hx; simp only [zfc,zgJ e hx])
theorem zjH{m:Nat}{h h2:Hp}(e:h2.take m=h.take m){x:AV}(hx:farB m x=true):zdO h2 x=zdO h x:=by
 unfold farB refB at hx
 cases x <;> first | rfl | (simp only [decide_eq_true_eq] at hx; simp only [zdO,zgJ e hx])
theorem zmP{P:Program}{m:Nat}{h h2:Hp}(e:h2.take m=h.take m){t:TypeId}{x k:AV}{ok:Bool}(hx:farB m x=true):lkA P t h2 x k ok=lkA P t h x k ok:=by
 unfold farB refB at hx
 cases x <;> first | rfl | (simp only [decide_eq_true_eq] at hx; simp only [lkA,zjO,zgJ e hx])
theorem zmh{P:Program}{m:Nat}{h h2:Hp}(e:h2.take m=h.take m){t:TypeId}{lo hi:Option AV}{x:AV}(hx:farB m x=true):slH P h2 t lo hi x=slH P h t lo hi x:=by
 unfold farB refB at hx
 cases x <;> first | rfl | (simp only [decide_eq_true_eq] at hx; simp only [slH,mslA,zgJ e hx])
theorem znf{o:Oper}{ρ:Operand->AV}{m:Nat}{h:Hp}{K:AV->Hp->Prop}(hl:zic m o.op ρ=true)(he:evS P o ρ h K):∃r,K r h/\∀h2:Hp,h2.take m=h.take m->Step P o ρ h2 r h2:=by
 unfold zic at hl
 have again:∀(h2:Hp),(∃r,K r h/\evS P o ρ h2 fun r' h'=>r'=r/\h'=h2)->∃r,K r h/\Step P o ρ h2 r h2:=by
  rintro h2 ⟨r,hk,hev⟩
  obtain ⟨r',h',hst,rfl,rfl⟩:=zdh hev
  exact ⟨r',hk,hst⟩
 have main:∃r,K r h/\∀h2:Hp,h2.take m=h.take m->evS P o ρ h2 fun r' h'=>r'=r/\h'=h2:=by
  unfold evS at he ⊢
  cases ho:o.op <;> simp only [ho,rdOp] at hl he ⊢ <;> try cases hl
  case move=>exact ⟨_,he,fun h2 _=>⟨rfl,trivial⟩⟩
  case assign=>exact ⟨_,he,fun h2 _=>⟨rfl,trivial⟩⟩
  case nilCheck=>exact ⟨_,he.2,fun h2 _=>⟨he.1,rfl,trivial⟩⟩
  case pick=>obtain ⟨b,hb,hk⟩:=zav he; exact ⟨_,hk,fun h2 _=>by rw [hb]; exact ⟨rfl,trivial⟩⟩
  case binOp=>obtain ⟨b,hb,hk⟩:=zav he; exact ⟨_,hk,fun h2 _=>by rw [hb]; exact ⟨rfl,trivial⟩⟩
  case unOp=>obtain ⟨b,hb,hk⟩:=zav he; exact ⟨_,hk,fun h2 _=>by rw [hb]; exact ⟨rfl,trivial⟩⟩
  case slice t x lo hi mx =>
   cases mx with
   | some z=>cases hl
   | none =>
    simp only [List.all_cons,List.all_nil,Bool.and_true] at hl he ⊢
    obtain ⟨r,hr,hk⟩:=zav he
    exact ⟨_,hk,fun h2 e=>by rw [zmh e hl,hr]; exact ⟨rfl,trivial⟩⟩
  case build =>
   obtain ⟨z,hz,he⟩:=zav he
   obtain ⟨l,hl2,he⟩:=zav he
   obtain ⟨r,hr,hk⟩:=zav he
   exact ⟨_,hk,fun h2 _=>by rw [hz]; simp only [zch]; rw [hl2]; simp only [zch]; rw [hr]; exact ⟨rfl,trivial⟩⟩
  case fieldAddr =>
   obtain ⟨q,hq,hn,he⟩:=zav he
   obtain ⟨r,hr,hk⟩:=zav he
   exact ⟨_,hk,fun h2 _=>by rw [hq]; exact ⟨hn,by rw [hr]; exact ⟨rfl,trivial⟩⟩⟩
  case field =>
   obtain ⟨q,hq,he⟩:=zav he
   obtain ⟨ag,hag,he⟩:=zav he
   obtain ⟨n,hn,he⟩:=zav he
   obtain ⟨r,hr,hk⟩:=zav he
   exact ⟨_,hk,fun h2 _=>by rw [hq]; simp only [zch]; rw [hag,hn]; simp only [zch]; rw [hr]; exact ⟨rfl,trivial⟩⟩
  case index =>
   obtain ⟨h1,he⟩:=he
   obtain ⟨r,hr,hk⟩:=zav he
   exact ⟨_,hk,fun h2 _=>⟨h1,by rw [hr]; exact ⟨rfl,trivial⟩⟩⟩
  case extract =>
   obtain ⟨q,hq,he⟩:=zav he
   obtain ⟨r,hr,hk⟩:=zav he
   exact ⟨_,hk,fun h2 _=>by rw [hq]; simp only [zch]; rw [hr]; exact ⟨rfl,trivial⟩⟩
  case lookup =>
   simp only [List.all_cons,List.all_nil,Bool.and_true] at hl
   obtain ⟨r,hr,hk⟩:=zav he
   exact ⟨_,hk,fun h2 e=>by rw [zmP e hl,hr]; exact ⟨rfl,trivial⟩⟩
  case load =>
   simp only [List.all_cons,List.all_nil,Bool.and_true] at hl
   obtain ⟨ag,hag,he⟩:=zav he
   obtain ⟨n,hn,he⟩:=zav he
   obtain ⟨r,hr,hk⟩:=zav he
   exact ⟨_,hk,fun h2 e=>by rw [hag,hn]; simp only [zch]; rw [zms e hl,hr]; exact ⟨rfl,trivial⟩⟩
  case indexAddr =>
   simp only [List.all_cons,List.all_nil,Bool.and_true] at hl
   obtain ⟨ag,hag,he⟩:=zav he
   obtain ⟨n,hn,he⟩:=zav he
   obtain ⟨r,hr,hs,hk⟩:=zav he
   exact ⟨_,hk,fun h2 e=>by rw [hag]; simp only [zch]; rw [hn]; simp only [zch]; rw [hr]; exact ⟨(zjH e hl).trans hs,rfl,trivial⟩⟩
 obtain ⟨r,hk,hall⟩:=main
 refine ⟨r,hk,fun h2 e=>?_⟩
 obtain ⟨r',h',hst,rfl,rfl⟩:=zdh (hall h2 e)
 exact hst
def ze3(P:Program)(ops:Array Oper)(L A B:List Nat)(m:Nat)(Q:zaC->Hp->Prop):Nat->(l:List Oper)->zaC->Hp->Hold (ops,Q,l)->Prop
 | _,[],s,h,_=>Q s h
 | i,o::rest,s,h,_=>onG (zce ops s o) (fun _=>evS P o s.ev h fun r h'=>((hop L i=false->h'=h)/\(hop A i=true->h'.take m=h.take m)/\(hop B i=true->zic m o.op s.ev=true))/\ze3 P ops L A B m Q (i+1) rest (s.put o.dst r) h' (held _)) (fun _=>ze3 P ops L A B m Q (i+1) rest (s.put o.dst (.tuple [])) h (held _)) (held _)
theorem zf7{ops:Array Oper}{L A B:List Nat}{m:Nat}{Q:zaC->Hp->Prop}:∀(l:List Oper) (i:Nat) (s h) (k),ze3 P ops L A B m Q i l s h k->RunD P ops L A B m Q i l s h
 | [],i,s,h,_,hr=>hr
 | o::rest,i,s,h,_,hr=>by
  simp only [ze3] at hr
  simp only [RunD]
  split
  ·rename_i e
   rw [e,zpX] at hr
   obtain ⟨r,h',hst,⟨h1,h2,h3⟩,hk⟩:=zdh hr
   cases hB:hop B i with
   | false=>exact ⟨r,h',hst,⟨h1,h2,fun h=>by cases h⟩,zf7 rest _ _ _ _ hk⟩
   | true =>
    obtain ⟨r2,⟨⟨k1,k2,k3⟩,hk2⟩,hall⟩:=znf (h3 hB) hr
    exact ⟨r2,h,hall h rfl,⟨k1,k2,fun _=>hall⟩,zf7 rest _ _ _ _ hk2⟩
  ·rename_i e
   rw [e,zpY] at hr
   exact zf7 rest _ _ _ _ hr
  ·rename_i e
   rw [e] at hr
   exact hr
theorem W.regionJ_{id}{l:List Oper}{s h Q k}(L A B:List Nat)(m:Nat)(hr:P.follows .mixedOrders=true/\zdY N l.toArray=true/\zdZ L A B l.toArray=true/\upOk l.toArray=true/\ze3 P l.toArray L A B m (fun s h=>Q .normal s h) 0 l s h (held _)) :
  W P N n0 (.region id l.toArray true) Q s h k :=
 WP.regionD L A B m hr.1 hr.2.1 hr.2.2.1 hr.2.2.2.1 (by rw [List.toList_toArray]; exact zf7 _ _ _ _ _ hr.2.2.2.2)
section rules
variable {L A B:List Nat} {m:Nat} {i:Nat} {ops:Array Oper} {Q:zaC->Hp->Prop} {rest:List Oper} {s:zaC} {h:Hp} {d:Option Nat} {ty:TypeId} {pos:String} {af:Array Edge}
@[go_sem] theorem zsh{k}:ze3 P ops L A B m Q i [] s h k=Q s h:=rfl
@[go_sem] theorem zqw{op:Op}{k}:ze3 P ops L A B m Q i ({ dst:=d,op:=op,type:=ty,pos:=pos,after:=af,guard:=none }::rest) s h k =
  evK P { dst:=d,op:=op,type:=ty,pos:=pos,after:=af,guard:=none } s.ev h (fun r h'=>((hop L i=false->h'=h)/\(hop A i=true->h'.take m=h.take m)/\(hop B i=true->zic m op s.ev=true))/\ze3 P ops L A B m Q (i+1) rest (s.put d r) h' (held _)) (held _):=rfl
@[go_sem] theorem zqx{op:Op}{j:Nat}{want:Bool}{k}:ze3 P ops L A B m Q i ({ dst:=d,op:=op,type:=ty,pos:=pos,after:=af,guard:=some (j,want) }::rest) s h k =
  onG (zhR (zhw ops j) s want) (fun _=>evK P { dst:=d,op:=op,type:=ty,pos:=pos,after:=af,guard:=some (j,want) } s.ev h
    (fun r h'=>((hop L i=false->h'=h)/\(hop A i=true->h'.take m=h.take m)/\(hop B i=true->zic m op s.ev=true))/\ze3 P ops L A B m Q (i+1) rest (s.put d r) h' (held _)) (held _))
   (fun _=>ze3 P ops L A B m Q (i+1) rest (s.put d (.tuple [])) h (held _)) (held _):=by
 have e:zce ops s { dst:=d,op:=op,type:=ty,pos:=pos,after:=af,guard:=some (j,want) }=zhR (zhw ops j) s want:=by
  simp only [zce,zhw,zhR]
  cases (ops[j]?).bind (·.dst) with
  | none=>rfl
  | some t=>simp only [grd]; cases s.get t <;> first | rfl | (rename_i b; cases b <;> cases want <;> rfl)
 rw [← e]; rfl
end rules
theorem W.seqJ{id}{l:List Oper}{y s h Q k}(L A B:List Nat)(m:Nat)(F:Gs)(s1:zaC)(h1:Hp)(hm:P.follows .mixedOrders=true)(hN:zdY N l.toArray=true)(hd:zdZ L A B l.toArray=true)(hu:upOk l.toArray=true)
  (hrun:ze3 P l.toArray L A B m (fun s h=>AT n0 F s1 h1 s h) 0 l s h (held _)) (hy:WK P N n0 y Q s1 h1):W P N n0 (.seq (.region id l.toArray true) y) Q s h k :=
 WP.seq (WP.mono (W.regionJ_ (L:=L) (A:=A) (B:=B) (m:=m) (k:=held _) (Q:=zeK (fun s h=>AT n0 F s1 h1 s h) (fun _ _ _=>False)) ⟨hm,hN,hd,hu,hrun⟩) fun e s h q=>by
  cases e with
  | normal=>exact WP.weak q hy
  | _=>exact q.elim)
theorem W.regLJ{id}{l:List Oper}{s h Q k}(L A B:List Nat)(m:Nat)(F:Gs)(s1:zaC)(h1:Hp)(hm:P.follows .mixedOrders=true)(hN:zdY N l.toArray=true)(hd:zdZ L A B l.toArray=true)(hu:upOk l.toArray=true)
  (hrun:ze3 P l.toArray L A B m (fun s h=>AT n0 F s1 h1 s h) 0 l s h (held _)) (hy:Q .normal s1 h1):W P N n0 (.region id l.toArray true) Q s h k:=by
 have:=WP.weakN (K:=Q .normal) (Q:=Q) (WP.mono (W.regionJ_ (L:=L) (A:=A) (B:=B) (m:=m) (P:=P) (N:=N) (n0:=n0) (id:=id) (k:=held _) (Q:=zeK (fun s h=>AT n0 F s1 h1 s h) (fun _ _ _=>False)) ⟨hm,hN,hd,hu,hrun⟩) fun e s h q=>by
  cases e with
  | normal=>exact ⟨F,s1,h1,q,hy⟩
  | _=>exact q.elim)
 exact WP.mono this fun e s h q=>by cases e <;> exact q
attribute [go_sem] hop implies_true false_implies rdOp refB farB zic List.contains_nil Bool.false_eq_true true_implies forall_const List.take_succ_cons List.take_zero and_true true_and
end Go.Vs
end
section
namespace Go.Vs
variable [Tab]
variable {P:Program} {N n0:Nat}
def zhe(h2:Hp)(W:List Nat)(h':Hp):Hp:=W.foldl (fun g b=>match h'[b]? with | some o=>g.set b o | none=>g) h2
theorem zjc(W:List Nat):∀(h2 h':Hp),(zhe h2 W h').length=h2.length:=by
 induction W with
 | nil=>intros; rfl
 | cons b W ih =>
  intro h2 h'
  show (zhe (match h'[b]? with | some o=>h2.set b o | none=>h2) W h').length=_
  rw [ih]
  split <;> simp
theorem zdR(W:List Nat):∀(h2 h':Hp),h2.length=h'.length->∀b:Nat,(zhe h2 W h')[b]?=if W.contains b=true then h'[b]? else h2[b]?:=by
 induction W with
 | nil=>intros; rfl
 | cons c W ih =>
  intro h2 h' hl b
  show (zhe (match h'[c]? with | some o=>h2.set c o | none=>h2) W h')[b]?=_
  rw [ih _ _ (by split <;> simp [hl])]
  by_cases hb:W.contains b=true
  ·rw [if_pos hb,if_pos (by simp at hb ⊢; exact .inr hb)]
  ·rw [if_neg hb]
   by_cases e:b=c
   ·subst e
    rw [if_pos (by simp)]
    cases hq:h'[b]? with
    | none =>
     have:=List.getElem?_eq_none_iff.1 hq
     exact List.getElem?_eq_none_iff.2 (by show List.length h2<=b; omega)
    | some o =>
     have:=(List.getElem?_eq_some_iff.1 hq).1
     simp [List.getElem?_set]; omega
   ·rw [if_neg (by simp at hb ⊢; exact ⟨e,hb⟩)]
    split
    ·rw [List.getElem?_set,if_neg (fun e2=>e e2.symm)]
    ·rfl
abbrev FW:=List (List Nat × List Nat)
def ft(fw:FW)(i:Nat):List Nat:=(fw.getD i ([],[])).1
def wr(fw:FW)(i:Nat):List Nat:=(fw.getD i ([],[])).2
def zp2(a b:List Nat):Bool:=a.any b.contains
def zdN(fw:FW)(ops:Array Oper)(i j:Nat)(x y:Oper):Bool:=zp2 (wr fw i) (ft fw j)||zp2 (wr fw j) (ft fw i)||(match x.dst with | some d=>(zdf ops y).contains d | none=>false)||(match y.dst with | some d=>(zdf ops x).contains d | none=>false)
def zgk(fw:FW)(ops:Array Oper):Bool :=
 ((List.range ops.size).all fun i=>(wr fw i).all (ft fw i).contains)&&(List.range ops.size).all fun j=>(List.range j).all fun i =>
  match ops[i]?,ops[j]? with
  | some x,some y=>!zdN fw ops i j x y||(zhz ops ops.size j).contains i
  | _,_=>true
def zpt(fw:FW)(C:List (List Nat))(ops:Array Oper):Bool :=
 ((List.range ops.size).all fun i=>(wr fw i).all (ft fw i).contains)&&(List.range ops.size).all fun j=>(List.range j).all fun i =>
  match ops[i]?,ops[j]? with
  | some x,some y=>!zdN fw ops i j x y||(C.getD j []).contains i
  | _,_=>true
theorem zoM{ops:Array Oper}{fw:FW}(C:List (List Nat))(hu:upOk ops=true)(hv:cloV ops C=true)(hd:zpt fw C ops=true):zgk fw ops=true:=by
 have key:=zpu C hu hv
 unfold zpt at hd
 unfold zgk
 rw [Bool.and_eq_true] at hd ⊢
 refine ⟨hd.1,List.all_eq_true.2 fun j hj=>List.all_eq_true.2 fun i hi=>?_⟩
 have h1:=(List.all_eq_true.1 ((List.all_eq_true.1 hd.2) j hj)) i hi
 have hj':j<ops.size:=List.mem_range.1 hj
 have hi':i<j:=List.mem_range.1 hi
 have e1:ops[j]?=some (ops[j]'hj'):=Array.getElem?_eq_getElem hj'
 have e2:ops[i]?=some (ops[i]'(by omega)):=Array.getElem?_eq_getElem (by omega)
 rw [e1,e2] at h1 ⊢
 simp only [Bool.or_eq_true] at h1 ⊢
 refine h1.imp id fun h=>?_
 have:=key j _ e1 i (by simpa using h) ops.size hj'
 simpa using this
theorem ziq{ops:Array Oper}{fw:FW}(hok:zgk fw ops=true){i j:Nat}{x y:Oper}(hx:ops[i]?=some x)(hy:ops[j]?=some y)(hij:i<j)(ht:zdN fw ops i j x y=true):i∈zhz ops ops.size j:=by
 unfold zgk at hok
 rw [Bool.and_eq_true] at hok
 replace hok:=hok.2
 have hj:j<ops.size:=(Array.getElem?_eq_some_iff.1 hy).1
 have h1:=(List.all_eq_true.1 hok) j (List.mem_range.2 hj)
 have h2:=(List.all_eq_true.1 h1) i (List.mem_range.2 hij)
 simp only [hx,hy,ht,Bool.not_true,Bool.false_or,List.contains_eq_mem,decide_eq_true_eq] at h2
 exact h2
theorem ze1{ops:Array Oper}{fw:FW}(hok:zgk fw ops=true){i:Nat}(hi:i<ops.size){b:Nat}(hb:b∈wr fw i):b∈ft fw i:=by
 unfold zgk at hok
 rw [Bool.and_eq_true] at hok
 have h1:=(List.all_eq_true.1 hok.1) i (List.mem_range.2 hi)
 simpa using (List.all_eq_true.1 h1) b hb
theorem ze8{a b:List Nat}{x:Nat}(h1:x∈a)(h2:x∈b):zp2 a b=true:=List.any_eq_true.2 ⟨x,h1,by simpa using h2⟩
def zeO(P:Program)(o:Oper)(ρ:Operand->AV)(h:Hp)(r:AV)(h':Hp)(F W:List Nat):Prop :=
 h'.length=h.length/\(∀b:Nat,b∉W->h'[b]?=h[b]?)/\∀h2:Hp,h2.length=h.length->(∀b∈F,h2[b]?=h[b]?)->Step P o ρ h2 r (zhe h2 W h')
def zjD(P:Program)(ops:Array Oper)(fw:FW)(S:Nat->zaC)(H:Nat->Hp)(R:Nat->AV)(j:Nat)(o:Oper):Prop :=
 (zce ops (S j) o=some true/\zeO P o (S j).ev (H j) (R j) (H (j+1)) (ft fw j) (wr fw j))\/(zce ops (S j) o=some false/\R j=.tuple []/\H (j+1)=H j)
def RunL(P:Program)(ops:Array Oper)(fw:FW)(Q:zaC->Hp->Prop):Nat->List Oper->zaC->Hp->Prop
 | _,[],s,h=>Q s h
 | k,o::rest,s,h =>
  match zce ops s o with
  | some true=>∃r h',zeO P o s.ev h r h' (ft fw k) (wr fw k)/\RunL P ops fw Q (k+1) rest (s.put o.dst r) h'
  | some false=>RunL P ops fw Q (k+1) rest (s.put o.dst (.tuple [])) h
  | none=>False
def CFL(P:Program)(ops:Array Oper)(fw:FW)(Q:zaC->Hp->Prop)(k n:Nat)(s:zaC)(h:Hp):Prop :=
 ∃(S:Nat->zaC) (H:Nat->Hp) (R:Nat->AV),S k=s/\H k=h/\Q (S (k+n)) (H (k+n)) /\
  (∀(j:Nat) o,k<=j->ops[j]?=some o->S (j+1)=(S j).put o.dst (R j))/\(∀(j:Nat) o,k<=j->ops[j]?=some o->zjD P ops fw S H R j o)
theorem ziv{ops:Array Oper}{fw:FW}{Q:zaC->Hp->Prop}:∀(l:List Oper) (k:Nat) (s h),ops.toList.drop k=l->RunL P ops fw Q k l s h->CFL P ops fw Q k l.length s h
 | [],k,s,h,hl,hr=>by
  refine ⟨fun _=>s,fun _=>h,fun _=>.tuple [],rfl,rfl,hr,fun j o hj ho=>?_,fun j o hj ho=>?_⟩ <;>
  ·have:ops.size<=k:=by simpa using List.drop_eq_nil_iff.1 hl
   have:=(Array.getElem?_eq_some_iff.1 ho).1
   omega
 | o::l,k,s,h,hl,hr=>by
  have ho:ops[k]?=some o:=by
   have:=congrArg (·[0]?) hl
   simpa using this
  have hl':ops.toList.drop (k+1)=l:=by
   have:=congrArg List.tail hl
   simpa using this
  simp only [RunL] at hr
  have glue:∀(r:AV) (h':Hp),((zce ops s o=some true/\zeO P o s.ev h r h' (ft fw k) (wr fw k))\/(zce ops s o=some false/\r=.tuple []/\h'=h))->RunL P ops fw Q (k+1) l (s.put o.dst r) h'->CFL P ops fw Q k (o::l).length s h:=by
   intro r h' hst hrun
   obtain ⟨S,H,R,e1,e2,hq,hp,hs⟩:=ziv l (k+1) (s.put o.dst r) h' hl' hrun
   refine ⟨fun j=>if j=k then s else S j,fun j=>if j=k then h else H j,fun j=>if j=k then r else R j,by simp,by simp,?_,?_,?_⟩
   ·simp only [List.length_cons]; rw [if_neg (by omega),if_neg (by omega)]; rw [show k+(l.length+1)=k+1+l.length by omega]; exact hq
   ·intro j o' hj ho'
    by_cases e:j=k
    ·subst e; rw [ho] at ho'; obtain rfl:=Option.some.inj ho'; simp [e1]
    ·simp only [if_neg e,if_neg (show ¬j+1=k by omega)]; exact hp j o' (by omega) ho'
   ·intro j o' hj ho'
    by_cases e:j=k
    ·subst e; rw [ho] at ho'; obtain rfl:=Option.some.inj ho'; simpa [zjD,e2] using hst
    ·have:=hs j o' (by omega) ho'
     simp only [zjD,if_neg e,if_neg (show ¬j+1=k by omega)] at this ⊢; exact this
  split at hr
  ·rename_i hg
   obtain ⟨r,h',hst,hrun⟩:=hr
   exact glue r h' (.inl ⟨hg,hst⟩) hrun
  ·rename_i hg
   exact glue (.tuple []) h (.inr ⟨hg,rfl,rfl⟩) hr
  ·exact hr.elim
def HD(fw:FW)(H:Nat->Hp)(listed:Array Bool):Nat->Hp
 | 0=>H 0
 | j+1=>if listed.getD j false=true then zhe (HD fw H listed j) (wr fw j) (H (j+1)) else HD fw H listed j
theorem zd1{fw:FW}{H:Nat->Hp}{listed:Array Bool}:∀j,(HD fw H listed j).length=(H 0).length
 | 0=>rfl
 | j+1=>by simp only [HD]; split <;> simp [zjc,zd1 j]
section
variable {ops:Array Oper} {fw:FW} {S:Nat->zaC} {H:Nat->Hp} {R:Nat->AV}
theorem zeb(hst:∀(j:Nat) o,ops[j]?=some o->zjD P ops fw S H R j o):∀j,j<=ops.size->(H j).length=(H 0).length
 | 0,_=>rfl
 | j+1,hj=>by
  have ho:ops[j]?=some ops[j]:=by simp
  rcases hst j _ ho with ⟨_,h,_⟩ | ⟨_,_,h⟩
  ·rw [h,zeb hst j (by omega)]
  ·rw [h,zeb hst j (by omega)]
theorem zsj(hst:∀(j:Nat) o,ops[j]?=some o->zjD P ops fw S H R j o){j:Nat}(hj:j<ops.size){b:Nat}(hb:b∉wr fw j):(H (j+1))[b]?=(H j)[b]?:=by
 have ho:ops[j]?=some ops[j]:=by simp [hj]
 rcases hst j _ ho with ⟨_,_,h,_⟩ | ⟨_,_,h⟩
 ·exact h b hb
 ·rw [h]
theorem zkO(hst:∀(j:Nat) o,ops[j]?=some o->zjD P ops fw S H R j o){listed:Array Bool}{b j:Nat}(hj:j<=ops.size)
  (hlow:∀i,i<j->b∈wr fw i->listed.getD i false=true) (hhigh:∀i,j<=i->i<ops.size->b∈wr fw i->listed.getD i false=false) :
  (HD fw H listed ops.size)[b]?=(H j)[b]?:=by
 have low:∀i,i<=j->(HD fw H listed i)[b]?=(H i)[b]?:=by
  intro i
  induction i with
  | zero=>intro _; rfl
  | succ i ih =>
   intro hi
   simp only [HD]
   by_cases hw:b∈wr fw i
   ·rw [if_pos (hlow i (by omega) hw),zdR _ _ _ ((zd1 _).trans (zeb hst _ (by omega)).symm),if_pos (by simpa using hw)]
   ·rw [zsj hst (by omega) hw]
    split
    ·rw [zdR _ _ _ ((zd1 _).trans (zeb hst _ (by omega)).symm),if_neg (by simpa using hw)]; exact ih (by omega)
    ·exact ih (by omega)
 have high:∀n,j+n<=ops.size->(HD fw H listed (j+n))[b]?=(HD fw H listed j)[b]?:=by
  intro n
  induction n with
  | zero=>intro _; rfl
  | succ n ih =>
   intro hn
   rw [show j+(n+1)=(j+n)+1 by omega]
   simp only [HD]
   split
   ·rename_i hl
    rw [zdR _ _ _ ((zd1 _).trans (zeb hst _ (by omega)).symm),if_neg (fun hw=>by rw [hhigh (j+n) (by omega) (by omega) (by simpa using hw)] at hl; cases hl)]
    exact ih (by omega)
   ·exact ih (by omega)
 have:=high (ops.size-j) (by omega)
 rw [show j+(ops.size-j)=ops.size by omega] at this
 rw [this,low j (Nat.le_refl _)]
theorem zkN{listed:Array Bool}(hst:∀(j:Nat) o,ops[j]?=some o->zjD P ops fw S H R j o){i b:Nat}(hb:b∉wr fw i):∀j,j<=ops.size->(HD fw H (listed.setIfInBounds i true) j)[b]?=(HD fw H listed j)[b]?:=by
 intro j
 induction j with
 | zero=>intro _; rfl
 | succ j ih =>
  intro hj
  have ih:=ih (by omega)
  simp only [HD]
  have pg:∀l:Array Bool,(zhe (HD fw H l j) (wr fw j) (H (j+1)))[b]?=if (wr fw j).contains b=true then (H (j+1))[b]? else (HD fw H l j)[b]?:=fun l=>zdR _ _ _ ((zd1 _).trans (zeb hst _ (by omega)).symm) b
  by_cases e:i=j
  ·subst e
   have hc:¬(wr fw i).contains b=true:=by simpa using hb
   split <;> split <;> simp [pg,ih,hb]
  ·rw [getD_set_ne false e]
   split
   ·rw [pg,pg,ih]
   ·exact ih
theorem ziW(hN:∀o∈ops,∀t,o.dst=some t->t<N)(hok:zgk fw ops=true)(hup:upOk ops=true)
  (hS:∀(j:Nat) o,ops[j]?=some o->S (j+1)=(S j).put o.dst (R j)) (hst:∀(j:Nat) o,ops[j]?=some o->zjD P ops fw S H R j o)
  {Q:Exit->zaC->Hp->Prop} (hQ:Q .normal (S ops.size) (H ops.size)) {I0 ι0 h0 w0} :
  ∀(fuel:Nat) (listed:Array Bool) (a:Act) (w:World),listed.size=ops.size ->
   (∀(i:Nat) o,ops[i]?=some o->listed.getD i false=true->∀e∈o.after,Region.binds .any e=true->listed.getD e.on false=true) ->
   (∃I ι,Out n0 I0 ι0 h0 w0 I ι (HD fw H listed ops.size) w/\AR I w ι N (SD ops R listed (S 0) ops.size) a) ->
   ((List.range ops.size).filter fun i=>!listed.getD i false).length<=fuel ->
   wpAny P .any ops (Post N n0 Q I0 ι0 h0 w0) fuel listed a w:=by
 intro fuel
 have fin:∀(listed:Array Bool) (a:Act) (w:World),listed.size=ops.size ->
   (∃I ι,Out n0 I0 ι0 h0 w0 I ι (HD fw H listed ops.size) w/\AR I w ι N (SD ops R listed (S 0) ops.size) a) ->
   Region.ready .any ops listed=[]->Post N n0 Q I0 ι0 h0 w0 .normal a w:=by
  intro listed a w hsz ⟨I,ι,out,ar⟩ hr
  have hall:=zis hup hsz hr
  have e:HD fw H listed ops.size=H ops.size:=List.ext_getElem? fun b=>zkO hst (Nat.le_refl _) (fun i hi _=>hall i hi) (fun i h1 h2 _=>by omega)
  refine ⟨I,ι,S ops.size,H ops.size,hQ,by rw [← e]; exact out,ar.congr fun t=>?_⟩
  exact (ziu hS (Nat.le_refl _) (fun i o ho _ h=>hall i h) (fun i o ho _ h=>by have:=(Array.getElem?_eq_some_iff.1 ho).1; omega)).symm
 induction fuel with
 | zero =>
  intro listed a w hsz hd hinv hc
  have hr:Region.ready .any ops listed=[]:=by
   rw [List.eq_nil_iff_forall_not_mem]
   intro i hi
   rw [mem_ready] at hi
   obtain ⟨h1,o,ho,_⟩:=hi
   have hlt:i<ops.size:=(Array.getElem?_eq_some_iff.1 ho).1
   have hlt2:i<listed.size:=by omega
   have h2:listed.getD i false=false:=by simp only [Array.getD,hlt2,dif_pos] at h1 ⊢; exact h1
   have:i∈(List.range ops.size).filter fun i=>!listed.getD i false:=List.mem_filter.2 ⟨List.mem_range.2 hlt,by simp only [h2,Bool.not_false]⟩
   have:=List.length_pos_of_mem this
   omega
  exact ⟨hr,fin listed a w hsz hinv hr⟩
 | succ fuel ih =>
  intro listed a w hsz hd hinv hc
  refine ⟨fun hr=>fin listed a w hsz hinv hr,fun i hi=>?_⟩
  rw [mem_ready] at hi
  obtain ⟨hli,o,ho,hpre⟩:=hi
  have hlt:i<ops.size:=(Array.getElem?_eq_some_iff.1 ho).1
  have hlt2:i<listed.size:=by omega
  have hlf:listed.getD i false=false:=by simp only [Array.getD,hlt2,dif_pos] at hli ⊢; exact hli
  obtain ⟨I,ι,out,ar⟩:=hinv
  have before:∀(e:Nat) x,ops[e]?=some x->e<i->zdN fw ops e i x o=true->listed.getD e false=true:=fun e x hx he ht =>
   zep hd ops.size i o ho hpre e (ziq hok hx ho he ht)
  have behind:∀(e:Nat) x,ops[e]?=some x->i<e->zdN fw ops i e o x=true->listed.getD e false=false:=fun e x hx he ht=>by
   cases hl:listed.getD e false with
   | false=>rfl
   | true =>
    have:=zep hd ops.size e x hx (hd e x hx hl) i (ziq hok ho hx he ht)
    rw [hlf] at this; cases this
  have same:∀t,t∈zdf ops o->(SD ops R listed (S 0) ops.size).get t=(S i).get t:=fun t ht=>by
   refine ziu hS (Nat.le_of_lt hlt) (fun e x hx hxd he=>before e x hx he ?_) (fun e x hx hxd he=>?_)
   ·simp [zdN,hxd,ht]
   ·by_cases e2:e=i
    ·subst e2; exact hlf
    ·refine behind e x hx (by omega) ?_
     simp [zdN,hxd,ht]
  have hguard:zce ops (SD ops R listed (S 0) ops.size) o=zce ops (S i) o:=by
   unfold zce
   split
   ·rfl
   ·rename_i j want hg
    split
    ·rename_i t ht
     rw [same t (by simp [zdf,hg,ht])]
    ·rfl
  have hd':∀(i':Nat) o',ops[i']?=some o'->(listed.setIfInBounds i true).getD i' false=true->∀e∈o'.after,Region.binds .any e=true->(listed.setIfInBounds i true).getD e.on false=true:=by
   intro i' o' ho' hl' e he hb
   by_cases e2:i=i'
   ·subst e2
    rw [ho] at ho'; obtain rfl:=Option.some.inj ho'
    exact getD_set_true (hpre e he hb)
   ·rw [getD_set_ne false e2] at hl'
    exact getD_set_true (hd i' o' ho' hl' e he hb)
  have hset:(listed.setIfInBounds i true).getD i false=true:=by simp [Array.getD,hlt2]
  have hc':((List.range ops.size).filter fun j=>!(listed.setIfInBounds i true).getD j false).length<=fuel:=by
   have:=zht (p:=fun j=>!listed.getD j false) (p':=fun j=>!(listed.setIfInBounds i true).getD j false) (List.range ops.size) (fun x _ hx=>by
    by_cases e2:i=x
    ·subst e2; simp [hset] at hx
    ·simpa [getD_set_ne false e2] using hx) ⟨i,List.mem_range.2 hlt,by simp [hlf],by simp [hset]⟩
   omega
  have slots:∀t,(SD ops R (listed.setIfInBounds i true) (S 0) ops.size).get t=((SD ops R listed (S 0) ops.size).put o.dst (R i)).get t:=fun t=>by
   rw [zdX]
   by_cases hdt:o.dst=some t
   ·rw [if_pos hdt]
    have hnm:t∈zdf ops o:=by simp [zdf,hdt]
    rw [ziu hS (j:=i+1) (by omega) (fun e x hx hxd he=>?_) (fun e x hx hxd he=>?_),hS i o ho,zdX,if_pos hdt]
    ·by_cases e2:i=e
     ·subst e2; exact hset
     ·rw [getD_set_ne false e2]; exact before e x hx (by omega) (by simp [zdN,hxd,hnm])
    ·rw [getD_set_ne false (by omega)]; exact behind e x hx (by omega) (by simp [zdN,hxd,hnm])
   ·rw [if_neg hdt]; exact zkM ho hdt _
  have opE:∀e,e<ops.size->∃x,ops[e]?=some x:=fun e he=>⟨ops[e],by simp [he]⟩
  have blocks:∀b∈ft fw i,(HD fw H listed ops.size)[b]?=(H i)[b]?:=fun b hb=>by
   refine zkO hst (Nat.le_of_lt hlt) (fun e he hw=>?_) (fun e h1 h2 hw=>?_)
   ·obtain ⟨x,hx⟩:=opE e (by omega)
    exact before e x hx he (by simp [zdN,ze8 hw hb])
   ·by_cases e2:e=i
    ·subst e2; exact hlf
    ·obtain ⟨x,hx⟩:=opE e h2
     exact behind e x hx (by omega) (by simp [zdN,ze8 hw hb])
  have hdN:=hN o (Array.mem_of_getElem? ho)
  have hop2:∀x,x∈o.op.operands->VR I w ι ((S i).ev x) (a.eval x):=fun x hx=>by
   cases x with
   | tmp t =>
    show VR I w ι ((S i).get t) _
    rw [← same t (by simp only [zdf,List.mem_append]; exact .inl (.inr (List.mem_filterMap.2 ⟨.tmp t,by simpa using hx,rfl⟩)))]
    exact ar.get t
   | const v=>exact VR.ofC _ _ _ v
   | global g=>exact out.rel.tab.global g
   | func f=>exact .func (by simp) (by simp) (by simp) (by simp)
  unfold wpOp
  simp only [ho]
  rcases hst i o ho with ⟨hg,hlen,hkeep,hstep⟩ | ⟨hg,hu,hH⟩
  ·rw [zcb ar (hguard.trans hg),if_pos rfl]
   left
   have hHn:zhe (HD fw H listed ops.size) (wr fw i) (H (i+1))=HD fw H (listed.setIfInBounds i true) ops.size:=by
    apply List.ext_getElem?
    intro b
    rw [zdR _ _ _ ((zd1 _).trans (zeb hst _ (by omega)).symm)]
    by_cases hw:b∈wr fw i
    ·rw [if_pos (by simpa using hw)]
     refine (zkO hst (by omega) (fun e he hwe=>?_) (fun e h1 h2 hwe=>?_)).symm
     ·by_cases e2:i=e
      ·subst e2; exact hset
      ·rw [getD_set_ne false e2]
       obtain ⟨x,hx⟩:=opE e (by omega)
       exact before e x hx (by omega) (by simp [zdN,ze8 hwe (ze1 hok hlt hw)])
     ·rw [getD_set_ne false (by omega)]
      obtain ⟨x,hx⟩:=opE e h2
      exact behind e x hx (by omega) (by simp [zdN,ze8 hwe (ze1 hok hlt hw)])
    ·rw [if_neg (by simpa using hw)]
     exact (zkN hst hw _ (Nat.le_refl _)).symm
   have hs2:=hstep (HD fw H listed ops.size) ((zd1 _).trans (zeb hst _ (by omega)).symm) blocks
   rw [hHn] at hs2
   refine hs2 I ι w a out.rel (fun b hb _=>out.fresh b hb) hop2 _ _ fun v w' I' ι' e hv=>?_
   have o2:=e.out (n0:=n0) out.fresh out.len
   exact ih _ _ _ (by simpa using hsz) hd' ⟨I',ι',out.trans o2,((ar.ext out.rel e).put _ hdN hv).congr slots⟩ hc'
  ·rw [zcb ar (hguard.trans hg),if_neg (by simp)]
   have hHn:HD fw H (listed.setIfInBounds i true) ops.size=HD fw H listed ops.size:=by
    apply List.ext_getElem?
    intro b
    by_cases hw:b∈wr fw i
    ·rw [blocks b (ze1 hok hlt hw),← hH]
     refine zkO hst (by omega) (fun e he hwe=>?_) (fun e h1 h2 hwe=>?_)
     ·by_cases e2:i=e
      ·subst e2; exact hset
      ·rw [getD_set_ne false e2]
       obtain ⟨x,hx⟩:=opE e (by omega)
       exact before e x hx (by omega) (by simp [zdN,ze8 hwe (ze1 hok hlt hw)])
     ·rw [getD_set_ne false (by omega)]
      obtain ⟨x,hx⟩:=opE e h2
      exact behind e x hx (by omega) (by simp [zdN,ze8 hwe (ze1 hok hlt hw)])
    ·exact zkN hst hw _ (Nat.le_refl _)
   refine ih _ _ _ (by simpa using hsz) hd' ⟨I,ι,by rw [hHn]; exact out,AR.congr (ar.put o.dst hdN zgL) fun t=>?_⟩ hc'
   rw [slots t,hu]
end
theorem WP.regionL{id ops s h}(fw:FW){Q:Exit->zaC->Hp->Prop}(hm:P.follows .mixedOrders=true)(hN:zdY N ops=true)(hok:zgk fw ops=true)(hup:upOk ops=true)
  (hrun:RunL P ops fw (fun s h=>Q .normal s h) 0 ops.toList s h):WP P N n0 (.region id ops true) s h Q:=by
 intro I ι w a r f n ar
 obtain ⟨S,H,R,e1,e2,hq,hp,hs⟩:=ziv ops.toList 0 s h (by simp) hrun
 subst e1; subst e2
 simp only [Nat.zero_add,Array.length_toList] at hq
 have hrd:Rel I ι (H 0) { w with drawn:=w.drawn+1 }:=⟨fun b x o hx ho=>BR.mono (w:=w) (w':={ w with drawn:=w.drawn+1 }) (fun _ h=>h) (fun _ _=>rfl) (fun b=>zby.refl _ _) (fun _ h=>h) (fun _ _=>rfl) rfl (r.real b x o hx ho),r.dom,r.tab.mono (fun _ h=>h) (fun _ _=>rfl),r.inj,r.own1,r.sep,r.lt,r.ilt,r.hole⟩
 have hob:Out n0 I ι (H 0) w I ι (H 0) { w with drawn:=w.drawn+1 }:=⟨hrd,f,⟨rfl,rfl,rfl,Nat.le_refl _,fun _ _ _=>rfl⟩,fun _ h=>h,fun _ h=>.inl h,fun _ h=>.inl h,fun b _=>zby.refl _ _,n⟩
 have hget:∀(i:Nat),(Array.replicate ops.size false).getD i false=false:=fun i=>by simp [Array.getD]
 have hSD:∀j,SD ops R (Array.replicate ops.size false) (S 0) j=S 0:=by
  intro j
  induction j with
  | zero=>rfl
  | succ j ih=>simp only [SD,hget]; simpa using ih
 have hHD:∀j,HD fw H (Array.replicate ops.size false) j=H 0:=by
  intro j
  induction j with
  | zero=>rfl
  | succ j ih=>simp only [HD,hget]; simpa using ih
 refine wp_region_any hm (ziW (zgj hN) hok hup (fun j o ho=>hp j o (Nat.zero_le _) ho) (fun j o ho=>hs j o (Nat.zero_le _) ho) hq ops.size _ a _ (by simp) (fun i o ho h=>by rw [hget] at h; cases h)
  ⟨I,ι,by rw [hHD]; exact hob,?_⟩ ?_)
 ·rw [hSD]
  exact ⟨ar.size,fun t=>VR.mono (w:=w) (w':={ w with drawn:=w.drawn+1 }) (I:=I) (fun _ h=>h) (fun _ _=>rfl) (ar.get t) ι (fun b=>(zby.refl ι b).1) (fun b=>(zby.refl ι b).2),ar.defers⟩
 ·exact Nat.le_trans (List.length_filter_le _ _) (by simp)
def inF(F:List Nat)(x:AV):Bool:=match refB x with | some b=>F.contains b | none=>true
def zjl(F:List Nat)(o:Op)(ρ:Operand->AV):Bool:=match rdOp o with | some l=>l.all fun x=>inF F (ρ x) | none=>false
theorem zk3{F:List Nat}{h h2:Hp}(e:∀b∈F,h2[b]?=h[b]?){x:AV}(hx:inF F x=true):zfc h2 x=zfc h x:=by
 unfold inF refB at hx
 cases x <;> first | rfl | (simp only [List.contains_eq_mem,decide_eq_true_eq] at hx; simp only [zfc,e _ hx])
theorem zgp{F:List Nat}{h h2:Hp}(e:∀b∈F,h2[b]?=h[b]?){x:AV}(hx:inF F x=true):zdO h2 x=zdO h x:=by
 unfold inF refB at hx
 cases x <;> first | rfl | (simp only [List.contains_eq_mem,decide_eq_true_eq] at hx; simp only [zdO,e _ hx])
theorem zlg{P:Program}{F:List Nat}{h h2:Hp}(e:∀b∈F,h2[b]?=h[b]?){t:TypeId}{x k:AV}{ok:Bool}(hx:inF F x=true):lkA P t h2 x k ok=lkA P t h x k ok:=by
 unfold inF refB at hx
 cases x <;> first | rfl | (simp only [List.contains_eq_mem,decide_eq_true_eq] at hx; simp only [lkA,zjO,e _ hx])
theorem zkU{P:Program}{F:List Nat}{h h2:Hp}(e:∀b∈F,h2[b]?=h[b]?){t:TypeId}{lo hi:Option AV}{x:AV}(hx:inF F x=true):slH P h2 t lo hi x=slH P h t lo hi x:=by
 unfold inF refB at hx
 cases x <;> first | rfl | (simp only [List.contains_eq_mem,decide_eq_true_eq] at hx; simp only [slH,mslA,e _ hx])
theorem zlz{o:Oper}{ρ:Operand->AV}{F:List Nat}{h:Hp}{K:AV->Hp->Prop}(hl:zjl F o.op ρ=true)(he:evS P o ρ h K):∃r,K r h/\∀h2:Hp,(∀b∈F,h2[b]?=h[b]?)->Step P o ρ h2 r h2:=by
 unfold zjl at hl
 have again:∀(h2:Hp),(∃r,K r h/\evS P o ρ h2 fun r' h'=>r'=r/\h'=h2)->∃r,K r h/\Step P o ρ h2 r h2:=by
  rintro h2 ⟨r,hk,hev⟩
  obtain ⟨r',h',hst,rfl,rfl⟩:=zdh hev
  exact ⟨r',hk,hst⟩
 have main:∃r,K r h/\∀h2:Hp,(∀b∈F,h2[b]?=h[b]?)->evS P o ρ h2 fun r' h'=>r'=r/\h'=h2:=by
  unfold evS at he ⊢
  cases ho:o.op <;> simp only [ho,rdOp] at hl he ⊢ <;> try cases hl
  case move=>exact ⟨_,he,fun h2 _=>⟨rfl,trivial⟩⟩
  case assign=>exact ⟨_,he,fun h2 _=>⟨rfl,trivial⟩⟩
  case nilCheck=>exact ⟨_,he.2,fun h2 _=>⟨he.1,rfl,trivial⟩⟩
  case pick=>obtain ⟨b,hb,hk⟩:=zav he; exact ⟨_,hk,fun h2 _=>by rw [hb]; exact ⟨rfl,trivial⟩⟩
  case binOp=>obtain ⟨b,hb,hk⟩:=zav he; exact ⟨_,hk,fun h2 _=>by rw [hb]; exact ⟨rfl,trivial⟩⟩
  case unOp=>obtain ⟨b,hb,hk⟩:=zav he; exact ⟨_,hk,fun h2 _=>by rw [hb]; exact ⟨rfl,trivial⟩⟩
  case slice t x lo hi mx =>
   cases mx with
   | some z=>cases hl
   | none =>
    simp only [List.all_cons,List.all_nil,Bool.and_true] at hl he ⊢
    obtain ⟨r,hr,hk⟩:=zav he
    exact ⟨_,hk,fun h2 e=>by rw [zkU e hl,hr]; exact ⟨rfl,trivial⟩⟩
  case build =>
   obtain ⟨z,hz,he⟩:=zav he
   obtain ⟨l,hl2,he⟩:=zav he
   obtain ⟨r,hr,hk⟩:=zav he
   exact ⟨_,hk,fun h2 _=>by rw [hz]; simp only [zch]; rw [hl2]; simp only [zch]; rw [hr]; exact ⟨rfl,trivial⟩⟩
  case fieldAddr =>
   obtain ⟨q,hq,hn,he⟩:=zav he
   obtain ⟨r,hr,hk⟩:=zav he
   exact ⟨_,hk,fun h2 _=>by rw [hq]; exact ⟨hn,by rw [hr]; exact ⟨rfl,trivial⟩⟩⟩
  case field =>
   obtain ⟨q,hq,he⟩:=zav he
   obtain ⟨ag,hag,he⟩:=zav he
   obtain ⟨n,hn,he⟩:=zav he
   obtain ⟨r,hr,hk⟩:=zav he
   exact ⟨_,hk,fun h2 _=>by rw [hq]; simp only [zch]; rw [hag,hn]; simp only [zch]; rw [hr]; exact ⟨rfl,trivial⟩⟩
  case index =>
   obtain ⟨h1,he⟩:=he
   obtain ⟨r,hr,hk⟩:=zav he
   exact ⟨_,hk,fun h2 _=>⟨h1,by rw [hr]; exact ⟨rfl,trivial⟩⟩⟩
  case extract =>
   obtain ⟨q,hq,he⟩:=zav he
   obtain ⟨r,hr,hk⟩:=zav he
   exact ⟨_,hk,fun h2 _=>by rw [hq]; simp only [zch]; rw [hr]; exact ⟨rfl,trivial⟩⟩
  case lookup =>
   simp only [List.all_cons,List.all_nil,Bool.and_true] at hl
   obtain ⟨r,hr,hk⟩:=zav he
   exact ⟨_,hk,fun h2 e=>by rw [zlg e hl,hr]; exact ⟨rfl,trivial⟩⟩
  case load =>
   simp only [List.all_cons,List.all_nil,Bool.and_true] at hl
   obtain ⟨ag,hag,he⟩:=zav he
   obtain ⟨n,hn,he⟩:=zav he
   obtain ⟨r,hr,hk⟩:=zav he
   exact ⟨_,hk,fun h2 e=>by rw [hag,hn]; simp only [zch]; rw [zk3 e hl,hr]; exact ⟨rfl,trivial⟩⟩
  case indexAddr =>
   simp only [List.all_cons,List.all_nil,Bool.and_true] at hl
   obtain ⟨ag,hag,he⟩:=zav he
   obtain ⟨n,hn,he⟩:=zav he
   obtain ⟨r,hr,hs,hk⟩:=zav he
   exact ⟨_,hk,fun h2 e=>by rw [hag]; simp only [zch]; rw [hn]; simp only [zch]; rw [hr]; exact ⟨(zgp e hl).trans hs,rfl,trivial⟩⟩
 obtain ⟨r,hk,hall⟩:=main
 refine ⟨r,hk,fun h2 e=>?_⟩
 obtain ⟨r',h',hst,rfl,rfl⟩:=zdh (hall h2 e)
 exact hst
theorem Ext.allocAt{I ι h w}(hr:Rel I ι h w){b:Nat}(hb0:h[b]?=some .hole)(o:LO)(ob:Obj)(cur sz:Nat)(ho:o.live=true)
  (hb:∀w' ι',w'=w.alloc ob->ι'=upd ι b (w.heap.size,cur,sz)->(∀x v,VR I w ι x v->VR I w' ι' x v)->BR I w' ι' (fun _=>False) o (w.heap.size,cur,sz)) :
  Ext I ι h w I (upd ι b (w.heap.size,cur,sz)) (h.set b o) (w.alloc ob):=by
 have hlt:b<h.length:=(List.getElem?_eq_some_iff.1 hb0).1
 have hf:=hr.hole b hb0
 have hmv:∀b',zby ι (upd ι b (w.heap.size,cur,sz)) b':=fun b'=>by
  by_cases e:b'=b
  ·subst e; exact ⟨fun c u s hc=>(by rw [hf.1] at hc; cases hc),fun c hc=>(by rw [hf.1] at hc; cases hc)⟩
  ·exact zby.of_eq (zbj e)
 have hsame:∀c,c<w.heap.size->(w.alloc ob).heap[c]?=w.heap[c]?:=fun c hc=>alloc_old w ob c hc
 have hIs:∀c,I c->(w.alloc ob).heap[c]?=w.heap[c]?:=fun c hc=>hsame c (hr.ilt c hc)
 have mono:∀x v,VR I w ι x v->VR I (w.alloc ob) (upd ι b (w.heap.size,cur,sz)) x v :=
  fun x v hv=>hv.mono (fun _ h=>h) hIs _ (fun b=>(hmv b).1) (fun b=>(hmv b).2)
 have atl:∀c,At (upd ι b (w.heap.size,cur,sz)) b c->c=w.heap.size:=fun c hc=>by
  rcases ziZ hc with ⟨_,e⟩ | h
  ·exact e
  ·exact absurd h hf.not
 have ato:∀b' c,b'≠b->At (upd ι b (w.heap.size,cur,sz)) b' c->At ι b' c:=fun b' c e hc=>(ziZ hc).elim (fun h=>absurd h.1 e) id
 have old:∀(b':Nat) o',(h.set b o)[b']?=some o'->b'≠b->h[b']?=some o':=fun b' o' ho' e=>by
  rwa [List.getElem?_set,if_neg (fun e2=>e e2.symm)] at ho'
 have own:∀c,Own (upd ι b (w.heap.size,cur,sz)) (h.set b o) c->Own ι h c\/w.heap.size<=c:=by
  rintro c ⟨b',ob',hb1,hb2,hb3⟩
  by_cases e:b'=b
  ·subst e; have:=atl c hb3; right; omega
  ·left; exact ⟨b',ob',old b' ob' hb1 e,hb2,ato b' c e hb3⟩
 refine ⟨⟨?_,?_,hr.tab.mono (fun _ h=>h) hIs,?_,?_,?_,?_,?_,?_⟩,⟨rfl,rfl,rfl,by rw [zcA]; omega,fun c hc _=>hsame c hc⟩,fun _ h=>h,fun _ h=>.inl h,own,hmv,?_,by simp⟩
 ·intro b' x o' hx ho'
  by_cases e:b'=b
  ·subst e
   rw [za5] at hx
   obtain rfl:=Option.some.inj hx
   simp [hlt] at ho'
   subst ho'
   exact BR.mono (fun _ h=>h) (fun _ _=>rfl) (fun b=>zby.refl _ _) (fun _ h=>h.elim) (fun _ h=>h.elim) rfl (hb _ _ rfl rfl mono)
  ·rw [zbj e] at hx
   exact BR.mono (fun _ h=>h) hIs hmv (fun _ h=>h) (fun c hc=>hsame c (hr.lt b' c (.inr hc))) (hsame _ (hr.lt' b' x hx)) (hr.real b' x o' hx (old b' o' ho' e))
 ·intro b' o' ho' hl
  by_cases e:b'=b
  ·subst e; rw [za5]; rfl
  ·rw [zbj e]; exact hr.dom b' o' (old b' o' ho' e) hl
 ·intro b1 b2 o1 o2 c h1 l1 h2 l2 a1 a2
  by_cases e1:b1=b <;> by_cases e2:b2=b
  ·omega
  ·subst e1; have:=atl c a1; have:=hr.lt b2 c (ato b2 c e2 a2); omega
  ·subst e2; have:=atl c a2; have:=hr.lt b1 c (ato b1 c e1 a1); omega
  ·exact hr.inj b1 b2 o1 o2 c (old b1 o1 h1 e1) l1 (old b2 o2 h2 e2) l2 (ato b1 c e1 a1) (ato b2 c e2 a2)
 ·intro b' c u s hc hs
  by_cases e:b'=b
  ·subst e; exact hf.2 c hs
  ·rw [zbj e] at hc; exact hr.own1 b' c u s hc hs
 ·intro c hc hI
  rcases own c hc with h' | h'
  ·exact hr.sep c h' hI
  ·have:=hr.ilt c hI; omega
 ·intro b' c hx
  by_cases e:b'=b
  ·subst e; have:=atl c hx; rw [zcA]; omega
  ·have:=hr.lt b' c (ato b' c e hx); rw [zcA]; omega
 ·intro c hc; have:=hr.ilt c hc; rw [zcA]; omega
 ·intro b' hb'
  by_cases e:b'=b
  ·subst e; simp [hlt] at hb'; subst hb'; cases ho
  ·have:=hr.hole b' (old b' _ hb' e)
   exact ⟨by rw [zbj e]; exact this.1,this.2⟩
 ·intro b' hb'
  simp at hb'
  exact ⟨zbj (by omega),rfl⟩
theorem Step.newAt{o:Oper}{ρ:Operand->AV}{h:Hp}{ty:TypeId}{cs:List AV}{b:Nat}(hb:h[b]?=some .hole)
  (hs:∀(I:Nat->Prop) (ι:Io) (w:World) (a:Act),Rel I ι h w->(∀x∈o.op.operands,VR I w ι (ρ x) (a.eval x)) ->
   ∃arr:Array Value,(execOp a.eval o).run P w=.ok (.value (.pointer (some ⟨w.heap.size,0,none⟩))) (w.alloc (.cells arr ty))/\arr.size=cs.length /\
    ∀(j:Nat) x y,cs[j]?=some x->arr[j]?=some y->VR I w ι x y):Step P o ρ h (.ptr b 0 0) (h.set b (.cells cs 0 ty)):=by
 intro I ι w a hr hf hx next Q k
 obtain ⟨arr,hrun,hsz,hxy⟩:=hs I ι w a hr hx
 unfold Oper.wp
 rw [hrun]
 refine k _ _ I _ (Ext.allocAt hr hb (.cells cs 0 ty) (.cells arr ty) 0 arr.size rfl ?_) ?_
 ·rintro w' ι' rfl rfl mono
  exact ⟨rfl,arr,_,zbN _ _,rfl,by omega,zdF.none,fun j x y hj hy=>.inl (mono _ _ (hxy j x y hj hy))⟩
 ·exact .ptr _ 0 arr.size (za5 _ _ _) (Nat.le_refl _) fun _=>rfl
theorem Step.allocHere{o:Oper}{ρ:Operand->AV}{h:Hp}{t:TypeId}{z:List AV}{b:Nat}(ho:o.op=.alloc t)(hz:zaH P t=some z)(hb:h[b]?=some .hole):Step P o ρ h (.ptr b 0 0) (h.set b (.cells z 0 t)):=by
 refine Step.newAt hb fun I ι w a hr hx=>?_
 obtain ⟨v,hv,hz⟩:=ze6 hz
 obtain ⟨e1,e2⟩:=ze4 (I:=I) (w:=w) (ι:=ι) hz
 refine ⟨v.cells,?_,e1,e2⟩
 unfold execOp
 simp only [ho,Instr.alloc,newVar,newRow]
 simp [hv]
theorem Step.boxHere{o:Oper}{ρ:Operand->AV}{h:Hp}{t:TypeId}{x:Operand}{b:Nat}(ho:o.op=.box t x)(h1:(cellsOf (ρ x)).all oneB=true)(hb:h[b]?=some .hole):Step P o ρ h (.ptr b 0 0) (h.set b (.cells (cellsOf (ρ x)) 0 t)):=by
 refine Step.newAt hb fun I ι w a hr hx=>?_
 have hv:=hx x (by simp [ho,Op.operands])
 obtain ⟨e1,e2,e3⟩:=hv.cells h1
 refine ⟨(a.eval x).cells,?_,e1,e3⟩
 unfold execOp
 simp only [ho,Instr.box,newVar,newRow]
 simp
theorem Step.mapHere{o:Oper}{ρ:Operand->AV}{h:Hp}{t:TypeId}{b:Nat}(ho:o.op=.makeMap t none)(hb:h[b]?=some .hole):Step P o ρ h (.map b) (h.set b (.map [])):=by
 intro I ι w a hr hf hx next Q k
 have hrun:(execOp a.eval o).run P w=.ok (.value (.map (some w.heap.size))) (w.alloc (.map #[] 0)):=by
  unfold execOp
  simp [ho,Instr.makeMap]
 unfold Oper.wp
 rw [hrun]
 refine k _ _ I _ (Ext.allocAt hr hb (.map []) (.map #[] 0) 0 0 rfl ?_) ?_
 ·rintro w' ι' rfl rfl mono
  exact ⟨rfl,rfl,#[],0,_,zbN _ _,rfl,by simp,by simp,zdF.none,by simp⟩
 ·exact .map _ (za5 _ _ _)
theorem Step.buildHere{o:Oper}{ρ:Operand->AV}{h:Hp}{t e:TypeId}{n k b:Nat}{parts:Array (Nat × Operand)}{z:List AV}(ho:o.op=.buildSlice t n parts)(he:zak P t=some e)(hk:tsz P e=some k)
  (hz:zaH P e=some z) (hn:parts.toList.map (·.1)=List.range n) (hk0:k≠0) (hb:n * k<=16777216) (hr:(parts.toList.map fun q=>ρ q.2).all (fun x=>(cellsOf x).length==k&&(cellsOf x).all oneB)=true) (hbl:h[b]?=some .hole) :
  Step P o ρ h (.msl b 1 0 k n n) (h.set b (.rows (parts.toList.map fun q=>cellsOf (ρ q.2)) k 1 e)):=by
 have hlen:parts.toList.length=n:=by have:=congrArg List.length hn; simpa using this
 intro I ι w a hrl hf hx next Q K
 obtain ⟨arr,hrun,hsz,hl,hxy⟩:=zf5 (h:=h) ho he hk hz hn hk0 hb hr I ι w a hrl hx
 unfold Oper.wp
 rw [hrun]
 simp only [List.length_map,hlen] at hsz ⊢
 refine K _ _ I _ (Ext.allocAt hrl hbl (.rows (parts.toList.map fun q=>cellsOf (ρ q.2)) k 1 e) (.cells arr e) 1 arr.size rfl ?_) ?_
 ·rintro w' ι' rfl rfl mono
  exact ⟨rfl,by omega,arr,_,zeq.of (zbN _ _),rfl,by rw [List.length_map,hlen]; omega,hl,zdF.none,fun i r j x y hi hj hy=>.inl (mono _ _ (hxy i r j x y hi hj hy))⟩
 ·exact .msl _ 1 arr.size (za5 _ _ _) (Nat.le_refl _) fun _=>⟨.inl (by simp),rfl,Nat.le_refl _,Nat.le_refl _,by rw [Nat.zero_add]; omega⟩
theorem zkW{P:Program}{F:List Nat}{h h2:Hp}(e:∀b∈F,h2[b]?=h[b]?){t:TypeId}{x:AV}(hx:inF F x=true):sdA P t h2 x=sdA P t h x:=by
 unfold sdA
 split
 ·simp only [inF,refB,List.contains_eq_mem,decide_eq_true_eq] at hx
  simp only [e _ hx]
 ·rfl
def zp3(P:Program)(b:Builtin)(ts:List TypeId)(rt:TypeId)(xs:List Operand)(ρ:Operand->AV)(F W:List Nat)(h:Hp)(K:AV->Hp->Prop):Prop :=
 match b,ts,xs with
 | .unsafeSliceData,[t],[x]=>inF F (ρ x)=true/\W=[]/\onS (sdA P rt h (ρ x)) fun r=>K r h
 | .len,[t],[x]=>inF F (ρ x)=true/\W=[]/\onS (lenA (ρ x)) fun n=>((match ρ x with | .str _=>zaJ P t | _=>(zak P t).isSome)=true/\zdO h (ρ x)=true)/\K (.int .i64 n) h
 | _,_,_=>False
theorem zjP{b:Builtin}{as:Array Operand}{ts:Array TypeId}{F W:List Nat}{o:Oper}{ρ:Operand->AV}{h:Hp}{K:AV->Hp->Prop}(ho:o.op=.call { callee:=.builtin b,args:=as,argTypes:=ts })
  (he:zp3 P b ts.toList o.type as.toList ρ F W h K):∃r h',zeO P o ρ h r h' F W/\K r h':=by
 obtain ⟨ts⟩:=ts
 obtain ⟨as⟩:=as
 unfold zp3 at he
 split at he
 ·rename_i t x e1 e2
  simp only at e1 e2; subst e1; subst e2
  obtain ⟨h1,rfl,he⟩:=he
  obtain ⟨r,hr,hk⟩:=zav he
  exact ⟨r,h,⟨rfl,fun _ _=>rfl,fun g _ hg=>Step.sliceData ho ((zkW hg h1).trans hr)⟩,hk⟩
 ·rename_i t x e1 e2
  simp only at e1 e2; subst e1; subst e2
  obtain ⟨h1,rfl,he⟩:=he
  obtain ⟨n,hn,⟨h2,h3⟩,hk⟩:=zav he
  refine ⟨_,h,⟨rfl,fun _ _=>rfl,fun g _ hg=>?_⟩,hk⟩
  have hev:evS P o ρ g fun r' h'=>r'=.int .i64 n/\h'=g:=by
   unfold evS
   simp only [ho,evB]
   simp only [List.map_cons,List.map_nil]
   rw [hn]
   exact ⟨⟨h2,(zgp hg h1).trans h3⟩,rfl,trivial⟩
  obtain ⟨r',h',hst,rfl,rfl⟩:=zdh hev
  exact hst
 ·exact he.elim
theorem zjb{h2 h':Hp}{b:Nat}{o:LO}(h:h'[b]?=some o):zhe h2 [b] h'=h2.set b o:=by
 show (match h'[b]? with | some o=>h2.set b o | none=>h2)=_
 rw [h]
theorem zg2{F:List Nat}{h h2:Hp}(e:∀b∈F,h2[b]?=h[b]?){k:Nat}{x:AV}(hx:inF F x=true):srcA h2 k x=srcA h k x:=by
 cases x <;> try rfl
 rename_i b ver off k' len cap
 simp only [srcA]
 rw [e b (by simpa [inF,refB] using hx)]
def mslB:AV->Option Nat
 | .msl b _ _ _ _ _=>some b
 | _=>none
theorem zeO.app{o:Oper}{ρ:Operand->AV}{h:Hp}{t:TypeId}{s x:Operand}{b:Nat}{F:List Nat}{r:AV × Hp}(ho:o.op=.call { callee:=.builtin .append,args:=#[s,x],argTypes:=#[t,t] })
  (hb:mslB (ρ s)=some b) (hF:b∈F) (hx:inF F (ρ x)=true) (hr:apA P t h (ρ s) (ρ x)=some r):zeO P o ρ h r.1 r.2 F [b]:=by
 have key:∀h2:Hp,(∀b∈F,h2[b]?=h[b]?)->∃X,b<h.length/\r.2=h.set b X/\apA P t h2 (ρ s) (ρ x)=some (r.1,h2.set b X):=by
  intro h2 hee
  have e1:=hee b hF
  unfold apA at hr ⊢
  cases hs:ρ s <;> rw [hs] at hb <;> first | (cases hb; done) | skip
  rename_i b' ver off k len cap
  obtain rfl:=Option.some.inj hb
  rw [hs] at hr
  simp only at hr ⊢
  rw [e1]
  split at hr
  ·rename_i rs k2 v ty hh
   have hlt:=(List.getElem?_eq_some_iff.1 hh).1
   simp only [Option.bind_eq_some_iff] at hr
   obtain ⟨e,he,k3,hk3,z,hz,bts,hbts,rows2,hsrc,hr⟩:=hr
   split at hr
   ·rename_i hc
    obtain rfl:=Option.some.inj hr
    refine ⟨_,hlt,rfl,?_⟩
    simp only [he,hk3,hz,hbts,Option.bind_some,zg2 hee hx,hsrc,if_pos hc]
   ·cases hr
  ·cases hr
 obtain ⟨X,hlt,e1,_⟩:=key h fun _ _=>rfl
 refine ⟨by rw [e1]; simp,fun b' hb'=>?_,fun g hl hg=>?_⟩
 ·rw [e1,List.getElem?_set,if_neg]
  intro e2; subst e2; simp at hb'
 ·obtain ⟨X2,_,e2,e3⟩:=key g hg
  have e4:X2=X:=by
   have:=e1.symm.trans e2
   have h5:=congrArg (fun l:Hp=>l[b]?) this
   simp [hlt] at h5
   exact h5.symm
  subst e4
  rw [zjb (o:=X2) (by rw [e2]; simp [hlt])]
  exact Step.append ho e3
theorem zqc{h:Hp}{x:AV}:frz h [] x=none:=by cases x <;> simp [frz]
theorem zoC{h:Hp}{x:AV}:frzd h [] x=none:=by cases x <;> simp [frzd]
theorem zoy{h:Hp}{x:AV}:frzp h [] x=none:=by cases x <;> simp [frzp]
theorem zl6{h h2:Hp}{x y:AV}(hw:wkS h [] x y):wkS h2 [] x y:=by
 rcases hw with h1 | h1 | h1 | h1 | ⟨rows,h1 | h1,h3⟩ | ⟨cs,off,h1,h3⟩
 ·exact .inl h1
 ·exact .inr (.inl h1)
 ·exact .inr (.inr (.inl h1))
 ·exact .inr (.inr (.inr (.inl h1)))
 ·rw [zqc] at h1; cases h1
 ·rw [zoC] at h1; cases h1
 ·rw [zoy] at h1; cases h1
theorem zix{h h2:Hp}:∀{xs ys:List AV},wkL h [] xs ys->wkL h2 [] xs ys
 | [],[],_=>trivial
 | x::xs,y::ys,hw=>⟨zl6 hw.1,zix hw.2⟩
 | [],_::_,hw=>hw.elim
 | _::_,[],hw=>hw.elim
theorem zpB{h h2:Hp}{x y:AV}(hw:wk h [] x y):wk h2 [] x y:=by
 rcases hw with h1 | ⟨xs,ys,e1,e2,h1⟩ | ⟨xs,ys,e1,e2,h1⟩
 ·exact .inl (zl6 h1)
 ·exact .inr (.inl ⟨xs,ys,e1,e2,zix h1⟩)
 ·exact .inr (.inr ⟨xs,ys,e1,e2,zix h1⟩)
theorem ziX{h h2:Hp}:∀{xs ys:List AV},wkAs h [] xs ys->wkAs h2 [] xs ys
 | [],[],_=>trivial
 | x::xs,y::ys,hw=>⟨zpB hw.1,ziX hw.2⟩
 | [],_::_,hw=>hw.elim
 | _::_,[],hw=>hw.elim
theorem zgu{h h2:Hp}{m:Nat->Nat}:∀{ns:List Nat} {os:Hp},(∀b∈ns,h2[b]?=h[b]?)->zfh h m ns os->zfh h2 m ns os
 | [],[],_,_=>trivial
 | n::ns,o::os,e,hp=>⟨(e n (List.mem_cons_self ..)).trans hp.1,zgu (fun b hb=>e b (List.mem_cons_of_mem _ hb)) hp.2⟩
 | [],_::_,_,hp=>hp.elim
 | _::_,[],_,hp=>hp.elim
def zgI(P:Program)(f:FuncId)(h:Hp)(xs:List AV)(F W:List Nat)(q:HowH):Prop:=(q.F=[]/\F=q.ns/\W=q.ns/\q.hc'.length=q.ns.length)/\callH P f h xs q
theorem zeO.heapCall{o:Oper}{ρ:Operand->AV}{h:Hp}{f:FuncId}{as:Array Operand}{ts:Array TypeId}(ho:o.op=.call { callee:=.value (.func f),args:=as,argTypes:=ts })(hf:fnOk P f=true){F W:List Nat}{q:HowH}
  (hc:zgI P f h (as.toList.map ρ) F W q):zeO P o ρ h (q.res h) (q.hp h) F W:=by
 obtain ⟨⟨hF,rfl,rfl,hl⟩,hc⟩:=hc
 have hcc:=hc
 obtain ⟨⟨h1,h2,h3,h4,h5,h6,h7,h8⟩,h9⟩:=hc
 have hnd:=zfu h3
 have hlt:∀n∈q.ns,n<h.length:=fun n hn=>by simpa using (List.all_eq_true.1 h4) n hn
 have hhp:∀g:Hp,q.hp g=lay g q.ns (q.hc'.map (renO (nm q.ns g.length))):=fun g=>by
  unfold HowH.hp; rw [hF]; rfl
 have hos:∀g:Hp,q.ns.length<=(q.hc'.map (renO (nm q.ns g.length))).length:=fun g=>by simp [hl]
 have hlen:∀g:Hp,(q.hp g).length=g.length:=fun g=>by
  rw [hhp,zgg _ _ _ (hos g)]; simp [hl]
 have hold:∀(g:Hp) (b:Nat),b∉q.ns->(q.hp g)[b]?=g[b]?:=fun g b hb=>by
  by_cases hbl:b<g.length
  ·rw [hhp,ziL _ _ _ _ (hos g) hbl hb]
  ·rw [List.getElem?_eq_none_iff.2 (by rw [hlen]; omega),List.getElem?_eq_none_iff.2 (by omega)]
 refine ⟨hlen h,hold h,fun g hgl hge=>?_⟩
 have hcg:callH P f g (as.toList.map ρ) q:=by
  refine ⟨⟨by rw [hF]; rfl,?_,h3,by rw [hgl]; exact h4,?_,h6,h7,h8⟩,h9⟩
  ·rw [hgl]; rw [hF] at h2 ⊢; exact ziX h2
  ·rw [hgl]; rw [hF] at h5 ⊢; exact zgu hge h5
 have hst:=Step.callH ho hf hcg
 have e1:q.res g=q.res h:=by unfold HowH.res; rw [hgl]
 have e2:q.hp g=zhe g q.ns (q.hp h):=by
  apply List.ext_getElem?
  intro b
  rw [zdR _ _ _ (by rw [hlen,hgl])]
  split
  ·rename_i hb
   have hb:b∈q.ns:=by simpa using hb
   have hil:=List.idxOf_lt_length_of_mem hb
   have hib:q.ns[q.ns.idxOf b]?=some b:=by rw [List.getElem?_eq_getElem hil,List.getElem_idxOf hil]
   rw [hhp,hhp,zgS _ _ _ _ _ (hos g) hnd (fun n hn=>by rw [hgl]; exact hlt n hn) hib,zgS _ _ _ _ _ (hos h) hnd hlt hib,hgl]
  ·rename_i hb
   exact hold g b (by simpa using hb)
 rw [e1,e2] at hst
 exact hst
inductive Cl where
 | any
 | light
 | store
 | here (b:Nat)
 | call
 | look
 | lit
 | callh
 | app
 | appi
def evL(P:Program)(c:Cl)(F W:List Nat)(o:Oper)(ρ:Operand->AV)(h:Hp)(K:AV->Hp->Prop):Prop :=
 match c with
 | .any=>evS P o ρ h fun r h'=>(h'.length=h.length/\F=List.range h.length/\W=F)/\K r h'
 | .light=>zjl F o.op ρ=true/\W=[]/\evS P o ρ h fun r h'=>h'=h/\K r h'
 | .store=>match o.op with
  | .store t p x=>∃b,refB (ρ p)=some b/\(F=[b]/\W=[b])/\onS (tsz P t) fun n=>n=(cellsOf (ρ x)).length/\(cellsOf (ρ x)).all oneB=true/\onS (stA h (ρ p) (cellsOf (ρ x))) fun h'=>K .undef h'
  | _=>False
 | .here b=>match o.op with
  | .alloc t=>(h[b]?=some .hole/\F=[b]/\W=[b])/\onS (zaH P t) fun z=>K (.ptr b 0 0) (h.set b (.cells z 0 t))
  | .box t x=>(h[b]?=some .hole/\F=[b]/\W=[b])/\(cellsOf (ρ x)).all oneB=true/\K (.ptr b 0 0) (h.set b (.cells (cellsOf (ρ x)) 0 t))
  | .makeMap t none=>(h[b]?=some .hole/\F=[b]/\W=[b])/\K (.map b) (h.set b (.map []))
  | .buildSlice t n parts=>(h[b]?=some .hole/\F=[b]/\W=[b])/\onS (zak P t) fun e=>onS (tsz P e) fun k=>onS (zaH P e) fun _=>(parts.toList.map (·.1)=List.range n/\k≠0/\n * k<=16777216) /\
    (zcP k (parts.toList.map fun q=>cellsOf (ρ q.2))=true/\K (.msl b 1 0 k n n) (h.set b (.rows (parts.toList.map fun q=>cellsOf (ρ q.2)) k 1 e)))
  | _=>False
 | .call=>match o.op with
  | .call c=>match c.callee with
   | .value (.func f)=>fnOk P f=true/\W=[]/\zbe (c.args.toList.map ρ)=true/\∃r,zaO P f (c.args.toList.map ρ) r/\K r h
   | _=>False
  | _=>False
 | .look=>match o.op with
  | .call c=>match c.callee with
   | .builtin b=>zp3 P b c.argTypes.toList o.type c.args.toList ρ F W h K
   | _=>False
  | _=>False
 | .app=>match o.op with
  | .call c=>match c.callee,c.args.toList,c.argTypes.toList with
   | .builtin .append,[s,x],[t,t']=>match F with
    | b::F'=>(t=t'/\W=[b]/\mslB (ρ s)=some b/\inF (b::F') (ρ x)=true)/\onS (apA P t h (ρ s) (ρ x)) fun r=>K r.1 r.2
    | []=>False
   | _,_,_=>False
  | _=>False
 | .appi=>match o.op with
  | .call c=>match c.callee,c.args.toList,c.argTypes.toList with
   | .builtin .append,[s,x],[t,t']=>(t=t'/\W=[]/\inF F (ρ x)=true)/\onS (apI P t h (ρ s) (ρ x)) fun r=>K r h
   | _,_,_=>False
  | _=>False
 | .lit=>match o.op with
  | .buildSlice t n parts=>(F=[]/\W=[])/\onS (zak P t) fun e=>onS (tsz P e) fun k=>onS (zaH P e) fun _=>(parts.toList.map (·.1)=List.range n/\k≠0/\n * k<=16777216) /\
    ((parts.toList.map fun q=>ρ q.2).all (zi6 k)=true/\K (if n=0 then .emp else .sl (parts.toList.map fun q=>(cellsOf (ρ q.2)).map nz)) h)
  | _=>False
 | .callh=>match o.op with
  | .call c=>match c.callee with
   | .value (.func f)=>fnOk P f=true/\∃q:HowH,zgI P f h (c.args.toList.map ρ) F W q/\K (q.res h) (q.hp h)
   | _=>False
  | _=>False
theorem zeO.set{o:Oper}{ρ:Operand->AV}{h:Hp}{r:AV}{b:Nat}{x:LO}(hb:b<h.length)(hs:∀h2:Hp,h2.length=h.length->h2[b]?=h[b]?->Step P o ρ h2 r (h2.set b x)):zeO P o ρ h r (h.set b x) [b] [b]:=by
 refine ⟨by simp,fun b' hb'=>?_,fun h2 hl he=>?_⟩
 ·rw [List.getElem?_set,if_neg]; intro e; subst e; simp at hb'
 ·rw [zjb (o:=x) (by simp [List.getElem?_set,hb])]
  exact hs h2 hl (he b (by simp))
theorem zng{c:Cl}{F W:List Nat}{o:Oper}{ρ:Operand->AV}{h:Hp}{K:AV->Hp->Prop}(he:evL P c F W o ρ h K):∃r h',zeO P o ρ h r h' F W/\K r h':=by
 cases c with
 | any =>
  have he:evS P o ρ h fun r h'=>(h'.length=h.length/\F=List.range h.length/\W=F)/\K r h':=he
  obtain ⟨r,h',hst,⟨h1,h2,h3⟩,hk⟩:=zdh he
  refine ⟨r,h',⟨h1,fun b hb=>?_,fun g hl hg=>?_⟩,hk⟩
  ·subst h3; subst h2
   have:¬b<h.length:=by simpa using hb
   rw [List.getElem?_eq_none_iff.2 (by omega),List.getElem?_eq_none_iff.2 (by omega)]
  ·have e:g=h:=List.ext_getElem? fun b=>by
    by_cases hb:b<h.length
    ·exact hg b (by subst h2; simpa using hb)
    ·rw [List.getElem?_eq_none_iff.2 (by omega),List.getElem?_eq_none_iff.2 (by omega)]
   subst e
   have e2:zhe g W h'=h':=List.ext_getElem? fun b=>by
    rw [zdR _ _ _ (by omega)]
    split
    ·rfl
    ·rename_i hb
     subst h3; subst h2
     have:¬b<g.length:=by simpa using hb
     rw [List.getElem?_eq_none_iff.2 (by omega),List.getElem?_eq_none_iff.2 (by omega)]
   rw [e2]; exact hst
 | light =>
  obtain ⟨h1,rfl,he⟩:=he
  obtain ⟨r,⟨_,hk⟩,hall⟩:=zlz h1 he
  exact ⟨r,h,⟨rfl,fun _ _=>rfl,fun g _ hg=>hall g hg⟩,hk⟩
 | store =>
  simp only [evL] at he
  split at he
  ·rename_i t p x ho
   obtain ⟨b,hb,⟨rfl,rfl⟩,he⟩:=he
   obtain ⟨n,hn,e,h1,he⟩:=zav he
   obtain ⟨h',hs,hk⟩:=zav he
   have key:∃y,h'=h.set b y/\b<h.length/\∀h2:Hp,h2[b]?=h[b]?->stA h2 (ρ p) (cellsOf (ρ x))=some (h2.set b y):=by
    generalize ρ p=pp at hb hs
    unfold stA at hs
    split at hs
    ·rename_i b' ver off
     simp only [refB,Option.some.injEq] at hb
     subst hb
     split at hs
     ·rename_i cs v ty hb'
      split at hs
      ·rename_i e1
       split at hs
       ·rename_i e2
        obtain rfl:=Option.some.inj hs
        exact ⟨_,rfl,(List.getElem?_eq_some_iff.1 hb').1,fun h2 he2=>by simp only [stA,he2,hb',e1,e2,if_true]⟩
       ·cases hs
      ·cases hs
     ·cases hs
    ·rename_i b' ver esz k j
     simp only [refB,Option.some.injEq] at hb
     subst hb
     split at hs
     ·rename_i rs e0 v ty hb'
      split at hs
      ·rename_i e1
       split at hs
       ·rename_i r hr
        split at hs
        ·rename_i e2
         obtain rfl:=Option.some.inj hs
         exact ⟨_,rfl,(List.getElem?_eq_some_iff.1 hb').1,fun h2 he2=>by simp only [stA,he2,hb',e1,hr,e2,if_true,and_self]⟩
        ·cases hs
       ·cases hs
      ·cases hs
     ·cases hs
    ·cases hs
   obtain ⟨y,rfl,hbl,hall⟩:=key
   exact ⟨_,_,zeO.set hbl fun h2 hl hg=>Step.store ho (e▸hn) h1 (hall h2 hg),hk⟩
  ·exact he.elim
 | here b =>
  simp only [evL] at he
  split at he
  ·rename_i t ho
   obtain ⟨⟨hb,rfl,rfl⟩,he⟩:=he
   obtain ⟨z,hz,hk⟩:=zav he
   exact ⟨_,_,zeO.set (List.getElem?_eq_some_iff.1 hb).1 fun h2 hl hg=>Step.allocHere ho hz (hg.trans hb),hk⟩
  ·rename_i t x ho
   obtain ⟨⟨hb,rfl,rfl⟩,h1,hk⟩:=he
   exact ⟨_,_,zeO.set (List.getElem?_eq_some_iff.1 hb).1 fun h2 hl hg=>Step.boxHere ho h1 (hg.trans hb),hk⟩
  ·rename_i t ho
   obtain ⟨⟨hb,rfl,rfl⟩,hk⟩:=he
   exact ⟨_,_,zeO.set (List.getElem?_eq_some_iff.1 hb).1 fun h2 hl hg=>Step.mapHere ho (hg.trans hb),hk⟩
  ·rename_i t n parts ho
   obtain ⟨⟨hb,rfl,rfl⟩,he⟩:=he
   obtain ⟨e,hel,he⟩:=zav he
   obtain ⟨k,hk,he⟩:=zav he
   obtain ⟨z,hz,⟨h1,h3,h4⟩,h5,hK⟩:=zav he
   exact ⟨_,_,zeO.set (List.getElem?_eq_some_iff.1 hb).1 fun h2 hl hg=>Step.buildHere ho hel hk hz h1 h3 h4 (by simpa [zcP,List.all_map,Function.comp_def] using h5) (hg.trans hb),hK⟩
  ·exact he.elim
 | call =>
  simp only [evL] at he
  split at he
  ·rename_i c ho
   split at he
   ·rename_i f hc
    obtain ⟨hf,rfl,hp,r,hr,hk⟩:=he
    refine ⟨r,h,⟨rfl,fun _ _=>rfl,fun g _ hg=>?_⟩,hk⟩
    exact Step.call (as:=c.args) (ts:=c.argTypes) (by rw [ho]; cases c; simp_all) hf hp hr
   ·exact he.elim
  ·exact he.elim
 | look =>
  simp only [evL] at he
  split at he
  ·rename_i c ho
   split at he
   ·rename_i b hc
    exact zjP (as:=c.args) (ts:=c.argTypes) (by rw [ho]; cases c; simp_all) he
   ·exact he.elim
  ·exact he.elim
 | app =>
  simp only [evL] at he
  split at he
  ·rename_i c ho
   split at he
   ·rename_i s x t t' hc ha ht
    split at he
    ·rename_i b F'
     obtain ⟨⟨rfl,rfl,hb,hx⟩,he⟩:=he
     obtain ⟨r,hr,hk⟩:=zav he
     refine ⟨_,_,zeO.app (t:=t) (s:=s) (x:=x) ?_ hb (List.mem_cons_self ..) hx hr,hk⟩
     rw [ho]; cases c; simp_all
     exact ⟨Array.toList_inj.1 ha,Array.toList_inj.1 ht⟩
    ·exact he.elim
   ·exact he.elim
  ·exact he.elim
 | appi =>
  simp only [evL] at he
  split at he
  ·rename_i c ho
   split at he
   ·rename_i s x t t' hc ha ht
    obtain ⟨⟨rfl,rfl,hx⟩,he⟩:=he
    obtain ⟨r,hr,hk⟩:=zav he
    refine ⟨_,h,⟨rfl,fun _ _=>rfl,fun g hl hg=>?_⟩,hk⟩
    have hr2:apI P t g (ρ s) (ρ x)=some r:=by
     rw [← hr]
     unfold apI
     simp only [zg2 hg hx]
    refine Step.appendI (t:=t) (s:=s) (x:=x) ?_ hr2
    rw [ho]; cases c; simp_all
    exact ⟨Array.toList_inj.1 ha,Array.toList_inj.1 ht⟩
   ·exact he.elim
  ·exact he.elim
 | lit =>
  simp only [evL] at he
  split at he
  ·rename_i t n parts ho
   obtain ⟨⟨rfl,rfl⟩,he⟩:=he
   obtain ⟨e,hel,he⟩:=zav he
   obtain ⟨k,hk,he⟩:=zav he
   obtain ⟨z,hz,h1,h2,hK⟩:=zav he
   refine ⟨_,h,⟨rfl,fun _ _=>rfl,fun g _ _=>?_⟩,hK⟩
   have hs:evS P o ρ g fun r h'=>r=(if n=0 then .emp else .sl (parts.toList.map fun q=>(cellsOf (ρ q.2)).map nz))/\h'=g:=by
    unfold evS
    rw [ho]
    refine ⟨false,trivial,?_⟩
    rw [hel]
    show onS (tsz P e) _
    rw [hk]
    show onS (zaH P e) _
    rw [hz]
    exact ⟨h1,h2,rfl,rfl⟩
   obtain ⟨r,h',hst,rfl,rfl⟩:=zdh hs
   exact hst
  ·exact he.elim
 | callh =>
  simp only [evL] at he
  split at he
  ·rename_i c ho
   split at he
   ·rename_i f hc
    obtain ⟨hf,q,hq,hk⟩:=he
    exact ⟨_,_,zeO.heapCall (as:=c.args) (ts:=c.argTypes) (by rw [ho]; cases c; simp_all) hf hq,hk⟩
   ·exact he.elim
  ·exact he.elim
def zkA:Hp->Hp->Bool
 | [],[]=>true
 | .hole::a,_::b=>zkA a b
 | _,_=>false
@[go_sem] theorem zqR:zkA [] []=true:=rfl
@[go_sem] theorem zqb{a b:Hp}{o:LO}:zkA (.hole::a) (o::b)=zkA a b:=rfl
def cl(cs:List Cl)(i:Nat):Cl:=cs.getD i .any
def evLK(P:Program)(c:Cl)(F W:List Nat)(o:Oper)(ρ:Operand->AV)(h:Hp)(K:AV->Hp->Prop)(_:Hold (o,K)):Prop:=evL P c F W o ρ h K
def zfC(P:Program)(ops:Array Oper)(cs:List Cl)(fw:FW)(Q:zaC->Hp->Prop):Nat->(l:List Oper)->zaC->Hp->Hold (ops,Q,l)->Prop
 | _,[],s,h,_=>Q s h
 | i,o::rest,s,h,_=>onG (zce ops s o) (fun _=>evL P (cl cs i) (ft fw i) (wr fw i) o s.ev h fun r h'=>zfC P ops cs fw Q (i+1) rest (s.put o.dst r) h' (held _)) (fun _=>zfC P ops cs fw Q (i+1) rest (s.put o.dst (.tuple [])) h (held _)) (held _)
theorem zhG{ops:Array Oper}{cs:List Cl}{fw:FW}{Q:zaC->Hp->Prop}:∀(l:List Oper) (i:Nat) (s h) (k),zfC P ops cs fw Q i l s h k->RunL P ops fw Q i l s h
 | [],i,s,h,_,hr=>hr
 | o::rest,i,s,h,_,hr=>by
  simp only [zfC] at hr
  simp only [RunL]
  split
  ·rename_i e
   rw [e,zpX] at hr
   obtain ⟨r,h',hst,hk⟩:=zng hr
   exact ⟨r,h',hst,zhG rest _ _ _ _ hk⟩
  ·rename_i e
   rw [e,zpY] at hr
   exact zhG rest _ _ _ _ hr
  ·rename_i e
   rw [e] at hr
   exact hr
theorem W.regionL_{id}{l:List Oper}{s h Q k}(cs:List Cl)(fw:FW)(hm:P.follows .mixedOrders=true)(hN:zdY N l.toArray=true)(hd:zgk fw l.toArray=true)(hu:upOk l.toArray=true)(hr:zfC P l.toArray cs fw (fun s h=>Q .normal s h) 0 l s h (held _)) :
  W P N n0 (.region id l.toArray true) Q s h k :=
 WP.regionL fw hm hN hd hu (by rw [List.toList_toArray]; exact zhG _ _ _ _ _ hr)
theorem W.seqL{id}{l:List Oper}{y s h Q k}(cs:List Cl)(fw:FW)(F:Gs)(s1:zaC)(h1:Hp)(hm:P.follows .mixedOrders=true)(hN:zdY N l.toArray=true)(hd:zgk fw l.toArray=true)(hu:upOk l.toArray=true)
  (hrun:zfC P l.toArray cs fw (fun s h=>AT n0 F s1 h1 s h) 0 l s h (held _)) (hy:WK P N n0 y Q s1 h1):W P N n0 (.seq (.region id l.toArray true) y) Q s h k :=
 WP.seq (WP.mono (W.regionL_ (k:=held _) (Q:=zeK (fun s h=>AT n0 F s1 h1 s h) (fun _ _ _=>False)) cs fw hm hN hd hu hrun) fun e s h q=>by
  cases e with
  | normal=>exact WP.weak q hy
  | _=>exact q.elim)
section rules
variable {cs:List Cl} {fw:FW} {i:Nat} {ops:Array Oper} {Q:zaC->Hp->Prop} {rest:List Oper} {s:zaC} {h:Hp} {d:Option Nat} {ty:TypeId} {pos:String} {af:Array Edge} {g:Option (Nat × Bool)} {ρ:Operand->AV} {K:AV->Hp->Prop} {F W:List Nat}
@[go_sem] theorem zsg{k}:zfC P ops cs fw Q i [] s h k=Q s h:=rfl
@[go_sem] theorem zqu{op:Op}{k}:zfC P ops cs fw Q i ({ dst:=d,op:=op,type:=ty,pos:=pos,after:=af,guard:=none }::rest) s h k =
  evLK P (cl cs i) (ft fw i) (wr fw i) { dst:=d,op:=op,type:=ty,pos:=pos,after:=af,guard:=none } s.ev h (fun r h'=>zfC P ops cs fw Q (i+1) rest (s.put d r) h' (held _)) (held _):=rfl
@[go_sem] theorem zqv{op:Op}{j:Nat}{want:Bool}{k}:zfC P ops cs fw Q i ({ dst:=d,op:=op,type:=ty,pos:=pos,after:=af,guard:=some (j,want) }::rest) s h k =
  onG (zhR (zhw ops j) s want) (fun _=>evLK P (cl cs i) (ft fw i) (wr fw i) { dst:=d,op:=op,type:=ty,pos:=pos,after:=af,guard:=some (j,want) } s.ev h (fun r h'=>zfC P ops cs fw Q (i+1) rest (s.put d r) h' (held _)) (held _))
   (fun _=>zfC P ops cs fw Q (i+1) rest (s.put d (.tuple [])) h (held _)) (held _):=by
 have e:zce ops s { dst:=d,op:=op,type:=ty,pos:=pos,after:=af,guard:=some (j,want) }=zhR (zhw ops j) s want:=by
  simp only [zce,zhw,zhR]
  cases (ops[j]?).bind (·.dst) with
  | none=>rfl
  | some t=>simp only [grd]; cases s.get t <;> first | rfl | (rename_i b; cases b <;> cases want <;> rfl)
 rw [← e]; rfl
@[go_sem] theorem zwj{o:Oper}{k}:evLK P .any F W o ρ h K k=evK P o ρ h (fun r h'=>(h'.length=h.length/\F=List.range h.length/\W=F)/\K r h') (held _):=rfl
@[go_sem] theorem zqU{o:Oper}{k}:evLK P .light F W o ρ h K k=(zjl F o.op ρ=true/\W=[]/\evK P o ρ h (fun r h'=>h'=h/\K r h') (held _)):=rfl
@[go_sem] theorem zqT{t:TypeId}{p x:Operand}{k}:evLK P .store F W { dst:=d,op:=.store t p x,type:=ty,pos:=pos,after:=af,guard:=g } ρ h K k=exP (fun b:Nat=>refB (ρ p)=some b) (fun b=>(F=[b]/\W=[b])/\onS (tsz P t) fun n=>n=(cellsOf (ρ x)).length/\(cellsOf (ρ x)).all oneB=true/\onS (stA h (ρ p) (cellsOf (ρ x))) fun h'=>K .undef h') (held _):=rfl
@[go_sem] theorem zwb{α:Type}{a:α}{K:α->Prop}{k}:exP (fun b:α=>some a=some b) K k=K a:=propext ⟨fun ⟨b,e,h⟩=>by obtain rfl:=Option.some.inj e; exact h,fun h=>⟨a,rfl,h⟩⟩
@[go_sem] theorem zqW{t:TypeId}{b:Nat}{k}:evLK P (.here b) F W { dst:=d,op:=.alloc t,type:=ty,pos:=pos,after:=af,guard:=g } ρ h K k=((h[b]?=some .hole/\F=[b]/\W=[b])/\onS (zaH P t) fun z=>K (.ptr b 0 0) (h.set b (.cells z 0 t))):=rfl
@[go_sem] theorem zwh{t:TypeId}{x:Operand}{b:Nat}{k}:evLK P (.here b) F W { dst:=d,op:=.box t x,type:=ty,pos:=pos,after:=af,guard:=g } ρ h K k=((h[b]?=some .hole/\F=[b]/\W=[b])/\(cellsOf (ρ x)).all oneB=true/\K (.ptr b 0 0) (h.set b (.cells (cellsOf (ρ x)) 0 t))):=rfl
@[go_sem] theorem zr0{f:FuncId}{as:Array Operand}{ts:Array TypeId}{k}:evLK P .call F W { dst:=d,op:=.call { callee:=.value (.func f),args:=as,argTypes:=ts },type:=ty,pos:=pos,after:=af,guard:=g } ρ h K k=(fnOk P f=true/\W=[]/\zbe (as.toList.map ρ)=true/\exP (zaO P f (as.toList.map ρ)) (fun r=>K r h) (held _)):=rfl
@[go_sem] theorem znJ{t:TypeId}{x:Operand}{k}:evLK P .look F W { dst:=d,op:=.call { callee:=.builtin .unsafeSliceData,args:=#[x],argTypes:=#[t] },type:=ty,pos:=pos,after:=af,guard:=g } ρ h K k=(inF F (ρ x)=true/\W=[]/\onS (sdA P ty h (ρ x)) fun r=>K r h):=rfl
@[go_sem] theorem zwg{t:TypeId}{x:Operand}{k}:evLK P .look F W { dst:=d,op:=.call { callee:=.builtin .len,args:=#[x],argTypes:=#[t] },type:=ty,pos:=pos,after:=af,guard:=g } ρ h K k=(inF F (ρ x)=true/\W=[]/\onS (lenA (ρ x)) fun n=>((match ρ x with | .str _=>zaJ P t | _=>(zak P t).isSome)=true/\zdO h (ρ x)=true)/\K (.int .i64 n) h):=rfl
@[go_sem] theorem zwe{t:TypeId}{b:Nat}{k}:evLK P (.here b) F W { dst:=d,op:=.makeMap t none,type:=ty,pos:=pos,after:=af,guard:=g } ρ h K k=((h[b]?=some .hole/\F=[b]/\W=[b])/\K (.map b) (h.set b (.map []))):=rfl
@[go_sem] theorem zwd{t:TypeId}{n b:Nat}{parts:Array (Nat × Operand)}{k}:evLK P (.here b) F W { dst:=d,op:=.buildSlice t n parts,type:=ty,pos:=pos,after:=af,guard:=g } ρ h K k=((h[b]?=some .hole/\F=[b]/\W=[b])/\onS (zak P t) fun e=>onS (tsz P e) fun k=>onS (zaH P e) fun _=>(parts.toList.map (·.1)=List.range n/\k≠0/\n * k<=16777216) /\
        (zcP k (parts.toList.map fun q=>cellsOf (ρ q.2))=true/\K (.msl b 1 0 k n n) (h.set b (.rows (parts.toList.map fun q=>cellsOf (ρ q.2)) k 1 e)))):=rfl
@[go_sem] theorem zwi{t t':TypeId}{s x:Operand}{b:Nat}{F':List Nat}{k}:evLK P .app (b::F') W { dst:=d,op:=.call { callee:=.builtin .append,args:=#[s,x],argTypes:=#[t,t'] },type:=ty,pos:=pos,after:=af,guard:=g } ρ h K k=((t=t'/\W=[b]/\mslB (ρ s)=some b/\inF (b::F') (ρ x)=true)/\onS (apA P t h (ρ s) (ρ x)) fun r=>K r.1 r.2):=rfl
@[go_sem] theorem zr1{t t':TypeId}{s x:Operand}{k}:evLK P .appi F W { dst:=d,op:=.call { callee:=.builtin .append,args:=#[s,x],argTypes:=#[t,t'] },type:=ty,pos:=pos,after:=af,guard:=g } ρ h K k=((t=t'/\W=[]/\inF F (ρ x)=true)/\onS (apI P t h (ρ s) (ρ x)) fun r=>K r h):=rfl
attribute [go_sem] mslB List.head?_cons
@[go_sem] theorem zwf{t:TypeId}{n:Nat}{parts:Array (Nat × Operand)}{k}:evLK P .lit F W { dst:=d,op:=.buildSlice t n parts,type:=ty,pos:=pos,after:=af,guard:=g } ρ h K k=((F=[]/\W=[])/\onS (zak P t) fun e=>onS (tsz P e) fun k=>onS (zaH P e) fun _=>(parts.toList.map (·.1)=List.range n/\k≠0/\n * k<=16777216) /\
        ((parts.toList.map fun q=>ρ q.2).all (zi6 k)=true/\K (if n=0 then .emp else .sl (parts.toList.map fun q=>(cellsOf (ρ q.2)).map nz)) h)):=rfl
@[go_sem] theorem zqV{f:FuncId}{as:Array Operand}{ts:Array TypeId}{k}:evLK P .callh F W { dst:=d,op:=.call { callee:=.value (.func f),args:=as,argTypes:=ts },type:=ty,pos:=pos,after:=af,guard:=g } ρ h K k=(fnOk P f=true/\exP (zgI P f h (as.toList.map ρ) F W) (fun q=>K (ren (nm q.ns h.length) q.r) (lay (kill q.F h) q.ns (q.hc'.map (renO (nm q.ns h.length))))) (held _)):=rfl
theorem zgI.of{f:FuncId}{h:Hp}{xs:List AV}{F W:List Nat}{q:HowH}(h1:(q.F=[]/\F=q.ns/\W=q.ns/\q.hc'.length=q.ns.length)/\(q.F.all (fun b=>zfx h b)=true/\wkAs h q.F xs (rens (nm q.ns h.length) q.args)/\zfT q.ns=true/\q.ns.all (fun n=>decide (n<h.length))=true/\zfh (kill q.F h) (nm q.ns h.length) q.ns q.hc/\q.ns.length<=q.hc'.length/\zaU q.hc.length q.args=true/\ze2 q.hc.length q.hc=true))
  (h2:HF P f q.args q.hc q.r q.hc'):zgI P f h xs F W q:=⟨h1.1,h1.2,h2⟩
@[go_sem] theorem cl_0{c:Cl}{cs:List Cl}:cl (c::cs) 0=c:=rfl
@[go_sem] theorem cl_s{c:Cl}{cs:List Cl}{n:Nat}:cl (c::cs) (n+1)=cl cs n:=rfl
end rules
attribute [go_sem] ft wr inF zjl List.getD_cons_zero List.getD_cons_succ List.getD_nil
end Go.Vs
end
section
namespace Go.Vs
variable [Tab]
variable {P:Program} {N n0:Nat} {h:Hp} {F:List Nat}
@[go_sem] theorem zra{x:AV}:wkS h F x .undef=True:=eq_true (.inr (.inl rfl))
@[go_sem] theorem zsn{x:AV}:wkS h F x x=True:=eq_true (.inl rfl)
@[go_sem] theorem zwx{k k':IntKind}{a b:Int}:wkS h F (.int k a) (.int k' b)=(k=k'/\a=b):=by
 simp [wkS,frz,frzd,frzp]; exact ⟨fun ⟨a,b⟩=>⟨a.symm,b.symm⟩,fun ⟨a,b⟩=>⟨a.symm,b.symm⟩⟩
@[go_sem] theorem zsp{a b:Bool}:wkS h F (.bool a) (.bool b)=(a=b):=by
 simp [wkS,frz,frzd,frzp]; exact ⟨Eq.symm,Eq.symm⟩
@[go_sem] theorem zwv{a b:ByteArray}:wkS h F (.str a) (.str b)=(a=b):=by
 simp [wkS,frz,frzd,frzp]; exact ⟨Eq.symm,Eq.symm⟩
@[go_sem] theorem zzD{a b:List (List AV)}:wkS h F (.sl a) (.sl b)=(a=b):=by
 simp [wkS,frz,frzd,frzp]; exact ⟨Eq.symm,Eq.symm⟩
@[go_sem] theorem zpC{b:List (List AV)}:wkS h F .nils (.sl b)=(b=[]):=by simp [wkS,frz,frzd,frzp]
@[go_sem] theorem zqC{b:List (List AV)}:wkS h F .emp (.sl b)=(b=[]):=by simp [wkS,frz,frzd,frzp]
@[go_sem] theorem zoZ:wkS h F .nils .emp=True:=by simp [wkS]
@[go_sem] theorem zzB{x:AV}:wk h F x .emp=wkS h F x .emp:=by
 apply propext
 constructor
 ·rintro (h1 | ⟨_,_,_,h1,_⟩ | ⟨_,_,_,h1,_⟩)
  ·exact h1
  ·cases h1
  ·cases h1
 ·exact .inl
@[go_sem] theorem zoY{b ver off k len cap:Nat}:wkS h F .nils (.msl b ver off k len cap)=(len=0/\cap=0):=by
 simp [wkS,frz,frzd,frzp]
@[go_sem] theorem zqB{b ver off k len cap:Nat}{r:List (List AV)}:wkS h F (.msl b ver off k len cap) (.sl r)=(frz h F (.msl b ver off k len cap)=some r\/frzd h F (.msl b ver off k len cap)=some r):=by
 simp [wkS]
@[go_sem] theorem zww{b ver off k len cap b' ver' off' k' len' cap':Nat}:wkS h F (.msl b ver off k len cap) (.msl b' ver' off' k' len' cap')=(b=b'/\ver=ver'/\off=off'/\k=k'/\len=len'/\cap=cap'):=by
 simp [wkS]
 constructor
 ·rintro ⟨rfl,rfl,rfl,rfl,rfl,rfl⟩; exact ⟨rfl,rfl,rfl,rfl,rfl,rfl⟩
 ·rintro ⟨rfl,rfl,rfl,rfl,rfl,rfl⟩; exact ⟨rfl,rfl,rfl,rfl,rfl,rfl⟩
@[go_sem] theorem zoX{b ver off off':Nat}{cs:List AV}:wkS h F (.ptr b ver off) (.iptr cs off')=(frzp h F (.ptr b ver off)=some (cs,off')):=by
 simp [wkS,frz,frzd]
@[go_sem] theorem zso{off off':Nat}{cs cs':List AV}:wkS h F (.iptr cs off) (.iptr cs' off')=(cs=cs'/\off=off'):=by
 simp [wkS,frz,frzd,frzp]; exact ⟨fun ⟨a,b⟩=>⟨a.symm,b.symm⟩,fun ⟨a,b⟩=>⟨a.symm,b.symm⟩⟩
@[go_sem] theorem zzC{xs ys:List AV}:wk h F (.agg xs) (.agg ys)=wkL h F xs ys:=by
 apply propext
 constructor
 ·rintro (h1 | ⟨_,_,h1,h2,h3⟩ | ⟨_,_,h1,_⟩)
  ·simp [wkS,frz,frzd,frzp] at h1; subst h1; exact zer _
  ·injection h1 with h1; injection h2 with h2; subst h1; subst h2; exact h3
  ·cases h1
 ·intro h1; exact .inr (.inl ⟨_,_,rfl,rfl,h1⟩)
@[go_sem] theorem zsl{xs ys:List AV}:wk h F (.tuple xs) (.tuple ys)=wkL h F xs ys:=by
 apply propext
 constructor
 ·rintro (h1 | ⟨_,_,h1,_⟩ | ⟨_,_,h1,h2,h3⟩)
  ·simp [wkS,frz,frzd,frzp] at h1; subst h1; exact zer _
  ·cases h1
  ·injection h1 with h1; injection h2 with h2; subst h1; subst h2; exact h3
 ·intro h1; exact .inr (.inr ⟨_,_,rfl,rfl,h1⟩)
@[go_sem] theorem zsk{x:AV}:wk h F x .undef=True:=eq_true (.inl (.inr (.inl rfl)))
@[go_sem] theorem zws{x:AV}:wk h F x x=True:=eq_true (.inl (.inl rfl))
theorem zeP{x y:AV}(hy:∀ys,y≠.agg ys)(hy2:∀ys,y≠.tuple ys):wk h F x y=wkS h F x y:=by
 apply propext
 constructor
 ·rintro (h1 | ⟨_,_,_,h1,_⟩ | ⟨_,_,_,h1,_⟩)
  ·exact h1
  ·exact absurd h1 (hy _)
  ·exact absurd h1 (hy2 _)
 ·exact .inl
@[go_sem] theorem zzA{x:AV}{k':IntKind}{b:Int}:wk h F x (.int k' b)=wkS h F x (.int k' b):=zeP (by simp) (by simp)
@[go_sem] theorem zwu{x:AV}{b:Bool}:wk h F x (.bool b)=wkS h F x (.bool b):=zeP (by simp) (by simp)
@[go_sem] theorem zzw{x:AV}{b:ByteArray}:wk h F x (.str b)=wkS h F x (.str b):=zeP (by simp) (by simp)
@[go_sem] theorem zAr{x:AV}{b:List (List AV)}:wk h F x (.sl b)=wkS h F x (.sl b):=zeP (by simp) (by simp)
@[go_sem] theorem zzy{x:AV}{b ver off k len cap:Nat}:wk h F x (.msl b ver off k len cap)=wkS h F x (.msl b ver off k len cap):=zeP (by simp) (by simp)
@[go_sem] theorem zzx{x:AV}{b ver off:Nat}:wk h F x (.ptr b ver off)=wkS h F x (.ptr b ver off):=zeP (by simp) (by simp)
@[go_sem] theorem zwt{x:AV}{cs:List AV}{off:Nat}:wk h F x (.iptr cs off)=wkS h F x (.iptr cs off):=zeP (by simp) (by simp)
@[go_sem] theorem zzz{x:AV}{b:Nat}:wk h F x (.map b)=wkS h F x (.map b):=zeP (by simp) (by simp)
@[go_sem] theorem zwz:wkL h F [] []=True:=rfl
@[go_sem] theorem zsu{x y:AV}{xs ys:List AV}:wkL h F (x::xs) (y::ys)=(wkS h F x y/\wkL h F xs ys):=rfl
@[go_sem] theorem zst{xs:List AV}:wkL h F xs xs=True:=eq_true (zer xs)
theorem zfp:∀(rs:List (List AV)),zeG h F rs rs
 | []=>trivial
 | r::rs=>⟨zer r,zfp rs⟩
@[go_sem] theorem zpD{rs:List (List AV)}:zeG h F rs rs=True:=eq_true (zfp rs)
@[go_sem] theorem zqE{a b c:List (List AV)}:zeG h F (a++b) (a++c)=zeG h F b c:=by
 induction a with
 | nil=>rfl
 | cons x a ih=>apply propext; simp only [List.cons_append,zeG,ih]; exact ⟨fun h=>h.2,fun h=>⟨zer _,h⟩⟩
@[go_sem] theorem zqD:zeG h F [] []=True:=rfl
@[go_sem] theorem zpE{x y:List AV}{xs ys:List (List AV)}:zeG h F (x::xs) (y::ys)=(wkL h F x y/\zeG h F xs ys):=rfl
@[go_sem] theorem zss{b:Nat}{o:LO}:wkO h F b o .dead=True:=by cases o <;> rfl
@[go_sem] theorem zrc{b v v':Nat}{t t':TypeId}{cs cs':List AV}:wkO h F b (.cells cs v t) (.cells cs' v' t')=(F.contains b=false/\v'=v/\t'=t/\wkL h F cs cs'):=rfl
@[go_sem] theorem zsq{b k k' v v':Nat}{t t':TypeId}{cs cs':List (List AV)}:wkO h F b (.rows cs k v t) (.rows cs' k' v' t')=(F.contains b=false/\k'=k/\v'=v/\t'=t/\zeG h F cs cs'):=rfl
@[go_sem] theorem zrb{b p p':Nat}{s s':ByteArray}:wkO h F b (.siter s p) (.siter s' p')=(F.contains b=false/\s'=s/\p'=p):=rfl
@[go_sem] theorem zwy{b:Nat}{e e':List (AV × AV)}:wkO h F b (.map e) (.map e')=(F.contains b=false/\e'=e):=rfl
@[go_sem] theorem zwA{b:Nat}{os:Hp}:wkH h F b os []=True:=by cases os <;> rfl
@[go_sem] theorem zsw{b:Nat}{o o':LO}{os os':Hp}:wkH h F b (o::os) (o'::os')=(wkO h F b o o'/\wkH h F (b+1) os os'):=rfl
@[go_sem] theorem zsv{b:Nat}{o':LO}{os':Hp}:wkH h F b [] (o'::os')=(zip o'=true/\wkH h F (b+1) [] os'):=rfl
@[go_sem] theorem zsm{s:zaC}:wkSl h F s []=True:=rfl
@[go_sem] theorem zq9{s s1:zaC}{t:Nat}{v:AV}:wkSl h F s ((t,v)::s1)=(wk h F (s.get t) v/\wkSl h F s s1):=rfl
theorem zqs{s1:zaC}{h1:Hp}{s:zaC}:AT0 n0 F s1 h1 s h=atP n0 F s1 h1 s h:=propext ⟨fun ha=>⟨ha.2,ha.1.fr,ha.1.len,ha.1.sl,ha.1.hp,ha.1.blk,ha.1.sub⟩,AT0.of⟩
@[go_sem] theorem zAm{s1:zaC}{h1:Hp}{s:zaC}:AT0 n0 F s1 h1 s h=(F.all (fun b=>match h[b]? with | some o=>o.live | none=>false)=true/\F.all (fun b=>decide (b<h.length))=true/\n0<=h1.length/\zgy h1.length s1=true/\ze2 h1.length h1=true/\wkH h F 0 h h1/\wkSl h F s s1):=zqs
@[go_sem] theorem zAl{s1:zaC}{h1:Hp}{s:zaC}:AT n0 ⟨F,[]⟩ s1 h1 s h=AT0 n0 F s1 h1 s h:=propext ⟨fun ⟨h2,e,a⟩=>by obtain rfl:=Option.some.inj e; exact a,fun a=>⟨h,rfl,a⟩⟩
@[go_sem] theorem zzt{g:Gh}{gs:List Gh}{s1:zaC}{h1:Hp}{s:zaC}:AT n0 ⟨F,g::gs⟩ s1 h1 s h=onS (gh1 h g) fun h'=>AT n0 ⟨F,gs⟩ s1 h1 s h':=by
 apply propext
 unfold AT
 simp only [ghs]
 cases gh1 h g with
 | none=>constructor <;> intro h <;> first | (obtain ⟨_,e,_⟩:=h; cases e) | exact h.elim
 | some h'=>rfl
attribute [go_sem] LO.live
theorem zcB.retW{fn:Func}{r:AV}{s h}(F:List Nat)(hr:onS (zfK P s h fn.results.toList) fun l=>(F.all (fun b=>zfx h b)=true/\zcX r=true/\wk h F (one? l) r)):zcB P fn r .ret s h:=by
 obtain ⟨x,hx,h1,h2,h3⟩:=zav hr
 exact ⟨.inr rfl,x,hx,FR.of_wk h1 h3 h2⟩
attribute [go_sem] Option.map_none Option.isSome_some Option.bind_none eq_self decide_true decide_false List.range_zero List.append_eq List.cons_append List.nil_append beq_self_eq_true Bool.not_true Bool.not_false Bool.true_or Bool.false_or Bool.or_true Bool.or_false Bool.true_and Bool.false_and Bool.and_false zi6 zbe List.contains_nil List.contains_cons implies_true List.map_nil List.headD_cons cond_true cond_false
attribute [go_sem] ones zfx frzp frz frzd frzC frzL frzR okC okL okR apA apI srcA Nat.le_refl mkA mslA slH slA zj2 bndO zmO strS tasA zln fdA zne zmd zmr zk2 zjf scalT zkX
def rd{α:Type}[Inhabited α](l:List α)(i:Int):α:=l.getD i.toNat default
theorem zpU{α:Type}[Inhabited α]{l:List α}{i:Int}(h:InB i l.length):l[i.toNat]?=some (rd l i):=by
 rw [rd,List.getD_eq_getElem?_getD,List.getElem?_eq_getElem h.2]; rfl
@[go_sem] theorem zrG{α β:Type}[Inhabited α]{f:α->β}{l:List α}{i:Int}(h:InB i l.length):(l.map f)[i.toNat]?=some (f (rd l i)):=by
 rw [List.getElem?_map,zpU h]; rfl
@[go_sem] theorem zrF{α β:Type}{f:α->β}{l:List α}{n:Nat}:(l.map f).take n=(l.take n).map f:=List.map_take.symm
@[go_sem] theorem zrH{α β:Type}{f:α->β}{l:List α}{n:Nat}:(l.map f).drop n=(l.drop n).map f:=List.map_drop.symm
@[go_sem] theorem zvW{α β:Type}{f:α->β}{l l':List α}:(l++l').map f=l.map f++l'.map f:=List.map_append
@[go_sem] theorem zvT{α β:Type}{f:α->β}{l:List α}{n:Nat}{a:α}:(l.set n a).map f=(l.map f).set n (f a):=List.map_set
@[go_sem] theorem zvV{α β:Type}{f:α->β}{l:List α}:(l.map f).length=l.length:=List.length_map ..
@[go_sem] theorem zvU{α β:Type}{f:α->β}{n:Nat}{a:α}:(List.replicate n a).map f=List.replicate n (f a):=List.map_replicate
attribute [go_sem] List.length_append List.length_set List.length_replicate List.take_length Nat.zero_add Nat.add_zero List.append_nil Nat.sub_zero
@[go_sem] theorem zvD{α:Type}{l:List α}{n:Nat}(h:l.length=n):l.take n=l:=by subst h; exact List.take_length
theorem exB{K:Bool->Prop}{k:Hold K}(own:Bool)(hk:K own):exP (fun _:Bool=>True) K k:=⟨own,trivial,hk⟩
theorem zaA{α:Type}{p:Prop}[Decidable p]{x:Option α}{r:α}(h:(if p then x else none)=some r):p/\x=some r:=by
 split at h
 ·exact ⟨by assumption,h⟩
 ·cases h
theorem zai{α β:Type}{x:Option α}{f:α->Option β}{r:β}(h:x.bind f=some r):∃a,x=some a/\f a=some r:=Option.bind_eq_some_iff.1 h
theorem zaK{α:Type}{b:Bool}{x y z:α}(hb:b=true)(h:(if b=true then x else y)=z):x=z:=by rw [if_pos hb] at h; exact h
theorem zaV{α:Type}{b:Bool}{x y z:α}(hb:b=false)(h:(if b=true then x else y)=z):y=z:=by rw [hb] at h; exact h
@[go_sem] theorem zsr{b:Nat}:wkO h F b .hole .hole=True:=rfl
attribute [go_sem] or_false false_or or_self or_true true_or
attribute [go_sem] wkAs zcv gh1 zhA putP foc1 fol1 clB Option.bind_some Option.bind_none Option.map_some List.length_map
attribute [go_sem] zfT zfh renO ren rens lay nm List.zip_cons_cons
@[go_sem] theorem zq3{f:FuncId}{xs:List AV}{q:How}:callQ P f h xs (.pure q)=zlC P f h xs q:=rfl
@[go_sem] theorem zpR{m:Nat->Nat}{α:Type}{f:α->List AV}{l:List α}(hf:∀x,rens m (f x)=f x):(l.map f).map (rens m)=l.map f:=by
 rw [List.map_map]; apply List.map_congr_left; intro x _; exact hf x
attribute [go_sem] zeQ zru zrt
@[go_sem] theorem zvE{s:ByteArray}:zcP 1 (sB s)=true:=by
 unfold sB; exact zbB (k:=1) (f:=fun u:UInt8=>[.int .u8 u.toNat]) (fun _=>⟨rfl,rfl⟩) _
@[go_sem] theorem zn5{s:ByteArray}{n:Nat}:(sB s).all (zaU n)=true:=by
 unfold sB; simp only [List.all_map,List.all_eq_true]; intro x _; rfl
@[go_sem] theorem zAH{s:ByteArray}:(sB s).all clB=true:=zn5
@[go_sem] theorem zy0{s:ByteArray}:(sB s).all zbe=true:=by
 unfold sB; simp only [List.all_map,List.all_eq_true]; intro x _; rfl
@[go_sem] theorem zAe{s:ByteArray}{m:Nat->Nat}:(sB s).map (rens m)=sB s:=by
 unfold sB; rw [List.map_map]; apply List.map_congr_left; intro x _; rfl
@[go_sem] theorem zyZ{s:ByteArray}{n:Nat}(hn:s.size=n):(sB s).take n=sB s:=by
 apply List.take_of_length_le; rw [zeQ]; omega
attribute [go_sem] apS sdA usOk
@[go_sem] theorem znV{b:Nat}:wkS h F .nilp (.optp b)=True:=by simp [wkS]
def eKV{α β:Type}(f:α->AV)(g:β->AV)(p:α × β):AV × AV:=(f p.1,g p.2)
def mixS{β:Type}(l:List (ByteArray × β))(k:ByteArray):Option Nat:=l.findIdx? fun p=>decide (k=p.1)
def mixI{β:Type}(l:List (Int × β))(k:Int):Option Nat:=l.findIdx? fun p=>k==p.1
theorem zku{β:Type}{g:β->AV}{k:ByteArray}:∀(l:List (ByteArray × β)) (i:Nat),lkI (.str k) (l.map (eKV .str g)) i=some ((mixS l k).map (·+i))
 | [],i=>rfl
 | p::l,i=>by
  simp only [List.map_cons,lkI,eKV,zhO,mixS,List.findIdx?_cons]
  by_cases e:k=p.1
  ·simp [e]
  ·simp only [e,decide_false,Bool.false_eq_true,if_false]
   rw [zku l (i+1)]
   simp only [mixS,Option.map_map]
   congr 2
   funext n; simp; omega
theorem zkv{β:Type}{g:β->AV}{kd:IntKind}{k:Int}:∀(l:List (Int × β)) (i:Nat),lkI (.int kd k) (l.map (eKV (.int kd) g)) i=some ((mixI l k).map (·+i))
 | [],i=>rfl
 | p::l,i=>by
  simp only [List.map_cons,lkI,eKV,zhO,mixI,List.findIdx?_cons,if_true]
  by_cases e:k=p.1
  ·simp [e]
  ·have:(k==p.1)=false:=by simpa using e
   simp only [this,Bool.false_eq_true,if_false]
   rw [zkv l (i+1)]
   simp only [mixI,Option.map_map]
   congr 2
   funext n; simp; omega
@[go_sem] theorem zv1{β:Type}{g:β->AV}{k:ByteArray}{l:List (ByteArray × β)}:lkI (.str k) (l.map (eKV .str g)) 0=some (mixS l k):=by rw [zku]; simp
@[go_sem] theorem zv2{β:Type}{g:β->AV}{kd:IntKind}{k:Int}{l:List (Int × β)}:lkI (.int kd k) (l.map (eKV (.int kd) g)) 0=some (mixI l k):=by rw [zkv]; simp
def mat{α β:Type}(l:List (α × β))(n:Option Nat):Option β:=n.bind fun n=>(l[n]?).map (·.2)
@[go_sem] theorem zqM{α β:Type}{f:α->AV}{g:β->AV}{l:List (α × β)}{n:Option Nat}:mapV (l.map (eKV f g)) n=(mat l n).map g:=by
 cases n with
 | none=>rfl
 | some n=>simp only [mapV,mat,Option.bind_some,List.getElem?_map,Option.map_map]; rfl
def mst{α β:Type}(l:List (α × β))(n:Option Nat)(k:α)(b:β):List (α × β):=match n with | none=>l++[(k,b)] | some n=>l.set n (k,b)
theorem zge{α β:Type}{f:α->AV}{g:β->AV}{l:List (α × β)}{n:Option Nat}{k:α}{b:β}:mput (l.map (eKV f g)) n (f k) (g b)=(mst l n k b).map (eKV f g):=by
 cases n with
 | none=>simp [mput,mst,eKV]
 | some n=>simp [mput,mst,eKV,List.map_set]
@[go_sem] theorem zy9{l:List (ByteArray × Bool)}{n:Option Nat}{k:ByteArray}{b:Bool}:mput (l.map (eKV .str .bool)) n (.str k) (.bool b)=(mst l n k b).map (eKV .str .bool):=zge
@[go_sem] theorem zy8{i:IntKind}{l:List (ByteArray × Int)}{n:Option Nat}{k:ByteArray}{b:Int}:mput (l.map (eKV .str (.int i))) n (.str k) (.int i b)=(mst l n k b).map (eKV .str (.int i)):=zge
@[go_sem] theorem zza{i j:IntKind}{l:List (Int × Int)}{n:Option Nat}{k:Int}{b:Int}:mput (l.map (eKV (.int j) (.int i))) n (.int j k) (.int i b)=(mst l n k b).map (eKV (.int j) (.int i)):=zge
@[go_sem] theorem zzc{v:Option AV}{z:AV}:lkR v z false=v.getD z:=rfl
@[go_sem] theorem zzb{v:Option AV}{z:AV}:lkR v z true=.tuple [v.getD z,.bool v.isSome]:=rfl
@[go_sem] theorem zrK{o:Option Bool}{z:Bool}:(o.map AV.bool).getD (.bool z)=.bool (o.getD z):=by cases o <;> rfl
@[go_sem] theorem zv0{i:IntKind}{o:Option Int}{z:Int}:(o.map (AV.int i)).getD (.int i z)=.int i (o.getD z):=by cases o <;> rfl
@[go_sem] theorem zvZ{o:Option ByteArray}{z:ByteArray}:(o.map AV.str).getD (.str z)=.str (o.getD z):=by cases o <;> rfl
@[go_sem] theorem zrJ{α β:Type}{f:α->β}{o:Option α}:(o.map f).isSome=o.isSome:=by cases o <;> rfl
@[go_sem] theorem zrI{o:Option Bool}:(o.map AV.bool).all zcv=true:=by cases o <;> rfl
@[go_sem] theorem zvY{i:IntKind}{o:Option Int}:(o.map (AV.int i)).all zcv=true:=by cases o <;> rfl
@[go_sem] theorem zvX{o:Option ByteArray}:(o.map AV.str).all zcv=true:=by cases o <;> rfl
@[go_sem] theorem zqL:LO.map []=LO.map (([]:List (ByteArray × Bool)).map (eKV .str .bool)) ↔ True:=⟨fun _=>trivial,fun _=>rfl⟩
attribute [go_sem] lkA zjO muA
@[go_sem] theorem zrP{t:TypeId}{s:ByteArray}:zeN P t (.str s)=zaJ P t:=rfl
@[go_sem] theorem zrQ{t:TypeId}{k:IntKind}{n:Int}:zeN P t (.int k n)=(zcZ P t).isSome:=by simp only [zeN,zcZ]; cases P.underlying t with | none=>rfl | some d=>cases d <;> rfl
@[go_sem] theorem zqN{t:TypeId}{b:Bool}:zeN P t (.bool b)=zaB P t:=rfl
theorem zj7{α β:Type}{n:Nat}{f:α->AV}{g:β->AV}(hf:∀x,zaX n (f x)=true)(hg:∀x,zaX n (g x)=true)(l:List (α × β)):(l.map (eKV f g)).all (fun e=>zaX n e.1&&zaX n e.2)=true:=by
 simp only [List.all_map,List.all_eq_true]; intro x _; simp [eKV,hf,hg]
@[go_sem] theorem zAo{n:Nat}{l:List (ByteArray × Bool)}:(l.map (eKV AV.str AV.bool)).all (fun e=>zaX n e.1&&zaX n e.2)=true:=zj7 (fun _=>rfl) (fun _=>rfl) l
@[go_sem] theorem zAn{n:Nat}{i:IntKind}{l:List (ByteArray × Int)}:(l.map (eKV AV.str (AV.int i))).all (fun e=>zaX n e.1&&zaX n e.2)=true:=zj7 (fun _=>rfl) (fun _=>rfl) l
@[go_sem] theorem zAp{n:Nat}{i j:IntKind}{l:List (Int × Int)}:(l.map (eKV (AV.int j) (AV.int i))).all (fun e=>zaX n e.1&&zaX n e.2)=true:=zj7 (fun _=>rfl) (fun _=>rfl) l
theorem zpS{α β:Type}{m:Nat->Nat}{f:α->AV}{g:β->AV}(hf:∀x,ren m (f x)=f x)(hg:∀x,ren m (g x)=g x)(l:List (α × β)):(l.map (eKV f g)).map (fun e=>(ren m e.1,ren m e.2))=l.map (eKV f g):=by
 rw [List.map_map]; apply List.map_congr_left; intro x _; simp [eKV,hf,hg]
@[go_sem] theorem zAf{m:Nat->Nat}{l:List (ByteArray × Bool)}:(l.map (eKV AV.str AV.bool)).map (fun e=>(ren m e.1,ren m e.2))=l.map (eKV AV.str AV.bool):=zpS (fun _=>rfl) (fun _=>rfl) l
theorem RO{p:Prop} (h:p:=by
  repeat' (first
   | exact True.intro
   | simp -implicitDefEqProofs -dsimp only [go_sem, *]
   | (with_reducible refine exP.mk _ (callQ.plain (by simp -implicitDefEqProofs -dsimp only [go_sem, *]) (by assumption)) ?_)
   | (with_reducible refine exP.mk _ (callQ.plain (by simp -implicitDefEqProofs -dsimp only [go_sem, *]) (‹_=true->zaO _ _ _ _› (by simp -implicitDefEqProofs -dsimp only [go_sem, *]))) ?_)
   | (with_reducible refine exP.mk _ (by assumption) ?_)
   | (with_reducible refine exB false ?_; simp -implicitDefEqProofs -dsimp only [go_sem, *]; fail_if_success (show False))
   | (with_reducible refine exB true ?_)
   | (with_reducible refine zdI (fun _=>?_) (fun _=>?_))
   | (with_reducible refine zcl (fun _=>?_) (fun _=>?_))
   | (simp_all; done))):p:=h
theorem ROT{p:Prop} (h:p:=by
  repeat' (first
   | exact True.intro
   | simp -implicitDefEqProofs -dsimp only [go_sem, *]
   | (with_reducible refine exP.mk _ (callQ.plain (by simp -implicitDefEqProofs -dsimp only [go_sem, *]) (by assumption)) ?_)
   | (with_reducible refine exP.mk _ (callQ.plain (by simp -implicitDefEqProofs -dsimp only [go_sem, *]) (‹_=true->zaO _ _ _ _› (by simp -implicitDefEqProofs -dsimp only [go_sem, *]))) ?_)
   | (with_reducible refine exP.mk _ (by assumption) ?_)
   | (with_reducible refine exB true ?_; simp -implicitDefEqProofs -dsimp only [go_sem, *]; fail_if_success (show False))
   | (with_reducible refine exB false ?_)
   | (with_reducible refine zdI (fun _=>?_) (fun _=>?_))
   | (with_reducible refine zcl (fun _=>?_) (fun _=>?_))
   | (simp_all; done))):p:=h
theorem zaY{α β:Type}{x:α}{f:α->Option β}{r:β}(h:(some x).bind f=some r):∃a,a=x/\f a=some r:=⟨x,rfl,h⟩
theorem W.sq{id}{l:List Oper}{y s h Q k}(F:List Nat)(s1:zaC)(h1:Hp)(hy:WK P N n0 y Q s1 h1)(hN:zdY N l.toArray=true:=by rfl)
  (hrun:RunE P l.toArray (fun s h=>AT n0 ⟨F,[]⟩ s1 h1 s h) l s h (held _):=by exact RO):W P N n0 (.seq (.region id l.toArray false) y) Q s h k:=W.seqR ⟨F,[]⟩ s1 h1 hN hrun hy
theorem W.rg{id}{l:List Oper}{s h Q k}(F:List Nat)(s1:zaC)(h1:Hp)(hy:Q .normal s1 h1)(hN:zdY N l.toArray=true:=by rfl)
  (hrun:RunE P l.toArray (fun s h=>AT n0 ⟨F,[]⟩ s1 h1 s h) l s h (held _):=by exact RO):W P N n0 (.region id l.toArray false) Q s h k:=W.regL ⟨F,[]⟩ s1 h1 hN hrun hy
theorem W.sqJ{id}{l:List Oper}{y s h Q k}(L A B:List Nat)(m:Nat)(F:List Nat)(s1:zaC)(h1:Hp)(hm:P.follows .mixedOrders=true)(hy:WK P N n0 y Q s1 h1)(hN:zdY N l.toArray=true:=by rfl)(hd:zdZ L A B l.toArray=true:=by kernel_rfl)(hu:upOk l.toArray=true:=by kernel_rfl)
  (hrun:ze3 P l.toArray L A B m (fun s h=>AT n0 ⟨F,[]⟩ s1 h1 s h) 0 l s h (held _):=by exact RO):W P N n0 (.seq (.region id l.toArray true) y) Q s h k:=W.seqJ L A B m ⟨F,[]⟩ s1 h1 hm hN hd hu hrun hy
theorem W.rgJ{id}{l:List Oper}{s h Q k}(L A B:List Nat)(m:Nat)(F:List Nat)(s1:zaC)(h1:Hp)(hm:P.follows .mixedOrders=true)(hy:Q .normal s1 h1)(hN:zdY N l.toArray=true:=by rfl)(hd:zdZ L A B l.toArray=true:=by kernel_rfl)(hu:upOk l.toArray=true:=by kernel_rfl)
  (hrun:ze3 P l.toArray L A B m (fun s h=>AT n0 ⟨F,[]⟩ s1 h1 s h) 0 l s h (held _):=by exact RO):W P N n0 (.region id l.toArray true) Q s h k:=W.regLJ L A B m ⟨F,[]⟩ s1 h1 hm hN hd hu hrun hy
theorem W.sqL{id}{l:List Oper}{y s h Q k}(cs:List Cl)(fw:FW)(F:List Nat)(s1:zaC)(h1:Hp)(hm:P.follows .mixedOrders=true)(hy:WK P N n0 y Q s1 h1)(hN:zdY N l.toArray=true:=by rfl)(hd:zgk fw l.toArray=true:=by kernel_rfl)(hu:upOk l.toArray=true:=by kernel_rfl)
  (hrun:zfC P l.toArray cs fw (fun s h=>AT n0 ⟨F,[]⟩ s1 h1 s h) 0 l s h (held _):=by exact RO):W P N n0 (.seq (.region id l.toArray true) y) Q s h k:=W.seqL cs fw ⟨F,[]⟩ s1 h1 hm hN hd hu hrun hy
theorem W.cnd{c x y s h Q k}(b:Bool)(ht:b=true->WK P N n0 x Q s h)(hf:b=false->WK P N n0 y Q s h)(hc:s.ev c=.bool b:=by simp only [zpq,zkB,↓reduceIte,Nat.reduceEqDiff]):W P N n0 (.cond c x y) Q s h k:=W.cond b hc ht hf
attribute [go_sem] ghs rnms rnm1 rv rvs Option.getD_some
@[go_sem] theorem zpk{g g':List Gh}{q:HowH}:Hw.res h (.gheap g q g')=ren (nm q.ns ((ghs h g).getD []).length) q.r:=rfl
@[go_sem] theorem zqa{g g':List Gh}{q:HowH}:Hw.hp h (.gheap g q g')=(ghs (lay (kill q.F ((ghs h g).getD [])) q.ns (q.hc'.map (renO (nm q.ns ((ghs h g).getD []).length)))) g').getD []:=rfl
theorem callQ.ofG{f:FuncId}{h:Hp}{xs:List AV}{q:HowH}{g g':List Gh}(h1:onS (ghs h g) fun h1=>(q.F.all (fun b=>zfx h1 b)=true/\wkAs h1 q.F xs (rens (nm q.ns h1.length) q.args)/\zfT q.ns=true/\q.ns.all (fun n=>decide (n<h1.length))=true/\zfh (kill q.F h1) (nm q.ns h1.length) q.ns q.hc/\q.ns.length<=q.hc'.length/\zaU q.hc.length q.args=true/\ze2 q.hc.length q.hc=true)/\onS (ghs (lay (kill q.F h1) q.ns (q.hc'.map (renO (nm q.ns h1.length)))) g') fun _=>h1.length<=(lay (kill q.F h1) q.ns (q.hc'.map (renO (nm q.ns h1.length)))).length)
  (h2:HF P f q.args q.hc q.r q.hc'):callQ P f h xs (.gheap g q g'):=by
 obtain ⟨h3,e1,h4,h5⟩:=zav h1
 obtain ⟨h6,e2,h7⟩:=zav h5
 exact ⟨h3,h6,e1,⟨h4,h2⟩,e2,h7⟩
@[go_sem] theorem zAg{α β:Type}{f:α->β}{l:List α}{i:Int}{x:β}(h:InB i l.length):((l.map f).set i.toNat x)[i.toNat]?=some x:=by
 rw [List.getElem?_set_self]; simpa using h.2
attribute [go_sem] List.set_set
@[go_sem] theorem zAh{β:Type}{l:List β}{n:Nat}{x:β}(h:l.length=n):(l++[x])[n]?=some x:=by subst h; simp
@[go_sem] theorem zyY{β:Type}{l:List β}{n:Nat}{x y:β}(h:l.length=n):(l++[x]).set n y=l++[y]:=by subst h; simp
@[go_sem] theorem zvC{b:Bool}:(true != b)=!b:=by cases b <;> rfl
@[go_sem] theorem zrY{b:Bool}:(false != b)=b:=by cases b <;> rfl
@[go_sem] def oSl{α:Type}(k:Nat)(ty:TypeId)(f:α->List AV)(l:List α):List AV:=[.zBx (l.map f) k ty]
theorem zhE{α:Type}{f:α->List AV}(hf:∀x n,zaU n (f x)=true)(n:Nat)(l:List α):(l.map f).all (zaU n)=true:=by simp only [List.all_map,List.all_eq_true]; intro x _; exact hf x n
theorem cl_o{α:Type}{f:α->List AV}(hf:∀x n,zaU n (f x)=true)(l:List α):(l.map f).all clB=true:=by simp only [List.all_map,List.all_eq_true]; intro x _; exact hf x 0
theorem zmV{α:Type}{k:Nat}{f:α->List AV}(hf:∀x,(f x).length=k)(l:List α):(l.map f).all (·.length==k)=true:=by simp only [List.all_map,List.all_eq_true]; intro x _; simp [hf x]
theorem zeE{α:Type}{f g:α->List AV}(h:∀x,frzL (f x)=g x)(l:List α):frzR (l.map f)=l.map g:=by rw [zgU,List.map_map]; exact List.map_congr_left fun x _=>h x
theorem ok_o{α:Type}{f:α->List AV}(h:∀x,okL (f x)=true)(l:List α):okR (l.map f)=true:=by rw [ziG,List.all_map,List.all_eq_true]; exact fun x _=>h x
theorem zd3{α:Type}{f:α->List AV}{m:Nat->Nat}(h:∀x,rens m (f x)=f x)(l:List α):(l.map f).map (rens m)=l.map f:=by rw [List.map_map]; exact List.map_congr_left fun x _=>h x
theorem zn3{α:Type}[Inhabited α]{f:α->List AV}{l:List α}{i:Int}{r:List AV}(h:InB i l.length)(e:r=f (rd l i)):(l.map f).set i.toNat r=l.map f:=by
 subst e
 apply List.ext_getElem?
 intro j
 rw [List.getElem?_set]
 by_cases hj:i.toNat=j
 ·subst hj
  rw [if_pos rfl,zrG h,if_pos (by simpa using h.2)]
 ·rw [if_neg hj]
@[go_sem] theorem zy1{α:Type}{k:Nat}{ty:TypeId}{f:α->List AV}{m:Nat->Nat}(l:List (List α)):(l.map (oSl k ty f)).map (rens m)=l.map (oSl k ty f):=zd3 (fun _=>rfl) l
@[go_sem] theorem zAG:tnI 0=0:=rfl
@[go_sem] theorem zAF:tnI 1=1:=rfl
@[go_sem] theorem zAE:tnI 2=2:=rfl
@[go_sem] theorem zAD:tnI 3=3:=rfl
@[go_sem] theorem zAC:tnI 4=4:=rfl
@[go_sem] theorem zAB:tnI 5=5:=rfl
@[go_sem] theorem zAA:tnI 6=6:=rfl
@[go_sem] theorem zAz:tnI 7=7:=rfl
@[go_sem] theorem zAy:tnI 8=8:=rfl
@[go_sem] theorem zAx:tnI 9=9:=rfl
@[go_sem] theorem zAd:tnI 10=10:=rfl
@[go_sem] theorem zAc:tnI 11=11:=rfl
@[go_sem] theorem zAb:tnI 12=12:=rfl
@[go_sem] theorem zAa:tnI 13=13:=rfl
@[go_sem] theorem zz9:tnI 14=14:=rfl
@[go_sem] theorem zz8:tnI 15=15:=rfl
attribute [go_sem] Nat.mul_one
@[go_sem] theorem zse{α:Type}{k:Nat}{ty:TypeId}{f:α->List AV}(n:Nat)(l:List (List α)):(l.map (oSl k ty f)).all (zaU n)=true:=zhE (fun _ _=>rfl) n l
@[go_sem] theorem zAj{α:Type}{k:Nat}{ty:TypeId}{f:α->List AV}(l:List (List α)):(l.map (oSl k ty f)).all clB=true:=cl_o (fun _ _=>rfl) l
@[go_sem] theorem zzd{α:Type}{k:Nat}{ty:TypeId}{f:α->List AV}(l:List (List α)):(l.map (oSl k ty f)).all (·.length==1)=true:=zmV (k:=1) (f:=oSl k ty f) (fun _=>rfl) l
theorem W.sqG{id}{l:List Oper}{y s h Q k}(F:List Nat)(g:List Gh)(s1:zaC)(h1:Hp)(hy:WK P N n0 y Q s1 h1)(hN:zdY N l.toArray=true:=by rfl)
  (hrun:RunE P l.toArray (fun s h=>AT n0 ⟨F,g⟩ s1 h1 s h) l s h (held _):=by exact RO):W P N n0 (.seq (.region id l.toArray false) y) Q s h k:=W.seqR ⟨F,g⟩ s1 h1 hN hrun hy
theorem W.sqJG{id}{l:List Oper}{y s h Q k}(L A B:List Nat)(m:Nat)(F:List Nat)(g:List Gh)(s1:zaC)(h1:Hp)(hm:P.follows .mixedOrders=true)(hy:WK P N n0 y Q s1 h1)(hN:zdY N l.toArray=true:=by rfl)(hd:zdZ L A B l.toArray=true:=by kernel_rfl)(hu:upOk l.toArray=true:=by kernel_rfl)
  (hrun:ze3 P l.toArray L A B m (fun s h=>AT n0 ⟨F,g⟩ s1 h1 s h) 0 l s h (held _):=by exact RO):W P N n0 (.seq (.region id l.toArray true) y) Q s h k:=W.seqJ L A B m ⟨F,g⟩ s1 h1 hm hN hd hu hrun hy
theorem W.sqLG{id}{l:List Oper}{y s h Q k}(cs:List Cl)(fw:FW)(F:List Nat)(g:List Gh)(s1:zaC)(h1:Hp)(hm:P.follows .mixedOrders=true)(hy:WK P N n0 y Q s1 h1)(hN:zdY N l.toArray=true:=by rfl)(hd:zgk fw l.toArray=true:=by kernel_rfl)(hu:upOk l.toArray=true:=by kernel_rfl)
  (hrun:zfC P l.toArray cs fw (fun s h=>AT n0 ⟨F,g⟩ s1 h1 s h) 0 l s h (held _):=by exact RO):W P N n0 (.seq (.region id l.toArray true) y) Q s h k:=W.seqL cs fw ⟨F,g⟩ s1 h1 hm hN hd hu hrun hy
end Go.Vs
end
section
namespace Go.Vs
variable [Tab]
variable {P:Program} {N n0:Nat}
theorem znW{h:Hp}{b:Nat}:∀o:LO,wkO h [] b o o
 | .dead=>trivial
 | .cells cs v t=>⟨rfl,rfl,rfl,zer cs⟩
 | .rows rs k v t=>⟨rfl,rfl,rfl,rfl,zfp rs⟩
 | .siter s p=>⟨rfl,rfl,rfl⟩
 | .map es=>⟨rfl,rfl⟩
 | .hole=>trivial
theorem zka{h:Hp}:∀(os:Hp) (n b:Nat),wkH h [] b os (os.take n)
 | [],n,b=>by rw [List.take_nil]; trivial
 | o::os,0,b=>trivial
 | o::os,n+1,b=>⟨znW o,zka os n (b+1)⟩
def pkS:List Nat->zaC->zaC
 | [],_=>[]
 | t::L,s=>(t,s.get t)::pkS L s
theorem zl5{h:Hp}{s:zaC}:∀L:List Nat,wkSl h [] s (pkS L s)
 | []=>trivial
 | t::L=>⟨.inl (.inl rfl),zl5 L⟩
@[go_sem] theorem zy3{s:zaC}:pkS [] s=[]:=rfl
@[go_sem] theorem zvK{t:Nat}{L:List Nat}{s:zaC}:pkS (t::L) s=(t,s.get t)::pkS L s:=rfl
def AA(n0:Nat)(g:List Gh)(n:Nat)(L:List Nat)(s1:zaC)(h1:Hp)(s:zaC)(h:Hp):Prop:=∃h2,ghs h g=some h2/\n0<=(h2.take n).length/\zgy (h2.take n).length (pkS L s)=true/\ze2 (h2.take n).length (h2.take n)=true/\s1=pkS L s/\h1=h2.take n
theorem AA.at{g:List Gh}{n:Nat}{L s1 h1 s h}(ha:AA n0 g n L s1 h1 s h):AT n0 ⟨[],g⟩ s1 h1 s h:=by
 obtain ⟨h2,e,a1,a2,a3,rfl,rfl⟩:=ha
 exact ⟨_,e,AT0.of ⟨rfl,rfl,a1,a2,a3,zka _ n 0,zl5 L⟩⟩
@[go_sem] theorem zAq{n:Nat}{L:List Nat}{s1:zaC}{h1:Hp}{s:zaC}{h:Hp}:AA n0 [] n L s1 h1 s h=(n0<=(h.take n).length/\zgy (h.take n).length (pkS L s)=true/\ze2 (h.take n).length (h.take n)=true/\s1=pkS L s/\h1=h.take n):=propext ⟨fun ⟨h2,e,a⟩=>by obtain rfl:=Option.some.inj e; exact a,fun a=>⟨h,rfl,a⟩⟩
@[go_sem] theorem zzv{g:Gh}{gs:List Gh}{n:Nat}{L:List Nat}{s1:zaC}{h1:Hp}{s:zaC}{h:Hp}:AA n0 (g::gs) n L s1 h1 s h=onS (gh1 h g) fun h'=>AA n0 gs n L s1 h1 s h':=by
 apply propext
 unfold AA
 simp only [ghs]
 cases gh1 h g with
 | none=>constructor <;> intro h <;> first | (obtain ⟨_,e,_⟩:=h; cases e) | exact h.elim
 | some h'=>rfl
theorem RA{p:Prop} (h:p:=by
  repeat' (first
   | exact True.intro
   | (with_reducible exact ⟨rfl,rfl⟩)
   | simp -implicitDefEqProofs -dsimp only [go_sem, *]
   | (with_reducible refine exP.mk _ (callQ.plain (by simp -implicitDefEqProofs -dsimp only [go_sem, *]) (by assumption)) ?_)
   | (with_reducible refine exP.mk _ (by assumption) ?_)
   | (with_reducible refine exB false ?_; simp -implicitDefEqProofs -dsimp only [go_sem, *]; fail_if_success (show False))
   | (with_reducible refine exB true ?_)
   | (with_reducible refine zdI (fun _=>?_) (fun _=>?_))
   | (with_reducible refine zcl (fun _=>?_) (fun _=>?_))
   | (simp_all; done))):p:=h
theorem W.sa{id}{l:List Oper}{y s h Q k}(n:Nat)(L:List Nat){s1:zaC}{h1:Hp}(hy:WK P N n0 y Q s1 h1)(g:List Gh:=[])(hN:zdY N l.toArray=true:=by rfl)
  (hrun:RunE P l.toArray (fun s h=>AA n0 g n L s1 h1 s h) l s h (held _):=by exact RA):W P N n0 (.seq (.region id l.toArray false) y) Q s h k :=
 WP.seq (WP.mono (W.region (k:=held _) (Q:=zeK (fun s h=>AA n0 g n L s1 h1 s h) (fun _ _ _=>False)) hN hrun) fun e s h q=>by
  cases e with
  | normal=>exact WP.weak (AA.at q) hy
  | _=>exact q.elim)
theorem W.saJ{id}{l:List Oper}{y s h Q k}(K A B:List Nat)(m:Nat)(n:Nat)(L:List Nat){s1:zaC}{h1:Hp}(hm:P.follows .mixedOrders=true)(hy:WK P N n0 y Q s1 h1)(g:List Gh:=[])(hN:zdY N l.toArray=true:=by rfl)(hd:zdZ K A B l.toArray=true:=by kernel_rfl)(hu:upOk l.toArray=true:=by kernel_rfl)
  (hrun:ze3 P l.toArray K A B m (fun s h=>AA n0 g n L s1 h1 s h) 0 l s h (held _):=by exact RA):W P N n0 (.seq (.region id l.toArray true) y) Q s h k :=
 WP.seq (WP.mono (W.regionJ_ (L:=K) (A:=A) (B:=B) (m:=m) (k:=held _) (Q:=zeK (fun s h=>AA n0 g n L s1 h1 s h) (fun _ _ _=>False)) ⟨hm,hN,hd,hu,hrun⟩) fun e s h q=>by
  cases e with
  | normal=>exact WP.weak (AA.at q) hy
  | _=>exact q.elim)
theorem W.saL{id}{l:List Oper}{y s h Q k}(cs:List Cl)(fw:FW)(n:Nat)(L:List Nat){s1:zaC}{h1:Hp}(hm:P.follows .mixedOrders=true)(hy:WK P N n0 y Q s1 h1)(g:List Gh:=[])(hN:zdY N l.toArray=true:=by rfl)(hd:zgk fw l.toArray=true:=by kernel_rfl)(hu:upOk l.toArray=true:=by kernel_rfl)
  (hrun:zfC P l.toArray cs fw (fun s h=>AA n0 g n L s1 h1 s h) 0 l s h (held _):=by exact RA):W P N n0 (.seq (.region id l.toArray true) y) Q s h k :=
 WP.seq (WP.mono (W.regionL_ (k:=held _) (Q:=zeK (fun s h=>AA n0 g n L s1 h1 s h) (fun _ _ _=>False)) cs fw hm hN hd hu hrun) fun e s h q=>by
  cases e with
  | normal=>exact WP.weak (AA.at q) hy
  | _=>exact q.elim)
theorem W.wa{c s h Q k}(n:Nat)(L:List Nat)(g:List Gh){s1:zaC}{h1:Hp}(hy:WK P N n0 c Q s1 h1)(hw:AA n0 g n L s1 h1 s h:=by exact RA):W P N n0 c Q s h k:=W.weak ⟨[],g⟩ (AA.at hw) hy
attribute [go_sem] argS
structure HC (P:Program) (g:List Gh) (F ns:List Nat) (f:FuncId) (args:List AV) (hc:Hp) (r:AV) (hc':Hp) (g':List Gh):Prop where
 t:HF P f args hc r hc'
theorem callQ.ofC{g F ns f args hc r hc' g'}(c:HC P g F ns f args hc r hc' g'){h:Hp}{xs:List AV}(h1:onS (ghs h g) fun h1=>((⟨F,ns,args,hc,r,hc'⟩:HowH).F.all (fun b=>zfx h1 b)=true/\wkAs h1 F xs (rens (nm ns h1.length) args)/\zfT ns=true/\ns.all (fun n=>decide (n<h1.length))=true/\zfh (kill F h1) (nm ns h1.length) ns hc/\ns.length<=hc'.length/\zaU hc.length args=true/\ze2 hc.length hc=true)/\onS (ghs (lay (kill F h1) ns (hc'.map (renO (nm ns h1.length)))) g') fun _=>h1.length<=(lay (kill F h1) ns (hc'.map (renO (nm ns h1.length)))).length) :
  callQ P f h xs (.gheap g ⟨F,ns,args,hc,r,hc'⟩ g'):=callQ.ofG h1 c.t
theorem RCG{f:FuncId}{args:List AV}{hc:Hp}{r:AV}{hc':Hp}(t:HF P f args hc r hc')(ns g:List Nat)(G G':List Gh){p:Prop} (h:HC P G g ns f args hc r hc' G'->p:=by
  intro c
  try simp -implicitDefEqProofs -dsimp only [go_sem, *]
  with_reducible refine exP.mk _ (callQ.ofC c (by simp -implicitDefEqProofs -dsimp only [go_sem, *])) ?_
  exact RA):p:=h ⟨t⟩
theorem RC{f:FuncId}{args:List AV}{hc:Hp}{r:AV}{hc':Hp}(t:HF P f args hc r hc')(ns:List Nat){p:Prop} (h:HC P [] [] ns f args hc r hc' []->p:=by
  intro c
  try simp -implicitDefEqProofs -dsimp only [go_sem, *]
  with_reducible refine exP.mk _ (callQ.ofC c (by simp -implicitDefEqProofs -dsimp only [go_sem, *])) ?_
  exact RA):p:=h ⟨t⟩
theorem W.cn{α:Type}{b:Bool}{X Y:Option α}{z:Option α}{c x y s h Q k}(hm:(if b=true then X else Y)=z)(ht:b=true->X=z->WK P N n0 x Q s h)(hf:b=false->Y=z->WK P N n0 y Q s h)(hc:s.ev c=.bool b:=by simp only [zpq,zkB,↓reduceIte,Nat.reduceEqDiff]):W P N n0 (.cond c x y) Q s h k :=
 W.cond b hc (fun e=>ht e (zaK e hm)) (fun e=>hf e (zaV e hm))
end Go.Vs
end
