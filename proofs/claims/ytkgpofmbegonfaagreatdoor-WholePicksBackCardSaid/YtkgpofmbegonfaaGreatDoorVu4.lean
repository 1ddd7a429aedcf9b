import Derived.Test.YtkgpofmbegonfaaGreatDoorVu3
import Derived.ProofKit
import Derived.Carry
import Derived.OpenShut
import Derived.ShutString
import Derived.ChangeOld
import Derived.SizedLaws
set_option linter.all false
namespace Go.Vs
variable [Tab]
variable {P:Program} {H:Type} {enc:TypeId × Value->H}
def HasT(P:Program):Nat->TypeId->List AV->Prop
 | 0,_,_=>False
 | n+1,t,xs=>match P.underlying t with
  | some .bool=>∃b,xs=[.bool b]
  | some (.int k)=>∃i,xs=[.int k i]/\(Lit.int k i).wf=true
  | some .string=>∃s:ByteArray,xs=[.str s]/\s.size<=maxLen
  | some (.slice e)=>∃rows,xs=[.sl rows]/\rows.length<=maxLen/\∀r∈rows,HasT P n e r
  | some (.struct fs)=>HasF (fun t=>HasT P n t) fs.toList xs
  | some (.array m e)=>∃rows:List (List AV),xs=rows.flatten/\rows.length=m/\∀r∈rows,HasT P n e r
  | _=>False
where
 HasF (g:TypeId->List AV->Prop):List Field->List AV->Prop
  | [],xs=>xs=[]
  | f::fs,xs=>∃a b,xs=a++b/\g f.type a/\HasF g fs b
def zdi(P:Program):Nat->TypeId->Bool
 | 0,_=>false
 | n+1,t=>match P.underlying t with
  | some .bool | some (.int _) | some .string=>true
  | some (.slice e)=>zdi P n e&&decide (1<=P.cellsOf e)
  | some (.struct fs)=>tilesF (fun t=>zdi P n t) P 0 fs.toList==some (P.cellsOf t)
  | some (.array m e)=>zdi P n e&&decide (P.cellsOf t=m * P.cellsOf e)
  | _=>false
where
 tilesF (g:TypeId->Bool) (P:Program):Nat->List Field->Option Nat
  | pos,[]=>some pos
  | pos,f::fs=>if f.offset=pos/\g f.type=true then tilesF g P (pos+P.cellsOf f.type) fs else none
def CRl(I:Nat->Prop)(w:World)(xs:List AV)(cs:List Value):Prop:=xs.length=cs.length/\∀(j:Nat) x y,xs[j]?=some x->cs[j]?=some y->VR I w Io.nil x y
theorem CRl.one{I w x y}(h:VR I w Io.nil x y):CRl I w [x] [y]:=⟨rfl,fun j a b ha hb=>by
 cases j with
 | zero=>simp at ha hb; subst ha; subst hb; exact h
 | succ j=>simp at ha⟩
theorem CRl.append{I w a b c d}(h:CRl I w a c)(h':CRl I w b d):CRl I w (a++b) (c++d):=by
 refine ⟨by simp [h.1,h'.1],fun j x y hx hy=>?_⟩
 rw [List.getElem?_append] at hx hy
 by_cases e:j<a.length
 ·rw [if_pos e] at hx; rw [if_pos (by rw [← h.1]; exact e)] at hy; exact h.2 j x y hx hy
 ·rw [if_neg e] at hx; rw [if_neg (by rw [← h.1]; exact e),← h.1] at hy; exact h'.2 _ x y hx hy
theorem cells?_get{w:World}{base:Nat}{a:Addr}{n:Nat}{cs:List Value}(h:w.cells? base a n=some cs):cs.length=n/\∀(j:Nat) y,cs[j]?=some y->w.cell? (a.add j)=some y:=by
 unfold World.cells? at h
 split at h
 ·obtain ⟨h1,h2⟩:=zgR _ _ h
  refine ⟨by simpa using h1,fun j y hj=>?_⟩
  obtain ⟨x,hx,hg⟩:=h2 j y hj
  have:x=j:=by
   have hlt:=(List.getElem?_eq_some_iff.1 hx).1
   simp at hlt
   rw [List.getElem?_range hlt] at hx
   exact (Option.some.inj hx).symm
  subst this; exact hg
 ·cases h
theorem zqn{w:World}{a:Addr}{v:Value}(h:w.cell? a=some v):a.block<w.heap.size/\a.spot=none:=by
 unfold World.cell? at h
 split at h
 ·rename_i c _ _ hc
  split at h
  ·cases h
  ·rename_i hs
   exact ⟨(Array.getElem?_eq_some_iff.1 hc).1,by cases e:a.spot <;> simp_all⟩
 ·cases h
theorem zke{g:TypeId->Bool}:∀(l:List Field) (pos tot:Nat),zdi.tilesF g P pos l=some tot->pos<=tot
 | [],pos,tot,h=>by simp [zdi.tilesF] at h; omega
 | f::l,pos,tot,h=>by
  simp only [zdi.tilesF] at h
  split at h
  ·have:=zke l _ _ h; omega
  ·cases h
theorem zhW{I:Nat->Prop}{w:World}{G:TypeId->List AV->Prop}{g:TypeId->Bool}{T:TypeId->List Value->Prop}{cs:List Value}
  (ih:∀t c,g t=true->T t c->∃xs,G t xs/\CRl I w xs c):∀(l:List Field) (pos tot:Nat),zdi.tilesF g P pos l=some tot ->
  (∀f∈l,T f.type ((cs.drop f.offset).take (P.cellsOf f.type)))->∃xs,HasT.HasF G l xs/\CRl I w xs ((cs.drop pos).take (tot-pos))
 | [],pos,tot,h,_=>by
  simp only [zdi.tilesF,Option.some.injEq] at h; subst h
  exact ⟨[],rfl,by simp [CRl]⟩
 | f::l,pos,tot,h,hT=>by
  simp only [zdi.tilesF] at h
  split at h
  ·rename_i hc
   obtain ⟨hoff,hg⟩:=hc
   have hle:=zke l _ _ h
   obtain ⟨a,ha,hca⟩:=ih f.type _ hg (hT f (List.mem_cons_self ..))
   obtain ⟨b,hb,hcb⟩:=zhW ih l _ _ h fun f hf=>hT f (List.mem_cons_of_mem _ hf)
   refine ⟨a++b,⟨a,b,rfl,ha,hb⟩,?_⟩
   have e:(cs.drop pos).take (tot-pos)=(cs.drop pos).take (P.cellsOf f.type)++(cs.drop (pos+P.cellsOf f.type)).take (tot-(pos+P.cellsOf f.type)):=by
    rw [show tot-pos=P.cellsOf f.type+(tot-(pos+P.cellsOf f.type)) by omega,List.take_add,List.drop_drop]
   rw [e]
   rw [hoff] at hca
   exact hca.append hcb
  ·cases h
theorem zkR{w:World}{base:Nat}{sp:Nat->Bool}{held:Bool}:∀(n fuel:Nat) (t:TypeId) (cs:List Value) (x:DataW H × List MemPlace),zdi P n t=true ->
  DataW.trod enc P w base sp held fuel t cs=some x->∃xs,HasT P n t xs/\CRl (fun c=>c<w.heap.size) w xs cs:=by
 intro n
 induction n with
 | zero=>intro fuel t cs x h; simp [zdi] at h
 | succ n ih =>
  intro fuel t cs x hp h
  unfold zdi at hp
  split at hp
  ·rename_i hu
   obtain ⟨b,rfl,_⟩:=DataW.trod_bool hu h
   exact ⟨[.bool b],by simp [HasT,hu],CRl.one (.bool b)⟩
  ·rename_i k hu
   obtain ⟨i,rfl,_,hw⟩:=DataW.trod_int hu h
   exact ⟨[.int k i],by simp [HasT,hu,hw],CRl.one (.int k i)⟩
  ·rename_i hu
   obtain ⟨s,rfl,_,hs⟩:=DataW.trod_string hu h
   exact ⟨[.str s],by simp [HasT,hu,hs],CRl.one (.str s)⟩
  ·rename_i e hu
   simp only [Bool.and_eq_true,decide_eq_true_eq] at hp
   obtain ⟨hpe,h1⟩:=hp
   rcases DataW.trod_slice hu h with ⟨rfl,_⟩ | ⟨a,len,cap,elems,rest,m,rfl,rfl,_,hba,hlc,hcm,hel,hget,_⟩
   ·exact ⟨[.sl []],by simp [HasT,hu],CRl.one .sl0⟩
   ·by_cases h0:len=0
    ·subst h0
     exact ⟨[.sl []],by simp [HasT,hu],CRl.one .sl0⟩
    ·have hall:∀i,∃row,i<len->HasT P n e row/\∃csi,w.cells? base (a.add (i * P.cellsOf e)) (P.cellsOf e)=some csi/\CRl (fun c=>c<w.heap.size) w row csi:=by
      intro i
      by_cases hi:i<len
      ·have hb:=hget i hi
       rw [List.getElem?_eq_getElem (by omega)] at hb
       obtain ⟨csi,hc1,hc2⟩:=Option.bind_eq_some_iff.1 hb
       obtain ⟨row,hr1,hr2⟩:=ih m e csi _ hpe hc2
       exact ⟨row,fun _=>⟨hr1,csi,hc1,hr2⟩⟩
      ·exact ⟨[],fun h=>absurd h hi⟩
     have hrows:∀(i:Nat) r,((List.range len).map fun i=>Classical.choose (hall i))[i]?=some r->i<len/\HasT P n e r/\∃csi,w.cells? base (a.add (i * P.cellsOf e)) (P.cellsOf e)=some csi/\CRl (fun c=>c<w.heap.size) w r csi:=by
      intro i r hr
      have hi:i<len:=by
       have:=(List.getElem?_eq_some_iff.1 hr).1; simpa using this
      simp only [List.getElem?_map,List.getElem?_range hi,Option.map_some,Option.some.injEq] at hr
      subst hr
      exact ⟨hi,Classical.choose_spec (hall i) hi⟩
     have hlen:((List.range len).map fun i=>Classical.choose (hall i)).length=len:=by simp
     generalize (List.range len).map (fun i=>Classical.choose (hall i))=rows at hrows hlen
     have hspot:a.spot=none/\a.block<w.heap.size:=by
      obtain ⟨_,_,csi,hc,hcr⟩:=hrows 0 rows[0] (by rw [List.getElem?_eq_getElem])
      obtain ⟨l1,l2⟩:=cells?_get hc
      have h2:=l2 0 csi[0] (by rw [List.getElem?_eq_getElem])
      have:=zqn h2
      simp [Addr.add] at this
      exact ⟨this.2,this.1⟩
     obtain ⟨ab,ao,asp⟩:=a
     simp only at hspot
     obtain ⟨rfl,hlt⟩:=hspot
     refine ⟨[.sl rows],?_,CRl.one (.sl (P.cellsOf e) ab ao cap hlt hlen hlc ?_ ?_ ?_)⟩
     ·simp only [HasT,hu]
      refine ⟨rows,rfl,by omega,fun r hr=>?_⟩
      obtain ⟨i,hi⟩:=List.mem_iff_getElem?.1 hr
      exact (hrows i r hi).2.1
     ·intro i r hr
      obtain ⟨_,_,csi,hc,hcr⟩:=hrows i r hr
      rw [hcr.1,(cells?_get hc).1]
     ·intro i r j y hr hj
      obtain ⟨_,_,csi,hc,hcr⟩:=hrows i r hr
      obtain ⟨l1,l2⟩:=cells?_get hc
      have hlt:j<csi.length:=by rw [← hcr.1]; exact (List.getElem?_eq_some_iff.1 hj).1
      have:=l2 j csi[j] (by rw [List.getElem?_eq_getElem hlt])
      rw [zbA,zbA,Nat.add_assoc] at this
      exact ⟨_,this⟩
     ·intro i r j y v hr hj hv
      obtain ⟨_,_,csi,hc,hcr⟩:=hrows i r hr
      obtain ⟨l1,l2⟩:=cells?_get hc
      have hlt:j<csi.length:=by rw [← hcr.1]; exact (List.getElem?_eq_some_iff.1 hj).1
      have:=l2 j csi[j] (by rw [List.getElem?_eq_getElem hlt])
      rw [zbA,zbA,Nat.add_assoc,hv] at this
      obtain rfl:=Option.some.inj this
      exact hcr.2 j y _ hj (by rw [List.getElem?_eq_getElem hlt])
  ·rename_i fs hu
   obtain ⟨xs,m,rfl,_,hcl,hxl,hget⟩:=DataW.trod_struct hu h
   have ht:zdi.tilesF (fun t=>zdi P n t) P 0 fs.toList=some (P.cellsOf t):=by simpa using hp
   obtain ⟨ys,hy,hc⟩:=zhW (I:=fun c=>c<w.heap.size) (w:=w) (cs:=cs) (T:=fun t c=>∃x,DataW.trod enc P w base sp held m t c=some x) (G:=fun t=>HasT P n t) (fun t c hg ⟨x,hx⟩=>ih m t c x hg hx) fs.toList 0 _ ht
    (fun f hf=>by
     obtain ⟨i,hi⟩:=List.mem_iff_getElem?.1 hf
     have hi':fs[i]?=some f:=by simpa using hi
     have:=hget i f hi'
     have hlt:i<xs.length:=by rw [hxl]; exact (Array.getElem?_eq_some_iff.1 hi').1
     rw [List.getElem?_eq_getElem hlt] at this
     exact ⟨_,this⟩)
   refine ⟨ys,by simp only [HasT,hu]; exact hy,?_⟩
   rw [Nat.sub_zero,List.drop_zero,← hcl,List.take_length] at hc
   exact hc
  ·rename_i m e hu
   simp only [Bool.and_eq_true,decide_eq_true_eq] at hp
   obtain ⟨hpe,hsz⟩:=hp
   obtain ⟨xs,f,rfl,_,hcl,hxl,hget⟩:=DataW.trod_array hu h
   have hall:∀i,∃row,i<m->HasT P n e row/\CRl (fun c=>c<w.heap.size) w row ((cs.drop (i * P.cellsOf e)).take (P.cellsOf e)):=by
    intro i
    by_cases hi:i<m
    ·have hb:=hget i hi
     rw [List.getElem?_eq_getElem (by omega)] at hb
     obtain ⟨row,h1,h2⟩:=ih f e _ _ hpe hb
     exact ⟨row,fun _=>⟨h1,h2⟩⟩
    ·exact ⟨[],fun h=>absurd h hi⟩
   have key:∀k,k<=m->CRl (fun c=>c<w.heap.size) w (((List.range k).map fun i=>Classical.choose (hall i)).flatten) (cs.take (k * P.cellsOf e)):=by
    intro k
    induction k with
    | zero=>intro _; simp [CRl]
    | succ k ihk =>
     intro hk
     rw [List.range_succ,List.map_append,List.flatten_append,Nat.add_mul,Nat.one_mul,List.take_add]
     refine (ihk (by omega)).append ?_
     simpa using (Classical.choose_spec (hall k) (by omega)).2
   refine ⟨((List.range m).map fun i=>Classical.choose (hall i)).flatten,?_,?_⟩
   ·simp only [HasT,hu]
    refine ⟨_,rfl,by simp,fun r hr=>?_⟩
    simp only [List.mem_map,List.mem_range] at hr
    obtain ⟨i,hi,rfl⟩:=hr
    exact (Classical.choose_spec (hall i) hi).1
   ·have:=key m (Nat.le_refl _)
    rw [← hsz,← hcl,List.take_length] at this
    exact this
  ·cases hp
theorem znZ{base:Nat}{w:World}{ps:List MemPlace}{n:Nat}{t:TypeId}{v:Value}{d:DataW H}(hp:zdi P n t=true)(ht:DataW.Trod enc P w 0 (fun _=>true) true t v d ps)
  (hval:Value.okWide P w .any base t v):∃xs,HasT P n t xs/\VR (fun c=>c<w.heap.size) w Io.nil (if zaF P t=some true then .agg xs else xs.headD .undef) v:=by
 obtain ⟨fuel,hf⟩:=ht
 obtain ⟨xs,hx,hc⟩:=zkR n fuel t _ _ hp hf
 refine ⟨xs,hx,?_⟩
 cases n with
 | zero=>simp [zdi] at hp
 | succ n =>
  unfold zdi at hp
  have scalar:∀dd,P.underlying t=some dd->zaF P t=some false->v.cells=#[v]->∃y,xs=[y]/\VR (fun c=>c<w.heap.size) w Io.nil (if zaF P t=some true then .agg xs else xs.headD .undef) v:=by
   intro dd hu ha hv
   rw [hv] at hc
   match xs,hc with
   | [y],hc=>exact ⟨y,rfl,by rw [ha]; simpa using hc.2 0 y v rfl rfl⟩
   | [],hc=>simp [CRl] at hc
   | _::_::_,hc=>simp [CRl] at hc
  split at hp
  ·rename_i hu
   obtain ⟨b,rfl⟩:=WideShapes.okWide_bool hu hval
   exact (scalar _ hu (by simp [zaF,hu]) rfl).choose_spec.2
  ·rename_i k hu
   obtain ⟨b,rfl⟩:=WideShapes.okWide_int hu hval
   exact (scalar _ hu (by simp [zaF,hu]) rfl).choose_spec.2
  ·rename_i hu
   obtain ⟨b,rfl⟩:=WideShapes.okWide_string hu hval
   exact (scalar _ hu (by simp [zaF,hu]) rfl).choose_spec.2
  ·rename_i e hu
   obtain ⟨a,l,c,rfl⟩:=WideShapes.okWide_slice hu hval
   exact (scalar _ hu (by simp [zaF,hu]) rfl).choose_spec.2
  ·rename_i fs hu
   unfold Value.okWide at hval
   rw [hu] at hval
   obtain ⟨cs,rfl,_,_⟩:=hval
   have ha:zaF P t=some true:=by simp [zaF,hu]
   rw [ha]
   exact .agg (by simpa [Value.cells] using hc.1.symm) fun j x y hx hy=>hc.2 j x y hx (by simpa [Value.cells] using hy)
  ·rename_i m e hu
   unfold Value.okWide at hval
   rw [hu] at hval
   obtain ⟨cs,rfl,_,_⟩:=hval
   have ha:zaF P t=some true:=by simp [zaF,hu]
   rw [ha]
   exact .agg (by simpa [Value.cells] using hc.1.symm) fun j x y hx hy=>hc.2 j x y hx (by simpa [Value.cells] using hy)
  ·cases hp
def pk(P:Program)(t:TypeId)(xs:List AV):AV:=if zaF P t=some true then .agg xs else xs.headD .undef
theorem zaO.walk{f:FuncId}{args:List AV}{W:World}{vs:Array Value}(h:zaO P f args (.bool true))(ht:TT (fun c=>c<W.heap.size) W)(hl:vs.size=args.length)
  (hv:∀(j:Nat) x y,args[j]?=some x->vs[j]?=some y->VR (fun c=>c<W.heap.size) W Io.nil x y) :
  Calls P f vs W fun e W'=>e=.returned (.bool true)/\RowKit.Below W.heap.size W W' :=
 (h _ W vs (fun _ h=>h) ht ⟨hl,hv⟩).mono fun e W' ⟨v,I',he,hb,_,_,_,hvr⟩=>⟨by rw [he,hvr.bool_inv],hb⟩
end Go.Vs
