import Derived.Test.YtpojlconoflneaaVu2
import Derived.Orders
import Derived.KernelRfl
import Derived.ProofKit
import Derived.Carry
import Derived.OpenShut
import Derived.ShutString
import Derived.ChangeOld
import Derived.SizedLaws
section
/-! Rows of operations, reckoned. -/
set_option linter.unusedVariables false
set_option linter.unusedSectionVars false
set_option linter.unusedSimpArgs false
namespace Go.Vs
variable [Tab]
universe u
variable {P : Program}

def Hold {α : Sort u} (_ : α) : Type := Unit
def held {α : Sort u} (a : α) : Hold a := ()
def onS' {α : Type} (o : Option α) (K : α → Prop) (_ : Hold K) : Prop := match o with | some a => K a | none => False
abbrev onS {α : Type} (o : Option α) (K : α → Prop) : Prop := onS' o K (held K)
@[go_sem] theorem onS_some {α : Type} (a : α) (K : α → Prop) (k : Hold K) : onS' (some a) K k = K a := rfl
@[go_sem] theorem onS_none {α : Type} (K : α → Prop) (k : Hold K) : onS' none K k = False := rfl
def onC' {α : Type} (o : Option α) (f : α → Prop) (g : Prop) (_ : Hold (f, g)) : Prop := match o with | some a => f a | none => g
@[go_sem] theorem onC_some {α : Type} (a : α) (f : α → Prop) (g : Prop) (k : Hold (f, g)) : onC' (some a) f g k = f a := rfl
@[go_sem] theorem onC_none {α : Type} (f : α → Prop) (g : Prop) (k : Hold (f, g)) : onC' none f g k = g := rfl
theorem onS_inv {α : Type} {o : Option α} {K : α → Prop} {k : Hold K} (h : onS' o K k) : ∃ a, o = some a ∧ K a := by
  cases o with
  | none => exact h.elim
  | some a => exact ⟨a, rfl, h⟩

def isBool (P : Program) (t : TypeId) : Bool := match P.underlying t with | some .bool => true | _ => false
theorem isBool_spec {t : TypeId} (h : isBool P t = true) : P.underlying t = some .bool := by unfold isBool at h; split at h <;> simp_all
def evBin (P : Program) (op : BinOp) (t : TypeId) (cst : Bool) : AV → AV → Option AV
  | .int k a, .int k' b => if k = k' then evInt op k a b else none
  | .bool a, .bool b => match op with
    | .eql => if isBool P t = true then some (.bool (a == b)) else none
    | .neq => if isBool P t = true then some (.bool (a != b)) else none
    | _ => none
  | .agg xs, .agg ys => match op with
    | .eql => (evEqAg P t xs ys).map fun b => .bool b
    | .neq => (evEqAg P t xs ys).map fun b => .bool (!b)
    | _ => none
  | .str a, .str b => evStr op a b
  | a, b => match op with
    | .eql => (nilEq P t cst a b).map fun b => .bool b
    | .neq => (nilEq P t cst a b).map fun b => .bool (!b)
    | _ => none
def evUn (op : UnOp) : AV → Option AV
  | .bool b => match op with
    | .not => some (.bool (!b))
    | _ => none
  | .int k n => match op with
    | .neg => some (.int k (k.wrap (0 - n)))
    | _ => none
  | _ => none
def intKind (P : Program) (t : TypeId) : Option IntKind := match P.underlying t with | some (.int k) => some k | _ => none
def evConv (P : Program) (h : Hp) (s d : TypeId) : AV → Option AV
  | .int _ n => if (P.underlying s).isSome = true then (intKind P d).map fun k => .int k (k.wrap n) else none
  | .sl rows => if isBytes P s = true ∧ isStr P d = true then (srcA h 1 (.sl rows)).bind fun rows => (rowsStr rows).map fun r => .str r else none
  | .msl b ver off k len cap => if isBytes P s = true ∧ isStr P d = true then (srcA h 1 (.msl b ver off k len cap)).bind fun rows => (rowsStr rows).map fun r => .str r else none
  | _ => none
def strC (P : Program) (s d : TypeId) : AV → Option (TypeId × ByteArray)
  | .str t => if isStr P s = true ∧ isBytes P d = true then (elemOf' P d).bind fun e => some (e, t) else none
  | _ => none
def staleB (h : Hp) : AV → Bool
  | .msl b ver _ esz _ _ => match h[b]? with
    | some (.rows _ e v _) => v == ver && e == esz
    | _ => false
  | _ => true
theorem staleB_spec {h x} (hs : staleB h x = true) : ∀ b ver off e len cap, x = .msl b ver off e len cap → ∃ rs ty, h[b]? = some (.rows rs e ver ty) := by
  rintro b ver off e len cap rfl
  simp only [staleB] at hs
  split at hs
  · rename_i rs e2 v ty hb
    simp only [Bool.and_eq_true, beq_iff_eq] at hs
    obtain ⟨rfl, rfl⟩ := hs
    exact ⟨rs, ty, hb⟩
  · cases hs
def tupS : AV → Option (List AV)
  | .tuple vs => some vs
  | _ => none
def boolS : AV → Option Bool
  | .bool b => some b
  | _ => none

def methO (P : Program) (x : AV) (name : String) : Option (FuncId × AV) := match x with | .iface t v => (methF P t name).map fun f => (f, v) | _ => none

def strS : AV → Option ByteArray
  | .str s => some s
  | _ => none
def slH (P : Program) (h : Hp) (t : TypeId) (lo hi : Option AV) : AV → Option AV
  | .msl b ver off k len cap => (elemOf' P t).bind fun e => (tsz P e).bind fun k2 => if k = k2 then mslA h lo hi (.msl b ver off k len cap) else none
  | x => slA P t lo hi x
def usOk (P : Program) (t : TypeId) (h : Hp) (x n : AV) (q : ByteArray × TypeId × Nat × Nat) : Prop :=
  ptrTo P t = some q.2.1 ∧ P.cellsOf q.2.1 = 1 ∧ x = .bptr q.2.2.1 q.2.2.2 q.1.size ∧ n = .int .i64 q.1.size ∧ h[q.2.2.1]? = some (.rows (sB q.1) 1 q.2.2.2 q.2.1) ∧ Fits q.1.size
def evB (P : Program) (b : Builtin) (ts : Array TypeId) (rt : TypeId) (xs : List AV) (h : Hp) (K : AV → Hp → Prop) (els : Prop) : Prop :=
  match b, ts.toList, xs with
  | .len, [t], [x] => onS (lenA x) fun n => ((match x with | .str _ => isStr P t | _ => (elemOf' P t).isSome) = true ∧ staleB h x = true) ∧ K (.int .i64 n) h
  | .append, [t, t'], [s, x] => ∃ own : Bool, True ∧ ((t = t' ∧ bif own then (onS (apA P t h s x) fun r => K r.1 r.2) else onS (apI P t h s x) fun r => K r h) ∨ onS (apS P t t' h s x) fun r => K r.1 r.2)
  | .unsafeSliceData, [t], [x] => onS (sdA P rt h x) fun r => K r h
  | .unsafeString, [t, t'], [x, n] => ∃ q, usOk P t h x n q ∧ K (.str q.1) (h.set q.2.2.1 .dead)
  | .min, _, [.int k a, .int k' b] => k = k' ∧ K (.int k (if b < a then b else a)) h
  | _, _, _ => els

def nz : AV → AV
  | .nils => .sl []
  | x => x
theorem VR.nz {I w ι x v} (h : VR I w ι x v) : VR I w ι (Go.Vs.nz x) v := by
  unfold Go.Vs.nz
  split
  · cases h; exact .sl0
  · exact h
theorem VR.slnz {I w ι} {rows : List (List AV)} {v : Value} (h : VR I w ι (.sl rows) v) : VR I w ι (.sl (rows.map fun r => r.map Go.Vs.nz)) v := by
  cases h with
  | sl0 => exact .sl0
  | sl esz c off cap hI hn hcap hl hs hv =>
    refine .sl esz c off cap hI (by simpa using hn) hcap ?_ ?_ ?_
    · intro i r hr
      rw [List.getElem?_map] at hr
      obtain ⟨r0, h0, rfl⟩ := Option.map_eq_some_iff.1 hr
      simpa using hl i r0 h0
    · intro i r j x hr hx
      rw [List.getElem?_map] at hr
      obtain ⟨r0, h0, rfl⟩ := Option.map_eq_some_iff.1 hr
      rw [List.getElem?_map] at hx
      obtain ⟨x0, hx0, rfl⟩ := Option.map_eq_some_iff.1 hx
      exact hs i r0 j x0 h0 hx0
    · intro i r j x y hr hx hy
      rw [List.getElem?_map] at hr
      obtain ⟨r0, h0, rfl⟩ := Option.map_eq_some_iff.1 hr
      rw [List.getElem?_map] at hx
      obtain ⟨x0, hx0, rfl⟩ := Option.map_eq_some_iff.1 hx
      exact (hv i r0 j x0 y h0 hx0 hy).nz
theorem Step.weakR {P : Program} {o : Oper} {ρ : Operand → AV} {h h' : Hp} {r r' : AV} (hs : Step P o ρ h r h') (hw : ∀ I w ι v, VR I w ι r v → VR I w ι r' v) : Step P o ρ h r' h' :=
  fun I ι w a hr hf hx next Q k => hs I ι w a hr hf hx next Q fun v w' I' ι' e hv => k v w' I' ι' e (hw _ _ _ _ hv)

def evS (P : Program) (o : Oper) (ρ : Operand → AV) (h : Hp) (K : AV → Hp → Prop) : Prop :=
  match o.op with
  | .move x => K (ρ x) h
  | .assign x => K (ρ x) h
  | .pick c x y => onS (boolS (ρ c)) fun b => K (if b then ρ x else ρ y) h
  | .extract x i => onS (tupS (ρ x)) fun vs => onS vs[i]? fun r => K r h
  | .load t p => onS (aggOf P t) fun agg => onS (tsz P t) fun n => onS (ldA agg n (rowOf h (ρ p))) fun r => K r h
  | .store t p x => onS (tsz P t) fun n => n = (cellsOf (ρ x)).length ∧ (cellsOf (ρ x)).all oneB = true ∧ onS (stA h (ρ p) (cellsOf (ρ x))) fun h' => K .undef h'
  | .fieldAddr t x f => onS (fld P t f) fun q => q.2 ≠ 0 ∧ onS (addO (ρ x) q.1) fun r => K r h
  | .alloc t => onS (tzero P t) fun z => K (.ptr h.length 0 0) (h ++ [.cells z 0 t])
  | .box t x => (cellsOf (ρ x)).all oneB = true ∧ K (.ptr h.length 0 0) (h ++ [.cells (cellsOf (ρ x)) 0 t])
  | .binOp op t x y _ => onS (evBin P op t (isCst x || isCst y) (ρ x) (ρ y)) fun r => K r h
  | .unOp op _ x => onS (evUn op (ρ x)) fun r => K r h
  | .convert s d x => onC' (strC P s d (ρ x)) (fun q => K (.msl h.length 1 0 1 (intsB q.2).length (intsB q.2).length) (h ++ [.rows (bC q.2) 1 1 q.1])) (onS (evConv P h s d (ρ x)) fun r => K r h) (held _)
  | .build t parts => onS (tzero P t) fun z => onS (plc P t) fun l => onS (fillA (fun i : Nat => l[i]?) z (parts.toList.map fun q => (q.1, ρ q.2))) fun cs => K (.agg cs) h
  | .buildSlice t n parts => ∃ own : Bool, True ∧ onS (elemOf' P t) fun e => onS (tsz P e) fun k => onS (tzero P e) fun _ => (parts.toList.map (·.1) = List.range n ∧ k ≠ 0 ∧ n * k ≤ 16777216) ∧ bif own then (rows1 k (parts.toList.map fun q => cellsOf (ρ q.2)) = true ∧ K (.msl h.length 1 0 k n n) (h ++ [.rows (parts.toList.map fun q => cellsOf (ρ q.2)) k 1 e]))
      else ((parts.toList.map fun q => ρ q.2).all (rowOk k) = true ∧ K (if n = 0 then .emp else .sl (parts.toList.map fun q => (cellsOf (ρ q.2)).map nz)) h)
  | .makeInterface t x => ifaceB P t = some false ∧ K (.iface t (ρ x)) h
  | .indexAddr t x i => onS (ixOf P t) fun q => onS (tsz P q.2) fun n => onS (elA q.1 n (ρ x) (ρ i)) fun r => staleB h (ρ x) = true ∧ K r h
  | .field t x f => onS (fldT P t f) fun q => onS (aggOf P q.2) fun ag => onS (tsz P q.2) fun n => onS (fdA ag n q.1 (ρ x)) fun r => K r h
  | .slice t x lo hi none => onS (slH P h t (lo.map ρ) (hi.map ρ) (ρ x)) fun r => K r h
  | .makeSlice t n c => onS (mkA P t (ρ n) (ρ c)) fun q => K (.msl h.length 1 0 q.2.1 q.1 q.1) (h ++ [.rows (List.replicate q.1 q.2.2.1) q.2.1 1 q.2.2.2])
  | .range t x => onS (strS (ρ x)) fun s => isStr P t = true ∧ K (.ptr h.length 0 0) (h ++ [.siter s 0])
  | .next x true => onS (nextA h (ρ x)) fun r => K r.1 r.2
  | .nilCheck x => (match ρ x with | .ptr .. | .eptr .. | .iptr .. => true | _ => false) = true ∧ K (ρ x) h
  | .makeMap t none => K (.map h.length) (h ++ [.map []])
  | .lookup t m x ok => onS (lkA P t h (ρ m) (ρ x) ok) fun r => K r h
  | .mapUpdate t m x y => onS (muA P t h (ρ m) (ρ x) (ρ y)) fun h' => K .undef h'
  | .insert t m x y => onS (muA P t h (ρ m) (ρ x) (ρ y)) fun h' => K .undef h'
  | .typeAssert x _ t ok => ifaceB P t = some false ∧ onS (tasA P t ok (ρ x)) fun r => K r h
  | .index t x i => isStr P t = true ∧ onS (ixStr (ρ x) (ρ i)) fun r => K r h
  | .call c => match c.callee with
    | .invoke x name => onS (methO P (ρ x) name) fun q => fnOk P q.1 = true ∧ pureBs (q.2 :: c.args.toList.map ρ) = true ∧ ∃ r, PureF P q.1 (q.2 :: c.args.toList.map ρ) r ∧ K r h
    | .value (.func f) => fnOk P f = true ∧ ∃ q, callQ P f h (c.args.toList.map ρ) q ∧ K (q.res h) (q.hp h)
    | .builtin b => evB P b c.argTypes o.type (c.args.toList.map ρ) h K (∃ r h', Step P o ρ h r h' ∧ K r h')
    | _ => ∃ r h', Step P o ρ h r h' ∧ K r h'
  | _ => ∃ r h', Step P o ρ h r h' ∧ K r h'

theorem evS_sound {o : Oper} {ρ : Operand → AV} {h : Hp} {K : AV → Hp → Prop} (he : evS P o ρ h K) : ∃ r h', Step P o ρ h r h' ∧ K r h' := by
  unfold evS at he
  split at he
  · rename_i x ho; exact ⟨_, _, Step.move (.inl ho), he⟩
  · rename_i x ho; exact ⟨_, _, Step.move (.inr ho), he⟩
  · rename_i c x y ho
    obtain ⟨b, hb, hk⟩ := onS_inv he
    have : ρ c = .bool b := by unfold boolS at hb; split at hb <;> simp_all
    exact ⟨_, _, Step.pick ho this, hk⟩
  · rename_i x i ho
    obtain ⟨vs, hv, he⟩ := onS_inv he
    obtain ⟨r, hr, hk⟩ := onS_inv he
    have : ρ x = .tuple vs := by unfold tupS at hv; split at hv <;> simp_all
    exact ⟨_, _, Step.extract ho this hr, hk⟩
  · rename_i t p ho
    obtain ⟨agg, ha, he⟩ := onS_inv he
    obtain ⟨n, hn, he⟩ := onS_inv he
    obtain ⟨r, hr, hk⟩ := onS_inv he
    exact ⟨_, _, Step.load ho ha hn hr, hk⟩
  · rename_i t p x ho
    obtain ⟨n, hn, e, h1, he⟩ := onS_inv he
    obtain ⟨h', hs, hk⟩ := onS_inv he
    exact ⟨_, _, Step.store ho (e ▸ hn) h1 hs, hk⟩
  · rename_i t x f ho
    obtain ⟨⟨off, n⟩, hf, hn, he⟩ := onS_inv he
    obtain ⟨r, hr, hk⟩ := onS_inv he
    exact ⟨_, _, Step.fieldAddr ho hf hn hr, hk⟩
  · rename_i t ho
    obtain ⟨z, hz, hk⟩ := onS_inv he
    exact ⟨_, _, Step.alloc ho hz, hk⟩
  · rename_i t x ho
    exact ⟨_, _, Step.box ho he.1, he.2⟩
  · rename_i op t x y t' ho
    obtain ⟨r, hr, hk⟩ := onS_inv he
    unfold evBin at hr
    split at hr
    · rename_i k a k' b hx hy
      split at hr
      · rename_i e; subst e; exact ⟨_, _, Step.binInt ho hx hy hr, hk⟩
      · cases hr
    · rename_i a b hx hy
      split at hr
      · split at hr
        · rename_i ht; obtain rfl := Option.some.inj hr; exact ⟨_, _, Step.eqBool ho (isBool_spec ht) hx hy, hk⟩
        · cases hr
      · split at hr
        · rename_i ht; obtain rfl := Option.some.inj hr; exact ⟨_, _, Step.neqBool ho (isBool_spec ht) hx hy, hk⟩
        · cases hr
      · cases hr
    · rename_i xs ys hx hy
      split at hr
      · simp only [Option.map_eq_some_iff] at hr
        obtain ⟨b, hb, rfl⟩ := hr
        exact ⟨_, _, Step.eqAg (neg := false) ho hx hy hb, hk⟩
      · simp only [Option.map_eq_some_iff] at hr
        obtain ⟨b, hb, rfl⟩ := hr
        exact ⟨_, _, Step.eqAg (neg := true) ho hx hy hb, hk⟩
      · cases hr
    · rename_i a b hx hy
      exact ⟨_, _, Step.binStr ho hx hy hr, hk⟩
    · split at hr
      · simp only [Option.map_eq_some_iff] at hr
        obtain ⟨b, hb, rfl⟩ := hr
        have := Step.eqNil (h := h) false ho hb
        rw [Bool.bne_false] at this
        exact ⟨_, _, this, hk⟩
      · simp only [Option.map_eq_some_iff] at hr
        obtain ⟨b, hb, rfl⟩ := hr
        have := Step.eqNil (h := h) true ho hb
        rw [Bool.bne_true] at this
        exact ⟨_, _, this, hk⟩
      · cases hr
  · rename_i op t x ho
    obtain ⟨r, hr, hk⟩ := onS_inv he
    unfold evUn at hr
    split at hr
    · rename_i b hx
      split at hr
      · obtain rfl := Option.some.inj hr; exact ⟨_, _, Step.not ho hx, hk⟩
      · cases hr
    · rename_i k n hx
      split at hr
      · obtain rfl := Option.some.inj hr; exact ⟨_, _, Step.neg ho hx, hk⟩
      · cases hr
    · cases hr
  · rename_i s d x ho
    unfold onC' at he
    split at he
    · rename_i q hq
      unfold strC at hq
      split at hq
      · rename_i t hx
        split at hq
        · rename_i hc
          obtain ⟨e, hel, hq⟩ := Option.bind_eq_some_iff.1 hq
          obtain rfl := Option.some.inj hq
          refine ⟨_, _, Step.strBytes ho (isStr_spec hc.1) hc.2 hel hx, ?_⟩
          rw [← intsB_length]; exact he
        · cases hq
      · cases hq
    obtain ⟨r, hr, hk⟩ := onS_inv he
    unfold evConv at hr
    split at hr
    · rename_i k n hx
      split at hr
      · rename_i hs
        obtain ⟨ds, hs⟩ := Option.isSome_iff_exists.1 hs
        simp only [Option.map_eq_some_iff] at hr
        obtain ⟨k', hk', rfl⟩ := hr
        unfold intKind at hk'
        split at hk'
        · rename_i k2 hu
          obtain rfl := Option.some.inj hk'
          exact ⟨_, _, Step.convInt ho hs hu hx, hk⟩
        · cases hk'
      · cases hr
    · rename_i rows0 hx
      split at hr
      · rename_i hc
        simp only [Option.bind_eq_some_iff, Option.map_eq_some_iff] at hr
        obtain ⟨rows, h1, r2, h2, rfl⟩ := hr
        rw [← hx] at h1
        exact ⟨_, _, Step.bytesStr ho hc.1 (isStr_spec hc.2) h1 h2, hk⟩
      · cases hr
    · rename_i hx
      split at hr
      · rename_i hc
        simp only [Option.bind_eq_some_iff, Option.map_eq_some_iff] at hr
        obtain ⟨rows, h1, r2, h2, rfl⟩ := hr
        rw [← hx] at h1
        exact ⟨_, _, Step.bytesStr ho hc.1 (isStr_spec hc.2) h1 h2, hk⟩
      · cases hr
    · cases hr
  · rename_i t parts ho
    obtain ⟨z, hz, he⟩ := onS_inv he
    obtain ⟨l, hl, he⟩ := onS_inv he
    obtain ⟨cs, hcs, hk⟩ := onS_inv he
    exact ⟨_, _, Step.build ho hz hl hcs, hk⟩
  · rename_i t n parts ho
    obtain ⟨own, _, he⟩ := he
    obtain ⟨e, hel, he⟩ := onS_inv he
    obtain ⟨k, hk, he⟩ := onS_inv he
    obtain ⟨z, hz, ⟨h1, h3, h4⟩, he⟩ := onS_inv he
    cases own with
    | true =>
      obtain ⟨h5, hk'⟩ := he
      refine ⟨_, _, Step.buildOwn ho hel hk hz h1 h3 h4 ?_, hk'⟩
      simpa [rows1, List.all_map, Function.comp_def] using h5
    | false =>
      obtain ⟨h5, hk'⟩ := he
      by_cases h2 : n = 0
      · rw [if_pos h2] at hk'
        subst h2
        exact ⟨_, _, Step.buildEmp ho hel hk hz h1, hk'⟩
      · rw [if_neg h2] at hk'
        refine ⟨_, _, (Step.buildSlice ho hel hk hz h1 h2 h3 h4 h5).weakR (fun I w ι v hv => ?_), hk'⟩
        have := hv.slnz
        simpa [List.map_map, Function.comp_def] using this
  · rename_i t x ho
    exact ⟨_, _, Step.makeInterface ho he.1, he.2⟩
  · rename_i t x i ho
    obtain ⟨e, hel, he⟩ := onS_inv he
    obtain ⟨n, hn, he⟩ := onS_inv he
    obtain ⟨r, hr, hst, hk⟩ := onS_inv he
    exact ⟨_, _, Step.indexAddr ho hel hn hr (staleB_spec hst), hk⟩
  · rename_i t x f ho
    obtain ⟨q, hq, he⟩ := onS_inv he
    obtain ⟨ag, ha, he⟩ := onS_inv he
    obtain ⟨n, hn, he⟩ := onS_inv he
    obtain ⟨r, hr, hk⟩ := onS_inv he
    exact ⟨_, _, Step.field ho hq ha hn hr, hk⟩
  · rename_i t x lo hi ho
    obtain ⟨r, hr, hk⟩ := onS_inv he
    unfold slH at hr
    split at hr
    · rename_i b ver off k len cap hx
      simp only [Option.bind_eq_some_iff] at hr
      obtain ⟨e, hel, k2, hk2, hr⟩ := hr
      split at hr
      · rename_i ek
        subst ek
        rw [← hx] at hr
        exact ⟨_, _, Step.sliceMsl ho hel hk2 (fun b' v' o' k' l' c' e' => by rw [hx] at e'; injection e' with _ _ _ e4; exact e4.symm) hr, hk⟩
      · cases hr
    · exact ⟨_, _, Step.slice ho hr, hk⟩
  · rename_i t n c ho
    obtain ⟨q, hq, hk⟩ := onS_inv he
    exact ⟨_, _, Step.makeSlice ho hq, hk⟩
  · rename_i t x ho
    obtain ⟨s, hs, hst, hk⟩ := onS_inv he
    have hx : ρ x = .str s := by unfold strS at hs; split at hs <;> simp_all
    exact ⟨_, _, Step.rangeStr ho (isStr_spec hst) hx, hk⟩
  · rename_i x ho
    obtain ⟨r, hr, hk⟩ := onS_inv he
    exact ⟨_, _, Step.next ho hr, hk⟩
  · rename_i x ho
    exact ⟨_, _, Step.nilCheck ho he.1, he.2⟩
  · rename_i t ho
    exact ⟨_, _, Step.makeMap ho, he⟩
  · rename_i t m x ok ho
    obtain ⟨r, hr, hk⟩ := onS_inv he
    exact ⟨_, _, Step.lookup ho hr, hk⟩
  · rename_i t m x y ho
    obtain ⟨r, hr, hk⟩ := onS_inv he
    exact ⟨_, _, Step.mapUpdate (.inl ho) hr, hk⟩
  · rename_i t m x y ho
    obtain ⟨r, hr, hk⟩ := onS_inv he
    exact ⟨_, _, Step.mapUpdate (.inr ho) hr, hk⟩
  · rename_i x xt t ok ho
    obtain ⟨hi, he⟩ := he
    obtain ⟨r, hr, hk⟩ := onS_inv he
    exact ⟨_, _, Step.typeAssert ho hi hr, hk⟩
  · rename_i t x i ho
    obtain ⟨hi, he⟩ := he
    obtain ⟨r, hr, hk⟩ := onS_inv he
    exact ⟨_, _, Step.indexStr ho (isStr_spec hi) hr, hk⟩
  · rename_i c ho
    split at he
    · rename_i x name hc
      obtain ⟨q, hq, hf, hp, r, hr, hk⟩ := onS_inv he
      unfold methO at hq
      split at hq
      · rename_i t v hx
        simp only [Option.map_eq_some_iff] at hq
        obtain ⟨f, hm, rfl⟩ := hq
        exact ⟨_, _, Step.invoke (as := c.args) (ts := c.argTypes) (by rw [ho]; cases c; simp_all) hx hm hf hp hr, hk⟩
      · cases hq
    · rename_i f hc
      obtain ⟨hf, q, hq, hk⟩ := he
      exact ⟨_, _, Step.callQ (as := c.args) (ts := c.argTypes) (by rw [ho]; cases c; simp_all) hf hq, hk⟩
    · rename_i b hc
      unfold evB at he
      split at he
      · rename_i t x hts hxs
        obtain ⟨n, hn, ⟨hcond, hst⟩, hk⟩ := onS_inv he
        have h1 : c.argTypes = #[t] := by
          have := congrArg List.toArray hts; simpa using this
        obtain ⟨x0, hx0, hx1⟩ : ∃ x0, c.args = #[x0] ∧ ρ x0 = x := by
          have hl : c.args.toList.map ρ = [x] := hxs
          match hca : c.args.toList, hl with
          | [x0], hl => exact ⟨x0, by have := congrArg List.toArray hca; simpa using this, by simpa using hl⟩
          | [], hl => simp at hl
          | _ :: _ :: _, hl => simp at hl
        have ho' : o.op = .call { callee := .builtin .len, args := #[x0], argTypes := #[t] } := by rw [ho]; cases c; simp_all
        have hstr : ∀ s, x = .str s → P.underlying t = some .string := by
          intro s hs; rw [hs] at hcond; simp only [isStr] at hcond; split at hcond <;> simp_all
        have hsl : (∀ s, x ≠ .str s) → (elemOf' P t).isSome = true := by
          intro hs
          split at hcond
          · rename_i s; exact absurd rfl (hs s)
          · exact hcond
        refine ⟨_, _, Step.len ho' ?_ ?_ ?_ (by rw [hx1]; exact hn) (by rw [hx1]; exact staleB_spec hst), hk⟩
        · by_cases hs : ∃ s, x = .str s
          · obtain ⟨s, hs⟩ := hs; exact .inr (hstr s hs)
          · exact .inl (hsl fun s e => hs ⟨s, e⟩)
        · intro s hs; rw [hx1] at hs; exact hstr s hs
        · intro hs
          exact hsl fun s e => hs s (hx1.trans e)
      · rename_i t t' s x hts hxs
        obtain ⟨own, _, he⟩ := he
        have h1 : c.argTypes = #[t, t'] := by
          have := congrArg List.toArray hts; simpa using this
        obtain ⟨x0, y0, hx0, hx1, hx2⟩ : ∃ x0 y0, c.args = #[x0, y0] ∧ ρ x0 = s ∧ ρ y0 = x := by
          match hca : c.args.toList, hxs with
          | [x0, y0], hl => exact ⟨x0, y0, by have := congrArg List.toArray hca; simpa using this, by simpa using hl⟩
          | [], hl => simp at hl
          | [_], hl => simp at hl
          | _ :: _ :: _ :: _, hl => simp at hl
        subst hx1; subst hx2
        rcases he with ⟨rfl, he⟩ | he
        · cases own with
          | true =>
            simp only [cond_true] at he
            obtain ⟨r, hr, hk⟩ := onS_inv he
            exact ⟨_, _, Step.append (by rw [ho]; cases c; simp_all) hr, hk⟩
          | false =>
            simp only [cond_false] at he
            obtain ⟨r, hr, hk⟩ := onS_inv he
            exact ⟨_, _, Step.appendI (by rw [ho]; cases c; simp_all) hr, hk⟩
        · obtain ⟨r, hr, hk⟩ := onS_inv he
          exact ⟨_, _, Step.appendStr (by rw [ho]; cases c; simp_all) hr, hk⟩
      · rename_i t x hts hxs
        obtain ⟨r, hr, hk⟩ := onS_inv he
        have h1 : c.argTypes = #[t] := by
          have := congrArg List.toArray hts; simpa using this
        obtain ⟨x0, hx0, hx1⟩ : ∃ x0, c.args = #[x0] ∧ ρ x0 = x := by
          match hca : c.args.toList, hxs with
          | [x0], hl => exact ⟨x0, by have := congrArg List.toArray hca; simpa using this, by simpa using hl⟩
          | [], hl => simp at hl
          | _ :: _ :: _, hl => simp at hl
        subst hx1
        exact ⟨_, _, Step.sliceData (t := t) (by rw [ho]; cases c; simp_all) hr, hk⟩
      · rename_i t t' x n hts hxs
        obtain ⟨⟨s, e, b, ver⟩, ⟨q1, q2, q3, q4, q5, q6⟩, hk⟩ := he
        have h1 : c.argTypes = #[t, t'] := by
          have := congrArg List.toArray hts; simpa using this
        obtain ⟨x0, y0, hx0, hx1, hx2⟩ : ∃ x0 y0, c.args = #[x0, y0] ∧ ρ x0 = x ∧ ρ y0 = n := by
          match hca : c.args.toList, hxs with
          | [x0, y0], hl => exact ⟨x0, y0, by have := congrArg List.toArray hca; simpa using this, by simpa using hl⟩
          | [], hl => simp at hl
          | [_], hl => simp at hl
          | _ :: _ :: _ :: _, hl => simp at hl
        subst hx1; subst hx2
        exact ⟨_, _, Step.unsafeString (t := t) (t' := t') (x := x0) (n := y0) (by rw [ho]; cases c; simp_all) q1 q2 q3 q4 q5 q6, hk⟩
      · rename_i k a k' b hxs
        obtain ⟨rfl, hk⟩ := he
        obtain ⟨x0, y0, hx0, hx1, hx2⟩ : ∃ x0 y0, c.args = #[x0, y0] ∧ ρ x0 = .int k a ∧ ρ y0 = .int k b := by
          match hca : c.args.toList, hxs with
          | [x0, y0], hl => exact ⟨x0, y0, by have := congrArg List.toArray hca; simpa using this, by simpa using hl⟩
          | [], hl => simp at hl
          | [_], hl => simp at hl
          | _ :: _ :: _ :: _, hl => simp at hl
        exact ⟨_, _, Step.minInt (ts := c.argTypes) (by rw [ho]; cases c; simp_all) hx1 hx2, hk⟩
      · exact he
    · exact he
  · exact he

end Go.Vs
end

section
/-! Running a row of operations by rewriting. -/
set_option linter.unusedVariables false
set_option linter.unusedSectionVars false
set_option linter.unusedSimpArgs false
namespace Go.Vs
variable [Tab]
universe u
variable {P : Program} {N n0 : Nat}

def onG (g : Option Bool) (t f : Unit → Prop) (_ : Hold (t, f)) : Prop := match g with | some true => t () | some false => f () | none => False
@[go_sem] theorem onG_t (t f : Unit → Prop) (k : Hold (t, f)) : onG (some true) t f k = t () := rfl
@[go_sem] theorem onG_f (t f : Unit → Prop) (k : Hold (t, f)) : onG (some false) t f k = f () := rfl
theorem onG_split {b : Bool} {t f : Unit → Prop} {k : Hold (t, f)} (ht : b = true → t ()) (hf : b = false → f ()) : onG (some b) t f k := by
  cases b
  · exact hf rfl
  · exact ht rfl

theorem onG_splitN {b : Bool} {t f : Unit → Prop} {k : Hold (t, f)} (ht : b = false → t ()) (hf : b = true → f ()) : onG (some (!b)) t f k := by
  cases b
  · exact ht rfl
  · exact hf rfl

def evK (P : Program) (o : Oper) (ρ : Operand → AV) (h : Hp) (K : AV → Hp → Prop) (_ : Hold (o, K)) : Prop := evS P o ρ h K

def exP {α : Type} (A : α → Prop) (K : α → Prop) (_ : Hold K) : Prop := ∃ r, A r ∧ K r
theorem exP.mk {α : Type} {A K : α → Prop} {k : Hold K} (r : α) (ha : A r) (hk : K r) : exP A K k := ⟨r, ha, hk⟩
def evBK (P : Program) (b : Builtin) (ts : Array TypeId) (rt : TypeId) (xs : List AV) (h : Hp) (K : AV → Hp → Prop) (els : Unit → Prop) (_ : Hold (K, els)) : Prop := evB P b ts rt xs h K (els ())
def RunE (P : Program) (ops : Array Oper) (Q : Slots → Hp → Prop) : (l : List Oper) → Slots → Hp → Hold (ops, Q, l) → Prop
  | [], s, h, _ => Q s h
  | o :: rest, s, h, _ => onG (guardA ops s o) (fun _ => evS P o s.ev h fun r h' => RunE P ops Q rest (s.put o.dst r) h' (held _)) (fun _ => RunE P ops Q rest (s.put o.dst (.tuple [])) h (held _)) (held _)

theorem RunE_run {ops : Array Oper} {Q : Slots → Hp → Prop} : ∀ (l : List Oper) (s h) (k), RunE P ops Q l s h k → Run P ops Q l s h
  | [], s, h, _, hr => hr
  | o :: rest, s, h, _, hr => by
    simp only [RunE] at hr
    simp only [Run]
    split
    · rename_i e
      rw [e, onG_t] at hr
      obtain ⟨r, h', hst, hk⟩ := evS_sound hr
      exact ⟨r, h', hst, RunE_run rest _ _ _ hk⟩
    · rename_i e
      rw [e, onG_f] at hr
      exact RunE_run rest _ _ _ hr
    · rename_i e
      rw [e] at hr
      exact hr

def W (P : Program) (N n0 : Nat) (c : Code) (Q : Exit → Slots → Hp → Prop) (s : Slots) (h : Hp) (_ : Hold (c, Q)) : Prop := WP P N n0 c s h Q
abbrev WK (P : Program) (N n0 : Nat) (c : Code) (Q : Exit → Slots → Hp → Prop) (s : Slots) (h : Hp) : Prop := W P N n0 c Q s h (held _)

def dstOk (N : Nat) (ops : Array Oper) : Bool := ops.toList.all fun o => match o.dst with | some t => decide (t < N) | none => true
theorem dstOk_spec {ops : Array Oper} (h : dstOk N ops = true) : ∀ o ∈ ops, ∀ t, o.dst = some t → t < N := by
  intro o ho t ht
  have := (List.all_eq_true.1 h) o (by simpa using ho)
  rw [ht] at this
  simpa using this

theorem W.region {id} {l : List Oper} {s h Q k} (hN : dstOk N l.toArray = true) (hrun : RunE P l.toArray (fun s h => Q .normal s h) l s h (held _)) : W P N n0 (.region id l.toArray false) Q s h k :=
  WP.region (dstOk_spec hN) (by rw [List.toList_toArray]; exact RunE_run _ _ _ _ hrun)
theorem W.seq {x y s h Q k} (hx : WK P N n0 x (thenQ (fun s h => WK P N n0 y Q s h) Q) s h) : W P N n0 (.seq x y) Q s h k := WP.seq hx
theorem W.exit {id s h Q k} (hq : Q (.exit id) s h) : W P N n0 (.exit id) Q s h k := WP.exit hq
theorem W.ret {s h Q k} (hq : Q .ret s h) : W P N n0 .ret Q s h k := WP.ret hq
theorem W.skip {s h Q k} (hq : Q .normal s h) : W P N n0 .skip Q s h k := WP.skip hq
theorem W.block {id c s h Q k} (hw : WK P N n0 c (blockQ id Q) s h) : W P N n0 (.block id c) Q s h k := WP.block hw
theorem W.cond {c x y s h Q k} (b : Bool) (hc : s.ev c = .bool b) (ht : b = true → WK P N n0 x Q s h) (hf : b = false → WK P N n0 y Q s h) : W P N n0 (.cond c x y) Q s h k :=
  WP.cond_split b hc ht hf
@[go_sem ↓] theorem thenQ_normal {K : Slots → Hp → Prop} {Q : Exit → Slots → Hp → Prop} {s h} : thenQ K Q .normal s h = K s h := rfl
@[go_sem ↓] theorem thenQ_exit {K : Slots → Hp → Prop} {Q : Exit → Slots → Hp → Prop} {i s h} : thenQ K Q (.exit i) s h = Q (.exit i) s h := rfl
@[go_sem ↓] theorem thenQ_ret {K : Slots → Hp → Prop} {Q : Exit → Slots → Hp → Prop} {s h} : thenQ K Q .ret s h = Q .ret s h := rfl
@[go_sem ↓] theorem blockQ_normal {Q : Exit → Slots → Hp → Prop} {i s h} : blockQ i Q .normal s h = Q .normal s h := rfl
theorem blockQ_exit {Q : Exit → Slots → Hp → Prop} {i j s h} : blockQ i Q (.exit j) s h = if j = i then Q .normal s h else Q (.exit j) s h := rfl
@[go_sem ↓] theorem blockQ_here {Q : Exit → Slots → Hp → Prop} {i s h} : blockQ i Q (.exit i) s h = Q .normal s h := by rw [blockQ_exit, if_pos rfl]
@[go_sem ↓] theorem blockQ_ret {Q : Exit → Slots → Hp → Prop} {i s h} : blockQ i Q .ret s h = Q .ret s h := rfl
theorem EndsF.ret {fn : Func} {r : AV} {s h} (hr : onS (resOf P s h fn.results.toList) fun l => FR h (one? l) r) : EndsF P fn r .ret s h := by
  obtain ⟨x, hx, hf⟩ := onS_inv hr
  exact ⟨.inr rfl, x, hx, hf⟩
theorem EndsF.normal {fn : Func} {r : AV} {s h} (hr : onS (resOf P s h fn.results.toList) fun l => FR h (one? l) r) : EndsF P fn r .normal s h := by
  obtain ⟨x, hx, hf⟩ := onS_inv hr
  exact ⟨.inl rfl, x, hx, hf⟩
theorem PureF.of {f : FuncId} {fn : Func} {c : Code} {args : List AV} {r : AV} {N : Nat} (hf : P.funcs[f]? = some fn) (hb : fn.body = some c) (hN : fn.ntmps = N) (hn : args.length ≤ N)
    (hw : WK P N 0 c (EndsF P fn r) (argS 0 args) []) : PureF P f args r := by
  subst hN; exact PureF.of_wp hf hb hn hw
def resC : Option AV → Option (List AV) → Option (List AV)
  | some x, some l => some (x :: l)
  | _, _ => none
/-! ### The rules of the reckoning -/
def dstAt (ops : Array Oper) (j : Nat) : Option Nat := (ops[j]?).bind (·.dst)
def grd (x : AV) (want : Bool) : Option Bool := match x with | .bool b => some (match want with | true => b | false => !b) | .tuple [] => some false | _ => none
def grdAt (o : Option Nat) (s : Slots) (want : Bool) : Option Bool := match o with | some t => grd (s.get t) want | none => none
section rules
variable {ops : Array Oper} {Q : Slots → Hp → Prop} {rest : List Oper} {s : Slots} {h : Hp} {d : Option Nat} {ty : TypeId} {pos : String} {af : Array Edge} {g : Option (Nat × Bool)} {ρ : Operand → AV} {K : AV → Hp → Prop}
variable {k : Hold (ops, Q, rest)} {kk : Hold K}
@[go_sem] theorem RunE_nil {k} : RunE P ops Q [] s h k = Q s h := rfl
@[go_sem] theorem RunE_plain {op : Op} {k} : RunE P ops Q ({ dst := d, op := op, type := ty, pos := pos, after := af, guard := none } :: rest) s h k =
    evK P { dst := d, op := op, type := ty, pos := pos, after := af, guard := none } s.ev h (fun r h' => RunE P ops Q rest (s.put d r) h' (held _)) (held _) := rfl
@[go_sem] theorem RunE_guard {op : Op} {j : Nat} {want : Bool} {k} : RunE P ops Q ({ dst := d, op := op, type := ty, pos := pos, after := af, guard := some (j, want) } :: rest) s h k =
    onG (grdAt (dstAt ops j) s want) (fun _ => evK P { dst := d, op := op, type := ty, pos := pos, after := af, guard := some (j, want) } s.ev h (fun r h' => RunE P ops Q rest (s.put d r) h' (held _)) (held _))
      (fun _ => RunE P ops Q rest (s.put d (.tuple [])) h (held _)) (held _) := by
  have e : guardA ops s { dst := d, op := op, type := ty, pos := pos, after := af, guard := some (j, want) } = grdAt (dstAt ops j) s want := by
    simp only [guardA, dstAt, grdAt]
    cases (ops[j]?).bind (·.dst) with
    | none => rfl
    | some t => simp only [grd]; cases s.get t <;> first | rfl | (rename_i b; cases b <;> cases want <;> rfl)
  rw [← e]; rfl
@[go_sem] theorem grd_true (b : Bool) : grd (.bool b) true = some b := rfl
@[go_sem] theorem grd_false (b : Bool) : grd (.bool b) false = some (!b) := rfl
@[go_sem] theorem grd_skip (w : Bool) : grd (.tuple []) w = some false := rfl
@[go_sem] theorem grdAt_some (t : Nat) (s : Slots) (want : Bool) : grdAt (some t) s want = grd (s.get t) want := rfl
@[go_sem] theorem dstAt_list (l : List Oper) (j : Nat) : dstAt l.toArray j = (l[j]?).bind (·.dst) := by simp [dstAt]

@[go_sem] theorem put_some {t : Nat} {r : AV} : s.put (some t) r = (t, r) :: s := rfl
@[go_sem] theorem put_none {r : AV} : s.put none r = s := rfl
@[go_sem] theorem get_nil {t : Nat} : Slots.get [] t = .undef := rfl
@[go_sem] theorem get_cons {i t : Nat} {v : AV} {r : Slots} : Slots.get ((i, v) :: r) t = if i = t then v else Slots.get r t := rfl
@[go_sem] theorem ev_tmp {t : Nat} : Slots.ev s (.tmp t) = s.get t := rfl
@[go_sem] theorem ev_const {v : Value} : Slots.ev s (.const v) = ofC v := rfl
@[go_sem] theorem ev_global {g : Nat} : Slots.ev s (.global g) = match Tab.tab g with | some cs => .iptr cs 0 | none => .undef := rfl
@[go_sem] theorem ev_func {f : FuncId} : Slots.ev s (.func f) = .func (.func f) [] [] := rfl
@[go_sem] theorem ofC_int {k n} : ofC (.int k n) = .int k n := rfl
@[go_sem] theorem ofC_bool {b} : ofC (.bool b) = .bool b := rfl
@[go_sem] theorem ofC_string {b} : ofC (.string b) = .str b := rfl
@[go_sem] theorem ofC_nilp : ofC (.pointer none) = .nilp := rfl
@[go_sem] theorem ofC_nili : ofC .nilIface = .nili := rfl
@[go_sem] theorem ofC_nilfn : ofC .nilFunc = .nilfn := rfl
@[go_sem] theorem ofC_nilmap : ofC (.map none) = .nilmap := rfl
@[go_sem] theorem ofC_nils : ofC (.slice none 0 0) = .nils := rfl

@[go_sem] theorem evK_move {x : Operand} {k} : evK P { dst := d, op := .move x, type := ty, pos := pos, after := af, guard := g } ρ h K k = K (ρ x) h := rfl
@[go_sem] theorem evK_assign {x : Operand} {k} : evK P { dst := d, op := .assign x, type := ty, pos := pos, after := af, guard := g } ρ h K k = K (ρ x) h := rfl
@[go_sem] theorem evK_pick {c x y : Operand} {k} : evK P { dst := d, op := .pick c x y, type := ty, pos := pos, after := af, guard := g } ρ h K k = onS (boolS (ρ c)) fun b => K (if b then ρ x else ρ y) h := rfl
@[go_sem] theorem evK_extract {x : Operand} {i : Nat} {k} : evK P { dst := d, op := .extract x i, type := ty, pos := pos, after := af, guard := g } ρ h K k = onS (tupS (ρ x)) fun vs => onS vs[i]? fun r => K r h := rfl
@[go_sem] theorem evK_load {x : Operand} {t : TypeId} {k} : evK P { dst := d, op := .load t x, type := ty, pos := pos, after := af, guard := g } ρ h K k = onS (aggOf P t) fun agg => onS (tsz P t) fun n => onS (ldA agg n (rowOf h (ρ x))) fun r => K r h := rfl
@[go_sem] theorem evK_store {p x : Operand} {t : TypeId} {k} : evK P { dst := d, op := .store t p x, type := ty, pos := pos, after := af, guard := g } ρ h K k = onS (tsz P t) fun n => n = (cellsOf (ρ x)).length ∧ (cellsOf (ρ x)).all oneB = true ∧ onS (stA h (ρ p) (cellsOf (ρ x))) fun h' => K .undef h' := rfl
@[go_sem] theorem evK_fieldAddr {x : Operand} {t : TypeId} {f : Nat} {k} : evK P { dst := d, op := .fieldAddr t x f, type := ty, pos := pos, after := af, guard := g } ρ h K k = onS (fld P t f) fun q => q.2 ≠ 0 ∧ onS (addO (ρ x) q.1) fun r => K r h := rfl
@[go_sem] theorem evK_alloc {t : TypeId} {k} : evK P { dst := d, op := .alloc t, type := ty, pos := pos, after := af, guard := g } ρ h K k = onS (tzero P t) fun z => K (.ptr h.length 0 0) (h ++ [.cells z 0 t]) := rfl
@[go_sem] theorem evK_box {x : Operand} {t : TypeId} {k} : evK P { dst := d, op := .box t x, type := ty, pos := pos, after := af, guard := g } ρ h K k = ((cellsOf (ρ x)).all oneB = true ∧ K (.ptr h.length 0 0) (h ++ [.cells (cellsOf (ρ x)) 0 t])) := rfl
@[go_sem] theorem evK_binOp {x y : Operand} {op : BinOp} {t t' : TypeId} {k} : evK P { dst := d, op := .binOp op t x y t', type := ty, pos := pos, after := af, guard := g } ρ h K k = onS (evBin P op t (isCst x || isCst y) (ρ x) (ρ y)) fun r => K r h := rfl
@[go_sem] theorem evK_unOp {x : Operand} {op : UnOp} {t : TypeId} {k} : evK P { dst := d, op := .unOp op t x, type := ty, pos := pos, after := af, guard := g } ρ h K k = onS (evUn op (ρ x)) fun r => K r h := rfl
@[go_sem] theorem evK_convert {x : Operand} {t t' : TypeId} {k} : evK P { dst := d, op := .convert t t' x, type := ty, pos := pos, after := af, guard := g } ρ h K k = onC' (strC P t t' (ρ x)) (fun q => K (.msl h.length 1 0 1 (intsB q.2).length (intsB q.2).length) (h ++ [.rows (bC q.2) 1 1 q.1])) (onS (evConv P h t t' (ρ x)) fun r => K r h) (held _) := rfl
@[go_sem] theorem evK_build {parts : Array (Nat × Operand)} {t : TypeId} {k} : evK P { dst := d, op := .build t parts, type := ty, pos := pos, after := af, guard := g } ρ h K k = onS (tzero P t) fun z => onS (plc P t) fun l => onS (fillA (fun i : Nat => l[i]?) z (parts.toList.map fun q => (q.1, ρ q.2))) fun cs => K (.agg cs) h := rfl
@[go_sem] theorem evK_makeInterface {x : Operand} {t : TypeId} {k} : evK P { dst := d, op := .makeInterface t x, type := ty, pos := pos, after := af, guard := g } ρ h K k = (ifaceB P t = some false ∧ K (.iface t (ρ x)) h) := rfl
@[go_sem] theorem evK_buildSlice {t : TypeId} {n : Nat} {parts : Array (Nat × Operand)} {k} : evK P { dst := d, op := .buildSlice t n parts, type := ty, pos := pos, after := af, guard := g } ρ h K k = exP (fun _ : Bool => True) (fun own => onS (elemOf' P t) fun e => onS (tsz P e) fun k => onS (tzero P e) fun _ => (parts.toList.map (·.1) = List.range n ∧ k ≠ 0 ∧ n * k ≤ 16777216) ∧ bif own then (rows1 k (parts.toList.map fun q => cellsOf (ρ q.2)) = true ∧ K (.msl h.length 1 0 k n n) (h ++ [.rows (parts.toList.map fun q => cellsOf (ρ q.2)) k 1 e]))
      else ((parts.toList.map fun q => ρ q.2).all (rowOk k) = true ∧ K (if n = 0 then .emp else .sl (parts.toList.map fun q => (cellsOf (ρ q.2)).map nz)) h)) (held _) := rfl
attribute [go_sem] nz
@[go_sem] theorem evK_field {x : Operand} {t : TypeId} {f : Nat} {k} : evK P { dst := d, op := .field t x f, type := ty, pos := pos, after := af, guard := g } ρ h K k = onS (fldT P t f) fun q => onS (aggOf P q.2) fun ag => onS (tsz P q.2) fun n => onS (fdA ag n q.1 (ρ x)) fun r => K r h := rfl
@[go_sem] theorem evK_slice {x : Operand} {t : TypeId} {lo hi : Option Operand} {k} : evK P { dst := d, op := .slice t x lo hi none, type := ty, pos := pos, after := af, guard := g } ρ h K k = onS (slH P h t (lo.map ρ) (hi.map ρ) (ρ x)) fun r => K r h := rfl
@[go_sem] theorem evK_makeSlice {n c : Operand} {t : TypeId} {k} : evK P { dst := d, op := .makeSlice t n c, type := ty, pos := pos, after := af, guard := g } ρ h K k = onS (mkA P t (ρ n) (ρ c)) fun q => K (.msl h.length 1 0 q.2.1 q.1 q.1) (h ++ [.rows (List.replicate q.1 q.2.2.1) q.2.1 1 q.2.2.2]) := rfl
@[go_sem] theorem evK_range {x : Operand} {t : TypeId} {k} : evK P { dst := d, op := .range t x, type := ty, pos := pos, after := af, guard := g } ρ h K k = onS (strS (ρ x)) fun s => isStr P t = true ∧ K (.ptr h.length 0 0) (h ++ [.siter s 0]) := rfl
@[go_sem] theorem evK_next {x : Operand} {k} : evK P { dst := d, op := .next x true, type := ty, pos := pos, after := af, guard := g } ρ h K k = onS (nextA h (ρ x)) fun r => K r.1 r.2 := rfl
@[go_sem] theorem evK_nilCheck {x : Operand} {k} : evK P { dst := d, op := .nilCheck x, type := ty, pos := pos, after := af, guard := g } ρ h K k = ((match ρ x with | .ptr .. | .eptr .. | .iptr .. => true | _ => false) = true ∧ K (ρ x) h) := rfl
@[go_sem] theorem evK_typeAssert {x : Operand} {t t' : TypeId} {ok : Bool} {k} : evK P { dst := d, op := .typeAssert x t' t ok, type := ty, pos := pos, after := af, guard := g } ρ h K k = (ifaceB P t = some false ∧ onS (tasA P t ok (ρ x)) fun r => K r h) := rfl
@[go_sem] theorem evK_index {x i : Operand} {t : TypeId} {k} : evK P { dst := d, op := .index t x i, type := ty, pos := pos, after := af, guard := g } ρ h K k = (isStr P t = true ∧ onS (ixStr (ρ x) (ρ i)) fun r => K r h) := rfl
@[go_sem] theorem evK_invoke {x : Operand} {name : String} {as : Array Operand} {ts : Array TypeId} {k} : evK P { dst := d, op := .call { callee := .invoke x name, args := as, argTypes := ts }, type := ty, pos := pos, after := af, guard := g } ρ h K k =
    onS (methO P (ρ x) name) fun q => (fnOk P q.1 = true ∧ pureBs (q.2 :: as.toList.map ρ) = true ∧ exP (PureF P q.1 (q.2 :: as.toList.map ρ)) (fun r => K r h) (held _)) := rfl
@[go_sem] theorem or_ff : (false || false) = false := rfl
@[go_sem] theorem or_ft : (false || true) = true := rfl
@[go_sem] theorem or_tf : (true || false) = true := rfl
@[go_sem] theorem or_tt : (true || true) = true := rfl
@[go_sem] theorem isCst_tmp {t : Nat} : isCst (.tmp t) = false := rfl
@[go_sem] theorem isCst_const {v : Value} : isCst (.const v) = true := rfl
@[go_sem] theorem isCst_func {f : FuncId} : isCst (.func f) = false := rfl
@[go_sem] theorem evK_indexAddr {x i : Operand} {t : TypeId} {k} : evK P { dst := d, op := .indexAddr t x i, type := ty, pos := pos, after := af, guard := g } ρ h K k = onS (ixOf P t) fun q => onS (tsz P q.2) fun n => onS (elA q.1 n (ρ x) (ρ i)) fun r => staleB h (ρ x) = true ∧ K r h := rfl
@[go_sem] theorem evK_call {f : FuncId} {as : Array Operand} {ts : Array TypeId} {k} : evK P { dst := d, op := .call { callee := .value (.func f), args := as, argTypes := ts }, type := ty, pos := pos, after := af, guard := g } ρ h K k =
    (fnOk P f = true ∧ exP (callQ P f h (as.toList.map ρ)) (fun q => K (q.res h) (q.hp h)) (held _)) := rfl
@[go_sem] theorem hw_res_pure {q : How} : Hw.res h (.pure q) = q.r := rfl
@[go_sem] theorem hw_hp_pure {q : How} : Hw.hp h (.pure q) = q.hp h := rfl
@[go_sem] theorem hw_res_heap {q : HowH} : Hw.res h (.heap q) = ren (nm q.ns h.length) q.r := rfl
@[go_sem] theorem hw_hp_heap {q : HowH} : Hw.hp h (.heap q) = lay (kill q.F h) q.ns (q.hc'.map (renO (nm q.ns h.length))) := rfl
@[go_sem] theorem hp_plain {args : List AV} {r : AV} : How.hp ⟨[], false, args, r⟩ h = h := rfl
@[go_sem] theorem hp_lend {F : List Nat} {args : List AV} {r : AV} : How.hp ⟨F, true, args, r⟩ h = h := rfl
@[go_sem] theorem hp_keep {F : List Nat} {args : List AV} {r : AV} : How.hp ⟨F, false, args, r⟩ h = kill F h := rfl
@[go_sem] theorem kill_nil : kill [] h = h := rfl
@[go_sem] theorem kill_cons {b : Nat} {F : List Nat} : kill (b :: F) h = kill F (h.set b .dead) := rfl
@[go_sem] theorem evK_builtin {b : Builtin} {as : Array Operand} {ts : Array TypeId} {k} : evK P { dst := d, op := .call { callee := .builtin b, args := as, argTypes := ts }, type := ty, pos := pos, after := af, guard := g } ρ h K k =
    evBK P b ts ty (as.toList.map ρ) h K (fun _ => ∃ r h', Step P { dst := d, op := .call { callee := .builtin b, args := as, argTypes := ts }, type := ty, pos := pos, after := af, guard := g } ρ h r h' ∧ K r h') (held _) := rfl
@[go_sem] theorem evB_min {ts : Array TypeId} {rt : TypeId} {i j : IntKind} {a b : Int} {els : Unit → Prop} {k} : evBK P .min ts rt [.int i a, .int j b] h K els k = (i = j ∧ K (.int i (if b < a then b else a)) h) := rfl
@[go_sem] theorem evB_len {t rt : TypeId} {x : AV} {els : Unit → Prop} {k} : evBK P .len #[t] rt [x] h K els k = onS (lenA x) fun n => ((match x with | .str _ => isStr P t | _ => (elemOf' P t).isSome) = true ∧ staleB h x = true) ∧ K (.int .i64 n) h := rfl
@[go_sem] theorem evB_append {t t' rt : TypeId} {s x : AV} {els : Unit → Prop} {k} : evBK P .append #[t, t'] rt [s, x] h K els k = exP (fun _ : Bool => True) (fun own => (t = t' ∧ bif own then (onS (apA P t h s x) fun r => K r.1 r.2) else onS (apI P t h s x) fun r => K r h) ∨ onS (apS P t t' h s x) fun r => K r.1 r.2) (held _) := rfl
@[go_sem] theorem evB_sliceData {t rt : TypeId} {x : AV} {els : Unit → Prop} {k} : evBK P .unsafeSliceData #[t] rt [x] h K els k = onS (sdA P rt h x) fun r => K r h := rfl
@[go_sem] theorem evB_unsafeString {t t' rt : TypeId} {x n : AV} {els : Unit → Prop} {k} : evBK P .unsafeString #[t, t'] rt [x, n] h K els k = exP (usOk P t h x n) (fun q => K (.str q.1) (h.set q.2.2.1 .dead)) (held _) := rfl
@[go_sem] theorem evK_makeMap {t : TypeId} {k} : evK P { dst := d, op := .makeMap t none, type := ty, pos := pos, after := af, guard := g } ρ h K k = K (.map h.length) (h ++ [.map []]) := rfl
@[go_sem] theorem evK_lookup {m x : Operand} {t : TypeId} {ok : Bool} {k} : evK P { dst := d, op := .lookup t m x ok, type := ty, pos := pos, after := af, guard := g } ρ h K k = onS (lkA P t h (ρ m) (ρ x) ok) fun r => K r h := rfl
@[go_sem] theorem evK_mapUpdate {m x y : Operand} {t : TypeId} {k} : evK P { dst := d, op := .mapUpdate t m x y, type := ty, pos := pos, after := af, guard := g } ρ h K k = onS (muA P t h (ρ m) (ρ x) (ρ y)) fun h' => K .undef h' := rfl
@[go_sem] theorem evK_insert {m x y : Operand} {t : TypeId} {k} : evK P { dst := d, op := .insert t m x y, type := ty, pos := pos, after := af, guard := g } ρ h K k = onS (muA P t h (ρ m) (ρ x) (ρ y)) fun h' => K .undef h' := rfl
end rules

attribute [go_sem] argS resOf one? List.getElem?_cons_zero List.getElem?_cons_succ List.getElem?_nil List.set_cons_zero List.set_cons_succ List.all_cons List.all_nil Bool.and_true Bool.and_self Bool.true_and true_and and_true and_self List.drop_succ_cons List.drop_zero List.take_succ_cons List.take_zero List.nil_append List.cons_append Option.bind_some Option.map_some ne_eq not_false_eq_true List.toList_toArray List.map_cons List.map_nil List.length_cons List.length_nil boolS tupS evBin evEqAg eqA kindA evUn evConv strC evInt ldA rowOf stA addO elA elS elR idx? idxR? lenA cellsOf oneB spl fillA staleB fld pureB pureBs rowOk fdA tasA ixStr nilEq methO evStr List.range_zero List.append_eq cond_true cond_false

end Go.Vs
end

section
/-! Forgetting, and loops. -/
set_option linter.unusedVariables false
set_option linter.unusedSectionVars false
set_option linter.unusedSimpArgs false
namespace Go.Vs
variable [Tab]
variable {P : Program} {N n0 : Nat}

def cut (n : Nat) (ι : Io) : Io := ⟨fun b => if b < n then ι b else none, fun b c => b < n ∧ ι.sub b c⟩
theorem cut_at {n : Nat} {ι : Io} {b c : Nat} (h : At (cut n ι) b c) : b < n ∧ At ι b c := by
  rcases h with ⟨u, s, h⟩ | h
  · simp only [cut] at h
    split at h
    · exact ⟨by assumption, .inl ⟨u, s, h⟩⟩
    · cases h
  · exact ⟨h.1, .inr h.2⟩
theorem cut_free {n : Nat} {ι : Io} {b : Nat} (h : n ≤ b) : (cut n ι).free b := ⟨by simp [cut]; omega, fun c hc => by simp [cut] at hc; omega⟩
theorem cut_sub {n : Nat} {ι : Io} {b : Nat} (h : b < n) : (cut n ι).sub b = ι.sub b := by funext c; simp [cut, h]
theorem VR.cutB {I w ι x v} {n : Nat} (h : VR I w ι x v) (hx : belowB n x = true) : VR I w (cut n ι) x v := by
  induction h with
  | undef => exact .undef
  | bool b => exact .bool b
  | int k n => exact .int k n
  | str s => exact .str s
  | nilp => exact .nilp
  | nilmap => exact .nilmap
  | nilfn => exact .nilfn
  | nili => exact .nili
  | nils => exact .nils
  | emp => exact .emp
  | ptr c cur sz h hv hc => simp only [belowB, decide_eq_true_eq] at hx; exact .ptr c cur sz (by simp [cut, hx, h]) hv hc
  | eptr c cur sz h hv hc => simp only [belowB, decide_eq_true_eq] at hx; exact .eptr c cur sz (by simp [cut, hx, h]) hv hc
  | mslnil => exact .mslnil
  | iptr c base hI hs hv => exact .iptr c base hI hs hv
  | sl0 => exact .sl0
  | sl esz c off cap hI hn hcap hl hs hv => exact .sl esz c off cap hI hn hcap hl hs hv
  | msl c cur sz h hv hc => simp only [belowB, decide_eq_true_eq] at hx; exact .msl c cur sz (by simp [cut, hx, h]) hv hc
  | map c h => simp only [belowB, decide_eq_true_eq] at hx; exact .map c (by simp [cut, hx, h])
  | optp0 => exact .optp0
  | optp c cur sz h hc => simp only [belowB, decide_eq_true_eq] at hx; exact .optp c cur sz (by simp [cut, hx, h]) hc
  | bptr c cur sz h hv hc => simp only [belowB, decide_eq_true_eq] at hx; exact .bptr c cur sz (by simp [cut, hx, h]) hv hc
  | bptr0 => exact .bptr0
  | func h1 h2 _ _ ih3 ih4 =>
    simp only [belowB, Bool.and_eq_true] at hx
    exact .func h1 h2 (fun j x y a b => ih3 j x y a b (belowBs_get hx.1 j x a)) (fun j x y a b => ih4 j x y a b (belowBs_get hx.2 j x a))
  | iface _ ih => exact .iface (ih (by simpa [belowB] using hx))
  | agg hl _ ih => exact .agg hl (fun j x y a b => ih j x y a b (belowBs_get (by simpa [belowB] using hx) j x a))
  | tuple hl _ ih => exact .tuple hl (fun j x y a b => ih j x y a b (belowBs_get (by simpa [belowB] using hx) j x a))

def belowS (n : Nat) (s : Slots) : Bool := s.all fun p => belowB n p.2
theorem belowS_get {n : Nat} {s : Slots} (h : belowS n s = true) (t : Nat) : belowB n (s.get t) = true := by
  induction s with
  | nil => simp [Slots.get, belowB]
  | cons p s ih =>
    simp only [belowS, List.all_cons, Bool.and_eq_true] at h
    obtain ⟨i, v⟩ := p
    simp only [Slots.get]
    split
    · exact h.1
    · exact ih h.2


/-! ### A view that says less, of all that there is -/
def wkRows (h : Hp) (F : List Nat) : List (List AV) → List (List AV) → Prop
  | [], [] => True
  | x :: xs, y :: ys => wkL h F x y ∧ wkRows h F xs ys
  | _, _ => False
theorem wkRows_get {h F} : ∀ {xs ys : List (List AV)}, wkRows h F xs ys → xs.length = ys.length ∧ ∀ (j : Nat) y, ys[j]? = some y → ∃ x, xs[j]? = some x ∧ wkL h F x y
  | [], [], _ => ⟨rfl, by simp⟩
  | x :: xs, y :: ys, hw => by
    obtain ⟨h1, h2⟩ := wkRows_get hw.2
    refine ⟨by simp [h1], fun j z hz => ?_⟩
    cases j with
    | zero => simp at hz; subst hz; exact ⟨x, rfl, hw.1⟩
    | succ j => exact h2 j z (by simpa using hz)
  | [], _ :: _, hw => hw.elim
  | _ :: _, [], hw => hw.elim
def wkO (h : Hp) (F : List Nat) (b : Nat) : LO → LO → Prop
  | o, .dead => True
  | .cells cs v t, .cells cs' v' t' => F.contains b = false ∧ v' = v ∧ t' = t ∧ wkL h F cs cs'
  | .rows rs k v t, .rows rs' k' v' t' => F.contains b = false ∧ k' = k ∧ v' = v ∧ t' = t ∧ wkRows h F rs rs'
  | .siter s p, .siter s' p' => F.contains b = false ∧ s' = s ∧ p' = p
  | .map es, .map es' => F.contains b = false ∧ es' = es
  | .hole, .hole => True
  | _, _ => False
def emptyO : LO → Bool
  | .dead => true
  | .rows [] _ 0 _ => true
  | _ => false
def wkH (h : Hp) (F : List Nat) : Nat → Hp → Hp → Prop
  | _, _, [] => True
  | b, o :: os, o' :: os' => wkO h F b o o' ∧ wkH h F (b + 1) os os'
  | b, [], o' :: os' => emptyO o' = true ∧ wkH h F (b + 1) [] os'
theorem wkH_get {h F} : ∀ {os os' : Hp} {b : Nat}, wkH h F b os os' → ∀ (j : Nat) o', os'[j]? = some o' → (∃ o, os[j]? = some o ∧ wkO h F (b + j) o o') ∨ (os.length ≤ j ∧ emptyO o' = true)
  | os, [], b, _ => by simp
  | o :: os, o' :: os', b, hw => by
    have h2 := wkH_get hw.2
    intro j z hz
    cases j with
    | zero => simp at hz; subst hz; exact .inl ⟨o, rfl, hw.1⟩
    | succ j =>
      rcases h2 j z (by simpa using hz) with ⟨x, hx, hx2⟩ | ⟨h3, h4⟩
      · exact .inl ⟨x, by simpa using hx, by rw [show b + (j + 1) = b + 1 + j by omega]; exact hx2⟩
      · exact .inr ⟨by simp only [List.length_cons]; omega, h4⟩
  | [], o' :: os', b, hw => by
    have h2 := wkH_get hw.2
    intro j z hz
    cases j with
    | zero => simp at hz; subst hz; exact .inr ⟨by simp, hw.1⟩
    | succ j =>
      rcases h2 j z (by simpa using hz) with ⟨x, hx, hx2⟩ | ⟨h3, h4⟩
      · simp at hx
      · exact .inr ⟨by simp, h4⟩
theorem emptyO_live {o : LO} (h : emptyO o = true) : o.born = false := by
  unfold emptyO at h; split at h <;> first | rfl | cases h
def wkSl (h : Hp) (F : List Nat) (s : Slots) : Slots → Prop
  | [] => True
  | (t, v) :: s1 => wk h F (s.get t) v ∧ wkSl h F s s1
theorem wkSl_get {h F s} : ∀ {s1 : Slots}, wkSl h F s s1 → ∀ t, wk h F (s.get t) (s1.get t)
  | [], _, t => .inl (.inr (.inl rfl))
  | (i, v) :: s1, hw, t => by
    simp only [Slots.get]
    split
    · rename_i e; subst e; exact hw.1
    · exact wkSl_get hw.2 t

structure Weak (n0 : Nat) (F : List Nat) (s : Slots) (h : Hp) (s1 : Slots) (h1 : Hp) : Prop where
  fr : F.all (fun b => decide (b < h.length)) = true
  sub : wkSl h F s s1
  len : n0 ≤ h1.length
  blk : wkH h F 0 h h1
  sl : belowS h1.length s1 = true
  hp : belowH h1.length h1 = true

theorem DC.wkS {I ι h w F x y v} {S : Nat → Prop} (hr : Rel I ι h w) (hF : ∀ b, F.contains b = true → b < h.length) (hv : DC I w ι S x v) (hw : wkS h F x y) : DC (IF I ι F) w ι S y v := by
  rcases hv with hv | hv
  · exact .inl (VR.wkS hr hF hv hw)
  · by_cases hp : plainB x = true
    · exact .inl (VR.wkS hr hF ((hv.plain_inv hp).pure ι) hw)
    · rcases hw with rfl | rfl | ⟨rfl, _⟩ | (⟨rfl, _⟩ | ⟨rfl, _⟩) | ⟨rows, hf, _⟩ | ⟨cs, off, hf, _⟩
      · exact .inr (hv.mono (fun _ h => .inl h) (fun _ _ => rfl) _ (fun _ h => h) (fun _ _ => rfl))
      · exact .inl .undef
      · exact absurd rfl hp
      · exact absurd rfl hp
      · exact absurd rfl hp
      · cases x <;> first | exact absurd rfl hp | (rcases hf with hf | hf <;> cases hf)
      · cases x <;> first | exact absurd rfl hp | cases hf
theorem DC.cutB {I w ι S x v} {n : Nat} (h : DC I w ι S x v) (hx : belowB n x = true) : DC I w (cut n ι) S x v := h.elim (fun h => .inl (h.cutB hx)) .inr
theorem wkO_live {h F b} {o o' : LO} (hw : wkO h F b o o') (hl : o'.live = true) : o.live = true ∧ F.contains b = false := by
  cases o' with
  | dead => cases hl
  | cells cs v t => cases o <;> first | exact hw.elim | exact ⟨rfl, hw.1⟩
  | rows rs k v t => cases o <;> first | exact hw.elim | exact ⟨rfl, hw.1⟩
  | siter s p => cases o <;> first | exact hw.elim | exact ⟨rfl, hw.1⟩
  | map es => cases o <;> first | exact hw.elim | exact ⟨rfl, hw.1⟩
  | hole => cases hl
theorem Weak.rel {F s h s1 h1 I ι w} (hf : Weak n0 F s h s1 h1) (hfr : ∀ b, h.length ≤ b → ι.free b) (hfrz : ∀ b, F.contains b = true → ∃ o, h[b]? = some o ∧ o.live = true) (hr : Rel I ι h w) : Rel (IF I ι F) (cut h1.length ι) h1 w := by
  have hF : ∀ b, F.contains b = true → b < h.length := fun b hb => by
    have := (List.all_eq_true.1 hf.fr) b (by simpa using hb); simpa using this
  have hget := wkH_get hf.blk
  simp only [Nat.zero_add] at hget
  have got : ∀ (b : Nat) (o' : LO) c, h1[b]? = some o' → o'.live = true → At (cut h1.length ι) b c → ∃ o, h[b]? = some o ∧ o.live = true ∧ F.contains b = false ∧ At ι b c := by
    intro b o' c h2 h3 h4
    have hι := (cut_at h4).2
    rcases hget b o' h2 with ⟨o, ho, hw⟩ | ⟨h5, _⟩
    · have := wkO_live hw h3
      exact ⟨o, ho, this.1, this.2, hι⟩
    · exact absurd hι (hfr b h5).not
  refine ⟨?_, ?_, hr.tab.mono (fun _ h => .inl h) (fun _ _ => rfl), ?_, ?_, ?_, ?_, ?_, ?_⟩
  · intro b x o' hx ho'
    have hb : b < h1.length := (List.getElem?_eq_some_iff.1 ho').1
    have hx' : ι b = some x := by simpa [cut, hb] using hx
    rw [cut_sub hb]
    rcases hget b o' ho' with ⟨o, ho, hw⟩ | ⟨h5, _⟩
    rotate_left
    · rw [(hfr b h5).1] at hx'; cases hx'
    have hreal := hr.real b x o hx' ho
    have hob : belowO h1.length o' = true := (List.all_eq_true.1 hf.hp) o' (List.mem_of_getElem? ho')
    obtain ⟨c, cur, sz⟩ := x
    cases o' with
    | dead => trivial
    | hole => trivial
    | cells cs' v' t' =>
      cases o with
      | cells cs v t =>
        obtain ⟨_, rfl, rfl, hcs⟩ := hw
        obtain ⟨e, arr, f, q1, q2, q3, hp, q4⟩ := hreal
        obtain ⟨g1, g2⟩ := wkL_get hcs
        refine ⟨e, arr, f, q1, q2, by omega, hp, fun j x y hj hy => ?_⟩
        obtain ⟨x0, hx0, hw0⟩ := g2 j x hj
        exact (DC.wkS hr hF (q4 j x0 y hx0 hy) hw0).cutB (belowBs_get hob j x hj)
      | _ => exact hw.elim
    | rows rs' k' v' t' =>
      cases o with
      | rows rs k v t =>
        obtain ⟨_, rfl, rfl, rfl, hcs⟩ := hw
        obtain ⟨e, e0, arr, f, q1, q2, q3, q5, hp, q4⟩ := hreal
        have hbr : ∀ (i : Nat) r, rs'[i]? = some r → belowBs h1.length r = true := fun i r hi => (List.all_eq_true.1 hob) r (List.mem_of_getElem? hi)
        obtain ⟨g1, g2⟩ := wkRows_get hcs
        refine ⟨e, e0, arr, f, q1, q2, by rw [← g1]; exact q3, fun i r hi => ?_, hp, fun i r j x y hi hj hy => ?_⟩
        · obtain ⟨r0, hr0, hw0⟩ := g2 i r hi
          rw [← (wkL_get hw0).1]; exact q5 i r0 hr0
        · obtain ⟨r0, hr0, hw0⟩ := g2 i r hi
          obtain ⟨x0, hx0, hw1⟩ := (wkL_get hw0).2 j x hj
          exact (DC.wkS hr hF (q4 i r0 j x0 y hr0 hx0 hy) hw1).cutB (belowBs_get (hbr i r hi) j x hj)
      | _ => exact hw.elim
    | siter s p =>
      cases o with
      | siter s0 p0 => obtain ⟨_, rfl, rfl⟩ := hw; exact hreal
      | _ => exact hw.elim
    | map es =>
      cases o with
      | map es0 =>
        obtain ⟨_, rfl⟩ := hw
        obtain ⟨e1, e2, ents, clock, f, q1, q2, q3, q4, hp, q5⟩ := hreal
        refine ⟨e1, e2, ents, clock, f, q1, q2, q3, q4, hp, fun j x e hj he => ?_⟩
        have := (List.all_eq_true.1 hob) x (List.mem_of_getElem? hj)
        simp only [Bool.and_eq_true] at this
        exact ⟨(VR.wkS hr hF (q5 j x e hj he).1 (.inl rfl)).cutB this.1, (DC.wkS hr hF (q5 j x e hj he).2 (.inl rfl)).cutB this.2⟩
      | _ => exact hw.elim
  · intro b o' ho' hl
    have hb : b < h1.length := (List.getElem?_eq_some_iff.1 ho').1
    simp only [cut, hb, if_true]
    rcases hget b o' ho' with ⟨o, ho, hw⟩ | ⟨h5, h6⟩
    rotate_left
    · rw [emptyO_live h6] at hl; cases hl
    refine hr.dom b o ho ?_
    cases o' with
    | dead => cases hl
    | hole => cases hl
    | cells cs v t => cases o <;> first | exact hw.elim | rfl
    | rows rs' k v t =>
      cases o with
      | rows rs k0 v0 t0 =>
        obtain ⟨_, _, _, _, hcs⟩ := hw
        cases rs with
        | nil => cases rs' with
          | nil => simp [LO.born] at hl
          | cons r rs' => exact hcs.elim
        | cons r rs => rfl
      | _ => exact hw.elim
    | siter s p => cases o <;> first | exact hw.elim | rfl
    | map es => cases o <;> first | exact hw.elim | rfl
  · intro b b' o o' c g1 l1 g2 l2 a1 a2
    obtain ⟨o1, k1, m1, _, q1⟩ := got b o c g1 l1 a1
    obtain ⟨o2, k2, m2, _, q2⟩ := got b' o' c g2 l2 a2
    exact hr.inj b b' o1 o2 c k1 m1 k2 m2 q1 q2
  · intro b c u sz hx hs
    simp only [cut] at hx hs
    rw [if_pos hs.1] at hx
    exact hr.own1 b c u sz hx hs.2
  · rintro c ⟨b, o, g1, l1, a1⟩ hI
    obtain ⟨o1, k1, m1, hbF, q1⟩ := got b o c g1 l1 a1
    rcases hI with hI | ⟨b', hb'F, hb'⟩
    · exact hr.sep c ⟨b, o1, k1, m1, q1⟩ hI
    · obtain ⟨o2, k2, m2⟩ := hfrz b' hb'F
      have := hr.inj b b' o1 o2 c k1 m1 k2 m2 q1 hb'
      subst this; rw [hbF] at hb'F; cases hb'F
  · intro b c hx; exact hr.lt b c (cut_at hx).2
  · intro c hc
    rcases hc with hc | ⟨b, _, hb⟩
    · exact hr.ilt c hc
    · exact hr.lt b _ hb
  · intro b hb
    rcases hget b _ hb with ⟨o, ho, hw⟩ | ⟨h5, _⟩
    · have : o = .hole := by cases o <;> first | rfl | exact hw.elim
      subst this
      have := hr.hole b ho
      exact ⟨by simp only [cut]; split <;> first | exact this.1 | rfl, fun c hc => this.2 c hc.2⟩
    · have := hfr b h5
      exact ⟨by simp only [cut]; split <;> first | exact this.1 | rfl, fun c hc => this.2 c hc.2⟩
theorem Weak.ar {F s h s1 h1 I ι w a} (hf : Weak n0 F s h s1 h1) (hr : Rel I ι h w) (ar : AR I w ι N s a) : AR (IF I ι F) w (cut h1.length ι) N s1 a := by
  have hF : ∀ b, F.contains b = true → b < h.length := fun b hb => by
    have := (List.all_eq_true.1 hf.fr) b (by simpa using hb); simpa using this
  exact ⟨ar.size, fun t => (VR.wk hr hF (ar.get t) (wkSl_get hf.sub t)).cutB (belowS_get hf.sl t), ar.defers⟩
theorem Weak.out {F s h s1 h1 I ι w I' ι' h' w'} (hf : Weak n0 F s h s1 h1) (hfr : ∀ b, h.length ≤ b → ι.free b) (hfrz : ∀ b, F.contains b = true → ∃ o, h[b]? = some o ∧ o.live = true) (hr : Rel I ι h w) (out : Out n0 (IF I ι F) (cut h1.length ι) h1 w I' ι' h' w') : Out n0 I ι h w I' ι' h' w' := by
  have hget := wkH_get hf.blk
  simp only [Nat.zero_add] at hget
  have own1 : ∀ c, Own (cut h1.length ι) h1 c → Own ι h c := by
    rintro c ⟨b, o', h2, h3, h4⟩
    have hι := (cut_at h4).2
    rcases hget b o' h2 with ⟨o, ho, hw⟩ | ⟨h5, _⟩
    · exact ⟨b, o, ho, (wkO_live hw h3).1, hι⟩
    · exact absurd hι (hfr b h5).not
  refine ⟨out.rel, out.fresh, ⟨out.keep.os, out.keep.tape, out.keep.output, out.keep.size, fun c hc hn => out.keep.block c hc fun ho => hn (own1 c ho)⟩, fun c hc => out.imm c (.inl hc), ?_, ?_, ?_, out.len⟩
  · intro c hc
    rcases out.new c hc with h | h | h
    · rcases h with h | ⟨b, hbF, hb⟩
      · exact .inl h
      · obtain ⟨o, ho, hl⟩ := hfrz b hbF
        exact .inr (.inr ⟨b, o, ho, hl, hb⟩)
    · exact .inr (.inl h)
    · exact .inr (.inr (own1 c h))
  · intro c hc
    exact (out.own c hc).imp (own1 c) id
  · intro b hb
    have hlt : b < h1.length := Nat.lt_of_lt_of_le hb hf.len
    have := out.moved b hb
    have e : cut h1.length ι b = ι b := by simp [cut, hlt]
    exact ⟨fun c u s hc => this.1 c u s (e.trans hc), fun c hc => this.2 c (e.trans hc)⟩

def AT0 (n0 : Nat) (F : List Nat) (s1 : Slots) (h1 : Hp) (s : Slots) (h : Hp) : Prop := Weak n0 F s h s1 h1 ∧ F.all (fun b => match h[b]? with | some o => o.live | none => false) = true
theorem AT0.frz {F s1 h1 s h} (ha : AT0 n0 F s1 h1 s h) : ∀ b, F.contains b = true → ∃ o, h[b]? = some o ∧ o.live = true := by
  intro b hb
  have := (List.all_eq_true.1 ha.2) b (by simpa using hb)
  split at this
  · rename_i o ho; exact ⟨o, ho, this⟩
  · cases this
structure Gs where
  F : List Nat
  g : List Gh
instance : Coe (List Nat) Gs := ⟨fun F => ⟨F, []⟩⟩
def AT (n0 : Nat) (G : Gs) (s1 : Slots) (h1 : Hp) (s : Slots) (h : Hp) : Prop := ∃ h2, ghs h G.g = some h2 ∧ AT0 n0 G.F s1 h1 s h2
def atP (n0 : Nat) (F : List Nat) (s1 : Slots) (h1 : Hp) (s : Slots) (h : Hp) : Prop :=
  F.all (fun b => match h[b]? with | some o => o.live | none => false) = true ∧ F.all (fun b => decide (b < h.length)) = true ∧ n0 ≤ h1.length ∧ belowS h1.length s1 = true ∧ belowH h1.length h1 = true ∧ wkH h F 0 h h1 ∧ wkSl h F s s1
theorem AT0.of {F s1 h1 s h} (ha : atP n0 F s1 h1 s h) : AT0 n0 F s1 h1 s h := ⟨⟨ha.2.1, ha.2.2.2.2.2.2, ha.2.2.1, ha.2.2.2.2.2.1, ha.2.2.2.1, ha.2.2.2.2.1⟩, ha.1⟩

theorem AT.sound {G s1 h1 s h} (hf : AT n0 G s1 h1 s h) {I ι w} (hr : Rel I ι h w) (hfr : ∀ b, h.length ≤ b → ι.free b) (hn : n0 ≤ h.length) :
    ∃ I1 ι1, Rel I1 ι1 h1 w ∧ (∀ b, h1.length ≤ b → ι1.free b) ∧ n0 ≤ h1.length ∧ (∀ N a, AR I w ι N s a → AR I1 w ι1 N s1 a) ∧ ∀ {I' ι' h' w'}, Out n0 I1 ι1 h1 w I' ι' h' w' → Out n0 I ι h w I' ι' h' w' := by
  obtain ⟨h2, hg, hf⟩ := hf
  obtain ⟨ι2, k⟩ := ghs_ok hr hfr hg
  refine ⟨IF I ι2 G.F, cut h1.length ι2, hf.1.rel (k.fresh hfr) hf.frz k.rel, fun b hb => cut_free hb, hf.1.len, fun N a ar => hf.1.ar k.rel ⟨ar.size, fun t => k.vr _ _ (ar.get t), ar.defers⟩, fun out => (k.out hfr hn).trans (hf.1.out (k.fresh hfr) hf.frz k.rel out)⟩

theorem WP.weak {c s h s1 h1 Q} {G : Gs} (hf : AT n0 G s1 h1 s h) (hw : WP P N n0 c s1 h1 Q) : WP P N n0 c s h Q := by
  intro I ι w a hr hfr hn ar
  obtain ⟨I1, ι1, k1, k2, k3, k4, k5⟩ := hf.sound hr hfr hn
  refine wp_mono (hw I1 ι1 w a k1 k2 k3 (k4 N a ar)) fun e a' w' ⟨I', ι', s', h', q, out, ar'⟩ => ?_
  exact ⟨I', ι', s', h', q, k5 out, ar'⟩
theorem WP.weakN {c s h} {K : Slots → Hp → Prop} {Q : Exit → Slots → Hp → Prop} (hw : WP P N n0 c s h (thenQ (fun s' h' => ∃ G s1 h1, AT n0 G s1 h1 s' h' ∧ K s1 h1) Q)) : WP P N n0 c s h (thenQ K Q) := by
  intro I ι w a hr hfr hn ar
  refine wp_mono (hw I ι w a hr hfr hn ar) fun e a' w' ⟨I', ι', s', h', q, out, ar'⟩ => ?_
  cases e with
  | normal =>
    obtain ⟨G, s1, h1, hf, q⟩ := q
    obtain ⟨I1, ι1, k1, k2, k3, k4, k5⟩ := hf.sound out.rel out.fresh out.len
    exact ⟨I1, ι1, s1, h1, q, out.trans (k5 (Out.refl k1 k2 k3)), k4 N a' ar'⟩
  | _ => exact ⟨I', ι', s', h', q, out, ar'⟩
/-! ### Functions over blocks: the end of the body -/
/-! a block of the call's own under a new name, its version 1 -/
mutual
def rv (b ver n : Nat) : AV → AV
  | .msl b' v off e len cap => if b' = b ∧ v = ver then .msl n 1 off e len cap else .msl b' v off e len cap
  | .agg cs => .agg (rvs b ver n cs)
  | .tuple vs => .tuple (rvs b ver n vs)
  | x => x
def rvs (b ver n : Nat) : List AV → List AV
  | [] => []
  | x :: xs => rv b ver n x :: rvs b ver n xs
end
theorem rvs_map (b ver n : Nat) : ∀ l : List AV, rvs b ver n l = l.map (rv b ver n)
  | [] => rfl
  | x :: l => by simp only [rvs, List.map_cons, rvs_map b ver n l]
theorem VR.rv {I w} {ι ι' : Io} {b ver n : Nat} (hm : ∀ b x, ι b = some x → ι' b = some x) (hb : ∀ c sz, ι b = some (c, ver, sz) → ι' n = some (c, 1, sz)) (hc : ∀ c cur sz, ι b = some (c, cur, sz) → cur = ver) {x v} (h : VR I w ι x v) : VR I w ι' (Vs.rv b ver n x) v := by
  have base : ∀ {x v}, VR I w ι x v → VR I w ι' x v := fun {x v} h => by
    have := h.ren (m := fun b => b) (ι' := ι') hm
    have e : ∀ x : AV, Vs.ren (fun b => b) x = x ∧ True := fun x => by
      induction x using AV.rec (motive_2 := fun l => rens (fun b => b) l = l) (motive_3 := fun _ => True) (motive_4 := fun _ => True) (motive_5 := fun _ => True) <;> simp_all [Vs.ren, rens]
    rw [(e x).1] at this; exact this
  induction h with
  | @msl ι b' v' off esz len cap a m ccap c cur sz h hv hcc =>
    simp only [Vs.rv]
    split
    · rename_i hh
      obtain ⟨rfl, rfl⟩ := hh
      obtain rfl := hc _ _ _ h
      exact .msl c 1 sz (hb c sz h) (Nat.le_refl _) fun _ => hcc rfl
    · exact .msl c cur sz (hm _ _ h) hv hcc
  | @mslnil ι b' v' off esz =>
    simp only [Vs.rv]
    split
    · exact .mslnil
    · exact .mslnil
  | agg hl _ ih =>
    simp only [Vs.rv]
    refine .agg (by rw [rvs_map, List.length_map]; exact hl) fun j x y a b => ?_
    rw [rvs_map, List.getElem?_map, Option.map_eq_some_iff] at a
    obtain ⟨x0, a', rfl⟩ := a
    exact ih j x0 y a' b hm hb hc base
  | tuple hl _ ih =>
    simp only [Vs.rv]
    refine .tuple (by rw [rvs_map, List.length_map]; exact hl) fun j x y a b => ?_
    rw [rvs_map, List.getElem?_map, Option.map_eq_some_iff] at a
    obtain ⟨x0, a', rfl⟩ := a
    exact ih j x0 y a' b hm hb hc base
  | undef => exact .undef
  | bool b => exact .bool b
  | int k n => exact .int k n
  | str s => exact .str s
  | nilp => exact .nilp
  | nilmap => exact .nilmap
  | nilfn => exact .nilfn
  | nili => exact .nili
  | nils => exact .nils
  | emp => exact .emp
  | ptr c cur sz h hv hcc => exact .ptr c cur sz (hm _ _ h) hv hcc
  | eptr c cur sz h hv hcc => exact .eptr c cur sz (hm _ _ h) hv hcc
  | iptr c bs0 hI hs hv => exact .iptr c bs0 hI hs hv
  | sl0 => exact .sl0
  | sl esz c off cap hI hn hcap hl hs hv => exact .sl esz c off cap hI hn hcap hl hs hv
  | map c h => exact .map c (hm _ _ h)
  | optp0 => exact .optp0
  | optp c cur sz h hcc => exact .optp c cur sz (hm _ _ h) hcc
  | bptr c cur sz h hv hcc => exact .bptr c cur sz (hm _ _ h) hv hcc
  | bptr0 => exact .bptr0
  | func h1 h2 h3 h4 _ _ => exact base (.func h1 h2 h3 h4)
  | iface h _ => exact base (.iface h)
def rnm1 (h : Hp) (b : Nat) : Option (Nat × Hp) := match h[b]? with | some (.rows rs k v ty) => some (v, (h.set b .dead) ++ [.rows rs k 1 ty]) | _ => none
theorem rnm1_ok {I ι h w b v h'} (hr : Rel I ι h w) (hf : ι.free h.length) (hg : rnm1 h b = some (v, h')) : ∃ ι', GhOk I ι h w ι' h' ∧ ∀ x u, VR I w ι x u → VR I w ι' (rv b v h.length x) u := by
  unfold rnm1 at hg
  split at hg
  · rename_i rs k v' ty hb
    simp only [Option.some.injEq, Prod.mk.injEq] at hg
    obtain ⟨rfl, rfl⟩ := hg
    have hlt : b < h.length := (List.getElem?_eq_some_iff.1 hb).1
    have hcur : ∀ c cur sz, ι b = some (c, cur, sz) → cur = v' := fun c cur sz e => (hr.real b _ _ e hb).1.symm
    let ι' : Io := ⟨fun b' => if b' = h.length then (ι b).map (fun q => (q.1, 1, q.2.2)) else ι b', fun b' d => if b' = h.length then ι.sub b d else ι.sub b' d⟩
    have e1 : ι' h.length = (ι b).map (fun q => (q.1, 1, q.2.2)) := by simp [ι']
    have e2 : ∀ b', b' ≠ h.length → ι' b' = ι b' := fun b' e => by simp [ι', e]
    have s1 : ι'.sub h.length = ι.sub b := by funext d; simp [ι']
    have s2 : ∀ b', b' ≠ h.length → ι'.sub b' = ι.sub b' := fun b' e => by funext d; simp [ι', e]
    have hm : ∀ b' x, ι b' = some x → ι' b' = some x := fun b' x e => by
      by_cases n1 : b' = h.length
      · subst n1; rw [hf.1] at e; cases e
      · rw [e2 b' n1]; exact e
    have hmv : ∀ b', Moved ι ι' b' := fun b' => by
      by_cases n1 : b' = h.length
      · subst n1; exact ⟨fun c u s hc => (by rw [hf.1] at hc; cases hc), fun c hc => (by rw [hf.1] at hc; cases hc)⟩
      · exact Moved.of_eq (e2 b' n1)
    have hvv : ∀ x v, VR I w ι x v → VR I w ι' x v := fun x v h => h.mono (fun _ h => h) (fun _ _ => rfl) ι' (fun b => (hmv b).1) (fun b => (hmv b).2)
    have atn : ∀ c, At ι' h.length c → At ι b c := fun c hc => by
      rcases hc with ⟨u, s, h1⟩ | h1
      · rw [e1, Option.map_eq_some_iff] at h1
        obtain ⟨⟨c0, u0, z0⟩, h2, h3⟩ := h1
        simp only [Prod.mk.injEq] at h3
        obtain ⟨rfl, _, _⟩ := h3
        exact .inl ⟨u0, z0, h2⟩
      · rw [s1] at h1; exact .inr h1
    have ato : ∀ b' c, b' ≠ h.length → At ι' b' c → At ι b' c := fun b' c n1 hc => by
      rcases hc with ⟨u, s, h1⟩ | h1
      · rw [e2 b' n1] at h1; exact .inl ⟨u, s, h1⟩
      · rw [s2 b' n1] at h1; exact .inr h1
    have get : ∀ (b' : Nat) o', ((h.set b .dead) ++ [.rows rs k 1 ty])[b']? = some o' → (b' = h.length ∧ o' = .rows rs k 1 ty) ∨ (b' = b ∧ o' = .dead) ∨ (b' ≠ h.length ∧ b' ≠ b ∧ h[b']? = some o') := by
      intro b' o' h1
      by_cases n1 : b' = h.length
      · subst n1
        rw [List.getElem?_append_right (by simp)] at h1
        simp at h1
        exact .inl ⟨rfl, h1.symm⟩
      · have hl := (List.getElem?_eq_some_iff.1 h1).1
        simp at hl
        rw [List.getElem?_append_left (by simp; omega), List.getElem?_set] at h1
        by_cases n2 : b = b'
        · rw [if_pos n2, if_pos hlt] at h1
          exact .inr (.inl ⟨n2.symm, (Option.some.inj h1).symm⟩)
        · rw [if_neg n2] at h1
          exact .inr (.inr ⟨n1, fun e => n2 e.symm, h1⟩)
    have back : ∀ (b' : Nat) o' c, ((h.set b .dead) ++ [.rows rs k 1 ty])[b']? = some o' → o'.live = true → At ι' b' c → ∃ bo oo, h[bo]? = some oo ∧ oo.live = true ∧ At ι bo c ∧ ((b' = h.length ∧ bo = b) ∨ (b' ≠ h.length ∧ b' ≠ b ∧ bo = b')) := by
      intro b' o' c h1 h2 h3
      rcases get b' o' h1 with ⟨rfl, rfl⟩ | ⟨rfl, rfl⟩ | ⟨n1, n2, g⟩
      · exact ⟨b, _, hb, rfl, atn c h3, .inl ⟨rfl, rfl⟩⟩
      · cases h2
      · exact ⟨b', o', g, h2, ato b' c n1 h3, .inr ⟨n1, n2, rfl⟩⟩
    have own : ∀ c, Own ι' ((h.set b .dead) ++ [.rows rs k 1 ty]) c → Own ι h c := by
      rintro c ⟨b', o', h1, h2, h3⟩
      obtain ⟨bo, oo, g1, g2, g3, _⟩ := back b' o' c h1 h2 h3
      exact ⟨bo, oo, g1, g2, g3⟩
    refine ⟨ι', ⟨⟨?_, ?_, hr.tab, ?_, ?_, fun c hc => hr.sep c (own c hc), ?_, hr.ilt, ?_⟩, fun b' hb' => ?_, own, hmv, by simp, hvv⟩, fun x u hx => hx.rv hm (fun c sz e => by rw [e1, e]; rfl) hcur⟩
    · intro b' x2 o2 hx2 ho2
      rcases get b' o2 ho2 with ⟨rfl, rfl⟩ | ⟨rfl, rfl⟩ | ⟨n1, n2, g⟩
      · rw [e1, Option.map_eq_some_iff] at hx2
        obtain ⟨⟨c0, u0, z0⟩, h2, rfl⟩ := hx2
        obtain ⟨g1, g0, arr, f, q1, q2, q3, q4, q5, q6⟩ := hr.real b _ _ h2 hb
        rw [s1]
        exact ⟨rfl, Nat.one_pos, arr, f, q1, q2, q3, q4, q5, fun i r j x y a b' e => (q6 i r j x y a b' e).imp (hvv _ _) id⟩
      · trivial
      · rw [e2 b' n1] at hx2
        rw [s2 b' n1]
        exact BR.mono (fun _ h => h) (fun _ _ => rfl) hmv (fun d hd => hd) (fun _ _ => rfl) rfl (hr.real b' x2 o2 hx2 g)
    · intro b' o2 ho2 hl2
      rcases get b' o2 ho2 with ⟨rfl, rfl⟩ | ⟨rfl, rfl⟩ | ⟨n1, n2, g⟩
      · have hl3 : LO.born (.rows rs k v' ty) = true := by cases rs with | nil => cases hl2 | cons => rfl
        have := hr.dom b _ hb hl3
        rw [e1]
        simpa using this
      · cases hl2
      · rw [e2 b' n1]; exact hr.dom b' o2 g hl2
    · intro b1 b2 o1 o2 c h1 l1 h2 l2 a1 a2
      obtain ⟨p1, q1, g1, k1, m1, r1⟩ := back b1 o1 c h1 l1 a1
      obtain ⟨p2, q2, g2, k2, m2, r2⟩ := back b2 o2 c h2 l2 a2
      have := hr.inj p1 p2 q1 q2 c g1 k1 g2 k2 m1 m2
      rcases r1 with ⟨u1, u2⟩ | ⟨u1, u2, u3⟩ <;> rcases r2 with ⟨w1, w2⟩ | ⟨w1, w2, w3⟩ <;> omega
    · intro b1 c u s h1 h2
      by_cases n1 : b1 = h.length
      · subst n1
        rw [e1, Option.map_eq_some_iff] at h1
        obtain ⟨⟨c0, u0, z0⟩, h3, h4⟩ := h1
        simp only [Prod.mk.injEq] at h4
        obtain ⟨rfl, _, _⟩ := h4
        rw [s1] at h2
        exact hr.own1 b _ _ _ h3 h2
      · rw [e2 b1 n1] at h1; rw [s2 b1 n1] at h2; exact hr.own1 b1 c u s h1 h2
    · intro b1 c h1
      by_cases n1 : b1 = h.length
      · subst n1; exact hr.lt b c (atn c h1)
      · exact hr.lt b1 c (ato b1 c n1 h1)
    · intro b' ho2
      rcases get b' _ ho2 with ⟨_, e⟩ | ⟨_, e⟩ | ⟨n1, n2, g⟩
      · cases e
      · cases e
      · have := hr.hole b' g
        exact ⟨by rw [e2 b' n1]; exact this.1, fun c hc => this.2 c (by rw [s2 b' n1] at hc; exact hc)⟩
    · simp at hb'
      exact ⟨e2 b' (by omega), s2 b' (by omega)⟩
  · cases hg
def rnms (h : Hp) : List (Option Nat) → AV → Option (AV × Hp)
  | [], x => some (x, h)
  | none :: bs, x => rnms (h ++ [.hole]) bs x
  | some b :: bs, x => (rnm1 h b).bind fun q => rnms q.2 bs (rv b q.1 h.length x)
theorem rnms_ok {I w} : ∀ {bs : List (Option Nat)} {ι h x x' h' u}, Rel I ι h w → (∀ b, h.length ≤ b → ι.free b) → rnms h bs x = some (x', h') → VR I w ι x u → ∃ ι', GhOk I ι h w ι' h' ∧ VR I w ι' x' u
  | [], ι, h, x, x', h', u, hr, hf, hg, hx => by
    simp only [rnms, Option.some.injEq, Prod.mk.injEq] at hg
    obtain ⟨rfl, rfl⟩ := hg
    exact ⟨ι, GhOk.refl hr, hx⟩
  | none :: bs, ι, h, x, x', h', u, hr, hf, hg, hx => by
    simp only [rnms] at hg
    obtain ⟨ι1, k1⟩ := ghs_ok (g := [.res]) (h' := h ++ [.hole]) hr hf rfl
    obtain ⟨ι2, k2, hx2⟩ := rnms_ok k1.rel (k1.fresh hf) hg (k1.vr _ _ hx)
    exact ⟨ι2, k1.trans k2, hx2⟩
  | some b :: bs, ι, h, x, x', h', u, hr, hf, hg, hx => by
    simp only [rnms, Option.bind_eq_some_iff] at hg
    obtain ⟨⟨v, h1⟩, hg1, hg2⟩ := hg
    obtain ⟨ι1, k1, hv1⟩ := rnm1_ok hr (hf _ (Nat.le_refl _)) hg1
    obtain ⟨ι2, k2, hx2⟩ := rnms_ok k1.rel (k1.fresh hf) hg2 (hv1 _ _ hx)
    exact ⟨ι2, k1.trans k2, hx2⟩
def EndsH (P : Program) (fn : Func) (n : Nat) (r : AV) (h' : Hp) : Exit → Slots → Hp → Prop := fun e s h =>
  (e = .normal ∨ e = .ret) ∧ ∃ l, resOf P s h fn.results.toList = some l ∧ ∃ bs x' h2 G, rnms h bs (one? l) = some (x', h2) ∧ AT n G [(0, r)] h' [(0, x')] h2
theorem HF.of_wp {f : FuncId} {fn : Func} {c : Code} {args : List AV} {h : Hp} {r : AV} {h' : Hp} (hf : P.funcs[f]? = some fn) (hb : fn.body = some c) (hn : args.length ≤ fn.ntmps)
    (hw : WP P fn.ntmps h.length c (argS 0 args) h (EndsH P fn h.length r h')) : HF P f args h r h' := by
  intro I ι w vs hr hfr hvs
  have ar : AR I w ι fn.ntmps (argS 0 args) { tmps := vs ++ Array.replicate (fn.ntmps - vs.size) undef, defers := [] } := by
    refine ⟨by simp [hvs.1]; omega, fun t => ?_, rfl⟩
    rw [argS_get, if_pos (Nat.zero_le _)]
    simp only [Nat.sub_zero]
    cases hx : args[t]? with
    | none => exact .undef
    | some x =>
      have hlt : t < vs.size := by have := (List.getElem?_eq_some_iff.1 hx).1; rw [hvs.1]; exact this
      simp only [Option.getD_some]
      refine hvs.2 t x _ hx ?_
      have e1 : (vs ++ Array.replicate (fn.ntmps - vs.size) undef)[t]? = some vs[t] := by
        rw [Array.getElem?_append_left hlt]; simp [hlt]
      rw [Array.getD_eq_getD_getElem?, e1]
      simp [hlt]
  refine calls_of_wp hf hb (wp_mono (hw I ι w _ hr hfr (Nat.le_refl _) ar) fun e a' w' ⟨I', ι', s', h2, ⟨he, l, hl, bs, x', h3, G, hrn, hat⟩, out, ar'⟩ => ?_)
  obtain ⟨v, hrun, hv⟩ := run_results (P := P) out.rel ar' hl
  obtain ⟨ι3, kk, hv3⟩ := rnms_ok out.rel out.fresh hrn hv
  obtain ⟨I1, ι1, k1, k2, k3, k4, k5⟩ := hat.sound kk.rel (kk.fresh out.fresh) (Nat.le_trans out.len kk.len)
  have ha := (k4 1 { tmps := #[v], defers := [] } ⟨rfl, fun t => by
    simp only [Slots.get]
    split
    · rename_i e; subst e; exact hv3
    · exact .undef, rfl⟩).get 0
  have hpost : a'.defers = [] ∧ ∃ v, (results fn a'.tmps).run P w' = .ok v w' ∧ ∃ v_1 I' ι', Ending.returned v = .returned v_1 ∧ Out h.length I ι h w I' ι' h' w' ∧ VR I' w' ι' r v_1 :=
    ⟨ar'.defers, v, hrun, v, I1, ι1, rfl, out.trans ((kk.out out.fresh out.len).trans (k5 (Out.refl k1 k2 k3))), by simpa [Slots.get] using ha⟩
  rcases he with rfl | rfl
  · exact hpost
  · exact hpost
theorem HF.of {f : FuncId} {fn : Func} {c : Code} {args : List AV} {h : Hp} {r : AV} {h' : Hp} {N n : Nat} (hf : P.funcs[f]? = some fn) (hb : fn.body = some c) (hN : fn.ntmps = N) (hn : args.length ≤ N) (hh : h.length = n)
    (hw : WK P N n c (EndsH P fn n r h') (argS 0 args) h) : HF P f args h r h' := by
  subst hN; subst hh; exact HF.of_wp hf hb hn hw
theorem EndsH.retW {fn : Func} {n : Nat} {r : AV} {h' : Hp} {s h} (G : Gs) (hr : onS (resOf P s h fn.results.toList) fun l => AT n G [(0, r)] h' [(0, one? l)] h) : EndsH P fn n r h' .ret s h := by
  obtain ⟨x, hx, h1⟩ := onS_inv hr
  exact ⟨.inr rfl, x, hx, [], _, h, G, rfl, h1⟩
/-! ### Loops whose rounds a plain function tells -/
def loopF {α R : Type} (step : α → Option (α ⊕ R)) : Nat → α → Option R
  | 0, _ => none
  | n + 1, a => match step a with
    | none => none
    | some (.inr r) => some r
    | some (.inl a') => loopF step n a'
open Classical in
noncomputable def loopO {α R : Type} (step : α → Option (α ⊕ R)) (a : α) : Option R :=
  if h : ∃ r n, loopF step n a = some r then some h.choose else none
theorem W.weak {c s h s1 h1 Q k} (F : Gs) (hf : AT n0 F s1 h1 s h) (hw : WK P N n0 c Q s1 h1) : W P N n0 c Q s h k := WP.weak hf hw
theorem W.mono {c s h} {Q Q' : Exit → Slots → Hp → Prop} {k} (hw : WK P N n0 c Q s h) (hq : ∀ e s h, Q e s h → Q' e s h) : W P N n0 c Q' s h k := WP.mono hw hq
theorem W.cut {x y s h Q k} (M : Slots → Hp → Prop) (hx : WK P N n0 x (thenQ M Q) s h) (hy : ∀ s h, M s h → WK P N n0 y Q s h) : W P N n0 (.seq x y) Q s h k :=
  WP.seq (WP.mono hx fun e s h q => by cases e <;> first | exact hy s h q | exact q)
theorem W.regL {id} {l : List Oper} {s h Q k} (F : Gs) (s1 : Slots) (h1 : Hp) (hN : dstOk N l.toArray = true) (hrun : RunE P l.toArray (fun s h => AT n0 F s1 h1 s h) l s h (held _)) (hy : Q .normal s1 h1) : W P N n0 (.region id l.toArray false) Q s h k := by
  have := WP.weakN (K := Q .normal) (Q := Q) (WP.mono (W.region (P := P) (N := N) (n0 := n0) (id := id) (k := held _) (Q := thenQ (fun s h => AT n0 F s1 h1 s h) (fun _ _ _ => False)) hN hrun) fun e s h q => by
    cases e with
    | normal => exact ⟨F, s1, h1, q, hy⟩
    | _ => exact q.elim)
  exact WP.mono this fun e s h q => by cases e <;> exact q
theorem W.seqR {id} {l : List Oper} {y s h Q k} (F : Gs) (s1 : Slots) (h1 : Hp) (hN : dstOk N l.toArray = true) (hrun : RunE P l.toArray (fun s h => AT n0 F s1 h1 s h) l s h (held _)) (hy : WK P N n0 y Q s1 h1) : W P N n0 (.seq (.region id l.toArray false) y) Q s h k :=
  WP.seq (WP.mono (W.region (k := held _) (Q := thenQ (fun s h => AT n0 F s1 h1 s h) (fun _ _ _ => False)) hN hrun) fun e s h q => by
    cases e with
    | normal => exact WP.weak q hy
    | _ => exact q.elim)
attribute [go_sem] emptyO belowS belowH belowO belowB belowBs List.take_succ_cons List.take_zero List.take_nil
end Go.Vs
end

section
/-! Regions that draw their order. -/
set_option linter.unusedVariables false
set_option linter.unusedSectionVars false
set_option linter.unusedSimpArgs false
namespace Go.Vs
variable [Tab]
variable {P : Program} {N n0 : Nat}

def hop (H : List Nat) (i : Nat) : Bool := H.contains i
def namesOf (ops : Array Oper) (o : Oper) : List Nat :=
  o.dst.toList ++ (o.op.operands.toList.filterMap fun | .tmp t => some t | _ => none) ++ (match o.guard with | some (j, _) => ((ops[j]?).bind (·.dst)).toList | none => [])

def cloOf (ops : Array Oper) : Nat → Nat → List Nat
  | 0, _ => []
  | f + 1, j => match ops[j]? with
    | some o => o.after.toList.flatMap fun e => if Region.binds .any e then e.on :: cloOf ops f e.on else []
    | none => []

def touch (L A B : List Nat) (ops : Array Oper) (i j : Nat) (x y : Oper) : Bool := (hop L i && !(hop A i && hop B j)) || (hop L j && !(hop A j && hop B i)) || (match x.dst with | some d => (namesOf ops y).contains d | none => false) || (match y.dst with | some d => (namesOf ops x).contains d | none => false)

def drawOk (L A B : List Nat) (ops : Array Oper) : Bool :=
  (B.all fun i => !hop L i) && (List.range ops.size).all fun j => (List.range j).all fun i =>
    match ops[i]?, ops[j]? with
    | some x, some y => !touch L A B ops i j x y || (cloOf ops ops.size j).contains i
    | _, _ => true
def upOk (ops : Array Oper) : Bool :=
  (List.range ops.size).all fun j => match ops[j]? with
    | some o => o.after.toList.all fun e => !Region.binds .any e || decide (e.on < j)
    | none => true

def cloV (ops : Array Oper) (C : List (List Nat)) : Bool :=
  (List.range ops.size).all fun j => match ops[j]? with
    | some o => (C.getD j []).all fun i => o.after.toList.any fun e => Region.binds .any e && (e.on == i || (C.getD e.on []).contains i)
    | none => true
def drawC (L A B : List Nat) (C : List (List Nat)) (ops : Array Oper) : Bool :=
  (B.all fun i => !hop L i) && (List.range ops.size).all fun j => (List.range j).all fun i =>
    match ops[i]?, ops[j]? with
    | some x, some y => !touch L A B ops i j x y || (C.getD j []).contains i
    | _, _ => true
theorem clo_listed {ops : Array Oper} {listed : Array Bool} (hd : ∀ i o, ops[i]? = some o → listed.getD i false = true → ∀ e ∈ o.after, Region.binds .any e = true → listed.getD e.on false = true) :
    ∀ (f j : Nat) (o : Oper), ops[j]? = some o → (∀ e ∈ o.after, Region.binds .any e = true → listed.getD e.on false = true) → ∀ i ∈ cloOf ops f j, listed.getD i false = true
  | 0, j, o, ho, h, i, hi => by simp [cloOf] at hi
  | f + 1, j, o, ho, h, i, hi => by
    simp only [cloOf, ho, List.mem_flatMap] at hi
    obtain ⟨e, he, hi⟩ := hi
    split at hi
    · rename_i hb
      have hl := h e (by simpa using he) hb
      rcases List.mem_cons.1 hi with rfl | hi
      · exact hl
      · cases hoe : ops[e.on]? with
        | none => cases f <;> simp [cloOf, hoe] at hi
        | some o' => exact clo_listed hd f e.on o' hoe (hd e.on o' hoe hl) i hi
    · simp at hi

def RunD (P : Program) (ops : Array Oper) (L A B : List Nat) (m : Nat) (Q : Slots → Hp → Prop) : Nat → List Oper → Slots → Hp → Prop
  | _, [], s, h => Q s h
  | k, o :: rest, s, h =>
    match guardA ops s o with
    | some true => ∃ r h', Step P o s.ev h r h' ∧ ((hop L k = false → h' = h) ∧ (hop A k = true → h'.take m = h.take m) ∧ (hop B k = true → ∀ h2 : Hp, h2.take m = h.take m → Step P o s.ev h2 r h2)) ∧ RunD P ops L A B m Q (k + 1) rest (s.put o.dst r) h'
    | some false => RunD P ops L A B m Q (k + 1) rest (s.put o.dst (.tuple [])) h
    | none => False

def StepAt (P : Program) (ops : Array Oper) (L A B : List Nat) (m : Nat) (S : Nat → Slots) (H : Nat → Hp) (R : Nat → AV) (j : Nat) (o : Oper) : Prop :=
  (guardA ops (S j) o = some true ∧ Step P o (S j).ev (H j) (R j) (H (j + 1)) ∧ ((hop L j = false → H (j + 1) = H j) ∧ (hop A j = true → (H (j + 1)).take m = (H j).take m) ∧ (hop B j = true → ∀ h2 : Hp, h2.take m = (H j).take m → Step P o (S j).ev h2 (R j) h2))) ∨ (guardA ops (S j) o = some false ∧ R j = .tuple [] ∧ H (j + 1) = H j)
def CF (P : Program) (ops : Array Oper) (L A B : List Nat) (m : Nat) (Q : Slots → Hp → Prop) (k n : Nat) (s : Slots) (h : Hp) : Prop :=
  ∃ (S : Nat → Slots) (H : Nat → Hp) (R : Nat → AV), S k = s ∧ H k = h ∧ Q (S (k + n)) (H (k + n)) ∧
    (∀ (j : Nat) o, k ≤ j → ops[j]? = some o → S (j + 1) = (S j).put o.dst (R j)) ∧ (∀ (j : Nat) o, k ≤ j → ops[j]? = some o → StepAt P ops L A B m S H R j o)

theorem RunD_chain {ops : Array Oper} {L A B : List Nat} {m : Nat} {Q : Slots → Hp → Prop} : ∀ (l : List Oper) (k : Nat) (s h), ops.toList.drop k = l → RunD P ops L A B m Q k l s h → CF P ops L A B m Q k l.length s h
  | [], k, s, h, hl, hr => by
    refine ⟨fun _ => s, fun _ => h, fun _ => .tuple [], rfl, rfl, hr, fun j o hj ho => ?_, fun j o hj ho => ?_⟩ <;>
    · have : ops.size ≤ k := by simpa using List.drop_eq_nil_iff.1 hl
      have := (Array.getElem?_eq_some_iff.1 ho).1
      omega
  | o :: l, k, s, h, hl, hr => by
    have ho : ops[k]? = some o := by
      have := congrArg (·[0]?) hl
      simpa using this
    have hl' : ops.toList.drop (k + 1) = l := by
      have := congrArg List.tail hl
      simpa using this
    simp only [RunD] at hr
    have glue : ∀ (r : AV) (h' : Hp), ((guardA ops s o = some true ∧ Step P o s.ev h r h' ∧ ((hop L k = false → h' = h) ∧ (hop A k = true → h'.take m = h.take m) ∧ (hop B k = true → ∀ h2 : Hp, h2.take m = h.take m → Step P o s.ev h2 r h2))) ∨ (guardA ops s o = some false ∧ r = .tuple [] ∧ h' = h)) → RunD P ops L A B m Q (k + 1) l (s.put o.dst r) h' → CF P ops L A B m Q k (o :: l).length s h := by
      intro r h' hst hrun
      obtain ⟨S, H, R, e1, e2, hq, hp, hs⟩ := RunD_chain l (k + 1) (s.put o.dst r) h' hl' hrun
      refine ⟨fun j => if j = k then s else S j, fun j => if j = k then h else H j, fun j => if j = k then r else R j, by simp, by simp, ?_, ?_, ?_⟩
      · simp only [List.length_cons]; rw [if_neg (by omega), if_neg (by omega)]; rw [show k + (l.length + 1) = k + 1 + l.length by omega]; exact hq
      · intro j o' hj ho'
        by_cases e : j = k
        · subst e; rw [ho] at ho'; obtain rfl := Option.some.inj ho'; simp [e1]
        · simp only [if_neg e, if_neg (show ¬ j + 1 = k by omega)]; exact hp j o' (by omega) ho'
      · intro j o' hj ho'
        by_cases e : j = k
        · subst e; rw [ho] at ho'; obtain rfl := Option.some.inj ho'; simpa [StepAt, e2] using hst
        · have := hs j o' (by omega) ho'
          simp only [StepAt, if_neg e, if_neg (show ¬ j + 1 = k by omega)] at this ⊢; exact this
    split at hr
    · rename_i hg
      obtain ⟨r, h', hst, hh, hrun⟩ := hr
      exact glue r h' (.inl ⟨hg, hst, hh⟩) hrun
    · rename_i hg
      exact glue (.tuple []) h (.inr ⟨hg, rfl, rfl⟩) hr
    · exact hr.elim

def SD (ops : Array Oper) (R : Nat → AV) (listed : Array Bool) (s0 : Slots) : Nat → Slots
  | 0 => s0
  | j + 1 => if listed.getD j false = true then (SD ops R listed s0 j).put ((ops[j]?).bind (·.dst)) (R j) else SD ops R listed s0 j

theorem get_put (s : Slots) (d : Option Nat) (r : AV) (t : Nat) : (s.put d r).get t = if d = some t then r else s.get t := by
  cases d with
  | none => simp [Slots.put]
  | some d => simp [Slots.put, Slots.get]

theorem SD_get {ops : Array Oper} {R : Nat → AV} {listed : Array Bool} {S : Nat → Slots} (hS : ∀ (j : Nat) o, ops[j]? = some o → S (j + 1) = (S j).put o.dst (R j)) {t j : Nat} (hj : j ≤ ops.size)
    (hlow : ∀ (i : Nat) o, ops[i]? = some o → o.dst = some t → i < j → listed.getD i false = true) (hhigh : ∀ (i : Nat) o, ops[i]? = some o → o.dst = some t → j ≤ i → listed.getD i false = false) :
    (SD ops R listed (S 0) ops.size).get t = (S j).get t := by
  have low : ∀ i, i ≤ j → (SD ops R listed (S 0) i).get t = (S i).get t := by
    intro i
    induction i with
    | zero => intro _; rfl
    | succ i ih =>
      intro hi
      have hlt : i < ops.size := by omega
      have ho : ops[i]? = some ops[i] := by simp [hlt]
      simp only [SD]
      rw [hS i _ ho, get_put]
      by_cases hd : ops[i].dst = some t
      · rw [if_pos (hlow i _ ho hd (by omega)), get_put, ho]
        simp [hd]
      · split
        · rw [get_put, ho]; simp [hd, ih (by omega)]
        · simp [hd, ih (by omega)]
  have high : ∀ n, j + n ≤ ops.size → (SD ops R listed (S 0) (j + n)).get t = (SD ops R listed (S 0) j).get t := by
    intro n
    induction n with
    | zero => intro _; rfl
    | succ n ih =>
      intro hn
      have hlt : j + n < ops.size := by omega
      have ho : ops[j + n]? = some ops[j + n] := by simp [hlt]
      rw [show j + (n + 1) = (j + n) + 1 by omega]
      simp only [SD]
      split
      · rename_i hl
        rw [get_put, ho]
        have : ¬ ops[j + n].dst = some t := fun hd => by rw [hhigh (j + n) _ ho hd (by omega)] at hl; cases hl
        simp [this, ih (by omega)]
      · exact ih (by omega)
  have := high (ops.size - j) (by omega)
  rw [show j + (ops.size - j) = ops.size by omega] at this
  rw [this, low j (Nat.le_refl _)]
theorem filter_le {α : Type} {p p' : α → Bool} : ∀ (l : List α), (∀ x ∈ l, p' x = true → p x = true) → (l.filter p').length ≤ (l.filter p).length
  | [], _ => by simp
  | x :: l, h => by
    have ih := filter_le l fun y hy => h y (List.mem_cons_of_mem _ hy)
    have hx := h x (List.mem_cons_self ..)
    simp only [List.filter_cons]
    cases e : p' x <;> cases e2 : p x <;> simp_all <;> omega
theorem filter_lt {α : Type} {p p' : α → Bool} : ∀ (l : List α), (∀ x ∈ l, p' x = true → p x = true) → (∃ x ∈ l, p x = true ∧ p' x = false) → (l.filter p').length < (l.filter p).length
  | [], _, ⟨x, hx, _⟩ => by simp at hx
  | x :: l, h, ⟨y, hy, h1, h2⟩ => by
    have ih := filter_le l fun y hy => h y (List.mem_cons_of_mem _ hy)
    have hx := h x (List.mem_cons_self ..)
    simp only [List.filter_cons]
    rcases List.mem_cons.1 hy with rfl | hy
    · simp [h1, h2]; omega
    · have ih2 := filter_lt l (fun y hy => h y (List.mem_cons_of_mem _ hy)) ⟨y, hy, h1, h2⟩
      cases e : p' x <;> cases e2 : p x <;> simp_all <;> omega

theorem AR.congr {I w ι s s' a} (h : AR I w ι N s a) (e : ∀ t, s'.get t = s.get t) : AR I w ι N s' a := ⟨h.size, fun t => by rw [e]; exact h.get t, h.defers⟩

theorem drawOk_B {ops : Array Oper} {L A B : List Nat} (hok : drawOk L A B ops = true) {i : Nat} (h : hop B i = true) : hop L i = false := by
  unfold drawOk at hok
  rw [Bool.and_eq_true] at hok
  have := (List.all_eq_true.1 hok.1) i (by simpa [hop] using h)
  simpa using this
theorem drawOk_spec {ops : Array Oper} {L A B : List Nat} (hok : drawOk L A B ops = true) {i j : Nat} {x y : Oper} (hx : ops[i]? = some x) (hy : ops[j]? = some y) (hij : i < j) (ht : touch L A B ops i j x y = true) : i ∈ cloOf ops ops.size j := by
  unfold drawOk at hok
  rw [Bool.and_eq_true] at hok
  replace hok := hok.2
  have hj : j < ops.size := (Array.getElem?_eq_some_iff.1 hy).1
  have h1 := (List.all_eq_true.1 hok) j (List.mem_range.2 hj)
  have h2 := (List.all_eq_true.1 h1) i (List.mem_range.2 hij)
  simp only [hx, hy, ht, Bool.not_true, Bool.false_or, List.contains_eq_mem, decide_eq_true_eq] at h2
  exact h2
theorem upOk_spec {ops : Array Oper} (hup : upOk ops = true) {j : Nat} {y : Oper} (hy : ops[j]? = some y) : ∀ e ∈ y.after, Region.binds .any e = true → e.on < j := by
  intro e he hb
  unfold upOk at hup
  have hj : j < ops.size := (Array.getElem?_eq_some_iff.1 hy).1
  have h1 := (List.all_eq_true.1 hup) j (List.mem_range.2 hj)
  simp only [hy] at h1
  have h2 := (List.all_eq_true.1 h1) e (by simpa using he)
  simpa [hb] using h2

theorem all_listed {ops : Array Oper} (hup : upOk ops = true) {listed : Array Bool} (hsz : listed.size = ops.size) (hr : Region.ready .any ops listed = []) : ∀ i, i < ops.size → listed.getD i false = true := by
  intro i
  induction i using Nat.strongRecOn with
  | _ i ih =>
    intro hi
    cases hl : listed.getD i false with
    | true => rfl
    | false =>
      exfalso
      have hlt : i < listed.size := by omega
      have : i ∈ Region.ready .any ops listed := by
        rw [mem_ready]
        refine ⟨?_, ops[i], by simp [hi], fun e he hb => ?_⟩
        · simp only [Array.getD, hlt, dif_pos] at hl ⊢; exact hl
        · have := upOk_spec hup (j := i) (y := ops[i]) (by simp [hi]) e he hb
          exact ih e.on this (by omega)
      rw [hr] at this
      simp at this

theorem heap_same {ops : Array Oper} {L A B : List Nat} {m : Nat} {S : Nat → Slots} {H : Nat → Hp} {R : Nat → AV} (hst : ∀ (j : Nat) o, ops[j]? = some o → StepAt P ops L A B m S H R j o) {k i : Nat} (hki : k ≤ i) (hi : i ≤ ops.size)
    (hno : ∀ (e : Nat) o, ops[e]? = some o → k ≤ e → e < i → hop L e = false) : H i = H k := by
  induction i with
  | zero => have : k = 0 := by omega
            rw [this]
  | succ i ih =>
    by_cases e : k = i + 1
    · rw [e]
    · have hlt : i < ops.size := by omega
      have ho : ops[i]? = some ops[i] := by simp [hlt]
      have h1 := ih (by omega) (by omega) fun e o ho h1 h2 => hno e o ho h1 (by omega)
      rw [← h1]
      rcases hst i _ ho with ⟨_, _, h2, _⟩ | ⟨_, _, h2⟩
      · exact h2 (hno i _ ho (by omega) (by omega))
      · exact h2
theorem take_same {ops : Array Oper} {L A B : List Nat} {m : Nat} {S : Nat → Slots} {H : Nat → Hp} {R : Nat → AV} (hst : ∀ (j : Nat) o, ops[j]? = some o → StepAt P ops L A B m S H R j o) {k i : Nat} (hki : k ≤ i) (hi : i ≤ ops.size)
    (hno : ∀ (e : Nat) o, ops[e]? = some o → k ≤ e → e < i → hop L e = true → hop A e = true) : (H i).take m = (H k).take m := by
  induction i with
  | zero => have : k = 0 := by omega
            rw [this]
  | succ i ih =>
    by_cases e : k = i + 1
    · rw [e]
    · have hlt : i < ops.size := by omega
      have ho : ops[i]? = some ops[i] := by simp [hlt]
      have h1 := ih (by omega) (by omega) fun e o ho h1 h2 => hno e o ho h1 (by omega)
      rw [← h1]
      rcases hst i _ ho with ⟨_, _, h2, h3, _⟩ | ⟨_, _, h2⟩
      · cases hh : hop L i with
        | false => rw [h2 hh]
        | true => exact h3 (hno i _ ho (by omega) (by omega) hh)
      · rw [h2]

theorem SD_other {ops : Array Oper} {R : Nat → AV} {listed : Array Bool} {s0 : Slots} {i t : Nat} {o : Oper} (ho : ops[i]? = some o) (hd : o.dst ≠ some t) : ∀ j, (SD ops R (listed.setIfInBounds i true) s0 j).get t = (SD ops R listed s0 j).get t := by
  intro j
  induction j with
  | zero => rfl
  | succ j ih =>
    simp only [SD]
    by_cases e : i = j
    · subst e
      split <;> split <;> simp [get_put, ho, hd, ih]
    · rw [getD_set_ne false e]
      split
      · rw [get_put, get_put, ih]
      · exact ih

theorem wpAny_chain {ops : Array Oper} {L A B : List Nat} {m : Nat} (hN : ∀ o ∈ ops, ∀ t, o.dst = some t → t < N) (hok : drawOk L A B ops = true) (hup : upOk ops = true) {S : Nat → Slots} {H : Nat → Hp} {R : Nat → AV}
    (hS : ∀ (j : Nat) o, ops[j]? = some o → S (j + 1) = (S j).put o.dst (R j)) (hst : ∀ (j : Nat) o, ops[j]? = some o → StepAt P ops L A B m S H R j o)
    {Q : Exit → Slots → Hp → Prop} (hQ : Q .normal (S ops.size) (H ops.size)) {I0 ι0 h0 w0} :
    ∀ (fuel : Nat) (listed : Array Bool) (a : Act) (w : World), listed.size = ops.size →
      (∀ (i : Nat) o, ops[i]? = some o → listed.getD i false = true → ∀ e ∈ o.after, Region.binds .any e = true → listed.getD e.on false = true) →
      (∃ k, k ≤ ops.size ∧ (∀ (i : Nat) o, ops[i]? = some o → hop L i = true → (listed.getD i false = true ↔ i < k)) ∧ ∃ I ι, Out n0 I0 ι0 h0 w0 I ι (H k) w ∧ AR I w ι N (SD ops R listed (S 0) ops.size) a) →
      ((List.range ops.size).filter fun i => !listed.getD i false).length ≤ fuel →
      wpAny P .any ops (Post N n0 Q I0 ι0 h0 w0) fuel listed a w := by
  intro fuel
  have fin : ∀ (listed : Array Bool) (a : Act) (w : World), listed.size = ops.size →
      (∃ k, k ≤ ops.size ∧ (∀ (i : Nat) o, ops[i]? = some o → hop L i = true → (listed.getD i false = true ↔ i < k)) ∧ ∃ I ι, Out n0 I0 ι0 h0 w0 I ι (H k) w ∧ AR I w ι N (SD ops R listed (S 0) ops.size) a) →
      Region.ready .any ops listed = [] → Post N n0 Q I0 ι0 h0 w0 .normal a w := by
    intro listed a w hsz ⟨k, hk, hheap, I, ι, out, ar⟩ hr
    have hall := all_listed hup hsz hr
    have e : H ops.size = H k := heap_same hst hk (Nat.le_refl _) fun e o ho h1 h2 => by
      cases hh : hop L e with
      | false => rfl
      | true => have := (hheap e o ho hh).1 (hall e h2); omega
    refine ⟨I, ι, S ops.size, H ops.size, hQ, by rw [e]; exact out, ar.congr fun t => ?_⟩
    exact (SD_get hS (Nat.le_refl _) (fun i o ho _ h => hall i h) (fun i o ho _ h => by have := (Array.getElem?_eq_some_iff.1 ho).1; omega)).symm
  induction fuel with
  | zero =>
    intro listed a w hsz hd hinv hc
    have hr : Region.ready .any ops listed = [] := by
      rw [List.eq_nil_iff_forall_not_mem]
      intro i hi
      rw [mem_ready] at hi
      obtain ⟨h1, o, ho, _⟩ := hi
      have hlt : i < ops.size := (Array.getElem?_eq_some_iff.1 ho).1
      have hlt2 : i < listed.size := by omega
      have h2 : listed.getD i false = false := by simp only [Array.getD, hlt2, dif_pos] at h1 ⊢; exact h1
      have : i ∈ (List.range ops.size).filter fun i => !listed.getD i false := List.mem_filter.2 ⟨List.mem_range.2 hlt, by simp only [h2, Bool.not_false]⟩
      have := List.length_pos_of_mem this
      omega
    exact ⟨hr, fin listed a w hsz hinv hr⟩
  | succ fuel ih =>
    intro listed a w hsz hd hinv hc
    refine ⟨fun hr => fin listed a w hsz hinv hr, fun i hi => ?_⟩
    rw [mem_ready] at hi
    obtain ⟨hli, o, ho, hpre⟩ := hi
    have hlt : i < ops.size := (Array.getElem?_eq_some_iff.1 ho).1
    have hlt2 : i < listed.size := by omega
    have hlf : listed.getD i false = false := by simp only [Array.getD, hlt2, dif_pos] at hli ⊢; exact hli
    obtain ⟨k, hk, hheap, I, ι, out, ar⟩ := hinv
    have before : ∀ (e : Nat) x, ops[e]? = some x → e < i → touch L A B ops e i x o = true → listed.getD e false = true := fun e x hx he ht =>
      clo_listed hd ops.size i o ho hpre e (drawOk_spec hok hx ho he ht)
    have behind : ∀ (e : Nat) x, ops[e]? = some x → i < e → touch L A B ops i e o x = true → listed.getD e false = false := fun e x hx he ht => by
      cases hl : listed.getD e false with
      | false => rfl
      | true =>
        have := clo_listed hd ops.size e x hx (hd e x hx hl) i (drawOk_spec hok ho hx he ht)
        rw [hlf] at this; cases this
    have same : ∀ t, t ∈ namesOf ops o → (SD ops R listed (S 0) ops.size).get t = (S i).get t := fun t ht => by
      refine SD_get hS (Nat.le_of_lt hlt) (fun e x hx hxd he => before e x hx he ?_) (fun e x hx hxd he => ?_)
      · simp [touch, hxd, ht]
      · by_cases e2 : e = i
        · subst e2; exact hlf
        · refine behind e x hx (by omega) ?_
          simp [touch, hxd, ht]
    have hguard : guardA ops (SD ops R listed (S 0) ops.size) o = guardA ops (S i) o := by
      unfold guardA
      split
      · rfl
      · rename_i j want hg
        split
        · rename_i t ht
          rw [same t (by simp [namesOf, hg, ht])]
        · rfl
    have hd' : ∀ (i' : Nat) o', ops[i']? = some o' → (listed.setIfInBounds i true).getD i' false = true → ∀ e ∈ o'.after, Region.binds .any e = true → (listed.setIfInBounds i true).getD e.on false = true := by
      intro i' o' ho' hl' e he hb
      by_cases e2 : i = i'
      · subst e2
        rw [ho] at ho'; obtain rfl := Option.some.inj ho'
        exact getD_set_true (hpre e he hb)
      · rw [getD_set_ne false e2] at hl'
        exact getD_set_true (hd i' o' ho' hl' e he hb)
    have hset : (listed.setIfInBounds i true).getD i false = true := by simp [Array.getD, hlt2]
    have hc' : ((List.range ops.size).filter fun j => !(listed.setIfInBounds i true).getD j false).length ≤ fuel := by
      have := filter_lt (p := fun j => !listed.getD j false) (p' := fun j => !(listed.setIfInBounds i true).getD j false) (List.range ops.size) (fun x _ hx => by
        by_cases e2 : i = x
        · subst e2; simp [hset] at hx
        · simpa [getD_set_ne false e2] using hx) ⟨i, List.mem_range.2 hlt, by simp [hlf], by simp [hset]⟩
      omega
    have slots : ∀ t, (SD ops R (listed.setIfInBounds i true) (S 0) ops.size).get t = ((SD ops R listed (S 0) ops.size).put o.dst (R i)).get t := fun t => by
      rw [get_put]
      by_cases hdt : o.dst = some t
      · rw [if_pos hdt]
        have hnm : t ∈ namesOf ops o := by simp [namesOf, hdt]
        rw [SD_get hS (j := i + 1) (by omega) (fun e x hx hxd he => ?_) (fun e x hx hxd he => ?_), hS i o ho, get_put, if_pos hdt]
        · by_cases e2 : i = e
          · subst e2; exact hset
          · rw [getD_set_ne false e2]; exact before e x hx (by omega) (by simp [touch, hxd, hnm])
        · rw [getD_set_ne false (by omega)]; exact behind e x hx (by omega) (by simp [touch, hxd, hnm])
      · rw [if_neg hdt]; exact SD_other ho hdt _
    have hdN := hN o (Array.mem_of_getElem? ho)
    have hop2 : ∀ x, x ∈ o.op.operands → VR I w ι ((S i).ev x) (a.eval x) := fun x hx => by
      cases x with
      | tmp t =>
        show VR I w ι ((S i).get t) _
        rw [← same t (by simp only [namesOf, List.mem_append]; exact .inl (.inr (List.mem_filterMap.2 ⟨.tmp t, by simpa using hx, rfl⟩)))]
        exact ar.get t
      | const v => exact VR.ofC _ _ _ v
      | global g => exact out.rel.tab.global g
      | func f => exact .func (by simp) (by simp) (by simp) (by simp)
    cases hB : hop B i with
    | true =>
      have hLi := drawOk_B hok hB
      have hbetw : ∀ (e : Nat) x, ops[e]? = some x → hop L e = true → (e < k ↔ ¬ e < i) → hop A e = true := fun e x hx hh hne => by
        cases hA : hop A e with
        | true => rfl
        | false =>
          exfalso
          rcases Nat.lt_trichotomy e i with h | h | h
          · have h1 := before e x hx h (by simp [touch, hh, hA])
            have h2 := (hheap e x hx hh).1 h1
            omega
          · subst h; rw [hLi] at hh; cases hh
          · have h1 := behind e x hx h (by simp [touch, hh, hA])
            have h2 : ¬ e < k := fun h2 => by rw [(hheap e x hx hh).2 h2] at h1; cases h1
            omega
      have eT : (H k).take m = (H i).take m := by
        rcases Nat.le_total k i with h | h
        · exact (take_same hst h (Nat.le_of_lt hlt) fun e x hx h1 h2 hh => hbetw e x hx hh (by omega)).symm
        · exact take_same hst h hk fun e x hx h1 h2 hh => hbetw e x hx hh (by omega)
      have hheap4 : ∀ (e : Nat) x, ops[e]? = some x → hop L e = true → ((listed.setIfInBounds i true).getD e false = true ↔ e < k) := fun e x hx hh => by
        by_cases e2 : i = e
        · subst e2; rw [hLi] at hh; cases hh
        · rw [getD_set_ne false e2, hheap e x hx hh]
      unfold wpOp
      simp only [ho]
      rcases hst i o ho with ⟨hg, _, _, _, hlight⟩ | ⟨hg, hu, hH⟩
      · rw [guardA_wanted ar (hguard.trans hg), if_pos rfl]
        left
        refine hlight hB (H k) eT I ι w a out.rel (fun b hb _ => out.fresh b hb) hop2 _ _ fun v w' I' ι' e hv => ?_
        have o2 := e.out (n0 := n0) out.fresh out.len
        exact ih _ _ _ (by simpa using hsz) hd' ⟨k, hk, hheap4, I', ι', out.trans o2, ((ar.ext out.rel e).put _ hdN hv).congr slots⟩ hc'
      · rw [guardA_wanted ar (hguard.trans hg), if_neg (by simp)]
        refine ih _ _ _ (by simpa using hsz) hd' ⟨k, hk, hheap4, I, ι, out, AR.congr (ar.put o.dst hdN skip_rel) fun t => ?_⟩ hc'
        rw [slots t, hu]
    | false =>
      have hheap2 : ∀ (e : Nat) x, ops[e]? = some x → hop L e = true → (listed.getD e false = true ↔ e < i) := fun e x hx hh => by
        constructor
        · intro hl
          rcases Nat.lt_trichotomy e i with h | h | h
          · exact h
          · subst h; rw [hlf] at hl; cases hl
          · rw [behind e x hx h (by simp [touch, hh, hB])] at hl; cases hl
        · intro h; exact before e x hx h (by simp [touch, hh, hB])
      have eH : H k = H i := by
        rcases Nat.le_total k i with h | h
        · exact (heap_same hst h (Nat.le_of_lt hlt) fun e x hx h1 h2 => by
            cases hh : hop L e with
            | false => rfl
            | true => have := (hheap e x hx hh).1 ((hheap2 e x hx hh).2 h2); omega).symm
        · exact heap_same hst h hk fun e x hx h1 h2 => by
            cases hh : hop L e with
            | false => rfl
            | true => have := (hheap2 e x hx hh).1 ((hheap e x hx hh).2 h2); omega
      rw [eH] at out
      have hheap3 : ∀ (e : Nat) x, ops[e]? = some x → hop L e = true → ((listed.setIfInBounds i true).getD e false = true ↔ e < i + 1) := fun e x hx hh => by
        by_cases e2 : i = e
        · subst e2; simp [hset]
        · rw [getD_set_ne false e2, hheap2 e x hx hh]; omega
      unfold wpOp
      simp only [ho]
      rcases hst i o ho with ⟨hg, hstep, _⟩ | ⟨hg, hu, hH⟩
      · rw [guardA_wanted ar (hguard.trans hg), if_pos rfl]
        left
        refine hstep I ι w a out.rel (fun b hb _ => out.fresh b hb) hop2 _ _ fun v w' I' ι' e hv => ?_
        · have o2 := e.out (n0 := n0) out.fresh out.len
          exact ih _ _ _ (by simpa using hsz) hd' ⟨i + 1, by omega, hheap3, I', ι', out.trans o2, ((ar.ext out.rel e).put _ hdN hv).congr slots⟩ hc'
      · rw [guardA_wanted ar (hguard.trans hg), if_neg (by simp)]
        refine ih _ _ _ (by simpa using hsz) hd' ⟨i + 1, by omega, hheap3, I, ι, by rw [hH]; exact out, AR.congr (ar.put o.dst hdN skip_rel) fun t => ?_⟩ hc'
        rw [slots t, hu]

theorem WP.regionD {id ops s h} (L A B : List Nat) (m : Nat) {Q : Exit → Slots → Hp → Prop} (hm : P.follows .mixedOrders = true) (hN : dstOk N ops = true) (hok : drawOk L A B ops = true) (hup : upOk ops = true)
    (hrun : RunD P ops L A B m (fun s h => Q .normal s h) 0 ops.toList s h) : WP P N n0 (.region id ops true) s h Q := by
  intro I ι w a r f n ar
  obtain ⟨S, H, R, e1, e2, hq, hp, hs⟩ := RunD_chain ops.toList 0 s h (by simp) hrun
  subst e1; subst e2
  simp only [Nat.zero_add, Array.length_toList] at hq
  have hrd : Rel I ι (H 0) { w with drawn := w.drawn + 1 } := ⟨fun b x o hx ho => BR.mono (w := w) (w' := { w with drawn := w.drawn + 1 }) (fun _ h => h) (fun _ _ => rfl) (fun b => Moved.refl _ _) (fun _ h => h) (fun _ _ => rfl) rfl (r.real b x o hx ho), r.dom, r.tab.mono (fun _ h => h) (fun _ _ => rfl), r.inj, r.own1, r.sep, r.lt, r.ilt, r.hole⟩
  have hob : Out n0 I ι (H 0) w I ι (H 0) { w with drawn := w.drawn + 1 } := ⟨hrd, f, ⟨rfl, rfl, rfl, Nat.le_refl _, fun _ _ _ => rfl⟩, fun _ h => h, fun _ h => .inl h, fun _ h => .inl h, fun b _ => Moved.refl _ _, n⟩
  have hget : ∀ (i : Nat), (Array.replicate ops.size false).getD i false = false := fun i => by simp [Array.getD]
  have hSD : ∀ j, SD ops R (Array.replicate ops.size false) (S 0) j = S 0 := by
    intro j
    induction j with
    | zero => rfl
    | succ j ih => simp only [SD, hget]; simpa using ih
  refine wp_region_any hm (wpAny_chain (dstOk_spec hN) hok hup (fun j o ho => hp j o (Nat.zero_le _) ho) (fun j o ho => hs j o (Nat.zero_le _) ho) hq ops.size _ a _ (by simp) (fun i o ho h => by rw [hget] at h; cases h)
    ⟨0, Nat.zero_le _, fun i o ho hh => by rw [hget]; simp, I, ι, hob, ?_⟩ ?_)
  · rw [hSD]
    exact ⟨ar.size, fun t => VR.mono (w := w) (w' := { w with drawn := w.drawn + 1 }) (I := I) (fun _ h => h) (fun _ _ => rfl) (ar.get t) ι (fun b => (Moved.refl ι b).1) (fun b => (Moved.refl ι b).2), ar.defers⟩
  · exact Nat.le_trans (List.length_filter_le _ _) (by simp)

end Go.Vs
end

section
/-! Regions that draw their order, reckoned. -/
set_option linter.unusedVariables false
set_option linter.unusedSectionVars false
set_option linter.unusedSimpArgs false
namespace Go.Vs
variable [Tab]
variable {P : Program} {N n0 : Nat}

def rdOp : Op → Option (List Operand)
  | .move _ => some []
  | .assign _ => some []
  | .pick _ _ _ => some []
  | .extract _ _ => some []
  | .fieldAddr _ _ _ => some []
  | .binOp _ _ _ _ _ => some []
  | .unOp _ _ _ => some []
  | .load _ p => some [p]
  | .indexAddr _ x _ => some [x]
  | .index _ _ _ => some []
  | .field _ _ _ => some []
  | .build _ _ => some []
  | .slice _ x _ _ none => some [x]
  | .lookup _ m _ _ => some [m]
  | .nilCheck _ => some []
  | _ => none
def refB : AV → Option Nat
  | .ptr b _ _ => some b
  | .eptr b _ _ _ _ => some b
  | .msl b _ _ _ _ _ => some b
  | .map b => some b
  | _ => none
def farB (m : Nat) (x : AV) : Bool := match refB x with | some b => decide (b < m) | none => true
def lightB (m : Nat) (o : Op) (ρ : Operand → AV) : Bool := match rdOp o with | some l => l.all fun x => farB m (ρ x) | none => false
theorem take_get {m : Nat} {h h2 : Hp} (e : h2.take m = h.take m) {b : Nat} (hb : b < m) : h2[b]? = h[b]? := by
  have := congrArg (·[b]?) e
  simpa [List.getElem?_take, hb] using this
theorem row_agree {m : Nat} {h h2 : Hp} (e : h2.take m = h.take m) {x : AV} (hx : farB m x = true) : rowOf h2 x = rowOf h x := by
  unfold farB refB at hx
  cases x <;> first | rfl | (simp only [decide_eq_true_eq] at hx; simp only [rowOf, take_get e hx])
theorem stale_agree {m : Nat} {h h2 : Hp} (e : h2.take m = h.take m) {x : AV} (hx : farB m x = true) : staleB h2 x = staleB h x := by
  unfold farB refB at hx
  cases x <;> first | rfl | (simp only [decide_eq_true_eq] at hx; simp only [staleB, take_get e hx])
theorem lkA_agree {P : Program} {m : Nat} {h h2 : Hp} (e : h2.take m = h.take m) {t : TypeId} {x k : AV} {ok : Bool} (hx : farB m x = true) : lkA P t h2 x k ok = lkA P t h x k ok := by
  unfold farB refB at hx
  cases x <;> first | rfl | (simp only [decide_eq_true_eq] at hx; simp only [lkA, mapAt, take_get e hx])
theorem slH_agree {P : Program} {m : Nat} {h h2 : Hp} (e : h2.take m = h.take m) {t : TypeId} {lo hi : Option AV} {x : AV} (hx : farB m x = true) : slH P h2 t lo hi x = slH P h t lo hi x := by
  unfold farB refB at hx
  cases x <;> first | rfl | (simp only [decide_eq_true_eq] at hx; simp only [slH, mslA, take_get e hx])
theorem evS_light {o : Oper} {ρ : Operand → AV} {m : Nat} {h : Hp} {K : AV → Hp → Prop} (hl : lightB m o.op ρ = true) (he : evS P o ρ h K) : ∃ r, K r h ∧ ∀ h2 : Hp, h2.take m = h.take m → Step P o ρ h2 r h2 := by
  unfold lightB at hl
  have again : ∀ (h2 : Hp), (∃ r, K r h ∧ evS P o ρ h2 fun r' h' => r' = r ∧ h' = h2) → ∃ r, K r h ∧ Step P o ρ h2 r h2 := by
    rintro h2 ⟨r, hk, hev⟩
    obtain ⟨r', h', hst, rfl, rfl⟩ := evS_sound hev
    exact ⟨r', hk, hst⟩
  have main : ∃ r, K r h ∧ ∀ h2 : Hp, h2.take m = h.take m → evS P o ρ h2 fun r' h' => r' = r ∧ h' = h2 := by
    unfold evS at he ⊢
    cases ho : o.op <;> simp only [ho, rdOp] at hl he ⊢ <;> try cases hl
    case move => exact ⟨_, he, fun h2 _ => ⟨rfl, trivial⟩⟩
    case assign => exact ⟨_, he, fun h2 _ => ⟨rfl, trivial⟩⟩
    case nilCheck => exact ⟨_, he.2, fun h2 _ => ⟨he.1, rfl, trivial⟩⟩
    case pick => obtain ⟨b, hb, hk⟩ := onS_inv he; exact ⟨_, hk, fun h2 _ => by rw [hb]; exact ⟨rfl, trivial⟩⟩
    case binOp => obtain ⟨b, hb, hk⟩ := onS_inv he; exact ⟨_, hk, fun h2 _ => by rw [hb]; exact ⟨rfl, trivial⟩⟩
    case unOp => obtain ⟨b, hb, hk⟩ := onS_inv he; exact ⟨_, hk, fun h2 _ => by rw [hb]; exact ⟨rfl, trivial⟩⟩
    case slice t x lo hi mx =>
      cases mx with
      | some z => cases hl
      | none =>
        simp only [List.all_cons, List.all_nil, Bool.and_true] at hl he ⊢
        obtain ⟨r, hr, hk⟩ := onS_inv he
        exact ⟨_, hk, fun h2 e => by rw [slH_agree e hl, hr]; exact ⟨rfl, trivial⟩⟩
    case build =>
      obtain ⟨z, hz, he⟩ := onS_inv he
      obtain ⟨l, hl2, he⟩ := onS_inv he
      obtain ⟨r, hr, hk⟩ := onS_inv he
      exact ⟨_, hk, fun h2 _ => by rw [hz]; simp only [onS_some]; rw [hl2]; simp only [onS_some]; rw [hr]; exact ⟨rfl, trivial⟩⟩
    case fieldAddr =>
      obtain ⟨q, hq, hn, he⟩ := onS_inv he
      obtain ⟨r, hr, hk⟩ := onS_inv he
      exact ⟨_, hk, fun h2 _ => by rw [hq]; exact ⟨hn, by rw [hr]; exact ⟨rfl, trivial⟩⟩⟩
    case field =>
      obtain ⟨q, hq, he⟩ := onS_inv he
      obtain ⟨ag, hag, he⟩ := onS_inv he
      obtain ⟨n, hn, he⟩ := onS_inv he
      obtain ⟨r, hr, hk⟩ := onS_inv he
      exact ⟨_, hk, fun h2 _ => by rw [hq]; simp only [onS_some]; rw [hag, hn]; simp only [onS_some]; rw [hr]; exact ⟨rfl, trivial⟩⟩
    case index =>
      obtain ⟨h1, he⟩ := he
      obtain ⟨r, hr, hk⟩ := onS_inv he
      exact ⟨_, hk, fun h2 _ => ⟨h1, by rw [hr]; exact ⟨rfl, trivial⟩⟩⟩
    case extract =>
      obtain ⟨q, hq, he⟩ := onS_inv he
      obtain ⟨r, hr, hk⟩ := onS_inv he
      exact ⟨_, hk, fun h2 _ => by rw [hq]; simp only [onS_some]; rw [hr]; exact ⟨rfl, trivial⟩⟩
    case lookup =>
      simp only [List.all_cons, List.all_nil, Bool.and_true] at hl
      obtain ⟨r, hr, hk⟩ := onS_inv he
      exact ⟨_, hk, fun h2 e => by rw [lkA_agree e hl, hr]; exact ⟨rfl, trivial⟩⟩
    case load =>
      simp only [List.all_cons, List.all_nil, Bool.and_true] at hl
      obtain ⟨ag, hag, he⟩ := onS_inv he
      obtain ⟨n, hn, he⟩ := onS_inv he
      obtain ⟨r, hr, hk⟩ := onS_inv he
      exact ⟨_, hk, fun h2 e => by rw [hag, hn]; simp only [onS_some]; rw [row_agree e hl, hr]; exact ⟨rfl, trivial⟩⟩
    case indexAddr =>
      simp only [List.all_cons, List.all_nil, Bool.and_true] at hl
      obtain ⟨ag, hag, he⟩ := onS_inv he
      obtain ⟨n, hn, he⟩ := onS_inv he
      obtain ⟨r, hr, hs, hk⟩ := onS_inv he
      exact ⟨_, hk, fun h2 e => by rw [hag]; simp only [onS_some]; rw [hn]; simp only [onS_some]; rw [hr]; exact ⟨(stale_agree e hl).trans hs, rfl, trivial⟩⟩
  obtain ⟨r, hk, hall⟩ := main
  refine ⟨r, hk, fun h2 e => ?_⟩
  obtain ⟨r', h', hst, rfl, rfl⟩ := evS_sound (hall h2 e)
  exact hst
def RunDE (P : Program) (ops : Array Oper) (L A B : List Nat) (m : Nat) (Q : Slots → Hp → Prop) : Nat → (l : List Oper) → Slots → Hp → Hold (ops, Q, l) → Prop
  | _, [], s, h, _ => Q s h
  | i, o :: rest, s, h, _ => onG (guardA ops s o) (fun _ => evS P o s.ev h fun r h' => ((hop L i = false → h' = h) ∧ (hop A i = true → h'.take m = h.take m) ∧ (hop B i = true → lightB m o.op s.ev = true)) ∧ RunDE P ops L A B m Q (i + 1) rest (s.put o.dst r) h' (held _)) (fun _ => RunDE P ops L A B m Q (i + 1) rest (s.put o.dst (.tuple [])) h (held _)) (held _)

theorem RunDE_run {ops : Array Oper} {L A B : List Nat} {m : Nat} {Q : Slots → Hp → Prop} : ∀ (l : List Oper) (i : Nat) (s h) (k), RunDE P ops L A B m Q i l s h k → RunD P ops L A B m Q i l s h
  | [], i, s, h, _, hr => hr
  | o :: rest, i, s, h, _, hr => by
    simp only [RunDE] at hr
    simp only [RunD]
    split
    · rename_i e
      rw [e, onG_t] at hr
      obtain ⟨r, h', hst, ⟨h1, h2, h3⟩, hk⟩ := evS_sound hr
      cases hB : hop B i with
      | false => exact ⟨r, h', hst, ⟨h1, h2, fun h => by cases h⟩, RunDE_run rest _ _ _ _ hk⟩
      | true =>
        obtain ⟨r2, ⟨⟨k1, k2, k3⟩, hk2⟩, hall⟩ := evS_light (h3 hB) hr
        exact ⟨r2, h, hall h rfl, ⟨k1, k2, fun _ => hall⟩, RunDE_run rest _ _ _ _ hk2⟩
    · rename_i e
      rw [e, onG_f] at hr
      exact RunDE_run rest _ _ _ _ hr
    · rename_i e
      rw [e] at hr
      exact hr

theorem W.regionJ_ {id} {l : List Oper} {s h Q k} (L A B : List Nat) (m : Nat) (hr : P.follows .mixedOrders = true ∧ dstOk N l.toArray = true ∧ drawOk L A B l.toArray = true ∧ upOk l.toArray = true ∧ RunDE P l.toArray L A B m (fun s h => Q .normal s h) 0 l s h (held _)) :
    W P N n0 (.region id l.toArray true) Q s h k :=
  WP.regionD L A B m hr.1 hr.2.1 hr.2.2.1 hr.2.2.2.1 (by rw [List.toList_toArray]; exact RunDE_run _ _ _ _ _ hr.2.2.2.2)

section rules
variable {L A B : List Nat} {m : Nat} {i : Nat} {ops : Array Oper} {Q : Slots → Hp → Prop} {rest : List Oper} {s : Slots} {h : Hp} {d : Option Nat} {ty : TypeId} {pos : String} {af : Array Edge}
@[go_sem] theorem RunDE_nil {k} : RunDE P ops L A B m Q i [] s h k = Q s h := rfl
@[go_sem] theorem RunDE_plain {op : Op} {k} : RunDE P ops L A B m Q i ({ dst := d, op := op, type := ty, pos := pos, after := af, guard := none } :: rest) s h k =
    evK P { dst := d, op := op, type := ty, pos := pos, after := af, guard := none } s.ev h (fun r h' => ((hop L i = false → h' = h) ∧ (hop A i = true → h'.take m = h.take m) ∧ (hop B i = true → lightB m op s.ev = true)) ∧ RunDE P ops L A B m Q (i + 1) rest (s.put d r) h' (held _)) (held _) := rfl
@[go_sem] theorem RunDE_guard {op : Op} {j : Nat} {want : Bool} {k} : RunDE P ops L A B m Q i ({ dst := d, op := op, type := ty, pos := pos, after := af, guard := some (j, want) } :: rest) s h k =
    onG (grdAt (dstAt ops j) s want) (fun _ => evK P { dst := d, op := op, type := ty, pos := pos, after := af, guard := some (j, want) } s.ev h
        (fun r h' => ((hop L i = false → h' = h) ∧ (hop A i = true → h'.take m = h.take m) ∧ (hop B i = true → lightB m op s.ev = true)) ∧ RunDE P ops L A B m Q (i + 1) rest (s.put d r) h' (held _)) (held _))
      (fun _ => RunDE P ops L A B m Q (i + 1) rest (s.put d (.tuple [])) h (held _)) (held _) := by
  have e : guardA ops s { dst := d, op := op, type := ty, pos := pos, after := af, guard := some (j, want) } = grdAt (dstAt ops j) s want := by
    simp only [guardA, dstAt, grdAt]
    cases (ops[j]?).bind (·.dst) with
    | none => rfl
    | some t => simp only [grd]; cases s.get t <;> first | rfl | (rename_i b; cases b <;> cases want <;> rfl)
  rw [← e]; rfl
end rules
theorem W.seqJ {id} {l : List Oper} {y s h Q k} (L A B : List Nat) (m : Nat) (F : Gs) (s1 : Slots) (h1 : Hp) (hm : P.follows .mixedOrders = true) (hN : dstOk N l.toArray = true) (hd : drawOk L A B l.toArray = true) (hu : upOk l.toArray = true)
    (hrun : RunDE P l.toArray L A B m (fun s h => AT n0 F s1 h1 s h) 0 l s h (held _)) (hy : WK P N n0 y Q s1 h1) : W P N n0 (.seq (.region id l.toArray true) y) Q s h k :=
  WP.seq (WP.mono (W.regionJ_ (L := L) (A := A) (B := B) (m := m) (k := held _) (Q := thenQ (fun s h => AT n0 F s1 h1 s h) (fun _ _ _ => False)) ⟨hm, hN, hd, hu, hrun⟩) fun e s h q => by
    cases e with
    | normal => exact WP.weak q hy
    | _ => exact q.elim)
attribute [go_sem] hop implies_true false_implies rdOp refB farB lightB List.contains_nil Bool.false_eq_true true_implies forall_const List.take_succ_cons List.take_zero and_true true_and
end Go.Vs
end

section
/-! Regions that draw their order: operations that look at, and turn, a few blocks each. -/
set_option linter.unusedVariables false
set_option linter.unusedSectionVars false
set_option linter.unusedSimpArgs false
namespace Go.Vs
variable [Tab]
variable {P : Program} {N n0 : Nat}

def patch (h2 : Hp) (W : List Nat) (h' : Hp) : Hp := W.foldl (fun g b => match h'[b]? with | some o => g.set b o | none => g) h2
abbrev FW := List (List Nat × List Nat)
def ft (fw : FW) (i : Nat) : List Nat := (fw.getD i ([], [])).1
def wr (fw : FW) (i : Nat) : List Nat := (fw.getD i ([], [])).2
def meets (a b : List Nat) : Bool := a.any b.contains
def touchL (fw : FW) (ops : Array Oper) (i j : Nat) (x y : Oper) : Bool := meets (wr fw i) (ft fw j) || meets (wr fw j) (ft fw i) || (match x.dst with | some d => (namesOf ops y).contains d | none => false) || (match y.dst with | some d => (namesOf ops x).contains d | none => false)
def drawL (fw : FW) (ops : Array Oper) : Bool :=
  ((List.range ops.size).all fun i => (wr fw i).all (ft fw i).contains) && (List.range ops.size).all fun j => (List.range j).all fun i =>
    match ops[i]?, ops[j]? with
    | some x, some y => !touchL fw ops i j x y || (cloOf ops ops.size j).contains i
    | _, _ => true
def drawLC (fw : FW) (C : List (List Nat)) (ops : Array Oper) : Bool :=
  ((List.range ops.size).all fun i => (wr fw i).all (ft fw i).contains) && (List.range ops.size).all fun j => (List.range j).all fun i =>
    match ops[i]?, ops[j]? with
    | some x, some y => !touchL fw ops i j x y || (C.getD j []).contains i
    | _, _ => true
def LStep (P : Program) (o : Oper) (ρ : Operand → AV) (h : Hp) (r : AV) (h' : Hp) (F W : List Nat) : Prop :=
  h'.length = h.length ∧ (∀ b : Nat, b ∉ W → h'[b]? = h[b]?) ∧ ∀ h2 : Hp, h2.length = h.length → (∀ b ∈ F, h2[b]? = h[b]?) → Step P o ρ h2 r (patch h2 W h')
def StepL (P : Program) (ops : Array Oper) (fw : FW) (S : Nat → Slots) (H : Nat → Hp) (R : Nat → AV) (j : Nat) (o : Oper) : Prop :=
  (guardA ops (S j) o = some true ∧ LStep P o (S j).ev (H j) (R j) (H (j + 1)) (ft fw j) (wr fw j)) ∨ (guardA ops (S j) o = some false ∧ R j = .tuple [] ∧ H (j + 1) = H j)
def RunL (P : Program) (ops : Array Oper) (fw : FW) (Q : Slots → Hp → Prop) : Nat → List Oper → Slots → Hp → Prop
  | _, [], s, h => Q s h
  | k, o :: rest, s, h =>
    match guardA ops s o with
    | some true => ∃ r h', LStep P o s.ev h r h' (ft fw k) (wr fw k) ∧ RunL P ops fw Q (k + 1) rest (s.put o.dst r) h'
    | some false => RunL P ops fw Q (k + 1) rest (s.put o.dst (.tuple [])) h
    | none => False
def CFL (P : Program) (ops : Array Oper) (fw : FW) (Q : Slots → Hp → Prop) (k n : Nat) (s : Slots) (h : Hp) : Prop :=
  ∃ (S : Nat → Slots) (H : Nat → Hp) (R : Nat → AV), S k = s ∧ H k = h ∧ Q (S (k + n)) (H (k + n)) ∧
    (∀ (j : Nat) o, k ≤ j → ops[j]? = some o → S (j + 1) = (S j).put o.dst (R j)) ∧ (∀ (j : Nat) o, k ≤ j → ops[j]? = some o → StepL P ops fw S H R j o)
def HD (fw : FW) (H : Nat → Hp) (listed : Array Bool) : Nat → Hp
  | 0 => H 0
  | j + 1 => if listed.getD j false = true then patch (HD fw H listed j) (wr fw j) (H (j + 1)) else HD fw H listed j
section
variable {ops : Array Oper} {fw : FW} {S : Nat → Slots} {H : Nat → Hp} {R : Nat → AV}
end
/-! ### .. reckoned -/
def inF (F : List Nat) (x : AV) : Bool := match refB x with | some b => F.contains b | none => true
def lightF (F : List Nat) (o : Op) (ρ : Operand → AV) : Bool := match rdOp o with | some l => l.all fun x => inF F (ρ x) | none => false
def lookB (P : Program) (b : Builtin) (ts : List TypeId) (rt : TypeId) (xs : List Operand) (ρ : Operand → AV) (F W : List Nat) (h : Hp) (K : AV → Hp → Prop) : Prop :=
  match b, ts, xs with
  | .unsafeSliceData, [t], [x] => inF F (ρ x) = true ∧ W = [] ∧ onS (sdA P rt h (ρ x)) fun r => K r h
  | .len, [t], [x] => inF F (ρ x) = true ∧ W = [] ∧ onS (lenA (ρ x)) fun n => ((match ρ x with | .str _ => isStr P t | _ => (elemOf' P t).isSome) = true ∧ staleB h (ρ x) = true) ∧ K (.int .i64 n) h
  | _, _, _ => False
theorem patch_one {h2 h' : Hp} {b : Nat} {o : LO} (h : h'[b]? = some o) : patch h2 [b] h' = h2.set b o := by
  show (match h'[b]? with | some o => h2.set b o | none => h2) = _
  rw [h]
/-! an append touches its block alone -/
theorem srcA_agreeF {F : List Nat} {h h2 : Hp} (e : ∀ b ∈ F, h2[b]? = h[b]?) {k : Nat} {x : AV} (hx : inF F x = true) : srcA h2 k x = srcA h k x := by
  cases x <;> try rfl
  rename_i b ver off k' len cap
  simp only [srcA]
  rw [e b (by simpa [inF, refB] using hx)]
def mslB : AV → Option Nat
  | .msl b _ _ _ _ _ => some b
  | _ => none
theorem LStep.app {o : Oper} {ρ : Operand → AV} {h : Hp} {t : TypeId} {s x : Operand} {b : Nat} {F : List Nat} {r : AV × Hp} (ho : o.op = .call { callee := .builtin .append, args := #[s, x], argTypes := #[t, t] })
    (hb : mslB (ρ s) = some b) (hF : b ∈ F) (hx : inF F (ρ x) = true) (hr : apA P t h (ρ s) (ρ x) = some r) : LStep P o ρ h r.1 r.2 F [b] := by
  have key : ∀ h2 : Hp, (∀ b ∈ F, h2[b]? = h[b]?) → ∃ X, b < h.length ∧ r.2 = h.set b X ∧ apA P t h2 (ρ s) (ρ x) = some (r.1, h2.set b X) := by
    intro h2 hee
    have e1 := hee b hF
    unfold apA at hr ⊢
    cases hs : ρ s <;> rw [hs] at hb <;> first | (cases hb; done) | skip
    rename_i b' ver off k len cap
    obtain rfl := Option.some.inj hb
    rw [hs] at hr
    simp only at hr ⊢
    rw [e1]
    split at hr
    · rename_i rs k2 v ty hh
      have hlt := (List.getElem?_eq_some_iff.1 hh).1
      simp only [Option.bind_eq_some_iff] at hr
      obtain ⟨e, he, k3, hk3, z, hz, bts, hbts, rows2, hsrc, hr⟩ := hr
      split at hr
      · rename_i hc
        obtain rfl := Option.some.inj hr
        refine ⟨_, hlt, rfl, ?_⟩
        simp only [he, hk3, hz, hbts, Option.bind_some, srcA_agreeF hee hx, hsrc, if_pos hc]
      · cases hr
    · cases hr
  obtain ⟨X, hlt, e1, _⟩ := key h fun _ _ => rfl
  refine ⟨by rw [e1]; simp, fun b' hb' => ?_, fun g hl hg => ?_⟩
  · rw [e1, List.getElem?_set, if_neg]
    intro e2; subst e2; simp at hb'
  · obtain ⟨X2, _, e2, e3⟩ := key g hg
    have e4 : X2 = X := by
      have := e1.symm.trans e2
      have h5 := congrArg (fun l : Hp => l[b]?) this
      simp [hlt] at h5
      exact h5.symm
    subst e4
    rw [patch_one (o := X2) (by rw [e2]; simp [hlt])]
    exact Step.append ho e3

/-! a call over blocks touches these alone -/
def callL (P : Program) (f : FuncId) (h : Hp) (xs : List AV) (F W : List Nat) (q : HowH) : Prop := (q.F = [] ∧ F = q.ns ∧ W = q.ns ∧ q.hc'.length = q.ns.length) ∧ callH P f h xs q
inductive Cl where
  | any
  | light
  | store
  | here (b : Nat)
  | call
  | look
  | lit
  | callh
  | app
  | appi
def evL (P : Program) (c : Cl) (F W : List Nat) (o : Oper) (ρ : Operand → AV) (h : Hp) (K : AV → Hp → Prop) : Prop :=
  match c with
  | .any => evS P o ρ h fun r h' => (h'.length = h.length ∧ F = List.range h.length ∧ W = F) ∧ K r h'
  | .light => lightF F o.op ρ = true ∧ W = [] ∧ evS P o ρ h fun r h' => h' = h ∧ K r h'
  | .store => match o.op with
    | .store t p x => ∃ b, refB (ρ p) = some b ∧ (F = [b] ∧ W = [b]) ∧ onS (tsz P t) fun n => n = (cellsOf (ρ x)).length ∧ (cellsOf (ρ x)).all oneB = true ∧ onS (stA h (ρ p) (cellsOf (ρ x))) fun h' => K .undef h'
    | _ => False
  | .here b => match o.op with
    | .alloc t => (h[b]? = some .hole ∧ F = [b] ∧ W = [b]) ∧ onS (tzero P t) fun z => K (.ptr b 0 0) (h.set b (.cells z 0 t))
    | .box t x => (h[b]? = some .hole ∧ F = [b] ∧ W = [b]) ∧ (cellsOf (ρ x)).all oneB = true ∧ K (.ptr b 0 0) (h.set b (.cells (cellsOf (ρ x)) 0 t))
    | .makeMap t none => (h[b]? = some .hole ∧ F = [b] ∧ W = [b]) ∧ K (.map b) (h.set b (.map []))
    | .buildSlice t n parts => (h[b]? = some .hole ∧ F = [b] ∧ W = [b]) ∧ onS (elemOf' P t) fun e => onS (tsz P e) fun k => onS (tzero P e) fun _ => (parts.toList.map (·.1) = List.range n ∧ k ≠ 0 ∧ n * k ≤ 16777216) ∧
        (rows1 k (parts.toList.map fun q => cellsOf (ρ q.2)) = true ∧ K (.msl b 1 0 k n n) (h.set b (.rows (parts.toList.map fun q => cellsOf (ρ q.2)) k 1 e)))
    | _ => False
  | .call => match o.op with
    | .call c => match c.callee with
      | .value (.func f) => fnOk P f = true ∧ W = [] ∧ pureBs (c.args.toList.map ρ) = true ∧ ∃ r, PureF P f (c.args.toList.map ρ) r ∧ K r h
      | _ => False
    | _ => False
  | .look => match o.op with
    | .call c => match c.callee with
      | .builtin b => lookB P b c.argTypes.toList o.type c.args.toList ρ F W h K
      | _ => False
    | _ => False
  | .app => match o.op with
    | .call c => match c.callee, c.args.toList, c.argTypes.toList with
      | .builtin .append, [s, x], [t, t'] => match F with
        | b :: F' => (t = t' ∧ W = [b] ∧ mslB (ρ s) = some b ∧ inF (b :: F') (ρ x) = true) ∧ onS (apA P t h (ρ s) (ρ x)) fun r => K r.1 r.2
        | [] => False
      | _, _, _ => False
    | _ => False
  | .appi => match o.op with
    | .call c => match c.callee, c.args.toList, c.argTypes.toList with
      | .builtin .append, [s, x], [t, t'] => (t = t' ∧ W = [] ∧ inF F (ρ x) = true) ∧ onS (apI P t h (ρ s) (ρ x)) fun r => K r h
      | _, _, _ => False
    | _ => False
  | .lit => match o.op with
    | .buildSlice t n parts => (F = [] ∧ W = []) ∧ onS (elemOf' P t) fun e => onS (tsz P e) fun k => onS (tzero P e) fun _ => (parts.toList.map (·.1) = List.range n ∧ k ≠ 0 ∧ n * k ≤ 16777216) ∧
        ((parts.toList.map fun q => ρ q.2).all (rowOk k) = true ∧ K (if n = 0 then .emp else .sl (parts.toList.map fun q => (cellsOf (ρ q.2)).map nz)) h)
    | _ => False
  | .callh => match o.op with
    | .call c => match c.callee with
      | .value (.func f) => fnOk P f = true ∧ ∃ q : HowH, callL P f h (c.args.toList.map ρ) F W q ∧ K (q.res h) (q.hp h)
      | _ => False
    | _ => False
theorem LStep.set {o : Oper} {ρ : Operand → AV} {h : Hp} {r : AV} {b : Nat} {x : LO} (hb : b < h.length) (hs : ∀ h2 : Hp, h2.length = h.length → h2[b]? = h[b]? → Step P o ρ h2 r (h2.set b x)) : LStep P o ρ h r (h.set b x) [b] [b] := by
  refine ⟨by simp, fun b' hb' => ?_, fun h2 hl he => ?_⟩
  · rw [List.getElem?_set, if_neg]; intro e; subst e; simp at hb'
  · rw [patch_one (o := x) (by simp [List.getElem?_set, hb])]
    exact hs h2 hl (he b (by simp))
def holesB : Hp → Hp → Bool
  | [], [] => true
  | .hole :: a, _ :: b => holesB a b
  | _, _ => false
@[go_sem] theorem holesB_nil : holesB [] [] = true := rfl
@[go_sem] theorem holesB_cons {a b : Hp} {o : LO} : holesB (.hole :: a) (o :: b) = holesB a b := rfl
def cl (cs : List Cl) (i : Nat) : Cl := cs.getD i .any
def evLK (P : Program) (c : Cl) (F W : List Nat) (o : Oper) (ρ : Operand → AV) (h : Hp) (K : AV → Hp → Prop) (_ : Hold (o, K)) : Prop := evL P c F W o ρ h K
def RunLE (P : Program) (ops : Array Oper) (cs : List Cl) (fw : FW) (Q : Slots → Hp → Prop) : Nat → (l : List Oper) → Slots → Hp → Hold (ops, Q, l) → Prop
  | _, [], s, h, _ => Q s h
  | i, o :: rest, s, h, _ => onG (guardA ops s o) (fun _ => evL P (cl cs i) (ft fw i) (wr fw i) o s.ev h fun r h' => RunLE P ops cs fw Q (i + 1) rest (s.put o.dst r) h' (held _)) (fun _ => RunLE P ops cs fw Q (i + 1) rest (s.put o.dst (.tuple [])) h (held _)) (held _)
section rules
variable {cs : List Cl} {fw : FW} {i : Nat} {ops : Array Oper} {Q : Slots → Hp → Prop} {rest : List Oper} {s : Slots} {h : Hp} {d : Option Nat} {ty : TypeId} {pos : String} {af : Array Edge} {g : Option (Nat × Bool)} {ρ : Operand → AV} {K : AV → Hp → Prop} {F W : List Nat}
@[go_sem] theorem RunLE_nil {k} : RunLE P ops cs fw Q i [] s h k = Q s h := rfl
@[go_sem] theorem RunLE_plain {op : Op} {k} : RunLE P ops cs fw Q i ({ dst := d, op := op, type := ty, pos := pos, after := af, guard := none } :: rest) s h k =
    evLK P (cl cs i) (ft fw i) (wr fw i) { dst := d, op := op, type := ty, pos := pos, after := af, guard := none } s.ev h (fun r h' => RunLE P ops cs fw Q (i + 1) rest (s.put d r) h' (held _)) (held _) := rfl
@[go_sem] theorem RunLE_guard {op : Op} {j : Nat} {want : Bool} {k} : RunLE P ops cs fw Q i ({ dst := d, op := op, type := ty, pos := pos, after := af, guard := some (j, want) } :: rest) s h k =
    onG (grdAt (dstAt ops j) s want) (fun _ => evLK P (cl cs i) (ft fw i) (wr fw i) { dst := d, op := op, type := ty, pos := pos, after := af, guard := some (j, want) } s.ev h (fun r h' => RunLE P ops cs fw Q (i + 1) rest (s.put d r) h' (held _)) (held _))
      (fun _ => RunLE P ops cs fw Q (i + 1) rest (s.put d (.tuple [])) h (held _)) (held _) := by
  have e : guardA ops s { dst := d, op := op, type := ty, pos := pos, after := af, guard := some (j, want) } = grdAt (dstAt ops j) s want := by
    simp only [guardA, dstAt, grdAt]
    cases (ops[j]?).bind (·.dst) with
    | none => rfl
    | some t => simp only [grd]; cases s.get t <;> first | rfl | (rename_i b; cases b <;> cases want <;> rfl)
  rw [← e]; rfl
@[go_sem] theorem evLK_any {o : Oper} {k} : evLK P .any F W o ρ h K k = evK P o ρ h (fun r h' => (h'.length = h.length ∧ F = List.range h.length ∧ W = F) ∧ K r h') (held _) := rfl
@[go_sem] theorem evLK_light {o : Oper} {k} : evLK P .light F W o ρ h K k = (lightF F o.op ρ = true ∧ W = [] ∧ evK P o ρ h (fun r h' => h' = h ∧ K r h') (held _)) := rfl
@[go_sem] theorem evLK_store {t : TypeId} {p x : Operand} {k} : evLK P .store F W { dst := d, op := .store t p x, type := ty, pos := pos, after := af, guard := g } ρ h K k = exP (fun b : Nat => refB (ρ p) = some b) (fun b => (F = [b] ∧ W = [b]) ∧ onS (tsz P t) fun n => n = (cellsOf (ρ x)).length ∧ (cellsOf (ρ x)).all oneB = true ∧ onS (stA h (ρ p) (cellsOf (ρ x))) fun h' => K .undef h') (held _) := rfl
@[go_sem] theorem exP_some {α : Type} {a : α} {K : α → Prop} {k} : exP (fun b : α => some a = some b) K k = K a := propext ⟨fun ⟨b, e, h⟩ => by obtain rfl := Option.some.inj e; exact h, fun h => ⟨a, rfl, h⟩⟩
@[go_sem] theorem evLK_alloc {t : TypeId} {b : Nat} {k} : evLK P (.here b) F W { dst := d, op := .alloc t, type := ty, pos := pos, after := af, guard := g } ρ h K k = ((h[b]? = some .hole ∧ F = [b] ∧ W = [b]) ∧ onS (tzero P t) fun z => K (.ptr b 0 0) (h.set b (.cells z 0 t))) := rfl
@[go_sem] theorem evLK_box {t : TypeId} {x : Operand} {b : Nat} {k} : evLK P (.here b) F W { dst := d, op := .box t x, type := ty, pos := pos, after := af, guard := g } ρ h K k = ((h[b]? = some .hole ∧ F = [b] ∧ W = [b]) ∧ (cellsOf (ρ x)).all oneB = true ∧ K (.ptr b 0 0) (h.set b (.cells (cellsOf (ρ x)) 0 t))) := rfl
@[go_sem] theorem evLK_call {f : FuncId} {as : Array Operand} {ts : Array TypeId} {k} : evLK P .call F W { dst := d, op := .call { callee := .value (.func f), args := as, argTypes := ts }, type := ty, pos := pos, after := af, guard := g } ρ h K k = (fnOk P f = true ∧ W = [] ∧ pureBs (as.toList.map ρ) = true ∧ exP (PureF P f (as.toList.map ρ)) (fun r => K r h) (held _)) := rfl
@[go_sem] theorem evLK_sliceData {t : TypeId} {x : Operand} {k} : evLK P .look F W { dst := d, op := .call { callee := .builtin .unsafeSliceData, args := #[x], argTypes := #[t] }, type := ty, pos := pos, after := af, guard := g } ρ h K k = (inF F (ρ x) = true ∧ W = [] ∧ onS (sdA P ty h (ρ x)) fun r => K r h) := rfl
@[go_sem] theorem evLK_len {t : TypeId} {x : Operand} {k} : evLK P .look F W { dst := d, op := .call { callee := .builtin .len, args := #[x], argTypes := #[t] }, type := ty, pos := pos, after := af, guard := g } ρ h K k = (inF F (ρ x) = true ∧ W = [] ∧ onS (lenA (ρ x)) fun n => ((match ρ x with | .str _ => isStr P t | _ => (elemOf' P t).isSome) = true ∧ staleB h (ρ x) = true) ∧ K (.int .i64 n) h) := rfl
@[go_sem] theorem evLK_map {t : TypeId} {b : Nat} {k} : evLK P (.here b) F W { dst := d, op := .makeMap t none, type := ty, pos := pos, after := af, guard := g } ρ h K k = ((h[b]? = some .hole ∧ F = [b] ∧ W = [b]) ∧ K (.map b) (h.set b (.map []))) := rfl
@[go_sem] theorem evLK_own {t : TypeId} {n b : Nat} {parts : Array (Nat × Operand)} {k} : evLK P (.here b) F W { dst := d, op := .buildSlice t n parts, type := ty, pos := pos, after := af, guard := g } ρ h K k = ((h[b]? = some .hole ∧ F = [b] ∧ W = [b]) ∧ onS (elemOf' P t) fun e => onS (tsz P e) fun k => onS (tzero P e) fun _ => (parts.toList.map (·.1) = List.range n ∧ k ≠ 0 ∧ n * k ≤ 16777216) ∧
        (rows1 k (parts.toList.map fun q => cellsOf (ρ q.2)) = true ∧ K (.msl b 1 0 k n n) (h.set b (.rows (parts.toList.map fun q => cellsOf (ρ q.2)) k 1 e)))) := rfl
@[go_sem] theorem evLK_app {t t' : TypeId} {s x : Operand} {b : Nat} {F' : List Nat} {k} : evLK P .app (b :: F') W { dst := d, op := .call { callee := .builtin .append, args := #[s, x], argTypes := #[t, t'] }, type := ty, pos := pos, after := af, guard := g } ρ h K k = ((t = t' ∧ W = [b] ∧ mslB (ρ s) = some b ∧ inF (b :: F') (ρ x) = true) ∧ onS (apA P t h (ρ s) (ρ x)) fun r => K r.1 r.2) := rfl
@[go_sem] theorem evLK_appi {t t' : TypeId} {s x : Operand} {k} : evLK P .appi F W { dst := d, op := .call { callee := .builtin .append, args := #[s, x], argTypes := #[t, t'] }, type := ty, pos := pos, after := af, guard := g } ρ h K k = ((t = t' ∧ W = [] ∧ inF F (ρ x) = true) ∧ onS (apI P t h (ρ s) (ρ x)) fun r => K r h) := rfl
attribute [go_sem] mslB List.head?_cons
@[go_sem] theorem evLK_lit {t : TypeId} {n : Nat} {parts : Array (Nat × Operand)} {k} : evLK P .lit F W { dst := d, op := .buildSlice t n parts, type := ty, pos := pos, after := af, guard := g } ρ h K k = ((F = [] ∧ W = []) ∧ onS (elemOf' P t) fun e => onS (tsz P e) fun k => onS (tzero P e) fun _ => (parts.toList.map (·.1) = List.range n ∧ k ≠ 0 ∧ n * k ≤ 16777216) ∧
        ((parts.toList.map fun q => ρ q.2).all (rowOk k) = true ∧ K (if n = 0 then .emp else .sl (parts.toList.map fun q => (cellsOf (ρ q.2)).map nz)) h)) := rfl
@[go_sem] theorem evLK_callh {f : FuncId} {as : Array Operand} {ts : Array TypeId} {k} : evLK P .callh F W { dst := d, op := .call { callee := .value (.func f), args := as, argTypes := ts }, type := ty, pos := pos, after := af, guard := g } ρ h K k = (fnOk P f = true ∧ exP (callL P f h (as.toList.map ρ) F W) (fun q => K (ren (nm q.ns h.length) q.r) (lay (kill q.F h) q.ns (q.hc'.map (renO (nm q.ns h.length))))) (held _)) := rfl
theorem callL.of {f : FuncId} {h : Hp} {xs : List AV} {F W : List Nat} {q : HowH} (h1 : (q.F = [] ∧ F = q.ns ∧ W = q.ns ∧ q.hc'.length = q.ns.length) ∧ (q.F.all (fun b => liveB h b) = true ∧ wkAs h q.F xs (rens (nm q.ns h.length) q.args) ∧ nodupB q.ns = true ∧ q.ns.all (fun n => decide (n < h.length)) = true ∧ pieces (kill q.F h) (nm q.ns h.length) q.ns q.hc ∧ q.ns.length ≤ q.hc'.length ∧ belowBs q.hc.length q.args = true ∧ belowH q.hc.length q.hc = true))
    (h2 : HF P f q.args q.hc q.r q.hc') : callL P f h xs F W q := ⟨h1.1, h1.2, h2⟩
@[go_sem] theorem cl_0 {c : Cl} {cs : List Cl} : cl (c :: cs) 0 = c := rfl
@[go_sem] theorem cl_s {c : Cl} {cs : List Cl} {n : Nat} : cl (c :: cs) (n + 1) = cl cs n := rfl
end rules
attribute [go_sem] ft wr inF lightF List.getD_cons_zero List.getD_cons_succ List.getD_nil
end Go.Vs
end

section
/-! The rules by which a view is weakened, for the run. -/
set_option linter.unusedVariables false
set_option linter.unusedSectionVars false
set_option linter.unusedSimpArgs false
namespace Go.Vs
variable [Tab]
variable {P : Program} {N n0 : Nat} {h : Hp} {F : List Nat}

@[go_sem] theorem wkS_undef {x : AV} : wkS h F x .undef = True := eq_true (.inr (.inl rfl))
@[go_sem] theorem wkS_self {x : AV} : wkS h F x x = True := eq_true (.inl rfl)
@[go_sem] theorem wkS_int {k k' : IntKind} {a b : Int} : wkS h F (.int k a) (.int k' b) = (k = k' ∧ a = b) := by
  simp [wkS, frz, frzd, frzp]; exact ⟨fun ⟨a, b⟩ => ⟨a.symm, b.symm⟩, fun ⟨a, b⟩ => ⟨a.symm, b.symm⟩⟩
@[go_sem] theorem wkS_bool {a b : Bool} : wkS h F (.bool a) (.bool b) = (a = b) := by
  simp [wkS, frz, frzd, frzp]; exact ⟨Eq.symm, Eq.symm⟩
@[go_sem] theorem wkS_str {a b : ByteArray} : wkS h F (.str a) (.str b) = (a = b) := by
  simp [wkS, frz, frzd, frzp]; exact ⟨Eq.symm, Eq.symm⟩
@[go_sem] theorem wkS_sl {a b : List (List AV)} : wkS h F (.sl a) (.sl b) = (a = b) := by
  simp [wkS, frz, frzd, frzp]; exact ⟨Eq.symm, Eq.symm⟩
@[go_sem] theorem wkS_nils_sl {b : List (List AV)} : wkS h F .nils (.sl b) = (b = []) := by simp [wkS, frz, frzd, frzp]
@[go_sem] theorem wkS_emp_sl {b : List (List AV)} : wkS h F .emp (.sl b) = (b = []) := by simp [wkS, frz, frzd, frzp]
@[go_sem] theorem wkS_nils_emp : wkS h F .nils .emp = True := by simp [wkS]
@[go_sem] theorem wk_emp {x : AV} : wk h F x .emp = wkS h F x .emp := by
  apply propext
  constructor
  · rintro (h1 | ⟨_, _, _, h1, _⟩ | ⟨_, _, _, h1, _⟩)
    · exact h1
    · cases h1
    · cases h1
  · exact .inl
@[go_sem] theorem wkS_nils_msl {b ver off k len cap : Nat} : wkS h F .nils (.msl b ver off k len cap) = (len = 0 ∧ cap = 0) := by
  simp [wkS, frz, frzd, frzp]
@[go_sem] theorem wkS_msl_sl {b ver off k len cap : Nat} {r : List (List AV)} : wkS h F (.msl b ver off k len cap) (.sl r) = (frz h F (.msl b ver off k len cap) = some r ∨ frzd h F (.msl b ver off k len cap) = some r) := by
  simp [wkS]
@[go_sem] theorem wkS_msl {b ver off k len cap b' ver' off' k' len' cap' : Nat} : wkS h F (.msl b ver off k len cap) (.msl b' ver' off' k' len' cap') = (b = b' ∧ ver = ver' ∧ off = off' ∧ k = k' ∧ len = len' ∧ cap = cap') := by
  simp [wkS]
  constructor
  · rintro ⟨rfl, rfl, rfl, rfl, rfl, rfl⟩; exact ⟨rfl, rfl, rfl, rfl, rfl, rfl⟩
  · rintro ⟨rfl, rfl, rfl, rfl, rfl, rfl⟩; exact ⟨rfl, rfl, rfl, rfl, rfl, rfl⟩
@[go_sem] theorem wkS_ptr_iptr {b ver off off' : Nat} {cs : List AV} : wkS h F (.ptr b ver off) (.iptr cs off') = (frzp h F (.ptr b ver off) = some (cs, off')) := by
  simp [wkS, frz, frzd]
@[go_sem] theorem wkS_iptr {off off' : Nat} {cs cs' : List AV} : wkS h F (.iptr cs off) (.iptr cs' off') = (cs = cs' ∧ off = off') := by
  simp [wkS, frz, frzd, frzp]; exact ⟨fun ⟨a, b⟩ => ⟨a.symm, b.symm⟩, fun ⟨a, b⟩ => ⟨a.symm, b.symm⟩⟩
@[go_sem] theorem wk_agg {xs ys : List AV} : wk h F (.agg xs) (.agg ys) = wkL h F xs ys := by
  apply propext
  constructor
  · rintro (h1 | ⟨_, _, h1, h2, h3⟩ | ⟨_, _, h1, _⟩)
    · simp [wkS, frz, frzd, frzp] at h1; subst h1; exact wkL_refl _
    · injection h1 with h1; injection h2 with h2; subst h1; subst h2; exact h3
    · cases h1
  · intro h1; exact .inr (.inl ⟨_, _, rfl, rfl, h1⟩)
@[go_sem] theorem wk_tuple {xs ys : List AV} : wk h F (.tuple xs) (.tuple ys) = wkL h F xs ys := by
  apply propext
  constructor
  · rintro (h1 | ⟨_, _, h1, _⟩ | ⟨_, _, h1, h2, h3⟩)
    · simp [wkS, frz, frzd, frzp] at h1; subst h1; exact wkL_refl _
    · cases h1
    · injection h1 with h1; injection h2 with h2; subst h1; subst h2; exact h3
  · intro h1; exact .inr (.inr ⟨_, _, rfl, rfl, h1⟩)
@[go_sem] theorem wk_undef {x : AV} : wk h F x .undef = True := eq_true (.inl (.inr (.inl rfl)))
@[go_sem] theorem wk_self {x : AV} : wk h F x x = True := eq_true (.inl (.inl rfl))
theorem wk_scal {x y : AV} (hy : ∀ ys, y ≠ .agg ys) (hy2 : ∀ ys, y ≠ .tuple ys) : wk h F x y = wkS h F x y := by
  apply propext
  constructor
  · rintro (h1 | ⟨_, _, _, h1, _⟩ | ⟨_, _, _, h1, _⟩)
    · exact h1
    · exact absurd h1 (hy _)
    · exact absurd h1 (hy2 _)
  · exact .inl
@[go_sem] theorem wk_int {x : AV} {k' : IntKind} {b : Int} : wk h F x (.int k' b) = wkS h F x (.int k' b) := wk_scal (by simp) (by simp)
@[go_sem] theorem wk_bool {x : AV} {b : Bool} : wk h F x (.bool b) = wkS h F x (.bool b) := wk_scal (by simp) (by simp)
@[go_sem] theorem wk_str {x : AV} {b : ByteArray} : wk h F x (.str b) = wkS h F x (.str b) := wk_scal (by simp) (by simp)
@[go_sem] theorem wk_sl {x : AV} {b : List (List AV)} : wk h F x (.sl b) = wkS h F x (.sl b) := wk_scal (by simp) (by simp)
@[go_sem] theorem wk_msl {x : AV} {b ver off k len cap : Nat} : wk h F x (.msl b ver off k len cap) = wkS h F x (.msl b ver off k len cap) := wk_scal (by simp) (by simp)
@[go_sem] theorem wk_ptr {x : AV} {b ver off : Nat} : wk h F x (.ptr b ver off) = wkS h F x (.ptr b ver off) := wk_scal (by simp) (by simp)
@[go_sem] theorem wk_iptr {x : AV} {cs : List AV} {off : Nat} : wk h F x (.iptr cs off) = wkS h F x (.iptr cs off) := wk_scal (by simp) (by simp)
@[go_sem] theorem wk_map {x : AV} {b : Nat} : wk h F x (.map b) = wkS h F x (.map b) := wk_scal (by simp) (by simp)
@[go_sem] theorem wkL_nil : wkL h F [] [] = True := rfl
@[go_sem] theorem wkL_cons {x y : AV} {xs ys : List AV} : wkL h F (x :: xs) (y :: ys) = (wkS h F x y ∧ wkL h F xs ys) := rfl
@[go_sem] theorem wkL_self {xs : List AV} : wkL h F xs xs = True := eq_true (wkL_refl xs)
theorem wkRows_refl : ∀ (rs : List (List AV)), wkRows h F rs rs
  | [] => trivial
  | r :: rs => ⟨wkL_refl r, wkRows_refl rs⟩
@[go_sem] theorem wkRows_self {rs : List (List AV)} : wkRows h F rs rs = True := eq_true (wkRows_refl rs)
@[go_sem] theorem wkRows_app {a b c : List (List AV)} : wkRows h F (a ++ b) (a ++ c) = wkRows h F b c := by
  induction a with
  | nil => rfl
  | cons x a ih => apply propext; simp only [List.cons_append, wkRows, ih]; exact ⟨fun h => h.2, fun h => ⟨wkL_refl _, h⟩⟩
@[go_sem] theorem wkRows_nil : wkRows h F [] [] = True := rfl
@[go_sem] theorem wkRows_cons {x y : List AV} {xs ys : List (List AV)} : wkRows h F (x :: xs) (y :: ys) = (wkL h F x y ∧ wkRows h F xs ys) := rfl
@[go_sem] theorem wkO_dead {b : Nat} {o : LO} : wkO h F b o .dead = True := by cases o <;> rfl
@[go_sem] theorem wkO_cells {b v v' : Nat} {t t' : TypeId} {cs cs' : List AV} : wkO h F b (.cells cs v t) (.cells cs' v' t') = (F.contains b = false ∧ v' = v ∧ t' = t ∧ wkL h F cs cs') := rfl
@[go_sem] theorem wkO_rows {b k k' v v' : Nat} {t t' : TypeId} {cs cs' : List (List AV)} : wkO h F b (.rows cs k v t) (.rows cs' k' v' t') = (F.contains b = false ∧ k' = k ∧ v' = v ∧ t' = t ∧ wkRows h F cs cs') := rfl
@[go_sem] theorem wkO_siter {b p p' : Nat} {s s' : ByteArray} : wkO h F b (.siter s p) (.siter s' p') = (F.contains b = false ∧ s' = s ∧ p' = p) := rfl
@[go_sem] theorem wkO_map {b : Nat} {e e' : List (AV × AV)} : wkO h F b (.map e) (.map e') = (F.contains b = false ∧ e' = e) := rfl
@[go_sem] theorem wkH_nil {b : Nat} {os : Hp} : wkH h F b os [] = True := by cases os <;> rfl
@[go_sem] theorem wkH_cons {b : Nat} {o o' : LO} {os os' : Hp} : wkH h F b (o :: os) (o' :: os') = (wkO h F b o o' ∧ wkH h F (b + 1) os os') := rfl
@[go_sem] theorem wkH_more {b : Nat} {o' : LO} {os' : Hp} : wkH h F b [] (o' :: os') = (emptyO o' = true ∧ wkH h F (b + 1) [] os') := rfl
@[go_sem] theorem wkSl_nil {s : Slots} : wkSl h F s [] = True := rfl
@[go_sem] theorem wkSl_cons {s s1 : Slots} {t : Nat} {v : AV} : wkSl h F s ((t, v) :: s1) = (wk h F (s.get t) v ∧ wkSl h F s s1) := rfl
theorem atP_iff {s1 : Slots} {h1 : Hp} {s : Slots} : AT0 n0 F s1 h1 s h = atP n0 F s1 h1 s h := propext ⟨fun ha => ⟨ha.2, ha.1.fr, ha.1.len, ha.1.sl, ha.1.hp, ha.1.blk, ha.1.sub⟩, AT0.of⟩
@[go_sem] theorem atP_eq {s1 : Slots} {h1 : Hp} {s : Slots} : AT0 n0 F s1 h1 s h = (F.all (fun b => match h[b]? with | some o => o.live | none => false) = true ∧ F.all (fun b => decide (b < h.length)) = true ∧ n0 ≤ h1.length ∧ belowS h1.length s1 = true ∧ belowH h1.length h1 = true ∧ wkH h F 0 h h1 ∧ wkSl h F s s1) := atP_iff
@[go_sem] theorem at_nil {s1 : Slots} {h1 : Hp} {s : Slots} : AT n0 ⟨F, []⟩ s1 h1 s h = AT0 n0 F s1 h1 s h := propext ⟨fun ⟨h2, e, a⟩ => by obtain rfl := Option.some.inj e; exact a, fun a => ⟨h, rfl, a⟩⟩
@[go_sem] theorem at_cons {g : Gh} {gs : List Gh} {s1 : Slots} {h1 : Hp} {s : Slots} : AT n0 ⟨F, g :: gs⟩ s1 h1 s h = onS (gh1 h g) fun h' => AT n0 ⟨F, gs⟩ s1 h1 s h' := by
  apply propext
  unfold AT
  simp only [ghs]
  cases gh1 h g with
  | none => constructor <;> intro h <;> first | (obtain ⟨_, e, _⟩ := h; cases e) | exact h.elim
  | some h' => rfl
attribute [go_sem] LO.live

def endP (P : Program) (fn : Func) (h : Hp) (F : List Nat) (l : List AV) (r : AV) : Prop := F.all (fun b => liveB h b) = true ∧ wk h F (one? l) r ∧ pureB r = true
theorem EndsF.retW {fn : Func} {r : AV} {s h} (F : List Nat) (hr : onS (resOf P s h fn.results.toList) fun l => (F.all (fun b => liveB h b) = true ∧ pureB r = true ∧ wk h F (one? l) r)) : EndsF P fn r .ret s h := by
  obtain ⟨x, hx, h1, h2, h3⟩ := onS_inv hr
  exact ⟨.inr rfl, x, hx, FR.of_wk h1 h3 h2⟩
attribute [go_sem] Option.map_none Option.isSome_some Option.bind_none eq_self decide_true decide_false List.range_zero List.append_eq List.cons_append List.nil_append beq_self_eq_true Bool.not_true Bool.not_false Bool.true_or Bool.false_or Bool.or_true Bool.or_false Bool.true_and Bool.false_and Bool.and_false rowOk pureBs List.contains_nil List.contains_cons implies_true List.map_nil List.headD_cons cond_true cond_false
attribute [go_sem] ones liveB frzp frz frzd frzC frzL frzR okC okL okR apA apI srcA Nat.le_refl mkA mslA slH slA bndsA bndO nextA strS tasA ixStr fdA evStr strAdd rows1_nil rows1_cons rows1_append nilEq scalT scalB

/-! ### What the plain functions are built of -/
def rd {α : Type} [Inhabited α] (l : List α) (i : Int) : α := l.getD i.toNat default
theorem rd_some {α : Type} [Inhabited α] {l : List α} {i : Int} (h : InB i l.length) : l[i.toNat]? = some (rd l i) := by
  rw [rd, List.getD_eq_getElem?_getD, List.getElem?_eq_getElem h.2]; rfl
@[go_sem] theorem map_rd {α β : Type} [Inhabited α] {f : α → β} {l : List α} {i : Int} (h : InB i l.length) : (l.map f)[i.toNat]? = some (f (rd l i)) := by
  rw [List.getElem?_map, rd_some h]; rfl
@[go_sem] theorem map_take' {α β : Type} {f : α → β} {l : List α} {n : Nat} : (l.map f).take n = (l.take n).map f := List.map_take.symm
@[go_sem] theorem map_drop' {α β : Type} {f : α → β} {l : List α} {n : Nat} : (l.map f).drop n = (l.drop n).map f := List.map_drop.symm
@[go_sem] theorem map_app' {α β : Type} {f : α → β} {l l' : List α} : (l ++ l').map f = l.map f ++ l'.map f := List.map_append
@[go_sem] theorem map_set' {α β : Type} {f : α → β} {l : List α} {n : Nat} {a : α} : (l.set n a).map f = (l.map f).set n (f a) := List.map_set
@[go_sem] theorem map_len' {α β : Type} {f : α → β} {l : List α} : (l.map f).length = l.length := List.length_map ..
@[go_sem] theorem map_rep' {α β : Type} {f : α → β} {n : Nat} {a : α} : (List.replicate n a).map f = List.replicate n (f a) := List.map_replicate
attribute [go_sem] List.length_append List.length_set List.length_replicate List.take_length Nat.zero_add Nat.add_zero List.append_nil Nat.sub_zero
@[go_sem] theorem take_all {α : Type} {l : List α} {n : Nat} (h : l.length = n) : l.take n = l := by subst h; exact List.take_length
theorem exB {K : Bool → Prop} {k : Hold K} (own : Bool) (hk : K own) : exP (fun _ : Bool => True) K k := ⟨own, trivial, hk⟩
theorem of_ite {α : Type} {p : Prop} [Decidable p] {x : Option α} {r : α} (h : (if p then x else none) = some r) : p ∧ x = some r := by
  split at h
  · exact ⟨by assumption, h⟩
  · cases h
theorem of_bind {α β : Type} {x : Option α} {f : α → Option β} {r : β} (h : x.bind f = some r) : ∃ a, x = some a ∧ f a = some r := Option.bind_eq_some_iff.1 h
theorem of_true {α : Type} {b : Bool} {x y z : α} (hb : b = true) (h : (if b = true then x else y) = z) : x = z := by rw [if_pos hb] at h; exact h
theorem of_false {α : Type} {b : Bool} {x y z : α} (hb : b = false) (h : (if b = true then x else y) = z) : y = z := by rw [hb] at h; exact h

/-! ### Blocks of several kinds -/
@[go_sem] theorem wkO_hole {b : Nat} : wkO h F b .hole .hole = True := rfl
attribute [go_sem] or_false false_or or_self or_true true_or
attribute [go_sem] wkAs plainB gh1 cellP putP foc1 fol1 clB Option.bind_some Option.bind_none Option.map_some List.length_map
attribute [go_sem] nodupB pieces renO ren rens lay nm List.zip_cons_cons
@[go_sem] theorem callQ_pure {f : FuncId} {xs : List AV} {q : How} : callQ P f h xs (.pure q) = callP P f h xs q := rfl
@[go_sem] theorem rens_closed {m : Nat → Nat} {α : Type} {f : α → List AV} {l : List α} (hf : ∀ x, rens m (f x) = f x) : (l.map f).map (rens m) = l.map f := by
  rw [List.map_map]; apply List.map_congr_left; intro x _; exact hf x
/-! texts as rows -/
attribute [go_sem] sB_length sB_app sB_nil
@[go_sem] theorem sB_rows1 {s : ByteArray} : rows1 1 (sB s) = true := by
  unfold sB; exact rows1_map (k := 1) (f := fun u : UInt8 => [.int .u8 u.toNat]) (fun _ => ⟨rfl, rfl⟩) _
@[go_sem] theorem sB_below {s : ByteArray} {n : Nat} : (sB s).all (belowBs n) = true := by
  unfold sB; simp only [List.all_map, List.all_eq_true]; intro x _; rfl
@[go_sem] theorem sB_cl {s : ByteArray} : (sB s).all clB = true := sB_below
@[go_sem] theorem sB_pure {s : ByteArray} : (sB s).all pureBs = true := by
  unfold sB; simp only [List.all_map, List.all_eq_true]; intro x _; rfl
@[go_sem] theorem sB_ren {s : ByteArray} {m : Nat → Nat} : (sB s).map (rens m) = sB s := by
  unfold sB; rw [List.map_map]; apply List.map_congr_left; intro x _; rfl
@[go_sem] theorem sB_take {s : ByteArray} {n : Nat} (hn : s.size = n) : (sB s).take n = sB s := by
  apply List.take_of_length_le; rw [sB_length]; omega
attribute [go_sem] apS sdA usOk
@[go_sem] theorem wkS_nilp_optp {b : Nat} : wkS h F .nilp (.optp b) = True := by simp [wkS]
/-! maps -/
def eKV {α β : Type} (f : α → AV) (g : β → AV) (p : α × β) : AV × AV := (f p.1, g p.2)
def mixS {β : Type} (l : List (ByteArray × β)) (k : ByteArray) : Option Nat := l.findIdx? fun p => decide (k = p.1)
def mixI {β : Type} (l : List (Int × β)) (k : Int) : Option Nat := l.findIdx? fun p => k == p.1
theorem lkI_strs {β : Type} {g : β → AV} {k : ByteArray} : ∀ (l : List (ByteArray × β)) (i : Nat), lkI (.str k) (l.map (eKV .str g)) i = some ((mixS l k).map (· + i))
  | [], i => rfl
  | p :: l, i => by
    simp only [List.map_cons, lkI, eKV, keyEq, mixS, List.findIdx?_cons]
    by_cases e : k = p.1
    · simp [e]
    · simp only [e, decide_false, Bool.false_eq_true, if_false]
      rw [lkI_strs l (i + 1)]
      simp only [mixS, Option.map_map]
      congr 2
      funext n; simp; omega
theorem lkI_ints {β : Type} {g : β → AV} {kd : IntKind} {k : Int} : ∀ (l : List (Int × β)) (i : Nat), lkI (.int kd k) (l.map (eKV (.int kd) g)) i = some ((mixI l k).map (· + i))
  | [], i => rfl
  | p :: l, i => by
    simp only [List.map_cons, lkI, eKV, keyEq, mixI, List.findIdx?_cons, if_true]
    by_cases e : k = p.1
    · simp [e]
    · have : (k == p.1) = false := by simpa using e
      simp only [this, Bool.false_eq_true, if_false]
      rw [lkI_ints l (i + 1)]
      simp only [mixI, Option.map_map]
      congr 2
      funext n; simp; omega
@[go_sem] theorem lkI_str0 {β : Type} {g : β → AV} {k : ByteArray} {l : List (ByteArray × β)} : lkI (.str k) (l.map (eKV .str g)) 0 = some (mixS l k) := by rw [lkI_strs]; simp
@[go_sem] theorem lkI_int0 {β : Type} {g : β → AV} {kd : IntKind} {k : Int} {l : List (Int × β)} : lkI (.int kd k) (l.map (eKV (.int kd) g)) 0 = some (mixI l k) := by rw [lkI_ints]; simp
def mat {α β : Type} (l : List (α × β)) (n : Option Nat) : Option β := n.bind fun n => (l[n]?).map (·.2)
@[go_sem] theorem mapV_typed {α β : Type} {f : α → AV} {g : β → AV} {l : List (α × β)} {n : Option Nat} : mapV (l.map (eKV f g)) n = (mat l n).map g := by
  cases n with
  | none => rfl
  | some n => simp only [mapV, mat, Option.bind_some, List.getElem?_map, Option.map_map]; rfl
def mst {α β : Type} (l : List (α × β)) (n : Option Nat) (k : α) (b : β) : List (α × β) := match n with | none => l ++ [(k, b)] | some n => l.set n (k, b)
theorem mput_typed {α β : Type} {f : α → AV} {g : β → AV} {l : List (α × β)} {n : Option Nat} {k : α} {b : β} : mput (l.map (eKV f g)) n (f k) (g b) = (mst l n k b).map (eKV f g) := by
  cases n with
  | none => simp [mput, mst, eKV]
  | some n => simp [mput, mst, eKV, List.map_set]
@[go_sem] theorem mput_sb {l : List (ByteArray × Bool)} {n : Option Nat} {k : ByteArray} {b : Bool} : mput (l.map (eKV .str .bool)) n (.str k) (.bool b) = (mst l n k b).map (eKV .str .bool) := mput_typed
@[go_sem] theorem mput_si {i : IntKind} {l : List (ByteArray × Int)} {n : Option Nat} {k : ByteArray} {b : Int} : mput (l.map (eKV .str (.int i))) n (.str k) (.int i b) = (mst l n k b).map (eKV .str (.int i)) := mput_typed
@[go_sem] theorem mput_ii {i j : IntKind} {l : List (Int × Int)} {n : Option Nat} {k : Int} {b : Int} : mput (l.map (eKV (.int j) (.int i))) n (.int j k) (.int i b) = (mst l n k b).map (eKV (.int j) (.int i)) := mput_typed
@[go_sem] theorem lkR_one {v : Option AV} {z : AV} : lkR v z false = v.getD z := rfl
@[go_sem] theorem lkR_two {v : Option AV} {z : AV} : lkR v z true = .tuple [v.getD z, .bool v.isSome] := rfl
@[go_sem] theorem mapO_bool {o : Option Bool} {z : Bool} : (o.map AV.bool).getD (.bool z) = .bool (o.getD z) := by cases o <;> rfl
@[go_sem] theorem mapO_int {i : IntKind} {o : Option Int} {z : Int} : (o.map (AV.int i)).getD (.int i z) = .int i (o.getD z) := by cases o <;> rfl
@[go_sem] theorem mapO_str {o : Option ByteArray} {z : ByteArray} : (o.map AV.str).getD (.str z) = .str (o.getD z) := by cases o <;> rfl
@[go_sem] theorem mapO_some {α β : Type} {f : α → β} {o : Option α} : (o.map f).isSome = o.isSome := by cases o <;> rfl
@[go_sem] theorem mapP_bool {o : Option Bool} : (o.map AV.bool).all plainB = true := by cases o <;> rfl
@[go_sem] theorem mapP_int {i : IntKind} {o : Option Int} : (o.map (AV.int i)).all plainB = true := by cases o <;> rfl
@[go_sem] theorem mapP_str {o : Option ByteArray} : (o.map AV.str).all plainB = true := by cases o <;> rfl
@[go_sem] theorem map_nil_sb : LO.map [] = LO.map (([] : List (ByteArray × Bool)).map (eKV .str .bool)) ↔ True := ⟨fun _ => trivial, fun _ => rfl⟩
attribute [go_sem] lkA mapAt muA
@[go_sem] theorem keyKd_str {t : TypeId} {s : ByteArray} : keyKd P t (.str s) = isStr P t := rfl
@[go_sem] theorem keyKd_int {t : TypeId} {k : IntKind} {n : Int} : keyKd P t (.int k n) = (intKind P t).isSome := by simp only [keyKd, intKind]; cases P.underlying t with | none => rfl | some d => cases d <;> rfl
@[go_sem] theorem keyKd_bool {t : TypeId} {b : Bool} : keyKd P t (.bool b) = isBool P t := rfl
theorem all_eKV {α β : Type} {n : Nat} {f : α → AV} {g : β → AV} (hf : ∀ x, belowB n (f x) = true) (hg : ∀ x, belowB n (g x) = true) (l : List (α × β)) : (l.map (eKV f g)).all (fun e => belowB n e.1 && belowB n e.2) = true := by
  simp only [List.all_map, List.all_eq_true]; intro x _; simp [eKV, hf, hg]
@[go_sem] theorem all_sb {n : Nat} {l : List (ByteArray × Bool)} : (l.map (eKV AV.str AV.bool)).all (fun e => belowB n e.1 && belowB n e.2) = true := all_eKV (fun _ => rfl) (fun _ => rfl) l
@[go_sem] theorem all_si {n : Nat} {i : IntKind} {l : List (ByteArray × Int)} : (l.map (eKV AV.str (AV.int i))).all (fun e => belowB n e.1 && belowB n e.2) = true := all_eKV (fun _ => rfl) (fun _ => rfl) l
@[go_sem] theorem all_ii {n : Nat} {i j : IntKind} {l : List (Int × Int)} : (l.map (eKV (AV.int j) (AV.int i))).all (fun e => belowB n e.1 && belowB n e.2) = true := all_eKV (fun _ => rfl) (fun _ => rfl) l
theorem ren_eKV {α β : Type} {m : Nat → Nat} {f : α → AV} {g : β → AV} (hf : ∀ x, ren m (f x) = f x) (hg : ∀ x, ren m (g x) = g x) (l : List (α × β)) : (l.map (eKV f g)).map (fun e => (ren m e.1, ren m e.2)) = l.map (eKV f g) := by
  rw [List.map_map]; apply List.map_congr_left; intro x _; simp [eKV, hf, hg]
@[go_sem] theorem ren_sb {m : Nat → Nat} {l : List (ByteArray × Bool)} : (l.map (eKV AV.str AV.bool)).map (fun e => (ren m e.1, ren m e.2)) = l.map (eKV AV.str AV.bool) := ren_eKV (fun _ => rfl) (fun _ => rfl) l

/-! ### The run, by itself -/
theorem RO {p : Prop} (h : p := by
    repeat' (first
      | exact True.intro
      | simp -implicitDefEqProofs -dsimp only [go_sem, ↓reduceIte, Nat.reduceAdd, Nat.reduceMul, Nat.reduceSub, Nat.reduceEqDiff, Nat.reduceLeDiff, Nat.reduceLT, Nat.reduceBEq, Int.reduceEq, reduceCtorEq, *]
      | (with_reducible refine exP.mk _ (callQ.plain (by simp -implicitDefEqProofs -dsimp only [go_sem, ↓reduceIte, Nat.reduceAdd, Nat.reduceMul, Nat.reduceSub, Nat.reduceEqDiff, Nat.reduceLeDiff, Nat.reduceLT, Nat.reduceBEq, Int.reduceEq, reduceCtorEq, *]) (by assumption)) ?_)
      | (with_reducible refine exP.mk _ (callQ.plain (by simp -implicitDefEqProofs -dsimp only [go_sem, ↓reduceIte, Nat.reduceAdd, Nat.reduceMul, Nat.reduceSub, Nat.reduceEqDiff, Nat.reduceLeDiff, Nat.reduceLT, Nat.reduceBEq, Int.reduceEq, reduceCtorEq, *]) (‹_ = true → PureF _ _ _ _› (by simp -implicitDefEqProofs -dsimp only [go_sem, ↓reduceIte, Nat.reduceAdd, Nat.reduceMul, Nat.reduceSub, Nat.reduceEqDiff, Nat.reduceLeDiff, Nat.reduceLT, Nat.reduceBEq, Int.reduceEq, reduceCtorEq, *]))) ?_)
      | (with_reducible refine exP.mk _ (by assumption) ?_)
      | (with_reducible refine exB false ?_; simp -implicitDefEqProofs -dsimp only [go_sem, ↓reduceIte, Nat.reduceAdd, Nat.reduceMul, Nat.reduceSub, Nat.reduceEqDiff, Nat.reduceLeDiff, Nat.reduceLT, Nat.reduceBEq, Int.reduceEq, reduceCtorEq, *]; fail_if_success (show False))
      | (with_reducible refine exB true ?_)
      | (with_reducible refine onG_splitN (fun _ => ?_) (fun _ => ?_))
      | (with_reducible refine onG_split (fun _ => ?_) (fun _ => ?_))
      | (simp_all; done))) : p := h
theorem of_let {α β : Type} {x : α} {f : α → Option β} {r : β} (h : (some x).bind f = some r) : ∃ a, a = x ∧ f a = some r := ⟨x, rfl, h⟩
theorem W.sq {id} {l : List Oper} {y s h Q k} (F : List Nat) (s1 : Slots) (h1 : Hp) (hy : WK P N n0 y Q s1 h1) (hN : dstOk N l.toArray = true := by rfl)
    (hrun : RunE P l.toArray (fun s h => AT n0 ⟨F, []⟩ s1 h1 s h) l s h (held _) := by exact RO) : W P N n0 (.seq (.region id l.toArray false) y) Q s h k := W.seqR ⟨F, []⟩ s1 h1 hN hrun hy
theorem W.rg {id} {l : List Oper} {s h Q k} (F : List Nat) (s1 : Slots) (h1 : Hp) (hy : Q .normal s1 h1) (hN : dstOk N l.toArray = true := by rfl)
    (hrun : RunE P l.toArray (fun s h => AT n0 ⟨F, []⟩ s1 h1 s h) l s h (held _) := by exact RO) : W P N n0 (.region id l.toArray false) Q s h k := W.regL ⟨F, []⟩ s1 h1 hN hrun hy
theorem W.sqJ {id} {l : List Oper} {y s h Q k} (L A B : List Nat) (m : Nat) (F : List Nat) (s1 : Slots) (h1 : Hp) (hm : P.follows .mixedOrders = true) (hy : WK P N n0 y Q s1 h1) (hN : dstOk N l.toArray = true := by rfl) (hd : drawOk L A B l.toArray = true := by kernel_rfl) (hu : upOk l.toArray = true := by kernel_rfl)
    (hrun : RunDE P l.toArray L A B m (fun s h => AT n0 ⟨F, []⟩ s1 h1 s h) 0 l s h (held _) := by exact RO) : W P N n0 (.seq (.region id l.toArray true) y) Q s h k := W.seqJ L A B m ⟨F, []⟩ s1 h1 hm hN hd hu hrun hy
theorem W.cnd {c x y s h Q k} (b : Bool) (ht : b = true → WK P N n0 x Q s h) (hf : b = false → WK P N n0 y Q s h) (hc : s.ev c = .bool b := by simp only [ev_tmp, get_cons, ↓reduceIte, Nat.reduceEqDiff]) : W P N n0 (.cond c x y) Q s h k := W.cond b hc ht hf

/-! ### Calls over blocks, the view turned ahead of them and behind -/
attribute [go_sem] ghs rnms rnm1 rv rvs Option.getD_some
@[go_sem] theorem hw_res_gheap {g g' : List Gh} {q : HowH} : Hw.res h (.gheap g q g') = ren (nm q.ns ((ghs h g).getD []).length) q.r := rfl
@[go_sem] theorem hw_hp_gheap {g g' : List Gh} {q : HowH} : Hw.hp h (.gheap g q g') = (ghs (lay (kill q.F ((ghs h g).getD [])) q.ns (q.hc'.map (renO (nm q.ns ((ghs h g).getD []).length)))) g').getD [] := rfl
@[go_sem] theorem rd_set {α β : Type} {f : α → β} {l : List α} {i : Int} {x : β} (h : InB i l.length) : ((l.map f).set i.toNat x)[i.toNat]? = some x := by
  rw [List.getElem?_set_self]; simpa using h.2
attribute [go_sem] List.set_set
@[go_sem] theorem rd_end {β : Type} {l : List β} {n : Nat} {x : β} (h : l.length = n) : (l ++ [x])[n]? = some x := by subst h; simp
@[go_sem] theorem set_end {β : Type} {l : List β} {n : Nat} {x y : β} (h : l.length = n) : (l ++ [x]).set n y = l ++ [y] := by subst h; simp
@[go_sem] theorem true_bne {b : Bool} : (true != b) = !b := by cases b <;> rfl
@[go_sem] theorem false_bne {b : Bool} : (false != b) = b := by cases b <;> rfl
@[go_sem] def oSl {α : Type} (k : Nat) (ty : TypeId) (f : α → List AV) (l : List α) : List AV := [.boxsl (l.map f) k ty]
theorem below_o {α : Type} {f : α → List AV} (hf : ∀ x n, belowBs n (f x) = true) (n : Nat) (l : List α) : (l.map f).all (belowBs n) = true := by simp only [List.all_map, List.all_eq_true]; intro x _; exact hf x n
theorem cl_o {α : Type} {f : α → List AV} (hf : ∀ x n, belowBs n (f x) = true) (l : List α) : (l.map f).all clB = true := by simp only [List.all_map, List.all_eq_true]; intro x _; exact hf x 0
theorem len_o {α : Type} {k : Nat} {f : α → List AV} (hf : ∀ x, (f x).length = k) (l : List α) : (l.map f).all (·.length == k) = true := by simp only [List.all_map, List.all_eq_true]; intro x _; simp [hf x]
theorem ren_o {α : Type} {f : α → List AV} {m : Nat → Nat} (h : ∀ x, rens m (f x) = f x) (l : List α) : (l.map f).map (rens m) = l.map f := by rw [List.map_map]; exact List.map_congr_left fun x _ => h x
@[go_sem] theorem ren_oSl {α : Type} {k : Nat} {ty : TypeId} {f : α → List AV} {m : Nat → Nat} (l : List (List α)) : (l.map (oSl k ty f)).map (rens m) = l.map (oSl k ty f) := ren_o (fun _ => rfl) l
@[go_sem] theorem tnI_0 : tnI 0 = 0 := rfl
@[go_sem] theorem tnI_1 : tnI 1 = 1 := rfl
@[go_sem] theorem tnI_2 : tnI 2 = 2 := rfl
@[go_sem] theorem tnI_3 : tnI 3 = 3 := rfl
@[go_sem] theorem tnI_4 : tnI 4 = 4 := rfl
@[go_sem] theorem tnI_5 : tnI 5 = 5 := rfl
@[go_sem] theorem tnI_6 : tnI 6 = 6 := rfl
@[go_sem] theorem tnI_7 : tnI 7 = 7 := rfl
@[go_sem] theorem tnI_8 : tnI 8 = 8 := rfl
@[go_sem] theorem tnI_9 : tnI 9 = 9 := rfl
@[go_sem] theorem tnI_10 : tnI 10 = 10 := rfl
@[go_sem] theorem tnI_11 : tnI 11 = 11 := rfl
@[go_sem] theorem tnI_12 : tnI 12 = 12 := rfl
@[go_sem] theorem tnI_13 : tnI 13 = 13 := rfl
@[go_sem] theorem tnI_14 : tnI 14 = 14 := rfl
@[go_sem] theorem tnI_15 : tnI 15 = 15 := rfl
attribute [go_sem] Nat.mul_one
@[go_sem] theorem below_oSl {α : Type} {k : Nat} {ty : TypeId} {f : α → List AV} (n : Nat) (l : List (List α)) : (l.map (oSl k ty f)).all (belowBs n) = true := below_o (fun _ _ => rfl) n l
@[go_sem] theorem cl_oSl {α : Type} {k : Nat} {ty : TypeId} {f : α → List AV} (l : List (List α)) : (l.map (oSl k ty f)).all clB = true := cl_o (fun _ _ => rfl) l
@[go_sem] theorem len_oSl {α : Type} {k : Nat} {ty : TypeId} {f : α → List AV} (l : List (List α)) : (l.map (oSl k ty f)).all (·.length == 1) = true := len_o (k := 1) (f := oSl k ty f) (fun _ => rfl) l
end Go.Vs
end

section
/-! Data that come in, as abstract values of their types. -/
set_option linter.unusedVariables false
set_option linter.unusedSectionVars false
set_option linter.unusedSimpArgs false
namespace Go.Vs
variable [Tab]
variable {P : Program} {H : Type} {enc : TypeId × Value → H}

def HasT (P : Program) : Nat → TypeId → List AV → Prop
  | 0, _, _ => False
  | n + 1, t, xs => match P.underlying t with
    | some .bool => ∃ b, xs = [.bool b]
    | some (.int k) => ∃ i, xs = [.int k i] ∧ (Lit.int k i).wf = true
    | some .string => ∃ s : ByteArray, xs = [.str s] ∧ s.size ≤ maxLen
    | some (.slice e) => ∃ rows, xs = [.sl rows] ∧ rows.length ≤ maxLen ∧ ∀ r ∈ rows, HasT P n e r
    | some (.struct fs) => HasF (fun t => HasT P n t) fs.toList xs
    | some (.array m e) => ∃ rows : List (List AV), xs = rows.flatten ∧ rows.length = m ∧ ∀ r ∈ rows, HasT P n e r
    | _ => False
where
  HasF (g : TypeId → List AV → Prop) : List Field → List AV → Prop
    | [], xs => xs = []
    | f :: fs, xs => ∃ a b, xs = a ++ b ∧ g f.type a ∧ HasF g fs b

def plainT (P : Program) : Nat → TypeId → Bool
  | 0, _ => false
  | n + 1, t => match P.underlying t with
    | some .bool | some (.int _) | some .string => true
    | some (.slice e) => plainT P n e && decide (1 ≤ P.cellsOf e)
    | some (.struct fs) => tilesF (fun t => plainT P n t) P 0 fs.toList == some (P.cellsOf t)
    | some (.array m e) => plainT P n e && decide (P.cellsOf t = m * P.cellsOf e)
    | _ => false
where
  tilesF (g : TypeId → Bool) (P : Program) : Nat → List Field → Option Nat
    | pos, [] => some pos
    | pos, f :: fs => if f.offset = pos ∧ g f.type = true then tilesF g P (pos + P.cellsOf f.type) fs else none

def CRl (I : Nat → Prop) (w : World) (xs : List AV) (cs : List Value) : Prop := xs.length = cs.length ∧ ∀ (j : Nat) x y, xs[j]? = some x → cs[j]? = some y → VR I w Io.nil x y
theorem CRl.one {I w x y} (h : VR I w Io.nil x y) : CRl I w [x] [y] := ⟨rfl, fun j a b ha hb => by
  cases j with
  | zero => simp at ha hb; subst ha; subst hb; exact h
  | succ j => simp at ha⟩
theorem CRl.append {I w a b c d} (h : CRl I w a c) (h' : CRl I w b d) : CRl I w (a ++ b) (c ++ d) := by
  refine ⟨by simp [h.1, h'.1], fun j x y hx hy => ?_⟩
  rw [List.getElem?_append] at hx hy
  by_cases e : j < a.length
  · rw [if_pos e] at hx; rw [if_pos (by rw [← h.1]; exact e)] at hy; exact h.2 j x y hx hy
  · rw [if_neg e] at hx; rw [if_neg (by rw [← h.1]; exact e), ← h.1] at hy; exact h'.2 _ x y hx hy

theorem cells?_get {w : World} {base : Nat} {a : Addr} {n : Nat} {cs : List Value} (h : w.cells? base a n = some cs) : cs.length = n ∧ ∀ (j : Nat) y, cs[j]? = some y → w.cell? (a.add j) = some y := by
  unfold World.cells? at h
  split at h
  · obtain ⟨h1, h2⟩ := mapM_opt _ _ h
    refine ⟨by simpa using h1, fun j y hj => ?_⟩
    obtain ⟨x, hx, hg⟩ := h2 j y hj
    have : x = j := by
      have hlt := (List.getElem?_eq_some_iff.1 hx).1
      simp at hlt
      rw [List.getElem?_range hlt] at hx
      exact (Option.some.inj hx).symm
    subst this; exact hg
  · cases h

theorem cell_lt {w : World} {a : Addr} {v : Value} (h : w.cell? a = some v) : a.block < w.heap.size ∧ a.spot = none := by
  unfold World.cell? at h
  split at h
  · rename_i c _ _ hc
    split at h
    · cases h
    · rename_i hs
      exact ⟨(Array.getElem?_eq_some_iff.1 hc).1, by cases e : a.spot <;> simp_all⟩
  · cases h

theorem tiles_le {g : TypeId → Bool} : ∀ (l : List Field) (pos tot : Nat), plainT.tilesF g P pos l = some tot → pos ≤ tot
  | [], pos, tot, h => by simp [plainT.tilesF] at h; omega
  | f :: l, pos, tot, h => by
    simp only [plainT.tilesF] at h
    split at h
    · have := tiles_le l _ _ h; omega
    · cases h

theorem tiles_real {I : Nat → Prop} {w : World} {G : TypeId → List AV → Prop} {g : TypeId → Bool} {T : TypeId → List Value → Prop} {cs : List Value}
    (ih : ∀ t c, g t = true → T t c → ∃ xs, G t xs ∧ CRl I w xs c) : ∀ (l : List Field) (pos tot : Nat), plainT.tilesF g P pos l = some tot →
    (∀ f ∈ l, T f.type ((cs.drop f.offset).take (P.cellsOf f.type))) → ∃ xs, HasT.HasF G l xs ∧ CRl I w xs ((cs.drop pos).take (tot - pos))
  | [], pos, tot, h, _ => by
    simp only [plainT.tilesF, Option.some.injEq] at h; subst h
    exact ⟨[], rfl, by simp [CRl]⟩
  | f :: l, pos, tot, h, hT => by
    simp only [plainT.tilesF] at h
    split at h
    · rename_i hc
      obtain ⟨hoff, hg⟩ := hc
      have hle := tiles_le l _ _ h
      obtain ⟨a, ha, hca⟩ := ih f.type _ hg (hT f (List.mem_cons_self ..))
      obtain ⟨b, hb, hcb⟩ := tiles_real ih l _ _ h fun f hf => hT f (List.mem_cons_of_mem _ hf)
      refine ⟨a ++ b, ⟨a, b, rfl, ha, hb⟩, ?_⟩
      have e : (cs.drop pos).take (tot - pos) = (cs.drop pos).take (P.cellsOf f.type) ++ (cs.drop (pos + P.cellsOf f.type)).take (tot - (pos + P.cellsOf f.type)) := by
        rw [show tot - pos = P.cellsOf f.type + (tot - (pos + P.cellsOf f.type)) by omega, List.take_add, List.drop_drop]
      rw [e]
      rw [hoff] at hca
      exact hca.append hcb
    · cases h

theorem trod_typed {w : World} {base : Nat} {sp : Nat → Bool} {held : Bool} : ∀ (n fuel : Nat) (t : TypeId) (cs : List Value) (x : DataW H × List MemPlace), plainT P n t = true →
    DataW.trod enc P w base sp held fuel t cs = some x → ∃ xs, HasT P n t xs ∧ CRl (fun c => c < w.heap.size) w xs cs := by
  intro n
  induction n with
  | zero => intro fuel t cs x h; simp [plainT] at h
  | succ n ih =>
    intro fuel t cs x hp h
    unfold plainT at hp
    split at hp
    · rename_i hu
      obtain ⟨b, rfl, _⟩ := DataW.trod_bool hu h
      exact ⟨[.bool b], by simp [HasT, hu], CRl.one (.bool b)⟩
    · rename_i k hu
      obtain ⟨i, rfl, _, hw⟩ := DataW.trod_int hu h
      exact ⟨[.int k i], by simp [HasT, hu, hw], CRl.one (.int k i)⟩
    · rename_i hu
      obtain ⟨s, rfl, _, hs⟩ := DataW.trod_string hu h
      exact ⟨[.str s], by simp [HasT, hu, hs], CRl.one (.str s)⟩
    · rename_i e hu
      simp only [Bool.and_eq_true, decide_eq_true_eq] at hp
      obtain ⟨hpe, h1⟩ := hp
      rcases DataW.trod_slice hu h with ⟨rfl, _⟩ | ⟨a, len, cap, elems, rest, m, rfl, rfl, _, hba, hlc, hcm, hel, hget, _⟩
      · exact ⟨[.sl []], by simp [HasT, hu], CRl.one .sl0⟩
      · by_cases h0 : len = 0
        · subst h0
          exact ⟨[.sl []], by simp [HasT, hu], CRl.one .sl0⟩
        · have hall : ∀ i, ∃ row, i < len → HasT P n e row ∧ ∃ csi, w.cells? base (a.add (i * P.cellsOf e)) (P.cellsOf e) = some csi ∧ CRl (fun c => c < w.heap.size) w row csi := by
            intro i
            by_cases hi : i < len
            · have hb := hget i hi
              rw [List.getElem?_eq_getElem (by omega)] at hb
              obtain ⟨csi, hc1, hc2⟩ := Option.bind_eq_some_iff.1 hb
              obtain ⟨row, hr1, hr2⟩ := ih m e csi _ hpe hc2
              exact ⟨row, fun _ => ⟨hr1, csi, hc1, hr2⟩⟩
            · exact ⟨[], fun h => absurd h hi⟩
          have hrows : ∀ (i : Nat) r, ((List.range len).map fun i => Classical.choose (hall i))[i]? = some r → i < len ∧ HasT P n e r ∧ ∃ csi, w.cells? base (a.add (i * P.cellsOf e)) (P.cellsOf e) = some csi ∧ CRl (fun c => c < w.heap.size) w r csi := by
            intro i r hr
            have hi : i < len := by
              have := (List.getElem?_eq_some_iff.1 hr).1; simpa using this
            simp only [List.getElem?_map, List.getElem?_range hi, Option.map_some, Option.some.injEq] at hr
            subst hr
            exact ⟨hi, Classical.choose_spec (hall i) hi⟩
          have hlen : ((List.range len).map fun i => Classical.choose (hall i)).length = len := by simp
          generalize (List.range len).map (fun i => Classical.choose (hall i)) = rows at hrows hlen
          have hspot : a.spot = none ∧ a.block < w.heap.size := by
            obtain ⟨_, _, csi, hc, hcr⟩ := hrows 0 rows[0] (by rw [List.getElem?_eq_getElem])
            obtain ⟨l1, l2⟩ := cells?_get hc
            have h2 := l2 0 csi[0] (by rw [List.getElem?_eq_getElem])
            have := cell_lt h2
            simp [Addr.add] at this
            exact ⟨this.2, this.1⟩
          obtain ⟨ab, ao, asp⟩ := a
          simp only at hspot
          obtain ⟨rfl, hlt⟩ := hspot
          refine ⟨[.sl rows], ?_, CRl.one (.sl (P.cellsOf e) ab ao cap hlt hlen hlc ?_ ?_ ?_)⟩
          · simp only [HasT, hu]
            refine ⟨rows, rfl, by omega, fun r hr => ?_⟩
            obtain ⟨i, hi⟩ := List.mem_iff_getElem?.1 hr
            exact (hrows i r hi).2.1
          · intro i r hr
            obtain ⟨_, _, csi, hc, hcr⟩ := hrows i r hr
            rw [hcr.1, (cells?_get hc).1]
          · intro i r j y hr hj
            obtain ⟨_, _, csi, hc, hcr⟩ := hrows i r hr
            obtain ⟨l1, l2⟩ := cells?_get hc
            have hlt : j < csi.length := by rw [← hcr.1]; exact (List.getElem?_eq_some_iff.1 hj).1
            have := l2 j csi[j] (by rw [List.getElem?_eq_getElem hlt])
            rw [addr_add, addr_add, Nat.add_assoc] at this
            exact ⟨_, this⟩
          · intro i r j y v hr hj hv
            obtain ⟨_, _, csi, hc, hcr⟩ := hrows i r hr
            obtain ⟨l1, l2⟩ := cells?_get hc
            have hlt : j < csi.length := by rw [← hcr.1]; exact (List.getElem?_eq_some_iff.1 hj).1
            have := l2 j csi[j] (by rw [List.getElem?_eq_getElem hlt])
            rw [addr_add, addr_add, Nat.add_assoc, hv] at this
            obtain rfl := Option.some.inj this
            exact hcr.2 j y _ hj (by rw [List.getElem?_eq_getElem hlt])
    · rename_i fs hu
      obtain ⟨xs, m, rfl, _, hcl, hxl, hget⟩ := DataW.trod_struct hu h
      have ht : plainT.tilesF (fun t => plainT P n t) P 0 fs.toList = some (P.cellsOf t) := by simpa using hp
      obtain ⟨ys, hy, hc⟩ := tiles_real (I := fun c => c < w.heap.size) (w := w) (cs := cs) (T := fun t c => ∃ x, DataW.trod enc P w base sp held m t c = some x) (G := fun t => HasT P n t) (fun t c hg ⟨x, hx⟩ => ih m t c x hg hx) fs.toList 0 _ ht
        (fun f hf => by
          obtain ⟨i, hi⟩ := List.mem_iff_getElem?.1 hf
          have hi' : fs[i]? = some f := by simpa using hi
          have := hget i f hi'
          have hlt : i < xs.length := by rw [hxl]; exact (Array.getElem?_eq_some_iff.1 hi').1
          rw [List.getElem?_eq_getElem hlt] at this
          exact ⟨_, this⟩)
      refine ⟨ys, by simp only [HasT, hu]; exact hy, ?_⟩
      rw [Nat.sub_zero, List.drop_zero, ← hcl, List.take_length] at hc
      exact hc
    · rename_i m e hu
      simp only [Bool.and_eq_true, decide_eq_true_eq] at hp
      obtain ⟨hpe, hsz⟩ := hp
      obtain ⟨xs, f, rfl, _, hcl, hxl, hget⟩ := DataW.trod_array hu h
      have hall : ∀ i, ∃ row, i < m → HasT P n e row ∧ CRl (fun c => c < w.heap.size) w row ((cs.drop (i * P.cellsOf e)).take (P.cellsOf e)) := by
        intro i
        by_cases hi : i < m
        · have hb := hget i hi
          rw [List.getElem?_eq_getElem (by omega)] at hb
          obtain ⟨row, h1, h2⟩ := ih f e _ _ hpe hb
          exact ⟨row, fun _ => ⟨h1, h2⟩⟩
        · exact ⟨[], fun h => absurd h hi⟩
      have key : ∀ k, k ≤ m → CRl (fun c => c < w.heap.size) w (((List.range k).map fun i => Classical.choose (hall i)).flatten) (cs.take (k * P.cellsOf e)) := by
        intro k
        induction k with
        | zero => intro _; simp [CRl]
        | succ k ihk =>
          intro hk
          rw [List.range_succ, List.map_append, List.flatten_append, Nat.add_mul, Nat.one_mul, List.take_add]
          refine (ihk (by omega)).append ?_
          simpa using (Classical.choose_spec (hall k) (by omega)).2
      refine ⟨((List.range m).map fun i => Classical.choose (hall i)).flatten, ?_, ?_⟩
      · simp only [HasT, hu]
        refine ⟨_, rfl, by simp, fun r hr => ?_⟩
        simp only [List.mem_map, List.mem_range] at hr
        obtain ⟨i, hi, rfl⟩ := hr
        exact (Classical.choose_spec (hall i) hi).1
      · have := key m (Nat.le_refl _)
        rw [← hsz, ← hcl, List.take_length] at this
        exact this
    · cases hp

theorem trod_val {base : Nat} {w : World} {ps : List MemPlace} {n : Nat} {t : TypeId} {v : Value} {d : DataW H} (hp : plainT P n t = true) (ht : DataW.Trod enc P w 0 (fun _ => true) true t v d ps)
    (hval : Value.okWide P w .any base t v) : ∃ xs, HasT P n t xs ∧ VR (fun c => c < w.heap.size) w Io.nil (if aggOf P t = some true then .agg xs else xs.headD .undef) v := by
  obtain ⟨fuel, hf⟩ := ht
  obtain ⟨xs, hx, hc⟩ := trod_typed n fuel t _ _ hp hf
  refine ⟨xs, hx, ?_⟩
  cases n with
  | zero => simp [plainT] at hp
  | succ n =>
    unfold plainT at hp
    have scalar : ∀ dd, P.underlying t = some dd → aggOf P t = some false → v.cells = #[v] → ∃ y, xs = [y] ∧ VR (fun c => c < w.heap.size) w Io.nil (if aggOf P t = some true then .agg xs else xs.headD .undef) v := by
      intro dd hu ha hv
      rw [hv] at hc
      match xs, hc with
      | [y], hc => exact ⟨y, rfl, by rw [ha]; simpa using hc.2 0 y v rfl rfl⟩
      | [], hc => simp [CRl] at hc
      | _ :: _ :: _, hc => simp [CRl] at hc
    split at hp
    · rename_i hu
      obtain ⟨b, rfl⟩ := WideShapes.okWide_bool hu hval
      exact (scalar _ hu (by simp [aggOf, hu]) rfl).choose_spec.2
    · rename_i k hu
      obtain ⟨b, rfl⟩ := WideShapes.okWide_int hu hval
      exact (scalar _ hu (by simp [aggOf, hu]) rfl).choose_spec.2
    · rename_i hu
      obtain ⟨b, rfl⟩ := WideShapes.okWide_string hu hval
      exact (scalar _ hu (by simp [aggOf, hu]) rfl).choose_spec.2
    · rename_i e hu
      obtain ⟨a, l, c, rfl⟩ := WideShapes.okWide_slice hu hval
      exact (scalar _ hu (by simp [aggOf, hu]) rfl).choose_spec.2
    · rename_i fs hu
      unfold Value.okWide at hval
      rw [hu] at hval
      obtain ⟨cs, rfl, _, _⟩ := hval
      have ha : aggOf P t = some true := by simp [aggOf, hu]
      rw [ha]
      exact .agg (by simpa [Value.cells] using hc.1.symm) fun j x y hx hy => hc.2 j x y hx (by simpa [Value.cells] using hy)
    · rename_i m e hu
      unfold Value.okWide at hval
      rw [hu] at hval
      obtain ⟨cs, rfl, _, _⟩ := hval
      have ha : aggOf P t = some true := by simp [aggOf, hu]
      rw [ha]
      exact .agg (by simpa [Value.cells] using hc.1.symm) fun j x y hx hy => hc.2 j x y hx (by simpa [Value.cells] using hy)
    · cases hp

def pk (P : Program) (t : TypeId) (xs : List AV) : AV := if aggOf P t = some true then .agg xs else xs.headD .undef
theorem PureF.walk {f : FuncId} {args : List AV} {W : World} {vs : Array Value} (h : PureF P f args (.bool true)) (ht : TT (fun c => c < W.heap.size) W) (hl : vs.size = args.length)
    (hv : ∀ (j : Nat) x y, args[j]? = some x → vs[j]? = some y → VR (fun c => c < W.heap.size) W Io.nil x y) :
    Calls P f vs W fun e W' => e = .returned (.bool true) ∧ RowKit.Below W.heap.size W W' :=
  (h _ W vs (fun _ h => h) ht ⟨hl, hv⟩).mono fun e W' ⟨v, I', he, hb, _, _, _, hvr⟩ => ⟨by rw [he, hvr.bool_inv], hb⟩
end Go.Vs
end
