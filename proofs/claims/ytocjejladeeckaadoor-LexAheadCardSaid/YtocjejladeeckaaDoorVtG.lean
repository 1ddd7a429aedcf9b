import Derived.Test.YtocjejladeeckaaDoorVtW
/-! Rows of operations, reckoned. -/
set_option linter.unusedVariables false
set_option linter.unusedSectionVars false
set_option linter.unusedSimpArgs false
namespace Go.Vs
variable [Tab]
universe u
variable {P : Program}

/-- A token by which the rewriting leaves a term alone. -/
def Hold {α : Sort u} (_ : α) : Type := Unit
def held {α : Sort u} (a : α) : Hold a := ()
def onS' {α : Type} (o : Option α) (K : α → Prop) (_ : Hold K) : Prop := match o with | some a => K a | none => False
abbrev onS {α : Type} (o : Option α) (K : α → Prop) : Prop := onS' o K (held K)
@[go_sem] theorem onS_some {α : Type} (a : α) (K : α → Prop) (k : Hold K) : onS' (some a) K k = K a := rfl
@[go_sem] theorem onS_none {α : Type} (K : α → Prop) (k : Hold K) : onS' none K k = False := rfl
theorem onS_inv {α : Type} {o : Option α} {K : α → Prop} {k : Hold K} (h : onS' o K k) : ∃ a, o = some a ∧ K a := by
  cases o with
  | none => exact h.elim
  | some a => exact ⟨a, rfl, h⟩

def isBool (P : Program) (t : TypeId) : Bool := match P.underlying t with | some .bool => true | _ => false
theorem isBool_spec {t : TypeId} (h : isBool P t = true) : P.underlying t = some .bool := by unfold isBool at h; split at h <;> simp_all
def evBin (P : Program) (op : BinOp) (t : TypeId) (cst : Bool) : AV → AV → Option AV
  | .int k a, .int k' b => if k = k' then evInt op k a b else none
  | .bool a, .bool b => match op with
    | .eql => if isBool P t = true then some (.bool (a == b)) else none
    | .neq => if isBool P t = true then some (.bool (a != b)) else none
    | _ => none
  | .agg xs, .agg ys => match op with
    | .eql => (evEqAg P t xs ys).map fun b => .bool b
    | .neq => (evEqAg P t xs ys).map fun b => .bool (!b)
    | _ => none
  | .str a, .str b => evStr op a b
  | a, b => match op with
    | .eql => (nilEq P t cst a b).map fun b => .bool b
    | .neq => (nilEq P t cst a b).map fun b => .bool (!b)
    | _ => none
def evUn (op : UnOp) : AV → Option AV
  | .bool b => match op with
    | .not => some (.bool (!b))
    | _ => none
  | .int k n => match op with
    | .neg => some (.int k (k.wrap (0 - n)))
    | _ => none
  | _ => none
def intKind (P : Program) (t : TypeId) : Option IntKind := match P.underlying t with | some (.int k) => some k | _ => none
def evConv (P : Program) (h : Hp) (s d : TypeId) : AV → Option AV
  | .int _ n => if (P.underlying s).isSome = true then (intKind P d).map fun k => .int k (k.wrap n) else none
  | .sl rows => if isBytes P s = true ∧ isStr P d = true then (srcA h 1 (.sl rows)).bind fun rows => (rowsStr rows).map fun r => .str r else none
  | .msl b ver off k len cap => if isBytes P s = true ∧ isStr P d = true then (srcA h 1 (.msl b ver off k len cap)).bind fun rows => (rowsStr rows).map fun r => .str r else none
  | _ => none
def staleB (h : Hp) : AV → Bool
  | .msl b ver _ esz _ _ => match h[b]? with
    | some (.rows _ e v _) => v == ver && e == esz
    | _ => false
  | _ => true
theorem staleB_spec {h x} (hs : staleB h x = true) : ∀ b ver off e len cap, x = .msl b ver off e len cap → ∃ rs ty, h[b]? = some (.rows rs e ver ty) := by
  rintro b ver off e len cap rfl
  simp only [staleB] at hs
  split at hs
  · rename_i rs e2 v ty hb
    simp only [Bool.and_eq_true, beq_iff_eq] at hs
    obtain ⟨rfl, rfl⟩ := hs
    exact ⟨rs, ty, hb⟩
  · cases hs
def tupS : AV → Option (List AV)
  | .tuple vs => some vs
  | _ => none
def boolS : AV → Option Bool
  | .bool b => some b
  | _ => none

def methO (P : Program) (x : AV) (name : String) : Option (FuncId × AV) := match x with | .iface t v => (methF P t name).map fun f => (f, v) | _ => none

def strS : AV → Option ByteArray
  | .str s => some s
  | _ => none
def slH (P : Program) (h : Hp) (t : TypeId) (lo hi : Option AV) : AV → Option AV
  | .msl b ver off k len cap => (elemOf' P t).bind fun e => (tsz P e).bind fun k2 => if k = k2 then mslA h lo hi (.msl b ver off k len cap) else none
  | x => slA P t lo hi x
def evB (P : Program) (b : Builtin) (ts : Array TypeId) (xs : List AV) (h : Hp) (K : AV → Hp → Prop) (els : Prop) : Prop :=
  match b, ts.toList, xs with
  | .len, [t], [x] => onS (lenA x) fun n => ((match x with | .str _ => isStr P t | _ => (elemOf' P t).isSome) = true ∧ staleB h x = true) ∧ K (.int .i64 n) h
  | .append, [t, t'], [s, x] => ∃ own : Bool, True ∧ t = t' ∧ bif own then (onS (apA P t h s x) fun r => K r.1 r.2) else onS (apI P t h s x) fun r => K r h
  | .min, _, [.int k a, .int k' b] => k = k' ∧ K (.int k (if b < a then b else a)) h
  | _, _, _ => els

/-- One operation, reckoned: what it tells goes on to K. -/
def evS (P : Program) (o : Oper) (ρ : Operand → AV) (h : Hp) (K : AV → Hp → Prop) : Prop :=
  match o.op with
  | .move x => K (ρ x) h
  | .assign x => K (ρ x) h
  | .pick c x y => onS (boolS (ρ c)) fun b => K (if b then ρ x else ρ y) h
  | .extract x i => onS (tupS (ρ x)) fun vs => onS vs[i]? fun r => K r h
  | .load t p => onS (aggOf P t) fun agg => onS (tsz P t) fun n => onS (ldA agg n (rowOf h (ρ p))) fun r => K r h
  | .store t p x => onS (tsz P t) fun n => n = (cellsOf (ρ x)).length ∧ (cellsOf (ρ x)).all oneB = true ∧ onS (stA h (ρ p) (cellsOf (ρ x))) fun h' => K .undef h'
  | .fieldAddr t x f => onS (fld P t f) fun q => q.2 ≠ 0 ∧ onS (addO (ρ x) q.1) fun r => K r h
  | .alloc t => onS (tzero P t) fun z => K (.ptr h.length 0 0) (h ++ [.cells z 0 t])
  | .box t x => (cellsOf (ρ x)).all oneB = true ∧ K (.ptr h.length 0 0) (h ++ [.cells (cellsOf (ρ x)) 0 t])
  | .binOp op t x y _ => onS (evBin P op t (isCst x || isCst y) (ρ x) (ρ y)) fun r => K r h
  | .unOp op _ x => onS (evUn op (ρ x)) fun r => K r h
  | .convert s d x => onS (evConv P h s d (ρ x)) fun r => K r h
  | .build t parts => onS (tzero P t) fun z => onS (plc P t) fun l => onS (fillA (fun i : Nat => l[i]?) z (parts.toList.map fun q => (q.1, ρ q.2))) fun cs => K (.agg cs) h
  | .buildSlice t n parts => ∃ own : Bool, True ∧ onS (elemOf' P t) fun e => onS (tsz P e) fun k => onS (tzero P e) fun _ => (parts.toList.map (·.1) = List.range n ∧ k ≠ 0 ∧ n * k ≤ 16777216) ∧ bif own then (rows1 k (parts.toList.map fun q => cellsOf (ρ q.2)) = true ∧ K (.msl h.length 1 0 k n n) (h ++ [.rows (parts.toList.map fun q => cellsOf (ρ q.2)) k 1 e]))
      else ((parts.toList.map fun q => ρ q.2).all (rowOk k) = true ∧ K (if n = 0 then .emp else .sl (parts.toList.map fun q => cellsOf (ρ q.2))) h)
  | .makeInterface t x => ifaceB P t = some false ∧ K (.iface t (ρ x)) h
  | .indexAddr t x i => onS (elemOf' P t) fun e => onS (tsz P e) fun n => onS (elA n (ρ x) (ρ i)) fun r => staleB h (ρ x) = true ∧ K r h
  | .field t x f => onS (fldT P t f) fun q => onS (aggOf P q.2) fun ag => onS (tsz P q.2) fun n => onS (fdA ag n q.1 (ρ x)) fun r => K r h
  | .slice t x lo hi none => onS (slH P h t (lo.map ρ) (hi.map ρ) (ρ x)) fun r => K r h
  | .makeSlice t n c => onS (mkA P t (ρ n) (ρ c)) fun q => K (.msl h.length 1 0 q.2.1 q.1 q.1) (h ++ [.rows (List.replicate q.1 q.2.2.1) q.2.1 1 q.2.2.2])
  | .range t x => onS (strS (ρ x)) fun s => isStr P t = true ∧ K (.ptr h.length 0 0) (h ++ [.siter s 0])
  | .next x true => onS (nextA h (ρ x)) fun r => K r.1 r.2
  | .nilCheck x => (match ρ x with | .ptr .. | .eptr .. | .iptr .. => true | _ => false) = true ∧ K (ρ x) h
  | .typeAssert x _ t ok => ifaceB P t = some false ∧ onS (tasA P t ok (ρ x)) fun r => K r h
  | .index t x i => isStr P t = true ∧ onS (ixStr (ρ x) (ρ i)) fun r => K r h
  | .call c => match c.callee with
    | .invoke x name => onS (methO P (ρ x) name) fun q => fnOk P q.1 = true ∧ pureBs (q.2 :: c.args.toList.map ρ) = true ∧ ∃ r, PureF P q.1 (q.2 :: c.args.toList.map ρ) r ∧ K r h
    | .value (.func f) => fnOk P f = true ∧ ∃ q, callP P f h (c.args.toList.map ρ) q ∧ K q.r (q.hp h)
    | .builtin b => evB P b c.argTypes (c.args.toList.map ρ) h K (∃ r h', Step P o ρ h r h' ∧ K r h')
    | _ => ∃ r h', Step P o ρ h r h' ∧ K r h'
  | _ => ∃ r h', Step P o ρ h r h' ∧ K r h'

theorem evS_sound {o : Oper} {ρ : Operand → AV} {h : Hp} {K : AV → Hp → Prop} (he : evS P o ρ h K) : ∃ r h', Step P o ρ h r h' ∧ K r h' := by
  unfold evS at he
  split at he
  · rename_i x ho; exact ⟨_, _, Step.move (.inl ho), he⟩
  · rename_i x ho; exact ⟨_, _, Step.move (.inr ho), he⟩
  · rename_i c x y ho
    obtain ⟨b, hb, hk⟩ := onS_inv he
    have : ρ c = .bool b := by unfold boolS at hb; split at hb <;> simp_all
    exact ⟨_, _, Step.pick ho this, hk⟩
  · rename_i x i ho
    obtain ⟨vs, hv, he⟩ := onS_inv he
    obtain ⟨r, hr, hk⟩ := onS_inv he
    have : ρ x = .tuple vs := by unfold tupS at hv; split at hv <;> simp_all
    exact ⟨_, _, Step.extract ho this hr, hk⟩
  · rename_i t p ho
    obtain ⟨agg, ha, he⟩ := onS_inv he
    obtain ⟨n, hn, he⟩ := onS_inv he
    obtain ⟨r, hr, hk⟩ := onS_inv he
    exact ⟨_, _, Step.load ho ha hn hr, hk⟩
  · rename_i t p x ho
    obtain ⟨n, hn, e, h1, he⟩ := onS_inv he
    obtain ⟨h', hs, hk⟩ := onS_inv he
    exact ⟨_, _, Step.store ho (e ▸ hn) h1 hs, hk⟩
  · rename_i t x f ho
    obtain ⟨⟨off, n⟩, hf, hn, he⟩ := onS_inv he
    obtain ⟨r, hr, hk⟩ := onS_inv he
    exact ⟨_, _, Step.fieldAddr ho hf hn hr, hk⟩
  · rename_i t ho
    obtain ⟨z, hz, hk⟩ := onS_inv he
    exact ⟨_, _, Step.alloc ho hz, hk⟩
  · rename_i t x ho
    exact ⟨_, _, Step.box ho he.1, he.2⟩
  · rename_i op t x y t' ho
    obtain ⟨r, hr, hk⟩ := onS_inv he
    unfold evBin at hr
    split at hr
    · rename_i k a k' b hx hy
      split at hr
      · rename_i e; subst e; exact ⟨_, _, Step.binInt ho hx hy hr, hk⟩
      · cases hr
    · rename_i a b hx hy
      split at hr
      · split at hr
        · rename_i ht; obtain rfl := Option.some.inj hr; exact ⟨_, _, Step.eqBool ho (isBool_spec ht) hx hy, hk⟩
        · cases hr
      · split at hr
        · rename_i ht; obtain rfl := Option.some.inj hr; exact ⟨_, _, Step.neqBool ho (isBool_spec ht) hx hy, hk⟩
        · cases hr
      · cases hr
    · rename_i xs ys hx hy
      split at hr
      · simp only [Option.map_eq_some_iff] at hr
        obtain ⟨b, hb, rfl⟩ := hr
        exact ⟨_, _, Step.eqAg (neg := false) ho hx hy hb, hk⟩
      · simp only [Option.map_eq_some_iff] at hr
        obtain ⟨b, hb, rfl⟩ := hr
        exact ⟨_, _, Step.eqAg (neg := true) ho hx hy hb, hk⟩
      · cases hr
    · rename_i a b hx hy
      exact ⟨_, _, Step.binStr ho hx hy hr, hk⟩
    · split at hr
      · simp only [Option.map_eq_some_iff] at hr
        obtain ⟨b, hb, rfl⟩ := hr
        have := Step.eqNil (h := h) false ho hb
        rw [Bool.bne_false] at this
        exact ⟨_, _, this, hk⟩
      · simp only [Option.map_eq_some_iff] at hr
        obtain ⟨b, hb, rfl⟩ := hr
        have := Step.eqNil (h := h) true ho hb
        rw [Bool.bne_true] at this
        exact ⟨_, _, this, hk⟩
      · cases hr
  · rename_i op t x ho
    obtain ⟨r, hr, hk⟩ := onS_inv he
    unfold evUn at hr
    split at hr
    · rename_i b hx
      split at hr
      · obtain rfl := Option.some.inj hr; exact ⟨_, _, Step.not ho hx, hk⟩
      · cases hr
    · rename_i k n hx
      split at hr
      · obtain rfl := Option.some.inj hr; exact ⟨_, _, Step.neg ho hx, hk⟩
      · cases hr
    · cases hr
  · rename_i s d x ho
    obtain ⟨r, hr, hk⟩ := onS_inv he
    unfold evConv at hr
    split at hr
    · rename_i k n hx
      split at hr
      · rename_i hs
        obtain ⟨ds, hs⟩ := Option.isSome_iff_exists.1 hs
        simp only [Option.map_eq_some_iff] at hr
        obtain ⟨k', hk', rfl⟩ := hr
        unfold intKind at hk'
        split at hk'
        · rename_i k2 hu
          obtain rfl := Option.some.inj hk'
          exact ⟨_, _, Step.convInt ho hs hu hx, hk⟩
        · cases hk'
      · cases hr
    · rename_i rows0 hx
      split at hr
      · rename_i hc
        simp only [Option.bind_eq_some_iff, Option.map_eq_some_iff] at hr
        obtain ⟨rows, h1, r2, h2, rfl⟩ := hr
        rw [← hx] at h1
        exact ⟨_, _, Step.bytesStr ho hc.1 (isStr_spec hc.2) h1 h2, hk⟩
      · cases hr
    · rename_i hx
      split at hr
      · rename_i hc
        simp only [Option.bind_eq_some_iff, Option.map_eq_some_iff] at hr
        obtain ⟨rows, h1, r2, h2, rfl⟩ := hr
        rw [← hx] at h1
        exact ⟨_, _, Step.bytesStr ho hc.1 (isStr_spec hc.2) h1 h2, hk⟩
      · cases hr
    · cases hr
  · rename_i t parts ho
    obtain ⟨z, hz, he⟩ := onS_inv he
    obtain ⟨l, hl, he⟩ := onS_inv he
    obtain ⟨cs, hcs, hk⟩ := onS_inv he
    exact ⟨_, _, Step.build ho hz hl hcs, hk⟩
  · rename_i t n parts ho
    obtain ⟨own, _, he⟩ := he
    obtain ⟨e, hel, he⟩ := onS_inv he
    obtain ⟨k, hk, he⟩ := onS_inv he
    obtain ⟨z, hz, ⟨h1, h3, h4⟩, he⟩ := onS_inv he
    cases own with
    | true =>
      obtain ⟨h5, hk'⟩ := he
      refine ⟨_, _, Step.buildOwn ho hel hk hz h1 h3 h4 ?_, hk'⟩
      simpa [rows1, List.all_map, Function.comp_def] using h5
    | false =>
      obtain ⟨h5, hk'⟩ := he
      by_cases h2 : n = 0
      · rw [if_pos h2] at hk'
        subst h2
        exact ⟨_, _, Step.buildEmp ho hel hk hz h1, hk'⟩
      · rw [if_neg h2] at hk'
        exact ⟨_, _, Step.buildSlice ho hel hk hz h1 h2 h3 h4 h5, hk'⟩
  · rename_i t x ho
    exact ⟨_, _, Step.makeInterface ho he.1, he.2⟩
  · rename_i t x i ho
    obtain ⟨e, hel, he⟩ := onS_inv he
    obtain ⟨n, hn, he⟩ := onS_inv he
    obtain ⟨r, hr, hst, hk⟩ := onS_inv he
    exact ⟨_, _, Step.indexAddr ho hel hn hr (staleB_spec hst), hk⟩
  · rename_i t x f ho
    obtain ⟨q, hq, he⟩ := onS_inv he
    obtain ⟨ag, ha, he⟩ := onS_inv he
    obtain ⟨n, hn, he⟩ := onS_inv he
    obtain ⟨r, hr, hk⟩ := onS_inv he
    exact ⟨_, _, Step.field ho hq ha hn hr, hk⟩
  · rename_i t x lo hi ho
    obtain ⟨r, hr, hk⟩ := onS_inv he
    unfold slH at hr
    split at hr
    · rename_i b ver off k len cap hx
      simp only [Option.bind_eq_some_iff] at hr
      obtain ⟨e, hel, k2, hk2, hr⟩ := hr
      split at hr
      · rename_i ek
        subst ek
        rw [← hx] at hr
        exact ⟨_, _, Step.sliceMsl ho hel hk2 (fun b' v' o' k' l' c' e' => by rw [hx] at e'; injection e' with _ _ _ e4; exact e4.symm) hr, hk⟩
      · cases hr
    · exact ⟨_, _, Step.slice ho hr, hk⟩
  · rename_i t n c ho
    obtain ⟨q, hq, hk⟩ := onS_inv he
    exact ⟨_, _, Step.makeSlice ho hq, hk⟩
  · rename_i t x ho
    obtain ⟨s, hs, hst, hk⟩ := onS_inv he
    have hx : ρ x = .str s := by unfold strS at hs; split at hs <;> simp_all
    exact ⟨_, _, Step.rangeStr ho (isStr_spec hst) hx, hk⟩
  · rename_i x ho
    obtain ⟨r, hr, hk⟩ := onS_inv he
    exact ⟨_, _, Step.next ho hr, hk⟩
  · rename_i x ho
    exact ⟨_, _, Step.nilCheck ho he.1, he.2⟩
  · rename_i x xt t ok ho
    obtain ⟨hi, he⟩ := he
    obtain ⟨r, hr, hk⟩ := onS_inv he
    exact ⟨_, _, Step.typeAssert ho hi hr, hk⟩
  · rename_i t x i ho
    obtain ⟨hi, he⟩ := he
    obtain ⟨r, hr, hk⟩ := onS_inv he
    exact ⟨_, _, Step.indexStr ho (isStr_spec hi) hr, hk⟩
  · rename_i c ho
    split at he
    · rename_i x name hc
      obtain ⟨q, hq, hf, hp, r, hr, hk⟩ := onS_inv he
      unfold methO at hq
      split at hq
      · rename_i t v hx
        simp only [Option.map_eq_some_iff] at hq
        obtain ⟨f, hm, rfl⟩ := hq
        exact ⟨_, _, Step.invoke (as := c.args) (ts := c.argTypes) (by rw [ho]; cases c; simp_all) hx hm hf hp hr, hk⟩
      · cases hq
    · rename_i f hc
      obtain ⟨hf, q, hq, hk⟩ := he
      exact ⟨_, _, Step.callX (as := c.args) (ts := c.argTypes) (by rw [ho]; cases c; simp_all) hf hq, hk⟩
    · rename_i b hc
      unfold evB at he
      split at he
      · rename_i t x hts hxs
        obtain ⟨n, hn, ⟨hcond, hst⟩, hk⟩ := onS_inv he
        have h1 : c.argTypes = #[t] := by
          have := congrArg List.toArray hts; simpa using this
        obtain ⟨x0, hx0, hx1⟩ : ∃ x0, c.args = #[x0] ∧ ρ x0 = x := by
          have hl : c.args.toList.map ρ = [x] := hxs
          match hca : c.args.toList, hl with
          | [x0], hl => exact ⟨x0, by have := congrArg List.toArray hca; simpa using this, by simpa using hl⟩
          | [], hl => simp at hl
          | _ :: _ :: _, hl => simp at hl
        have ho' : o.op = .call { callee := .builtin .len, args := #[x0], argTypes := #[t] } := by rw [ho]; cases c; simp_all
        have hstr : ∀ s, x = .str s → P.underlying t = some .string := by
          intro s hs; rw [hs] at hcond; simp only [isStr] at hcond; split at hcond <;> simp_all
        have hsl : (∀ s, x ≠ .str s) → (elemOf' P t).isSome = true := by
          intro hs
          split at hcond
          · rename_i s; exact absurd rfl (hs s)
          · exact hcond
        refine ⟨_, _, Step.len ho' ?_ ?_ ?_ (by rw [hx1]; exact hn) (by rw [hx1]; exact staleB_spec hst), hk⟩
        · by_cases hs : ∃ s, x = .str s
          · obtain ⟨s, hs⟩ := hs; exact .inr (hstr s hs)
          · exact .inl (hsl fun s e => hs ⟨s, e⟩)
        · intro s hs; rw [hx1] at hs; exact hstr s hs
        · intro hs
          exact hsl fun s e => hs s (hx1.trans e)
      · rename_i t t' s x hts hxs
        obtain ⟨own, _, rfl, he⟩ := he
        have h1 : c.argTypes = #[t, t] := by
          have := congrArg List.toArray hts; simpa using this
        obtain ⟨x0, y0, hx0, hx1, hx2⟩ : ∃ x0 y0, c.args = #[x0, y0] ∧ ρ x0 = s ∧ ρ y0 = x := by
          match hca : c.args.toList, hxs with
          | [x0, y0], hl => exact ⟨x0, y0, by have := congrArg List.toArray hca; simpa using this, by simpa using hl⟩
          | [], hl => simp at hl
          | [_], hl => simp at hl
          | _ :: _ :: _ :: _, hl => simp at hl
        subst hx1; subst hx2
        cases own with
        | true =>
          simp only [cond_true] at he
          obtain ⟨r, hr, hk⟩ := onS_inv he
          exact ⟨_, _, Step.append (by rw [ho]; cases c; simp_all) hr, hk⟩
        | false =>
          simp only [cond_false] at he
          obtain ⟨r, hr, hk⟩ := onS_inv he
          exact ⟨_, _, Step.appendI (by rw [ho]; cases c; simp_all) hr, hk⟩
      · rename_i k a k' b hxs
        obtain ⟨rfl, hk⟩ := he
        obtain ⟨x0, y0, hx0, hx1, hx2⟩ : ∃ x0 y0, c.args = #[x0, y0] ∧ ρ x0 = .int k a ∧ ρ y0 = .int k b := by
          match hca : c.args.toList, hxs with
          | [x0, y0], hl => exact ⟨x0, y0, by have := congrArg List.toArray hca; simpa using this, by simpa using hl⟩
          | [], hl => simp at hl
          | [_], hl => simp at hl
          | _ :: _ :: _ :: _, hl => simp at hl
        exact ⟨_, _, Step.minInt (ts := c.argTypes) (by rw [ho]; cases c; simp_all) hx1 hx2, hk⟩
      · exact he
    · exact he
  · exact he

end Go.Vs
