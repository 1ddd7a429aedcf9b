import Derived.Test.YtocjejladeeckaaDoorVtM
/-! Texts, interfaces, methods. -/
set_option linter.unusedVariables false
set_option linter.unusedSectionVars false
set_option linter.unusedSimpArgs false
namespace Go.Vs
variable [Tab]
variable {P : Program}

theorem run_prog (w : World) : (program).run P w = .ok P w := by first | rfl | simp
/-- A type's zero, as a value. -/
def zV (P : Program) (t : TypeId) : Option AV := ((P.info? t).bind (·.zero)).map ofC
theorem run_zV {t : TypeId} {r : AV} (h : zV P t = some r) : ∃ v : Value, (∀ w, (zeroValue t).run P w = .ok v w) ∧ ∀ I w ι, VR I w ι r v := by
  unfold zV at h
  cases hi : P.info? t with
  | none => simp [hi] at h
  | some i =>
    cases hz : i.zero with
    | none => simp [hi, hz] at h
    | some v =>
      simp [hi, hz] at h
      subst h
      exact ⟨v, fun w => by simp [zeroValue, typeInfo, hi, hz], fun I w ι => VR.ofC I w ι v⟩

/-! ### Kinds asked of an interface's value -/
def tasA (P : Program) (asserted : TypeId) (ok : Bool) (x : AV) : Option AV :=
  match x with
  | .iface t v => if t = asserted then some (bif ok then .tuple [v, .bool true] else v) else bif ok then (zV P asserted).map fun z => .tuple [z, .bool false] else none
  | .nili => bif ok then (zV P asserted).map fun z => .tuple [z, .bool false] else none
  | _ => none
theorem VR.pair {I w ι x v b} (h : VR I w ι x v) : VR I w ι (.tuple [x, .bool b]) (.tuple #[v, .bool b]) := by
  refine .tuple rfl fun j a c ha hc => ?_
  match j, ha, hc with
  | 0, ha, hc => simp at ha hc; subst ha; subst hc; exact h
  | 1, ha, hc => simp at ha hc; subst ha; subst hc; exact .bool _
  | _ + 2, ha, hc => simp at ha
theorem Step.typeAssert {o : Oper} {ρ : Operand → AV} {h : Hp} {x : Operand} {xt t : TypeId} {ok : Bool} {r : AV} (ho : o.op = .typeAssert x xt t ok) (ht : ifaceB P t = some false) (hr : tasA P t ok (ρ x) = some r) : Step P o ρ h r h := by
  refine Step.still fun I ι w a hrel hx => ?_
  have hv := hx x (by simp [ho, Op.operands])
  unfold ifaceB at ht
  cases hu : P.underlying t with
  | none => simp [hu] at ht
  | some d =>
    have hd : ∀ ms, d ≠ .interface ms := by rintro ms rfl; simp [hu] at ht
    unfold execOp
    simp only [ho]
    unfold tasA at hr
    split at hr
    · rename_i t' y hxe
      rw [hxe] at hv
      obtain ⟨v, hve, hvr⟩ := hv.iface_inv
      split at hr
      · rename_i e
        subst e
        cases ok
        · simp at hr; subst hr
          refine ⟨v, ?_, hvr⟩
          simp only [Instr.typeAssert, hve]
          rw [Sem.run_bind, Sem.run_bind, run_underlying' hu]
          cases d <;> simp_all
        · simp at hr; subst hr
          refine ⟨_, ?_, hvr.pair⟩
          simp only [Instr.typeAssert, hve]
          rw [Sem.run_bind, Sem.run_bind, run_underlying' hu]
          cases d <;> simp_all
      · rename_i e
        cases ok
        · simp at hr
        · simp at hr
          obtain ⟨z, hz, rfl⟩ := hr
          obtain ⟨zv, hz1, hz2⟩ := run_zV hz
          refine ⟨_, ?_, (hz2 I w ι).pair⟩
          simp only [Instr.typeAssert, hve]
          rw [Sem.run_bind, Sem.run_bind, run_underlying' hu]
          cases d <;> simp_all
    · rename_i hxe
      rw [hxe] at hv
      have hve := hv.nili_inv
      cases ok
      · simp at hr
      · simp at hr
        obtain ⟨z, hz, rfl⟩ := hr
        obtain ⟨zv, hz1, hz2⟩ := run_zV hz
        refine ⟨_, ?_, (hz2 I w ι).pair⟩
        simp only [Instr.typeAssert, hve]
        rw [Sem.run_bind, Sem.run_bind, run_underlying' hu]
        cases d <;> simp_all
    · cases hr

/-! ### Texts -/
def CatOk (a b : ByteArray) : Prop := a.size + b.size ≤ 9223372036854775807
instance (a b : ByteArray) : Decidable (CatOk a b) := inferInstanceAs (Decidable (_ ≤ _))
def strAdd (a b : ByteArray) : Option AV := if CatOk a b then some (.str (a ++ b)) else none
theorem strAdd_ok {a b : ByteArray} (h : CatOk a b) : strAdd a b = some (.str (a ++ b)) := if_pos h
def evStr (op : BinOp) (a b : ByteArray) : Option AV :=
  match op with
  | .add => strAdd a b
  | .eql => some (.bool (decide (a = b)))
  | .neq => some (.bool (!decide (a = b)))
  | .lss => some (.bool (Op.bytesLess a.data.toList b.data.toList))
  | .leq => some (.bool (Op.bytesLess a.data.toList b.data.toList || decide (a = b)))
  | .gtr => some (.bool (!(Op.bytesLess a.data.toList b.data.toList || decide (a = b))))
  | .geq => some (.bool (!Op.bytesLess a.data.toList b.data.toList))
  | _ => none
theorem str_eq (a b : ByteArray) : (a.toList == b.toList) = decide (a = b) := by
  rw [Bool.eq_iff_iff, beq_iff_eq, decide_eq_true_eq, ByteArray.toList_eq, ByteArray.toList_eq]
  constructor
  · intro h; cases a; cases b; simpa using h
  · rintro rfl; rfl
theorem Step.binStr {o : Oper} {ρ : Operand → AV} {h : Hp} {op : BinOp} {t t' : TypeId} {x y : Operand} {a b : ByteArray} {r : AV} (ho : o.op = .binOp op t x y t')
    (hx : ρ x = .str a) (hy : ρ y = .str b) (he : evStr op a b = some r) : Step P o ρ h r h := by
  refine Step.still fun I ι w ac hr hv => ?_
  have h1 := hv x (by simp [ho, Op.operands])
  have h2 := hv y (by simp [ho, Op.operands])
  rw [hx] at h1; rw [hy] at h2
  have e1 := h1.str_inv
  have e2 := h2.str_inv
  unfold execOp
  simp only [ho, e1, e2]
  have hg : (eqGuard op t x y (.string a) (.string b)).run P w = .ok () w := by
    unfold eqGuard
    cases op <;> first | rfl | simp
  cases op <;> simp only [evStr, Option.some.injEq, reduceCtorEq] at he
  case add =>
    unfold strAdd at he
    split at he
    · rename_i hle
      obtain rfl := Option.some.inj he
      refine ⟨_, ?_, .str _⟩
      have : ¬ ((a.size + b.size : Nat) : Int) > IntKind.i64.max := by
        have : IntKind.i64.max = 9223372036854775807 := rfl
        rw [this]; have hle' : a.size + b.size ≤ 9223372036854775807 := hle; omega
      rw [Sem.run_bind, Sem.run_bind, hg]
      simp only [Result.andThen_ok, binOp, Op.stringOp, if_neg this, Sem.run_pure]
    · cases he
  all_goals
    subst he
    refine ⟨_, ?_, .bool _⟩
    rw [Sem.run_bind, Sem.run_bind, hg]
    simp only [Result.andThen_ok, binOp, Op.stringOp, Sem.run_pure, str_eq]
    try simp only [ByteArray.toList_eq]
/-- A byte of a text. -/
def bt (s : ByteArray) (i : Int) : Int := ((s.data.toList.getD i.toNat 0).toNat : Int)
def ixStr (x i : AV) : Option AV :=
  match x, i with
  | .str s, .int _ i => if InB i s.size then some (.int .u8 (bt s i)) else none
  | _, _ => none
theorem Step.indexStr {o : Oper} {ρ : Operand → AV} {h : Hp} {t : TypeId} {x i : Operand} {r : AV} (ho : o.op = .index t x i) (ht : P.underlying t = some .string) (hr : ixStr (ρ x) (ρ i) = some r) : Step P o ρ h r h := by
  refine Step.still fun I ι w a hrel hv => ?_
  have h1 := hv x (by simp [ho, Op.operands])
  have h2 := hv i (by simp [ho, Op.operands])
  unfold ixStr at hr
  split at hr
  · rename_i s k n hx hi
    rw [hx] at h1; rw [hi] at h2
    split at hr
    · rename_i hin
      obtain rfl := Option.some.inj hr
      have hb : (if 0 ≤ n then s[n.toNat]? else none) = some (s.data.toList.getD n.toNat 0) := by
        have h2 := hin.2
        rw [if_pos hin.1]
        have h3 : n.toNat < s.data.toList.length := by simpa using h2
        rw [List.getD_eq_getElem?_getD, List.getElem?_eq_getElem h3, Option.getD_some]
        rw [getElem?_pos s n.toNat h2]; rfl
      refine ⟨_, ?_, .int _ _⟩
      unfold execOp
      simp only [ho, h1.str_inv, h2.int_inv, Instr.index, asIntOf]
      rw [Sem.run_bind, Sem.run_bind]
      simp [run_underlying' ht, hb, bt]
    · cases hr
  · cases hr

/-! ### Methods behind an interface -/
def methF (P : Program) (t : TypeId) (name : String) : Option FuncId :=
  match P.underlying t, (P.info? t).bind fun i => i.methods.find? (·.name == name) with
  | some (.pointer _), _ => none
  | some _, some m => match m.func, m.path.toList with
    | some (f, false), [] => some f
    | _, _ => none
  | _, _ => none
theorem run_method {t : TypeId} {name : String} {f : FuncId} (h : methF P t name = some f) (v : Value) (n : Nat) (w : World) : (method (n + 1) t v name).run P w = .ok (f, v) w := by
  unfold methF at h
  split at h
  · cases h
  · rename_i d m hnp hu hm
    split at h
    · rename_i f' hf hp
      obtain rfl := Option.some.inj h
      obtain ⟨i, hi, hm⟩ := Option.bind_eq_some_iff.1 hm
      have hti : (typeInfo t).run P w = .ok i w := by simp [typeInfo, hi]
      unfold method
      rw [Sem.run_bind, hti]
      simp only [Result.andThen_ok, hm]
      rw [Sem.run_bind, hp]
      simp only [follow, Sem.run_pure, Result.andThen_ok, hf]
      rw [Sem.run_bind]
      unfold receiverAt
      rw [Sem.run_bind, run_underlying' hu]
      cases d <;> simp_all [Place.get]
    · cases h
  · cases h
theorem Step.invoke {o : Oper} {ρ : Operand → AV} {h : Hp} {x : Operand} {name : String} {as : Array Operand} {ts : Array TypeId} {t : TypeId} {v r : AV} {f : FuncId} (ho : o.op = .call { callee := .invoke x name, args := as, argTypes := ts })
    (hx : ρ x = .iface t v) (hm : methF P t name = some f) (hf : fnOk P f = true) (hp : pureBs (v :: as.toList.map ρ) = true) (hc : PureF P f (v :: as.toList.map ρ) r) : Step P o ρ h r h := by
  intro I ι w a hr _ hxs next Q k
  have h1 := hxs x (by simp [ho, Op.operands, Call.operands])
  rw [hx] at h1
  obtain ⟨y, hy, hvy⟩ := h1.iface_inv
  have hargs : ∀ z ∈ as, VR I w ι (ρ z) (a.eval z) := fun z hm => hxs z (by simp [ho, Op.operands, Call.operands, hm])
  have hvs : VRs I w Io.nil (v :: as.toList.map ρ) (#[y] ++ as.map a.eval) := by
    refine ⟨by simp; omega, fun j x y' hj hy' => ?_⟩
    have hpx := pureBs_get hp j x hj
    cases j with
    | zero =>
      simp at hj
      rw [Array.getElem?_append_left (by simp)] at hy'
      simp at hy'
      subst hj; subst hy'
      exact hvy.to_pure hpx
    | succ j =>
      simp only [List.getElem?_cons_succ, List.getElem?_map, Array.getElem?_toList, Option.map_eq_some_iff] at hj
      rw [Array.getElem?_append_right (by simp)] at hy'
      simp only [List.size_toArray, List.length_cons, List.length_nil, Nat.zero_add, Nat.add_sub_cancel, Array.getElem?_map, Option.map_eq_some_iff] at hy'
      obtain ⟨x0, hj, rfl⟩ := hj
      obtain ⟨y0, hy', rfl⟩ := hy'
      rw [hj] at hy'
      obtain rfl := Option.some.inj hy'
      exact (hargs x0 (Array.mem_of_getElem? hj)).to_pure hpx
  have hcall := hc I w (#[y] ++ as.map a.eval) hr.ilt hr.tab hvs
  have hrun : (execOp a.eval o).run P w = .ok (.enter f (#[y] ++ as.map a.eval)) w := by
    unfold execOp
    have e0 : (#[Value.iface t y] ++ as.map a.eval)[0]? = some (Value.iface t y) := by rw [Array.getElem?_append_left (by simp)]; rfl
    have e1 : (#[Value.iface t y] ++ as.map a.eval).extract 1 (#[Value.iface t y] ++ as.map a.eval).size = as.map a.eval := by
      apply Array.ext'
      simp
      rw [List.take_of_length_le (by simp)]
    simp only [ho, resolve, hy, Go.invoke, Sem.run_bind, Sem.run_pure, Result.andThen_ok, e0, e1, callMethod, run_prog]
    have : P.types.size + Made.depth = (P.types.size + 99) + 1 := rfl
    rw [this, run_method hm]
    simp only [Result.andThen_ok, run_callFunc hf]
  unfold Oper.wp
  rw [hrun, Oper.upon_enter]
  refine hcall.mono fun e w' ⟨v, I', he, hb, h1, h2, h3, hv⟩ => ?_
  subst he
  exact k v w' I' ι (Ext.below hr hb h1 h2 h3) (hv.pure ι)
/-! ### Held against nil -/
def isCst : Operand → Bool
  | .const _ => true
  | _ => false
def nilEq (P : Program) (t : TypeId) (cst : Bool) (x y : AV) : Option Bool :=
  match x, y with
  | .iface _ _, .nili => if ifaceB P t = some true then some false else none
  | .nili, .nili => if ifaceB P t = some true ∧ cst = true then some true else none
  | .nils, .nils => if (elemOf' P t).isSome = true then some true else none
  | .sl (_ :: _), .nils => if (elemOf' P t).isSome = true then some false else none
  | _, _ => none
theorem ifaceB_t {t : TypeId} (h : ifaceB P t = some true) : ∃ ms, P.underlying t = some (.interface ms) := by
  unfold ifaceB at h
  cases hu : P.underlying t with
  | none => simp [hu] at h
  | some d => cases d <;> simp_all
theorem elemOf_some {t : TypeId} (h : (elemOf' P t).isSome = true) : ∃ e, P.underlying t = some (.slice e) := by
  obtain ⟨e, he⟩ := Option.isSome_iff_exists.1 h
  exact ⟨e, elemOf_slice he⟩
theorem cst_ok {x y : Operand} : (isCst x || isCst y) = true → ((x matches .const _) || (y matches .const _)) = true := by
  cases x <;> cases y <;> first | (intro; rfl) | (intro hh; exact absurd hh (by decide)) | simp [isCst]
theorem nilEq_run {I w ι} {t : TypeId} {x y : Operand} {a b : AV} {v u : Value} {r : Bool} {op : BinOp} (ha : VR I w ι a v) (hb : VR I w ι b u) (hr : nilEq P t (isCst x || isCst y) a b = some r) :
    (eqGuard op t x y v u).run P w = .ok () w ∧ (Op.equal t v u).run P w = .ok r w := by
  have heq : ∀ v u, Op.equal t v u = Op.equalIn (9999 + 1) t v u := fun _ _ => rfl
  unfold nilEq at hr
  split at hr
  · split at hr
    · rename_i ht
      obtain rfl := Option.some.inj hr
      obtain ⟨ms, hu⟩ := ifaceB_t ht
      obtain ⟨v', rfl, _⟩ := ha.iface_inv
      obtain rfl := hb.nili_inv
      refine ⟨by unfold eqGuard; cases op <;> first | rfl | simp, ?_⟩
      rw [heq, Op.equalIn, Sem.run_bind, run_underlying' hu]; rfl
    · cases hr
  · split at hr
    · rename_i ht
      obtain rfl := Option.some.inj hr
      obtain ⟨ms, hu⟩ := ifaceB_t ht.1
      obtain rfl := ha.nili_inv
      obtain rfl := hb.nili_inv
      refine ⟨by
        have hq := ht.2
        unfold eqGuard
        cases op <;> first | rfl | (cases x <;> cases y <;> first | rfl | exact absurd hq (by simp [isCst]) | (simp; done)), ?_⟩
      rw [heq, Op.equalIn, Sem.run_bind, run_underlying' hu]; rfl
    · cases hr
  · split at hr
    · rename_i ht
      obtain rfl := Option.some.inj hr
      obtain ⟨ms, hu⟩ := elemOf_some ht
      obtain rfl := ha.nils_inv
      obtain rfl := hb.nils_inv
      refine ⟨by unfold eqGuard; cases op <;> first | rfl | simp, ?_⟩
      rw [heq, Op.equalIn, Sem.run_bind, run_underlying' hu]; rfl
    · cases hr
  · split at hr
    · rename_i ht
      obtain rfl := Option.some.inj hr
      obtain ⟨ms, hu⟩ := elemOf_some ht
      obtain rfl := hb.nils_inv
      cases ha
      refine ⟨by unfold eqGuard; cases op <;> first | rfl | simp, ?_⟩
      rw [heq, Op.equalIn, Sem.run_bind, run_underlying' hu]; rfl
    · cases hr
  · cases hr
theorem Step.eqNil {o : Oper} {ρ : Operand → AV} {h : Hp} {t t' : TypeId} {x y : Operand} {r : Bool} (neg : Bool) (ho : o.op = .binOp (bif neg then .neq else .eql) t x y t')
    (hr : nilEq P t (isCst x || isCst y) (ρ x) (ρ y) = some r) : Step P o ρ h (.bool (r != neg)) h := by
  refine Step.still fun I ι w ac hrel hv => ?_
  have h1 := hv x (by simp [ho, Op.operands])
  have h2 := hv y (by simp [ho, Op.operands])
  refine ⟨_, ?_, .bool _⟩
  obtain ⟨g1, g2⟩ := nilEq_run (op := bif neg then .neq else .eql) h1 h2 hr
  unfold execOp
  simp only [ho]
  rw [Sem.run_bind, Sem.run_bind, g1]
  simp only [Result.andThen_ok]
  generalize ac.eval x = v at *
  generalize ac.eval y = u at *
  have key : binOp (bif neg then .neq else .eql) t v u = (do pure (.bool ((← Op.equal t v u) != neg))) := by
    unfold nilEq at hr
    split at hr
    all_goals first | (cases hr; done) | skip
    all_goals (rename_i hx hy; rw [hx] at h1; rw [hy] at h2; cases h1; cases h2; cases neg <;> simp [binOp])
  rw [key, Sem.run_bind, g2]
  rfl
/-! ### A field of a value -/
def fldT (P : Program) (t : TypeId) (f : Nat) : Option (Nat × TypeId) := match P.underlying t with | some (.struct fs) => fs[f]?.map fun q => (q.offset, q.type) | _ => none
def fdA (ag : Bool) (n off : Nat) (x : AV) : Option AV := match x with
  | .agg cs => bif ag then (if off + n ≤ cs.length then some (.agg ((cs.drop off).take n)) else none) else cs[off]?
  | _ => none
theorem Step.field {o : Oper} {ρ : Operand → AV} {h : Hp} {t e : TypeId} {x : Operand} {f off n : Nat} {ag : Bool} {r : AV} (ho : o.op = .field t x f) (hf : fldT P t f = some (off, e)) (ha : aggOf P e = some ag) (hn : tsz P e = some n)
    (hr : fdA ag n off (ρ x) = some r) : Step P o ρ h r h := by
  refine Step.still fun I ι w a hrel hv => ?_
  have h1 := hv x (by simp [ho, Op.operands])
  unfold fdA at hr
  split at hr
  · rename_i cs hx
    rw [hx] at h1
    obtain ⟨arr, hve, hl, hcs⟩ := h1.agg_inv
    unfold fldT at hf
    split at hf
    · rename_i fs hu
      simp only [Option.map_eq_some_iff, Prod.mk.injEq] at hf
      obtain ⟨q, hq, rfl, rfl⟩ := hf
      have hrun0 : (execOp a.eval o).run P w = ((part q.type arr q.offset).run P w).andThen fun v w' => .ok (.value v) w' := by
        unfold execOp
        simp only [ho, hve, Instr.field]
        rw [Sem.run_bind, Sem.run_bind, run_underlying' hu]
        simp [hq, asAgg]
      cases ag
      · simp only [cond_false] at hr
        have hlt := (List.getElem?_eq_some_iff.1 hr).1
        refine ⟨arr[q.offset], ?_, hcs _ _ _ hr (by simp [hl, hlt])⟩
        rw [hrun0]
        simp [part, run_isAgg' ha, hl, hlt]
      · simp only [cond_true] at hr
        split at hr
        · rename_i hle
          obtain rfl := Option.some.inj hr
          refine ⟨.agg (arr.extract q.offset (q.offset + n)), ?_, .agg (by simp; omega) fun j y z hy hz => ?_⟩
          · rw [hrun0]
            simp [part, run_isAgg' ha, run_sizeOf' hn]
          · have hj : j < n := by
              have := (List.getElem?_eq_some_iff.1 hy).1
              simp at this; omega
            rw [List.getElem?_take_of_lt hj, List.getElem?_drop] at hy
            rw [Array.getElem?_extract] at hz
            split at hz
            · exact hcs _ _ _ hy hz
            · cases hz
        · cases hr
    · cases hf
  · cases hr
end Go.Vs
