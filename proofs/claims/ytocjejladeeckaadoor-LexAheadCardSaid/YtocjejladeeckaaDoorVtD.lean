import Derived.Test.YtocjejladeeckaaDoorVtC
/-! More single operations: new blocks, numbers, texts. -/
set_option linter.unusedVariables false
set_option linter.unusedSectionVars false
set_option linter.unusedSimpArgs false
namespace Go.Vs
variable [Tab]
variable {P : Program}

/-! ### Nothing of the call's own in it -/
mutual
def pureB : AV → Bool
  | .ptr .. | .eptr .. | .msl .. | .map _ => false
  | .func _ f c => pureBs f && pureBs c
  | .iface _ v => pureB v
  | .agg cs => pureBs cs
  | .tuple vs => pureBs vs
  | _ => true
def pureBs : List AV → Bool
  | [] => true
  | x :: xs => pureB x && pureBs xs
end
theorem pureBs_get {cs : List AV} (h : pureBs cs = true) : ∀ (j : Nat) x, cs[j]? = some x → pureB x = true := by
  induction cs with
  | nil => intro j x hj; simp at hj
  | cons a as ih =>
    intro j x hj
    simp only [pureBs, Bool.and_eq_true] at h
    cases j with
    | zero => simp at hj; subst hj; exact h.1
    | succ j => exact ih h.2 j x (by simpa using hj)
theorem VR.to_pure {I w ι x v} (h : VR I w ι x v) (hx : pureB x = true) : VR I w Io.nil x v := by
  induction h with
  | undef => exact .undef
  | bool b => exact .bool b
  | int k n => exact .int k n
  | str s => exact .str s
  | nilp => exact .nilp
  | nilmap => exact .nilmap
  | nilfn => exact .nilfn
  | nili => exact .nili
  | nils => exact .nils
  | emp => exact .emp
  | ptr => simp [pureB] at hx
  | eptr => simp [pureB] at hx
  | mslnil => simp [pureB] at hx
  | iptr c base hI hs hv => exact .iptr c base hI hs hv
  | sl0 => exact .sl0
  | sl esz c off cap hI hn hcap hl hs hv => exact .sl esz c off cap hI hn hcap hl hs hv
  | msl => simp [pureB] at hx
  | map => simp [pureB] at hx
  | func h1 h2 _ _ ih3 ih4 =>
    simp only [pureB, Bool.and_eq_true] at hx
    exact .func h1 h2 (fun j x y a b => ih3 j x y a b (pureBs_get hx.1 j x a)) (fun j x y a b => ih4 j x y a b (pureBs_get hx.2 j x a))
  | iface _ ih => exact .iface (ih (by simpa [pureB] using hx))
  | agg hl _ ih => exact .agg hl (fun j x y a b => ih j x y a b (pureBs_get (by simpa [pureB] using hx) j x a))
  | tuple hl _ ih => exact .tuple hl (fun j x y a b => ih j x y a b (pureBs_get (by simpa [pureB] using hx) j x a))

/-! ### Moves, picks, tuples -/
theorem Step.move {o : Oper} {ρ : Operand → AV} {h : Hp} {x : Operand} (ho : o.op = .move x ∨ o.op = .assign x) : Step P o ρ h (ρ x) h := by
  refine Step.still fun I ι w a hr hx => ?_
  have hv := hx x (by rcases ho with ho | ho <;> simp [ho, Op.operands])
  refine ⟨_, ?_, hv⟩
  unfold execOp
  rcases ho with ho | ho <;> simp [ho]
theorem Step.pick {o : Oper} {ρ : Operand → AV} {h : Hp} {c x y : Operand} {b : Bool} (ho : o.op = .pick c x y) (hc : ρ c = .bool b) : Step P o ρ h (if b then ρ x else ρ y) h := by
  refine Step.still fun I ι w a hr hx => ?_
  have hv := hx c (by simp [ho, Op.operands])
  rw [hc] at hv
  have e := hv.bool_inv
  unfold execOp
  cases b with
  | true => exact ⟨a.eval x, by simp [ho, e, asBool], by simpa using hx x (by simp [ho, Op.operands])⟩
  | false => exact ⟨a.eval y, by simp [ho, e, asBool], by simpa using hx y (by simp [ho, Op.operands])⟩
theorem Step.extract {o : Oper} {ρ : Operand → AV} {h : Hp} {x : Operand} {i : Nat} {vs : List AV} {r : AV} (ho : o.op = .extract x i) (hx : ρ x = .tuple vs) (hi : vs[i]? = some r) : Step P o ρ h r h := by
  refine Step.still fun I ι w a hr hxx => ?_
  have hv := hxx x (by simp [ho, Op.operands])
  rw [hx] at hv
  obtain ⟨arr, e, hl, hxy⟩ := hv.tuple_inv
  have hlt : i < arr.size := by have := (List.getElem?_eq_some_iff.1 hi).1; omega
  have hg : arr[i]? = some arr[i] := by simp [hlt]
  exact ⟨arr[i], by unfold execOp; simp [ho, e, Instr.extract, hg], hxy i r _ hi hg⟩

/-! ### Addresses -/
def addO : AV → Nat → Option AV
  | .ptr b ver off, n => some (.ptr b ver (off + n))
  | .eptr b ver esz k j, n => some (.eptr b ver esz k (j + n))
  | .iptr cs off, n => some (.iptr cs (off + n))
  | _, _ => none
theorem VR.addO {I w ι p v n r} (hv : VR I w ι p v) (h : addO p n = some r) : ∃ a : Addr, v = .pointer (some a) ∧ VR I w ι r (.pointer (some (a.add n))) := by
  unfold Vs.addO at h
  split at h
  · obtain ⟨a, c, cur, sz, rfl, hb, hver, hc⟩ := hv.ptr_inv
    obtain rfl := Option.some.inj h
    exact ⟨a, rfl, .ptr c cur sz hb hver fun e => by rw [hc e, addr_add]⟩
  · obtain ⟨a, c, cur, sz, rfl, hb, hver, hc⟩ := hv.eptr_inv
    obtain rfl := Option.some.inj h
    exact ⟨a, rfl, .eptr c cur sz hb hver fun e => by rw [hc e, addr_add, Nat.add_assoc]⟩
  · obtain rfl := Option.some.inj h
    cases hv with
    | iptr c base hI hs hx =>
      refine ⟨_, rfl, ?_⟩
      rw [addr_add, Nat.add_assoc]
      exact .iptr c base hI hs hx
  · cases h
theorem mapM_opt {α β : Type} {g : α → Option β} : ∀ (l : List α) (l' : List β), l.mapM g = some l' → l'.length = l.length ∧ ∀ (i : Nat) y, l'[i]? = some y → ∃ x, l[i]? = some x ∧ g x = some y
  | [], l', h => by simp at h; subst h; simp
  | x :: l, l', h => by
    simp only [List.mapM_cons, Option.bind_eq_bind, Option.bind_eq_some_iff, Option.pure_def, Option.some.injEq] at h
    obtain ⟨y, hy, l2, hl2, rfl⟩ := h
    obtain ⟨h1, h2⟩ := mapM_opt l l2 hl2
    refine ⟨by simp [h1], fun i z hz => ?_⟩
    cases i with
    | zero => simp at hz; subst hz; exact ⟨x, rfl, hy⟩
    | succ i => exact h2 i z (by simpa using hz)
theorem plc_field {t : TypeId} {l : List (Nat × Nat)} {i off n : Nat} (hl : plc P t = some l) (hi : l[i]? = some (off, n)) :
    ∃ fs : Array Field, P.underlying t = some (.struct fs) ∧ ∃ fd, fs[i]? = some fd ∧ tsz P fd.type = some n ∧ fd.offset = off := by
  unfold plc at hl
  split at hl
  · rename_i fs hu
    obtain ⟨_, h2⟩ := mapM_opt _ _ hl
    obtain ⟨fd, hfd, hg⟩ := h2 i _ hi
    simp only [Option.map_eq_some_iff, Prod.mk.injEq] at hg
    obtain ⟨m, hm, e1, e2⟩ := hg
    subst e2
    exact ⟨fs, hu, fd, by simpa using hfd, hm, e1⟩
  · cases hl
theorem Step.fieldAddr {o : Oper} {ρ : Operand → AV} {h : Hp} {t : TypeId} {x : Operand} {f off n : Nat} {r : AV} (ho : o.op = .fieldAddr t x f) (hf : fld P t f = some (off, n)) (hn : n ≠ 0)
    (ha : addO (ρ x) off = some r) : Step P o ρ h r h := by
  refine Step.still fun I ι w a hr hx => ?_
  have hv := hx x (by simp [ho, Op.operands])
  obtain ⟨ad, e, hvr⟩ := hv.addO ha
  refine ⟨_, ?_, hvr⟩
  obtain ⟨l, hl, hlf⟩ := Option.bind_eq_some_iff.1 hf
  obtain ⟨fs, hu, fd, hfd, hsz, hoff⟩ := plc_field hl hlf
  subst hoff
  unfold execOp
  simp [ho, e, Instr.fieldAt, run_underlying' hu, hfd, Instr.sureAddr, fieldPlace, run_sizeOf' hsz, hn]

/-! ### New blocks -/
theorem Step.newCells {o : Oper} {ρ : Operand → AV} {h : Hp} {ty : TypeId} {cs : List AV}
    (hs : ∀ (I : Nat → Prop) (ι : Io) (w : World) (a : Act), Rel I ι h w → (∀ x ∈ o.op.operands, VR I w ι (ρ x) (a.eval x)) →
      ∃ arr : Array Value, (execOp a.eval o).run P w = .ok (.value (.pointer (some ⟨w.heap.size, 0, none⟩))) (w.alloc (.cells arr ty)) ∧ arr.size = cs.length ∧
        ∀ (j : Nat) x y, cs[j]? = some x → arr[j]? = some y → VR I w ι x y) : Step P o ρ h (.ptr h.length 0 0) (h ++ [.cells cs 0 ty]) := by
  intro I ι w a hr hf hx next Q k
  obtain ⟨arr, hrun, hsz, hxy⟩ := hs I ι w a hr hx
  unfold Oper.wp
  rw [hrun]
  refine k _ _ I _ (Ext.alloc hr (hf _ (Nat.le_refl _) (by simp)) (.cells cs 0 ty) (.cells arr ty) 0 arr.size rfl ?_) ?_
  · rintro w' ι' rfl rfl mono
    exact ⟨rfl, arr, alloc_new _ _, rfl, by omega, fun j x y hj hy => mono _ _ (hxy j x y hj hy)⟩
  · exact .ptr _ 0 arr.size (upd_same _ _ _) (Nat.le_refl _) fun _ => rfl

theorem run_zero {t : TypeId} {z : List AV} (h : tzero P t = some z) : ∃ v : Value, (∀ w, (zeroValue t).run P w = .ok v w) ∧ v.cells.toList.map ofC1 = z := by
  unfold tzero at h
  cases hi : P.info? t with
  | none => simp [hi] at h
  | some i =>
    cases hz : i.zero with
    | none => simp [hi, hz] at h
    | some v =>
      simp [hi, hz] at h
      exact ⟨v, fun w => by simp [zeroValue, typeInfo, hi, hz], by simpa using h⟩
theorem zero_cells {I w ι} {v : Value} {z : List AV} (h : v.cells.toList.map ofC1 = z) : v.cells.size = z.length ∧ ∀ (j : Nat) x y, z[j]? = some x → v.cells[j]? = some y → VR I w ι x y := by
  subst h
  refine ⟨by simp, fun j x y hx hy => ?_⟩
  simp only [List.getElem?_map, Array.getElem?_toList, hy, Option.map_some, Option.some.injEq] at hx
  subst hx
  exact VR.ofC1 _ _ _ _

theorem Step.alloc {o : Oper} {ρ : Operand → AV} {h : Hp} {t : TypeId} {z : List AV} (ho : o.op = .alloc t) (hz : tzero P t = some z) : Step P o ρ h (.ptr h.length 0 0) (h ++ [.cells z 0 t]) := by
  refine Step.newCells fun I ι w a hr hx => ?_
  obtain ⟨v, hv, hz⟩ := run_zero hz
  obtain ⟨e1, e2⟩ := zero_cells (I := I) (w := w) (ι := ι) hz
  refine ⟨v.cells, ?_, e1, e2⟩
  unfold execOp
  simp only [ho, Instr.alloc, newVar, newRow]
  simp [hv]
theorem Step.box {o : Oper} {ρ : Operand → AV} {h : Hp} {t : TypeId} {x : Operand} (ho : o.op = .box t x) (h1 : (cellsOf (ρ x)).all oneB = true) : Step P o ρ h (.ptr h.length 0 0) (h ++ [.cells (cellsOf (ρ x)) 0 t]) := by
  refine Step.newCells fun I ι w a hr hx => ?_
  have hv := hx x (by simp [ho, Op.operands])
  obtain ⟨e1, e2, e3⟩ := hv.cells h1
  refine ⟨(a.eval x).cells, ?_, e1, e3⟩
  unfold execOp
  simp only [ho, Instr.box, newVar, newRow]
  simp

/-! ### Numbers -/
def evInt (op : BinOp) (k : IntKind) (a b : Int) : Option AV :=
  match op with
  | .add => some (.int k (k.wrap (a + b)))
  | .sub => some (.int k (k.wrap (a - b)))
  | .mul => some (.int k (k.wrap (a * b)))
  | .quo => if b = 0 then none else some (.int k (k.wrap (a.tdiv b)))
  | .rem => if b = 0 then none else some (.int k (a.tmod b))
  | .and => some (.int k (Go.bits .and k a b))
  | .or => some (.int k (Go.bits .or k a b))
  | .xor => some (.int k (Go.bits .xor k a b))
  | .eql => some (.bool (a == b))
  | .neq => some (.bool (a != b))
  | .lss => some (.bool (decide (a < b)))
  | .leq => some (.bool (decide (a ≤ b)))
  | .gtr => some (.bool (decide (a > b)))
  | .geq => some (.bool (decide (a ≥ b)))
  | _ => none
theorem Step.binInt {o : Oper} {ρ : Operand → AV} {h : Hp} {op : BinOp} {t t' : TypeId} {x y : Operand} {k : IntKind} {a b : Int} {r : AV} (ho : o.op = .binOp op t x y t')
    (hx : ρ x = .int k a) (hy : ρ y = .int k b) (he : evInt op k a b = some r) : Step P o ρ h r h := by
  refine Step.still fun I ι w ac hr hv => ?_
  have h1 := hv x (by simp [ho, Op.operands])
  have h2 := hv y (by simp [ho, Op.operands])
  rw [hx] at h1; rw [hy] at h2
  have e1 := h1.int_inv
  have e2 := h2.int_inv
  unfold execOp
  simp only [ho, e1, e2]
  cases op <;> simp only [evInt, Option.some.injEq, reduceCtorEq] at he
  all_goals try (split at he <;> simp only [Option.some.injEq, reduceCtorEq] at he)
  all_goals (subst he)
  all_goals (first | refine ⟨_, ?_, .int _ _⟩ | refine ⟨_, ?_, .bool _⟩)
  all_goals first
    | (simp [eqGuard, binOp, Op.intArith, Op.intCmp, Op.intDiv, *]; done)
    | (simp [eqGuard, binOp]; rfl)

theorem Step.not {o : Oper} {ρ : Operand → AV} {h : Hp} {t : TypeId} {x : Operand} {b : Bool} (ho : o.op = .unOp .not t x) (hx : ρ x = .bool b) : Step P o ρ h (.bool (!b)) h := by
  refine Step.still fun I ι w a hr hv => ?_
  have h1 := hv x (by simp [ho, Op.operands])
  rw [hx] at h1
  refine ⟨_, ?_, .bool _⟩
  unfold execOp; simp [ho, h1.bool_inv, Op.unary]
theorem Step.neg {o : Oper} {ρ : Operand → AV} {h : Hp} {t : TypeId} {x : Operand} {k : IntKind} {n : Int} (ho : o.op = .unOp .neg t x) (hx : ρ x = .int k n) : Step P o ρ h (.int k (k.wrap (0 - n))) h := by
  refine Step.still fun I ι w a hr hv => ?_
  have h1 := hv x (by simp [ho, Op.operands])
  rw [hx] at h1
  refine ⟨_, ?_, .int _ _⟩
  unfold execOp; simp only [ho, h1.int_inv, Op.unary, Op.intArith]; rfl
theorem Step.convInt {o : Oper} {ρ : Operand → AV} {h : Hp} {s d : TypeId} {ds : TypeDesc} {x : Operand} {k k' : IntKind} {n : Int} (ho : o.op = .convert s d x) (hs : P.underlying s = some ds)
    (hd : P.underlying d = some (.int k')) (hx : ρ x = .int k n) : Step P o ρ h (.int k' (k'.wrap n)) h := by
  refine Step.still fun I ι w a hr hv => ?_
  have h1 := hv x (by simp [ho, Op.operands])
  rw [hx] at h1
  refine ⟨_, ?_, .int _ _⟩
  unfold execOp; simp [ho, h1.int_inv, convert, run_underlying' hs, run_underlying' hd, Conv.intToInt]
theorem run_equalBool {t : TypeId} (ht : P.underlying t = some .bool) (a b : Bool) (w : World) : (Op.equal t (.bool a) (.bool b)).run P w = .ok (a == b) w := by
  show (Op.equalIn (9999 + 1) t (.bool a) (.bool b)).run P w = _
  rw [Op.equalIn]
  rw [Sem.run_bind, run_underlying' ht]
  rfl
/-- Bools held against each other. -/
theorem Step.eqBool {o : Oper} {ρ : Operand → AV} {h : Hp} {t t' : TypeId} {x y : Operand} {a b : Bool} (ho : o.op = .binOp .eql t x y t') (ht : P.underlying t = some .bool)
    (hx : ρ x = .bool a) (hy : ρ y = .bool b) : Step P o ρ h (.bool (a == b)) h := by
  refine Step.still fun I ι w ac hr hv => ?_
  have h1 := hv x (by simp [ho, Op.operands])
  have h2 := hv y (by simp [ho, Op.operands])
  rw [hx] at h1; rw [hy] at h2
  refine ⟨_, ?_, .bool _⟩
  unfold execOp
  simp only [ho, h1.bool_inv, h2.bool_inv, eqGuard]
  have e : binOp .eql t (.bool a) (.bool b) = (do pure (.bool (← Op.equal t (.bool a) (.bool b)))) := rfl
  simp [e, run_equalBool ht]
theorem Step.neqBool {o : Oper} {ρ : Operand → AV} {h : Hp} {t t' : TypeId} {x y : Operand} {a b : Bool} (ho : o.op = .binOp .neq t x y t') (ht : P.underlying t = some .bool)
    (hx : ρ x = .bool a) (hy : ρ y = .bool b) : Step P o ρ h (.bool (a != b)) h := by
  refine Step.still fun I ι w ac hr hv => ?_
  have h1 := hv x (by simp [ho, Op.operands])
  have h2 := hv y (by simp [ho, Op.operands])
  rw [hx] at h1; rw [hy] at h2
  refine ⟨_, ?_, .bool _⟩
  unfold execOp
  simp only [ho, h1.bool_inv, h2.bool_inv, eqGuard]
  have e : binOp .neq t (.bool a) (.bool b) = (do pure (.bool (!(← Op.equal t (.bool a) (.bool b))))) := rfl
  simp [e, run_equalBool ht]
  cases a <;> cases b <;> rfl
end Go.Vs
