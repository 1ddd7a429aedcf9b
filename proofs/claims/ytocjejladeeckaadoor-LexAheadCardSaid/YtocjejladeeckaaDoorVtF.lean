import Derived.Test.YtocjejladeeckaaDoorVtE
import Derived.Laws.Strings
/-! Structs and slices built, elements, texts. -/
set_option linter.unusedVariables false
set_option linter.unusedSectionVars false
set_option linter.unusedSimpArgs false
namespace Go.Vs
variable [Tab]
variable {P : Program}

/-! ### Cells laid by a literal -/
theorem foldl_set (xs : List Value) : ∀ (off n : Nat) (cells : Array Value), off + n + xs.length ≤ cells.size →
    ((xs.zipIdx n).foldl (fun cs (q : Value × Nat) => cs.setIfInBounds (off + q.2) q.1) cells).size = cells.size ∧
    ∀ k, ((xs.zipIdx n).foldl (fun cs (q : Value × Nat) => cs.setIfInBounds (off + q.2) q.1) cells)[k]? = if off + n ≤ k ∧ k < off + n + xs.length then xs[k - (off + n)]? else cells[k]? := by
  induction xs with
  | nil => intro off n cells h; simp; intros; omega
  | cons x xs ih =>
    intro off n cells h
    simp only [List.length_cons] at h
    simp only [List.zipIdx_cons, List.foldl_cons]
    obtain ⟨h1, h2⟩ := ih off (n + 1) (cells.setIfInBounds (off + n) x) (by simp; omega)
    refine ⟨by simp [h1], fun k => ?_⟩
    rw [h2]
    by_cases e1 : off + (n + 1) ≤ k ∧ k < off + (n + 1) + xs.length
    · rw [if_pos e1, if_pos ⟨by omega, by simp; omega⟩]
      have : k - (off + n) = (k - (off + (n + 1))) + 1 := by omega
      rw [this, List.getElem?_cons_succ]
    · rw [if_neg e1, Array.getElem?_setIfInBounds]
      by_cases e2 : off + n = k
      · subst e2; rw [if_pos rfl, if_pos (by omega), if_pos ⟨by omega, by simp⟩]; simp
      · rw [if_neg e2, if_neg (by simp; omega)]

def fillA (place : Nat → Option (Nat × Nat)) (cs : List AV) : List (Nat × AV) → Option (List AV)
  | [] => some cs
  | (i, x) :: rest => match place i with
    | some (off, n) => if (cellsOf x).length = n ∧ off + n ≤ cs.length ∧ (cellsOf x).all oneB = true then fillA place (spl cs off (cellsOf x)) rest else none
    | none => none

/-- Related cells. -/
def CR (I : Nat → Prop) (w : World) (ι : Io) (cs : List AV) (arr : Array Value) : Prop :=
  arr.size = cs.length ∧ ∀ (j : Nat) x y, cs[j]? = some x → arr[j]? = some y → VR I w ι x y

theorem fill_real {I w ι} {place : Nat → Option (Nat × Nat)} : ∀ (parts : List (Nat × AV)) (vals : List (Nat × Value)) (cs cs' : List AV) (arr : Array Value),
    vals.length = parts.length → (∀ (j : Nat) p q, parts[j]? = some p → vals[j]? = some q → p.1 = q.1 ∧ VR I w ι p.2 q.2) → CR I w ι cs arr → fillA place cs parts = some cs' →
    ∃ arr', Instr.fill place arr vals = some arr' ∧ CR I w ι cs' arr'
  | [], vals, cs, cs', arr, hl, hp, hc, hf => by
    simp at hl; subst hl
    simp only [fillA, Option.some.injEq] at hf; subst hf
    exact ⟨arr, rfl, hc⟩
  | (i, x) :: parts, [], cs, cs', arr, hl, hp, hc, hf => by simp at hl
  | (i, x) :: parts, (i', v) :: vals, cs, cs', arr, hl, hp, hc, hf => by
    obtain ⟨e, hv⟩ := hp 0 (i, x) (i', v) rfl rfl
    dsimp only at e hv
    subst e
    simp only [fillA] at hf
    split at hf
    · rename_i off n hpl
      split at hf
      · rename_i hcond
        obtain ⟨h1, h2, h3⟩ := hcond
        obtain ⟨c1, c2, c3⟩ := hv.cells h3
        have hsize := hc.1
        obtain ⟨z1, z2⟩ := foldl_set v.cells.toList off 0 arr (by simp [c1]; omega)
        have hfold : v.cells.zipIdx.foldl (fun cs (q : Value × Nat) => cs.setIfInBounds (off + q.2) q.1) arr = (v.cells.toList.zipIdx 0).foldl (fun cs (q : Value × Nat) => cs.setIfInBounds (off + q.2) q.1) arr := by
          rw [← Array.foldl_toList, Array.toList_zipIdx]
        rw [← hfold] at z1 z2
        have hcr0 : CR I w ι (spl cs off (cellsOf x)) (v.cells.zipIdx.foldl (fun cs (q : Value × Nat) => cs.setIfInBounds (off + q.2) q.1) arr) := by
          refine ⟨by rw [z1, spl_length, hsize], fun j a b ha hb => ?_⟩
          rw [z2] at hb
          rw [spl_get _ _ _ _ (by omega)] at ha
          simp only [Nat.add_zero, Array.length_toList, c1] at hb
          by_cases hj : off ≤ j ∧ j < off + (cellsOf x).length
          · rw [if_pos hj] at ha hb
            exact c3 _ a b ha (by simpa using hb)
          · rw [if_neg hj] at ha hb
            exact hc.2 j a b ha hb
        obtain ⟨arr', ha, hcr⟩ := fill_real (place := place) parts vals (spl cs off (cellsOf x)) cs' _ (by simpa using hl) (fun j p q hp' hq => hp (j + 1) p q hp' hq) hcr0 hf
        refine ⟨arr', ?_, hcr⟩
        rw [Instr.fill]
        simp only [hpl]
        have hle : off + v.cells.size ≤ arr.size := by omega
        have hcn : v.cells.size = n := by omega
        rw [if_neg (by simp only [hcn, ne_eq, not_true_eq_false, decide_false, Bool.false_or, decide_eq_true_eq]; omega)]
        exact ha
      · cases hf
    · cases hf

/-- The places of a struct's, or an array's, parts. -/
def plcOf (P : Program) (t : TypeId) (i : Nat) : Option (Nat × Nat) :=
  match P.underlying t with
  | some (.struct _) => fld P t i
  | some (.array _ e) => (tsz P e).map fun n => (i * n, n)
  | _ => none

theorem run_mapM_places : ∀ (fs : List Field) (l : List (Nat × Nat)), (fs.mapM fun f => (tsz P f.type).map fun n => (f.offset, n)) = some l → ∀ w,
    (fs.mapM fun f => (do pure (f.offset, ← sizeOf f.type) : Sem (Nat × Nat))).run P w = .ok l w
  | [], l, h, w => by simp at h; subst h; simp
  | f :: fs, l, h, w => by
    simp only [List.mapM_cons, Option.bind_eq_bind, Option.bind_eq_some_iff, Option.pure_def, Option.some.injEq, Option.map_eq_some_iff] at h
    obtain ⟨y, ⟨n, hn, rfl⟩, l2, hl2, rfl⟩ := h
    rw [List.mapM_cons]
    simp only [Sem.run_bind, run_sizeOf' hn, Result.andThen_ok, Sem.run_pure, run_mapM_places fs l2 hl2 w]

theorem Step.build {o : Oper} {ρ : Operand → AV} {h : Hp} {t : TypeId} {parts : Array (Nat × Operand)} {z cs : List AV} {l : List (Nat × Nat)} (ho : o.op = .build t parts) (hz : tzero P t = some z)
    (hpl : plc P t = some l) (hf : fillA (fun i : Nat => l[i]?) z (parts.toList.map fun q => (q.1, ρ q.2)) = some cs) : Step P o ρ h (.agg cs) h := by
  refine Step.still fun I ι w a hr hx => ?_
  obtain ⟨zv, hzr, hzc⟩ := run_zero hz
  obtain ⟨e1, e2⟩ := zero_cells (I := I) (w := w) (ι := ι) hzc
  have hxs : ∀ q ∈ parts, VR I w ι (ρ q.2) (a.eval q.2) := fun q hq => hx q.2 (by simp only [ho, Op.operands]; simp; exact ⟨q.1, hq⟩)
  obtain ⟨arr', ha, hcr⟩ := fill_real (I := I) (w := w) (ι := ι) (place := fun i : Nat => l[i]?) (parts.toList.map fun q => (q.1, ρ q.2)) (parts.toList.map fun q => (q.1, a.eval q.2)) z cs zv.cells (by simp)
    (fun j p q hp hq => by
      simp only [List.getElem?_map, Array.getElem?_toList, Option.map_eq_some_iff] at hp hq
      obtain ⟨p0, hp0, rfl⟩ := hp
      obtain ⟨q0, hq0, rfl⟩ := hq
      rw [hp0] at hq0
      obtain rfl := Option.some.inj hq0
      exact ⟨rfl, hxs p0 (Array.mem_of_getElem? hp0)⟩) ⟨e1, e2⟩ hf
  refine ⟨.agg arr', ?_, .agg hcr.1 hcr.2⟩
  unfold plc at hpl
  split at hpl
  · rename_i fs hu
    have hpls := run_mapM_places (P := P) fs.toList l hpl w
    have e : (fs.mapM fun f => (do pure (f.offset, ← sizeOf f.type) : Sem (Nat × Nat))).run P w = .ok l.toArray w := by
      rw [Array.mapM_eq_mapM_toList, Sem.run_map, hpls]; rfl
    have hfn : (fun i : Nat => l.toArray[i]?) = fun i : Nat => l[i]? := by funext i; simp
    unfold execOp
    have hparts : (parts.map fun q => (q.1, a.eval q.2)).toList = parts.toList.map fun q => (q.1, a.eval q.2) := by simp
    simp only [ho, Instr.build]
    rw [Sem.run_bind, Sem.run_bind, hzr]
    simp only [Result.andThen_ok]
    rw [Sem.run_bind, run_underlying' hu]
    simp only [Result.andThen_ok]
    rw [Sem.run_bind, e]
    simp only [Result.andThen_ok]
    rw [hfn, hparts, ha]
    rfl
  · cases hpl

/-! ### Interfaces -/
def ifaceB (P : Program) (t : TypeId) : Option Bool := (P.underlying t).map fun | .interface _ => true | _ => false
theorem Step.makeInterface {o : Oper} {ρ : Operand → AV} {h : Hp} {t : TypeId} {x : Operand} (ho : o.op = .makeInterface t x) (ht : ifaceB P t = some false) : Step P o ρ h (.iface t (ρ x)) h := by
  refine Step.still fun I ι w a hr hx => ?_
  refine ⟨_, ?_, .iface (hx x (by simp [ho, Op.operands]))⟩
  unfold ifaceB at ht
  cases hu : P.underlying t with
  | none => simp [hu] at ht
  | some d =>
    unfold execOp
    simp only [ho, Instr.makeInterface]
    rw [Sem.run_bind, Sem.run_bind, run_underlying' hu]
    cases d <;> simp_all

/-! ### Slices -/
theorem Ext.allocI {I ι h w} (hr : Rel I ι h w) (ob : Obj) : Ext I ι h w (fun c => I c ∨ c = w.heap.size) ι h (w.alloc ob) := by
  have hb : RowKit.Below w.heap.size w (w.alloc ob) := (RowKit.Below.refl _ _).alloc (Nat.le_refl _) _
  refine Ext.below hr hb (fun c h => .inl h) (fun c h => ?_) (fun c h => ?_)
  · rcases h with h | h
    · have := hr.ilt c h; rw [alloc_size']; omega
    · rw [alloc_size']; omega
  · exact h.imp id (fun e => by omega)

def elemOf' (P : Program) (t : TypeId) : Option TypeId :=
  match P.underlying t with
  | some (.slice e) => some e
  | _ => none
theorem elemOf_slice {t e : TypeId} (h : elemOf' P t = some e) : P.underlying t = some (.slice e) := by
  unfold elemOf' at h; split at h <;> simp_all

/-- An index that fits. -/
def InB (i : Int) (n : Nat) : Prop := 0 ≤ i ∧ i.toNat < n
instance (i : Int) (n : Nat) : Decidable (InB i n) := inferInstanceAs (Decidable (_ ∧ _))
/-- The index of an element. -/
def idx? (n : Nat) : AV → Option Nat
  | .int _ i => if InB i n then some i.toNat else none
  | _ => none

def elA (esz : Nat) (x : AV) (i : AV) : Option AV :=
  match x with
  | .sl rows => match idx? rows.length i with
    | some k => match rows[k]? with
      | some row => if row.length = esz then some (.iptr row 0) else none
      | none => none
    | none => none
  | .msl b ver off e len cap => match idx? len i with
    | some k => if e = esz then some (.eptr b ver esz (off + k) 0) else none
    | none => none
  | _ => none

theorem Step.indexAddr {o : Oper} {ρ : Operand → AV} {h : Hp} {t e : TypeId} {x i : Operand} {esz : Nat} {r : AV} (ho : o.op = .indexAddr t x i) (ht : elemOf' P t = some e) (hs : tsz P e = some esz)
    (he : elA esz (ρ x) (ρ i) = some r) (hstale : ∀ b ver off e len cap, ρ x = .msl b ver off e len cap → ∃ rs ty, h[b]? = some (.rows rs e ver ty)) : Step P o ρ h r h := by
  refine Step.still fun I ι w a hr hx => ?_
  have h1 := hx x (by simp [ho, Op.operands])
  have h2 := hx i (by simp [ho, Op.operands])
  have hu := elemOf_slice ht
  unfold elA at he
  split at he
  · rename_i rows hxe
    rw [hxe] at h1
    split at he
    · rename_i k hk
      split at he
      · rename_i row hrow
        split at he
        · rename_i hlen
          obtain rfl := Option.some.inj he
          unfold idx? at hk
          split at hk
          · rename_i kk n hie
            split at hk
            · rename_i hb
              obtain rfl := Option.some.inj hk
              rw [hie] at h2
              have e2 := h2.int_inv
              obtain ⟨_, hrows⟩ := h1.sl_inv
              obtain ⟨c, off, cap, e1, hI, hcap, hcell⟩ := hrows _ row hrow
              refine ⟨.pointer (some ⟨c, off + n.toNat * esz + 0, none⟩), ?_, .iptr c (off + n.toNat * esz) hI ?_ ?_⟩
              · unfold execOp
                have hlt : n < (rows.length : Int) := by have := hb.1; have := hb.2; omega
                simp [ho, e1, e2, Instr.indexAt, asIntOf, run_underlying' hu, hb.1, hlt, run_sizeOf' hs, addr_add]
              · intro j y hj
                obtain ⟨z, hz, _⟩ := hcell j y hj
                exact ⟨z, by rw [← hlen, Nat.add_assoc]; exact hz⟩
              · intro j y z hj hz
                obtain ⟨z', hz', hv⟩ := hcell j y hj
                rw [← hlen, Nat.add_assoc, hz'] at hz
                obtain rfl := Option.some.inj hz
                exact hv
            · cases hk
          · cases hk
        · cases he
      · cases he
    · cases he
  · rename_i b ver off e' len cap hxe
    rw [hxe] at h1
    split at he
    · rename_i k hk
      split at he
      · rename_i hee
        subst hee
        obtain rfl := Option.some.inj he
        unfold idx? at hk
        split at hk
        · rename_i kk n hie
          split at hk
          · rename_i hb
            obtain rfl := Option.some.inj hk
            rw [hie] at h2
            have e2 := h2.int_inv
            rcases h1.msl_inv with ⟨ad, m, ccap, c, cur, sz, e1, hib, hver, hcc⟩ | ⟨e1, e3, e4⟩
            · obtain ⟨cs, ty, hcs⟩ := hstale _ _ _ _ _ _ hxe
              have hreal := hr.real b _ _ hib hcs
              obtain ⟨had, rfl, hcap, hcap2, hroom⟩ := hcc hreal.1
              obtain rfl := had.resolve_right (by have := hb.2; omega)
              refine ⟨.pointer (some ⟨c, (off + n.toNat) * e' + 0, none⟩), ?_, .eptr c cur sz hib hver fun _ => rfl⟩
              unfold execOp
              have hlt : n < (m : Int) := by have := hb.1; have := hb.2; omega
              simp [ho, e1, e2, Instr.indexAt, asIntOf, run_underlying' hu, hb.1, hlt, run_sizeOf' hs, addr_add, Nat.add_mul]
            · have := hb.2; omega
          · cases hk
        · cases hk
      · cases he
    · cases he
  · cases he

def lenA : AV → Option Nat
  | .sl rows => some rows.length
  | .str s => some s.size
  | .nils => some 0
  | .emp => some 0
  | .msl _ _ _ _ len _ => some len
  | _ => none
theorem Step.len {o : Oper} {ρ : Operand → AV} {h : Hp} {t : TypeId} {x : Operand} {n : Nat} (ho : o.op = .call { callee := .builtin .len, args := #[x], argTypes := #[t] })
    (ht : (elemOf' P t).isSome = true ∨ P.underlying t = some .string) (hs : ∀ s, ρ x = .str s → P.underlying t = some .string) (hs2 : (∀ s, ρ x ≠ .str s) → (elemOf' P t).isSome = true) (hn : lenA (ρ x) = some n) (hstale : ∀ b ver off e len cap, ρ x = .msl b ver off e len cap → ∃ rs ty, h[b]? = some (.rows rs e ver ty)) : Step P o ρ h (.int .i64 n) h := by
  refine Step.still fun I ι w a hr hx => ?_
  have h1 := hx x (by simp [ho, Op.operands, Call.operands])
  refine ⟨_, ?_, .int _ _⟩
  unfold execOp
  unfold lenA at hn
  split at hn
  · rename_i rows hxe
    obtain rfl := Option.some.inj hn
    rw [hxe] at h1
    obtain ⟨⟨ad, cap, e⟩, _⟩ := h1.sl_inv
    have hel := hs2 (by rw [hxe]; simp)
    obtain ⟨el, hel⟩ := Option.isSome_iff_exists.1 hel
    simp [ho, resolve, invoke, builtin, Builtin.len_, e, run_underlying' (elemOf_slice hel), goInt]
  · rename_i s hxe
    obtain rfl := Option.some.inj hn
    have := hs s hxe
    rw [hxe] at h1
    simp [ho, resolve, invoke, builtin, Builtin.len_, h1.str_inv, run_underlying' this, goInt]
  · rename_i hxe
    obtain rfl := Option.some.inj hn
    rw [hxe] at h1
    have hel := hs2 (by rw [hxe]; simp)
    obtain ⟨el, hel⟩ := Option.isSome_iff_exists.1 hel
    simp [ho, resolve, invoke, builtin, Builtin.len_, h1.nils_inv, run_underlying' (elemOf_slice hel), goInt]
  · rename_i hxe
    obtain rfl := Option.some.inj hn
    rw [hxe] at h1
    have hel := hs2 (by rw [hxe]; simp)
    obtain ⟨el, hel⟩ := Option.isSome_iff_exists.1 hel
    obtain ⟨a0, e0⟩ := h1.emp_inv
    simp [ho, resolve, invoke, builtin, Builtin.len_, e0, run_underlying' (elemOf_slice hel), goInt]
  · rename_i b ver off e len cap hxe
    obtain rfl := Option.some.inj hn
    rw [hxe] at h1
    have hel := hs2 (by rw [hxe]; simp)
    obtain ⟨el, hel⟩ := Option.isSome_iff_exists.1 hel
    rcases h1.msl_inv with ⟨ad, m, ccap, c, cur, sz, e1, hib, hver, hcc⟩ | ⟨e1, e3, e4⟩
    · obtain ⟨cs, ty, hcs⟩ := hstale _ _ _ _ _ _ hxe
      have hreal := hr.real b _ _ hib hcs
      obtain ⟨had, rfl, hcap, hcap2, hroom⟩ := hcc hreal.1
      simp [ho, resolve, invoke, builtin, Builtin.len_, e1, run_underlying' (elemOf_slice hel), goInt]
    · subst e3
      simp [ho, resolve, invoke, builtin, Builtin.len_, e1, run_underlying' (elemOf_slice hel), goInt]
  · cases hn

end Go.Vs
