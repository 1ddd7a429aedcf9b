import Derived.Test.YtocjejladeeckaaDoorVtN
/-! Slices of texts and of slices. -/
set_option linter.unusedVariables false
set_option linter.unusedSectionVars false
set_option linter.unusedSimpArgs false
namespace Go.Vs
variable [Tab]
variable {P : Program}
def Bnd (i : Int) (n : Nat) : Prop := 0 ≤ i ∧ i ≤ (n : Int)
instance (i : Int) (n : Nat) : Decidable (Bnd i n) := inferInstanceAs (Decidable (_ ∧ _))
def bndO (y d : Nat) : Option AV → Option Nat
  | none => some d
  | some (.int _ i) => if Bnd i y then some i.toNat else none
  | _ => none
theorem bndO_run {I w ι} {y d n : Nat} {x : AV} {v : Value} {code : BoundsCode} (hv : VR I w ι x v) (h : bndO y d (some x) = some n) : (Instr.sliceBound v y code).run P w = .ok n w ∧ n ≤ y := by
  unfold bndO at h
  split at h
  · rename_i e; cases e
  · rename_i k i e
    obtain rfl := Option.some.inj e
    split at h
    · rename_i hc
      obtain rfl := Option.some.inj h
      obtain rfl := hv.int_inv
      have h1 := hc.1
      have h2 := hc.2
      refine ⟨?_, by omega⟩
      simp [Instr.sliceBound, asIntOf, hc.1, hc.2]
    · cases h
  · cases h
def bndsA (len : Nat) (lo hi : Option AV) : Option (Nat × Nat) := (bndO len len hi).bind fun h => (bndO h 0 lo).map fun l => (l, h)
theorem bndsA_run {I w ι} {a : Act} {ρ : Operand → AV} {len cap : Nat} {lo hi : Option Operand} {l h : Nat} (isS : Bool) (hlc : len ≤ cap) (hs : isS = false → cap = len)
    (h1 : ∀ x, lo = some x → VR I w ι (ρ x) (a.eval x)) (h2 : ∀ x, hi = some x → VR I w ι (ρ x) (a.eval x)) (hb : bndsA len (lo.map ρ) (hi.map ρ) = some (l, h)) :
    (Instr.sliceBounds isS len cap (lo.map a.eval) (hi.map a.eval) none).run P w = .ok (l, h, cap) w ∧ l ≤ h ∧ h ≤ len := by
  obtain ⟨h', hh, hb⟩ := Option.bind_eq_some_iff.1 hb
  simp only [Option.map_eq_some_iff, Prod.mk.injEq] at hb
  obtain ⟨l', hl, rfl, rfl⟩ := hb
  have hhl : h' ≤ len := by
    cases hi with
    | none => simp [bndO] at hh; omega
    | some x => exact (bndO_run (P := P) (code := .index) (h2 x rfl) hh).2
  have hll : l' ≤ h' := by
    cases lo with
    | none => simp [bndO] at hl; omega
    | some x => exact (bndO_run (P := P) (code := .index) (h1 x rfl) hl).2
  refine ⟨?_, hll, hhl⟩
  have hwide : ∀ x, hi = some x → bndO cap cap (some (ρ x)) = some h' := by
    rintro x rfl
    simp only [Option.map_some] at hh
    unfold bndO at hh ⊢
    split at hh
    · rename_i e; cases e
    · rename_i k i e
      obtain e := Option.some.inj e
      split at hh
      · rename_i hc; have h1 := hc.1; have h2 := hc.2; rw [if_pos ⟨hc.1, by omega⟩]; exact hh
      · cases hh
    · cases hh
  unfold Instr.sliceBounds
  cases hi with
  | none =>
    simp [bndO] at hh
    subst hh
    cases lo with
    | none => simp [bndO] at hl; subst hl; simp
    | some x =>
      have := (bndO_run (P := P) (code := .sliceB) (h1 x rfl) hl).1
      simp [this]
  | some y =>
    have hy := fun c => (bndO_run (P := P) (code := c) (h2 y rfl) (hwide y rfl)).1
    cases lo with
    | none => simp [bndO] at hl; subst hl; cases isS <;> simp [hy]
    | some x =>
      have := (bndO_run (P := P) (code := .sliceB) (h1 x rfl) hl).1
      cases isS <;> simp [hy, this]
theorem Step.sliceStr {o : Oper} {ρ : Operand → AV} {h : Hp} {t : TypeId} {x : Operand} {lo hi : Option Operand} {s : ByteArray} {l u : Nat} (ho : o.op = .slice t x lo hi none) (ht : P.underlying t = some .string)
    (hx : ρ x = .str s) (hb : bndsA s.size (lo.map ρ) (hi.map ρ) = some (l, u)) : Step P o ρ h (.str (s.extract l u)) h := by
  refine Step.still fun I ι w a hrel hv => ?_
  have h1 := hv x (by simp [ho, Op.operands])
  rw [hx] at h1
  obtain ⟨g, _, _⟩ := bndsA_run (P := P) (a := a) (cap := s.size) false (Nat.le_refl _) (fun _ => rfl) (fun y e => hv y (by subst e; simp [ho, Op.operands])) (fun y e => hv y (by subst e; simp [ho, Op.operands])) hb
  refine ⟨_, ?_, .str _⟩
  unfold execOp
  simp only [ho, Instr.sliceAt, h1.str_inv]
  rw [Sem.run_bind, Sem.run_bind, run_underlying' ht]
  simp only [Result.andThen_ok, Instr.slice, Option.map_none]
  rw [Sem.run_bind, run_underlying' ht]
  simp [g]
theorem Step.sliceSl {o : Oper} {ρ : Operand → AV} {h : Hp} {t e : TypeId} {k : Nat} {x : Operand} {lo hi : Option Operand} {rows : List (List AV)} {l u : Nat} (ho : o.op = .slice t x lo hi none) (ht : elemOf' P t = some e) (hk : tsz P e = some k)
    (hx : ρ x = .sl rows) (hr : rows.all (·.length == k) = true) (hb : bndsA rows.length (lo.map ρ) (hi.map ρ) = some (l, u)) : Step P o ρ h (.sl ((rows.take u).drop l)) h := by
  refine Step.still fun I ι w a hrel hv => ?_
  have hu := elemOf_slice ht
  have h1 := hv x (by simp [ho, Op.operands])
  rw [hx] at h1
  have hv1 : ∀ y, lo = some y → VR I w ι (ρ y) (a.eval y) := fun y e => hv y (by subst e; simp [ho, Op.operands])
  have hv2 : ∀ y, hi = some y → VR I w ι (ρ y) (a.eval y) := fun y e => hv y (by subst e; simp [ho, Op.operands])
  have hrun : ∀ (ad : Option Addr) (n cap : Nat), n = rows.length → n ≤ cap → a.eval x = .slice ad n cap →
      (execOp a.eval o).run P w = .ok (.value (.slice (if cap = l then ad else ad.map (·.add (l * k))) (u - l) (cap - l))) w ∧ l ≤ u ∧ u ≤ n := by
    rintro ad n cap rfl hnc hax
    obtain ⟨g, g1, g2⟩ := bndsA_run (P := P) (a := a) (cap := cap) (w := w) true hnc (fun e => by cases e) hv1 hv2 hb
    refine ⟨?_, g1, g2⟩
    unfold execOp
    simp only [ho, Instr.sliceAt, hax]
    rw [Sem.run_bind, Sem.run_bind, run_underlying' hu]
    simp only [Result.andThen_ok, Instr.slice, Option.map_none]
    rw [Sem.run_bind, run_underlying' hu]
    simp [g, run_sizeOf' hk]
  generalize hax : a.eval x = v at h1
  cases h1 with
  | sl0 =>
    obtain ⟨g, g1, g2⟩ := hrun _ _ _ rfl (Nat.zero_le _) hax
    refine ⟨_, g, ?_⟩
    have : u = 0 := by simpa using g2
    subst this
    have : l = 0 := by omega
    subst this
    exact .sl0
  | sl esz c off cap hI hn hcap hl hs hvv =>
    obtain ⟨g, g1, g2⟩ := hrun _ _ _ hn.symm hcap hax
    refine ⟨_, g, ?_⟩
    rcases Nat.lt_or_ge l u with hlu | hlu
    · have hne : ¬ cap = l := by omega
      rw [if_neg hne]
      have hz : ∃ r, rows[0]? = some r := ⟨rows[0]'(by omega), List.getElem?_eq_getElem (by omega)⟩
      obtain ⟨r0, hr0⟩ := hz
      have hek : esz = k := by
        have a1 := hl 0 r0 hr0
        have a2 := (List.all_eq_true.1 hr) r0 (List.mem_of_getElem? hr0)
        simp at a2; omega
      subst hek
      have hget : ∀ (i : Nat) (r : List AV), ((rows.take u).drop l)[i]? = some r → rows[l + i]? = some r := by
        intro i r hi
        rw [List.getElem?_drop] at hi
        rw [List.getElem?_take] at hi
        split at hi
        · exact hi
        · cases hi
      have hoff : ∀ i j : Nat, off + l * esz + (i * esz + j) = off + ((l + i) * esz + j) := by
        intro i j; rw [Nat.add_mul]; omega
      have ea : (some (⟨c, off, none⟩ : Addr)).map (·.add (l * esz)) = some ⟨c, off + l * esz, none⟩ := by
        rw [Option.map_some]; congr 1; exact addr_add _ _ _
      rw [ea]
      refine .sl esz c (off + l * esz) (cap - l) hI (by simp; omega) (by omega) (fun i r hi => hl _ r (hget i r hi)) (fun i r j x hi hj => ?_) (fun i r j x y hi hj hy => ?_)
      · rw [hoff]; exact hs (l + i) r j x (hget i r hi) hj
      · rw [hoff] at hy; exact hvv (l + i) r j x y (hget i r hi) hj hy
    · have e0 : u - l = 0 := by omega
      have e1 : (rows.take u).drop l = [] := by rw [List.drop_eq_nil_iff]; simp; omega
      rw [e0, e1]
      exact .sl0
def isStr (P : Program) (t : TypeId) : Bool := match P.underlying t with | some .string => true | _ => false
theorem isStr_spec {t : TypeId} (h : isStr P t = true) : P.underlying t = some .string := by unfold isStr at h; split at h <;> simp_all
def slA (P : Program) (t : TypeId) (lo hi : Option AV) (x : AV) : Option AV := match x with
  | .str s => if isStr P t = true then (bndsA s.size lo hi).map fun q => .str (s.extract q.1 q.2) else none
  | .sl rows => (elemOf' P t).bind fun e => (tsz P e).bind fun k => if rows.all (·.length == k) = true then (bndsA rows.length lo hi).map fun q => .sl ((rows.take q.2).drop q.1) else none
  | _ => none
theorem Step.slice {o : Oper} {ρ : Operand → AV} {h : Hp} {t : TypeId} {x : Operand} {lo hi : Option Operand} {r : AV} (ho : o.op = .slice t x lo hi none) (hr : slA P t (lo.map ρ) (hi.map ρ) (ρ x) = some r) : Step P o ρ h r h := by
  unfold slA at hr
  split at hr
  · rename_i s hx
    split at hr
    · rename_i ht
      simp only [Option.map_eq_some_iff] at hr
      obtain ⟨⟨l, u⟩, hb, rfl⟩ := hr
      exact Step.sliceStr ho (isStr_spec ht) hx hb
    · cases hr
  · rename_i rows hx
    obtain ⟨e, he, hr⟩ := Option.bind_eq_some_iff.1 hr
    obtain ⟨k, hk, hr⟩ := Option.bind_eq_some_iff.1 hr
    split at hr
    · rename_i hall
      simp only [Option.map_eq_some_iff] at hr
      obtain ⟨⟨l, u⟩, hb, rfl⟩ := hr
      exact Step.sliceSl ho he hk hx hall hb
    · cases hr
  · cases hr
theorem Step.minInt {o : Oper} {ρ : Operand → AV} {h : Hp} {ts : Array TypeId} {x y : Operand} {k : IntKind} {a b : Int} (ho : o.op = .call { callee := .builtin .min, args := #[x, y], argTypes := ts })
    (hx : ρ x = .int k a) (hy : ρ y = .int k b) : Step P o ρ h (.int k (if b < a then b else a)) h := by
  refine Step.still fun I ι w ac hr hv => ?_
  have h1 := hv x (by simp [ho, Op.operands, Call.operands])
  have h2 := hv y (by simp [ho, Op.operands, Call.operands])
  rw [hx] at h1; rw [hy] at h2
  refine ⟨_, ?_, .int _ _⟩
  unfold execOp
  simp [ho, resolve, Go.invoke, builtin, Builtin.min_, Builtin.min2, h1.int_inv, h2.int_inv]
end Go.Vs
