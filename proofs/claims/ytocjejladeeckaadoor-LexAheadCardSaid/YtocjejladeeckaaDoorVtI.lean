import Derived.Test.YtocjejladeeckaaDoorVtF
import Derived.Laws.StructEq
/-! Structs held against each other. -/
set_option linter.unusedVariables false
set_option linter.unusedSectionVars false
set_option linter.unusedSimpArgs false
namespace Go.Vs
variable [Tab]
variable {P : Program}

/-- The kinds of a type's cells, one behind the other: 0 a bool, 1 a number, 2 a text. -/
def leaves (P : Program) : Nat → TypeId → Option (List Nat)
  | 0, _ => none
  | d + 1, t => match P.underlying t with
    | some .bool => some [0]
    | some (.int _) => some [1]
    | some .string => some [2]
    | some (.struct fs) => if P.stoodInHeld t then none else leavesF (fun t => (leaves P d t).bind fun l => if tsz P t = some l.length ∧ (aggOf P t).isSome = true then some l else none) 0 fs.toList
    | _ => none
where
  leavesF (g : TypeId → Option (List Nat)) : Nat → List Field → Option (List Nat)
    | _, [] => some []
    | pos, f :: fs => if f.name ≠ "_" ∧ f.offset = pos then (g f.type).bind fun l => (leavesF g (pos + l.length) fs).map fun r => l ++ r else none

def veq : Nat → Value → Value → Option Bool
  | 0, .bool a, .bool b => some (a == b)
  | 1, .int k a, .int k' b => if k = k' then some (a == b) else none
  | 2, .string a, .string b => some (a == b)
  | _, _, _ => none
def eqL : List Nat → List Value → List Value → Option Bool
  | [], [], [] => some true
  | k :: ks, x :: xs, y :: ys => (veq k x y).bind fun a => (eqL ks xs ys).map fun b => a && b
  | _, _, _ => none

theorem eqL_append : ∀ (k1 k2 : List Nat) (x1 x2 y1 y2 : List Value), x1.length = k1.length → y1.length = k1.length → ∀ b, eqL (k1 ++ k2) (x1 ++ x2) (y1 ++ y2) = some b →
    ∃ a c, eqL k1 x1 y1 = some a ∧ eqL k2 x2 y2 = some c ∧ b = (a && c)
  | [], k2, x1, x2, y1, y2, hx, hy, b, h => by
    simp at hx hy; subst hx; subst hy
    exact ⟨true, b, rfl, h, by simp⟩
  | k :: k1, k2, x :: x1, x2, y :: y1, y2, hx, hy, b, h => by
    simp only [List.cons_append, eqL, Option.bind_eq_some_iff, Option.map_eq_some_iff] at h ⊢
    obtain ⟨a, ha, c, hc, rfl⟩ := h
    obtain ⟨a2, c2, h1, h2, rfl⟩ := eqL_append k1 k2 x1 x2 y1 y2 (by simpa using hx) (by simpa using hy) c hc
    exact ⟨a && a2, c2, ⟨a, ha, a2, h1, rfl⟩, h2, by simp [Bool.and_assoc]⟩
  | _ :: _, _, [], _, _, _, hx, _, _, _ => by simp at hx
  | _ :: _, _, _ :: _, _, [], _, _, hy, _, _ => by simp at hy

def pack (P : Program) (t : TypeId) (xs : List Value) : Value := if aggOf P t = some true then .agg xs.toArray else xs.headD undef

theorem run_part {t : TypeId} {n : Nat} {ag : Bool} (ha : aggOf P t = some ag) (hs : tsz P t = some n) (xs : List Value) (off : Nat) (w : World) (hl : off + n ≤ xs.length) (h1 : ag = false → n = 1) :
    (part t xs.toArray off).run P w = .ok (pack P t ((xs.drop off).take n)) w := by
  unfold part pack
  rw [Sem.run_bind, run_isAgg' ha]
  cases ag with
  | true =>
    simp only [Result.andThen_ok, if_true, ha]
    rw [Sem.run_bind, run_sizeOf' hs]
    simp [List.extract_eq_take_drop]
  | false =>
    have := h1 rfl
    subst this
    have hlt : off < xs.length := by omega
    have e : List.take 1 (List.drop off xs) = [xs[off]] := by rw [List.drop_eq_getElem_cons hlt]; rfl
    rw [e]
    simp [ha, hlt]

theorem run_eqL {d : Nat} : ∀ (t : TypeId) (ks : List Nat), leaves P d t = some ks → ∀ (D : Nat), d ≤ D → ∀ (xs ys : List Value), xs.length = ks.length → ys.length = ks.length →
    ∀ b, eqL ks xs ys = some b → ∀ w, (Op.equalIn D t (pack P t xs) (pack P t ys)).run P w = .ok b w := by
  induction d with
  | zero => intro t ks h; simp [leaves] at h
  | succ d ih =>
    intro t ks h D hD xs ys hx hy b hb w
    obtain ⟨D, rfl⟩ : ∃ D', D = D' + 1 := ⟨D - 1, by omega⟩
    unfold leaves at h
    have scalar : ∀ (k : Nat) (dd : TypeDesc), P.underlying t = some dd → (match dd with | .struct _ | .array _ _ => true | _ => false) = false → some [k] = some ks →
        (∀ x y a, veq k x y = some a → (Op.equalIn (D + 1) t x y).run P w = .ok a w) → (Op.equalIn (D + 1) t (pack P t xs) (pack P t ys)).run P w = .ok b w := by
      intro k dd hu hna hk hv
      obtain rfl := Option.some.inj hk
      have ha : aggOf P t = some false := by unfold aggOf; rw [hu]; cases dd <;> first | rfl | cases hna
      match xs, ys, hx, hy with
      | [x], [y], _, _ =>
        simp only [eqL, Option.bind_eq_some_iff, Option.map_some, Option.some.injEq, Bool.and_true] at hb
        obtain ⟨a, h1, rfl⟩ := hb
        simp only [pack, ha, Option.some.injEq, Bool.false_eq_true, if_false, List.headD_cons]
        exact hv x y a h1
    split at h
    · rename_i hu
      refine scalar 0 _ hu rfl h fun x y a hv => ?_
      unfold veq at hv; split at hv
      · obtain rfl := Option.some.inj hv; exact run_equalIn_bool' w D t _ _ hu
      · simp_all
      · simp_all
      · cases hv
    · rename_i k hu
      refine scalar 1 _ hu rfl h fun x y a hv => ?_
      unfold veq at hv; split at hv
      · simp_all
      · split at hv
        · rename_i e; subst e; obtain rfl := Option.some.inj hv; exact run_equalIn_int w D t _ _ _ _ hu
        · cases hv
      · simp_all
      · cases hv
    · rename_i hu
      refine scalar 2 _ hu rfl h fun x y a hv => ?_
      unfold veq at hv; split at hv
      · simp_all
      · simp_all
      · obtain rfl := Option.some.inj hv; rw [run_equalIn_string w D t _ _ hu, beq_toListBytes]
      · cases hv
    · rename_i fs hu
      split at h
      · cases h
      · rename_i hst
        have ha : aggOf P t = some true := by unfold aggOf; rw [hu]; rfl
        have hfo : P.fieldsOf t = fs := by unfold Program.fieldsOf; rw [hu]
        simp only [pack, ha, if_true]
        rw [run_equalIn_struct w D t _ _ (by rw [hfo]; exact hu) (by simpa using hst), hfo]
        have key : ∀ (l : List Field) (pos : Nat) (kk : List Nat), leaves.leavesF (fun t => (leaves P d t).bind fun l => if tsz P t = some l.length ∧ (aggOf P t).isSome = true then some l else none) pos l = some kk →
            ∀ b, eqL kk (xs.drop pos) (ys.drop pos) = some b → pos + kk.length = xs.length → pos + kk.length = ys.length → ∀ w, (Op.eqFields D xs.toArray ys.toArray l).run P w = .ok b w := by
          intro l
          induction l with
          | nil =>
            intro pos kk h b hb h1 h2 w
            simp only [leaves.leavesF, Option.some.injEq] at h; subst h
            simp only [List.length_nil, Nat.add_zero] at h1 h2
            rw [h1, List.drop_length, ← h1, h2, List.drop_length] at hb
            simp only [eqL, Option.some.injEq] at hb
            subst hb
            simp [Op.eqFields]
          | cons f fs ihf =>
            intro pos kk h b hb h1 h2 w
            simp only [leaves.leavesF] at h
            split at h
            · rename_i hcond
              obtain ⟨hname, hoff⟩ := hcond
              simp only [Option.bind_eq_some_iff, Option.map_eq_some_iff] at h
              obtain ⟨l1, ⟨l0, hl0, hcnd⟩, r, hr, rfl⟩ := h
              split at hcnd
              · rename_i hc2
                obtain rfl := Option.some.inj hcnd
                obtain ⟨hsz, hag⟩ := hc2
                obtain ⟨ag, hag⟩ := Option.isSome_iff_exists.1 hag
                simp only [List.length_append] at h1 h2
                have hag1 : ag = false → l0.length = 1 := by
                  intro e; subst e
                  unfold aggOf at hag
                  cases d with
                  | zero => simp [leaves] at hl0
                  | succ d =>
                    unfold leaves at hl0
                    cases hu2 : P.underlying f.type with
                    | none => simp [hu2] at hag
                    | some dd =>
                      rw [hu2] at hl0 hag
                      cases dd <;> simp_all <;> (subst hl0; rfl)
                have e1 : xs.drop pos = (xs.drop pos).take l0.length ++ xs.drop (pos + l0.length) := by rw [← List.drop_drop, List.take_append_drop]
                have e2 : ys.drop pos = (ys.drop pos).take l0.length ++ ys.drop (pos + l0.length) := by rw [← List.drop_drop, List.take_append_drop]
                rw [e1, e2] at hb
                obtain ⟨a, c, ha1, hc1, rfl⟩ := eqL_append l0 r _ _ _ _ (by simp; omega) (by simp; omega) b hb
                have hrec := ih f.type l0 hl0 D (by omega) _ _ (by simp; omega) (by simp; omega) a ha1 w
                simp only [Op.eqFields]
                rw [if_pos hname]
                simp only [Sem.run_bind]
                rw [hoff, run_part hag hsz xs pos w (by omega) hag1]
                simp only [Result.andThen_ok]
                rw [run_part hag hsz ys pos w (by omega) hag1]
                simp only [Result.andThen_ok]
                rw [hrec]
                simp only [Result.andThen_ok]
                cases a with
                | false => simp
                | true =>
                  simp only [Bool.not_true, Bool.false_eq_true, if_false, Bool.true_and]
                  exact ihf (pos + l0.length) r hr c hc1 (by omega) (by omega) w
              · cases hcnd
            · cases h
        exact key fs.toList 0 ks h b (by simpa using hb) (by simpa using hx.symm) (by simpa using hy.symm) w
    · cases h

/-! ### The operation -/
def scV : AV → Option Value
  | .bool b => some (.bool b)
  | .int k n => some (.int k n)
  | .str s => some (.string s)
  | _ => none
theorem scV_real {I w ι x v u} (h : VR I w ι x v) (hx : scV x = some u) : v = u := by
  unfold scV at hx
  split at hx
  · rw [h.bool_inv]; simpa using hx
  · rw [h.int_inv]; simpa using hx
  · rw [h.str_inv]; simpa using hx
  · cases hx
/-- Cells held against each other. -/
def eqA : List AV → List AV → Option Bool
  | [], [] => some true
  | x :: xs, y :: ys => (match x, y with
    | .bool a, .bool b => some (a == b)
    | .int k a, .int k' b => if k = k' then some (a == b) else none
    | .str a, .str b => some (a == b)
    | _, _ => none).bind fun a => (eqA xs ys).map fun b => a && b
  | _, _ => none
def kindA : AV → Nat
  | .bool _ => 0
  | .int _ _ => 1
  | _ => 2
theorem eqA_real : ∀ (xs ys : List AV) (b : Bool), eqA xs ys = some b → ∃ vs us : List Value, xs.mapM scV = some vs ∧ ys.mapM scV = some us ∧ eqL (xs.map kindA) vs us = some b
  | [], [], b, h => by simp [eqA] at h; subst h; exact ⟨[], [], rfl, rfl, rfl⟩
  | x :: xs, y :: ys, b, h => by
    simp only [eqA, Option.bind_eq_some_iff, Option.map_eq_some_iff] at h
    obtain ⟨a, ha, c, hc, rfl⟩ := h
    obtain ⟨vs, us, h1, h2, h3⟩ := eqA_real xs ys c hc
    split at ha
    · rename_i p q
      refine ⟨.bool p :: vs, .bool q :: us, by simp [List.mapM_cons, scV, h1], by simp [List.mapM_cons, scV, h2], ?_⟩
      simp only [Option.some.injEq] at ha; subst ha
      simp [eqL, kindA, veq, h3]
    · rename_i k p k' q
      split at ha
      · rename_i e; subst e
        refine ⟨.int k p :: vs, .int k q :: us, by simp [List.mapM_cons, scV, h1], by simp [List.mapM_cons, scV, h2], ?_⟩
        simp only [Option.some.injEq] at ha; subst ha
        simp [eqL, kindA, veq, h3]
      · cases ha
    · rename_i p q
      refine ⟨.string p :: vs, .string q :: us, by simp [List.mapM_cons, scV, h1], by simp [List.mapM_cons, scV, h2], ?_⟩
      simp only [Option.some.injEq] at ha; subst ha
      simp [eqL, kindA, veq, h3]
    · cases ha
  | [], _ :: _, _, h => by simp [eqA] at h
  | _ :: _, [], _, h => by simp [eqA] at h
theorem VR.scs {I w ι} {cs : List AV} {vs : List Value} {arr : Array Value} (hm : cs.mapM scV = some vs) (hl : arr.size = cs.length) (h : ∀ (j : Nat) x y, cs[j]? = some x → arr[j]? = some y → VR I w ι x y) : arr = vs.toArray := by
  obtain ⟨h1, h2⟩ := mapM_opt _ _ hm
  apply Array.ext
  · simp [hl, h1]
  · intro j hj1 hj2
    have hj : j < vs.length := by simpa using hj2
    obtain ⟨x, hx, hs⟩ := h2 j vs[j] (List.getElem?_eq_getElem hj)
    have := scV_real (h j x arr[j] hx (by simp [hj1])) hs
    simpa using this

theorem Step.eqAgg {o : Oper} {ρ : Operand → AV} {h : Hp} {t t' : TypeId} {x y : Operand} {xs ys : List AV} {ks : List Nat} {b : Bool} {neg : Bool}
    (ho : o.op = .binOp (if neg then .neq else .eql) t x y t') (hx : ρ x = .agg xs) (hy : ρ y = .agg ys) (hk : leaves P 8 t = some ks) (hag : aggOf P t = some true) (hg : P.eqGuardType P.depth t = false)
    (hks : xs.map kindA = ks) (hb : eqA xs ys = some b) : Step P o ρ h (.bool (if neg then !b else b)) h := by
  refine Step.still fun I ι w a hr hv => ?_
  have h1 := hv x (by simp [ho, Op.operands])
  have h2 := hv y (by simp [ho, Op.operands])
  rw [hx] at h1; rw [hy] at h2
  obtain ⟨ax, e1, l1, r1⟩ := h1.agg_inv
  obtain ⟨ay, e2, l2, r2⟩ := h2.agg_inv
  obtain ⟨vs, us, m1, m2, m3⟩ := eqA_real xs ys b hb
  have q1 := VR.scs m1 l1 r1
  have q2 := VR.scs m2 l2 r2
  subst q1; subst q2
  rw [hks] at m3
  have hlx : vs.length = ks.length := by rw [← hks]; simp at l1 ⊢; exact l1
  have hly : us.length = ks.length := by
    have : ∀ (ks : List Nat) (vs us : List Value) b, eqL ks vs us = some b → us.length = ks.length := by
      intro ks
      induction ks with
      | nil => intro vs us b h; cases vs <;> cases us <;> simp [eqL] at h ⊢
      | cons k ks ih =>
        intro vs us b h
        cases vs with
        | nil => simp [eqL] at h
        | cons v vs => cases us with
          | nil => simp [eqL] at h
          | cons u us =>
            simp only [eqL, Option.bind_eq_some_iff, Option.map_eq_some_iff] at h
            obtain ⟨_, _, c, hc, _⟩ := h
            simp [ih vs us c hc]
    exact this ks vs us b m3
  have hrun := run_eqL t ks hk 10000 (by omega) vs us hlx hly b m3 w
  simp only [pack, hag, if_true] at hrun
  refine ⟨_, ?_, .bool _⟩
  unfold execOp
  cases neg with
  | false =>
    have ho' : o.op = .binOp .eql t x y t' := by simpa using ho
    simp only [ho', e1, e2]
    have e : binOp .eql t (.agg vs.toArray) (.agg us.toArray) = (do pure (.bool (← Op.equal t (.agg vs.toArray) (.agg us.toArray)))) := rfl
    simp only [Sem.run_bind, run_eqGuard_agg w .eql t x y _ _ hg, Result.andThen_ok, e]
    have : (Op.equal t (.agg vs.toArray) (.agg us.toArray)).run P w = .ok b w := hrun
    simp [this]
  | true =>
    have ho' : o.op = .binOp .neq t x y t' := by simpa using ho
    simp only [ho', e1, e2]
    have e : binOp .neq t (.agg vs.toArray) (.agg us.toArray) = (do pure (.bool (!(← Op.equal t (.agg vs.toArray) (.agg us.toArray))))) := rfl
    simp only [Sem.run_bind, run_eqGuard_agg w .neq t x y _ _ hg, Result.andThen_ok, e]
    have : (Op.equal t (.agg vs.toArray) (.agg us.toArray)).run P w = .ok b w := hrun
    simp [this]

/-- What a type must be for its values to be held against each other cell by cell. -/
def eqOk (P : Program) (t : TypeId) : Option (List Nat) := if aggOf P t = some true ∧ P.eqGuardType P.depth t = false then leaves P 8 t else none

def evEqAg (P : Program) (t : TypeId) (xs ys : List AV) : Option Bool := (eqOk P t).bind fun ks => if xs.map kindA = ks then eqA xs ys else none
theorem Step.eqAg {o : Oper} {ρ : Operand → AV} {h : Hp} {t t' : TypeId} {x y : Operand} {xs ys : List AV} {b : Bool} {neg : Bool}
    (ho : o.op = .binOp (if neg then .neq else .eql) t x y t') (hx : ρ x = .agg xs) (hy : ρ y = .agg ys) (he : evEqAg P t xs ys = some b) : Step P o ρ h (.bool (if neg then !b else b)) h := by
  obtain ⟨ks, hk, he⟩ := Option.bind_eq_some_iff.1 he
  split at he
  · rename_i hks
    unfold eqOk at hk
    split at hk
    · rename_i hc
      exact Step.eqAgg ho hx hy hk hc.1 hc.2 hks he
    · cases hk
  · cases he

end Go.Vs
