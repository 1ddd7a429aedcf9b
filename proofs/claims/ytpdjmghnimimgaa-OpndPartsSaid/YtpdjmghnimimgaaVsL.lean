import Derived.Test.YtpdjmghnimimgaaVsK
/-! Regions that draw their order, reckoned. -/
set_option linter.unusedVariables false
set_option linter.unusedSimpArgs false
namespace Go.Vs
variable {P : Program} {N n0 : Nat}

def RunDE (P : Program) (ops : Array Oper) (Q : Slots → Hp → Prop) : (l : List Oper) → Slots → Hp → Hold (ops, Q, l) → Prop
  | [], s, h, _ => Q s h
  | o :: rest, s, h, _ => onG (guardA ops s o) (fun _ => evS P o s.ev h fun r h' => (heapOp o = false → h' = h) ∧ RunDE P ops Q rest (s.put o.dst r) h' (held _)) (fun _ => RunDE P ops Q rest (s.put o.dst (.tuple [])) h (held _)) (held _)

theorem RunDE_run {ops : Array Oper} {Q : Slots → Hp → Prop} : ∀ (l : List Oper) (s h) (k), RunDE P ops Q l s h k → RunD P ops Q l s h
  | [], s, h, _, hr => hr
  | o :: rest, s, h, _, hr => by
    simp only [RunDE] at hr
    simp only [RunD]
    split
    · rename_i e
      rw [e, onG_t] at hr
      obtain ⟨r, h', hst, hh, hk⟩ := evS_sound hr
      exact ⟨r, h', hst, hh, RunDE_run rest _ _ _ hk⟩
    · rename_i e
      rw [e, onG_f] at hr
      exact RunDE_run rest _ _ _ hr
    · rename_i e
      rw [e] at hr
      exact hr

theorem W.regionD_ {id} {l : List Oper} {s h Q k} (hr : P.follows .mixedOrders = true ∧ dstOk N l.toArray = true ∧ drawOk l.toArray = true ∧ upOk l.toArray = true ∧ RunDE P l.toArray (fun s h => Q .normal s h) l s h (held _)) :
    W P N n0 (.region id l.toArray true) Q s h k :=
  WP.regionD hr.1 hr.2.1 hr.2.2.1 hr.2.2.2.1 (by rw [List.toList_toArray]; exact RunDE_run _ _ _ _ hr.2.2.2.2)

section rules
variable {ops : Array Oper} {Q : Slots → Hp → Prop} {rest : List Oper} {s : Slots} {h : Hp} {d : Option Nat} {ty : TypeId} {pos : String} {af : Array Edge}
@[go_sem] theorem RunDE_nil {k} : RunDE P ops Q [] s h k = Q s h := rfl
@[go_sem] theorem RunDE_plain {op : Op} {k} : RunDE P ops Q ({ dst := d, op := op, type := ty, pos := pos, after := af, guard := none } :: rest) s h k =
    evK P { dst := d, op := op, type := ty, pos := pos, after := af, guard := none } s.ev h (fun r h' => (heapOp { dst := d, op := op, type := ty, pos := pos, after := af, guard := none } = false → h' = h) ∧ RunDE P ops Q rest (s.put d r) h' (held _)) (held _) := rfl
@[go_sem] theorem RunDE_guard {op : Op} {j : Nat} {want : Bool} {k} : RunDE P ops Q ({ dst := d, op := op, type := ty, pos := pos, after := af, guard := some (j, want) } :: rest) s h k =
    onG (grdAt (dstAt ops j) s want) (fun _ => evK P { dst := d, op := op, type := ty, pos := pos, after := af, guard := some (j, want) } s.ev h
        (fun r h' => (heapOp { dst := d, op := op, type := ty, pos := pos, after := af, guard := some (j, want) } = false → h' = h) ∧ RunDE P ops Q rest (s.put d r) h' (held _)) (held _))
      (fun _ => RunDE P ops Q rest (s.put d (.tuple [])) h (held _)) (held _) := by
  have e : guardA ops s { dst := d, op := op, type := ty, pos := pos, after := af, guard := some (j, want) } = grdAt (dstAt ops j) s want := by
    simp only [guardA, dstAt, grdAt]
    cases (ops[j]?).bind (·.dst) with
    | none => rfl
    | some t => simp only [grd]; cases s.get t <;> first | rfl | (rename_i b; cases b <;> cases want <;> rfl)
  rw [← e]; rfl
end rules
attribute [go_sem] heapOp implies_true false_implies
end Go.Vs
