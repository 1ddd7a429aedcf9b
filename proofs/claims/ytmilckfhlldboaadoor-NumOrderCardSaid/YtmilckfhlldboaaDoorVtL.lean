import Derived.Test.YtmilckfhlldboaaDoorVtK
/-! Regions that draw their order, reckoned. -/
set_option linter.unusedVariables false
set_option linter.unusedSectionVars false
set_option linter.unusedSimpArgs false
namespace Go.Vs
variable [Tab]
variable {P : Program} {N n0 : Nat}

def RunDE (P : Program) (ops : Array Oper) (L : List Nat) (Q : Slots → Hp → Prop) : Nat → (l : List Oper) → Slots → Hp → Hold (ops, Q, l) → Prop
  | _, [], s, h, _ => Q s h
  | i, o :: rest, s, h, _ => onG (guardA ops s o) (fun _ => evS P o s.ev h fun r h' => (hop L i = false → h' = h) ∧ RunDE P ops L Q (i + 1) rest (s.put o.dst r) h' (held _)) (fun _ => RunDE P ops L Q (i + 1) rest (s.put o.dst (.tuple [])) h (held _)) (held _)

theorem RunDE_run {ops : Array Oper} {L : List Nat} {Q : Slots → Hp → Prop} : ∀ (l : List Oper) (i : Nat) (s h) (k), RunDE P ops L Q i l s h k → RunD P ops L Q i l s h
  | [], i, s, h, _, hr => hr
  | o :: rest, i, s, h, _, hr => by
    simp only [RunDE] at hr
    simp only [RunD]
    split
    · rename_i e
      rw [e, onG_t] at hr
      obtain ⟨r, h', hst, hh, hk⟩ := evS_sound hr
      exact ⟨r, h', hst, hh, RunDE_run rest _ _ _ _ hk⟩
    · rename_i e
      rw [e, onG_f] at hr
      exact RunDE_run rest _ _ _ _ hr
    · rename_i e
      rw [e] at hr
      exact hr

theorem W.regionD_ {id} {l : List Oper} {s h Q k} (L : List Nat) (hr : P.follows .mixedOrders = true ∧ dstOk N l.toArray = true ∧ drawOk L l.toArray = true ∧ upOk l.toArray = true ∧ RunDE P l.toArray L (fun s h => Q .normal s h) 0 l s h (held _)) :
    W P N n0 (.region id l.toArray true) Q s h k :=
  WP.regionD L hr.1 hr.2.1 hr.2.2.1 hr.2.2.2.1 (by rw [List.toList_toArray]; exact RunDE_run _ _ _ _ _ hr.2.2.2.2)

section rules
variable {L : List Nat} {i : Nat} {ops : Array Oper} {Q : Slots → Hp → Prop} {rest : List Oper} {s : Slots} {h : Hp} {d : Option Nat} {ty : TypeId} {pos : String} {af : Array Edge}
@[go_sem] theorem RunDE_nil {k} : RunDE P ops L Q i [] s h k = Q s h := rfl
@[go_sem] theorem RunDE_plain {op : Op} {k} : RunDE P ops L Q i ({ dst := d, op := op, type := ty, pos := pos, after := af, guard := none } :: rest) s h k =
    evK P { dst := d, op := op, type := ty, pos := pos, after := af, guard := none } s.ev h (fun r h' => (hop L i = false → h' = h) ∧ RunDE P ops L Q (i + 1) rest (s.put d r) h' (held _)) (held _) := rfl
@[go_sem] theorem RunDE_guard {op : Op} {j : Nat} {want : Bool} {k} : RunDE P ops L Q i ({ dst := d, op := op, type := ty, pos := pos, after := af, guard := some (j, want) } :: rest) s h k =
    onG (grdAt (dstAt ops j) s want) (fun _ => evK P { dst := d, op := op, type := ty, pos := pos, after := af, guard := some (j, want) } s.ev h
        (fun r h' => (hop L i = false → h' = h) ∧ RunDE P ops L Q (i + 1) rest (s.put d r) h' (held _)) (held _))
      (fun _ => RunDE P ops L Q (i + 1) rest (s.put d (.tuple [])) h (held _)) (held _) := by
  have e : guardA ops s { dst := d, op := op, type := ty, pos := pos, after := af, guard := some (j, want) } = grdAt (dstAt ops j) s want := by
    simp only [guardA, dstAt, grdAt]
    cases (ops[j]?).bind (·.dst) with
    | none => rfl
    | some t => simp only [grd]; cases s.get t <;> first | rfl | (rename_i b; cases b <;> cases want <;> rfl)
  rw [← e]; rfl
end rules
/-- A region that draws its order, and what is seen behind it. -/
theorem W.seqD {id} {l : List Oper} {y s h Q k} (L : List Nat) (F : List Nat) (s1 : Slots) (h1 : Hp) (hm : P.follows .mixedOrders = true) (hN : dstOk N l.toArray = true) (hd : drawOk L l.toArray = true) (hu : upOk l.toArray = true)
    (hrun : RunDE P l.toArray L (fun s h => AT n0 F s1 h1 s h) 0 l s h (held _)) (hy : WK P N n0 y Q s1 h1) : W P N n0 (.seq (.region id l.toArray true) y) Q s h k :=
  WP.seq (WP.mono (W.regionD_ (L := L) (k := held _) (Q := thenQ (fun s h => AT n0 F s1 h1 s h) (fun _ _ _ => False)) ⟨hm, hN, hd, hu, hrun⟩) fun e s h q => by
    cases e with
    | normal => exact WP.weak q hy
    | _ => exact q.elim)
theorem W.regLD {id} {l : List Oper} {s h Q k} (L : List Nat) (F : List Nat) (s1 : Slots) (h1 : Hp) (hm : P.follows .mixedOrders = true) (hN : dstOk N l.toArray = true) (hd : drawOk L l.toArray = true) (hu : upOk l.toArray = true)
    (hrun : RunDE P l.toArray L (fun s h => AT n0 F s1 h1 s h) 0 l s h (held _)) (hy : Q .normal s1 h1) : W P N n0 (.region id l.toArray true) Q s h k := by
  have := WP.weakN (K := Q .normal) (Q := Q) (WP.mono (W.regionD_ (L := L) (P := P) (N := N) (n0 := n0) (id := id) (k := held _) (Q := thenQ (fun s h => AT n0 F s1 h1 s h) (fun _ _ _ => False)) ⟨hm, hN, hd, hu, hrun⟩) fun e s h q => by
    cases e with
    | normal => exact ⟨F, s1, h1, q, hy⟩
    | _ => exact q.elim)
  exact WP.mono this fun e s h q => by cases e <;> exact q
attribute [go_sem] hop implies_true false_implies
end Go.Vs
