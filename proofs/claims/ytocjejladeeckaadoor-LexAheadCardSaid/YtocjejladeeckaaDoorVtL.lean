import Derived.Test.YtocjejladeeckaaDoorVtK
/-! Regions that draw their order, reckoned. -/
set_option linter.unusedVariables false
set_option linter.unusedSectionVars false
set_option linter.unusedSimpArgs false
namespace Go.Vs
variable [Tab]
variable {P : Program} {N n0 : Nat}

/-- The operands whose blocks an operation looks at, of one that looks only. -/
def rdOp : Op → Option (List Operand)
  | .move _ => some []
  | .assign _ => some []
  | .pick _ _ _ => some []
  | .extract _ _ => some []
  | .fieldAddr _ _ _ => some []
  | .binOp _ _ _ _ _ => some []
  | .unOp _ _ _ => some []
  | .load _ p => some [p]
  | .indexAddr _ x _ => some [x]
  | .index _ _ _ => some []
  | .field _ _ _ => some []
  | .build _ _ => some []
  | .slice _ x _ _ none => some [x]
  | _ => none
def refB : AV → Option Nat
  | .ptr b _ _ => some b
  | .eptr b _ _ _ _ => some b
  | .msl b _ _ _ _ _ => some b
  | _ => none
def farB (m : Nat) (x : AV) : Bool := match refB x with | some b => decide (b < m) | none => true
def lightB (m : Nat) (o : Op) (ρ : Operand → AV) : Bool := match rdOp o with | some l => l.all fun x => farB m (ρ x) | none => false
theorem take_get {m : Nat} {h h2 : Hp} (e : h2.take m = h.take m) {b : Nat} (hb : b < m) : h2[b]? = h[b]? := by
  have := congrArg (·[b]?) e
  simpa [List.getElem?_take, hb] using this
theorem row_agree {m : Nat} {h h2 : Hp} (e : h2.take m = h.take m) {x : AV} (hx : farB m x = true) : rowOf h2 x = rowOf h x := by
  unfold farB refB at hx
  cases x <;> first | rfl | (simp only [decide_eq_true_eq] at hx; simp only [rowOf, take_get e hx])
theorem stale_agree {m : Nat} {h h2 : Hp} (e : h2.take m = h.take m) {x : AV} (hx : farB m x = true) : staleB h2 x = staleB h x := by
  unfold farB refB at hx
  cases x <;> first | rfl | (simp only [decide_eq_true_eq] at hx; simp only [staleB, take_get e hx])
theorem slH_agree {P : Program} {m : Nat} {h h2 : Hp} (e : h2.take m = h.take m) {t : TypeId} {lo hi : Option AV} {x : AV} (hx : farB m x = true) : slH P h2 t lo hi x = slH P h t lo hi x := by
  unfold farB refB at hx
  cases x <;> first | rfl | (simp only [decide_eq_true_eq] at hx; simp only [slH, mslA, take_get e hx])
/-- What an operation that looks only tells, over any heap whose first blocks are the same. -/
theorem evS_light {o : Oper} {ρ : Operand → AV} {m : Nat} {h : Hp} {K : AV → Hp → Prop} (hl : lightB m o.op ρ = true) (he : evS P o ρ h K) : ∃ r, K r h ∧ ∀ h2 : Hp, h2.take m = h.take m → Step P o ρ h2 r h2 := by
  unfold lightB at hl
  have again : ∀ (h2 : Hp), (∃ r, K r h ∧ evS P o ρ h2 fun r' h' => r' = r ∧ h' = h2) → ∃ r, K r h ∧ Step P o ρ h2 r h2 := by
    rintro h2 ⟨r, hk, hev⟩
    obtain ⟨r', h', hst, rfl, rfl⟩ := evS_sound hev
    exact ⟨r', hk, hst⟩
  have main : ∃ r, K r h ∧ ∀ h2 : Hp, h2.take m = h.take m → evS P o ρ h2 fun r' h' => r' = r ∧ h' = h2 := by
    unfold evS at he ⊢
    cases ho : o.op <;> simp only [ho, rdOp] at hl he ⊢ <;> try cases hl
    case move => exact ⟨_, he, fun h2 _ => ⟨rfl, trivial⟩⟩
    case assign => exact ⟨_, he, fun h2 _ => ⟨rfl, trivial⟩⟩
    case pick => obtain ⟨b, hb, hk⟩ := onS_inv he; exact ⟨_, hk, fun h2 _ => by rw [hb]; exact ⟨rfl, trivial⟩⟩
    case binOp => obtain ⟨b, hb, hk⟩ := onS_inv he; exact ⟨_, hk, fun h2 _ => by rw [hb]; exact ⟨rfl, trivial⟩⟩
    case unOp => obtain ⟨b, hb, hk⟩ := onS_inv he; exact ⟨_, hk, fun h2 _ => by rw [hb]; exact ⟨rfl, trivial⟩⟩
    case slice t x lo hi mx =>
      cases mx with
      | some z => cases hl
      | none =>
        simp only [List.all_cons, List.all_nil, Bool.and_true] at hl he ⊢
        obtain ⟨r, hr, hk⟩ := onS_inv he
        exact ⟨_, hk, fun h2 e => by rw [slH_agree e hl, hr]; exact ⟨rfl, trivial⟩⟩
    case build =>
      obtain ⟨z, hz, he⟩ := onS_inv he
      obtain ⟨l, hl2, he⟩ := onS_inv he
      obtain ⟨r, hr, hk⟩ := onS_inv he
      exact ⟨_, hk, fun h2 _ => by rw [hz]; simp only [onS_some]; rw [hl2]; simp only [onS_some]; rw [hr]; exact ⟨rfl, trivial⟩⟩
    case fieldAddr =>
      obtain ⟨q, hq, hn, he⟩ := onS_inv he
      obtain ⟨r, hr, hk⟩ := onS_inv he
      exact ⟨_, hk, fun h2 _ => by rw [hq]; exact ⟨hn, by rw [hr]; exact ⟨rfl, trivial⟩⟩⟩
    case field =>
      obtain ⟨q, hq, he⟩ := onS_inv he
      obtain ⟨ag, hag, he⟩ := onS_inv he
      obtain ⟨n, hn, he⟩ := onS_inv he
      obtain ⟨r, hr, hk⟩ := onS_inv he
      exact ⟨_, hk, fun h2 _ => by rw [hq]; simp only [onS_some]; rw [hag, hn]; simp only [onS_some]; rw [hr]; exact ⟨rfl, trivial⟩⟩
    case index =>
      obtain ⟨h1, he⟩ := he
      obtain ⟨r, hr, hk⟩ := onS_inv he
      exact ⟨_, hk, fun h2 _ => ⟨h1, by rw [hr]; exact ⟨rfl, trivial⟩⟩⟩
    case extract =>
      obtain ⟨q, hq, he⟩ := onS_inv he
      obtain ⟨r, hr, hk⟩ := onS_inv he
      exact ⟨_, hk, fun h2 _ => by rw [hq]; simp only [onS_some]; rw [hr]; exact ⟨rfl, trivial⟩⟩
    case load =>
      simp only [List.all_cons, List.all_nil, Bool.and_true] at hl
      obtain ⟨ag, hag, he⟩ := onS_inv he
      obtain ⟨n, hn, he⟩ := onS_inv he
      obtain ⟨r, hr, hk⟩ := onS_inv he
      exact ⟨_, hk, fun h2 e => by rw [hag, hn]; simp only [onS_some]; rw [row_agree e hl, hr]; exact ⟨rfl, trivial⟩⟩
    case indexAddr =>
      simp only [List.all_cons, List.all_nil, Bool.and_true] at hl
      obtain ⟨ag, hag, he⟩ := onS_inv he
      obtain ⟨n, hn, he⟩ := onS_inv he
      obtain ⟨r, hr, hs, hk⟩ := onS_inv he
      exact ⟨_, hk, fun h2 e => by rw [hag]; simp only [onS_some]; rw [hn]; simp only [onS_some]; rw [hr]; exact ⟨(stale_agree e hl).trans hs, rfl, trivial⟩⟩
  obtain ⟨r, hk, hall⟩ := main
  refine ⟨r, hk, fun h2 e => ?_⟩
  obtain ⟨r', h', hst, rfl, rfl⟩ := evS_sound (hall h2 e)
  exact hst
def RunDE (P : Program) (ops : Array Oper) (L A B : List Nat) (m : Nat) (Q : Slots → Hp → Prop) : Nat → (l : List Oper) → Slots → Hp → Hold (ops, Q, l) → Prop
  | _, [], s, h, _ => Q s h
  | i, o :: rest, s, h, _ => onG (guardA ops s o) (fun _ => evS P o s.ev h fun r h' => ((hop L i = false → h' = h) ∧ (hop A i = true → h'.take m = h.take m) ∧ (hop B i = true → lightB m o.op s.ev = true)) ∧ RunDE P ops L A B m Q (i + 1) rest (s.put o.dst r) h' (held _)) (fun _ => RunDE P ops L A B m Q (i + 1) rest (s.put o.dst (.tuple [])) h (held _)) (held _)

theorem RunDE_run {ops : Array Oper} {L A B : List Nat} {m : Nat} {Q : Slots → Hp → Prop} : ∀ (l : List Oper) (i : Nat) (s h) (k), RunDE P ops L A B m Q i l s h k → RunD P ops L A B m Q i l s h
  | [], i, s, h, _, hr => hr
  | o :: rest, i, s, h, _, hr => by
    simp only [RunDE] at hr
    simp only [RunD]
    split
    · rename_i e
      rw [e, onG_t] at hr
      obtain ⟨r, h', hst, ⟨h1, h2, h3⟩, hk⟩ := evS_sound hr
      cases hB : hop B i with
      | false => exact ⟨r, h', hst, ⟨h1, h2, fun h => by cases h⟩, RunDE_run rest _ _ _ _ hk⟩
      | true =>
        obtain ⟨r2, ⟨⟨k1, k2, k3⟩, hk2⟩, hall⟩ := evS_light (h3 hB) hr
        exact ⟨r2, h, hall h rfl, ⟨k1, k2, fun _ => hall⟩, RunDE_run rest _ _ _ _ hk2⟩
    · rename_i e
      rw [e, onG_f] at hr
      exact RunDE_run rest _ _ _ _ hr
    · rename_i e
      rw [e] at hr
      exact hr

theorem W.regionJ_ {id} {l : List Oper} {s h Q k} (L A B : List Nat) (m : Nat) (hr : P.follows .mixedOrders = true ∧ dstOk N l.toArray = true ∧ drawOk L A B l.toArray = true ∧ upOk l.toArray = true ∧ RunDE P l.toArray L A B m (fun s h => Q .normal s h) 0 l s h (held _)) :
    W P N n0 (.region id l.toArray true) Q s h k :=
  WP.regionD L A B m hr.1 hr.2.1 hr.2.2.1 hr.2.2.2.1 (by rw [List.toList_toArray]; exact RunDE_run _ _ _ _ _ hr.2.2.2.2)

section rules
variable {L A B : List Nat} {m : Nat} {i : Nat} {ops : Array Oper} {Q : Slots → Hp → Prop} {rest : List Oper} {s : Slots} {h : Hp} {d : Option Nat} {ty : TypeId} {pos : String} {af : Array Edge}
@[go_sem] theorem RunDE_nil {k} : RunDE P ops L A B m Q i [] s h k = Q s h := rfl
@[go_sem] theorem RunDE_plain {op : Op} {k} : RunDE P ops L A B m Q i ({ dst := d, op := op, type := ty, pos := pos, after := af, guard := none } :: rest) s h k =
    evK P { dst := d, op := op, type := ty, pos := pos, after := af, guard := none } s.ev h (fun r h' => ((hop L i = false → h' = h) ∧ (hop A i = true → h'.take m = h.take m) ∧ (hop B i = true → lightB m op s.ev = true)) ∧ RunDE P ops L A B m Q (i + 1) rest (s.put d r) h' (held _)) (held _) := rfl
@[go_sem] theorem RunDE_guard {op : Op} {j : Nat} {want : Bool} {k} : RunDE P ops L A B m Q i ({ dst := d, op := op, type := ty, pos := pos, after := af, guard := some (j, want) } :: rest) s h k =
    onG (grdAt (dstAt ops j) s want) (fun _ => evK P { dst := d, op := op, type := ty, pos := pos, after := af, guard := some (j, want) } s.ev h
        (fun r h' => ((hop L i = false → h' = h) ∧ (hop A i = true → h'.take m = h.take m) ∧ (hop B i = true → lightB m op s.ev = true)) ∧ RunDE P ops L A B m Q (i + 1) rest (s.put d r) h' (held _)) (held _))
      (fun _ => RunDE P ops L A B m Q (i + 1) rest (s.put d (.tuple [])) h (held _)) (held _) := by
  have e : guardA ops s { dst := d, op := op, type := ty, pos := pos, after := af, guard := some (j, want) } = grdAt (dstAt ops j) s want := by
    simp only [guardA, dstAt, grdAt]
    cases (ops[j]?).bind (·.dst) with
    | none => rfl
    | some t => simp only [grd]; cases s.get t <;> first | rfl | (rename_i b; cases b <;> cases want <;> rfl)
  rw [← e]; rfl
end rules
/-- A region that draws its order, and what is seen behind it. -/
theorem W.seqJ {id} {l : List Oper} {y s h Q k} (L A B : List Nat) (m : Nat) (F : List Nat) (s1 : Slots) (h1 : Hp) (hm : P.follows .mixedOrders = true) (hN : dstOk N l.toArray = true) (hd : drawOk L A B l.toArray = true) (hu : upOk l.toArray = true)
    (hrun : RunDE P l.toArray L A B m (fun s h => AT n0 F s1 h1 s h) 0 l s h (held _)) (hy : WK P N n0 y Q s1 h1) : W P N n0 (.seq (.region id l.toArray true) y) Q s h k :=
  WP.seq (WP.mono (W.regionJ_ (L := L) (A := A) (B := B) (m := m) (k := held _) (Q := thenQ (fun s h => AT n0 F s1 h1 s h) (fun _ _ _ => False)) ⟨hm, hN, hd, hu, hrun⟩) fun e s h q => by
    cases e with
    | normal => exact WP.weak q hy
    | _ => exact q.elim)
theorem W.regLJ {id} {l : List Oper} {s h Q k} (L A B : List Nat) (m : Nat) (F : List Nat) (s1 : Slots) (h1 : Hp) (hm : P.follows .mixedOrders = true) (hN : dstOk N l.toArray = true) (hd : drawOk L A B l.toArray = true) (hu : upOk l.toArray = true)
    (hrun : RunDE P l.toArray L A B m (fun s h => AT n0 F s1 h1 s h) 0 l s h (held _)) (hy : Q .normal s1 h1) : W P N n0 (.region id l.toArray true) Q s h k := by
  have := WP.weakN (K := Q .normal) (Q := Q) (WP.mono (W.regionJ_ (L := L) (A := A) (B := B) (m := m) (P := P) (N := N) (n0 := n0) (id := id) (k := held _) (Q := thenQ (fun s h => AT n0 F s1 h1 s h) (fun _ _ _ => False)) ⟨hm, hN, hd, hu, hrun⟩) fun e s h q => by
    cases e with
    | normal => exact ⟨F, s1, h1, q, hy⟩
    | _ => exact q.elim)
  exact WP.mono this fun e s h q => by cases e <;> exact q
theorem W.seqD {id} {l : List Oper} {y s h Q k} (L : List Nat) (F : List Nat) (s1 : Slots) (h1 : Hp) (hm : P.follows .mixedOrders = true) (hN : dstOk N l.toArray = true) (hd : drawOk L [] [] l.toArray = true) (hu : upOk l.toArray = true)
    (hrun : RunDE P l.toArray L [] [] 0 (fun s h => AT n0 F s1 h1 s h) 0 l s h (held _)) (hy : WK P N n0 y Q s1 h1) : W P N n0 (.seq (.region id l.toArray true) y) Q s h k := W.seqJ L [] [] 0 F s1 h1 hm hN hd hu hrun hy
theorem W.regLD {id} {l : List Oper} {s h Q k} (L : List Nat) (F : List Nat) (s1 : Slots) (h1 : Hp) (hm : P.follows .mixedOrders = true) (hN : dstOk N l.toArray = true) (hd : drawOk L [] [] l.toArray = true) (hu : upOk l.toArray = true)
    (hrun : RunDE P l.toArray L [] [] 0 (fun s h => AT n0 F s1 h1 s h) 0 l s h (held _)) (hy : Q .normal s1 h1) : W P N n0 (.region id l.toArray true) Q s h k := W.regLJ L [] [] 0 F s1 h1 hm hN hd hu hrun hy
attribute [go_sem] hop implies_true false_implies rdOp refB farB lightB List.contains_nil Bool.false_eq_true true_implies forall_const List.take_succ_cons List.take_zero and_true true_and
end Go.Vs
