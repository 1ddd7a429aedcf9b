import Derived.Test.YtocjejladeeckaaDoorVtJ
import Derived.Orders
/-! Regions that draw their order. -/
set_option linter.unusedVariables false
set_option linter.unusedSectionVars false
set_option linter.unusedSimpArgs false
namespace Go.Vs
variable [Tab]
variable {P : Program} {N n0 : Nat}

/-- Is the operation of this index one that turns the call's own blocks? -/
def hop (H : List Nat) (i : Nat) : Bool := H.contains i
/-- What an operation names: its slot, its operands, its guard. -/
def namesOf (ops : Array Oper) (o : Oper) : List Nat :=
  o.dst.toList ++ (o.op.operands.toList.filterMap fun | .tmp t => some t | _ => none) ++ (match o.guard with | some (j, _) => ((ops[j]?).bind (·.dst)).toList | none => [])

/-- All that must come ahead of operation j, by the edges. -/
def cloOf (ops : Array Oper) : Nat → Nat → List Nat
  | 0, _ => []
  | f + 1, j => match ops[j]? with
    | some o => o.after.toList.flatMap fun e => if Region.binds .any e then e.on :: cloOf ops f e.on else []
    | none => []

/-- L: the operations that turn the heap; A: those of them that leave the first m blocks alone; B: operations that look at no other blocks. One of A and one of B need not be in order. -/
def touch (L A B : List Nat) (ops : Array Oper) (i j : Nat) (x y : Oper) : Bool := (hop L i && !(hop A i && hop B j)) || (hop L j && !(hop A j && hop B i)) || (match x.dst with | some d => (namesOf ops y).contains d | none => false) || (match y.dst with | some d => (namesOf ops x).contains d | none => false)

def drawOk (L A B : List Nat) (ops : Array Oper) : Bool :=
  (B.all fun i => !hop L i) && (List.range ops.size).all fun j => (List.range j).all fun i =>
    match ops[i]?, ops[j]? with
    | some x, some y => !touch L A B ops i j x y || (cloOf ops ops.size j).contains i
    | _, _ => true
def upOk (ops : Array Oper) : Bool :=
  (List.range ops.size).all fun j => match ops[j]? with
    | some o => o.after.toList.all fun e => !Region.binds .any e || decide (e.on < j)
    | none => true

theorem clo_listed {ops : Array Oper} {listed : Array Bool} (hd : ∀ i o, ops[i]? = some o → listed.getD i false = true → ∀ e ∈ o.after, Region.binds .any e = true → listed.getD e.on false = true) :
    ∀ (f j : Nat) (o : Oper), ops[j]? = some o → (∀ e ∈ o.after, Region.binds .any e = true → listed.getD e.on false = true) → ∀ i ∈ cloOf ops f j, listed.getD i false = true
  | 0, j, o, ho, h, i, hi => by simp [cloOf] at hi
  | f + 1, j, o, ho, h, i, hi => by
    simp only [cloOf, ho, List.mem_flatMap] at hi
    obtain ⟨e, he, hi⟩ := hi
    split at hi
    · rename_i hb
      have hl := h e (by simpa using he) hb
      rcases List.mem_cons.1 hi with rfl | hi
      · exact hl
      · cases hoe : ops[e.on]? with
        | none => cases f <;> simp [cloOf, hoe] at hi
        | some o' => exact clo_listed hd f e.on o' hoe (hd e.on o' hoe hl) i hi
    · simp at hi

def RunD (P : Program) (ops : Array Oper) (L A B : List Nat) (m : Nat) (Q : Slots → Hp → Prop) : Nat → List Oper → Slots → Hp → Prop
  | _, [], s, h => Q s h
  | k, o :: rest, s, h =>
    match guardA ops s o with
    | some true => ∃ r h', Step P o s.ev h r h' ∧ ((hop L k = false → h' = h) ∧ (hop A k = true → h'.take m = h.take m) ∧ (hop B k = true → ∀ h2 : Hp, h2.take m = h.take m → Step P o s.ev h2 r h2)) ∧ RunD P ops L A B m Q (k + 1) rest (s.put o.dst r) h'
    | some false => RunD P ops L A B m Q (k + 1) rest (s.put o.dst (.tuple [])) h
    | none => False

def StepAt (P : Program) (ops : Array Oper) (L A B : List Nat) (m : Nat) (S : Nat → Slots) (H : Nat → Hp) (R : Nat → AV) (j : Nat) (o : Oper) : Prop :=
  (guardA ops (S j) o = some true ∧ Step P o (S j).ev (H j) (R j) (H (j + 1)) ∧ ((hop L j = false → H (j + 1) = H j) ∧ (hop A j = true → (H (j + 1)).take m = (H j).take m) ∧ (hop B j = true → ∀ h2 : Hp, h2.take m = (H j).take m → Step P o (S j).ev h2 (R j) h2))) ∨ (guardA ops (S j) o = some false ∧ R j = .tuple [] ∧ H (j + 1) = H j)
def CF (P : Program) (ops : Array Oper) (L A B : List Nat) (m : Nat) (Q : Slots → Hp → Prop) (k n : Nat) (s : Slots) (h : Hp) : Prop :=
  ∃ (S : Nat → Slots) (H : Nat → Hp) (R : Nat → AV), S k = s ∧ H k = h ∧ Q (S (k + n)) (H (k + n)) ∧
    (∀ (j : Nat) o, k ≤ j → ops[j]? = some o → S (j + 1) = (S j).put o.dst (R j)) ∧ (∀ (j : Nat) o, k ≤ j → ops[j]? = some o → StepAt P ops L A B m S H R j o)

theorem RunD_chain {ops : Array Oper} {L A B : List Nat} {m : Nat} {Q : Slots → Hp → Prop} : ∀ (l : List Oper) (k : Nat) (s h), ops.toList.drop k = l → RunD P ops L A B m Q k l s h → CF P ops L A B m Q k l.length s h
  | [], k, s, h, hl, hr => by
    refine ⟨fun _ => s, fun _ => h, fun _ => .tuple [], rfl, rfl, hr, fun j o hj ho => ?_, fun j o hj ho => ?_⟩ <;>
    · have : ops.size ≤ k := by simpa using List.drop_eq_nil_iff.1 hl
      have := (Array.getElem?_eq_some_iff.1 ho).1
      omega
  | o :: l, k, s, h, hl, hr => by
    have ho : ops[k]? = some o := by
      have := congrArg (·[0]?) hl
      simpa using this
    have hl' : ops.toList.drop (k + 1) = l := by
      have := congrArg List.tail hl
      simpa using this
    simp only [RunD] at hr
    have glue : ∀ (r : AV) (h' : Hp), ((guardA ops s o = some true ∧ Step P o s.ev h r h' ∧ ((hop L k = false → h' = h) ∧ (hop A k = true → h'.take m = h.take m) ∧ (hop B k = true → ∀ h2 : Hp, h2.take m = h.take m → Step P o s.ev h2 r h2))) ∨ (guardA ops s o = some false ∧ r = .tuple [] ∧ h' = h)) → RunD P ops L A B m Q (k + 1) l (s.put o.dst r) h' → CF P ops L A B m Q k (o :: l).length s h := by
      intro r h' hst hrun
      obtain ⟨S, H, R, e1, e2, hq, hp, hs⟩ := RunD_chain l (k + 1) (s.put o.dst r) h' hl' hrun
      refine ⟨fun j => if j = k then s else S j, fun j => if j = k then h else H j, fun j => if j = k then r else R j, by simp, by simp, ?_, ?_, ?_⟩
      · simp only [List.length_cons]; rw [if_neg (by omega), if_neg (by omega)]; rw [show k + (l.length + 1) = k + 1 + l.length by omega]; exact hq
      · intro j o' hj ho'
        by_cases e : j = k
        · subst e; rw [ho] at ho'; obtain rfl := Option.some.inj ho'; simp [e1]
        · simp only [if_neg e, if_neg (show ¬ j + 1 = k by omega)]; exact hp j o' (by omega) ho'
      · intro j o' hj ho'
        by_cases e : j = k
        · subst e; rw [ho] at ho'; obtain rfl := Option.some.inj ho'; simpa [StepAt, e2] using hst
        · have := hs j o' (by omega) ho'
          simp only [StepAt, if_neg e, if_neg (show ¬ j + 1 = k by omega)] at this ⊢; exact this
    split at hr
    · rename_i hg
      obtain ⟨r, h', hst, hh, hrun⟩ := hr
      exact glue r h' (.inl ⟨hg, hst, hh⟩) hrun
    · rename_i hg
      exact glue (.tuple []) h (.inr ⟨hg, rfl, rfl⟩) hr
    · exact hr.elim

/-- The slots behind those operations that are done. -/
def SD (ops : Array Oper) (R : Nat → AV) (listed : Array Bool) (s0 : Slots) : Nat → Slots
  | 0 => s0
  | j + 1 => if listed.getD j false = true then (SD ops R listed s0 j).put ((ops[j]?).bind (·.dst)) (R j) else SD ops R listed s0 j

theorem get_put (s : Slots) (d : Option Nat) (r : AV) (t : Nat) : (s.put d r).get t = if d = some t then r else s.get t := by
  cases d with
  | none => simp [Slots.put]
  | some d => simp [Slots.put, Slots.get]

theorem SD_get {ops : Array Oper} {R : Nat → AV} {listed : Array Bool} {S : Nat → Slots} (hS : ∀ (j : Nat) o, ops[j]? = some o → S (j + 1) = (S j).put o.dst (R j)) {t j : Nat} (hj : j ≤ ops.size)
    (hlow : ∀ (i : Nat) o, ops[i]? = some o → o.dst = some t → i < j → listed.getD i false = true) (hhigh : ∀ (i : Nat) o, ops[i]? = some o → o.dst = some t → j ≤ i → listed.getD i false = false) :
    (SD ops R listed (S 0) ops.size).get t = (S j).get t := by
  have low : ∀ i, i ≤ j → (SD ops R listed (S 0) i).get t = (S i).get t := by
    intro i
    induction i with
    | zero => intro _; rfl
    | succ i ih =>
      intro hi
      have hlt : i < ops.size := by omega
      have ho : ops[i]? = some ops[i] := by simp [hlt]
      simp only [SD]
      rw [hS i _ ho, get_put]
      by_cases hd : ops[i].dst = some t
      · rw [if_pos (hlow i _ ho hd (by omega)), get_put, ho]
        simp [hd]
      · split
        · rw [get_put, ho]; simp [hd, ih (by omega)]
        · simp [hd, ih (by omega)]
  have high : ∀ n, j + n ≤ ops.size → (SD ops R listed (S 0) (j + n)).get t = (SD ops R listed (S 0) j).get t := by
    intro n
    induction n with
    | zero => intro _; rfl
    | succ n ih =>
      intro hn
      have hlt : j + n < ops.size := by omega
      have ho : ops[j + n]? = some ops[j + n] := by simp [hlt]
      rw [show j + (n + 1) = (j + n) + 1 by omega]
      simp only [SD]
      split
      · rename_i hl
        rw [get_put, ho]
        have : ¬ ops[j + n].dst = some t := fun hd => by rw [hhigh (j + n) _ ho hd (by omega)] at hl; cases hl
        simp [this, ih (by omega)]
      · exact ih (by omega)
  have := high (ops.size - j) (by omega)
  rw [show j + (ops.size - j) = ops.size by omega] at this
  rw [this, low j (Nat.le_refl _)]
theorem filter_le {α : Type} {p p' : α → Bool} : ∀ (l : List α), (∀ x ∈ l, p' x = true → p x = true) → (l.filter p').length ≤ (l.filter p).length
  | [], _ => by simp
  | x :: l, h => by
    have ih := filter_le l fun y hy => h y (List.mem_cons_of_mem _ hy)
    have hx := h x (List.mem_cons_self ..)
    simp only [List.filter_cons]
    cases e : p' x <;> cases e2 : p x <;> simp_all <;> omega
theorem filter_lt {α : Type} {p p' : α → Bool} : ∀ (l : List α), (∀ x ∈ l, p' x = true → p x = true) → (∃ x ∈ l, p x = true ∧ p' x = false) → (l.filter p').length < (l.filter p).length
  | [], _, ⟨x, hx, _⟩ => by simp at hx
  | x :: l, h, ⟨y, hy, h1, h2⟩ => by
    have ih := filter_le l fun y hy => h y (List.mem_cons_of_mem _ hy)
    have hx := h x (List.mem_cons_self ..)
    simp only [List.filter_cons]
    rcases List.mem_cons.1 hy with rfl | hy
    · simp [h1, h2]; omega
    · have ih2 := filter_lt l (fun y hy => h y (List.mem_cons_of_mem _ hy)) ⟨y, hy, h1, h2⟩
      cases e : p' x <;> cases e2 : p x <;> simp_all <;> omega

theorem AR.congr {I w ι s s' a} (h : AR I w ι N s a) (e : ∀ t, s'.get t = s.get t) : AR I w ι N s' a := ⟨h.size, fun t => by rw [e]; exact h.get t, h.defers⟩

theorem drawOk_B {ops : Array Oper} {L A B : List Nat} (hok : drawOk L A B ops = true) {i : Nat} (h : hop B i = true) : hop L i = false := by
  unfold drawOk at hok
  rw [Bool.and_eq_true] at hok
  have := (List.all_eq_true.1 hok.1) i (by simpa [hop] using h)
  simpa using this
theorem drawOk_spec {ops : Array Oper} {L A B : List Nat} (hok : drawOk L A B ops = true) {i j : Nat} {x y : Oper} (hx : ops[i]? = some x) (hy : ops[j]? = some y) (hij : i < j) (ht : touch L A B ops i j x y = true) : i ∈ cloOf ops ops.size j := by
  unfold drawOk at hok
  rw [Bool.and_eq_true] at hok
  replace hok := hok.2
  have hj : j < ops.size := (Array.getElem?_eq_some_iff.1 hy).1
  have h1 := (List.all_eq_true.1 hok) j (List.mem_range.2 hj)
  have h2 := (List.all_eq_true.1 h1) i (List.mem_range.2 hij)
  simp only [hx, hy, ht, Bool.not_true, Bool.false_or, List.contains_eq_mem, decide_eq_true_eq] at h2
  exact h2
theorem upOk_spec {ops : Array Oper} (hup : upOk ops = true) {j : Nat} {y : Oper} (hy : ops[j]? = some y) : ∀ e ∈ y.after, Region.binds .any e = true → e.on < j := by
  intro e he hb
  unfold upOk at hup
  have hj : j < ops.size := (Array.getElem?_eq_some_iff.1 hy).1
  have h1 := (List.all_eq_true.1 hup) j (List.mem_range.2 hj)
  simp only [hy] at h1
  have h2 := (List.all_eq_true.1 h1) e (by simpa using he)
  simpa [hb] using h2

theorem all_listed {ops : Array Oper} (hup : upOk ops = true) {listed : Array Bool} (hsz : listed.size = ops.size) (hr : Region.ready .any ops listed = []) : ∀ i, i < ops.size → listed.getD i false = true := by
  intro i
  induction i using Nat.strongRecOn with
  | _ i ih =>
    intro hi
    cases hl : listed.getD i false with
    | true => rfl
    | false =>
      exfalso
      have hlt : i < listed.size := by omega
      have : i ∈ Region.ready .any ops listed := by
        rw [mem_ready]
        refine ⟨?_, ops[i], by simp [hi], fun e he hb => ?_⟩
        · simp only [Array.getD, hlt, dif_pos] at hl ⊢; exact hl
        · have := upOk_spec hup (j := i) (y := ops[i]) (by simp [hi]) e he hb
          exact ih e.on this (by omega)
      rw [hr] at this
      simp at this

theorem heap_same {ops : Array Oper} {L A B : List Nat} {m : Nat} {S : Nat → Slots} {H : Nat → Hp} {R : Nat → AV} (hst : ∀ (j : Nat) o, ops[j]? = some o → StepAt P ops L A B m S H R j o) {k i : Nat} (hki : k ≤ i) (hi : i ≤ ops.size)
    (hno : ∀ (e : Nat) o, ops[e]? = some o → k ≤ e → e < i → hop L e = false) : H i = H k := by
  induction i with
  | zero => have : k = 0 := by omega
            rw [this]
  | succ i ih =>
    by_cases e : k = i + 1
    · rw [e]
    · have hlt : i < ops.size := by omega
      have ho : ops[i]? = some ops[i] := by simp [hlt]
      have h1 := ih (by omega) (by omega) fun e o ho h1 h2 => hno e o ho h1 (by omega)
      rw [← h1]
      rcases hst i _ ho with ⟨_, _, h2, _⟩ | ⟨_, _, h2⟩
      · exact h2 (hno i _ ho (by omega) (by omega))
      · exact h2
theorem take_same {ops : Array Oper} {L A B : List Nat} {m : Nat} {S : Nat → Slots} {H : Nat → Hp} {R : Nat → AV} (hst : ∀ (j : Nat) o, ops[j]? = some o → StepAt P ops L A B m S H R j o) {k i : Nat} (hki : k ≤ i) (hi : i ≤ ops.size)
    (hno : ∀ (e : Nat) o, ops[e]? = some o → k ≤ e → e < i → hop L e = true → hop A e = true) : (H i).take m = (H k).take m := by
  induction i with
  | zero => have : k = 0 := by omega
            rw [this]
  | succ i ih =>
    by_cases e : k = i + 1
    · rw [e]
    · have hlt : i < ops.size := by omega
      have ho : ops[i]? = some ops[i] := by simp [hlt]
      have h1 := ih (by omega) (by omega) fun e o ho h1 h2 => hno e o ho h1 (by omega)
      rw [← h1]
      rcases hst i _ ho with ⟨_, _, h2, h3, _⟩ | ⟨_, _, h2⟩
      · cases hh : hop L i with
        | false => rw [h2 hh]
        | true => exact h3 (hno i _ ho (by omega) (by omega) hh)
      · rw [h2]

theorem SD_other {ops : Array Oper} {R : Nat → AV} {listed : Array Bool} {s0 : Slots} {i t : Nat} {o : Oper} (ho : ops[i]? = some o) (hd : o.dst ≠ some t) : ∀ j, (SD ops R (listed.setIfInBounds i true) s0 j).get t = (SD ops R listed s0 j).get t := by
  intro j
  induction j with
  | zero => rfl
  | succ j ih =>
    simp only [SD]
    by_cases e : i = j
    · subst e
      split <;> split <;> simp [get_put, ho, hd, ih]
    · rw [getD_set_ne false e]
      split
      · rw [get_put, get_put, ih]
      · exact ih

theorem wpAny_chain {ops : Array Oper} {L A B : List Nat} {m : Nat} (hN : ∀ o ∈ ops, ∀ t, o.dst = some t → t < N) (hok : drawOk L A B ops = true) (hup : upOk ops = true) {S : Nat → Slots} {H : Nat → Hp} {R : Nat → AV}
    (hS : ∀ (j : Nat) o, ops[j]? = some o → S (j + 1) = (S j).put o.dst (R j)) (hst : ∀ (j : Nat) o, ops[j]? = some o → StepAt P ops L A B m S H R j o)
    {Q : Exit → Slots → Hp → Prop} (hQ : Q .normal (S ops.size) (H ops.size)) {I0 ι0 h0 w0} :
    ∀ (fuel : Nat) (listed : Array Bool) (a : Act) (w : World), listed.size = ops.size →
      (∀ (i : Nat) o, ops[i]? = some o → listed.getD i false = true → ∀ e ∈ o.after, Region.binds .any e = true → listed.getD e.on false = true) →
      (∃ k, k ≤ ops.size ∧ (∀ (i : Nat) o, ops[i]? = some o → hop L i = true → (listed.getD i false = true ↔ i < k)) ∧ ∃ I ι, Out n0 I0 ι0 h0 w0 I ι (H k) w ∧ AR I w ι N (SD ops R listed (S 0) ops.size) a) →
      ((List.range ops.size).filter fun i => !listed.getD i false).length ≤ fuel →
      wpAny P .any ops (Post N n0 Q I0 ι0 h0 w0) fuel listed a w := by
  intro fuel
  have fin : ∀ (listed : Array Bool) (a : Act) (w : World), listed.size = ops.size →
      (∃ k, k ≤ ops.size ∧ (∀ (i : Nat) o, ops[i]? = some o → hop L i = true → (listed.getD i false = true ↔ i < k)) ∧ ∃ I ι, Out n0 I0 ι0 h0 w0 I ι (H k) w ∧ AR I w ι N (SD ops R listed (S 0) ops.size) a) →
      Region.ready .any ops listed = [] → Post N n0 Q I0 ι0 h0 w0 .normal a w := by
    intro listed a w hsz ⟨k, hk, hheap, I, ι, out, ar⟩ hr
    have hall := all_listed hup hsz hr
    have e : H ops.size = H k := heap_same hst hk (Nat.le_refl _) fun e o ho h1 h2 => by
      cases hh : hop L e with
      | false => rfl
      | true => have := (hheap e o ho hh).1 (hall e h2); omega
    refine ⟨I, ι, S ops.size, H ops.size, hQ, by rw [e]; exact out, ar.congr fun t => ?_⟩
    exact (SD_get hS (Nat.le_refl _) (fun i o ho _ h => hall i h) (fun i o ho _ h => by have := (Array.getElem?_eq_some_iff.1 ho).1; omega)).symm
  induction fuel with
  | zero =>
    intro listed a w hsz hd hinv hc
    have hr : Region.ready .any ops listed = [] := by
      rw [List.eq_nil_iff_forall_not_mem]
      intro i hi
      rw [mem_ready] at hi
      obtain ⟨h1, o, ho, _⟩ := hi
      have hlt : i < ops.size := (Array.getElem?_eq_some_iff.1 ho).1
      have hlt2 : i < listed.size := by omega
      have h2 : listed.getD i false = false := by simp only [Array.getD, hlt2, dif_pos] at h1 ⊢; exact h1
      have : i ∈ (List.range ops.size).filter fun i => !listed.getD i false := List.mem_filter.2 ⟨List.mem_range.2 hlt, by simp only [h2, Bool.not_false]⟩
      have := List.length_pos_of_mem this
      omega
    exact ⟨hr, fin listed a w hsz hinv hr⟩
  | succ fuel ih =>
    intro listed a w hsz hd hinv hc
    refine ⟨fun hr => fin listed a w hsz hinv hr, fun i hi => ?_⟩
    rw [mem_ready] at hi
    obtain ⟨hli, o, ho, hpre⟩ := hi
    have hlt : i < ops.size := (Array.getElem?_eq_some_iff.1 ho).1
    have hlt2 : i < listed.size := by omega
    have hlf : listed.getD i false = false := by simp only [Array.getD, hlt2, dif_pos] at hli ⊢; exact hli
    obtain ⟨k, hk, hheap, I, ι, out, ar⟩ := hinv
    have before : ∀ (e : Nat) x, ops[e]? = some x → e < i → touch L A B ops e i x o = true → listed.getD e false = true := fun e x hx he ht =>
      clo_listed hd ops.size i o ho hpre e (drawOk_spec hok hx ho he ht)
    have behind : ∀ (e : Nat) x, ops[e]? = some x → i < e → touch L A B ops i e o x = true → listed.getD e false = false := fun e x hx he ht => by
      cases hl : listed.getD e false with
      | false => rfl
      | true =>
        have := clo_listed hd ops.size e x hx (hd e x hx hl) i (drawOk_spec hok ho hx he ht)
        rw [hlf] at this; cases this
    have same : ∀ t, t ∈ namesOf ops o → (SD ops R listed (S 0) ops.size).get t = (S i).get t := fun t ht => by
      refine SD_get hS (Nat.le_of_lt hlt) (fun e x hx hxd he => before e x hx he ?_) (fun e x hx hxd he => ?_)
      · simp [touch, hxd, ht]
      · by_cases e2 : e = i
        · subst e2; exact hlf
        · refine behind e x hx (by omega) ?_
          simp [touch, hxd, ht]
    have hguard : guardA ops (SD ops R listed (S 0) ops.size) o = guardA ops (S i) o := by
      unfold guardA
      split
      · rfl
      · rename_i j want hg
        split
        · rename_i t ht
          rw [same t (by simp [namesOf, hg, ht])]
        · rfl
    have hd' : ∀ (i' : Nat) o', ops[i']? = some o' → (listed.setIfInBounds i true).getD i' false = true → ∀ e ∈ o'.after, Region.binds .any e = true → (listed.setIfInBounds i true).getD e.on false = true := by
      intro i' o' ho' hl' e he hb
      by_cases e2 : i = i'
      · subst e2
        rw [ho] at ho'; obtain rfl := Option.some.inj ho'
        exact getD_set_true (hpre e he hb)
      · rw [getD_set_ne false e2] at hl'
        exact getD_set_true (hd i' o' ho' hl' e he hb)
    have hset : (listed.setIfInBounds i true).getD i false = true := by simp [Array.getD, hlt2]
    have hc' : ((List.range ops.size).filter fun j => !(listed.setIfInBounds i true).getD j false).length ≤ fuel := by
      have := filter_lt (p := fun j => !listed.getD j false) (p' := fun j => !(listed.setIfInBounds i true).getD j false) (List.range ops.size) (fun x _ hx => by
        by_cases e2 : i = x
        · subst e2; simp [hset] at hx
        · simpa [getD_set_ne false e2] using hx) ⟨i, List.mem_range.2 hlt, by simp [hlf], by simp [hset]⟩
      omega
    have slots : ∀ t, (SD ops R (listed.setIfInBounds i true) (S 0) ops.size).get t = ((SD ops R listed (S 0) ops.size).put o.dst (R i)).get t := fun t => by
      rw [get_put]
      by_cases hdt : o.dst = some t
      · rw [if_pos hdt]
        have hnm : t ∈ namesOf ops o := by simp [namesOf, hdt]
        rw [SD_get hS (j := i + 1) (by omega) (fun e x hx hxd he => ?_) (fun e x hx hxd he => ?_), hS i o ho, get_put, if_pos hdt]
        · by_cases e2 : i = e
          · subst e2; exact hset
          · rw [getD_set_ne false e2]; exact before e x hx (by omega) (by simp [touch, hxd, hnm])
        · rw [getD_set_ne false (by omega)]; exact behind e x hx (by omega) (by simp [touch, hxd, hnm])
      · rw [if_neg hdt]; exact SD_other ho hdt _
    have hdN := hN o (Array.mem_of_getElem? ho)
    have hop2 : ∀ x, x ∈ o.op.operands → VR I w ι ((S i).ev x) (a.eval x) := fun x hx => by
      cases x with
      | tmp t =>
        show VR I w ι ((S i).get t) _
        rw [← same t (by simp only [namesOf, List.mem_append]; exact .inl (.inr (List.mem_filterMap.2 ⟨.tmp t, by simpa using hx, rfl⟩)))]
        exact ar.get t
      | const v => exact VR.ofC _ _ _ v
      | global g => exact out.rel.tab.global g
      | func f => exact .func (by simp) (by simp) (by simp) (by simp)
    cases hB : hop B i with
    | true =>
      have hLi := drawOk_B hok hB
      have hbetw : ∀ (e : Nat) x, ops[e]? = some x → hop L e = true → (e < k ↔ ¬ e < i) → hop A e = true := fun e x hx hh hne => by
        cases hA : hop A e with
        | true => rfl
        | false =>
          exfalso
          rcases Nat.lt_trichotomy e i with h | h | h
          · have h1 := before e x hx h (by simp [touch, hh, hA])
            have h2 := (hheap e x hx hh).1 h1
            omega
          · subst h; rw [hLi] at hh; cases hh
          · have h1 := behind e x hx h (by simp [touch, hh, hA])
            have h2 : ¬ e < k := fun h2 => by rw [(hheap e x hx hh).2 h2] at h1; cases h1
            omega
      have eT : (H k).take m = (H i).take m := by
        rcases Nat.le_total k i with h | h
        · exact (take_same hst h (Nat.le_of_lt hlt) fun e x hx h1 h2 hh => hbetw e x hx hh (by omega)).symm
        · exact take_same hst h hk fun e x hx h1 h2 hh => hbetw e x hx hh (by omega)
      have hheap4 : ∀ (e : Nat) x, ops[e]? = some x → hop L e = true → ((listed.setIfInBounds i true).getD e false = true ↔ e < k) := fun e x hx hh => by
        by_cases e2 : i = e
        · subst e2; rw [hLi] at hh; cases hh
        · rw [getD_set_ne false e2, hheap e x hx hh]
      unfold wpOp
      simp only [ho]
      rcases hst i o ho with ⟨hg, _, _, _, hlight⟩ | ⟨hg, hu, hH⟩
      · rw [guardA_wanted ar (hguard.trans hg), if_pos rfl]
        left
        refine hlight hB (H k) eT I ι w a out.rel (fun b hb _ => out.fresh b hb) hop2 _ _ fun v w' I' ι' e hv => ?_
        have o2 := e.out (n0 := n0) out.fresh out.len
        exact ih _ _ _ (by simpa using hsz) hd' ⟨k, hk, hheap4, I', ι', out.trans o2, ((ar.ext out.rel e).put _ hdN hv).congr slots⟩ hc'
      · rw [guardA_wanted ar (hguard.trans hg), if_neg (by simp)]
        refine ih _ _ _ (by simpa using hsz) hd' ⟨k, hk, hheap4, I, ι, out, AR.congr (ar.put o.dst hdN skip_rel) fun t => ?_⟩ hc'
        rw [slots t, hu]
    | false =>
      have hheap2 : ∀ (e : Nat) x, ops[e]? = some x → hop L e = true → (listed.getD e false = true ↔ e < i) := fun e x hx hh => by
        constructor
        · intro hl
          rcases Nat.lt_trichotomy e i with h | h | h
          · exact h
          · subst h; rw [hlf] at hl; cases hl
          · rw [behind e x hx h (by simp [touch, hh, hB])] at hl; cases hl
        · intro h; exact before e x hx h (by simp [touch, hh, hB])
      have eH : H k = H i := by
        rcases Nat.le_total k i with h | h
        · exact (heap_same hst h (Nat.le_of_lt hlt) fun e x hx h1 h2 => by
            cases hh : hop L e with
            | false => rfl
            | true => have := (hheap e x hx hh).1 ((hheap2 e x hx hh).2 h2); omega).symm
        · exact heap_same hst h hk fun e x hx h1 h2 => by
            cases hh : hop L e with
            | false => rfl
            | true => have := (hheap2 e x hx hh).1 ((hheap e x hx hh).2 h2); omega
      rw [eH] at out
      have hheap3 : ∀ (e : Nat) x, ops[e]? = some x → hop L e = true → ((listed.setIfInBounds i true).getD e false = true ↔ e < i + 1) := fun e x hx hh => by
        by_cases e2 : i = e
        · subst e2; simp [hset]
        · rw [getD_set_ne false e2, hheap2 e x hx hh]; omega
      unfold wpOp
      simp only [ho]
      rcases hst i o ho with ⟨hg, hstep, _⟩ | ⟨hg, hu, hH⟩
      · rw [guardA_wanted ar (hguard.trans hg), if_pos rfl]
        left
        refine hstep I ι w a out.rel (fun b hb _ => out.fresh b hb) hop2 _ _ fun v w' I' ι' e hv => ?_
        · have o2 := e.out (n0 := n0) out.fresh out.len
          exact ih _ _ _ (by simpa using hsz) hd' ⟨i + 1, by omega, hheap3, I', ι', out.trans o2, ((ar.ext out.rel e).put _ hdN hv).congr slots⟩ hc'
      · rw [guardA_wanted ar (hguard.trans hg), if_neg (by simp)]
        refine ih _ _ _ (by simpa using hsz) hd' ⟨i + 1, by omega, hheap3, I, ι, by rw [hH]; exact out, AR.congr (ar.put o.dst hdN skip_rel) fun t => ?_⟩ hc'
        rw [slots t, hu]

theorem WP.regionD {id ops s h} (L A B : List Nat) (m : Nat) {Q : Exit → Slots → Hp → Prop} (hm : P.follows .mixedOrders = true) (hN : dstOk N ops = true) (hok : drawOk L A B ops = true) (hup : upOk ops = true)
    (hrun : RunD P ops L A B m (fun s h => Q .normal s h) 0 ops.toList s h) : WP P N n0 (.region id ops true) s h Q := by
  intro I ι w a r f n ar
  obtain ⟨S, H, R, e1, e2, hq, hp, hs⟩ := RunD_chain ops.toList 0 s h (by simp) hrun
  subst e1; subst e2
  simp only [Nat.zero_add, Array.length_toList] at hq
  have hrd : Rel I ι (H 0) { w with drawn := w.drawn + 1 } := ⟨fun b x o hx ho => BR.mono (w := w) (w' := { w with drawn := w.drawn + 1 }) (fun _ h => h) (fun _ _ => rfl) (fun b => Moved.refl _ _) rfl (r.real b x o hx ho), r.dom, r.tab.mono (fun _ h => h) (fun _ _ => rfl), r.inj, r.sep, r.far, r.lt, r.ilt⟩
  have hob : Out n0 I ι (H 0) w I ι (H 0) { w with drawn := w.drawn + 1 } := ⟨hrd, f, ⟨rfl, rfl, rfl, Nat.le_refl _, fun _ _ _ => rfl⟩, fun _ h => h, fun _ h => .inl h, fun _ h => .inl h, fun b _ => Moved.refl _ _, n⟩
  have hget : ∀ (i : Nat), (Array.replicate ops.size false).getD i false = false := fun i => by simp [Array.getD]
  have hSD : ∀ j, SD ops R (Array.replicate ops.size false) (S 0) j = S 0 := by
    intro j
    induction j with
    | zero => rfl
    | succ j ih => simp only [SD, hget]; simpa using ih
  refine wp_region_any hm (wpAny_chain (dstOk_spec hN) hok hup (fun j o ho => hp j o (Nat.zero_le _) ho) (fun j o ho => hs j o (Nat.zero_le _) ho) hq ops.size _ a _ (by simp) (fun i o ho h => by rw [hget] at h; cases h)
    ⟨0, Nat.zero_le _, fun i o ho hh => by rw [hget]; simp, I, ι, hob, ?_⟩ ?_)
  · rw [hSD]
    exact ⟨ar.size, fun t => VR.mono (w := w) (w' := { w with drawn := w.drawn + 1 }) (I := I) (fun _ h => h) (fun _ _ => rfl) (ar.get t) ι (fun b => (Moved.refl ι b).1) (fun b => (Moved.refl ι b).2), ar.defers⟩
  · exact Nat.le_trans (List.length_filter_le _ _) (by simp)

end Go.Vs
