import Derived.Test.YtocjejladeeckaaDoorVtA
/-! Frames, single operations, pieces of code. -/
set_option linter.unusedVariables false
set_option linter.unusedSectionVars false
set_option linter.unusedSimpArgs false
namespace Go.Vs
variable [Tab]

abbrev Slots := List (Nat × AV)
def Slots.get : Slots → Nat → AV
  | [], _ => .undef
  | (i, v) :: r, t => if i = t then v else Slots.get r t

def ofC1 : Value → AV
  | .bool b => .bool b
  | .int k n => .int k n
  | .string s => .str s
  | .pointer none => .nilp
  | .map none => .nilmap
  | .nilFunc => .nilfn
  | .nilIface => .nili
  | .slice none 0 0 => .nils
  | _ => .undef
def ofC : Value → AV
  | .agg cs => .agg (cs.toList.map ofC1)
  | .func fn fs cs => if fs.size = 0 ∧ cs.size = 0 then .func fn [] [] else .undef
  | v => ofC1 v

theorem VR.ofC1 (I w ι) (v : Value) : VR I w ι (ofC1 v) v := by
  unfold Vs.ofC1
  split
  · exact .bool _
  · exact .int _ _
  · exact .str _
  · exact .nilp
  · exact .nilmap
  · exact .nilfn
  · exact .nili
  · exact .nils
  · exact .undef
theorem VR.ofC (I w ι) (v : Value) : VR I w ι (ofC v) v := by
  unfold Vs.ofC
  split
  · rename_i cs
    refine .agg (by simp) fun j x y hx hy => ?_
    simp only [List.getElem?_map, Array.getElem?_toList, hy, Option.map_some, Option.some.injEq] at hx
    subst hx
    exact VR.ofC1 I w ι y
  · rename_i fn fs cs
    split
    · rename_i h
      obtain ⟨h1, h2⟩ := h
      exact .func (by simpa using h1) (by simpa using h2) (by simp) (by simp)
    · exact .undef
  · exact VR.ofC1 I w ι v

def Slots.ev (s : Slots) : Operand → AV
  | .tmp t => s.get t
  | .const v => ofC v
  | .global g => match Tab.tab g with | some cs => .iptr cs 0 | none => .undef
  | .func f => .func (.func f) [] []

/-- The frame's slots are as the proof sees them. -/
structure AR (I : Nat → Prop) (w : World) (ι : Io) (N : Nat) (s : Slots) (a : Act) : Prop where
  size : a.tmps.size = N
  get : ∀ t, VR I w ι (s.get t) (a.tmps.getD t undef)
  defers : a.defers = []

theorem TT.global {I w ι} (h : TT I w) (g : Nat) : VR I w ι (match Tab.tab g with | some cs => .iptr cs 0 | none => .undef) (.pointer (some ⟨g, 0, none⟩)) := by
  split
  · rename_i cs hg
    obtain ⟨h1, _, h2⟩ := h g cs hg
    refine .iptr g 0 h1 (fun j x hj => ?_) (fun j x y hj hy => ?_)
    · obtain ⟨y, hy, _⟩ := h2 j x hj
      exact ⟨y, by rw [Nat.zero_add]; exact hy⟩
    · obtain ⟨y', hy', hv⟩ := h2 j x hj
      rw [Nat.zero_add, hy'] at hy
      obtain rfl := Option.some.inj hy
      exact hv
  · exact .undef
theorem AR.ev {I w ι N s a} (ht : TT I w) (h : AR I w ι N s a) (x : Operand) : VR I w ι (s.ev x) (a.eval x) := by
  cases x with
  | tmp t => exact h.get t
  | const v => exact VR.ofC I w ι v
  | global g => exact ht.global g
  | func f => exact .func (by simp) (by simp) (by simp) (by simp)

def Slots.put (s : Slots) (d : Option Nat) (r : AV) : Slots :=
  match d with
  | some d => (d, r) :: s
  | none => s

theorem AR.put {I w ι N s a} (h : AR I w ι N s a) (d : Option Nat) (hd : ∀ t, d = some t → t < N) {r : AV} {v : Value} (hv : VR I w ι r v) : AR I w ι N (s.put d r) (a.put d v) := by
  cases d with
  | none => exact h
  | some d =>
    have hlt := hd d rfl
    refine ⟨by simp [Act.put, h.size], fun t => ?_, h.defers⟩
    simp only [Slots.put, Slots.get, Act.put]
    by_cases e : d = t
    · subst e
      have : d < a.tmps.size := by rw [h.size]; exact hlt
      simp [this, hv]
    · have := h.get t
      simpa [e, Array.getElem?_setIfInBounds, if_neg e] using this

theorem AR.ext {I ι h w I' ι' h' w' N s a} (r : Rel I ι h w) (e : Ext I ι h w I' ι' h' w') (ha : AR I w ι N s a) : AR I' w' ι' N s a :=
  ⟨ha.size, fun t => (ha.get t).ext r e, ha.defers⟩

/-- One operation, over operands and blocks that the proof sees as ρ and h, tells r and leaves the blocks h'. -/
def Step (P : Program) (o : Oper) (ρ : Operand → AV) (h : Hp) (r : AV) (h' : Hp) : Prop :=
  ∀ (I : Nat → Prop) (ι : Io) (w : World) (a : Act), Rel I ι h w → (∀ b, h.length ≤ b → b < h'.length → ι b = none) → (∀ x ∈ o.op.operands, VR I w ι (ρ x) (a.eval x)) →
    ∀ (next : Act → World → Prop) (Q : Exit → Act → World → Prop),
      (∀ v w' I' ι', Ext I ι h w I' ι' h' w' → VR I' w' ι' r v → next (a.put o.dst v) w') → o.wp P a w next Q

/-- An operation that leaves the world alone. -/
theorem Step.still {P : Program} {o : Oper} {ρ : Operand → AV} {h : Hp} {r : AV}
    (hs : ∀ (I : Nat → Prop) (ι : Io) (w : World) (a : Act), Rel I ι h w → (∀ x ∈ o.op.operands, VR I w ι (ρ x) (a.eval x)) → ∃ v, (execOp a.eval o).run P w = .ok (.value v) w ∧ VR I w ι r v) : Step P o ρ h r h := by
  intro I ι w a hr _ hx next Q k
  obtain ⟨v, hrun, hv⟩ := hs I ι w a hr hx
  unfold Oper.wp
  rw [hrun]
  exact k v w I ι (Ext.refl hr) hv

def guardA (ops : Array Oper) (s : Slots) (o : Oper) : Option Bool :=
  match o.guard with
  | none => some true
  | some (j, want) => match (ops[j]?).bind (·.dst) with
    | some t => match s.get t with
      | .bool b => some (b == want)
      | .tuple [] => some false
      | _ => none
    | none => none

theorem skip_rel {I w ι} : VR I w ι (.tuple []) Go.undef := .tuple rfl (fun j x y hx _ => by cases hx)
theorem guardA_wanted {I w ι N s a ops o b} (h : AR I w ι N s a) (hg : guardA ops s o = some b) : Region.wanted o (yielded ops a.tmps) = b := by
  unfold guardA at hg
  unfold Region.wanted
  split at hg
  · rename_i e; rw [e]; simpa using hg
  · rename_i j want e
    rw [e]
    split at hg
    · rename_i t et
      split at hg
      · rename_i b' hb
        have hv := h.get t
        rw [hb] at hv
        have : a.tmps.getD t undef = .bool b' := hv.bool_inv
        have ey : yielded ops a.tmps j = some b' := by
          unfold yielded
          rw [et]
          simp only [Array.getD_eq_getD_getElem?] at this
          cases e2 : a.tmps[t]? with
          | none => rw [e2] at this; simp [undef] at this
          | some v => rw [e2] at this; simp at this; simp [e2, this]
        simp only [ey]
        simp only [Option.some.injEq] at hg
        subst hg
        cases b' <;> cases want <;> rfl
      · rename_i hb
        have hv := h.get t
        rw [hb] at hv
        have this : a.tmps.getD t undef = .tuple #[] := by
          obtain ⟨arr, h1, h2, _⟩ := hv.tuple_inv
          rw [h1]; congr 1; exact Array.eq_empty_of_size_eq_zero h2
        have ey : yielded ops a.tmps j = none := by
          unfold yielded
          rw [et]
          simp only [Array.getD_eq_getD_getElem?] at this
          cases e2 : a.tmps[t]? with
          | none => simp [e2]
          | some v => rw [e2] at this; simp at this; simp [e2, this]
        simp only [ey]
        simp only [Option.some.injEq] at hg
        subst hg
        cases want <;> rfl
      · cases hg
    · cases hg

/-- A row of operations, one behind the other. -/
def Run (P : Program) (ops : Array Oper) (Q : Slots → Hp → Prop) : List Oper → Slots → Hp → Prop
  | [], s, h => Q s h
  | o :: rest, s, h =>
    match guardA ops s o with
    | some true => ∃ r h', Step P o s.ev h r h' ∧ Run P ops Q rest (s.put o.dst r) h'
    | some false => Run P ops Q rest (s.put o.dst (.tuple [])) h
    | none => False

/-- What a piece of code does: from (s, h) it comes to an exit with Q. n0: so many blocks came in, and stay. -/
structure Out (n0 : Nat) (I : Nat → Prop) (ι : Io) (h : Hp) (w : World) (I' : Nat → Prop) (ι' : Io) (h' : Hp) (w' : World) : Prop where
  rel : Rel I' ι' h' w'
  fresh : ∀ b, h'.length ≤ b → ι' b = none
  keep : Keep ι h w w'
  imm : ∀ c, I c → I' c
  new : ∀ c, I' c → I c ∨ w.heap.size ≤ c ∨ Own ι h c
  own : ∀ c, Own ι' h' c → Own ι h c ∨ w.heap.size ≤ c
  moved : ∀ b, b < n0 → Moved ι ι' b
  len : n0 ≤ h'.length

theorem Out.refl {n0 I ι h w} (r : Rel I ι h w) (hf : ∀ b, h.length ≤ b → ι b = none) (hn : n0 ≤ h.length) : Out n0 I ι h w I ι h w :=
  ⟨r, hf, Keep.refl _ _ _, fun _ h => h, fun _ h => .inl h, fun _ h => .inl h, fun b _ => Moved.refl _ b, hn⟩

theorem Out.trans {n0 I ι h w I' ι' h' w' I'' ι'' h'' w''} (e : Out n0 I ι h w I' ι' h' w') (e' : Out n0 I' ι' h' w' I'' ι'' h'' w'') : Out n0 I ι h w I'' ι'' h'' w'' where
  rel := e'.rel
  fresh := e'.fresh
  keep := e.keep.trans e'.keep e.own
  imm c hc := e'.imm c (e.imm c hc)
  new c hc := by
    rcases e'.new c hc with h | h | h
    · exact e.new c h
    · exact .inr (.inl (Nat.le_trans e.keep.size h))
    · rcases e.own c h with h | h
      · exact .inr (.inr h)
      · exact .inr (.inl h)
  own c hc := by
    rcases e'.own c hc with h | h
    · exact e.own c h
    · exact .inr (Nat.le_trans e.keep.size h)
  moved b hb := (e.moved b hb).trans (e'.moved b hb)
  len := e'.len

theorem Ext.out {n0 I ι h w I' ι' h' w'} (e : Ext I ι h w I' ι' h' w') (hf : ∀ b, h.length ≤ b → ι b = none) (hn : n0 ≤ h.length) : Out n0 I ι h w I' ι' h' w' :=
  ⟨e.rel, fun b hb => (e.far b hb).trans (hf b (Nat.le_trans e.len hb)), e.keep, e.imm, e.new, e.own, fun b _ => e.moved b, Nat.le_trans hn e.len⟩

/-- The post of the concrete walk. -/
def Post (N n0 : Nat) (Q : Exit → Slots → Hp → Prop) (I : Nat → Prop) (ι : Io) (h : Hp) (w : World) : Exit → Act → World → Prop :=
  fun e a' w' => ∃ I' ι' s' h', Q e s' h' ∧ Out n0 I ι h w I' ι' h' w' ∧ AR I' w' ι' N s' a'

def WP (P : Program) (N n0 : Nat) (c : Code) (s : Slots) (h : Hp) (Q : Exit → Slots → Hp → Prop) : Prop :=
  ∀ (I : Nat → Prop) (ι : Io) (w : World) (a : Act), Rel I ι h w → (∀ b, h.length ≤ b → ι b = none) → n0 ≤ h.length → AR I w ι N s a → c.wp P (Post N n0 Q I ι h w) a w

variable {P : Program} {N n0 : Nat}

theorem WP.mono {c s h} {Q Q' : Exit → Slots → Hp → Prop} (hw : WP P N n0 c s h Q) (hq : ∀ e s h, Q e s h → Q' e s h) : WP P N n0 c s h Q' :=
  fun I ι w a r f n ar => wp_mono (hw I ι w a r f n ar) fun _ _ _ ⟨I', ι', s', h', q, rest⟩ => ⟨I', ι', s', h', hq _ _ _ q, rest⟩

theorem WP.skip {s h Q} (hq : Q .normal s h) : WP P N n0 .skip s h Q :=
  fun I ι w a r f n ar => wp_skip ⟨I, ι, s, h, hq, Out.refl r f n, ar⟩
theorem WP.exit {id s h Q} (hq : Q (.exit id) s h) : WP P N n0 (.exit id) s h Q :=
  fun I ι w a r f n ar => wp_exit ⟨I, ι, s, h, hq, Out.refl r f n, ar⟩
theorem WP.ret {s h Q} (hq : Q .ret s h) : WP P N n0 .ret s h Q :=
  fun I ι w a r f n ar => wp_ret ⟨I, ι, s, h, hq, Out.refl r f n, ar⟩

def thenQ (next : Slots → Hp → Prop) (Q : Exit → Slots → Hp → Prop) : Exit → Slots → Hp → Prop
  | .normal, s, h => next s h
  | e, s, h => Q e s h

theorem WP.seq {x y s h Q} (hx : WP P N n0 x s h (thenQ (fun s h => WP P N n0 y s h Q) Q)) : WP P N n0 (.seq x y) s h Q := by
  intro I ι w a r f n ar
  refine wp_seq (wp_mono (hx I ι w a r f n ar) fun e a' w' ⟨I', ι', s', h', q, out, ar'⟩ => ?_)
  cases e with
  | normal =>
    refine wp_mono (q I' ι' w' a' out.rel out.fresh out.len ar') fun e a'' w'' ⟨I'', ι'', s'', h'', q2, out2, ar2⟩ => ?_
    exact ⟨I'', ι'', s'', h'', q2, out.trans out2, ar2⟩
  | _ => exact ⟨I', ι', s', h', q, out, ar'⟩

/-- The rest of the code under a name. -/
theorem WP.seq_k {x y s h Q} (hx : ∀ K : Slots → Hp → Prop, (∀ s h, WP P N n0 y s h Q → K s h) → WP P N n0 x s h (thenQ K Q)) : WP P N n0 (.seq x y) s h Q :=
  WP.seq (hx _ fun _ _ h => h)

theorem WP.cond {c x y s h Q b} (hc : s.ev c = .bool b) (hw : WP P N n0 (if b then x else y) s h Q) : WP P N n0 (.cond c x y) s h Q := by
  intro I ι w a r f n ar
  have hv := ar.ev r.tab c
  rw [hc] at hv
  have : a.eval c = .bool b := hv.bool_inv
  exact wp_cond this (hw I ι w a r f n ar)

theorem WP.cond_split {c x y s h Q} (b : Bool) (hc : s.ev c = .bool b) (ht : b = true → WP P N n0 x s h Q) (hf : b = false → WP P N n0 y s h Q) : WP P N n0 (.cond c x y) s h Q := by
  refine WP.cond hc ?_
  cases b
  · exact hf rfl
  · exact ht rfl

def blockQ (id : Nat) (Q : Exit → Slots → Hp → Prop) : Exit → Slots → Hp → Prop
  | .exit id', s, h => if id' = id then Q .normal s h else Q (.exit id') s h
  | e, s, h => Q e s h

theorem WP.block {id c s h Q} (hw : WP P N n0 c s h (blockQ id Q)) : WP P N n0 (.block id c) s h Q := by
  intro I ι w a r f n ar
  refine wp_block (wp_mono (hw I ι w a r f n ar) fun e a' w' ⟨I', ι', s', h', q, out, ar'⟩ => ?_)
  cases e with
  | exit id' =>
    simp only [blockQ] at q
    simp only [Exit.inBlock]
    split at q
    · rename_i e; rw [if_pos e]; exact ⟨I', ι', s', h', q, out, ar'⟩
    · rename_i e; rw [if_neg e]; exact ⟨I', ι', s', h', q, out, ar'⟩
  | _ => exact ⟨I', ι', s', h', q, out, ar'⟩

theorem WP.loop {c s h} {Q : Exit → Slots → Hp → Prop} (J : Nat → Slots → Hp → Prop) (m : Nat) (h0 : J m s h)
    (round : ∀ m s h, J m s h → WP P N n0 c s h (thenQ (fun s' h' => ∃ m', m' < m ∧ J m' s' h') Q)) : WP P N n0 (.loop c) s h Q := by
  intro I ι w a r f n ar
  let Inv : Act → World → Prop := fun a' w' => ∃ m I' ι' s' h', J m s' h' ∧ Out n0 I ι h w I' ι' h' w' ∧ AR I' w' ι' N s' a'
  -- a strong induction on the measure, behind the rule for loops by hand
  intro b k cs
  have key : ∀ m (a : Act) (w1 : World), (∃ I' ι' s' h', J m s' h' ∧ Out n0 I ι h w I' ι' h' w1 ∧ AR I' w1 ι' N s' a) →
      ∃ e a' w', Post N n0 Q I ι h w e a' w' ∧ Arrives P (lone (b.at a (.code c :: .inLoop c :: k)) cs w1) b k cs e a' w' := by
    intro m
    induction m using Nat.strongRecOn with
    | _ m ih =>
      intro a w1 ⟨I', ι', s', h', hJ, out, ar'⟩
      obtain ⟨e, a₁, w₁, ⟨I2, ι2, s2, h2, q, out2, ar2⟩, harr⟩ := round m s' h' hJ I' ι' w1 a out.rel out.fresh out.len ar' b (.inLoop c :: k) cs
      have out3 := out.trans out2
      cases e with
      | normal =>
        obtain ⟨m', hlt, hJ'⟩ := q
        obtain ⟨e₂, a₂, w₂, hq₂, harr₂⟩ := ih m' hlt a₁ w₁ ⟨I2, ι2, s2, h2, hJ', out3, ar2⟩
        exact ⟨e₂, a₂, w₂, hq₂, .of_steps (Steps.trans harr (.one step_inLoop)) harr₂⟩
      | exit id => exact ⟨_, a₁, w₁, ⟨I2, ι2, s2, h2, q, out3, ar2⟩, .pass (x := .inLoop c) rfl (fun _ _ => .inl (by simp)) harr⟩
      | goto l => exact ⟨_, a₁, w₁, ⟨I2, ι2, s2, h2, q, out3, ar2⟩, .pass (x := .inLoop c) rfl (fun _ _ => .inl (by simp)) harr⟩
      | ret => exact ⟨_, a₁, w₁, ⟨I2, ι2, s2, h2, q, out3, ar2⟩, .pass (x := .inLoop c) rfl (fun _ _ => .inl (by simp)) harr⟩
      | panic ch => exact ⟨_, a₁, w₁, ⟨I2, ι2, s2, h2, q, out3, ar2⟩, .pass (x := .inLoop c) rfl (fun _ _ => .inl (by simp)) harr⟩
      | outgrown => exact ⟨_, a₁, w₁, ⟨I2, ι2, s2, h2, q, out3, ar2⟩, .pass (x := .inLoop c) rfl (fun _ _ => .inl (by simp)) harr⟩
  obtain ⟨e, a', w', hq, harr⟩ := key m a w ⟨I, ι, s, h, h0, Out.refl r f n, ar⟩
  exact ⟨e, a', w', hq, .of_steps (.one step_loop) harr⟩

theorem run_ops {ops : Array Oper} (hN : ∀ o ∈ ops, ∀ t, o.dst = some t → t < N) {Q : Slots → Hp → Prop} {I0 ι0 h0 w0} :
    ∀ (k : Nat) (s h) (I ι w a), k ≤ ops.size → Run P ops Q (ops.toList.drop k) s h → Rel I ι h w → (∀ b, h.length ≤ b → ι b = none) → n0 ≤ h.length → AR I w ι N s a → Out n0 I0 ι0 h0 w0 I ι h w →
    ∀ (R : Exit → Slots → Hp → Prop), (∀ s h, Q s h → R .normal s h) →
      wpOps P ops (Post N n0 R I0 ι0 h0 w0) ((List.range ops.size).drop k) a w := by
  intro k
  generalize hm : ops.size - k = m
  induction m generalizing k with
  | zero =>
    intro s h I ι w a hk hrun hr hf hn ar out R hR
    have : ops.toList.drop k = [] := by rw [List.drop_eq_nil_iff]; simp; omega
    rw [this] at hrun
    have : (List.range ops.size).drop k = [] := by rw [List.drop_eq_nil_iff]; simp; omega
    rw [this]
    exact ⟨I, ι, s, h, hR _ _ hrun, out, ar⟩
  | succ m ih =>
    intro s h I ι w a hk hrun hr hf hn ar out R hR
    have hlt : k < ops.size := by omega
    have e1 : ops.toList.drop k = ops[k] :: ops.toList.drop (k + 1) := by
      rw [List.drop_eq_getElem_cons (by simpa using hlt)]; simp
    have e2 : (List.range ops.size).drop k = k :: (List.range ops.size).drop (k + 1) := by
      rw [List.drop_eq_getElem_cons (by simpa using hlt)]; simp
    rw [e1] at hrun
    rw [e2]
    simp only [wpOps, Array.getElem?_eq_getElem hlt]
    simp only [Run] at hrun
    have hd := hN ops[k] (by simp)
    split at hrun
    · rename_i hg
      obtain ⟨r, h', hstep, hrun⟩ := hrun
      rw [guardA_wanted ar hg, if_pos rfl]
      left
      refine hstep I ι w a hr (fun b hb _ => hf b hb) (fun x _ => ar.ev hr.tab x) _ _ fun v w' I' ι' e hv => ?_
      have o2 := e.out (n0 := n0) hf hn
      exact ih (k + 1) (by omega) _ _ I' ι' w' _ (by omega) hrun e.rel o2.fresh o2.len ((ar.ext hr e).put _ hd hv) (out.trans o2) R hR
    · rename_i hg
      rw [guardA_wanted ar hg, if_neg (by simp)]
      exact ih (k + 1) (by omega) _ _ I ι w _ (by omega) hrun hr hf hn (ar.put _ hd skip_rel) out R hR
    · exact hrun.elim

theorem WP.region {id ops s h Q} (hN : ∀ o ∈ ops, ∀ t, o.dst = some t → t < N) (hrun : Run P ops (fun s h => Q .normal s h) ops.toList s h) : WP P N n0 (.region id ops false) s h Q := by
  intro I ι w a r f n ar
  have := run_ops (n0 := n0) hN 0 s h I ι w a (by omega) hrun r f n ar (Out.refl r f n) Q (fun _ _ h => h)
  rw [List.drop_zero] at this
  exact wp_region this

end Go.Vs
