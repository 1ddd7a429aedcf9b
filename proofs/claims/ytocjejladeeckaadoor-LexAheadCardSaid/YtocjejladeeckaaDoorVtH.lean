import Derived.Test.YtocjejladeeckaaDoorVtG
/-! Running a row of operations by rewriting. -/
set_option linter.unusedVariables false
set_option linter.unusedSectionVars false
set_option linter.unusedSimpArgs false
namespace Go.Vs
variable [Tab]
universe u
variable {P : Program} {N n0 : Nat}

def onG (g : Option Bool) (t f : Unit → Prop) (_ : Hold (t, f)) : Prop := match g with | some true => t () | some false => f () | none => False
@[go_sem] theorem onG_t (t f : Unit → Prop) (k : Hold (t, f)) : onG (some true) t f k = t () := rfl
@[go_sem] theorem onG_f (t f : Unit → Prop) (k : Hold (t, f)) : onG (some false) t f k = f () := rfl
theorem onG_split {b : Bool} {t f : Unit → Prop} {k : Hold (t, f)} (ht : b = true → t ()) (hf : b = false → f ()) : onG (some b) t f k := by
  cases b
  · exact hf rfl
  · exact ht rfl

theorem onG_splitN {b : Bool} {t f : Unit → Prop} {k : Hold (t, f)} (ht : b = false → t ()) (hf : b = true → f ()) : onG (some (!b)) t f k := by
  cases b
  · exact ht rfl
  · exact hf rfl

def evK (P : Program) (o : Oper) (ρ : Operand → AV) (h : Hp) (K : AV → Hp → Prop) (_ : Hold (o, K)) : Prop := evS P o ρ h K

def exP {α : Type} (A : α → Prop) (K : α → Prop) (_ : Hold K) : Prop := ∃ r, A r ∧ K r
theorem exP.mk {α : Type} {A K : α → Prop} {k : Hold K} (r : α) (ha : A r) (hk : K r) : exP A K k := ⟨r, ha, hk⟩
def evBK (P : Program) (b : Builtin) (ts : Array TypeId) (xs : List AV) (h : Hp) (K : AV → Hp → Prop) (els : Unit → Prop) (_ : Hold (K, els)) : Prop := evB P b ts xs h K (els ())
def RunE (P : Program) (ops : Array Oper) (Q : Slots → Hp → Prop) : (l : List Oper) → Slots → Hp → Hold (ops, Q, l) → Prop
  | [], s, h, _ => Q s h
  | o :: rest, s, h, _ => onG (guardA ops s o) (fun _ => evS P o s.ev h fun r h' => RunE P ops Q rest (s.put o.dst r) h' (held _)) (fun _ => RunE P ops Q rest (s.put o.dst (.tuple [])) h (held _)) (held _)

theorem RunE_run {ops : Array Oper} {Q : Slots → Hp → Prop} : ∀ (l : List Oper) (s h) (k), RunE P ops Q l s h k → Run P ops Q l s h
  | [], s, h, _, hr => hr
  | o :: rest, s, h, _, hr => by
    simp only [RunE] at hr
    simp only [Run]
    split
    · rename_i e
      rw [e, onG_t] at hr
      obtain ⟨r, h', hst, hk⟩ := evS_sound hr
      exact ⟨r, h', hst, RunE_run rest _ _ _ hk⟩
    · rename_i e
      rw [e, onG_f] at hr
      exact RunE_run rest _ _ _ hr
    · rename_i e
      rw [e] at hr
      exact hr

/-- A piece of code, left alone by the rewriting. -/
def W (P : Program) (N n0 : Nat) (c : Code) (Q : Exit → Slots → Hp → Prop) (s : Slots) (h : Hp) (_ : Hold (c, Q)) : Prop := WP P N n0 c s h Q
abbrev WK (P : Program) (N n0 : Nat) (c : Code) (Q : Exit → Slots → Hp → Prop) (s : Slots) (h : Hp) : Prop := W P N n0 c Q s h (held _)

def dstOk (N : Nat) (ops : Array Oper) : Bool := ops.toList.all fun o => match o.dst with | some t => decide (t < N) | none => true
theorem dstOk_spec {ops : Array Oper} (h : dstOk N ops = true) : ∀ o ∈ ops, ∀ t, o.dst = some t → t < N := by
  intro o ho t ht
  have := (List.all_eq_true.1 h) o (by simpa using ho)
  rw [ht] at this
  simpa using this

theorem W.region {id} {l : List Oper} {s h Q k} (hN : dstOk N l.toArray = true) (hrun : RunE P l.toArray (fun s h => Q .normal s h) l s h (held _)) : W P N n0 (.region id l.toArray false) Q s h k :=
  WP.region (dstOk_spec hN) (by rw [List.toList_toArray]; exact RunE_run _ _ _ _ hrun)
theorem W.region_ {id} {l : List Oper} {s h Q k} (hr : dstOk N l.toArray = true ∧ RunE P l.toArray (fun s h => Q .normal s h) l s h (held _)) : W P N n0 (.region id l.toArray false) Q s h k := W.region hr.1 hr.2
theorem W.seq {x y s h Q k} (hx : WK P N n0 x (thenQ (fun s h => WK P N n0 y Q s h) Q) s h) : W P N n0 (.seq x y) Q s h k := WP.seq hx
theorem W.exit {id s h Q k} (hq : Q (.exit id) s h) : W P N n0 (.exit id) Q s h k := WP.exit hq
theorem W.ret {s h Q k} (hq : Q .ret s h) : W P N n0 .ret Q s h k := WP.ret hq
theorem W.skip {s h Q k} (hq : Q .normal s h) : W P N n0 .skip Q s h k := WP.skip hq
theorem W.block {id c s h Q k} (hw : WK P N n0 c (blockQ id Q) s h) : W P N n0 (.block id c) Q s h k := WP.block hw
theorem W.cond {c x y s h Q k} (b : Bool) (hc : s.ev c = .bool b) (ht : b = true → WK P N n0 x Q s h) (hf : b = false → WK P N n0 y Q s h) : W P N n0 (.cond c x y) Q s h k :=
  WP.cond_split b hc ht hf
theorem W.condN {c x y s h Q k} (b : Bool) (hc : s.ev c = .bool (!b)) (ht : b = false → WK P N n0 x Q s h) (hf : b = true → WK P N n0 y Q s h) : W P N n0 (.cond c x y) Q s h k :=
  WP.cond_split (!b) hc (fun e => ht (by simpa using e)) (fun e => hf (by simpa using e))
@[go_sem ↓] theorem thenQ_normal {K : Slots → Hp → Prop} {Q : Exit → Slots → Hp → Prop} {s h} : thenQ K Q .normal s h = K s h := rfl
@[go_sem ↓] theorem thenQ_exit {K : Slots → Hp → Prop} {Q : Exit → Slots → Hp → Prop} {i s h} : thenQ K Q (.exit i) s h = Q (.exit i) s h := rfl
@[go_sem ↓] theorem thenQ_ret {K : Slots → Hp → Prop} {Q : Exit → Slots → Hp → Prop} {s h} : thenQ K Q .ret s h = Q .ret s h := rfl
@[go_sem ↓] theorem blockQ_normal {Q : Exit → Slots → Hp → Prop} {i s h} : blockQ i Q .normal s h = Q .normal s h := rfl
theorem blockQ_exit {Q : Exit → Slots → Hp → Prop} {i j s h} : blockQ i Q (.exit j) s h = if j = i then Q .normal s h else Q (.exit j) s h := rfl
@[go_sem ↓] theorem blockQ_here {Q : Exit → Slots → Hp → Prop} {i s h} : blockQ i Q (.exit i) s h = Q .normal s h := by rw [blockQ_exit, if_pos rfl]
theorem blockQ_on {Q : Exit → Slots → Hp → Prop} {i j s h} (hij : j ≠ i) : blockQ i Q (.exit j) s h = Q (.exit j) s h := by rw [blockQ_exit, if_neg hij]
@[go_sem ↓] theorem blockQ_ret {Q : Exit → Slots → Hp → Prop} {i s h} : blockQ i Q .ret s h = Q .ret s h := rfl
/-- The end of a body, reckoned. -/
theorem EndsF.ret {fn : Func} {r : AV} {s h} (hr : onS (resOf P s h fn.results.toList) fun l => FR h (one? l) r) : EndsF P fn r .ret s h := by
  obtain ⟨x, hx, hf⟩ := onS_inv hr
  exact ⟨.inr rfl, x, hx, hf⟩
theorem EndsF.normal {fn : Func} {r : AV} {s h} (hr : onS (resOf P s h fn.results.toList) fun l => FR h (one? l) r) : EndsF P fn r .normal s h := by
  obtain ⟨x, hx, hf⟩ := onS_inv hr
  exact ⟨.inl rfl, x, hx, hf⟩
theorem PureF.of {f : FuncId} {fn : Func} {c : Code} {args : List AV} {r : AV} {N : Nat} (hf : P.funcs[f]? = some fn) (hb : fn.body = some c) (hN : fn.ntmps = N) (hn : args.length ≤ N)
    (hw : WK P N 0 c (EndsF P fn r) (argS 0 args) []) : PureF P f args r := by
  subst hN; exact PureF.of_wp hf hb hn hw
def resC : Option AV → Option (List AV) → Option (List AV)
  | some x, some l => some (x :: l)
  | _, _ => none
theorem resOf_tmp' {s : Slots} {h : Hp} {t : Nat} {rs : List ResultVar} : resOf P s h (.tmp t :: rs) = (resOf P s h rs).map fun l => s.get t :: l := rfl
/-! ### The rules of the reckoning -/
/-- What a guard asks of. -/
def dstAt (ops : Array Oper) (j : Nat) : Option Nat := (ops[j]?).bind (·.dst)
def grd (x : AV) (want : Bool) : Option Bool := match x with | .bool b => some (match want with | true => b | false => !b) | .tuple [] => some false | _ => none
def grdAt (o : Option Nat) (s : Slots) (want : Bool) : Option Bool := match o with | some t => grd (s.get t) want | none => none
section rules
variable {ops : Array Oper} {Q : Slots → Hp → Prop} {rest : List Oper} {s : Slots} {h : Hp} {d : Option Nat} {ty : TypeId} {pos : String} {af : Array Edge} {g : Option (Nat × Bool)} {ρ : Operand → AV} {K : AV → Hp → Prop}
variable {k : Hold (ops, Q, rest)} {kk : Hold K}
@[go_sem] theorem RunE_nil {k} : RunE P ops Q [] s h k = Q s h := rfl
@[go_sem] theorem RunE_plain {op : Op} {k} : RunE P ops Q ({ dst := d, op := op, type := ty, pos := pos, after := af, guard := none } :: rest) s h k =
    evK P { dst := d, op := op, type := ty, pos := pos, after := af, guard := none } s.ev h (fun r h' => RunE P ops Q rest (s.put d r) h' (held _)) (held _) := rfl
@[go_sem] theorem RunE_guard {op : Op} {j : Nat} {want : Bool} {k} : RunE P ops Q ({ dst := d, op := op, type := ty, pos := pos, after := af, guard := some (j, want) } :: rest) s h k =
    onG (grdAt (dstAt ops j) s want) (fun _ => evK P { dst := d, op := op, type := ty, pos := pos, after := af, guard := some (j, want) } s.ev h (fun r h' => RunE P ops Q rest (s.put d r) h' (held _)) (held _))
      (fun _ => RunE P ops Q rest (s.put d (.tuple [])) h (held _)) (held _) := by
  have e : guardA ops s { dst := d, op := op, type := ty, pos := pos, after := af, guard := some (j, want) } = grdAt (dstAt ops j) s want := by
    simp only [guardA, dstAt, grdAt]
    cases (ops[j]?).bind (·.dst) with
    | none => rfl
    | some t => simp only [grd]; cases s.get t <;> first | rfl | (rename_i b; cases b <;> cases want <;> rfl)
  rw [← e]; rfl
@[go_sem] theorem grd_true (b : Bool) : grd (.bool b) true = some b := rfl
@[go_sem] theorem grd_false (b : Bool) : grd (.bool b) false = some (!b) := rfl
@[go_sem] theorem grd_skip (w : Bool) : grd (.tuple []) w = some false := rfl
@[go_sem] theorem grdAt_some (t : Nat) (s : Slots) (want : Bool) : grdAt (some t) s want = grd (s.get t) want := rfl
@[go_sem] theorem dstAt_list (l : List Oper) (j : Nat) : dstAt l.toArray j = (l[j]?).bind (·.dst) := by simp [dstAt]

@[go_sem] theorem put_some {t : Nat} {r : AV} : s.put (some t) r = (t, r) :: s := rfl
@[go_sem] theorem put_none {r : AV} : s.put none r = s := rfl
@[go_sem] theorem get_nil {t : Nat} : Slots.get [] t = .undef := rfl
@[go_sem] theorem get_cons {i t : Nat} {v : AV} {r : Slots} : Slots.get ((i, v) :: r) t = if i = t then v else Slots.get r t := rfl
@[go_sem] theorem ev_tmp {t : Nat} : Slots.ev s (.tmp t) = s.get t := rfl
@[go_sem] theorem ev_const {v : Value} : Slots.ev s (.const v) = ofC v := rfl
@[go_sem] theorem ev_global {g : Nat} : Slots.ev s (.global g) = match Tab.tab g with | some cs => .iptr cs 0 | none => .undef := rfl
@[go_sem] theorem ev_func {f : FuncId} : Slots.ev s (.func f) = .func (.func f) [] [] := rfl
@[go_sem] theorem ofC_int {k n} : ofC (.int k n) = .int k n := rfl
@[go_sem] theorem ofC_bool {b} : ofC (.bool b) = .bool b := rfl
@[go_sem] theorem ofC_string {b} : ofC (.string b) = .str b := rfl
@[go_sem] theorem ofC_nilp : ofC (.pointer none) = .nilp := rfl
@[go_sem] theorem ofC_nili : ofC .nilIface = .nili := rfl
@[go_sem] theorem ofC_nilfn : ofC .nilFunc = .nilfn := rfl
@[go_sem] theorem ofC_nilmap : ofC (.map none) = .nilmap := rfl
@[go_sem] theorem ofC_nils : ofC (.slice none 0 0) = .nils := rfl

@[go_sem] theorem evK_move {x : Operand} {k} : evK P { dst := d, op := .move x, type := ty, pos := pos, after := af, guard := g } ρ h K k = K (ρ x) h := rfl
@[go_sem] theorem evK_assign {x : Operand} {k} : evK P { dst := d, op := .assign x, type := ty, pos := pos, after := af, guard := g } ρ h K k = K (ρ x) h := rfl
@[go_sem] theorem evK_pick {c x y : Operand} {k} : evK P { dst := d, op := .pick c x y, type := ty, pos := pos, after := af, guard := g } ρ h K k = onS (boolS (ρ c)) fun b => K (if b then ρ x else ρ y) h := rfl
@[go_sem] theorem evK_extract {x : Operand} {i : Nat} {k} : evK P { dst := d, op := .extract x i, type := ty, pos := pos, after := af, guard := g } ρ h K k = onS (tupS (ρ x)) fun vs => onS vs[i]? fun r => K r h := rfl
@[go_sem] theorem evK_load {x : Operand} {t : TypeId} {k} : evK P { dst := d, op := .load t x, type := ty, pos := pos, after := af, guard := g } ρ h K k = onS (aggOf P t) fun agg => onS (tsz P t) fun n => onS (ldA agg n (rowOf h (ρ x))) fun r => K r h := rfl
@[go_sem] theorem evK_store {p x : Operand} {t : TypeId} {k} : evK P { dst := d, op := .store t p x, type := ty, pos := pos, after := af, guard := g } ρ h K k = onS (tsz P t) fun n => n = (cellsOf (ρ x)).length ∧ (cellsOf (ρ x)).all oneB = true ∧ onS (stA h (ρ p) (cellsOf (ρ x))) fun h' => K .undef h' := rfl
@[go_sem] theorem evK_fieldAddr {x : Operand} {t : TypeId} {f : Nat} {k} : evK P { dst := d, op := .fieldAddr t x f, type := ty, pos := pos, after := af, guard := g } ρ h K k = onS (fld P t f) fun q => q.2 ≠ 0 ∧ onS (addO (ρ x) q.1) fun r => K r h := rfl
@[go_sem] theorem evK_alloc {t : TypeId} {k} : evK P { dst := d, op := .alloc t, type := ty, pos := pos, after := af, guard := g } ρ h K k = onS (tzero P t) fun z => K (.ptr h.length 0 0) (h ++ [.cells z 0 t]) := rfl
@[go_sem] theorem evK_box {x : Operand} {t : TypeId} {k} : evK P { dst := d, op := .box t x, type := ty, pos := pos, after := af, guard := g } ρ h K k = ((cellsOf (ρ x)).all oneB = true ∧ K (.ptr h.length 0 0) (h ++ [.cells (cellsOf (ρ x)) 0 t])) := rfl
@[go_sem] theorem evK_binOp {x y : Operand} {op : BinOp} {t t' : TypeId} {k} : evK P { dst := d, op := .binOp op t x y t', type := ty, pos := pos, after := af, guard := g } ρ h K k = onS (evBin P op t (isCst x || isCst y) (ρ x) (ρ y)) fun r => K r h := rfl
@[go_sem] theorem evK_unOp {x : Operand} {op : UnOp} {t : TypeId} {k} : evK P { dst := d, op := .unOp op t x, type := ty, pos := pos, after := af, guard := g } ρ h K k = onS (evUn op (ρ x)) fun r => K r h := rfl
@[go_sem] theorem evK_convert {x : Operand} {t t' : TypeId} {k} : evK P { dst := d, op := .convert t t' x, type := ty, pos := pos, after := af, guard := g } ρ h K k = onS (evConv P h t t' (ρ x)) fun r => K r h := rfl
@[go_sem] theorem evK_build {parts : Array (Nat × Operand)} {t : TypeId} {k} : evK P { dst := d, op := .build t parts, type := ty, pos := pos, after := af, guard := g } ρ h K k = onS (tzero P t) fun z => onS (plc P t) fun l => onS (fillA (fun i : Nat => l[i]?) z (parts.toList.map fun q => (q.1, ρ q.2))) fun cs => K (.agg cs) h := rfl
@[go_sem] theorem evK_makeInterface {x : Operand} {t : TypeId} {k} : evK P { dst := d, op := .makeInterface t x, type := ty, pos := pos, after := af, guard := g } ρ h K k = (ifaceB P t = some false ∧ K (.iface t (ρ x)) h) := rfl
@[go_sem] theorem evK_buildSlice {t : TypeId} {n : Nat} {parts : Array (Nat × Operand)} {k} : evK P { dst := d, op := .buildSlice t n parts, type := ty, pos := pos, after := af, guard := g } ρ h K k = exP (fun _ : Bool => True) (fun own => onS (elemOf' P t) fun e => onS (tsz P e) fun k => onS (tzero P e) fun _ => (parts.toList.map (·.1) = List.range n ∧ k ≠ 0 ∧ n * k ≤ 16777216) ∧ bif own then (rows1 k (parts.toList.map fun q => cellsOf (ρ q.2)) = true ∧ K (.msl h.length 1 0 k n n) (h ++ [.rows (parts.toList.map fun q => cellsOf (ρ q.2)) k 1 e]))
      else ((parts.toList.map fun q => ρ q.2).all (rowOk k) = true ∧ K (if n = 0 then .emp else .sl (parts.toList.map fun q => cellsOf (ρ q.2))) h)) (held _) := rfl
@[go_sem] theorem evK_field {x : Operand} {t : TypeId} {f : Nat} {k} : evK P { dst := d, op := .field t x f, type := ty, pos := pos, after := af, guard := g } ρ h K k = onS (fldT P t f) fun q => onS (aggOf P q.2) fun ag => onS (tsz P q.2) fun n => onS (fdA ag n q.1 (ρ x)) fun r => K r h := rfl
@[go_sem] theorem evK_slice {x : Operand} {t : TypeId} {lo hi : Option Operand} {k} : evK P { dst := d, op := .slice t x lo hi none, type := ty, pos := pos, after := af, guard := g } ρ h K k = onS (slH P h t (lo.map ρ) (hi.map ρ) (ρ x)) fun r => K r h := rfl
@[go_sem] theorem evK_makeSlice {n c : Operand} {t : TypeId} {k} : evK P { dst := d, op := .makeSlice t n c, type := ty, pos := pos, after := af, guard := g } ρ h K k = onS (mkA P t (ρ n) (ρ c)) fun q => K (.msl h.length 1 0 q.2.1 q.1 q.1) (h ++ [.rows (List.replicate q.1 q.2.2.1) q.2.1 1 q.2.2.2]) := rfl
@[go_sem] theorem evK_range {x : Operand} {t : TypeId} {k} : evK P { dst := d, op := .range t x, type := ty, pos := pos, after := af, guard := g } ρ h K k = onS (strS (ρ x)) fun s => isStr P t = true ∧ K (.ptr h.length 0 0) (h ++ [.siter s 0]) := rfl
@[go_sem] theorem evK_next {x : Operand} {k} : evK P { dst := d, op := .next x true, type := ty, pos := pos, after := af, guard := g } ρ h K k = onS (nextA h (ρ x)) fun r => K r.1 r.2 := rfl
@[go_sem] theorem evK_nilCheck {x : Operand} {k} : evK P { dst := d, op := .nilCheck x, type := ty, pos := pos, after := af, guard := g } ρ h K k = ((match ρ x with | .ptr .. | .eptr .. | .iptr .. => true | _ => false) = true ∧ K (ρ x) h) := rfl
@[go_sem] theorem evK_typeAssert {x : Operand} {t t' : TypeId} {ok : Bool} {k} : evK P { dst := d, op := .typeAssert x t' t ok, type := ty, pos := pos, after := af, guard := g } ρ h K k = (ifaceB P t = some false ∧ onS (tasA P t ok (ρ x)) fun r => K r h) := rfl
@[go_sem] theorem evK_index {x i : Operand} {t : TypeId} {k} : evK P { dst := d, op := .index t x i, type := ty, pos := pos, after := af, guard := g } ρ h K k = (isStr P t = true ∧ onS (ixStr (ρ x) (ρ i)) fun r => K r h) := rfl
@[go_sem] theorem evK_invoke {x : Operand} {name : String} {as : Array Operand} {ts : Array TypeId} {k} : evK P { dst := d, op := .call { callee := .invoke x name, args := as, argTypes := ts }, type := ty, pos := pos, after := af, guard := g } ρ h K k =
    onS (methO P (ρ x) name) fun q => (fnOk P q.1 = true ∧ pureBs (q.2 :: as.toList.map ρ) = true ∧ exP (PureF P q.1 (q.2 :: as.toList.map ρ)) (fun r => K r h) (held _)) := rfl
@[go_sem] theorem or_ff : (false || false) = false := rfl
@[go_sem] theorem or_ft : (false || true) = true := rfl
@[go_sem] theorem or_tf : (true || false) = true := rfl
@[go_sem] theorem or_tt : (true || true) = true := rfl
@[go_sem] theorem isCst_tmp {t : Nat} : isCst (.tmp t) = false := rfl
@[go_sem] theorem isCst_const {v : Value} : isCst (.const v) = true := rfl
@[go_sem] theorem isCst_func {f : FuncId} : isCst (.func f) = false := rfl
@[go_sem] theorem evK_indexAddr {x i : Operand} {t : TypeId} {k} : evK P { dst := d, op := .indexAddr t x i, type := ty, pos := pos, after := af, guard := g } ρ h K k = onS (elemOf' P t) fun e => onS (tsz P e) fun n => onS (elA n (ρ x) (ρ i)) fun r => staleB h (ρ x) = true ∧ K r h := rfl
@[go_sem] theorem evK_call {f : FuncId} {as : Array Operand} {ts : Array TypeId} {k} : evK P { dst := d, op := .call { callee := .value (.func f), args := as, argTypes := ts }, type := ty, pos := pos, after := af, guard := g } ρ h K k =
    (fnOk P f = true ∧ exP (callP P f h (as.toList.map ρ)) (fun q => K q.r (q.hp h)) (held _)) := rfl
@[go_sem] theorem hp_plain {args : List AV} {r : AV} : How.hp ⟨[], false, args, r⟩ h = h := rfl
@[go_sem] theorem hp_lend {F : List Nat} {args : List AV} {r : AV} : How.hp ⟨F, true, args, r⟩ h = h := rfl
@[go_sem] theorem hp_keep {F : List Nat} {args : List AV} {r : AV} : How.hp ⟨F, false, args, r⟩ h = kill F h := rfl
@[go_sem] theorem kill_nil : kill [] h = h := rfl
@[go_sem] theorem kill_cons {b : Nat} {F : List Nat} : kill (b :: F) h = kill F (h.set b .dead) := rfl
@[go_sem] theorem evK_builtin {b : Builtin} {as : Array Operand} {ts : Array TypeId} {k} : evK P { dst := d, op := .call { callee := .builtin b, args := as, argTypes := ts }, type := ty, pos := pos, after := af, guard := g } ρ h K k =
    evBK P b ts (as.toList.map ρ) h K (fun _ => ∃ r h', Step P { dst := d, op := .call { callee := .builtin b, args := as, argTypes := ts }, type := ty, pos := pos, after := af, guard := g } ρ h r h' ∧ K r h') (held _) := rfl
@[go_sem] theorem evB_min {ts : Array TypeId} {i j : IntKind} {a b : Int} {els : Unit → Prop} {k} : evBK P .min ts [.int i a, .int j b] h K els k = (i = j ∧ K (.int i (if b < a then b else a)) h) := rfl
@[go_sem] theorem evB_len {t : TypeId} {x : AV} {els : Unit → Prop} {k} : evBK P .len #[t] [x] h K els k = onS (lenA x) fun n => ((match x with | .str _ => isStr P t | _ => (elemOf' P t).isSome) = true ∧ staleB h x = true) ∧ K (.int .i64 n) h := rfl
@[go_sem] theorem evB_append {t t' : TypeId} {s x : AV} {els : Unit → Prop} {k} : evBK P .append #[t, t'] [s, x] h K els k = exP (fun _ : Bool => True) (fun own => t = t' ∧ bif own then (onS (apA P t h s x) fun r => K r.1 r.2) else onS (apI P t h s x) fun r => K r h) (held _) := rfl
end rules

attribute [go_sem] argS resOf one? List.getElem?_cons_zero List.getElem?_cons_succ List.getElem?_nil List.set_cons_zero List.set_cons_succ List.all_cons List.all_nil Bool.and_true Bool.and_self Bool.true_and true_and and_true and_self List.drop_succ_cons List.drop_zero List.take_succ_cons List.take_zero List.nil_append List.cons_append Option.bind_some Option.map_some ne_eq not_false_eq_true List.toList_toArray List.map_cons List.map_nil List.length_cons List.length_nil boolS tupS evBin evEqAg eqA kindA evUn evConv evInt ldA rowOf stA addO elA idx? lenA cellsOf oneB spl fillA staleB fld pureB pureBs rowOk fdA tasA ixStr nilEq methO evStr List.range_zero List.append_eq cond_true cond_false

end Go.Vs
