import Derived.Test.YtocjejladeeckaaDoorVtD
/-! Calls, and functions. -/
set_option linter.unusedVariables false
set_option linter.unusedSectionVars false
set_option linter.unusedSimpArgs false
namespace Go.Vs
variable [Tab]
variable {P : Program}

def VRs (I : Nat → Prop) (w : World) (ι : Io) (xs : List AV) (vs : Array Value) : Prop :=
  vs.size = xs.length ∧ ∀ (j : Nat) x y, xs[j]? = some x → vs[j]? = some y → VR I w ι x y

/-- A function that, over values with nothing of the caller's own in them, tells a value, and leaves all that was as it was. -/
def PureF (P : Program) (f : FuncId) (args : List AV) (r : AV) : Prop :=
  ∀ (I : Nat → Prop) (w : World) (vs : Array Value), (∀ c, I c → c < w.heap.size) → TT I w → VRs I w Io.nil args vs →
    Calls P f vs w fun e w' => ∃ v I', e = .returned v ∧ RowKit.Below w.heap.size w w' ∧ (∀ c, I c → I' c) ∧ (∀ c, I' c → c < w'.heap.size) ∧ (∀ c, I' c → I c ∨ w.heap.size ≤ c) ∧ VR I' w' Io.nil r v

theorem Ext.below {I I' ι h w w'} (hr : Rel I ι h w) (hb : RowKit.Below w.heap.size w w') (h1 : ∀ c, I c → I' c) (h2 : ∀ c, I' c → c < w'.heap.size) (h3 : ∀ c, I' c → I c ∨ w.heap.size ≤ c) : Ext I ι h w I' ι h w' := by
  have hIs : ∀ c, I c → w'.heap[c]? = w.heap[c]? := fun c hc => hb.block c (hr.ilt c hc)
  refine ⟨⟨?_, hr.dom, hr.tab.mono h1 hIs, hr.inj, ?_, ?_, ?_, h2⟩, ⟨hb.os, hb.tape, hb.output, hb.size, fun c hc _ => hb.block c hc⟩, h1, fun c hc => (h3 c hc).imp id .inl, fun c hc => .inl hc, fun b => Moved.refl _ _, fun _ _ => rfl, Nat.le_refl _⟩
  · intro b x o hx ho
    exact BR.mono h1 hIs (fun b => Moved.refl _ _) (hb.block _ (hr.lt b x hx)) (hr.real b x o hx ho)
  · intro c hc hI
    rcases h3 c hI with h | h
    · exact hr.sep c hc h
    · have := Own.lt hr hc; omega
  · intro b x hb' hx hI
    rcases h3 _ hI with h | h
    · exact hr.far b x hb' hx h
    · have := hr.lt b x hx; omega
  · intro b x hx; have := hr.lt b x hx; have := hb.size; omega

def fnOk (P : Program) (f : FuncId) : Bool :=
  match P.funcs[f]? with
  | some fn => !(fn.name == "runtime.NumGoroutine") && fn.body.isSome
  | none => false
theorem run_callFunc {f : FuncId} (h : fnOk P f = true) (args : Array Value) (w : World) : (callFunc f args).run P w = .ok (.enter f args) w := by
  unfold fnOk at h
  split at h
  · rename_i fn hf
    simp only [Bool.and_eq_true, Bool.not_eq_true'] at h
    have h1 : ¬ fn.name = "runtime.NumGoroutine" := by simpa using h.1
    have h2 : ¬ fn.body = none := by intro e; simp [e] at h
    simp [callFunc, hf, h1, h2]
  · cases h

theorem Step.call {o : Oper} {ρ : Operand → AV} {h : Hp} {f : FuncId} {as : Array Operand} {ts : Array TypeId} {r : AV} (ho : o.op = .call { callee := .value (.func f), args := as, argTypes := ts }) (hf : fnOk P f = true)
    (hp : pureBs (as.toList.map ρ) = true) (hc : PureF P f (as.toList.map ρ) r) : Step P o ρ h r h := by
  intro I ι w a hr _ hx next Q k
  have hxs : ∀ x ∈ as, VR I w ι (ρ x) (a.eval x) := fun x hm => hx x (by simp [ho, Op.operands, Call.operands, hm])
  have hvs : VRs I w Io.nil (as.toList.map ρ) (as.map a.eval) := by
    refine ⟨by simp, fun j x y hj hy => ?_⟩
    have hpx := pureBs_get hp j x hj
    simp only [List.getElem?_map, Array.getElem?_toList, Option.map_eq_some_iff] at hj
    simp only [Array.getElem?_map, Option.map_eq_some_iff] at hy
    obtain ⟨x0, hj, rfl⟩ := hj
    obtain ⟨y0, hy, rfl⟩ := hy
    rw [hj] at hy
    obtain rfl := Option.some.inj hy
    exact (hxs x0 (Array.mem_of_getElem? hj)).to_pure hpx
  have hcall := hc I w (as.map a.eval) hr.ilt hr.tab hvs
  have hrun : (execOp a.eval o).run P w = .ok (.enter f (as.map a.eval)) w := by
    unfold execOp
    simp [ho, resolve, Act.eval, Deferred.ofValue, invoke, run_callFunc hf]
  unfold Oper.wp
  rw [hrun, Oper.upon_enter]
  refine hcall.mono fun e w' ⟨v, I', he, hb, h1, h2, h3, hv⟩ => ?_
  subst he
  exact k v w' I' ι (Ext.below hr hb h1 h2 h3) (hv.pure ι)

/-! ### Functions -/
def argS : Nat → List AV → Slots
  | _, [] => []
  | i, x :: xs => (i, x) :: argS (i + 1) xs
theorem argS_get (xs : List AV) : ∀ (i t : Nat), (argS i xs).get t = if i ≤ t then xs[t - i]?.getD .undef else .undef := by
  induction xs with
  | nil => intro i t; simp [argS, Slots.get]
  | cons x xs ih =>
    intro i t
    simp only [argS, Slots.get, ih]
    by_cases h : i = t
    · subst h; simp
    · rw [if_neg h]
      by_cases h2 : i ≤ t
      · rw [if_pos h2, if_pos (by omega)]
        have : t - i = (t - (i + 1)) + 1 := by omega
        rw [this]; simp
      · rw [if_neg h2, if_neg (by omega)]

def resOf (P : Program) (s : Slots) (h : Hp) : List ResultVar → Option (List AV)
  | [] => some []
  | .tmp t :: rs => (resOf P s h rs).map fun l => s.get t :: l
  | .cell t ty :: rs => (aggOf P ty).bind fun agg => (tsz P ty).bind fun n => (ldA agg n (rowOf h (s.get t))).bind fun x => (resOf P s h rs).map fun l => x :: l
def one? : List AV → AV
  | [x] => x
  | l => .tuple l

theorem run_ldA {I ι h w p v agg n r t} (hr : Rel I ι h w) (hp : VR I w ι p v) (ha : aggOf P t = some agg) (hn : tsz P t = some n) (hl : ldA agg n (rowOf h p) = some r) :
    ∃ ad y, v = .pointer (some ad) ∧ (loadVar t ad).run P w = .ok y w ∧ VR I w ι r y := by
  cases he : rowOf h p with
  | none => simp [he, ldA] at hl
  | some q =>
    obtain ⟨cs, off⟩ := q
    obtain ⟨c, base, hv, hcell⟩ := row_real hr hp he
    rw [he] at hl
    simp only [ldA] at hl
    refine ⟨⟨c, base + off, none⟩, ?_⟩
    cases agg with
    | false =>
      simp only [Bool.false_eq_true, if_false] at hl
      obtain ⟨y, hy, hvr⟩ := hcell off r hl
      exact ⟨y, hv, by simp [loadVar, run_isAgg' ha, hy], hvr⟩
    | true =>
      simp only [if_true] at hl
      split at hl
      · rename_i hlen
        obtain rfl := Option.some.inj hl
        have hall : ∀ j, ∃ y, j < n → w.cell? ⟨c, base + off + j, none⟩ = some y ∧ ∀ x, cs[off + j]? = some x → VR I w ι x y := by
          intro j
          by_cases hj : j < n
          · obtain ⟨y, hy, hvr⟩ := hcell (off + j) cs[off + j] (List.getElem?_eq_getElem (by omega))
            refine ⟨y, fun _ => ⟨by rw [Nat.add_assoc]; exact hy, fun x hx => ?_⟩⟩
            rw [List.getElem?_eq_getElem (by omega)] at hx
            obtain rfl := Option.some.inj hx
            exact hvr
          · exact ⟨undef, fun h => absurd h hj⟩
        refine ⟨.agg ((List.range n).map fun j => Classical.choose (hall j)).toArray, hv, ?_, ?_⟩
        · have := run_loadCells (P := P) w ⟨c, base + off, none⟩ n (fun j => Classical.choose (hall j)) (fun j hj => by rw [addr_add]; exact (Classical.choose_spec (hall j) hj).1)
          simp [loadVar, run_isAgg' ha, run_sizeOf' hn, this]
        · refine .agg (by simp; omega) fun j x y hx hy => ?_
          have hj : j < n := by
            have := (List.getElem?_eq_some_iff.1 hx).1
            simp at this; omega
          simp only [List.getElem?_toArray, List.getElem?_map, List.getElem?_range hj, Option.map_some, Option.some.injEq] at hy
          subst hy
          refine (Classical.choose_spec (hall j) hj).2 x ?_
          rw [List.getElem?_take_of_lt hj, List.getElem?_drop] at hx
          exact hx
      · cases hl

def resStep (tmps : Array Value) : ResultVar → Sem Value
  | .tmp t => pure (tmps.getD t undef)
  | .cell a t => do loadVar t (← asAddr (tmps.getD a undef))

theorem run_results_list {I ι h w N s a} (hr : Rel I ι h w) (ar : AR I w ι N s a) : ∀ (rs : List ResultVar) (l : List AV), resOf P s h rs = some l →
    ∃ vs : List Value, (rs.mapM (resStep a.tmps)).run P w = .ok vs w ∧ vs.length = l.length ∧ ∀ (j : Nat) x y, l[j]? = some x → vs[j]? = some y → VR I w ι x y
  | [], l, hl => by
    simp [resOf] at hl; subst hl
    exact ⟨[], by simp, rfl, by simp⟩
  | .tmp t :: rs, l, hl => by
    simp only [resOf, Option.map_eq_some_iff] at hl
    obtain ⟨l', hl', rfl⟩ := hl
    obtain ⟨vs, h1, h2, h3⟩ := run_results_list hr ar rs l' hl'
    refine ⟨a.tmps.getD t undef :: vs, by simp [List.mapM_cons, resStep, h1], by simp [h2], fun j x y hx hy => ?_⟩
    cases j with
    | zero => simp at hx hy; subst hx; subst hy; simpa using ar.get t
    | succ j => exact h3 j x y (by simpa using hx) (by simpa using hy)
  | .cell t ty :: rs, l, hl => by
    simp only [resOf, Option.bind_eq_some_iff, Option.map_eq_some_iff] at hl
    obtain ⟨agg, ha, n, hn, x, hx, l', hl', rfl⟩ := hl
    obtain ⟨vs, h1, h2, h3⟩ := run_results_list hr ar rs l' hl'
    obtain ⟨ad, y, hv, hrun, hvr⟩ := run_ldA (P := P) hr (ar.get t) ha hn hx
    refine ⟨y :: vs, ?_, by simp [h2], fun j x y hx hy => ?_⟩
    · rw [List.mapM_cons]
      simp only [resStep, hv, asAddr]
      simp [hrun, h1]
    · cases j with
      | zero => simp at hx hy; subst hx; subst hy; exact hvr
      | succ j => exact h3 j x y (by simpa using hx) (by simpa using hy)

theorem run_results {I ι h w N s a} {fn : Func} (hr : Rel I ι h w) (ar : AR I w ι N s a) {l : List AV} (hl : resOf P s h fn.results.toList = some l) :
    ∃ v, (results fn a.tmps).run P w = .ok v w ∧ VR I w ι (one? l) v := by
  obtain ⟨vs, h1, h2, h3⟩ := run_results_list (P := P) hr ar _ l hl
  have e : fn.results.mapM (resStep a.tmps) = Functor.map List.toArray (fn.results.toList.mapM (resStep a.tmps)) := by
    rw [Array.mapM_eq_mapM_toList]
  have hm : (fn.results.mapM (resStep a.tmps)).run P w = .ok vs.toArray w := by
    rw [e, Sem.run_map, h1]; rfl
  have hres : (results fn a.tmps).run P w = .ok (if h : vs.toArray.size = 1 then vs.toArray[0] else .tuple vs.toArray) w := by
    unfold results
    show ((fn.results.mapM (resStep a.tmps)).bind _).run P w = _
    rw [Sem.run_bind', hm]
    rfl
  refine ⟨_, hres, ?_⟩
  match l, vs, h2, h3 with
  | [x], [v], _, h3 => exact h3 0 x v rfl rfl
  | [], [], _, h3 => exact .tuple (by simp) (by simp)
  | x :: x' :: l, v :: v' :: vs, h2, h3 =>
    rw [dif_neg (by simp)]
    exact .tuple (by simpa using h2) (fun j a b ha hb => h3 j a b ha (by simpa using hb))

/-- A result of the call's own, seen as one that nobody writes any more. -/
def FR (h : Hp) (r r' : AV) : Prop :=
  ∀ (I : Nat → Prop) (ι : Io) (w : World) (v : Value), Rel I ι h w → VR I w ι r v → ∃ I' : Nat → Prop, (∀ c, I c → I' c) ∧ (∀ c, I' c → I c ∨ Own ι h c) ∧ VR I' w Io.nil r' v

theorem FR.pure {h r} (hp : pureB r = true) : FR h r r := fun I ι w v _ hv => ⟨I, fun _ h => h, fun _ h => .inl h, hv.to_pure hp⟩

/-- The end of a function's body. -/
def EndsF (P : Program) (fn : Func) (r : AV) : Exit → Slots → Hp → Prop := fun e s h =>
  (e = .normal ∨ e = .ret) ∧ ∃ l, resOf P s h fn.results.toList = some l ∧ FR h (one? l) r

theorem PureF.of_wp {f : FuncId} {fn : Func} {c : Code} {args : List AV} {r : AV} (hf : P.funcs[f]? = some fn) (hb : fn.body = some c) (hn : args.length ≤ fn.ntmps)
    (hw : WP P fn.ntmps 0 c (argS 0 args) [] (EndsF P fn r)) : PureF P f args r := by
  intro I w vs hI htt hvs
  have hr : Rel I Io.nil [] w := ⟨fun b x o h => by simp [Io.nil] at h, fun b o h => by simp at h, htt, fun b b' x x' h => by simp [Io.nil] at h, fun c ⟨b, o, u, s, h, _⟩ => by simp at h, fun b x _ h => by simp [Io.nil] at h, fun b x h => by simp [Io.nil] at h, hI⟩
  have ar : AR I w Io.nil fn.ntmps (argS 0 args) { tmps := vs ++ Array.replicate (fn.ntmps - vs.size) undef, defers := [] } := by
    refine ⟨by simp [hvs.1]; omega, fun t => ?_, rfl⟩
    rw [argS_get, if_pos (Nat.zero_le _)]
    simp only [Nat.sub_zero]
    cases hx : args[t]? with
    | none => exact .undef
    | some x =>
      have hlt : t < vs.size := by have := (List.getElem?_eq_some_iff.1 hx).1; rw [hvs.1]; exact this
      simp only [Option.getD_some]
      refine hvs.2 t x _ hx ?_
      have e1 : (vs ++ Array.replicate (fn.ntmps - vs.size) undef)[t]? = some vs[t] := by
        rw [Array.getElem?_append_left hlt]; simp [hlt]
      rw [Array.getD_eq_getD_getElem?, e1]
      simp [hlt]
  refine calls_of_wp hf hb (wp_mono (hw I Io.nil w _ hr (fun _ _ => rfl) (Nat.zero_le _) ar) fun e a' w' ⟨I', ι', s', h', ⟨he, l, hl, hfr⟩, out, ar'⟩ => ?_)
  obtain ⟨v, hrun, hv⟩ := run_results (P := P) out.rel ar' hl
  obtain ⟨I'', g1, g2, hv2⟩ := hfr I' ι' w' v out.rel hv
  have hown : ∀ c, ¬ Own Io.nil [] c := fun c ⟨b, o, u, s, h, _⟩ => by simp at h
  have hpost : a'.defers = [] ∧ ∃ v, (results fn a'.tmps).run P w' = .ok v w' ∧ ∃ v_1 I', Ending.returned v = .returned v_1 ∧ RowKit.Below w.heap.size w w' ∧ (∀ c, I c → I' c) ∧ (∀ c, I' c → c < w'.heap.size) ∧ (∀ c, I' c → I c ∨ w.heap.size ≤ c) ∧ VR I' w' Io.nil r v_1 := by
    refine ⟨ar'.defers, v, hrun, v, I'', rfl, ⟨out.keep.os, out.keep.tape, out.keep.output, out.keep.size, fun c hc => out.keep.block c hc (hown c)⟩, fun c hc => g1 c (out.imm c hc), fun c hc => ?_, fun c hc => ?_, hv2⟩
    · rcases g2 c hc with h | h
      · exact out.rel.ilt c h
      · exact Own.lt out.rel h
    · rcases g2 c hc with h | h
      · rcases out.new c h with h | h | h
        · exact .inl h
        · exact .inr h
        · exact absurd h (hown c)
      · rcases out.own c h with h | h
        · exact absurd h (hown c)
        · exact .inr h
  rcases he with rfl | rfl
  · exact hpost
  · exact hpost

end Go.Vs
