import Derived.Test.YtocjejladeeckaaDoorVtU
/-! A view that says less; calls over what is handed on for good, or lent. -/
set_option linter.unusedVariables false
set_option linter.unusedSectionVars false
set_option linter.unusedSimpArgs false
namespace Go.Vs
variable [Tab]
variable {P : Program} {N n0 : Nat}

/-! ### A view that says less -/
/-- The rows of a slice of the call's own that nobody writes any more. -/
def frz (h : Hp) (F : List Nat) : AV → Option (List (List AV))
  | .msl b ver off k len cap => if F.contains b = true then match h[b]? with
      | some (.rows rs k2 v _) => if (v = ver ∧ k2 = k) ∧ off + len ≤ rs.length ∧ rs.all pureBs = true then some ((rs.drop off).take len) else none
      | _ => none
    else none
  | _ => none
/-- y says no more than x. -/
def wkS (h : Hp) (F : List Nat) (x y : AV) : Prop := y = x ∨ y = .undef ∨ (x = .nils ∧ (y = .sl [] ∨ y = .emp ∨ ∃ b ver off k, y = .msl b ver off k 0 0)) ∨ (x = .emp ∧ y = .sl []) ∨ ∃ rows, frz h F x = some rows ∧ y = .sl rows
def wkL (h : Hp) (F : List Nat) : List AV → List AV → Prop
  | [], [] => True
  | x :: xs, y :: ys => wkS h F x y ∧ wkL h F xs ys
  | _, _ => False
def wk (h : Hp) (F : List Nat) (x y : AV) : Prop := wkS h F x y ∨ (∃ xs ys, x = .agg xs ∧ y = .agg ys ∧ wkL h F xs ys) ∨ (∃ xs ys, x = .tuple xs ∧ y = .tuple ys ∧ wkL h F xs ys)
theorem wkL_get {h F} : ∀ {xs ys : List AV}, wkL h F xs ys → xs.length = ys.length ∧ ∀ (j : Nat) y, ys[j]? = some y → ∃ x, xs[j]? = some x ∧ wkS h F x y
  | [], [], _ => ⟨rfl, by simp⟩
  | x :: xs, y :: ys, hw => by
    obtain ⟨h1, h2⟩ := wkL_get hw.2
    refine ⟨by simp [h1], fun j z hz => ?_⟩
    cases j with
    | zero => simp at hz; subst hz; exact ⟨x, rfl, hw.1⟩
    | succ j => exact h2 j z (by simpa using hz)
  | [], _ :: _, hw => hw.elim
  | _ :: _, [], hw => hw.elim
/-- What is frozen joins what nobody writes. -/
def IF (I : Nat → Prop) (ι : Io) (F : List Nat) : Nat → Prop := fun c => I c ∨ ∃ b cur sz, F.contains b = true ∧ ι b = some (c, cur, sz)
theorem VR.wkS {I ι h w F x y v} (hr : Rel I ι h w) (hF : ∀ b, F.contains b = true → b < h.length) (hv : VR I w ι x v) (hw : wkS h F x y) : VR (IF I ι F) w ι y v := by
  have up : ∀ {x v}, VR I w ι x v → VR (IF I ι F) w ι x v := fun hv => hv.mono (fun _ h => .inl h) (fun _ _ => rfl) ι (fun b => (Moved.refl ι b).1) (fun b => (Moved.refl ι b).2)
  rcases hw with rfl | rfl | ⟨rfl, hy⟩ | ⟨rfl, rfl⟩ | ⟨rows, hf, rfl⟩
  · exact up hv
  · exact .undef
  · obtain rfl := hv.nils_inv
    rcases hy with rfl | rfl | ⟨b, ver, off, k, rfl⟩
    · exact .sl0
    · exact .emp
    · exact .mslnil
  · obtain ⟨a0, rfl⟩ := hv.emp_inv; exact .sl0
  · unfold frz at hf
    split at hf
    · rename_i b ver off k len cap
      split at hf
      · rename_i hb
        split at hf
        · rename_i rs k2 v2 ty hh
          split at hf
          · rename_i hc
            obtain ⟨⟨rfl, rfl⟩, hle, hp⟩ := hc
            obtain rfl := Option.some.inj hf
            rcases hv.msl_inv with ⟨a, n, ccap, c, cur, sz, rfl, hib, hver, hcc⟩ | ⟨rfl, rfl, rfl⟩
            · obtain ⟨e1, e0, arr, harr, hsz, hle2, hlens, hx⟩ := hr.real b _ _ hib hh
              obtain ⟨had, rfl, hcap, hncap, hroom⟩ := hcc e1
              by_cases h0 : n = 0
              · subst h0; rw [List.take_zero]; exact .sl0
              · obtain rfl := had.resolve_right (by omega)
                have hget : ∀ (i : Nat) r, ((rs.drop off).take n)[i]? = some r → rs[off + i]? = some r ∧ i < n := by
                  intro i r hi
                  rw [List.getElem?_take] at hi
                  split at hi
                  · rename_i hlt; rw [List.getElem?_drop] at hi; exact ⟨hi, hlt⟩
                  · cases hi
                have hcell : ∀ (i : Nat) r (j : Nat) x, ((rs.drop off).take n)[i]? = some r → r[j]? = some x → ∃ y, w.cell? ⟨c, off * k2 + (i * k2 + j), none⟩ = some y ∧ VR I w ι x y ∧ pureB x = true := by
                  intro i r j x hi hj
                  obtain ⟨hi', hin⟩ := hget i r hi
                  have hjk : j < k2 := by rw [← hlens _ r hi']; exact (List.getElem?_eq_some_iff.1 hj).1
                  have hlt1 : off + i < rs.length := (List.getElem?_eq_some_iff.1 hi').1
                  have hm : (off + i + 1) * k2 ≤ rs.length * k2 := Nat.mul_le_mul_right _ hlt1
                  rw [Nat.add_mul, Nat.one_mul] at hm
                  have he : off * k2 + (i * k2 + j) = (off + i) * k2 + j := by rw [Nat.add_mul]; omega
                  have hlt : (off + i) * k2 + j < arr.size := by omega
                  exact ⟨arr[(off + i) * k2 + j], by simp [World.cell?, harr, he, hlt], hx _ r j x _ hi' hj (by simp [hlt]), pureBs_get ((List.all_eq_true.1 hp) r (List.mem_of_getElem? hi')) j x hj⟩
                refine .sl k2 c (off * k2) ccap (.inr ⟨b, cur, sz, hb, hib⟩) (by simp; omega) hncap (fun i r hi => hlens _ r (hget i r hi).1) (fun i r j x hi hj => ?_) (fun i r j x y hi hj hy => ?_)
                · obtain ⟨y, hy, _⟩ := hcell i r j x hi hj; exact ⟨y, hy⟩
                · obtain ⟨y', hy', hv', hpx⟩ := hcell i r j x hi hj
                  rw [hy'] at hy
                  obtain rfl := Option.some.inj hy
                  exact (up hv').to_pure hpx
            · rw [List.take_zero]; exact .sl0
          · cases hf
        · cases hf
      · cases hf
    · cases hf
theorem VR.wk {I ι h w F x y v} (hr : Rel I ι h w) (hF : ∀ b, F.contains b = true → b < h.length) (hv : VR I w ι x v) (hw : wk h F x y) : VR (IF I ι F) w ι y v := by
  rcases hw with hw | ⟨xs, ys, rfl, rfl, hw⟩ | ⟨xs, ys, rfl, rfl, hw⟩
  · exact VR.wkS hr hF hv hw
  · obtain ⟨arr, rfl, hl, hx⟩ := hv.agg_inv
    obtain ⟨h1, h2⟩ := wkL_get hw
    refine .agg (by omega) fun j y u hy hu => ?_
    obtain ⟨x, hx1, hx2⟩ := h2 j y hy
    exact VR.wkS hr hF (hx j x u hx1 hu) hx2
  · obtain ⟨arr, rfl, hl, hx⟩ := hv.tuple_inv
    obtain ⟨h1, h2⟩ := wkL_get hw
    refine .tuple (by omega) fun j y u hy hu => ?_
    obtain ⟨x, hx1, hx2⟩ := h2 j y hy
    exact VR.wkS hr hF (hx j x u hx1 hu) hx2


theorem wkS_refl {h F x} : wkS h F x x := .inl rfl
theorem wkL_refl {h F} : ∀ (l : List AV), wkL h F l l
  | [] => trivial
  | x :: l => ⟨.inl rfl, wkL_refl l⟩
/-- Blocks that are gone. -/
def kill (F : List Nat) (h : Hp) : Hp := F.foldl (fun h b => h.set b .dead) h
theorem kill_get (F : List Nat) : ∀ (h : Hp) (b : Nat), (kill F h)[b]? = if F.contains b = true ∧ b < h.length then some .dead else h[b]? := by
  induction F with
  | nil => intro h b; simp [kill]
  | cons f F ih =>
    intro h b
    have : kill (f :: F) h = kill F (h.set f .dead) := rfl
    rw [this, ih]
    simp only [List.length_set, List.getElem?_set, List.contains_cons]
    by_cases h1 : F.contains b = true ∧ b < h.length
    · rw [if_pos h1, if_pos ⟨by rw [h1.1]; simp, h1.2⟩]
    · rw [if_neg h1]
      by_cases h2 : f = b
      · subst h2
        by_cases h3 : f < h.length
        · simp [h3]
        · simp [h3]
      · rw [if_neg h2]
        rw [if_neg]
        rintro ⟨h3, h4⟩
        simp only [Bool.or_eq_true, beq_iff_eq] at h3
        rcases h3 with h3 | h3
        · exact h2 h3.symm
        · exact h1 ⟨h3, h4⟩
theorem kill_length (F : List Nat) : ∀ (h : Hp), (kill F h).length = h.length := by
  induction F with
  | nil => intro h; rfl
  | cons f F ih => intro h; show (kill F (h.set f .dead)).length = _; rw [ih]; simp
def liveB (h : Hp) (b : Nat) : Bool := match h[b]? with | some o => o.live | none => false
theorem liveB_spec {h : Hp} {b : Nat} (hb : liveB h b = true) : ∃ o, h[b]? = some o ∧ o.live = true := by
  unfold liveB at hb; split at hb
  · rename_i o ho; exact ⟨o, ho, hb⟩
  · cases hb
theorem Rel.kill {I ι h w F} (hr : Rel I ι h w) (hFl : ∀ b, F.contains b = true → b < h.length) : Rel (IF I ι F) ι (kill F h) w := by
  have up : ∀ {x v}, VR I w ι x v → VR (IF I ι F) w ι x v := fun hv => hv.mono (fun _ h => .inl h) (fun _ _ => rfl) ι (fun b => (Moved.refl ι b).1) (fun b => (Moved.refl ι b).2)
  have get : ∀ b o, (Vs.kill F h)[b]? = some o → o = .dead ∨ (h[b]? = some o ∧ (F.contains b = false ∨ ¬ b < h.length)) := by
    intro b o ho
    rw [kill_get] at ho
    split at ho
    · exact .inl (Option.some.inj ho).symm
    · rename_i hc
      refine .inr ⟨ho, ?_⟩
      by_cases h1 : F.contains b = true
      · exact .inr fun h2 => hc ⟨h1, h2⟩
      · exact .inl (by simpa using h1)
  refine ⟨?_, ?_, hr.tab.mono (fun _ h => .inl h) (fun _ _ => rfl), hr.inj, ?_, ?_, hr.lt, ?_⟩
  · intro b x o hx ho
    rcases get b o ho with rfl | ⟨ho, _⟩
    · trivial
    · exact BR.mono (fun _ h => .inl h) (fun _ _ => rfl) (fun b => Moved.refl _ _) rfl (hr.real b x o hx ho)
  · intro b o ho hl
    rcases get b o ho with rfl | ⟨ho, _⟩
    · cases hl
    · exact hr.dom b o ho hl
  · rintro c ⟨b, o, u, s, h1, h2, h3⟩ hI
    rcases get b o h1 with rfl | ⟨h1, hF⟩
    · cases h2
    · rcases hI with hI | ⟨b', cur, sz, hb'F, hb'⟩
      · exact hr.sep c ⟨b, o, u, s, h1, h2, h3⟩ hI
      · have := hr.inj b b' _ _ h3 hb' rfl
        subst this
        have hlt := (List.getElem?_eq_some_iff.1 h1).1
        rcases hF with hF | hF
        · rw [hF] at hb'F; cases hb'F
        · exact hF hlt
  · intro b x hb hx hI
    rw [kill_length] at hb
    rcases hI with hI | ⟨b', cur, sz, hb'F, hb'⟩
    · exact hr.far b x hb hx hI
    · have := hr.inj b b' _ _ hx hb' rfl
      subst this
      have := hFl b hb'F; omega
  · intro c hc
    rcases hc with hc | ⟨b, cur, sz, _, hb⟩
    · exact hr.ilt c hc
    · exact hr.lt b _ hb

/-- Nothing of memory in it. -/
def scalB : AV → Bool
  | .undef | .bool _ | .int _ _ | .str _ | .nilp | .nils | .emp | .nili | .nilfn | .nilmap => true
  | _ => false
def scalT : AV → Bool
  | .tuple vs => vs.all scalB
  | .agg vs => vs.all scalB
  | x => scalB x
theorem VR.scal {I I' w w' ι ι' x v} (h : VR I w ι x v) (hx : scalB x = true) : VR I' w' ι' x v := by
  cases h <;> first | exact .undef | exact .bool _ | exact .int _ _ | exact .str _ | exact .nilp | exact .nilmap | exact .nilfn | exact .nili | exact .nils | exact .emp | simp [scalB] at hx
theorem VR.scalT {I I' w w' ι ι' x v} (h : VR I w ι x v) (hx : scalT x = true) : VR I' w' ι' x v := by
  by_cases h1 : ∃ vs, x = .tuple vs
  · obtain ⟨vs, rfl⟩ := h1
    obtain ⟨arr, rfl, hl, hxx⟩ := h.tuple_inv
    exact .tuple hl fun j x y hj hy => (hxx j x y hj hy).scal ((List.all_eq_true.1 hx) x (List.mem_of_getElem? hj))
  · by_cases h2 : ∃ vs, x = .agg vs
    · obtain ⟨vs, rfl⟩ := h2
      obtain ⟨arr, rfl, hl, hxx⟩ := h.agg_inv
      exact .agg hl fun j x y hj hy => (hxx j x y hj hy).scal ((List.all_eq_true.1 hx) x (List.mem_of_getElem? hj))
    · refine h.scal ?_
      cases x <;> first | exact hx | exact absurd ⟨_, rfl⟩ h1 | exact absurd ⟨_, rfl⟩ h2

/-- How a call is met: what is handed on for good, or lent; the arguments as they are then; the answer. -/
structure How where
  F : List Nat
  lend : Bool
  args : List AV
  r : AV
def wkAs (h : Hp) (F : List Nat) : List AV → List AV → Prop
  | [], [] => True
  | x :: xs, y :: ys => wk h F x y ∧ wkAs h F xs ys
  | _, _ => False
theorem wkAs_get {h F} : ∀ {xs ys : List AV}, wkAs h F xs ys → xs.length = ys.length ∧ ∀ (j : Nat) y, ys[j]? = some y → ∃ x, xs[j]? = some x ∧ wk h F x y
  | [], [], _ => ⟨rfl, by simp⟩
  | x :: xs, y :: ys, hw => by
    obtain ⟨h1, h2⟩ := wkAs_get hw.2
    refine ⟨by simp [h1], fun j z hz => ?_⟩
    cases j with
    | zero => simp at hz; subst hz; exact ⟨x, rfl, hw.1⟩
    | succ j => exact h2 j z (by simpa using hz)
  | [], _ :: _, hw => hw.elim
  | _ :: _, [], hw => hw.elim
def callP (P : Program) (f : FuncId) (h : Hp) (xs : List AV) (q : How) : Prop :=
  q.F.all (fun b => liveB h b) = true ∧ wkAs h q.F xs q.args ∧ pureBs q.args = true ∧ (q.lend = true → scalT q.r = true) ∧ PureF P f q.args q.r
/-- What is left behind the call. -/
def How.hp (q : How) (h : Hp) : Hp := if q.lend then h else kill q.F h

theorem liveB_lt {h : Hp} {F : List Nat} (hF : F.all (fun b => liveB h b) = true) : ∀ b, F.contains b = true → b < h.length := fun b hb => by
  have h1 : liveB h b = true := (List.all_eq_true.1 hF) b (by simpa using hb)
  obtain ⟨o, ho, _⟩ := liveB_spec h1
  exact (List.getElem?_eq_some_iff.1 ho).1

theorem Step.callX {o : Oper} {ρ : Operand → AV} {h : Hp} {f : FuncId} {as : Array Operand} {ts : Array TypeId} (ho : o.op = .call { callee := .value (.func f), args := as, argTypes := ts }) (hf : fnOk P f = true) {q : How}
    (hc : callP P f h (as.toList.map ρ) q) : Step P o ρ h q.r (q.hp h) := by
  intro I ι w a hr _ hx next Q k
  obtain ⟨hF, hwk, hpure, hlend, hcall⟩ := hc
  have hFl := liveB_lt hF
  obtain ⟨hl1, hget⟩ := wkAs_get hwk
  have hxs : ∀ x ∈ as, VR I w ι (ρ x) (a.eval x) := fun x hm => hx x (by simp [ho, Op.operands, Call.operands, hm])
  have hvs : VRs (IF I ι q.F) w Io.nil q.args (as.map a.eval) := by
    refine ⟨by simp at hl1 ⊢; omega, fun j y v hj hv => ?_⟩
    have hpx := pureBs_get hpure j y hj
    obtain ⟨x, hx1, hx2⟩ := hget j y hj
    simp only [List.getElem?_map, Array.getElem?_toList, Option.map_eq_some_iff] at hx1
    simp only [Array.getElem?_map, Option.map_eq_some_iff] at hv
    obtain ⟨x0, hj0, rfl⟩ := hx1
    obtain ⟨y0, hy0, rfl⟩ := hv
    rw [hj0] at hy0
    obtain rfl := Option.some.inj hy0
    exact (VR.wk hr hFl (hxs x0 (Array.mem_of_getElem? hj0)) hx2).to_pure hpx
  have hrk := hr.kill (F := q.F) hFl
  have hcall := hcall (IF I ι q.F) w (as.map a.eval) hrk.ilt hrk.tab hvs
  have hrun : (execOp a.eval o).run P w = .ok (.enter f (as.map a.eval)) w := by
    unfold execOp
    simp [ho, resolve, Act.eval, Deferred.ofValue, Go.invoke, run_callFunc hf]
  unfold Oper.wp
  rw [hrun, Oper.upon_enter]
  refine hcall.mono fun e w' ⟨v, I', he, hb, h1, h2, h3, hv⟩ => ?_
  subst he
  unfold How.hp at k
  by_cases hld : q.lend = true
  · rw [if_pos hld] at k
    have hIlt : ∀ c, I c → c < w'.heap.size := fun c hc => by have := hr.ilt c hc; have := hb.size; omega
    exact k v w' I ι (Ext.below hr hb (fun _ h => h) hIlt (fun _ h => .inl h)) (hv.scalT (hlend hld))
  · rw [if_neg hld] at k
    have e := Ext.below hrk hb h1 h2 h3
    refine k v w' I' ι ⟨e.rel, ⟨hb.os, hb.tape, hb.output, hb.size, fun c hc _ => hb.block c hc⟩, fun c hc => h1 c (.inl hc), ?_, ?_, fun b => Moved.refl _ _, fun _ _ => rfl, by rw [kill_length]; exact Nat.le_refl _⟩ (hv.pure ι)
    · intro c hc
      rcases h3 c hc with h | h
      · rcases h with h | ⟨b, cur, sz, hbF, hb'⟩
        · exact .inl h
        · obtain ⟨o', ho', hl'⟩ := liveB_spec ((List.all_eq_true.1 hF) b (by simpa using hbF))
          exact .inr (.inr ⟨b, o', cur, sz, ho', hl', hb'⟩)
      · exact .inr (.inl h)
    · rintro c ⟨b, o', u, s', q1, q2, q3⟩
      rw [kill_get] at q1
      split at q1
      · obtain rfl := Option.some.inj q1; cases q2
      · exact .inl ⟨b, o', u, s', q1, q2, q3⟩
theorem callP.plain {f : FuncId} {h : Hp} {xs : List AV} {r : AV} (hp : pureBs xs = true) (hc : PureF P f xs r) : callP P f h xs ⟨[], false, xs, r⟩ := by
  refine ⟨rfl, ?_, hp, (fun h => by cases h), hc⟩
  have : ∀ l : List AV, wkAs h [] l l := fun l => by
    induction l with
    | nil => trivial
    | cons x l ih => exact ⟨.inl (.inl rfl), ih⟩
  exact this xs
theorem FR.of_wk {h : Hp} {F : List Nat} {x y : AV} (hF : F.all (fun b => liveB h b) = true) (hw : wk h F x y) (hp : pureB y = true) : FR h x y := by
  intro I ι w v hr hv
  refine ⟨IF I ι F, fun _ h => .inl h, ?_, (VR.wk hr (liveB_lt hF) hv hw).to_pure hp⟩
  rintro c (hc | ⟨b, cur, sz, hbF, hb⟩)
  · exact .inl hc
  · obtain ⟨o', ho', hl'⟩ := liveB_spec ((List.all_eq_true.1 hF) b (by simpa using hbF))
    exact .inr ⟨b, o', cur, sz, ho', hl', hb⟩
end Go.Vs
