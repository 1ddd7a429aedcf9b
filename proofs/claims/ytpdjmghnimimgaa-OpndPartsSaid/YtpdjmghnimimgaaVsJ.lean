import Derived.Test.YtpdjmghnimimgaaVsH
/-! Forgetting, and loops. -/
set_option linter.unusedVariables false
set_option linter.unusedSimpArgs false
namespace Go.Vs
variable {P : Program} {N n0 : Nat}

mutual
def belowB (n : Nat) : AV → Bool
  | .ptr b _ _ => decide (b < n)
  | .msl b _ _ _ _ _ => decide (b < n)
  | .map b => decide (b < n)
  | .func _ f c => belowBs n f && belowBs n c
  | .iface _ v => belowB n v
  | .agg cs => belowBs n cs
  | .tuple vs => belowBs n vs
  | _ => true
def belowBs (n : Nat) : List AV → Bool
  | [] => true
  | x :: xs => belowB n x && belowBs n xs
end
theorem belowBs_get {n : Nat} {cs : List AV} (h : belowBs n cs = true) : ∀ (j : Nat) x, cs[j]? = some x → belowB n x = true := by
  induction cs with
  | nil => intro j x hj; simp at hj
  | cons a as ih =>
    intro j x hj
    simp only [belowBs, Bool.and_eq_true] at h
    cases j with
    | zero => simp at hj; subst hj; exact h.1
    | succ j => exact ih h.2 j x (by simpa using hj)
def cut (n : Nat) (ι : Io) : Io := fun b => if b < n then ι b else none
theorem VR.cutB {I w ι x v} {n : Nat} (h : VR I w ι x v) (hx : belowB n x = true) : VR I w (cut n ι) x v := by
  induction h with
  | undef => exact .undef
  | bool b => exact .bool b
  | int k n => exact .int k n
  | str s => exact .str s
  | nilp => exact .nilp
  | nilmap => exact .nilmap
  | nilfn => exact .nilfn
  | nili => exact .nili
  | nils => exact .nils
  | ptr c cur sz h hv hc => simp only [belowB, decide_eq_true_eq] at hx; exact .ptr c cur sz (by simp [cut, hx, h]) hv hc
  | iptr c base hI hs hv => exact .iptr c base hI hs hv
  | sl0 => exact .sl0
  | sl esz c off cap hI hn hcap hl hs hv => exact .sl esz c off cap hI hn hcap hl hs hv
  | msl c cur sz h hv hc => simp only [belowB, decide_eq_true_eq] at hx; exact .msl c cur sz (by simp [cut, hx, h]) hv hc
  | map c h => simp only [belowB, decide_eq_true_eq] at hx; exact .map c (by simp [cut, hx, h])
  | func h1 h2 _ _ ih3 ih4 =>
    simp only [belowB, Bool.and_eq_true] at hx
    exact .func h1 h2 (fun j x y a b => ih3 j x y a b (belowBs_get hx.1 j x a)) (fun j x y a b => ih4 j x y a b (belowBs_get hx.2 j x a))
  | iface _ ih => exact .iface (ih (by simpa [belowB] using hx))
  | agg hl _ ih => exact .agg hl (fun j x y a b => ih j x y a b (belowBs_get (by simpa [belowB] using hx) j x a))
  | tuple hl _ ih => exact .tuple hl (fun j x y a b => ih j x y a b (belowBs_get (by simpa [belowB] using hx) j x a))

def belowO (n : Nat) : LO → Bool
  | .cells cs _ _ => belowBs n cs
  | .map es => es.all fun e => belowB n e.1 && belowB n e.2
  | _ => true
def belowH (n : Nat) (h : Hp) : Bool := h.all (belowO n)
def belowS (n : Nat) (s : Slots) : Bool := s.all fun p => belowB n p.2
theorem belowS_get {n : Nat} {s : Slots} (h : belowS n s = true) (t : Nat) : belowB n (s.get t) = true := by
  induction s with
  | nil => simp [Slots.get, belowB]
  | cons p s ih =>
    simp only [belowS, List.all_cons, Bool.and_eq_true] at h
    obtain ⟨i, v⟩ := p
    simp only [Slots.get]
    split
    · exact h.1
    · exact ih h.2

def SubS (s1 s : Slots) : Prop := ∀ t, s1.get t = .undef ∨ s1.get t = s.get t
theorem SubS.nil {s : Slots} : SubS [] s := fun t => .inl rfl
theorem SubS.cons {t : Nat} {v : AV} {s1 s : Slots} (h1 : s.get t = v) (h : SubS s1 s) : SubS ((t, v) :: s1) s := by
  intro t'
  simp only [Slots.get]
  split
  · rename_i e; subst e; exact .inr h1.symm
  · exact h t'
/-- All that the shorter view says stands in the longer one. -/
def subS : Slots → Slots → Prop
  | [], _ => True
  | (t, v) :: s1, s => s.get t = v ∧ subS s1 s
theorem subS_spec : ∀ {s1 s : Slots}, subS s1 s → SubS s1 s
  | [], _, _ => SubS.nil
  | (t, v) :: s1, s, h => SubS.cons h.1 (subS_spec h.2)

/-- The view (s1, h1) forgets some of (s, h). -/
structure Forget (n0 : Nat) (s : Slots) (h : Hp) (s1 : Slots) (h1 : Hp) : Prop where
  sub : SubS s1 s
  len : n0 ≤ h1.length
  pre : h1 = h.take h1.length
  sl : belowS h1.length s1 = true
  hp : belowH h1.length h1 = true

theorem WP.forget {c s h s1 h1 Q} (hf : Forget n0 s h s1 h1) (hw : WP P N n0 c s1 h1 Q) : WP P N n0 c s h Q := by
  intro I ι w a hr hfr hn ar
  have hle : h1.length ≤ h.length := by have := congrArg List.length hf.pre; simp at this; omega
  have hget : ∀ b, b < h1.length → h1[b]? = h[b]? := by
    intro b hb
    have := congrArg (·[b]?) hf.pre
    simp only [List.getElem?_take_of_lt hb] at this
    exact this
  have own1 : ∀ c, Own (cut h1.length ι) h1 c → Own ι h c := by
    rintro c ⟨b, o, u, s, h2, h3, h4⟩
    have hb : b < h1.length := (List.getElem?_eq_some_iff.1 h2).1
    refine ⟨b, o, u, s, by rw [← hget b hb]; exact h2, h3, ?_⟩
    simpa [cut, hb] using h4
  have hr1 : Rel I (cut h1.length ι) h1 w := by
    refine ⟨?_, ?_, ?_, fun c hc => hr.sep c (own1 c hc), ?_, ?_, hr.ilt⟩
    · intro b x o hx ho
      have hb : b < h1.length := (List.getElem?_eq_some_iff.1 ho).1
      have hx' : ι b = some x := by simpa [cut, hb] using hx
      have hreal := hr.real b x o hx' (by rw [← hget b hb]; exact ho)
      have hob : belowO h1.length o = true := (List.all_eq_true.1 hf.hp) o (List.mem_of_getElem? ho)
      obtain ⟨c, cur, sz⟩ := x
      cases o with
      | cells cs ver ty =>
        obtain ⟨e, arr, q1, q2, q3, q4⟩ := hreal
        exact ⟨e, arr, q1, q2, q3, fun j x y hj hy => (q4 j x y hj hy).cutB (belowBs_get hob j x hj)⟩
      | siter s pos => exact hreal
      | map es =>
        obtain ⟨e1, e2, ents, clock, q1, q2, q3, q4, q5⟩ := hreal
        refine ⟨e1, e2, ents, clock, q1, q2, q3, q4, fun j x e hj he => ?_⟩
        have := (List.all_eq_true.1 hob) x (List.mem_of_getElem? hj)
        simp only [Bool.and_eq_true] at this
        exact ⟨(q5 j x e hj he).1.cutB this.1, (q5 j x e hj he).2.cutB this.2⟩
      | dead => trivial
    · intro b hb; simp only [cut, hb, if_true]; exact hr.dom b (by omega)
    · intro b b' x x' hx hx' e
      simp only [cut] at hx hx'
      split at hx
      · split at hx'
        · exact hr.inj b b' x x' hx hx' e
        · cases hx'
      · cases hx
    · intro b x hb hx; simp [cut] at hx; omega
    · intro b x hx; simp only [cut] at hx; split at hx
      · exact hr.lt b x hx
      · cases hx
  have ar1 : AR I w (cut h1.length ι) N s1 a := by
    refine ⟨ar.size, fun t => ?_, ar.defers⟩
    have hb := belowS_get hf.sl t
    rcases hf.sub t with e | e
    · rw [e]; exact .undef
    · rw [e] at hb ⊢; exact (ar.get t).cutB hb
  refine wp_mono (hw I (cut h1.length ι) w a hr1 (fun b hb => by simp [cut]; omega) hf.len ar1) fun e a' w' ⟨I', ι', s', h', q, out, ar'⟩ => ?_
  refine ⟨I', ι', s', h', q, ⟨out.rel, out.fresh, ⟨out.keep.os, out.keep.tape, out.keep.output, out.keep.size, fun c hc hn => out.keep.block c hc fun ho => hn (own1 c ho)⟩, out.imm, ?_, ?_, ?_, out.len⟩, ar'⟩
  · intro c hc
    rcases out.new c hc with h | h | h
    · exact .inl h
    · exact .inr (.inl h)
    · exact .inr (.inr (own1 c h))
  · intro c hc
    exact (out.own c hc).imp (own1 c) id
  · intro b hb
    have hlt : b < h1.length := Nat.lt_of_lt_of_le hb hf.len
    have := out.moved b hb
    have e : cut h1.length ι b = ι b := by simp [cut, hlt]
    exact ⟨fun c u s hc => this.1 c u s (e.trans hc), fun c hc => this.2 c (e.trans hc)⟩

theorem Forget.refl {s : Slots} {h : Hp} (hn : n0 ≤ h.length) (hs : belowS h.length s = true) (hh : belowH h.length h = true) : Forget n0 s h s h :=
  ⟨fun t => .inr rfl, hn, by simp, hs, hh⟩

theorem WP.loopF {c s h} {Q : Exit → Slots → Hp → Prop} (J : Nat → Slots → Hp → Prop) (m : Nat) (h0 : ∃ s1 h1, Forget n0 s h s1 h1 ∧ J m s1 h1)
    (round : ∀ m s h, J m s h → WP P N n0 c s h (thenQ (fun s' h' => ∃ m', m' < m ∧ ∃ s1 h1, Forget n0 s' h' s1 h1 ∧ J m' s1 h1) Q)) : WP P N n0 (.loop c) s h Q := by
  refine WP.loop (fun m s h => ∃ s1 h1, Forget n0 s h s1 h1 ∧ J m s1 h1) m h0 fun m s h ⟨s1, h1, hf, hj⟩ => ?_
  exact WP.forget hf (round m s1 h1 hj)

/-! ### The forms that the run meets -/
theorem W.loop {c s h} {Q : Exit → Slots → Hp → Prop} {k} {α : Type} (J : α → Slots × Hp) (μ : α → Nat) (a0 : α) (I : α → Prop) (hi : I a0) (h0 : Forget n0 s h (J a0).1 (J a0).2)
    (round : ∀ a, I a → WK P N n0 c (thenQ (fun s' h' => ∃ b, μ b < μ a ∧ I b ∧ Forget n0 s' h' (J b).1 (J b).2) Q) (J a).1 (J a).2) : W P N n0 (.loop c) Q s h k := by
  refine WP.loopF (fun m s h => ∃ a, μ a = m ∧ I a ∧ s = (J a).1 ∧ h = (J a).2) (μ a0) ⟨_, _, h0, a0, rfl, hi, rfl, rfl⟩ ?_
  rintro m s h ⟨a, rfl, ha, rfl, rfl⟩
  refine WP.mono (round a ha) fun e s' h' q => ?_
  cases e with
  | normal =>
    obtain ⟨b, hb, hib, hf⟩ := q
    exact ⟨μ b, hb, _, _, hf, b, rfl, hib, rfl, rfl⟩
  | _ => exact q
theorem W.forget {c s h s1 h1 Q k} (hf : Forget n0 s h s1 h1) (hw : WK P N n0 c Q s1 h1) : W P N n0 c Q s h k := WP.forget hf hw
theorem W.mono {c s h} {Q Q' : Exit → Slots → Hp → Prop} {k} (hw : WK P N n0 c Q s h) (hq : ∀ e s h, Q e s h → Q' e s h) : W P N n0 c Q' s h k := WP.mono hw hq
/-- A cut: what holds behind a piece of code, whichever way it went. -/
theorem W.cut {x y s h Q k} (M : Slots → Hp → Prop) (hx : WK P N n0 x (thenQ M Q) s h) (hy : ∀ s h, M s h → WK P N n0 y Q s h) : W P N n0 (.seq x y) Q s h k :=
  WP.seq (WP.mono hx fun e s h q => by cases e <;> first | exact hy s h q | exact q)
theorem Forget.mk' {s : Slots} {h : Hp} {s1 : Slots} {h1 : Hp} (h2 : subS s1 s ∧ n0 ≤ h1.length ∧ h1 = h.take h1.length ∧ belowS h1.length s1 = true ∧ belowH h1.length h1 = true) : Forget n0 s h s1 h1 :=
  ⟨subS_spec h2.1, h2.2.1, h2.2.2.1, h2.2.2.2.1, h2.2.2.2.2⟩
attribute [go_sem] subS belowS belowH belowO belowB belowBs List.take_succ_cons List.take_zero List.take_nil
end Go.Vs
