import Derived.Test.YtocjejladeeckaaDoorVtH
/-! Forgetting, and loops. -/
set_option linter.unusedVariables false
set_option linter.unusedSectionVars false
set_option linter.unusedSimpArgs false
namespace Go.Vs
variable [Tab]
variable {P : Program} {N n0 : Nat}

mutual
def belowB (n : Nat) : AV → Bool
  | .ptr b _ _ => decide (b < n)
  | .eptr b _ _ _ _ => decide (b < n)
  | .msl b _ _ _ _ _ => decide (b < n)
  | .map b => decide (b < n)
  | .func _ f c => belowBs n f && belowBs n c
  | .iface _ v => belowB n v
  | .agg cs => belowBs n cs
  | .tuple vs => belowBs n vs
  | _ => true
def belowBs (n : Nat) : List AV → Bool
  | [] => true
  | x :: xs => belowB n x && belowBs n xs
end
theorem belowBs_get {n : Nat} {cs : List AV} (h : belowBs n cs = true) : ∀ (j : Nat) x, cs[j]? = some x → belowB n x = true := by
  induction cs with
  | nil => intro j x hj; simp at hj
  | cons a as ih =>
    intro j x hj
    simp only [belowBs, Bool.and_eq_true] at h
    cases j with
    | zero => simp at hj; subst hj; exact h.1
    | succ j => exact ih h.2 j x (by simpa using hj)
def cut (n : Nat) (ι : Io) : Io := fun b => if b < n then ι b else none
theorem VR.cutB {I w ι x v} {n : Nat} (h : VR I w ι x v) (hx : belowB n x = true) : VR I w (cut n ι) x v := by
  induction h with
  | undef => exact .undef
  | bool b => exact .bool b
  | int k n => exact .int k n
  | str s => exact .str s
  | nilp => exact .nilp
  | nilmap => exact .nilmap
  | nilfn => exact .nilfn
  | nili => exact .nili
  | nils => exact .nils
  | emp => exact .emp
  | ptr c cur sz h hv hc => simp only [belowB, decide_eq_true_eq] at hx; exact .ptr c cur sz (by simp [cut, hx, h]) hv hc
  | eptr c cur sz h hv hc => simp only [belowB, decide_eq_true_eq] at hx; exact .eptr c cur sz (by simp [cut, hx, h]) hv hc
  | mslnil => exact .mslnil
  | iptr c base hI hs hv => exact .iptr c base hI hs hv
  | sl0 => exact .sl0
  | sl esz c off cap hI hn hcap hl hs hv => exact .sl esz c off cap hI hn hcap hl hs hv
  | msl c cur sz h hv hc => simp only [belowB, decide_eq_true_eq] at hx; exact .msl c cur sz (by simp [cut, hx, h]) hv hc
  | map c h => simp only [belowB, decide_eq_true_eq] at hx; exact .map c (by simp [cut, hx, h])
  | func h1 h2 _ _ ih3 ih4 =>
    simp only [belowB, Bool.and_eq_true] at hx
    exact .func h1 h2 (fun j x y a b => ih3 j x y a b (belowBs_get hx.1 j x a)) (fun j x y a b => ih4 j x y a b (belowBs_get hx.2 j x a))
  | iface _ ih => exact .iface (ih (by simpa [belowB] using hx))
  | agg hl _ ih => exact .agg hl (fun j x y a b => ih j x y a b (belowBs_get (by simpa [belowB] using hx) j x a))
  | tuple hl _ ih => exact .tuple hl (fun j x y a b => ih j x y a b (belowBs_get (by simpa [belowB] using hx) j x a))

def belowO (n : Nat) : LO → Bool
  | .cells cs _ _ => belowBs n cs
  | .rows rs _ _ _ => rs.all (belowBs n)
  | .map es => es.all fun e => belowB n e.1 && belowB n e.2
  | _ => true
def belowH (n : Nat) (h : Hp) : Bool := h.all (belowO n)
def belowS (n : Nat) (s : Slots) : Bool := s.all fun p => belowB n p.2
theorem belowS_get {n : Nat} {s : Slots} (h : belowS n s = true) (t : Nat) : belowB n (s.get t) = true := by
  induction s with
  | nil => simp [Slots.get, belowB]
  | cons p s ih =>
    simp only [belowS, List.all_cons, Bool.and_eq_true] at h
    obtain ⟨i, v⟩ := p
    simp only [Slots.get]
    split
    · exact h.1
    · exact ih h.2


/-! ### A view that says less, of all that there is -/
def wkRows (h : Hp) (F : List Nat) : List (List AV) → List (List AV) → Prop
  | [], [] => True
  | x :: xs, y :: ys => wkL h F x y ∧ wkRows h F xs ys
  | _, _ => False
theorem wkRows_get {h F} : ∀ {xs ys : List (List AV)}, wkRows h F xs ys → xs.length = ys.length ∧ ∀ (j : Nat) y, ys[j]? = some y → ∃ x, xs[j]? = some x ∧ wkL h F x y
  | [], [], _ => ⟨rfl, by simp⟩
  | x :: xs, y :: ys, hw => by
    obtain ⟨h1, h2⟩ := wkRows_get hw.2
    refine ⟨by simp [h1], fun j z hz => ?_⟩
    cases j with
    | zero => simp at hz; subst hz; exact ⟨x, rfl, hw.1⟩
    | succ j => exact h2 j z (by simpa using hz)
  | [], _ :: _, hw => hw.elim
  | _ :: _, [], hw => hw.elim
/-- One block's view says no more than another's. -/
def wkO (h : Hp) (F : List Nat) (b : Nat) : LO → LO → Prop
  | o, .dead => True
  | .cells cs v t, .cells cs' v' t' => F.contains b = false ∧ v' = v ∧ t' = t ∧ wkL h F cs cs'
  | .rows rs k v t, .rows rs' k' v' t' => F.contains b = false ∧ k' = k ∧ v' = v ∧ t' = t ∧ wkRows h F rs rs'
  | .siter s p, .siter s' p' => F.contains b = false ∧ s' = s ∧ p' = p
  | .map es, .map es' => F.contains b = false ∧ es' = es
  | _, _ => False
/-- Blocks one behind the other. -/
def emptyO : LO → Bool
  | .dead => true
  | .rows [] _ 0 _ => true
  | _ => false
def wkH (h : Hp) (F : List Nat) : Nat → Hp → Hp → Prop
  | _, _, [] => True
  | b, o :: os, o' :: os' => wkO h F b o o' ∧ wkH h F (b + 1) os os'
  | b, [], o' :: os' => emptyO o' = true ∧ wkH h F (b + 1) [] os'
theorem wkH_get {h F} : ∀ {os os' : Hp} {b : Nat}, wkH h F b os os' → ∀ (j : Nat) o', os'[j]? = some o' → (∃ o, os[j]? = some o ∧ wkO h F (b + j) o o') ∨ (os.length ≤ j ∧ emptyO o' = true)
  | os, [], b, _ => by simp
  | o :: os, o' :: os', b, hw => by
    have h2 := wkH_get hw.2
    intro j z hz
    cases j with
    | zero => simp at hz; subst hz; exact .inl ⟨o, rfl, hw.1⟩
    | succ j =>
      rcases h2 j z (by simpa using hz) with ⟨x, hx, hx2⟩ | ⟨h3, h4⟩
      · exact .inl ⟨x, by simpa using hx, by rw [show b + (j + 1) = b + 1 + j by omega]; exact hx2⟩
      · exact .inr ⟨by simp only [List.length_cons]; omega, h4⟩
  | [], o' :: os', b, hw => by
    have h2 := wkH_get hw.2
    intro j z hz
    cases j with
    | zero => simp at hz; subst hz; exact .inr ⟨by simp, hw.1⟩
    | succ j =>
      rcases h2 j z (by simpa using hz) with ⟨x, hx, hx2⟩ | ⟨h3, h4⟩
      · simp at hx
      · exact .inr ⟨by simp, h4⟩
theorem emptyO_live {o : LO} (h : emptyO o = true) : o.born = false := by
  unfold emptyO at h; split at h <;> first | rfl | cases h
/-- All that the shorter view says stands in the longer one. -/
def wkSl (h : Hp) (F : List Nat) (s : Slots) : Slots → Prop
  | [] => True
  | (t, v) :: s1 => wk h F (s.get t) v ∧ wkSl h F s s1
theorem wkSl_get {h F s} : ∀ {s1 : Slots}, wkSl h F s s1 → ∀ t, wk h F (s.get t) (s1.get t)
  | [], _, t => .inl (.inr (.inl rfl))
  | (i, v) :: s1, hw, t => by
    simp only [Slots.get]
    split
    · rename_i e; subst e; exact hw.1
    · exact wkSl_get hw.2 t

/-- The view (s1, h1) says less than (s, h); the blocks of F are frozen. -/
structure Weak (n0 : Nat) (F : List Nat) (s : Slots) (h : Hp) (s1 : Slots) (h1 : Hp) : Prop where
  fr : F.all (fun b => decide (b < h.length)) = true
  sub : wkSl h F s s1
  len : n0 ≤ h1.length
  blk : wkH h F 0 h h1
  sl : belowS h1.length s1 = true
  hp : belowH h1.length h1 = true

theorem Weak.rel {F s h s1 h1 I ι w} (hf : Weak n0 F s h s1 h1) (hfr : ∀ b, h.length ≤ b → ι b = none) (hr : Rel I ι h w) : Rel (IF I ι F) (cut h1.length ι) h1 w := by
  have hF : ∀ b, F.contains b = true → b < h.length := fun b hb => by
    have := (List.all_eq_true.1 hf.fr) b (by simpa using hb); simpa using this
  have hget := wkH_get hf.blk
  simp only [Nat.zero_add] at hget
  have own1 : ∀ c, Own (cut h1.length ι) h1 c → Own ι h c ∧ ∃ b cur sz, F.contains b = false ∧ ι b = some (c, cur, sz) := by
    rintro c ⟨b, o', u, s', h2, h3, h4⟩
    have hb : b < h1.length := (List.getElem?_eq_some_iff.1 h2).1
    have hι : ι b = some (c, u, s') := by simpa [cut, hb] using h4
    rcases hget b o' h2 with ⟨o, ho, hw⟩ | ⟨h5, _⟩
    rotate_left
    · rw [hfr b h5] at hι; cases hι
    have : o.live = true ∧ F.contains b = false := by
      cases o' with
      | dead => cases h3
      | cells cs v t => cases o <;> first | exact hw.elim | exact ⟨rfl, hw.1⟩
      | rows rs k v t => cases o <;> first | exact hw.elim | exact ⟨rfl, hw.1⟩
      | siter s p => cases o <;> first | exact hw.elim | exact ⟨rfl, hw.1⟩
      | map es => cases o <;> first | exact hw.elim | exact ⟨rfl, hw.1⟩
    exact ⟨⟨b, o, u, s', ho, this.1, hι⟩, b, u, s', this.2, hι⟩
  have up : ∀ {x v}, VR I w ι x v → VR (IF I ι F) w ι x v := fun hv => hv.mono (fun _ h => .inl h) (fun _ _ => rfl) ι (fun b => (Moved.refl ι b).1) (fun b => (Moved.refl ι b).2)
  refine ⟨?_, ?_, hr.tab.mono (fun _ h => .inl h) (fun _ _ => rfl), ?_, ?_, ?_, ?_, ?_⟩
  · intro b x o' hx ho'
    have hb : b < h1.length := (List.getElem?_eq_some_iff.1 ho').1
    have hx' : ι b = some x := by simpa [cut, hb] using hx
    rcases hget b o' ho' with ⟨o, ho, hw⟩ | ⟨h5, _⟩
    rotate_left
    · rw [hfr b h5] at hx'; cases hx'
    have hreal := hr.real b x o hx' ho
    have hob : belowO h1.length o' = true := (List.all_eq_true.1 hf.hp) o' (List.mem_of_getElem? ho')
    obtain ⟨c, cur, sz⟩ := x
    cases o' with
    | dead => trivial
    | cells cs' v' t' =>
      cases o with
      | cells cs v t =>
        obtain ⟨_, rfl, rfl, hcs⟩ := hw
        obtain ⟨e, arr, q1, q2, q3, q4⟩ := hreal
        obtain ⟨g1, g2⟩ := wkL_get hcs
        refine ⟨e, arr, q1, q2, by omega, fun j x y hj hy => ?_⟩
        obtain ⟨x0, hx0, hw0⟩ := g2 j x hj
        exact (VR.wkS hr hF (q4 j x0 y hx0 hy) hw0).cutB (belowBs_get hob j x hj)
      | _ => exact hw.elim
    | rows rs' k' v' t' =>
      cases o with
      | rows rs k v t =>
        obtain ⟨_, rfl, rfl, rfl, hcs⟩ := hw
        obtain ⟨e, e0, arr, q1, q2, q3, q5, q4⟩ := hreal
        have hbr : ∀ (i : Nat) r, rs'[i]? = some r → belowBs h1.length r = true := fun i r hi => (List.all_eq_true.1 hob) r (List.mem_of_getElem? hi)
        obtain ⟨g1, g2⟩ := wkRows_get hcs
        refine ⟨e, e0, arr, q1, q2, by rw [← g1]; exact q3, fun i r hi => ?_, fun i r j x y hi hj hy => ?_⟩
        · obtain ⟨r0, hr0, hw0⟩ := g2 i r hi
          rw [← (wkL_get hw0).1]; exact q5 i r0 hr0
        · obtain ⟨r0, hr0, hw0⟩ := g2 i r hi
          obtain ⟨x0, hx0, hw1⟩ := (wkL_get hw0).2 j x hj
          exact (VR.wkS hr hF (q4 i r0 j x0 y hr0 hx0 hy) hw1).cutB (belowBs_get (hbr i r hi) j x hj)
      | _ => exact hw.elim
    | siter s p =>
      cases o with
      | siter s0 p0 => obtain ⟨_, rfl, rfl⟩ := hw; exact hreal
      | _ => exact hw.elim
    | map es =>
      cases o with
      | map es0 =>
        obtain ⟨_, rfl⟩ := hw
        obtain ⟨e1, e2, ents, clock, q1, q2, q3, q4, q5⟩ := hreal
        refine ⟨e1, e2, ents, clock, q1, q2, q3, q4, fun j x e hj he => ?_⟩
        have := (List.all_eq_true.1 hob) x (List.mem_of_getElem? hj)
        simp only [Bool.and_eq_true] at this
        exact ⟨(up (q5 j x e hj he).1).cutB this.1, (up (q5 j x e hj he).2).cutB this.2⟩
      | _ => exact hw.elim
  · intro b o' ho' hl
    have hb : b < h1.length := (List.getElem?_eq_some_iff.1 ho').1
    simp only [cut, hb, if_true]
    rcases hget b o' ho' with ⟨o, ho, hw⟩ | ⟨h5, h6⟩
    rotate_left
    · rw [emptyO_live h6] at hl; cases hl
    refine hr.dom b o ho ?_
    cases o' with
    | dead => cases hl
    | cells cs v t => cases o <;> first | exact hw.elim | rfl
    | rows rs' k v t =>
      cases o with
      | rows rs k0 v0 t0 =>
        obtain ⟨_, _, _, _, hcs⟩ := hw
        cases rs with
        | nil => cases rs' with
          | nil => simp [LO.born] at hl
          | cons r rs' => exact hcs.elim
        | cons r rs => rfl
      | _ => exact hw.elim
    | siter s p => cases o <;> first | exact hw.elim | rfl
    | map es => cases o <;> first | exact hw.elim | rfl
  · intro b b' x x' hx hx' e
    simp only [cut] at hx hx'
    split at hx
    · split at hx'
      · exact hr.inj b b' x x' hx hx' e
      · cases hx'
    · cases hx
  · intro c hc hI
    obtain ⟨ho, b, cur, sz, hbF, hb⟩ := own1 c hc
    rcases hI with hI | ⟨b', cur', sz', hb'F, hb'⟩
    · exact hr.sep c ho hI
    · have := hr.inj b b' _ _ hb hb' rfl
      subst this; rw [hbF] at hb'F; cases hb'F
  · intro b x hb hx; simp [cut] at hx; omega
  · intro b x hx; simp only [cut] at hx; split at hx
    · exact hr.lt b x hx
    · cases hx
  · intro c hc
    rcases hc with hc | ⟨b, cur, sz, _, hb⟩
    · exact hr.ilt c hc
    · exact hr.lt b _ hb
theorem Weak.ar {F s h s1 h1 I ι w a} (hf : Weak n0 F s h s1 h1) (hr : Rel I ι h w) (ar : AR I w ι N s a) : AR (IF I ι F) w (cut h1.length ι) N s1 a := by
  have hF : ∀ b, F.contains b = true → b < h.length := fun b hb => by
    have := (List.all_eq_true.1 hf.fr) b (by simpa using hb); simpa using this
  exact ⟨ar.size, fun t => (VR.wk hr hF (ar.get t) (wkSl_get hf.sub t)).cutB (belowS_get hf.sl t), ar.defers⟩
/-- What was so of the lesser view is so of the greater one's world. -/
theorem Weak.out {F s h s1 h1 I ι w I' ι' h' w'} (hf : Weak n0 F s h s1 h1) (hfr : ∀ b, h.length ≤ b → ι b = none) (hfrz : ∀ b, F.contains b = true → ∃ o, h[b]? = some o ∧ o.live = true) (hr : Rel I ι h w) (out : Out n0 (IF I ι F) (cut h1.length ι) h1 w I' ι' h' w') : Out n0 I ι h w I' ι' h' w' := by
  have hget := wkH_get hf.blk
  simp only [Nat.zero_add] at hget
  have own1 : ∀ c, Own (cut h1.length ι) h1 c → Own ι h c := by
    rintro c ⟨b, o', u, s', h2, h3, h4⟩
    have hb : b < h1.length := (List.getElem?_eq_some_iff.1 h2).1
    have hι : ι b = some (c, u, s') := by simpa [cut, hb] using h4
    rcases hget b o' h2 with ⟨o, ho, hw⟩ | ⟨h5, _⟩
    rotate_left
    · rw [hfr b h5] at hι; cases hι
    refine ⟨b, o, u, s', ho, ?_, hι⟩
    cases o' with
    | dead => cases h3
    | cells cs v t => cases o <;> first | exact hw.elim | rfl
    | rows rs k v t => cases o <;> first | exact hw.elim | rfl
    | siter s p => cases o <;> first | exact hw.elim | rfl
    | map es => cases o <;> first | exact hw.elim | rfl
  refine ⟨out.rel, out.fresh, ⟨out.keep.os, out.keep.tape, out.keep.output, out.keep.size, fun c hc hn => out.keep.block c hc fun ho => hn (own1 c ho)⟩, fun c hc => out.imm c (.inl hc), ?_, ?_, ?_, out.len⟩
  · intro c hc
    rcases out.new c hc with h | h | h
    · rcases h with h | ⟨b, cur, sz, hbF, hb⟩
      · exact .inl h
      · obtain ⟨o, ho, hl⟩ := hfrz b hbF
        exact .inr (.inr ⟨b, o, cur, sz, ho, hl, hb⟩)
    · exact .inr (.inl h)
    · exact .inr (.inr (own1 c h))
  · intro c hc
    exact (out.own c hc).imp (own1 c) id
  · intro b hb
    have hlt : b < h1.length := Nat.lt_of_lt_of_le hb hf.len
    have := out.moved b hb
    have e : cut h1.length ι b = ι b := by simp [cut, hlt]
    exact ⟨fun c u s hc => this.1 c u s (e.trans hc), fun c hc => this.2 c (e.trans hc)⟩

/-- A view says less, in the words of a run. -/
def AT (n0 : Nat) (F : List Nat) (s1 : Slots) (h1 : Hp) (s : Slots) (h : Hp) : Prop := Weak n0 F s h s1 h1 ∧ F.all (fun b => match h[b]? with | some o => o.live | none => false) = true
theorem AT.frz {F s1 h1 s h} (ha : AT n0 F s1 h1 s h) : ∀ b, F.contains b = true → ∃ o, h[b]? = some o ∧ o.live = true := by
  intro b hb
  have := (List.all_eq_true.1 ha.2) b (by simpa using hb)
  split at this
  · rename_i o ho; exact ⟨o, ho, this⟩
  · cases this
/-- The forms that the run meets. -/
def atP (n0 : Nat) (F : List Nat) (s1 : Slots) (h1 : Hp) (s : Slots) (h : Hp) : Prop :=
  F.all (fun b => match h[b]? with | some o => o.live | none => false) = true ∧ F.all (fun b => decide (b < h.length)) = true ∧ n0 ≤ h1.length ∧ belowS h1.length s1 = true ∧ belowH h1.length h1 = true ∧ wkH h F 0 h h1 ∧ wkSl h F s s1
theorem AT.of {F s1 h1 s h} (ha : atP n0 F s1 h1 s h) : AT n0 F s1 h1 s h := ⟨⟨ha.2.1, ha.2.2.2.2.2.2, ha.2.2.1, ha.2.2.2.2.2.1, ha.2.2.2.1, ha.2.2.2.2.1⟩, ha.1⟩

theorem WP.weak {c s h s1 h1 Q F} (hf : AT n0 F s1 h1 s h) (hw : WP P N n0 c s1 h1 Q) : WP P N n0 c s h Q := by
  intro I ι w a hr hfr hn ar
  refine wp_mono (hw (IF I ι F) (cut h1.length ι) w a (hf.1.rel hfr hr) (fun b hb => by simp [cut]; omega) hf.1.len (hf.1.ar hr ar)) fun e a' w' ⟨I', ι', s', h', q, out, ar'⟩ => ?_
  exact ⟨I', ι', s', h', q, hf.1.out hfr hf.frz hr out, ar'⟩
theorem WP.weakN {c s h} {K : Slots → Hp → Prop} {Q : Exit → Slots → Hp → Prop} (hw : WP P N n0 c s h (thenQ (fun s' h' => ∃ F s1 h1, AT n0 F s1 h1 s' h' ∧ K s1 h1) Q)) : WP P N n0 c s h (thenQ K Q) := by
  intro I ι w a hr hfr hn ar
  refine wp_mono (hw I ι w a hr hfr hn ar) fun e a' w' ⟨I', ι', s', h', q, out, ar'⟩ => ?_
  cases e with
  | normal =>
    obtain ⟨F, s1, h1, hf, q⟩ := q
    have o2 : Out n0 I' ι' h' w' (IF I' ι' F) (cut h1.length ι') h1 w' := hf.1.out out.fresh hf.frz out.rel (Out.refl (hf.1.rel out.fresh out.rel) (fun b hb => by simp [cut]; omega) hf.1.len)
    exact ⟨IF I' ι' F, cut h1.length ι', s1, h1, q, out.trans o2, hf.1.ar out.rel ar'⟩
  | _ => exact ⟨I', ι', s', h', q, out, ar'⟩
theorem WP.weakQ {c s h} {Q : Exit → Slots → Hp → Prop} (hw : WP P N n0 c s h fun e s' h' => ∃ F s1 h1, AT n0 F s1 h1 s' h' ∧ Q e s1 h1) : WP P N n0 c s h Q := by
  intro I ι w a hr hfr hn ar
  refine wp_mono (hw I ι w a hr hfr hn ar) fun e a' w' ⟨I', ι', s', h', ⟨F, s1, h1, hf, q⟩, out, ar'⟩ => ?_
  have o2 : Out n0 I' ι' h' w' (IF I' ι' F) (cut h1.length ι') h1 w' := hf.1.out out.fresh hf.frz out.rel (Out.refl (hf.1.rel out.fresh out.rel) (fun b hb => by simp [cut]; omega) hf.1.len)
  exact ⟨IF I' ι' F, cut h1.length ι', s1, h1, q, out.trans o2, hf.1.ar out.rel ar'⟩

/-! ### Loops whose rounds a plain function tells -/
def loopF {α R : Type} (step : α → Option (α ⊕ R)) : Nat → α → Option R
  | 0, _ => none
  | n + 1, a => match step a with
    | none => none
    | some (.inr r) => some r
    | some (.inl a') => loopF step n a'
theorem loopF_mono {α R : Type} {step : α → Option (α ⊕ R)} : ∀ {n m : Nat} {a : α} {r : R}, n ≤ m → loopF step n a = some r → loopF step m a = some r
  | 0, _, _, _, _, h => by simp [loopF] at h
  | n + 1, 0, _, _, hle, _ => by omega
  | n + 1, m + 1, a, r, hle, h => by
    simp only [loopF] at h ⊢
    split at h
    · cases h
    · exact h
    · exact loopF_mono (by omega) h
open Classical in
/-- What a loop comes to. -/
noncomputable def loopO {α R : Type} (step : α → Option (α ⊕ R)) (a : α) : Option R :=
  if h : ∃ r n, loopF step n a = some r then some h.choose else none
theorem loopO_iff {α R : Type} {step : α → Option (α ⊕ R)} {a : α} {r : R} : loopO step a = some r ↔ ∃ n, loopF step n a = some r := by
  unfold loopO
  constructor
  · intro h
    split at h
    · rename_i hex
      obtain rfl := Option.some.inj h
      exact hex.choose_spec
    · cases h
  · rintro ⟨n, hn⟩
    have hex : ∃ r n, loopF step n a = some r := ⟨r, n, hn⟩
    rw [dif_pos hex]
    obtain ⟨m, hm⟩ := hex.choose_spec
    have h1 := loopF_mono (Nat.le_max_left n m) hn
    have h2 := loopF_mono (Nat.le_max_right n m) hm
    rw [h1] at h2
    exact h2.symm
theorem loopO_of {α R : Type} {step : α → Option (α ⊕ R)} {a : α} {r : R} (n : Nat) (h : loopF step n a = some r) : loopO step a = some r := loopO_iff.2 ⟨n, h⟩
theorem loopO_inl {α R : Type} {step : α → Option (α ⊕ R)} {a a' : α} (h : step a = some (.inl a')) : loopO step a = loopO step a' := by
  apply Option.ext
  intro r
  rw [loopO_iff, loopO_iff]
  constructor
  · rintro ⟨n, hn⟩
    cases n with
    | zero => simp [loopF] at hn
    | succ n => simp only [loopF, h] at hn; exact ⟨n, hn⟩
  · rintro ⟨n, hn⟩
    exact ⟨n + 1, by simp only [loopF, h]; exact hn⟩
theorem loopO_inr {α R : Type} {step : α → Option (α ⊕ R)} {a : α} {r : R} (h : step a = some (.inr r)) : loopO step a = some r := loopO_of 1 (by simp [loopF, h])
theorem loopO_none {α R : Type} {step : α → Option (α ⊕ R)} {a : α} (h : step a = none) : loopO step a = none := by
  cases e : loopO step a with
  | none => rfl
  | some r =>
    obtain ⟨n, hn⟩ := loopO_iff.1 e
    cases n <;> simp [loopF, h] at hn

theorem W.loopM {c s h} {Q : Exit → Slots → Hp → Prop} {k} {α V R : Type} {step : α → Option (α ⊕ R)} (S : α → V → Slots × Hp) {a0 : α} (v0 : V) {r0 : R} (hl : loopO step a0 = some r0) (F : List Nat) (h0 : AT n0 F (S a0 v0).1 (S a0 v0).2 s h)
    (round : ∀ a v x, step a = some x → (∀ r, x = .inr r → r = r0) → WK P N n0 c (thenQ (fun s' h' => ∃ a' v' F, x = .inl a' ∧ AT n0 F (S a' v').1 (S a' v').2 s' h') Q) (S a v).1 (S a v).2) : W P N n0 (.loop c) Q s h k := by
  refine WP.weak h0 ?_
  obtain ⟨n, hn⟩ := loopO_iff.1 hl
  refine WP.loop (fun m s h => ∃ a v, loopF step m a = some r0 ∧ s = (S a v).1 ∧ h = (S a v).2) n ⟨a0, v0, hn, rfl, rfl⟩ ?_
  rintro m s h ⟨a, v, hm, rfl, rfl⟩
  cases m with
  | zero => simp [loopF] at hm
  | succ m =>
    simp only [loopF] at hm
    cases hx : step a with
    | none => rw [hx] at hm; cases hm
    | some x =>
      rw [hx] at hm
      have hr := round a v x hx (fun r e => by subst e; simpa using hm)
      refine WP.weakN (WP.mono hr fun e s' h' q => ?_)
      cases e with
      | normal =>
        obtain ⟨a', v', F', rfl, hat⟩ := q
        exact ⟨F', _, _, hat, m, Nat.lt_succ_self m, a', v', hm, rfl, rfl⟩
      | _ => exact q
theorem W.weak {c s h s1 h1 Q k} (F : List Nat) (hf : AT n0 F s1 h1 s h) (hw : WK P N n0 c Q s1 h1) : W P N n0 c Q s h k := WP.weak hf hw
theorem W.mono {c s h} {Q Q' : Exit → Slots → Hp → Prop} {k} (hw : WK P N n0 c Q s h) (hq : ∀ e s h, Q e s h → Q' e s h) : W P N n0 c Q' s h k := WP.mono hw hq
/-- A cut: what holds behind a piece of code, whichever way it went. -/
theorem W.cut {x y s h Q k} (M : Slots → Hp → Prop) (hx : WK P N n0 x (thenQ M Q) s h) (hy : ∀ s h, M s h → WK P N n0 y Q s h) : W P N n0 (.seq x y) Q s h k :=
  WP.seq (WP.mono hx fun e s h q => by cases e <;> first | exact hy s h q | exact q)
/-- A region at the end of a piece of code. -/
theorem W.regL {id} {l : List Oper} {s h Q k} (F : List Nat) (s1 : Slots) (h1 : Hp) (hN : dstOk N l.toArray = true) (hrun : RunE P l.toArray (fun s h => AT n0 F s1 h1 s h) l s h (held _)) (hy : Q .normal s1 h1) : W P N n0 (.region id l.toArray false) Q s h k := by
  have := WP.weakN (K := Q .normal) (Q := Q) (WP.mono (W.region (P := P) (N := N) (n0 := n0) (id := id) (k := held _) (Q := thenQ (fun s h => AT n0 F s1 h1 s h) (fun _ _ _ => False)) hN hrun) fun e s h q => by
    cases e with
    | normal => exact ⟨F, s1, h1, q, hy⟩
    | _ => exact q.elim)
  exact WP.mono this fun e s h q => by cases e <;> exact q
/-- A region, and what is seen behind it. -/
theorem W.seqR {id} {l : List Oper} {y s h Q k} (F : List Nat) (s1 : Slots) (h1 : Hp) (hN : dstOk N l.toArray = true) (hrun : RunE P l.toArray (fun s h => AT n0 F s1 h1 s h) l s h (held _)) (hy : WK P N n0 y Q s1 h1) : W P N n0 (.seq (.region id l.toArray false) y) Q s h k :=
  WP.seq (WP.mono (W.region (k := held _) (Q := thenQ (fun s h => AT n0 F s1 h1 s h) (fun _ _ _ => False)) hN hrun) fun e s h q => by
    cases e with
    | normal => exact WP.weak q hy
    | _ => exact q.elim)
attribute [go_sem] emptyO belowS belowH belowO belowB belowBs List.take_succ_cons List.take_zero List.take_nil
end Go.Vs
