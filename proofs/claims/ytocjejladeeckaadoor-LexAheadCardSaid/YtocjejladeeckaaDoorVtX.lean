import Derived.Test.YtocjejladeeckaaDoorVtL
/-! The rules by which a view is weakened, for the run. -/
set_option linter.unusedVariables false
set_option linter.unusedSectionVars false
set_option linter.unusedSimpArgs false
namespace Go.Vs
variable [Tab]
variable {P : Program} {N n0 : Nat} {h : Hp} {F : List Nat}

@[go_sem] theorem wkS_undef {x : AV} : wkS h F x .undef = True := eq_true (.inr (.inl rfl))
@[go_sem] theorem wkS_self {x : AV} : wkS h F x x = True := eq_true (.inl rfl)
@[go_sem] theorem wkS_int {k k' : IntKind} {a b : Int} : wkS h F (.int k a) (.int k' b) = (k = k' ∧ a = b) := by
  simp [wkS, frz]; exact ⟨fun ⟨a, b⟩ => ⟨a.symm, b.symm⟩, fun ⟨a, b⟩ => ⟨a.symm, b.symm⟩⟩
@[go_sem] theorem wkS_bool {a b : Bool} : wkS h F (.bool a) (.bool b) = (a = b) := by
  simp [wkS, frz]; exact ⟨Eq.symm, Eq.symm⟩
@[go_sem] theorem wkS_str {a b : ByteArray} : wkS h F (.str a) (.str b) = (a = b) := by
  simp [wkS, frz]; exact ⟨Eq.symm, Eq.symm⟩
@[go_sem] theorem wkS_sl {a b : List (List AV)} : wkS h F (.sl a) (.sl b) = (a = b) := by
  simp [wkS, frz]; exact ⟨Eq.symm, Eq.symm⟩
@[go_sem] theorem wkS_nils_sl {b : List (List AV)} : wkS h F .nils (.sl b) = (b = []) := by simp [wkS, frz]
@[go_sem] theorem wkS_emp_sl {b : List (List AV)} : wkS h F .emp (.sl b) = (b = []) := by simp [wkS, frz]
@[go_sem] theorem wkS_nils_emp : wkS h F .nils .emp = True := by simp [wkS]
@[go_sem] theorem wk_emp {x : AV} : wk h F x .emp = wkS h F x .emp := by
  apply propext
  constructor
  · rintro (h1 | ⟨_, _, _, h1, _⟩ | ⟨_, _, _, h1, _⟩)
    · exact h1
    · cases h1
    · cases h1
  · exact .inl
@[go_sem] theorem wkS_nils_msl {b ver off k len cap : Nat} : wkS h F .nils (.msl b ver off k len cap) = (len = 0 ∧ cap = 0) := by
  simp [wkS, frz]
@[go_sem] theorem wkS_msl_sl {b ver off k len cap : Nat} {r : List (List AV)} : wkS h F (.msl b ver off k len cap) (.sl r) = (frz h F (.msl b ver off k len cap) = some r) := by
  simp [wkS]
@[go_sem] theorem wkS_msl {b ver off k len cap b' ver' off' k' len' cap' : Nat} : wkS h F (.msl b ver off k len cap) (.msl b' ver' off' k' len' cap') = (b = b' ∧ ver = ver' ∧ off = off' ∧ k = k' ∧ len = len' ∧ cap = cap') := by
  simp [wkS]
  constructor
  · rintro ⟨rfl, rfl, rfl, rfl, rfl, rfl⟩; exact ⟨rfl, rfl, rfl, rfl, rfl, rfl⟩
  · rintro ⟨rfl, rfl, rfl, rfl, rfl, rfl⟩; exact ⟨rfl, rfl, rfl, rfl, rfl, rfl⟩
@[go_sem] theorem wk_agg {xs ys : List AV} : wk h F (.agg xs) (.agg ys) = wkL h F xs ys := by
  apply propext
  constructor
  · rintro (h1 | ⟨_, _, h1, h2, h3⟩ | ⟨_, _, h1, _⟩)
    · simp [wkS, frz] at h1; subst h1; exact wkL_refl _
    · injection h1 with h1; injection h2 with h2; subst h1; subst h2; exact h3
    · cases h1
  · intro h1; exact .inr (.inl ⟨_, _, rfl, rfl, h1⟩)
@[go_sem] theorem wk_tuple {xs ys : List AV} : wk h F (.tuple xs) (.tuple ys) = wkL h F xs ys := by
  apply propext
  constructor
  · rintro (h1 | ⟨_, _, h1, _⟩ | ⟨_, _, h1, h2, h3⟩)
    · simp [wkS, frz] at h1; subst h1; exact wkL_refl _
    · cases h1
    · injection h1 with h1; injection h2 with h2; subst h1; subst h2; exact h3
  · intro h1; exact .inr (.inr ⟨_, _, rfl, rfl, h1⟩)
@[go_sem] theorem wk_undef {x : AV} : wk h F x .undef = True := eq_true (.inl (.inr (.inl rfl)))
@[go_sem] theorem wk_self {x : AV} : wk h F x x = True := eq_true (.inl (.inl rfl))
theorem wk_scal {x y : AV} (hy : ∀ ys, y ≠ .agg ys) (hy2 : ∀ ys, y ≠ .tuple ys) : wk h F x y = wkS h F x y := by
  apply propext
  constructor
  · rintro (h1 | ⟨_, _, _, h1, _⟩ | ⟨_, _, _, h1, _⟩)
    · exact h1
    · exact absurd h1 (hy _)
    · exact absurd h1 (hy2 _)
  · exact .inl
@[go_sem] theorem wk_int {x : AV} {k' : IntKind} {b : Int} : wk h F x (.int k' b) = wkS h F x (.int k' b) := wk_scal (by simp) (by simp)
@[go_sem] theorem wk_bool {x : AV} {b : Bool} : wk h F x (.bool b) = wkS h F x (.bool b) := wk_scal (by simp) (by simp)
@[go_sem] theorem wk_str {x : AV} {b : ByteArray} : wk h F x (.str b) = wkS h F x (.str b) := wk_scal (by simp) (by simp)
@[go_sem] theorem wk_sl {x : AV} {b : List (List AV)} : wk h F x (.sl b) = wkS h F x (.sl b) := wk_scal (by simp) (by simp)
@[go_sem] theorem wk_msl {x : AV} {b ver off k len cap : Nat} : wk h F x (.msl b ver off k len cap) = wkS h F x (.msl b ver off k len cap) := wk_scal (by simp) (by simp)
@[go_sem] theorem wk_ptr {x : AV} {b ver off : Nat} : wk h F x (.ptr b ver off) = wkS h F x (.ptr b ver off) := wk_scal (by simp) (by simp)
@[go_sem] theorem wk_map {x : AV} {b : Nat} : wk h F x (.map b) = wkS h F x (.map b) := wk_scal (by simp) (by simp)
@[go_sem] theorem wkL_nil : wkL h F [] [] = True := rfl
@[go_sem] theorem wkL_cons {x y : AV} {xs ys : List AV} : wkL h F (x :: xs) (y :: ys) = (wkS h F x y ∧ wkL h F xs ys) := rfl
@[go_sem] theorem wkL_self {xs : List AV} : wkL h F xs xs = True := eq_true (wkL_refl xs)
theorem wkRows_refl : ∀ (rs : List (List AV)), wkRows h F rs rs
  | [] => trivial
  | r :: rs => ⟨wkL_refl r, wkRows_refl rs⟩
@[go_sem] theorem wkRows_self {rs : List (List AV)} : wkRows h F rs rs = True := eq_true (wkRows_refl rs)
@[go_sem] theorem wkRows_app {a b c : List (List AV)} : wkRows h F (a ++ b) (a ++ c) = wkRows h F b c := by
  induction a with
  | nil => rfl
  | cons x a ih => apply propext; simp only [List.cons_append, wkRows, ih]; exact ⟨fun h => h.2, fun h => ⟨wkL_refl _, h⟩⟩
@[go_sem] theorem wkRows_nil : wkRows h F [] [] = True := rfl
@[go_sem] theorem wkRows_cons {x y : List AV} {xs ys : List (List AV)} : wkRows h F (x :: xs) (y :: ys) = (wkL h F x y ∧ wkRows h F xs ys) := rfl
theorem wkRows_of_eq {a b : List (List AV)} (e : a = b) : wkRows h F a b := e ▸ wkRows_refl a
@[go_sem] theorem wkO_dead {b : Nat} {o : LO} : wkO h F b o .dead = True := by cases o <;> rfl
@[go_sem] theorem wkO_cells {b v v' : Nat} {t t' : TypeId} {cs cs' : List AV} : wkO h F b (.cells cs v t) (.cells cs' v' t') = (F.contains b = false ∧ v' = v ∧ t' = t ∧ wkL h F cs cs') := rfl
@[go_sem] theorem wkO_rows {b k k' v v' : Nat} {t t' : TypeId} {cs cs' : List (List AV)} : wkO h F b (.rows cs k v t) (.rows cs' k' v' t') = (F.contains b = false ∧ k' = k ∧ v' = v ∧ t' = t ∧ wkRows h F cs cs') := rfl
@[go_sem] theorem wkO_siter {b p p' : Nat} {s s' : ByteArray} : wkO h F b (.siter s p) (.siter s' p') = (F.contains b = false ∧ s' = s ∧ p' = p) := rfl
@[go_sem] theorem wkO_map {b : Nat} {e e' : List (AV × AV)} : wkO h F b (.map e) (.map e') = (F.contains b = false ∧ e' = e) := rfl
@[go_sem] theorem wkH_nil {b : Nat} {os : Hp} : wkH h F b os [] = True := by cases os <;> rfl
@[go_sem] theorem wkH_cons {b : Nat} {o o' : LO} {os os' : Hp} : wkH h F b (o :: os) (o' :: os') = (wkO h F b o o' ∧ wkH h F (b + 1) os os') := rfl
@[go_sem] theorem wkH_more {b : Nat} {o' : LO} {os' : Hp} : wkH h F b [] (o' :: os') = (emptyO o' = true ∧ wkH h F (b + 1) [] os') := rfl
@[go_sem] theorem wkSl_nil {s : Slots} : wkSl h F s [] = True := rfl
@[go_sem] theorem wkSl_cons {s s1 : Slots} {t : Nat} {v : AV} : wkSl h F s ((t, v) :: s1) = (wk h F (s.get t) v ∧ wkSl h F s s1) := rfl
theorem atP_iff {s1 : Slots} {h1 : Hp} {s : Slots} : AT n0 F s1 h1 s h = atP n0 F s1 h1 s h := propext ⟨fun ha => ⟨ha.2, ha.1.fr, ha.1.len, ha.1.sl, ha.1.hp, ha.1.blk, ha.1.sub⟩, AT.of⟩
@[go_sem] theorem atP_eq {s1 : Slots} {h1 : Hp} {s : Slots} : AT n0 F s1 h1 s h = (F.all (fun b => match h[b]? with | some o => o.live | none => false) = true ∧ F.all (fun b => decide (b < h.length)) = true ∧ n0 ≤ h1.length ∧ belowS h1.length s1 = true ∧ belowH h1.length h1 = true ∧ wkH h F 0 h h1 ∧ wkSl h F s s1) := atP_iff
attribute [go_sem] LO.live

/-- The end of a body, reckoned: what is frozen there is told. -/
def endP (P : Program) (fn : Func) (h : Hp) (F : List Nat) (l : List AV) (r : AV) : Prop := F.all (fun b => liveB h b) = true ∧ wk h F (one? l) r ∧ pureB r = true
theorem EndsF.retW {fn : Func} {r : AV} {s h} (F : List Nat) (hr : onS (resOf P s h fn.results.toList) fun l => (F.all (fun b => liveB h b) = true ∧ pureB r = true ∧ wk h F (one? l) r)) : EndsF P fn r .ret s h := by
  obtain ⟨x, hx, h1, h2, h3⟩ := onS_inv hr
  exact ⟨.inr rfl, x, hx, FR.of_wk h1 h3 h2⟩
theorem EndsF.normalW {fn : Func} {r : AV} {s h} (F : List Nat) (hr : onS (resOf P s h fn.results.toList) fun l => (F.all (fun b => liveB h b) = true ∧ pureB r = true ∧ wk h F (one? l) r)) : EndsF P fn r .normal s h := by
  obtain ⟨x, hx, h1, h2, h3⟩ := onS_inv hr
  exact ⟨.inl rfl, x, hx, FR.of_wk h1 h3 h2⟩
attribute [go_sem] Option.map_none Option.isSome_some Option.bind_none eq_self decide_true decide_false List.range_zero List.append_eq List.cons_append List.nil_append beq_self_eq_true Bool.not_true Bool.not_false Bool.true_or Bool.false_or Bool.or_true Bool.or_false Bool.true_and Bool.false_and Bool.and_false rowOk pureBs List.contains_nil List.contains_cons implies_true List.map_nil List.headD_cons cond_true cond_false
attribute [go_sem] liveB frz apA apI srcA Nat.le_refl mkA mslA slH slA bndsA bndO nextA strS tasA ixStr fdA evStr strAdd rows1_nil rows1_cons rows1_append nilEq scalT scalB

/-! ### What the plain functions are built of -/
/-- An element. -/
def rd {α : Type} [Inhabited α] (l : List α) (i : Int) : α := l.getD i.toNat default
theorem rd_some {α : Type} [Inhabited α] {l : List α} {i : Int} (h : InB i l.length) : l[i.toNat]? = some (rd l i) := by
  rw [rd, List.getD_eq_getElem?_getD, List.getElem?_eq_getElem h.2]; rfl
@[go_sem] theorem map_rd {α β : Type} [Inhabited α] {f : α → β} {l : List α} {i : Int} (h : InB i l.length) : (l.map f)[i.toNat]? = some (f (rd l i)) := by
  rw [List.getElem?_map, rd_some h]; rfl
@[go_sem] theorem map_take' {α β : Type} {f : α → β} {l : List α} {n : Nat} : (l.map f).take n = (l.take n).map f := List.map_take.symm
@[go_sem] theorem map_drop' {α β : Type} {f : α → β} {l : List α} {n : Nat} : (l.map f).drop n = (l.drop n).map f := List.map_drop.symm
@[go_sem] theorem map_app' {α β : Type} {f : α → β} {l l' : List α} : (l ++ l').map f = l.map f ++ l'.map f := List.map_append
@[go_sem] theorem map_set' {α β : Type} {f : α → β} {l : List α} {n : Nat} {a : α} : (l.set n a).map f = (l.map f).set n (f a) := List.map_set
@[go_sem] theorem map_len' {α β : Type} {f : α → β} {l : List α} : (l.map f).length = l.length := List.length_map ..
@[go_sem] theorem map_rep' {α β : Type} {f : α → β} {n : Nat} {a : α} : (List.replicate n a).map f = List.replicate n (f a) := List.map_replicate
attribute [go_sem] List.length_append List.length_set List.length_replicate List.take_length Nat.zero_add Nat.add_zero List.append_nil Nat.sub_zero
@[go_sem] theorem take_all {α : Type} {l : List α} {n : Nat} (h : l.length = n) : l.take n = l := by subst h; exact List.take_length
theorem exB {K : Bool → Prop} {k : Hold K} (own : Bool) (hk : K own) : exP (fun _ : Bool => True) K k := ⟨own, trivial, hk⟩
theorem of_ite {α : Type} {p : Prop} [Decidable p] {x : Option α} {r : α} (h : (if p then x else none) = some r) : p ∧ x = some r := by
  split at h
  · exact ⟨by assumption, h⟩
  · cases h
theorem of_bind {α β : Type} {x : Option α} {f : α → Option β} {r : β} (h : x.bind f = some r) : ∃ a, x = some a ∧ f a = some r := Option.bind_eq_some_iff.1 h
theorem of_true {α : Type} {b : Bool} {x y z : α} (hb : b = true) (h : (if b = true then x else y) = z) : x = z := by rw [if_pos hb] at h; exact h
theorem of_false {α : Type} {b : Bool} {x y z : α} (hb : b = false) (h : (if b = true then x else y) = z) : y = z := by rw [hb] at h; exact h
end Go.Vs
