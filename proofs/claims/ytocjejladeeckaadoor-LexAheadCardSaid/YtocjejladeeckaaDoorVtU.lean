import Derived.Test.YtocjejladeeckaaDoorVtS
import Derived.Laws.RangeString
import Derived.Laws.BytesString
import Derived.Lib.OthersKept
/-! More operations on what the call owns: made, cut, gone over. -/
set_option linter.unusedVariables false
set_option linter.unusedSectionVars false
set_option linter.unusedSimpArgs false
namespace Go.Vs
variable [Tab]
variable {P : Program}

/-- What fits into a slice. -/
def Fits (n : Nat) : Prop := n ≤ 4294967296
instance (n : Nat) : Decidable (Fits n) := inferInstanceAs (Decidable (_ ≤ _))
/-- Rows that may be laid into memory. -/
def rows1 (k : Nat) (rows : List (List AV)) : Bool := rows.all fun r => r.length == k && r.all oneB
theorem rows1_get {k : Nat} {rows : List (List AV)} (h : rows1 k rows = true) {i : Nat} {r : List AV} (hi : rows[i]? = some r) : r.length = k ∧ r.all oneB = true := by
  have := (List.all_eq_true.1 h) r (List.mem_of_getElem? hi)
  simpa only [Bool.and_eq_true, beq_iff_eq] using this
theorem rows1_map {α : Type} {k : Nat} {f : α → List AV} (h : ∀ x, (f x).length = k ∧ (f x).all oneB = true) (l : List α) : rows1 k (l.map f) = true := by
  simp only [rows1, List.all_map, List.all_eq_true]
  intro x _
  have := h x
  simp only [Function.comp_apply, this.1, this.2, beq_self_eq_true, Bool.and_self]
theorem rows1_append {k : Nat} {a b : List (List AV)} : rows1 k (a ++ b) = (rows1 k a && rows1 k b) := by simp [rows1]
theorem rows1_nil {k : Nat} : rows1 k [] = true := rfl
theorem rows1_cons {k : Nat} {r : List AV} {l : List (List AV)} : rows1 k (r :: l) = ((r.length == k && r.all oneB) && rows1 k l) := by simp [rows1]

/-- The rows that a slice shows. -/
def srcA (h : Hp) (k : Nat) : AV → Option (List (List AV))
  | .sl rows => if rows1 k rows = true then some rows else none
  | .msl b ver off k' len cap => match h[b]? with
    | some (.rows rs k2 v _) => if (v = ver ∧ k' = k ∧ k2 = k) ∧ off + len ≤ rs.length ∧ rows1 k rs = true then some ((rs.drop off).take len) else none
    | _ => none
  | .nils => some []
  | .emp => some []
  | _ => none
theorem srcA_real {I ι h w k x v rows} (hr : Rel I ι h w) (hv : VR I w ι x v) (hs : srcA h k x = some rows) : Src I ι w k rows v ∧ ∀ (i : Nat) r, rows[i]? = some r → r.length = k ∧ r.all oneB = true := by
  unfold srcA at hs
  split at hs
  · split at hs
    · rename_i h1
      obtain rfl := Option.some.inj hs
      exact ⟨Src.sl hv fun i r hi => rows1_get h1 hi, fun i r hi => rows1_get h1 hi⟩
    · cases hs
  · rename_i b ver off k' len cap
    split at hs
    · rename_i rs k2 v2 ty hb
      split at hs
      · rename_i hc
        obtain ⟨⟨rfl, rfl, rfl⟩, h2, h3⟩ := hc
        obtain rfl := Option.some.inj hs
        refine ⟨Src.msl hr hv hb h2 fun i r hi => (rows1_get h3 hi).2, fun i r hi => ?_⟩
        rw [List.getElem?_take] at hi
        split at hi
        · rw [List.getElem?_drop] at hi; exact rows1_get h3 hi
        · cases hi
      · cases hs
    · cases hs
  · obtain rfl := Option.some.inj hs
    obtain rfl := hv.nils_inv
    exact ⟨⟨none, 0, 0, rfl, rfl, fun h => absurd rfl h⟩, by simp⟩
  · obtain rfl := Option.some.inj hs
    obtain ⟨a0, rfl⟩ := hv.emp_inv
    exact ⟨⟨a0, 0, 0, rfl, rfl, fun h => absurd rfl h⟩, by simp⟩
  · cases hs

/-- An append, reckoned. -/
def apA (P : Program) (t : TypeId) (h : Hp) (s x : AV) : Option (AV × Hp) :=
  match s with
  | .msl b ver off k len cap => match h[b]? with
    | some (.rows rs k2 v ty) => (elemOf' P t).bind fun e => (tsz P e).bind fun k3 => (tzero P e).bind fun z => (bytesOf P e).bind fun bts => (srcA h k x).bind fun rows2 =>
      if (off = 0 ∧ v = ver ∧ k2 = k ∧ k3 = k ∧ ty = e ∧ k ≠ 0 ∧ z.length = k ∧ bts ≤ 32768 ∧ len ≤ rs.length) ∧ Fits (len + rows2.length) then
        some (.msl b (ver + 1) 0 k (len + rows2.length) (len + rows2.length), h.set b (.rows (rs.take len ++ rows2) k (ver + 1) ty)) else none
    | _ => none
  | .nils => (elemOf' P t).bind fun e => (tsz P e).bind fun k => (tzero P e).bind fun z => (bytesOf P e).bind fun bts => (srcA h k x).bind fun rows2 =>
      if (k ≠ 0 ∧ z.length = k ∧ bts ≤ 32768) ∧ Fits rows2.length then some (.msl h.length 1 0 k rows2.length rows2.length, h ++ [.rows rows2 k 1 e]) else none
  | _ => none
theorem srcA_len {h : Hp} {k : Nat} {x : AV} {rows : List (List AV)} (hs : srcA h k x = some rows) : ∀ (i : Nat) r, rows[i]? = some r → r.length = k := by
  intro i r hi
  unfold srcA at hs
  split at hs
  · split at hs
    · rename_i h1; obtain rfl := Option.some.inj hs; exact (rows1_get h1 hi).1
    · cases hs
  · split at hs
    · split at hs
      · rename_i hc; obtain rfl := Option.some.inj hs
        rw [List.getElem?_take] at hi
        split at hi
        · rw [List.getElem?_drop] at hi; exact (rows1_get hc.2.2 hi).1
        · cases hi
      · cases hs
    · cases hs
  · obtain rfl := Option.some.inj hs; simp at hi
  · obtain rfl := Option.some.inj hs; simp at hi
  · cases hs
theorem Ext.grow {I ι h w} (hr : Rel I ι h w) {o : LO} (hf : ι h.length = none) (ho : o.born = false) : Ext I ι h w I ι (h ++ [o]) w := by
  have own : ∀ k, Own ι (h ++ [o]) k → Own ι h k := by
    rintro k ⟨b, o2, u, s, h1, h2, h3⟩
    rw [List.getElem?_append] at h1
    split at h1
    · exact ⟨b, o2, u, s, h1, h2, h3⟩
    · rename_i hge
      have := (List.getElem?_eq_some_iff.1 h1).1
      simp at this
      have : b = h.length := by omega
      subst this; rw [hf] at h3; cases h3
  refine ⟨⟨?_, ?_, hr.tab, hr.inj, fun k hk => hr.sep k (own k hk), fun b' x hb' hx => hr.far b' x (by simp at hb'; omega) hx, hr.lt, hr.ilt⟩, Keep.refl _ _ _, fun _ h => h, fun _ h => .inl h, fun k hk => .inl (own k hk), fun b => Moved.refl _ _, fun _ _ => rfl, by simp⟩
  · intro b x o2 hx ho2
    rw [List.getElem?_append] at ho2
    split at ho2
    · exact hr.real b x o2 hx ho2
    · have := (List.getElem?_eq_some_iff.1 ho2).1
      simp at this
      have : b = h.length := by omega
      subst this; rw [hf] at hx; cases hx
  · intro b o2 ho2 hl
    rw [List.getElem?_append] at ho2
    split at ho2
    · exact hr.dom b o2 ho2 hl
    · have := (List.getElem?_eq_some_iff.1 ho2).1
      simp at this
      have : b = h.length := by omega
      subst this
      simp at ho2; subst ho2; rw [ho] at hl; cases hl
theorem Step.appendNil {o : Oper} {ρ : Operand → AV} {h : Hp} {t e : TypeId} {s x : Operand} {k bts : Nat} {z : List AV} {rows2 : List (List AV)} (ho : o.op = .call { callee := .builtin .append, args := #[s, x], argTypes := #[t, t] })
    (he : elemOf' P t = some e) (hk : tsz P e = some k) (hk0 : k ≠ 0) (hz : tzero P e = some z) (hzk : z.length = k) (hb : bytesOf P e = some bts) (hb2 : bts ≤ 32768) (hs : ρ s = .nils)
    (hsrc : srcA h k (ρ x) = some rows2) (hn : Fits rows2.length) : Step P o ρ h (.msl h.length 1 0 k rows2.length rows2.length) (h ++ [.rows rows2 k 1 e]) := by
  intro I ι w a hr hf hx next Q K
  have h1 := hx s (by simp [ho, Op.operands, Call.operands])
  have h2 := hx x (by simp [ho, Op.operands, Call.operands])
  rw [hs] at h1
  have hf' := hf h.length (Nat.le_refl _) (by simp)
  have hg := Ext.grow hr (o := .rows [] k 0 e) hf' rfl
  have hv : VR I w ι (.msl h.length 0 0 k 0 0) (a.eval s) := by rw [h1.nils_inv]; exact .mslnil
  have hsr := (srcA_real hr h2 hsrc).1
  have hnn : 0 + rows2.length ≤ 4294967296 := by rw [Nat.zero_add]; exact hn
  obtain ⟨v', w', ι', hrun, hext, hv'⟩ := append_core (P := P) (ty := o.type) (rs := []) (elemOf_slice he) hk hk0 hz hzk hb hb2 hg.rel hv (by simp) (Nat.zero_le _) hsr (srcA_len hsrc) hnn
  simp only [List.take_zero, List.nil_append, Nat.zero_add, List.set_append_right _ _ (Nat.le_refl _), Nat.sub_self, List.set_cons_zero] at hext hv'
  unfold Oper.wp execOp
  simp only [ho, resolve, Go.invoke, builtin, Sem.run_bind, Sem.run_pure, Result.andThen_ok, List.map_toArray, List.map_cons, List.map_nil, hrun]
  exact K v' w' I ι' (hg.trans hext) hv'
theorem Step.append {o : Oper} {ρ : Operand → AV} {h : Hp} {t : TypeId} {s x : Operand} {r : AV × Hp} (ho : o.op = .call { callee := .builtin .append, args := #[s, x], argTypes := #[t, t] }) (hr : apA P t h (ρ s) (ρ x) = some r) : Step P o ρ h r.1 r.2 := by
  unfold apA at hr
  split at hr
  · rename_i b ver off k len cap hs
    split at hr
    · rename_i rs k2 v ty hb
      simp only [Option.bind_eq_some_iff] at hr
      obtain ⟨e, he, k3, hk, z, hz, bts, hbt, rows2, hsrc, hr⟩ := hr
      split at hr
      · rename_i hc
        obtain ⟨⟨rfl, rfl, rfl, rfl, rfl, hk0, hzk, hb2, hlen⟩, hn⟩ := hc
        obtain rfl := Option.some.inj hr
        have hnn : len + rows2.length ≤ 4294967296 := hn
        exact Step.appendA ho he hk hk0 hz hzk hbt hb2 hs hb hlen (fun I ι w v hrel hv => (srcA_real hrel hv hsrc).1) (srcA_len hsrc) hnn
      · cases hr
    · cases hr
  · rename_i hs
    simp only [Option.bind_eq_some_iff] at hr
    obtain ⟨e, he, k, hk, z, hz, bts, hbt, rows2, hsrc, hr⟩ := hr
    split at hr
    · rename_i hc
      obtain ⟨⟨hk0, hzk, hb2⟩, hn⟩ := hc
      obtain rfl := Option.some.inj hr
      exact Step.appendNil ho he hk hk0 hz hzk hbt hb2 hs hsrc hn
    · cases hr
  · cases hr

/-- An append to nothing, whose answer nobody writes any more. -/
def apI (P : Program) (t : TypeId) (h : Hp) (s x : AV) : Option AV :=
  match s with
  | .nils | .emp => (elemOf' P t).bind fun e => (tsz P e).bind fun k => (tzero P e).bind fun z => (bytesOf P e).bind fun bts => (srcA h k x).bind fun rows2 =>
      if (k ≠ 0 ∧ z.length = k ∧ bts ≤ 32768) ∧ rows2.all pureBs = true ∧ Fits rows2.length then some (.sl rows2) else none
  | _ => none
theorem Step.appendI {o : Oper} {ρ : Operand → AV} {h : Hp} {t : TypeId} {s x : Operand} {r : AV} (ho : o.op = .call { callee := .builtin .append, args := #[s, x], argTypes := #[t, t] }) (hr : apI P t h (ρ s) (ρ x) = some r) : Step P o ρ h r h := by
  intro I ι w a hrel hf hx next Q K
  have h1 := hx s (by simp [ho, Op.operands, Call.operands])
  have h2 := hx x (by simp [ho, Op.operands, Call.operands])
  obtain ⟨a0, hbase⟩ : ∃ a0, a.eval s = .slice a0 0 0 := by
    unfold apI at hr
    split at hr
    · rename_i hs; rw [hs] at h1; exact ⟨none, h1.nils_inv⟩
    · rename_i hs; rw [hs] at h1; exact h1.emp_inv
    · cases hr
  have hr' : (elemOf' P t).bind (fun e => (tsz P e).bind fun k => (tzero P e).bind fun z => (bytesOf P e).bind fun bts => (srcA h k (ρ x)).bind fun rows2 =>
      if (k ≠ 0 ∧ z.length = k ∧ bts ≤ 32768) ∧ rows2.all pureBs = true ∧ Fits rows2.length then some (.sl rows2) else none) = some r := by
    unfold apI at hr
    split at hr
    · exact hr
    · exact hr
    · cases hr
  simp only [Option.bind_eq_some_iff] at hr'
  obtain ⟨e, he, k, hk, z, hz, bts, hbt, rows2, hsrc, hr'⟩ := hr'
  split at hr'
  · rename_i hc
    obtain ⟨⟨hk0, hzk, hb2⟩, hpure, hn⟩ := hc
    obtain rfl := Option.some.inj hr'
    have hnn : rows2.length ≤ 4294967296 := hn
    obtain ⟨⟨ua, un, uc, hu, rfl, hsr⟩, hrow⟩ := srcA_real hrel h2 hsrc
    obtain ⟨i, hi, hik⟩ : ∃ i, P.info? e = some i ∧ i.size = k := by
      unfold tsz at hk
      cases hi : P.info? e with
      | none => simp [hi] at hk
      | some i => simp [hi] at hk; exact ⟨i, rfl, hk⟩
    obtain ⟨zv, hzv, hzs⟩ := zero_size hi hz
    rw [hzk] at hzs
    have hbt2 : i.bytes = bts := by unfold bytesOf at hbt; simp [hi] at hbt; exact hbt
    have go : ∀ v w' I', (Builtin.append_ #[t, t] o.type #[a.eval s, a.eval x]).run P w = .ok v w' → Ext I ι h w I' ι h w' → VR I' w' ι (.sl rows2) v → o.wp P a w next Q := by
      intro v w' I' hrun hext hv
      unfold Oper.wp execOp
      simp only [ho, resolve, Go.invoke, builtin, Sem.run_bind, Sem.run_pure, Result.andThen_ok, List.map_toArray, List.map_cons, List.map_nil, hrun]
      exact K v w' I' ι hext hv
    by_cases h0 : rows2.length = 0
    · have hr0 : rows2 = [] := List.eq_nil_of_length_eq_zero h0
      subst hr0
      refine go (.slice a0 0 0) w I ?_ (Ext.refl hrel) .sl0
      rw [hbase, hu]
      exact run_append_zero (elemOf_slice he) hi a0 0 0 (Nat.le_refl _) ua uc w
    · obtain ⟨ad, rfl, news, hnl, hnc, hn1, hnv⟩ := hsr (by intro e; subst e; simp at h0)
      rw [← hik] at hnl
      have fit : ∀ n : Nat, n ≤ 4294967296 → n * i.bytes ≤ 140737488355328 := fun n hn => by
        rw [hbt2]
        calc n * bts ≤ 4294967296 * 32768 := Nat.mul_le_mul hn hb2
          _ ≤ 140737488355328 := by omega
      have key : ∀ (nc : Nat) (arr : Array Value) (v : Value), rows2.length ≤ nc → v = .slice (some ⟨w.heap.size, 0, none⟩) rows2.length nc → (∀ m, m < rows2.length * k → arr[m]? = news[m]?) →
          (Builtin.append_ #[t, t] o.type #[a.eval s, a.eval x]).run P w = .ok v (w.drew.alloc (.cells arr e)) → o.wp P a w next Q := by
        rintro nc arr v hge rfl harr hrun
        have hb : RowKit.Below w.heap.size w (w.drew.alloc (.cells arr e)) := ⟨rfl, rfl, rfl, by simp, fun c hc => alloc_old w.drew _ c hc⟩
        have hext : Ext I ι h w (fun c => I c ∨ c = w.heap.size) ι h (w.drew.alloc (.cells arr e)) := by
          refine Ext.below hrel hb (fun c h => .inl h) (fun c h => ?_) (fun c h => ?_)
          · rcases h with h | h
            · have := hrel.ilt c h; simp; omega
            · subst h; simp
          · exact h.imp id (fun e => by omega)
        refine go _ _ _ hrun hext ?_
        have hcell : ∀ (i : Nat) r (j : Nat) x, rows2[i]? = some r → r[j]? = some x → ∃ y, (w.drew.alloc (.cells arr e)).cell? ⟨w.heap.size, 0 + (i * k + j), none⟩ = some y ∧ VR I w ι x y ∧ pureB x = true := by
          intro i2 r j x2 hi2 hj
          have hjk : j < k := by rw [← (hrow i2 r hi2).1]; exact (List.getElem?_eq_some_iff.1 hj).1
          have hi2l : i2 < rows2.length := (List.getElem?_eq_some_iff.1 hi2).1
          have hm : i2 * k + j < rows2.length * k := by
            have : (i2 + 1) * k ≤ rows2.length * k := Nat.mul_le_mul_right _ hi2l
            rw [Nat.add_mul, Nat.one_mul] at this; omega
          have hnlt : i2 * k + j < news.length := by rw [hnl, hik]; exact hm
          have ha := harr _ hm
          rw [List.getElem?_eq_getElem hnlt] at ha
          refine ⟨news[i2 * k + j], ?_, hnv i2 r j x2 _ hi2 hj (List.getElem?_eq_getElem hnlt), pureBs_get ((List.all_eq_true.1 hpure) r (List.mem_of_getElem? hi2)) j x2 hj⟩
          have hnew : (w.drew.alloc (.cells arr e)).heap[w.heap.size]? = some (.cells arr e) := alloc_new w.drew _
          simp only [World.cell?, hnew, Nat.zero_add]
          simp [ha]
        refine .sl k w.heap.size 0 nc (.inr rfl) rfl hge (fun i r hi => (hrow i r hi).1) (fun i r j x hi hj => ?_) (fun i r j x y hi hj hy => ?_)
        · obtain ⟨y, hy, _⟩ := hcell i r j x hi hj; exact ⟨y, hy⟩
        · obtain ⟨y', hy', hv, hp⟩ := hcell i r j x hi hj
          rw [hy'] at hy
          obtain rfl := Option.some.inj hy
          exact (hv.ext hrel hext).to_pure hp
      cases a0 with
      | none =>
        have hrun := run_append_nil (P := P) w t o.type e i zv (elemOf_slice he) hi hzv ad rows2.length uc news hnl hnc (by omega) (by omega) (by have := fit _ hnn; omega)
        refine key _ _ _ (grownCap_ge w rows2.length 0 e) rfl (fun m hm => ?_) (by rw [hbase, hu]; exact hrun)
        rw [Array.getElem?_append, List.size_toArray, if_pos (by rw [hnl, hik]; exact hm)]; simp
      | some b0 =>
        have hrun := run_append_grow (P := P) w t o.type e i zv (elemOf_slice he) hi hzv b0 0 0 [] (by simp) (by simp) ad rows2.length uc news hnl hnc (by omega) (by omega) (growslice_fits (by omega) (by rw [Nat.zero_add]; exact fit _ hnn))
        simp only [Nat.zero_add] at hrun
        refine key _ _ _ (grownCap_ge w rows2.length 0 e) rfl (fun m hm => ?_) (by rw [hbase, hu]; exact hrun)
        rw [Array.append_assoc, Array.getElem?_append, List.size_toArray, List.length_nil, if_neg (by omega), Array.getElem?_append, List.size_toArray, if_pos (by rw [hnl, hik]; simpa using hm)]; simp
  · cases hr'

/-! ### New rows -/
theorem Step.newRows {o : Oper} {ρ : Operand → AV} {h : Hp} {ty : TypeId} {rs : List (List AV)} {k : Nat}
    (hs : ∀ (I : Nat → Prop) (ι : Io) (w : World) (a : Act), Rel I ι h w → (∀ x ∈ o.op.operands, VR I w ι (ρ x) (a.eval x)) →
      ∃ arr : Array Value, (execOp a.eval o).run P w = .ok (.value (.slice (some ⟨w.heap.size, 0, none⟩) rs.length rs.length)) (w.alloc (.cells arr ty)) ∧ arr.size = rs.length * k ∧ (∀ (i : Nat) r, rs[i]? = some r → r.length = k) ∧
        ∀ (i : Nat) r (j : Nat) x y, rs[i]? = some r → r[j]? = some x → arr[i * k + j]? = some y → VR I w ι x y) : Step P o ρ h (.msl h.length 1 0 k rs.length rs.length) (h ++ [.rows rs k 1 ty]) := by
  intro I ι w a hr hf hx next Q K
  obtain ⟨arr, hrun, hsz, hl, hxy⟩ := hs I ι w a hr hx
  unfold Oper.wp
  rw [hrun]
  refine K _ _ I _ (Ext.alloc hr (hf _ (Nat.le_refl _) (by simp)) (.rows rs k 1 ty) (.cells arr ty) 1 arr.size rfl ?_) ?_
  · rintro w' ι' rfl rfl mono
    exact ⟨rfl, by omega, arr, alloc_new _ _, rfl, by omega, hl, fun i r j x y hi hj hy => mono _ _ (hxy i r j x y hi hj hy)⟩
  · exact .msl _ 1 arr.size (upd_same _ _ _) (Nat.le_refl _) fun _ => ⟨.inl (by simp), rfl, Nat.le_refl _, Nat.le_refl _, by rw [Nat.zero_add]; omega⟩

theorem Step.buildOwn {o : Oper} {ρ : Operand → AV} {h : Hp} {t e : TypeId} {n k : Nat} {parts : Array (Nat × Operand)} {z : List AV} (ho : o.op = .buildSlice t n parts) (he : elemOf' P t = some e) (hk : tsz P e = some k)
    (hz : tzero P e = some z) (hn : parts.toList.map (·.1) = List.range n) (hk0 : k ≠ 0) (hb : n * k ≤ 16777216) (hr : (parts.toList.map fun q => ρ q.2).all (fun x => (cellsOf x).length == k && (cellsOf x).all oneB) = true) :
    Step P o ρ h (.msl h.length 1 0 k n n) (h ++ [.rows (parts.toList.map fun q => cellsOf (ρ q.2)) k 1 e]) := by
  have hlen : parts.toList.length = n := by have := congrArg List.length hn; simpa using this
  have key := Step.newRows (P := P) (o := o) (ρ := ρ) (h := h) (ty := e) (rs := parts.toList.map fun q => cellsOf (ρ q.2)) (k := k) fun I ι w a hrel hx => ?_
  · simp only [List.length_map, hlen] at key; exact key
  have hu := elemOf_slice he
  obtain ⟨zv, hzr, _⟩ := run_zero hz
  have hrow : ∀ x ∈ parts.toList.map (fun q => ρ q.2), (cellsOf x).length = k ∧ (cellsOf x).all oneB = true := fun x hx => by
    have := (List.all_eq_true.1 hr) x hx
    simpa only [Bool.and_eq_true, beq_iff_eq] using this
  have hparts : (parts.toList.map fun q => (q.1, ρ q.2)) = ((parts.toList.map fun q => ρ q.2).zipIdx 0).map fun q => (q.2, q.1) := by
    apply List.ext_getElem?
    intro j
    simp only [List.getElem?_map, List.getElem?_zipIdx, Nat.zero_add]
    cases hj : parts.toList[j]? with
    | none => simp
    | some q =>
      have h1 := congrArg (·[j]?) hn
      simp only [List.getElem?_map, hj, Option.map_some] at h1
      have hlt : j < n := by rw [← hlen]; exact (List.getElem?_eq_some_iff.1 hj).1
      rw [List.getElem?_range hlt] at h1
      simp only [Option.some.injEq] at h1
      simp [h1]
  have hfa := fillA_rows k (parts.toList.map fun q => ρ q.2) 0 (List.replicate (n * k) .undef) (fun x hx => hrow x hx) (by simp [hlen])
  rw [← hparts] at hfa
  simp only [List.length_map, hlen, Nat.zero_add, Nat.zero_mul, List.take_zero, List.nil_append] at hfa
  rw [List.drop_eq_nil_of_le (by simp), List.append_nil] at hfa
  have hxs : ∀ q ∈ parts, VR I w ι (ρ q.2) (a.eval q.2) := fun q hq => hx q.2 (by simp only [ho, Op.operands]; simp; exact ⟨q.1, hq⟩)
  obtain ⟨zr, hz1, hz2⟩ : ∃ zr : Array Value, (n * k = 0 → zr = #[]) ∧ (¬ n * k = 0 → zr = zv.cells) := by
    by_cases h0 : n * k = 0
    · exact ⟨#[], fun _ => rfl, fun h => absurd h0 h⟩
    · exact ⟨zv.cells, fun h => absurd h h0, fun _ => rfl⟩
  obtain ⟨arr', ha, hcr⟩ := fill_real (I := I) (w := w) (ι := ι) (place := fun i => some (i * k, k)) (parts.toList.map fun q => (q.1, ρ q.2)) (parts.toList.map fun q => (q.1, a.eval q.2)) _ ((Array.range (n * k)).map (zr[· % zr.size]!)) (by simp)
    (fun j p q hp hq => by
      simp only [List.getElem?_map, Array.getElem?_toList, Option.map_eq_some_iff] at hp hq
      obtain ⟨p0, hp0, rfl⟩ := hp
      obtain ⟨q0, hq0, rfl⟩ := hq
      rw [hp0] at hq0
      obtain rfl := Option.some.inj hq0
      exact ⟨rfl, hxs p0 (Array.mem_of_getElem? hp0)⟩) (cs := List.replicate (n * k) .undef) ⟨by simp, fun j x y hx hy => by
        have := List.eq_of_mem_replicate (List.mem_of_getElem? hx); subst this; exact .undef⟩ hfa
  have hfl : ((parts.toList.map fun q => ρ q.2).map cellsOf) = parts.toList.map fun q => cellsOf (ρ q.2) := by simp
  rw [hfl] at hcr
  have hkl : ∀ (i : Nat) r, (parts.toList.map fun q => cellsOf (ρ q.2))[i]? = some r → r.length = k := by
    intro i r hi
    simp only [List.getElem?_map, Option.map_eq_some_iff] at hi
    obtain ⟨q, hq, rfl⟩ := hi
    exact (hrow _ (List.mem_map.2 ⟨q, List.mem_of_getElem? hq, rfl⟩)).1
  refine ⟨arr', ?_, ?_, hkl, ?_⟩
  · unfold execOp
    have hparts2 : (parts.map fun q => (q.1, a.eval q.2)).toList = parts.toList.map fun q => (q.1, a.eval q.2) := by simp
    simp only [ho, Instr.buildSlice]
    rw [Sem.run_bind, Sem.run_bind, run_underlying' hu]
    simp only [Result.andThen_ok]
    rw [Sem.run_bind, run_sizeOf' hk]
    simp only [Result.andThen_ok]
    rw [if_neg (by omega)]
    rw [hparts2]
    by_cases h0 : n * k = 0
    · have := hz1 h0
      subst this
      simp only [if_pos h0, Sem.run_bind, Sem.run_pure, Result.andThen_ok, ha]
      simp [newRow, hlen]
    · have := hz2 h0
      subst this
      simp only [if_neg h0, Sem.run_bind, hzr, Sem.run_pure, Result.andThen_ok, ha]
      simp [newRow, hlen]
  · rw [hcr.1, List.length_flatten, List.map_map]
    have : ∀ l : List (Nat × Operand), (∀ q ∈ l, (cellsOf (ρ q.2)).length = k) → (l.map (List.length ∘ fun q => cellsOf (ρ q.2))).sum = l.length * k := by
      intro l
      induction l with
      | nil => simp
      | cons q l ih => intro hq; simp [hq q (List.mem_cons_self ..), ih fun q' h' => hq q' (List.mem_cons_of_mem _ h'), Nat.add_mul]; omega
    rw [this _ fun q hq => (hrow _ (List.mem_map.2 ⟨q, hq, rfl⟩)).1]; simp
  · intro i r j x y hi hj hy
    have hjk : j < k := by rw [← hkl i r hi]; exact (List.getElem?_eq_some_iff.1 hj).1
    have hfg := flat_get (parts.toList.map fun q => cellsOf (ρ q.2)) (fun r hr => by
      obtain ⟨i, hi⟩ := List.mem_iff_getElem?.1 hr; exact hkl i r hi) i j r hi hjk
    rw [hj] at hfg
    exact hcr.2 _ x y hfg hy

theorem Step.buildEmp {o : Oper} {ρ : Operand → AV} {h : Hp} {t e : TypeId} {k : Nat} {parts : Array (Nat × Operand)} {z : List AV} (ho : o.op = .buildSlice t 0 parts) (he : elemOf' P t = some e) (hk : tsz P e = some k)
    (hz : tzero P e = some z) (hn : parts.toList.map (·.1) = List.range 0) : Step P o ρ h .emp h := by
  intro I ι w a hrel _ hx next Q K
  have hu := elemOf_slice he
  have hp : parts = #[] := by
    have : parts.toList = [] := by simpa using hn
    simpa using this
  subst hp
  have hrun : (execOp a.eval o).run P w = .ok (.value (.slice (some ⟨w.heap.size, 0, none⟩) 0 0)) (w.alloc (.cells #[] e)) := by
    unfold execOp
    simp only [ho, Instr.buildSlice]
    rw [Sem.run_bind, Sem.run_bind, run_underlying' hu]
    simp only [Result.andThen_ok]
    rw [Sem.run_bind, run_sizeOf' hk]
    simp only [Result.andThen_ok]
    rw [if_neg (by omega)]
    have hemp : ∀ f : Nat → Value, Array.map f (Array.range 0) = #[] := fun f => Array.eq_empty_of_size_eq_zero (by simp)
    simp [newRow, Instr.fill, hemp]
  unfold Oper.wp
  rw [hrun]
  exact K _ _ _ ι (Ext.allocI hrel (.cells #[] e)) .emp
/-- make, reckoned. -/
def mkA (P : Program) (t : TypeId) : AV → AV → Option (Nat × Nat × List AV × TypeId)
  | .int _ n, .int _ c => (elemOf' P t).bind fun e => (tsz P e).bind fun k => (tzero P e).bind fun z => (bytesOf P e).bind fun bts =>
    if (n = c ∧ z.length = k ∧ k ≠ 0 ∧ bts ≤ 32768) ∧ 0 ≤ n ∧ Fits n.toNat then some (n.toNat, k, z, e) else none
  | _, _ => none
theorem Step.makeSlice {o : Oper} {ρ : Operand → AV} {h : Hp} {t : TypeId} {n c : Operand} {q : Nat × Nat × List AV × TypeId} (ho : o.op = .makeSlice t n c) (hq : mkA P t (ρ n) (ρ c) = some q) :
    Step P o ρ h (.msl h.length 1 0 q.2.1 q.1 q.1) (h ++ [.rows (List.replicate q.1 q.2.2.1) q.2.1 1 q.2.2.2]) := by
  unfold mkA at hq
  split at hq
  · rename_i kk1 a kk2 b hn hc
    simp only [Option.bind_eq_some_iff] at hq
    obtain ⟨e, he, k, hk, z, hz, bts, hbt, hq⟩ := hq
    split at hq
    · rename_i hcond
      obtain ⟨⟨rfl, hzk, hk0, hb2⟩, h0, hfit⟩ := hcond
      obtain rfl := Option.some.inj hq
      have hfit' : a.toNat ≤ 4294967296 := hfit
      have := Step.newRows (P := P) (o := o) (ρ := ρ) (h := h) (ty := e) (rs := List.replicate a.toNat z) (k := k) fun I ι w ac hr hx => ?_
      · simpa using this
      have h1 := hx n (by simp [ho, Op.operands])
      have h2 := hx c (by simp [ho, Op.operands])
      rw [hn] at h1; rw [hc] at h2
      obtain ⟨zv, hzr, hzc⟩ := run_zero hz
      obtain ⟨z1, z2⟩ := zero_cells (I := I) (w := w) (ι := ι) hzc
      obtain ⟨i, hi, hib⟩ : ∃ i, P.info? e = some i ∧ i.bytes = bts := by
        unfold bytesOf at hbt
        cases hi : P.info? e with
        | none => simp [hi] at hbt
        | some i => simp [hi] at hbt; exact ⟨i, rfl, hbt⟩
      refine ⟨(Array.range (a.toNat * k)).map (zv.cells[· % zv.cells.size]!), ?_, by simp, ?_, ?_⟩
      · have hw : IntKind.i64.wrap a = a := by
          simp only [IntKind.wrap, IntKind.bits, IntKind.signed, Bool.true_and, decide_eq_true_eq, ge_iff_le]
          split <;> omega
        have hprod : (i.bytes : Int) * a ≤ 140737488355328 := by
          have e1 : i.bytes * a.toNat ≤ 32768 * 4294967296 := Nat.mul_le_mul (by omega) hfit'
          have e2 : ((i.bytes * a.toNat : Nat) : Int) = (i.bytes : Int) * a := by rw [Int.natCast_mul, Int.toNat_of_nonneg h0]
          omega
        have c1 : ¬ (281474976710656 < (i.bytes : Int) * a) := by omega
        have c2 : ¬ (a < 0) := by omega
        unfold execOp
        simp only [ho, h1.int_inv, h2.int_inv, Instr.makeSlice, Sem.run_bind, run_underlying' (elemOf_slice he), Result.andThen_ok]
        by_cases hz0 : a.toNat * k = 0
        · simp [asInt, asIntOf, typeInfo, hi, hw, c1, c2, run_sizeOf' hk, hz0, newRow]
          have hemp : ∀ f : Nat → Value, Array.map f (Array.range 0) = #[] := fun f => Array.eq_empty_of_size_eq_zero (by simp)
          rw [hemp, hemp]
        · simp [asInt, asIntOf, typeInfo, hi, hw, c1, c2, run_sizeOf' hk, hz0, hzr, newRow]
      · intro i r hir
        have := List.eq_of_mem_replicate (List.mem_of_getElem? hir)
        rw [this]; exact hzk
      · intro i r j x y hir hj hy
        have hr1 := List.eq_of_mem_replicate (List.mem_of_getElem? hir)
        subst hr1
        have hjk : j < k := by rw [← hzk]; exact (List.getElem?_eq_some_iff.1 hj).1
        have hm : i * k + j < a.toNat * k := by have := (Array.getElem?_eq_some_iff.1 hy).1; simpa using this
        have hmod : (i * k + j) % k = j := by rw [Nat.mul_comm, Nat.mul_add_mod, Nat.mod_eq_of_lt hjk]
        have hzsz : zv.cells.size = k := by omega
        simp only [Array.getElem?_map, Array.getElem?_range, hm, if_true, Option.map_some, Option.some.injEq, hzsz, hmod] at hy
        have hlt : j < zv.cells.size := by omega
        rw [getElem!_pos zv.cells j hlt] at hy
        exact z2 j x y hj (by simp [hlt, hy])
    · cases hq
  · cases hq

/-! ### A cut of a slice of the call's own -/
def mslA (h : Hp) (lo hi : Option AV) : AV → Option AV
  | .msl b ver off k len cap => match h[b]? with
    | some (.rows rs k2 v _) => if v = ver ∧ k2 = k then (bndsA len lo hi).map fun q => .msl b ver (off + q.1) k (q.2 - q.1) (q.2 - q.1) else none
    | _ => none
  | _ => none
theorem Step.sliceMsl {o : Oper} {ρ : Operand → AV} {h : Hp} {t e : TypeId} {k : Nat} {x : Operand} {lo hi : Option Operand} {r : AV} (ho : o.op = .slice t x lo hi none) (ht : elemOf' P t = some e) (hk : tsz P e = some k)
    (hkk : ∀ b ver off k' len cap, ρ x = .msl b ver off k' len cap → k' = k) (hr : mslA h (lo.map ρ) (hi.map ρ) (ρ x) = some r) : Step P o ρ h r h := by
  refine Step.still fun I ι w a hrel hv => ?_
  have hu := elemOf_slice ht
  have h1 := hv x (by simp [ho, Op.operands])
  unfold mslA at hr
  split at hr
  · rename_i b ver off k' len cap hx
    obtain rfl := hkk _ _ _ _ _ _ hx
    rw [hx] at h1
    split at hr
    · rename_i rs k2 v ty hb
      split at hr
      · rename_i hc
        obtain ⟨rfl, rfl⟩ := hc
        simp only [Option.map_eq_some_iff] at hr
        obtain ⟨⟨l, u⟩, hbd, rfl⟩ := hr
        have hv1 : ∀ y, lo = some y → VR I w ι (ρ y) (a.eval y) := fun y e => hv y (by subst e; simp [ho, Op.operands])
        have hv2 : ∀ y, hi = some y → VR I w ι (ρ y) (a.eval y) := fun y e => hv y (by subst e; simp [ho, Op.operands])
        have hrun : ∀ (ad : Option Addr) (n ccap : Nat), n = len → n ≤ ccap → a.eval x = .slice ad n ccap →
            (execOp a.eval o).run P w = .ok (.value (.slice (if ccap = l then ad else ad.map (·.add (l * k2))) (u - l) (ccap - l))) w ∧ l ≤ u ∧ u ≤ n := by
          rintro ad n ccap rfl hnc hax
          obtain ⟨g, g1, g2⟩ := bndsA_run (P := P) (a := a) (cap := ccap) (w := w) true hnc (fun e => by cases e) hv1 hv2 hbd
          refine ⟨?_, g1, g2⟩
          unfold execOp
          simp only [ho, Instr.sliceAt, hax]
          rw [Sem.run_bind, Sem.run_bind, run_underlying' hu]
          simp only [Result.andThen_ok, Instr.slice, Option.map_none]
          rw [Sem.run_bind, run_underlying' hu]
          simp [g, run_sizeOf' hk]
        rcases h1.msl_inv with ⟨ad, n, ccap, c, cur, sz, e1, hib, hver, hcc⟩ | ⟨e1, rfl, rfl⟩
        · have hreal := hrel.real b _ _ hib hb
          obtain ⟨had, rfl, hcap, hncap, hroom⟩ := hcc hreal.1
          obtain ⟨g, g1, g2⟩ := hrun _ _ _ rfl hncap e1
          dsimp only at g1 g2 ⊢
          by_cases hcl : ccap = l
          · rw [if_pos hcl] at g
            have : u - l = 0 := by omega
            refine ⟨_, g, .msl c cur sz hib hver fun _ => ⟨.inr (by omega), rfl, by omega, by omega, ?_⟩⟩
            have : off + l + (ccap - l) = off + ccap := by omega
            rw [this]; exact hroom
          · rw [if_neg hcl, Option.map_some] at g
            obtain rfl := had.resolve_right (by omega)
            refine ⟨_, g, .msl c cur sz hib hver fun _ => ⟨.inl (by rw [addr_add, Nat.add_mul]), rfl, by omega, by omega, ?_⟩⟩
            have : off + l + (ccap - l) = off + ccap := by omega
            rw [this]; exact hroom
        · obtain ⟨g, g1, g2⟩ := hrun _ _ _ rfl (Nat.le_refl _) e1
          dsimp only at g1 g2 ⊢
          have hu0 : u = 0 := by omega
          have hl0 : l = 0 := by omega
          subst hu0; subst hl0
          refine ⟨_, g, ?_⟩
          simp only [if_true, Nat.sub_self]
          exact .mslnil
      · cases hr
    · cases hr
  · cases hr

/-! ### Texts gone over, rune by rune -/
theorem Step.rangeStr {o : Oper} {ρ : Operand → AV} {h : Hp} {t : TypeId} {x : Operand} {s : ByteArray} (ho : o.op = .range t x) (ht : P.underlying t = some .string) (hx : ρ x = .str s) : Step P o ρ h (.ptr h.length 0 0) (h ++ [.siter s 0]) := by
  intro I ι w a hr hf hv next Q K
  have h1 := hv x (by simp [ho, Op.operands])
  rw [hx] at h1
  unfold Oper.wp execOp
  simp only [ho, h1.str_inv, Sem.run_bind, run_range_string w t s ht, Result.andThen_ok, Sem.run_pure]
  refine K _ _ I _ (Ext.alloc hr (hf _ (Nat.le_refl _) (by simp)) (.siter s 0) (.stringIter s 0) 0 0 rfl ?_) ?_
  · rintro w' ι' rfl rfl mono
    exact ⟨rfl, rfl, alloc_new _ _⟩
  · exact .ptr _ 0 0 (upd_same _ _ _) (Nat.le_refl _) fun _ => rfl
theorem Ext.iter {I ι h w} (hr : Rel I ι h w) {b : Nat} {s : ByteArray} {pos pos' c cur sz : Nat} (hb : h[b]? = some (.siter s pos)) (hi : ι b = some (c, cur, sz)) : Ext I ι h w I ι (h.set b (.siter s pos')) (w.iterAt c s pos') := by
  have hlt : b < h.length := (List.getElem?_eq_some_iff.1 hb).1
  obtain ⟨hcur, hsz, hw⟩ := hr.real b _ _ hi hb
  have hclt : c < w.heap.size := (Array.getElem?_eq_some_iff.1 hw).1
  have hown : Own ι h c := ⟨b, _, cur, sz, hb, rfl, hi⟩
  have hsame : ∀ k, k ≠ c → (w.iterAt c s pos').heap[k]? = w.heap[k]? := fun k hk => by
    simp only [World.iterAt, Array.getElem?_setIfInBounds]; rw [if_neg (fun e => hk e.symm)]
  have hIs : ∀ k, I k → (w.iterAt c s pos').heap[k]? = w.heap[k]? := fun k hk => hsame k (fun e => hr.sep c hown (e ▸ hk))
  have own : ∀ k, Own ι (h.set b (.siter s pos')) k → Own ι h k := by
    rintro k ⟨b', o, u, s', h1, h2, h3⟩
    by_cases e : b = b'
    · subst e; exact ⟨b, _, u, s', hb, rfl, h3⟩
    · rw [List.getElem?_set, if_neg e] at h1; exact ⟨b', o, u, s', h1, h2, h3⟩
  have hsize : (w.iterAt c s pos').heap.size = w.heap.size := by simp [World.iterAt]
  refine ⟨⟨?_, ?_, hr.tab.mono (fun _ h => h) hIs, hr.inj, fun k hk => hr.sep k (own k hk), fun b' x hb' hx => hr.far b' x (by simpa using hb') hx, fun b' x hx => by rw [hsize]; exact hr.lt b' x hx, fun k hk => by rw [hsize]; exact hr.ilt k hk⟩,
    ⟨rfl, rfl, rfl, by rw [hsize]; exact Nat.le_refl _, fun k hk hn => hsame k (fun e => hn (e ▸ hown))⟩, fun _ h => h, fun _ h => .inl h, fun k hk => .inl (own k hk), fun b => Moved.refl _ _, fun _ _ => rfl, by simp⟩
  · intro b' x o hx ho
    by_cases e : b = b'
    · subst e
      rw [hi] at hx
      obtain rfl := Option.some.inj hx
      simp [hlt] at ho
      subst ho
      exact ⟨hcur, hsz, by simp [World.iterAt, hclt]⟩
    · rw [List.getElem?_set, if_neg e] at ho
      have hne : x.1 ≠ c := fun e2 => e (hr.inj b' b x _ hx hi e2).symm
      exact BR.mono (fun _ h => h) hIs (fun b => Moved.refl _ _) (hsame _ hne) (hr.real b' x o hx ho)
  · intro b' o ho hl
    by_cases e : b = b'
    · subst e; rw [hi]; rfl
    · rw [List.getElem?_set, if_neg e] at ho; exact hr.dom b' o ho hl

def nextA (h : Hp) : AV → Option (AV × Hp)
  | .ptr b 0 0 => match h[b]? with
    | some (.siter s pos) => if pos < s.size then some (.tuple [.bool true, .int .i64 pos, .int .i32 (Utf8.decode s pos).1], h.set b (.siter s (pos + (Utf8.decode s pos).2))) else some (.tuple [.bool false], h)
    | _ => none
  | _ => none
theorem Step.next {o : Oper} {ρ : Operand → AV} {h : Hp} {x : Operand} {r : AV × Hp} (ho : o.op = .next x true) (hr : nextA h (ρ x) = some r) : Step P o ρ h r.1 r.2 := by
  intro I ι w a hrel hf hv next Q K
  have h1 := hv x (by simp [ho, Op.operands])
  unfold nextA at hr
  split at hr
  · rename_i b hx
    rw [hx] at h1
    obtain ⟨ad, c, cur, sz, e1, hib, hver, hc⟩ := h1.ptr_inv
    split at hr
    · rename_i s pos hb
      obtain ⟨hcur, hsz, hw⟩ := hrel.real b _ _ hib hb
      have := hc hcur.symm
      subst this
      split at hr
      · rename_i hp
        obtain rfl := Option.some.inj hr
        have hrun := Lib.run_next_any_at (P := P) w c s pos o.type hw hp
        unfold Oper.wp execOp
        simp only [ho, e1, Sem.run_bind, hrun, Result.andThen_ok, Sem.run_pure]
        refine K _ _ I ι (Ext.iter hrel hb hib) (.tuple rfl fun j p q hp' hq => ?_)
        match j, hp', hq with
        | 0, hp', hq => simp at hp' hq; subst hp'; subst hq; exact .bool _
        | 1, hp', hq => simp at hp' hq; subst hp'; subst hq; exact .int _ _
        | 2, hp', hq => simp at hp' hq; subst hp'; subst hq; exact .int _ _
        | _ + 3, hp', hq => simp at hp'
      · rename_i hp
        obtain rfl := Option.some.inj hr
        have hrun := Lib.run_next_end_at (P := P) w c s pos o.type hw hp
        unfold Oper.wp execOp
        simp only [ho, e1, Sem.run_bind, hrun, Result.andThen_ok, Sem.run_pure]
        refine K _ _ I ι (Ext.refl hrel) (.tuple rfl fun j p q hp' hq => ?_)
        match j, hp', hq with
        | 0, hp', hq => simp at hp' hq; subst hp'; subst hq; exact .bool _
        | _ + 1, hp', hq => simp at hp'
    · cases hr
  · cases hr

/-! ### Bytes as a text -/
def rowByte : List AV → Option UInt8
  | [.int .u8 n] => some (UInt8.ofNat n.toNat)
  | _ => none
def rowsStr (rows : List (List AV)) : Option ByteArray := (rows.mapM rowByte).map fun l => ⟨l.toArray⟩
theorem foldl_push : ∀ (ns : List Int) (r : ByteArray), ns.foldl (fun r n => r.push (UInt8.ofNat n.toNat)) r = ⟨r.data ++ (ns.map fun n => UInt8.ofNat n.toNat).toArray⟩
  | [], r => by simp
  | b :: l, r => by rw [List.foldl_cons, foldl_push l]; simp [ByteArray.push]
theorem rowsStr_ints : ∀ (rows : List (List AV)) (l : List UInt8), rows.mapM rowByte = some l → ∃ ns : List Int, rows = ns.map (fun n => [AV.int .u8 n]) ∧ l = ns.map fun n => UInt8.ofNat n.toNat
  | [], l, h => by simp at h; subst h; exact ⟨[], rfl, rfl⟩
  | r :: rows, l, h => by
    simp only [List.mapM_cons, Option.bind_eq_bind, Option.bind_eq_some_iff, Option.pure_def, Option.some.injEq] at h
    obtain ⟨b, hb, l2, hl2, rfl⟩ := h
    obtain ⟨ns, rfl, rfl⟩ := rowsStr_ints rows l2 hl2
    unfold rowByte at hb
    split at hb
    · rename_i n; obtain rfl := Option.some.inj hb; exact ⟨n :: ns, rfl, rfl⟩
    · cases hb
def isBytes (P : Program) (t : TypeId) : Bool := match elemOf' P t with | some e => (match P.underlying e with | some (.int .u8) => true | _ => false) | none => false
theorem Step.bytesStr {o : Oper} {ρ : Operand → AV} {h : Hp} {s d : TypeId} {x : Operand} {rows : List (List AV)} {r : ByteArray} (ho : o.op = .convert s d x) (hs : isBytes P s = true) (hd : P.underlying d = some .string)
    (hx : srcA h 1 (ρ x) = some rows) (hr : rowsStr rows = some r) : Step P o ρ h (.str r) h := by
  refine Step.still fun I ι w a hrel hv => ?_
  have h1 := hv x (by simp [ho, Op.operands])
  obtain ⟨⟨ad, n, c, e1, rfl, hsrc⟩, hrow⟩ := srcA_real hrel h1 hx
  unfold isBytes at hs
  split at hs
  · rename_i e he
    have hu := elemOf_slice he
    have hue : P.underlying e = some (.int .u8) := by split at hs <;> simp_all
    unfold rowsStr at hr
    simp only [Option.map_eq_some_iff] at hr
    obtain ⟨l, hl, rfl⟩ := hr
    obtain ⟨ns, rfl, rfl⟩ := rowsStr_ints _ _ hl
    refine ⟨_, ?_, .str _⟩
    unfold execOp
    simp only [ho, e1]
    rw [Sem.run_bind, run_convert_bytes_string w s d e _ _ c hu hue hd]
    by_cases h0 : ns = []
    · subst h0
      cases ad with
      | none => simp [Conv.bytesToString]; rfl
      | some ad =>
        rw [run_bytesToString (P := P) w ad _ c [] (by simp [loadCells, loadCellsFrom])]
        simp; rfl
    · obtain ⟨ad, rfl, news, hnl, hnc, hn1, hnv⟩ := hsrc (by simpa using h0)
      have hnews : news = ns.map (Value.int .u8) := by
        apply List.ext_getElem?
        intro j
        simp only [List.length_map, Nat.mul_one] at hnl
        by_cases hj : j < ns.length
        · have := hnv j [.int .u8 ns[j]] 0 (.int .u8 ns[j]) news[j] (by simp [hj]) rfl (by simp [hnl, hj])
          rw [List.getElem?_eq_getElem (by omega), this.int_inv]
          simp [hj]
        · rw [List.getElem?_eq_none (by omega), List.getElem?_eq_none (by simp; omega)]
      have hld := run_loadCells_list (P := P) w ad (ns.map (Value.int .u8)) (fun j v hj => hnc j v (by rw [hnews]; exact hj))
      simp only [List.length_map] at hld ⊢
      rw [run_bytesToString w ad ns.length c ns hld, foldl_push]
      simp
  · cases hs

theorem Step.nilCheck {o : Oper} {ρ : Operand → AV} {h : Hp} {x : Operand} (ho : o.op = .nilCheck x) (hx : (match ρ x with | .ptr .. | .eptr .. | .iptr .. => true | _ => false) = true) : Step P o ρ h (ρ x) h := by
  refine Step.still fun I ι w a hrel hv => ?_
  have h1 := hv x (by simp [ho, Op.operands])
  obtain ⟨ad, had⟩ : ∃ ad, a.eval x = .pointer (some ad) := by
    generalize ρ x = y at h1 hx
    generalize a.eval x = v at h1
    cases h1 <;> first | exact ⟨_, rfl⟩ | cases hx
  refine ⟨_, ?_, h1⟩
  unfold execOp
  simp [ho, had]
end Go.Vs
