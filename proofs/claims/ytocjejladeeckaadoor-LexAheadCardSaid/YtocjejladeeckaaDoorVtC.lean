import Derived.Test.YtocjejladeeckaaDoorVtB
import Derived.Laws.Entries
/-! Single operations. -/
set_option linter.unusedVariables false
set_option linter.unusedSectionVars false
set_option linter.unusedSimpArgs false
namespace Go.Vs
variable [Tab]
variable {P : Program}

/-! ### What the table of types says -/
def aggOf (P : Program) (t : TypeId) : Option Bool := (P.underlying t).map fun | .struct _ | .array _ _ => true | _ => false
def tsz (P : Program) (t : TypeId) : Option Nat := (P.info? t).map (·.size)
def tzero (P : Program) (t : TypeId) : Option (List AV) := ((P.info? t).bind (·.zero)).map fun v => v.cells.toList.map ofC1
/-- The places and sizes of a struct's fields. -/
def plc (P : Program) (t : TypeId) : Option (List (Nat × Nat)) :=
  match P.underlying t with
  | some (.struct fs) => fs.toList.mapM fun f => (tsz P f.type).map fun n => (f.offset, n)
  | _ => none
def fld (P : Program) (t : TypeId) (i : Nat) : Option (Nat × Nat) := (plc P t).bind (·[i]?)

theorem run_underlying' {t : TypeId} {d : TypeDesc} (h : P.underlying t = some d) (w : World) : (underlying t).run P w = .ok d w := run_underlying h w
theorem run_isAgg' {t : TypeId} {b : Bool} (h : aggOf P t = some b) (w : World) : (isAgg t).run P w = .ok b w := by
  unfold aggOf at h
  cases hu : P.underlying t with
  | none => simp [hu] at h
  | some d =>
    simp only [hu, Option.map_some, Option.some.injEq] at h
    unfold isAgg
    rw [Sem.run_bind, run_underlying hu w]
    cases d <;> simp_all
theorem run_sizeOf' {t : TypeId} {n : Nat} (h : tsz P t = some n) (w : World) : (sizeOf t).run P w = .ok n w := by
  unfold tsz at h
  cases hu : P.info? t with
  | none => simp [hu] at h
  | some d => simp [hu] at h; simp [sizeOf, typeInfo, hu, h]

/-! ### Rows of cells behind a pointer -/
def rowOf (h : Hp) : AV → Option (List AV × Nat)
  | .ptr b ver off => match h[b]? with
    | some (.cells cs v _) => if v = ver then some (cs, off) else none
    | _ => none
  | .eptr b ver esz k j => match h[b]? with
    | some (.rows rs e v _) => if v = ver ∧ e = esz then rs[k]?.map fun r => (r, j) else none
    | _ => none
  | .iptr cs off => some (cs, off)
  | _ => none

theorem addr_add (c o n : Nat) : (⟨c, o, none⟩ : Addr).add n = ⟨c, o + n, none⟩ := by unfold Addr.add; split <;> simp_all

theorem row_real {I ι h w p v cs off} (hr : Rel I ι h w) (hv : VR I w ι p v) (he : rowOf h p = some (cs, off)) :
    ∃ c base, v = .pointer (some ⟨c, base + off, none⟩) ∧ ∀ (j : Nat) x, cs[j]? = some x → ∃ y, w.cell? ⟨c, base + j, none⟩ = some y ∧ VR I w ι x y := by
  unfold rowOf at he
  split at he
  · rename_i b ver off'
    split at he
    · rename_i cs' v' ty hb'
      split at he
      · rename_i e
        simp only [Option.some.injEq, Prod.mk.injEq] at he
        obtain ⟨rfl, rfl⟩ := he
        obtain ⟨a, c, cur, sz, rfl, hb, hver, hc⟩ := hv.ptr_inv
        obtain ⟨e1, arr, harr, hsz, hle, hx⟩ := hr.real b _ _ hb hb'
        refine ⟨c, 0, by rw [hc (by omega)]; simp, fun j x hj => ?_⟩
        have hlt : j < arr.size := by
          have := (List.getElem?_eq_some_iff.1 hj).1
          omega
        refine ⟨arr[j], by simp [World.cell?, harr, hlt], hx j x arr[j] hj (by simp [hlt])⟩
      · cases he
    · cases he
  · rename_i b ver esz k j
    split at he
    · rename_i rs e v ty hb'
      split at he
      · rename_i e
        obtain ⟨rfl, rfl⟩ := e
        simp only [Option.map_eq_some_iff, Prod.mk.injEq] at he
        obtain ⟨r, hr1, rfl, rfl⟩ := he
        obtain ⟨a, c, cur, sz, rfl, hb, hver, hc⟩ := hv.eptr_inv
        obtain ⟨e1, e0, arr, harr, hsz, hle, hlen, hx⟩ := hr.real b _ _ hb hb'
        refine ⟨c, k * e, by rw [hc (by omega)], fun j' x hj => ?_⟩
        have hk : k < rs.length := (List.getElem?_eq_some_iff.1 hr1).1
        have hj2 : j' < e := by rw [← hlen k _ hr1]; exact (List.getElem?_eq_some_iff.1 hj).1
        have hm : (k + 1) * e ≤ rs.length * e := Nat.mul_le_mul_right _ hk
        rw [Nat.add_mul, Nat.one_mul] at hm
        have hlt : k * e + j' < arr.size := by omega
        refine ⟨arr[k * e + j'], by simp [World.cell?, harr, hlt], hx k _ j' x arr[k * e + j'] hr1 hj (by simp [hlt])⟩
      · cases he
    · cases he
  · simp only [Option.some.injEq, Prod.mk.injEq] at he
    obtain ⟨rfl, rfl⟩ := he
    obtain ⟨c, base, rfl, _, hx⟩ := hv.iptr_inv
    refine ⟨c, base, rfl, fun j x hj => ?_⟩
    obtain ⟨y, hy, hyv⟩ := hx j x hj
    exact ⟨y, hy, hyv.pure ι⟩
  · cases he

def ldA (agg : Bool) (n : Nat) : Option (List AV × Nat) → Option AV
  | some (cs, off) => if agg then (if off + n ≤ cs.length then some (.agg ((cs.drop off).take n)) else none) else cs[off]?
  | none => none

theorem Step.load {o : Oper} {ρ : Operand → AV} {h : Hp} {t : TypeId} {x : Operand} {agg : Bool} {n : Nat} {r : AV} (ho : o.op = .load t x) (ha : aggOf P t = some agg) (hn : tsz P t = some n)
    (hl : ldA agg n (rowOf h (ρ x)) = some r) : Step P o ρ h r h := by
  refine Step.still fun I ι w a hr hx => ?_
  have hp := hx x (by simp [ho, Op.operands])
  cases he : rowOf h (ρ x) with
  | none => simp [he, ldA] at hl
  | some q =>
    obtain ⟨cs, off⟩ := q
    obtain ⟨c, base, hv, hcell⟩ := row_real hr hp he
    rw [he] at hl
    simp only [ldA] at hl
    cases agg with
    | false =>
      simp only [Bool.false_eq_true, if_false] at hl
      obtain ⟨y, hy, hvr⟩ := hcell off r hl
      refine ⟨y, ?_, hvr⟩
      unfold execOp
      simp [ho, hv, Instr.loadAt, Instr.sureAddr, loadVar, run_isAgg' ha, hy]
    | true =>
      simp only [if_true] at hl
      split at hl
      · rename_i hlen
        simp only [Option.some.injEq] at hl
        subst hl
        have hall : ∀ j, ∃ y, j < n → w.cell? ⟨c, base + off + j, none⟩ = some y ∧ ∀ x, cs[off + j]? = some x → VR I w ι x y := by
          intro j
          by_cases hj : j < n
          · obtain ⟨y, hy, hvr⟩ := hcell (off + j) cs[off + j] (List.getElem?_eq_getElem (by omega))
            refine ⟨y, fun _ => ⟨by rw [Nat.add_assoc]; exact hy, fun x hx => ?_⟩⟩
            rw [List.getElem?_eq_getElem (by omega)] at hx
            obtain rfl := Option.some.inj hx
            exact hvr
          · exact ⟨undef, fun h => absurd h hj⟩
        have hf := fun j => Classical.choose_spec (hall j)
        generalize (fun j => Classical.choose (hall j)) = f at hf
        refine ⟨.agg ((List.range n).map fun j => Classical.choose (hall j)).toArray, ?_, ?_⟩
        · unfold execOp
          have := run_loadCells (P := P) w ⟨c, base + off, none⟩ n (fun j => Classical.choose (hall j)) (fun j hj => by rw [addr_add]; exact (Classical.choose_spec (hall j) hj).1)
          simp [ho, hv, Instr.loadAt, Instr.sureAddr, loadVar, run_isAgg' ha, run_sizeOf' hn, this]
        · refine .agg (by simp; omega) fun j x y hx hy => ?_
          have hj : j < n := by
            have := (List.getElem?_eq_some_iff.1 hx).1
            simp at this; omega
          simp only [List.getElem?_toArray, List.getElem?_map, List.getElem?_range hj, Option.map_some, Option.some.injEq] at hy
          subst hy
          refine (Classical.choose_spec (hall j) hj).2 x ?_
          rw [List.getElem?_take_of_lt hj, List.getElem?_drop] at hx
          exact hx
      · cases hl

/-! ### New blocks, and cells written -/
def upd (ι : Io) (b : Nat) (x : Nat × Nat × Nat) : Io := fun b' => if b' = b then some x else ι b'
theorem upd_same (ι b x) : upd ι b x b = some x := by simp [upd]
theorem upd_other {ι b x b'} (h : b' ≠ b) : upd ι b x b' = ι b' := by simp [upd, h]

theorem alloc_old (w : World) (o : Obj) (c : Nat) (h : c < w.heap.size) : (w.alloc o).heap[c]? = w.heap[c]? := by
  show (w.heap.push o)[c]? = _
  rw [Array.getElem?_push, if_neg (by omega)]
theorem alloc_new (w : World) (o : Obj) : (w.alloc o).heap[w.heap.size]? = some o := by
  show (w.heap.push o)[w.heap.size]? = _
  rw [Array.getElem?_push, if_pos rfl]
theorem alloc_size' (w : World) (o : Obj) : (w.alloc o).heap.size = w.heap.size + 1 := by
  show (w.heap.push o).size = _
  simp

theorem BR.mono {I I' : Nat → Prop} {w w' : World} {ι ι' : Io} (hI : ∀ c, I c → I' c) (hw : ∀ c, I c → w'.heap[c]? = w.heap[c]?)
    (hi : ∀ b, Moved ι ι' b) {o : LO} {x : Nat × Nat × Nat} (hx : w'.heap[x.1]? = w.heap[x.1]?) (h : BR I w ι o x) : BR I' w' ι' o x := by
  obtain ⟨c, cur, sz⟩ := x
  have mono : ∀ {a : AV} {v : Value}, VR I w ι a v → VR I' w' ι' a v := fun h => h.mono hI hw ι' (fun b => (hi b).1) (fun b => (hi b).2)
  cases o with
  | cells cs ver ty =>
    obtain ⟨e, arr, h1, h2, h3, h4⟩ := h
    exact ⟨e, arr, by rw [hx]; exact h1, h2, h3, fun j x y hj hy => mono (h4 j x y hj hy)⟩
  | rows rs esz ver ty =>
    obtain ⟨e, e0, arr, h1, h2, h3, h4, h5⟩ := h
    exact ⟨e, e0, arr, by rw [hx]; exact h1, h2, h3, h4, fun i r j x y hi hj hy => mono (h5 i r j x y hi hj hy)⟩
  | siter s pos => obtain ⟨e1, e2, h1⟩ := h; exact ⟨e1, e2, by rw [hx]; exact h1⟩
  | map es =>
    obtain ⟨e1, e2, ents, clock, h1, h2, h3, h4, h5⟩ := h
    exact ⟨e1, e2, ents, clock, by rw [hx]; exact h1, h2, h3, h4, fun j x e hj he => ⟨mono (h5 j x e hj he).1, mono (h5 j x e hj he).2⟩⟩
  | dead => trivial

theorem Ext.alloc {I ι h w} (hr : Rel I ι h w) (hf : ι h.length = none) (o : LO) (ob : Obj) (cur sz : Nat) (ho : o.live = true)
    (hb : ∀ w' ι', w' = w.alloc ob → ι' = upd ι h.length (w.heap.size, cur, sz) → (∀ x v, VR I w ι x v → VR I w' ι' x v) → BR I w' ι' o (w.heap.size, cur, sz)) :
    Ext I ι h w I (upd ι h.length (w.heap.size, cur, sz)) (h ++ [o]) (w.alloc ob) := by
  have hmv : ∀ b, Moved ι (upd ι h.length (w.heap.size, cur, sz)) b := fun b => by
    by_cases e : b = h.length
    · subst e; exact ⟨fun c u s hc => (by rw [hf] at hc; cases hc), fun c hc => (by rw [hf] at hc; cases hc)⟩
    · exact Moved.of_eq (upd_other e)
  have hsame : ∀ c, c < w.heap.size → (w.alloc ob).heap[c]? = w.heap[c]? := fun c hc => alloc_old w ob c hc
  have hIs : ∀ c, I c → (w.alloc ob).heap[c]? = w.heap[c]? := fun c hc => hsame c (hr.ilt c hc)
  have mono : ∀ x v, VR I w ι x v → VR I (w.alloc ob) (upd ι h.length (w.heap.size, cur, sz)) x v :=
    fun x v hv => hv.mono (fun _ h => h) hIs _ (fun b => (hmv b).1) (fun b => (hmv b).2)
  have own : ∀ c, Own (upd ι h.length (w.heap.size, cur, sz)) (h ++ [o]) c → Own ι h c ∨ w.heap.size ≤ c := by
    rintro c ⟨b, ob', u, s, hb1, hb2, hb3⟩
    by_cases e : b = h.length
    · subst e; rw [upd_same] at hb3; simp at hb3; right; omega
    · rw [upd_other e] at hb3
      left
      refine ⟨b, ob', u, s, ?_, hb2, hb3⟩
      have hlt := (List.getElem?_eq_some_iff.1 hb1).1
      simp at hlt
      rwa [List.getElem?_append_left (by omega)] at hb1
  refine ⟨⟨?_, ?_, hr.tab.mono (fun _ h => h) hIs, ?_, ?_, ?_, ?_, ?_⟩, ⟨rfl, rfl, rfl, by rw [alloc_size']; omega, fun c hc _ => hsame c hc⟩, fun _ h => h, fun _ h => .inl h, own, hmv, ?_, by simp⟩
  · intro b x o' hx ho'
    by_cases e : b = h.length
    · subst e
      rw [upd_same] at hx
      obtain rfl := Option.some.inj hx
      simp at ho'
      subst ho'
      exact hb _ _ rfl rfl mono
    · rw [upd_other e] at hx
      have hlt := (List.getElem?_eq_some_iff.1 ho').1
      simp at hlt
      rw [List.getElem?_append_left (by omega)] at ho'
      exact BR.mono (fun _ h => h) hIs hmv (hsame _ (hr.lt b x hx)) (hr.real b x o' hx ho')
  · intro b o' ho' hl
    by_cases e : b = h.length
    · subst e; rw [upd_same]; rfl
    · have hlt := (List.getElem?_eq_some_iff.1 ho').1
      simp at hlt
      rw [List.getElem?_append_left (by omega)] at ho'
      rw [upd_other e]; exact hr.dom b o' ho' hl
  · intro b b' x x' hx hx' e
    by_cases e1 : b = h.length <;> by_cases e2 : b' = h.length
    · omega
    · subst e1; rw [upd_same] at hx; rw [upd_other e2] at hx'
      obtain rfl := Option.some.inj hx
      have := hr.lt _ _ hx'
      simp at e; omega
    · subst e2; rw [upd_same] at hx'; rw [upd_other e1] at hx
      obtain rfl := Option.some.inj hx'
      have := hr.lt _ _ hx
      simp at e; omega
    · rw [upd_other e1] at hx; rw [upd_other e2] at hx'
      exact hr.inj b b' x x' hx hx' e
  · intro c hc hI
    rcases own c hc with h' | h'
    · exact hr.sep c h' hI
    · have := hr.ilt c hI; omega
  · intro b x hb' hx
    simp at hb'
    have e : b ≠ h.length := by omega
    rw [upd_other e] at hx
    exact hr.far b x (by omega) hx
  · intro b x hx
    by_cases e : b = h.length
    · subst e; rw [upd_same] at hx; obtain rfl := Option.some.inj hx; rw [alloc_size']; simp
    · rw [upd_other e] at hx; have := hr.lt b x hx; rw [alloc_size']; omega
  · intro c hc; have := hr.ilt c hc; rw [alloc_size']; omega
  · intro b hb'
    simp at hb'
    exact upd_other (by omega)

theorem Own.lt {I ι h w c} (hr : Rel I ι h w) (ho : Own ι h c) : c < w.heap.size := by
  obtain ⟨b, o, u, s, _, _, hb⟩ := ho; exact hr.lt b _ hb

/-- A block of the call's own is written anew: its version and place stay. -/
theorem Ext.writeO {I ι h w} (hr : Rel I ι h w) {b : Nat} {o o' : LO} {ty : TypeId} {c cur sz : Nat} (hb : h[b]? = some o) (hlv : o.live = true) (hi : ι b = some (c, cur, sz))
    (arr arr' : Array Value) (harr : w.heap[c]? = some (.cells arr ty (0, 0))) (hlv' : o'.live = true)
    (hv : ∀ w', (∀ x v, VR I w ι x v → VR I w' ι x v) → w'.heap[c]? = some (.cells arr' ty (0, 0)) → BR I w' ι o' (c, cur, sz)) :
    Ext I ι h w I ι (h.set b o') (w.setRow c arr') := by
  have hlt : b < h.length := (List.getElem?_eq_some_iff.1 hb).1
  have hown : Own ι h c := ⟨b, _, cur, sz, hb, hlv, hi⟩
  have hsame : ∀ k, k ≠ c → (w.setRow c arr').heap[k]? = w.heap[k]? := fun k hk => setRow_other w c k arr' hk
  have hIs : ∀ k, I k → (w.setRow c arr').heap[k]? = w.heap[k]? := fun k hk => hsame k (fun e => hr.sep c hown (e ▸ hk))
  have mono : ∀ x v, VR I w ι x v → VR I (w.setRow c arr') ι x v := fun x v hv =>
    hv.mono (fun _ h => h) hIs _ (fun b => (Moved.refl ι b).1) (fun b => (Moved.refl ι b).2)
  have own : ∀ k, Own ι (h.set b o') k → Own ι h k := by
    rintro k ⟨b', o, u, s, h1, h2, h3⟩
    rw [List.getElem?_set] at h1
    split at h1
    · rename_i e
      subst e
      exact ⟨b, _, u, s, hb, hlv, h3⟩
    · exact ⟨b', o, u, s, h1, h2, h3⟩
  refine ⟨⟨?_, ?_, hr.tab.mono (fun _ h => h) hIs, hr.inj, fun k hk => hr.sep k (own k hk), ?_, ?_, ?_⟩, ⟨rfl, rfl, rfl, by simp, fun k hk hn => hsame k (fun e => hn (e ▸ hown))⟩, fun _ h => h, fun _ h => .inl h, fun k hk => .inl (own k hk), fun b => Moved.refl _ _, fun _ _ => rfl, by simp⟩
  · intro b' x o2 hx ho
    rw [List.getElem?_set] at ho
    split at ho
    · rename_i e
      subst e
      rw [hi] at hx
      obtain rfl := Option.some.inj hx
      have ho : some o' = some o2 := by simpa [hlt] using ho
      obtain rfl := Option.some.inj ho
      exact hv _ mono (setRow_heap w c arr arr' ty (0, 0) harr)
    · rename_i e
      have hne : x.1 ≠ c := fun e2 => e (hr.inj b' b x _ hx hi e2).symm
      exact BR.mono (fun _ h => h) hIs (fun b => Moved.refl _ _) (hsame _ hne) (hr.real b' x o2 hx ho)
  · intro b' o2 ho hl2
    rw [List.getElem?_set] at ho
    split at ho
    · rename_i e; subst e; rw [hi]; rfl
    · exact hr.dom b' o2 ho hl2
  · intro b' x hb' hx; exact hr.far b' x (by simpa using hb') hx
  · intro b' x hx; have := hr.lt b' x hx; simpa using this
  · intro k hk; have := hr.ilt k hk; simpa using this
theorem Ext.write {I ι h w} (hr : Rel I ι h w) {b : Nat} {cs cs' : List AV} {ver : Nat} {ty : TypeId} {c cur sz : Nat} (hb : h[b]? = some (.cells cs ver ty)) (hi : ι b = some (c, cur, sz))
    (arr' : Array Value) (hsz : arr'.size = sz) (hlen : cs'.length ≤ sz)
    (hv : ∀ (j : Nat) x y, cs'[j]? = some x → arr'[j]? = some y → VR I w ι x y) :
    Ext I ι h w I ι (h.set b (.cells cs' ver ty)) (w.setRow c arr') := by
  obtain ⟨e1, arr, harr, hasz, hale, _⟩ := hr.real b _ _ hi hb
  exact Ext.writeO hr hb rfl hi arr arr' harr rfl fun w' mono hw => ⟨e1, arr', hw, hsz, hlen, fun j x y hj hy => mono _ _ (hv j x y hj hy)⟩

/-! ### Scalars: values of one cell -/
def oneB : AV → Bool
  | .undef | .agg _ | .tuple _ => false
  | _ => true
theorem VR.one {I w ι x v} (h : VR I w ι x v) (hx : oneB x = true) : v.oneCell' = true := by
  cases h <;> first | rfl | simp [oneB] at hx

/-- The cells of a value. -/
def cellsOf : AV → List AV
  | .agg cs => cs
  | x => [x]
theorem VR.cells {I w ι x v} (h : VR I w ι x v) (hx : (cellsOf x).all oneB = true) : v.cells.size = (cellsOf x).length ∧ (∀ y ∈ v.cells, y.oneCell' = true) ∧
    ∀ (j : Nat) a b, (cellsOf x)[j]? = some a → v.cells[j]? = some b → VR I w ι a b := by
  by_cases hagg : ∃ cs, x = .agg cs
  · obtain ⟨cs, rfl⟩ := hagg
    obtain ⟨arr, rfl, hl, hxy⟩ := h.agg_inv
    refine ⟨hl, fun y hy => ?_, hxy⟩
    obtain ⟨j, hj, rfl⟩ := Array.getElem_of_mem hy
    have hj' : j < cs.length := by simp only [Value.cells] at hj; omega
    refine (hxy j cs[j] _ (by simp [hj']) (by simp [Value.cells] at hj ⊢)).one ?_
    exact (List.all_eq_true.1 hx) _ (List.getElem_mem hj')
  · have e : cellsOf x = [x] := by cases x <;> first | rfl | exact absurd ⟨_, rfl⟩ hagg
    rw [e] at hx ⊢
    have h1 := h.one (by simpa using hx)
    have e2 : v.cells = #[v] := by cases v <;> first | rfl | simp [Value.oneCell'] at h1
    rw [e2]
    refine ⟨rfl, by simpa using h1, fun j a b ha hb => ?_⟩
    cases j with
    | zero => simp at ha hb; subst ha; subst hb; exact h
    | succ j => simp at ha

/-- Cells laid over others from a place on. -/
def spl (cs : List AV) : Nat → List AV → List AV
  | _, [] => cs
  | off, x :: xs => spl (cs.set off x) (off + 1) xs
theorem spl_length (xs : List AV) : ∀ (cs : List AV) (off : Nat), (spl cs off xs).length = cs.length := by
  induction xs with
  | nil => intros; rfl
  | cons x xs ih => intro cs off; simp [spl, ih]
theorem spl_get (xs : List AV) : ∀ (cs : List AV) (off j : Nat), off + xs.length ≤ cs.length → (spl cs off xs)[j]? = if off ≤ j ∧ j < off + xs.length then xs[j - off]? else cs[j]? := by
  induction xs with
  | nil => intro cs off j h; simp [spl]; intros; omega
  | cons x xs ih =>
    intro cs off j h
    simp only [List.length_cons] at h
    rw [spl, ih _ _ _ (by simp; omega)]
    by_cases h1 : off + 1 ≤ j ∧ j < off + 1 + xs.length
    · rw [if_pos h1, if_pos ⟨by omega, by simp; omega⟩]
      have : j - off = (j - (off + 1)) + 1 := by omega
      rw [this, List.getElem?_cons_succ]
    · rw [if_neg h1, List.getElem?_set]
      by_cases h2 : off = j
      · subst h2; rw [if_pos rfl, if_pos (by omega), if_pos ⟨by omega, by simp⟩]; simp
      · rw [if_neg h2, if_neg (by simp; omega)]

/-! ### Store -/
theorem laid_get (arr : Array Value) (off : Nat) (xs : List Value) (hle : off + xs.length ≤ arr.size) (m : Nat) :
    ((arr.toList.take off ++ xs ++ arr.toList.drop (off + xs.length)).toArray)[m]? = if off ≤ m ∧ m < off + xs.length then xs[m - off]? else arr[m]? := by
  simp only [List.getElem?_toArray]
  have hmin : min off arr.size = off := by omega
  rw [List.append_assoc, List.getElem?_append]
  simp only [List.length_take, Array.length_toList, hmin]
  by_cases hj : m < off
  · rw [if_pos hj, if_neg (by omega), List.getElem?_take_of_lt hj]; simp
  · rw [if_neg hj, List.getElem?_append]
    by_cases hj2 : m < off + xs.length
    · rw [if_pos (by omega), if_pos (by omega)]
    · rw [if_neg (by omega), if_neg (by omega), List.getElem?_drop]
      have : off + xs.length + (m - off - xs.length) = m := by omega
      rw [this]; simp
def stA (h : Hp) (p : AV) (xs : List AV) : Option Hp :=
  match p with
  | .ptr b ver off => match h[b]? with
    | some (.cells cs v ty) => if v = ver then (if off + xs.length ≤ cs.length then some (h.set b (.cells (spl cs off xs) v ty)) else none) else none
    | _ => none
  | .eptr b ver esz k j => match h[b]? with
    | some (.rows rs e v ty) => if v = ver ∧ e = esz then match rs[k]? with
        | some r => if j + xs.length ≤ r.length then some (h.set b (.rows (rs.set k (spl r j xs)) e v ty)) else none
        | none => none
      else none
    | _ => none
  | _ => none

theorem Step.store {o : Oper} {ρ : Operand → AV} {h h' : Hp} {t : TypeId} {p x : Operand} (ho : o.op = .store t p x) (hn : tsz P t = some (cellsOf (ρ x)).length)
    (h1 : (cellsOf (ρ x)).all oneB = true) (hs : stA h (ρ p) (cellsOf (ρ x)) = some h') : Step P o ρ h .undef h' := by
  intro I ι w a hr _ hx next Q k
  have hp := hx p (by simp [ho, Op.operands])
  have hv := hx x (by simp [ho, Op.operands])
  obtain ⟨hc1, hc2, hc3⟩ := hv.cells h1
  have hsize : (a.eval x).cells.toList.length = (cellsOf (ρ x)).length := by simp [hc1]
  have run : ∀ (c off : Nat) (ty : TypeId) (arr : Array Value), a.eval p = .pointer (some ⟨c, off, none⟩) → w.heap[c]? = some (.cells arr ty (0, 0)) → off + (cellsOf (ρ x)).length ≤ arr.size →
      (execOp a.eval o).run P w = .ok .skip (w.setRow c (arr.toList.take off ++ (a.eval x).cells.toList ++ arr.toList.drop (off + (a.eval x).cells.toList.length)).toArray) := by
    intro c off ty arr hpe harr hle
    have hst := run_storeCells_at (P := P) c off ty (a.eval x).cells.toList 0 arr w harr (by simp [hc1]; omega) (fun y hy => hc2 y (by simpa using hy))
    unfold execOp
    simp only [ho, hpe, Instr.storeAt, Instr.sureAddr, storeVar]
    simp [run_sizeOf' hn, hc1, hst]
  generalize hg : ρ p = pp at hp hs
  unfold stA at hs
  split at hs
  · rename_i b ver off
    obtain ⟨ad, c, cur, sz, hpe, hb, hver, hcc⟩ := hp.ptr_inv
    split at hs
    · rename_i cs v ty hb'
      split at hs
      · rename_i e
        split at hs
        · rename_i hlen
          obtain rfl := Option.some.inj hs
          obtain ⟨e1, arr, harr, hasz, hale, hxy⟩ := hr.real b _ _ hb hb'
          have had := hcc (by omega)
          subst had
          have hrun := run c off ty arr hpe harr (by omega)
          unfold Oper.wp
          rw [hrun]
          refine k undef _ I ι (Ext.write hr hb' hb _ ?_ ?_ ?_) .undef
          · simp [hc1]; omega
          · rw [spl_length]; omega
          · intro j a' b' ha' hb2
            rw [spl_get _ _ _ _ hlen] at ha'
            rw [laid_get _ _ _ (by omega), hsize] at hb2
            by_cases hj : off ≤ j ∧ j < off + (cellsOf (ρ x)).length
            · rw [if_pos hj] at ha' hb2
              exact hc3 _ a' b' ha' (by simpa using hb2)
            · rw [if_neg hj] at ha' hb2
              exact hxy j a' b' ha' hb2
        · cases hs
      · cases hs
    · cases hs
  · rename_i b ver esz kk j0
    obtain ⟨ad, c, cur, sz, hpe, hb, hver, hcc⟩ := hp.eptr_inv
    split at hs
    · rename_i rs e v ty hb'
      split at hs
      · rename_i ee
        obtain ⟨rfl, rfl⟩ := ee
        split at hs
        · rename_i r hr1
          split at hs
          · rename_i hlen
            obtain rfl := Option.some.inj hs
            obtain ⟨e1, e0, arr, harr, hasz, hle, hrl, hxy⟩ := hr.real b _ _ hb hb'
            have had := hcc (by omega)
            subst had
            have hk : kk < rs.length := (List.getElem?_eq_some_iff.1 hr1).1
            have hre := hrl kk r hr1
            have hm : (kk + 1) * e ≤ rs.length * e := Nat.mul_le_mul_right _ hk
            rw [Nat.add_mul, Nat.one_mul] at hm
            have hrun := run c (kk * e + j0) ty arr hpe harr (by omega)
            unfold Oper.wp
            rw [hrun]
            refine k undef _ I ι (Ext.writeO hr hb' rfl hb arr _ harr rfl fun w' mono hw => ⟨e1, e0, _, hw, ?_, ?_, ?_, ?_⟩) .undef
            · simp [hc1]; omega
            · simp; exact hle
            · intro i r' hi
              rw [List.getElem?_set] at hi
              split at hi
              · simp [hk] at hi; rw [← hi, spl_length]; exact hre
              · exact hrl i r' hi
            · intro i r' j a' b' hi ha' hb2
              refine mono _ _ ?_
              rw [laid_get _ _ _ (by omega), hsize] at hb2
              rw [List.getElem?_set] at hi
              by_cases hik : kk = i
              · subst hik
                simp [hk] at hi
                subst hi
                rw [spl_get _ _ _ _ hlen] at ha'
                by_cases hj : j0 ≤ j ∧ j < j0 + (cellsOf (ρ x)).length
                · rw [if_pos hj] at ha'
                  rw [if_pos (by omega)] at hb2
                  have : kk * e + j - (kk * e + j0) = j - j0 := by omega
                  rw [this] at hb2
                  exact hc3 _ a' b' ha' (by simpa using hb2)
                · rw [if_neg hj] at ha'
                  rw [if_neg (by omega)] at hb2
                  exact hxy kk r j a' b' hr1 ha' hb2
              · rw [if_neg hik] at hi
                have hji : j < e := by rw [← hrl i r' hi]; exact (List.getElem?_eq_some_iff.1 ha').1
                rw [if_neg ?_] at hb2
                · exact hxy i r' j a' b' hi ha' hb2
                · rintro ⟨h1, h2⟩
                  rcases Nat.lt_or_ge i kk with hlt | hge
                  · have : (i + 1) * e ≤ kk * e := Nat.mul_le_mul_right _ hlt
                    rw [Nat.add_mul, Nat.one_mul] at this; omega
                  · have : (kk + 1) * e ≤ i * e := Nat.mul_le_mul_right _ (by omega)
                    rw [Nat.add_mul, Nat.one_mul] at this; omega
          · cases hs
        · cases hs
      · cases hs
    · cases hs
  · cases hs

end Go.Vs
