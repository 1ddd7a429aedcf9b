import Derived.Test.YtocjejladeeckaaDoorVtO
import Derived.Laws.AppendOwn
/-! Slices of the call's own: appended to, made, cut. -/
set_option linter.unusedVariables false
set_option linter.unusedSectionVars false
set_option linter.unusedSimpArgs false
namespace Go.Vs
variable [Tab]
variable {P : Program}

/-- A block of the call's own gets another place, or another version. -/
theorem Ext.renew {I ι h w w'} (hr : Rel I ι h w) {b : Nat} {o o' : LO} {c' cur' sz' : Nat} (hb : h[b]? = some o) (hlv : o.live = true)
    (hos : w'.os = w.os) (htape : w'.tape = w.tape) (hout : w'.output = w.output) (hsize : w.heap.size ≤ w'.heap.size)
    (hold : ∀ c, c < w.heap.size → (∀ cur sz, ι b ≠ some (c, cur, sz)) → w'.heap[c]? = w.heap[c]?)
    (hplace : (w.heap.size ≤ c' ∧ c' < w'.heap.size) ∨ ∃ cur sz, ι b = some (c', cur, sz))
    (hver : ∀ c cur sz, ι b = some (c, cur, sz) → 0 < cur ∧ cur < cur')
    (hbr : ∀ ι', (∀ x v, VR I w ι x v → VR I w' ι' x v) → BR I w' ι' o' (c', cur', sz')) :
    Ext I ι h w I (upd ι b (c', cur', sz')) (h.set b o') w' := by
  have hlt : b < h.length := (List.getElem?_eq_some_iff.1 hb).1
  have hownb : ∀ c cur sz, ι b = some (c, cur, sz) → Own ι h c := fun c cur sz e => ⟨b, o, cur, sz, hb, hlv, e⟩
  have hmv : ∀ b', Moved ι (upd ι b (c', cur', sz')) b' := fun b' => by
    by_cases e : b' = b
    · subst e
      refine ⟨fun c u s hc => ⟨c', cur', sz', upd_same _ _ _, ?_, fun e2 => ?_⟩, fun c hc => ?_⟩
      · have := hver c u s hc; omega
      · have := hver c u s hc; omega
      · have := hver c 0 0 hc; omega
    · exact Moved.of_eq (upd_other e)
  have hIs : ∀ k, I k → w'.heap[k]? = w.heap[k]? := fun k hk => hold k (hr.ilt k hk) fun cur sz e => hr.sep k (hownb k cur sz e) hk
  have mono : ∀ x v, VR I w ι x v → VR I w' (upd ι b (c', cur', sz')) x v := fun x v hv =>
    hv.mono (fun _ h => h) hIs _ (fun b => (hmv b).1) (fun b => (hmv b).2)
  have hothers : ∀ b' x, b' ≠ b → ι b' = some x → w'.heap[x.1]? = w.heap[x.1]? := fun b' x hne hx =>
    hold x.1 (hr.lt b' x hx) fun cur sz e => hne (hr.inj b' b x _ hx e rfl)
  have own : ∀ k, Own (upd ι b (c', cur', sz')) (h.set b o') k → Own ι h k ∨ w.heap.size ≤ k := by
    rintro k ⟨b', o2, u, s, h1, h2, h3⟩
    by_cases e : b' = b
    · subst e
      rw [upd_same] at h3
      simp only [Option.some.injEq, Prod.mk.injEq] at h3
      obtain ⟨rfl, _, _⟩ := h3
      rcases hplace with h | ⟨cur, sz, h⟩
      · exact .inr h.1
      · exact .inl (hownb _ cur sz h)
    · rw [upd_other e] at h3
      rw [List.getElem?_set, if_neg (fun e2 => e e2.symm)] at h1
      exact .inl ⟨b', o2, u, s, h1, h2, h3⟩
  have hc'lt : c' < w'.heap.size := by
    rcases hplace with h | ⟨cur, sz, h⟩
    · exact h.2
    · have := hr.lt b _ h; simp at this; omega
  refine ⟨⟨?_, ?_, hr.tab.mono (fun _ h => h) hIs, ?_, ?_, ?_, ?_, ?_⟩, ⟨hos, htape, hout, hsize, fun k hk hn => hold k hk fun cur sz e => hn (hownb k cur sz e)⟩, fun _ h => h, fun _ h => .inl h, own, hmv, ?_, by simp⟩
  · intro b' x o2 hx ho
    by_cases e : b' = b
    · subst e
      rw [upd_same] at hx
      obtain rfl := Option.some.inj hx
      simp [hlt] at ho
      subst ho
      exact hbr _ mono
    · rw [upd_other e] at hx
      rw [List.getElem?_set, if_neg (fun e2 => e e2.symm)] at ho
      exact BR.mono (fun _ h => h) hIs hmv (hothers b' x e hx) (hr.real b' x o2 hx ho)
  · intro b' o2 ho hl2
    by_cases e : b' = b
    · subst e; rw [upd_same]; rfl
    · rw [upd_other e]
      rw [List.getElem?_set, if_neg (fun e2 => e e2.symm)] at ho
      exact hr.dom b' o2 ho hl2
  · intro b1 b2 x x' hx hx' e
    by_cases e1 : b1 = b <;> by_cases e2 : b2 = b
    · omega
    · exfalso
      subst e1; rw [upd_same] at hx; rw [upd_other e2] at hx'
      obtain rfl := Option.some.inj hx
      rcases hplace with h | ⟨cur, sz, h⟩
      · have := hr.lt _ _ hx'; simp at e; omega
      · exact e2 (hr.inj b2 b1 x' _ hx' h e.symm)
    · exfalso
      subst e2; rw [upd_same] at hx'; rw [upd_other e1] at hx
      obtain rfl := Option.some.inj hx'
      rcases hplace with h | ⟨cur, sz, h⟩
      · have := hr.lt _ _ hx; simp at e; omega
      · exact e1 (hr.inj b1 b2 x _ hx h e)
    · rw [upd_other e1] at hx; rw [upd_other e2] at hx'
      exact hr.inj b1 b2 x x' hx hx' e
  · intro k hk hI
    rcases own k hk with h | h
    · exact hr.sep k h hI
    · have := hr.ilt k hI; omega
  · intro b' x hb' hx
    simp at hb'
    rw [upd_other (by omega)] at hx
    exact hr.far b' x hb' hx
  · intro b' x hx
    by_cases e : b' = b
    · subst e; rw [upd_same] at hx; obtain rfl := Option.some.inj hx; exact hc'lt
    · rw [upd_other e] at hx; have := hr.lt b' x hx; omega
  · intro k hk; have := hr.ilt k hk; omega
  · intro b' hb'
    simp at hb'
    exact upd_other (by omega)

/-- Nothing but what the proof sees is turned. -/
theorem Ext.still_set {I ι h w} (hr : Rel I ι h w) {b : Nat} {o o' : LO} (hb : h[b]? = some o) (hn : ι b = none) (hbn : o'.born = false) : Ext I ι h w I ι (h.set b o') w := by
  have hlt : b < h.length := (List.getElem?_eq_some_iff.1 hb).1
  have own : ∀ k, Own ι (h.set b o') k → Own ι h k := by
    rintro k ⟨b', o2, u, s, h1, h2, h3⟩
    by_cases e : b = b'
    · subst e; rw [hn] at h3; cases h3
    · rw [List.getElem?_set, if_neg e] at h1
      exact ⟨b', o2, u, s, h1, h2, h3⟩
  refine ⟨⟨?_, ?_, hr.tab, hr.inj, fun k hk => hr.sep k (own k hk), fun b' x hb' hx => hr.far b' x (by simpa using hb') hx, hr.lt, hr.ilt⟩, Keep.refl _ _ _, fun _ h => h, fun _ h => .inl h, fun k hk => .inl (own k hk), fun b => Moved.refl _ _, fun _ _ => rfl, by simp⟩
  · intro b' x o2 hx ho
    by_cases e : b = b'
    · subst e; rw [hn] at hx; cases hx
    · rw [List.getElem?_set, if_neg e] at ho; exact hr.real b' x o2 hx ho
  · intro b' o2 ho hl2
    by_cases e : b = b'
    · subst e; simp [hlt] at ho; subst ho; rw [hbn] at hl2; cases hl2
    · rw [List.getElem?_set, if_neg e] at ho; exact hr.dom b' o2 ho hl2

def rowsOk (k : Nat) (rows : List (List AV)) : Bool := rows.all fun r => r.length == k && r.all oneB && pureBs r
theorem rowsOk_get {k : Nat} {rows : List (List AV)} (h : rowsOk k rows = true) {i : Nat} {r : List AV} (hi : rows[i]? = some r) : r.length = k ∧ r.all oneB = true ∧ pureBs r = true := by
  have := (List.all_eq_true.1 h) r (List.mem_of_getElem? hi)
  simp only [Bool.and_eq_true, beq_iff_eq] at this
  exact ⟨this.1.1, this.1.2, this.2⟩
def bytesOf (P : Program) (t : TypeId) : Option Nat := (P.info? t).map (·.bytes)

/-- The cells of rows that lie somewhere, as values. -/
theorem rows_news {I w} {ι : Io} {k n : Nat} {rows : List (List AV)} (hk : ∀ (i : Nat) r, rows[i]? = some r → r.length = k ∧ r.all oneB = true) (hn : rows.length = n) {cell : Nat → Option Value}
    (hc : ∀ (i : Nat) r (j : Nat) x, rows[i]? = some r → r[j]? = some x → ∃ y, cell (i * k + j) = some y ∧ VR I w ι x y) :
    ∃ news : List Value, news.length = n * k ∧ (∀ j v, news[j]? = some v → cell j = some v) ∧ (∀ u ∈ news, u.oneCell' = true) ∧
      ∀ (i : Nat) r (j : Nat) x y, rows[i]? = some r → r[j]? = some x → news[i * k + j]? = some y → VR I w ι x y := by
  rcases Nat.eq_zero_or_pos k with rfl | hk0
  · exact ⟨[], by simp, by simp, by simp, by simp⟩
  have hall : ∀ m, ∃ y, m < n * k → cell m = some y ∧ y.oneCell' = true ∧ ∀ r x, rows[m / k]? = some r → r[m % k]? = some x → VR I w ι x y := by
    intro m
    by_cases hm : m < n * k
    · have hi : m / k < rows.length := by rw [hn]; exact (Nat.div_lt_iff_lt_mul hk0).2 hm
      have hj : m % k < k := Nat.mod_lt _ hk0
      obtain ⟨hrl, hr1⟩ := hk (m / k) rows[m / k] (List.getElem?_eq_getElem hi)
      have hjr : m % k < rows[m / k].length := by omega
      obtain ⟨y, hy, hv⟩ := hc (m / k) _ (m % k) _ (List.getElem?_eq_getElem hi) (List.getElem?_eq_getElem hjr)
      refine ⟨y, fun _ => ⟨by rw [← hy]; congr 1; rw [Nat.mul_comm]; exact (Nat.div_add_mod m k).symm, hv.one ((List.all_eq_true.1 hr1) _ (List.getElem_mem hjr)), fun r x hr hx => ?_⟩⟩
      rw [List.getElem?_eq_getElem hi] at hr
      obtain rfl := Option.some.inj hr
      rw [List.getElem?_eq_getElem hjr] at hx
      obtain rfl := Option.some.inj hx
      exact hv
    · exact ⟨undef, fun h => absurd h hm⟩
  have hsp := fun m => Classical.choose_spec (hall m)
  refine ⟨(List.range (n * k)).map fun m => Classical.choose (hall m), by simp, ?_, ?_, ?_⟩
  · intro j v hj
    have hjl : j < n * k := by have := (List.getElem?_eq_some_iff.1 hj).1; simpa using this
    simp only [List.getElem?_map, List.getElem?_range hjl, Option.map_some, Option.some.injEq] at hj
    subst hj
    exact (hsp j hjl).1
  · intro u hu
    simp only [List.mem_map, List.mem_range] at hu
    obtain ⟨m, hm, rfl⟩ := hu
    exact (hsp m hm).2.1
  · intro i r j x y hi hj hy
    have hjk : j < k := by rw [← (hk i r hi).1]; exact (List.getElem?_eq_some_iff.1 hj).1
    have hm : i * k + j < n * k := by have := (List.getElem?_eq_some_iff.1 hy).1; simpa using this
    simp only [List.getElem?_map, List.getElem?_range hm, Option.map_some, Option.some.injEq] at hy
    subst hy
    have e1 : (i * k + j) / k = i := by rw [Nat.mul_comm, Nat.mul_add_div hk0, Nat.div_eq_of_lt hjk]; simp
    have e2 : (i * k + j) % k = j := by rw [Nat.mul_comm, Nat.mul_add_mod, Nat.mod_eq_of_lt hjk]
    exact (hsp _ hm).2.2 r x (by rw [e1]; exact hi) (by rw [e2]; exact hj)

/-- What a source of an append, or a copy, must be. -/
def Src (I : Nat → Prop) (ι : Io) (w : World) (k : Nat) (rows : List (List AV)) (v : Value) : Prop :=
  ∃ a n c, v = .slice a n c ∧ n = rows.length ∧ (rows ≠ [] → ∃ ad : Addr, a = some ad ∧ ∃ news : List Value, news.length = n * k ∧ (∀ j v, news[j]? = some v → w.cell? (ad.add j) = some v) ∧ (∀ u ∈ news, u.oneCell' = true) ∧
      ∀ (i : Nat) r (j : Nat) x y, rows[i]? = some r → r[j]? = some x → news[i * k + j]? = some y → VR I w ι x y)
theorem Src.sl {I ι w k rows v} (h : VR I w ι (.sl rows) v) (hr : ∀ (i : Nat) r, rows[i]? = some r → r.length = k ∧ r.all oneB = true) : Src I ι w k rows v := by
  obtain ⟨⟨a, cap, e⟩, hx⟩ := h.sl_inv
  refine ⟨a, rows.length, cap, e, rfl, fun hne => ?_⟩
  obtain ⟨r0, hr0⟩ : ∃ r, rows[0]? = some r := ⟨rows[0]'(List.length_pos_iff.2 hne), List.getElem?_eq_getElem _⟩
  obtain ⟨c, off, cap', e', hI, hcap, _⟩ := hx 0 r0 hr0
  rw [e] at e'
  injection e' with e1 e2 e3
  subst e1
  refine ⟨_, rfl, rows_news hr rfl (cell := fun j => w.cell? ((⟨c, off, none⟩ : Addr).add j)) fun i r j x hi hj => ?_⟩
  obtain ⟨c2, off2, cap2, e2', hI2, hcap2, hcell⟩ := hx i r hi
  rw [e] at e2'
  injection e2' with e1 e2 e3
  simp only [Option.some.injEq, Addr.mk.injEq] at e1
  obtain ⟨rfl, rfl, _⟩ := e1
  obtain ⟨y, hy, hv⟩ := hcell j x hj
  rw [(hr i r hi).1] at hy
  exact ⟨y, by rw [addr_add]; exact hy, hv.pure ι⟩
theorem Src.msl {I ι h w b ver off k len cap rs ty v} (hrel : Rel I ι h w) (hv : VR I w ι (.msl b ver off k len cap) v) (hh : h[b]? = some (.rows rs k ver ty)) (hle : off + len ≤ rs.length)
    (h1 : ∀ (i : Nat) r, rs[i]? = some r → r.all oneB = true) : Src I ι w k ((rs.drop off).take len) v := by
  have hlen : ((rs.drop off).take len).length = len := by simp; omega
  have hget : ∀ (i : Nat) r, ((rs.drop off).take len)[i]? = some r → rs[off + i]? = some r ∧ i < len := by
    intro i r hi
    have := (List.getElem?_eq_some_iff.1 hi).1
    rw [hlen] at this
    rw [List.getElem?_take_of_lt this, List.getElem?_drop] at hi
    exact ⟨hi, this⟩
  rcases hv.msl_inv with ⟨a, n, ccap, c, cur, sz, rfl, hib, hver, hcc⟩ | ⟨rfl, rfl, rfl⟩
  · obtain ⟨e1, e0, arr, harr, hsz, hle2, hlens, hx⟩ := hrel.real b _ _ hib hh
    obtain ⟨had, rfl, hcap, hncap, hroom⟩ := hcc e1
    refine ⟨some a, n, ccap, rfl, hlen.symm, fun hne => ?_⟩
    have hn0 : n ≠ 0 := fun e => hne (by apply List.eq_nil_of_length_eq_zero; omega)
    obtain rfl := had.resolve_right (by omega)
    refine ⟨_, rfl, rows_news (fun i r hi => ⟨hlens _ r (hget i r hi).1, h1 _ r (hget i r hi).1⟩) hlen (cell := fun j => w.cell? ((⟨c, off * k, none⟩ : Addr).add j)) fun i r j x hi hj => ?_⟩
    obtain ⟨hi', hin⟩ := hget i r hi
    have hjk : j < k := by rw [← hlens _ r hi']; exact (List.getElem?_eq_some_iff.1 hj).1
    have hm : (off + i + 1) * k ≤ rs.length * k := Nat.mul_le_mul_right _ (by omega)
    rw [Nat.add_mul, Nat.one_mul] at hm
    have hlt : (off + i) * k + j < arr.size := by omega
    have he : off * k + (i * k + j) = (off + i) * k + j := by rw [Nat.add_mul]; omega
    exact ⟨arr[(off + i) * k + j], by simp [addr_add, World.cell?, harr, he, hlt], hx _ r j x _ hi' hj (by simp [hlt])⟩
  · refine ⟨none, 0, 0, rfl, by simp, fun hne => absurd (by simp) hne⟩

theorem run_storeCells_nil (a : Addr) (w : World) : (storeCells a []).run P w = .ok () w := by simp [storeCells]

theorem run_append_zero {t ty e : TypeId} {i : TypeInfo} (ht : P.underlying t = some (.slice e)) (hi : P.info? e = some i) (base : Option Addr) (sLen sCap : Nat) (hle : sLen ≤ sCap) (a : Option Addr) (c : Nat) (w : World) :
    (Builtin.append_ #[t, t] ty #[.slice base sLen sCap, .slice a 0 c]).run P w = .ok (.slice base sLen sCap) w := by
  cases a with
  | none => cases base <;> simp [Builtin.append_, run_underlying ht, sizeOf, typeInfo, hi, Builtin.lenOf, hle, run_firstCells_none, run_storeCells_nil]
  | some a =>
    have hf := run_firstCells_some (P := P) w i.size 0 a 0 c [] (by simp) (by simp)
    cases base <;> simp [Builtin.append_, run_underlying ht, sizeOf, typeInfo, hi, Builtin.lenOf, hle, hf, run_storeCells_nil]

theorem zero_size {t : TypeId} {i : TypeInfo} {z : List AV} (hi : P.info? t = some i) (hz : tzero P t = some z) : ∃ v : Value, i.zero = some v ∧ v.cells.size = z.length := by
  unfold tzero at hz
  rw [hi] at hz
  cases hv : i.zero with
  | none => simp [hv] at hz
  | some v => simp [hv] at hz; subst hz; exact ⟨v, rfl, by simp⟩

theorem zeroCells_size (z : Array Value) (n : Nat) : (Builtin.zeroCells z n).size = n * z.size := by simp [Builtin.zeroCells]

/-- What a slice of the call's own becomes when rows are put behind it. -/
theorem append_core {t ty e : TypeId} {k b ver len cap bts : Nat} {z : List AV} {rs rows2 : List (List AV)} (ht : P.underlying t = some (.slice e)) (hk : tsz P e = some k) (hk0 : k ≠ 0) (hz : tzero P e = some z) (hzk : z.length = k)
    (hb : bytesOf P e = some bts) (hb2 : bts ≤ 32768) {I ι h w} (hr : Rel I ι h w) {v u : Value} (hv : VR I w ι (.msl b ver 0 k len cap) v) (hh : h[b]? = some (.rows rs k ver e)) (hlen : len ≤ rs.length)
    (hs : Src I ι w k rows2 u) (hr2 : ∀ (i : Nat) r, rows2[i]? = some r → r.length = k) (hn : len + rows2.length ≤ 4294967296) :
    ∃ v' w' ι', (Builtin.append_ #[t, t] ty #[v, u]).run P w = .ok v' w' ∧ Ext I ι h w I ι' (h.set b (.rows (rs.take len ++ rows2) k (ver + 1) e)) w' ∧ VR I w' ι' (.msl b (ver + 1) 0 k (len + rows2.length) (len + rows2.length)) v' := by
  obtain ⟨i, hi, hik⟩ : ∃ i, P.info? e = some i ∧ i.size = k := by
    unfold tsz at hk
    cases hi : P.info? e with
    | none => simp [hi] at hk
    | some i => simp [hi] at hk; exact ⟨i, rfl, hk⟩
  obtain ⟨zv, hzv, hzs⟩ := zero_size hi hz
  rw [hzk] at hzs
  have hbt : i.bytes = bts := by unfold bytesOf at hb; simp [hi] at hb; exact hb
  obtain ⟨ua, un, uc, rfl, rfl, hsrc⟩ := hs
  have hlt : b < h.length := (List.getElem?_eq_some_iff.1 hh).1
  have hrow1 : ∀ cur sz c, ι b = some (c, cur, sz) → (∀ (i : Nat) r, rs[i]? = some r → r.length = k) := fun cur sz c hib2 => (hr.real b _ _ hib2 hh).2.2.choose_spec.2.2.2.1
  have hrl : ∀ (hrs : ∀ (i : Nat) r, rs[i]? = some r → r.length = k), ∀ (i : Nat) r, (rs.take len ++ rows2)[i]? = some r → r.length = k := by
    intro hrs i r hir
    rw [List.getElem?_append] at hir
    split at hir
    · rw [List.getElem?_take] at hir
      split at hir
      · exact hrs i r hir
      · cases hir
    · exact hr2 _ r hir
  have htl : (rs.take len).length = len := by simp; omega
  have hget : ∀ (i : Nat) r, (rs.take len ++ rows2)[i]? = some r → (i < len ∧ rs[i]? = some r) ∨ (len ≤ i ∧ rows2[i - len]? = some r) := by
    intro i r hir
    rw [List.getElem?_append, htl] at hir
    split at hir
    · rename_i hlt2; rw [List.getElem?_take_of_lt hlt2] at hir; exact .inl ⟨hlt2, hir⟩
    · exact .inr ⟨by omega, hir⟩
  have hmul : ∀ i j n : Nat, i < n → j < k → i * k + j < n * k := by
    intro i j n h1 h2
    have : (i + 1) * k ≤ n * k := Nat.mul_le_mul_right _ h1
    rw [Nat.add_mul, Nat.one_mul] at this; omega
  rcases hv.msl_inv with ⟨a, n, ccap, c, cur, sz, rfl, hib, hver, hcc⟩ | ⟨rfl, rfl, rfl⟩
  · obtain ⟨e1, e0, arr, harr, hsz, hle2, hlens, hx⟩ := hr.real b _ _ hib hh
    obtain ⟨had, rfl, hcap, hncap, hroom⟩ := hcc e1
    simp only [Nat.zero_add, Nat.zero_mul] at hroom had
    by_cases h0 : rows2.length = 0
    · have hr0 : rows2 = [] := List.eq_nil_of_length_eq_zero h0
      subst hr0
      refine ⟨_, w, upd ι b (c, ver + 1, sz), run_append_zero ht hi (some a) n ccap hncap ua uc w, Ext.renew hr hh rfl rfl rfl rfl (Nat.le_refl _) (fun _ _ _ => rfl) (.inr ⟨cur, sz, hib⟩) (fun c' u s hc => ?_) (fun ι' mono => ?_), ?_⟩
      · rw [hib] at hc; simp only [Option.some.injEq, Prod.mk.injEq] at hc; omega
      · refine ⟨rfl, by omega, arr, harr, hsz, ?_, hrl hlens, fun i r j x y hi hj hy => ?_⟩
        · simp only [List.append_nil, htl]
          exact Nat.le_trans (Nat.mul_le_mul_right _ hlen) hle2
        · rcases hget i r hi with ⟨_, h2⟩ | ⟨_, h2⟩
          · exact mono _ _ (hx i r j x y h2 hj hy)
          · simp at h2
      · simp only [List.length_nil, Nat.add_zero]
        exact .msl c (ver + 1) sz (upd_same _ _ _) (Nat.le_refl _) fun _ => ⟨by simpa using had, rfl, hncap, hncap, by simpa using hroom⟩
    · obtain ⟨ad, rfl, news, hnl, hnc, hn1, hnv⟩ := hsrc (by intro e; subst e; simp at h0)
      rw [← hik] at hnl
      by_cases hroom2 : n + rows2.length ≤ ccap
      · obtain rfl := had.resolve_right (by omega)
        have hnk : (n + rows2.length) * k ≤ ccap * k := Nat.mul_le_mul_right _ hroom2
        rw [Nat.add_mul] at hnk
        have hnl' : news.length = rows2.length * k := by rw [hnl, hik]
        have hfit : n * i.size + news.length ≤ arr.size := by rw [hik]; omega
        have hrun := run_append_room (P := P) w t ty e i ht hi c n ccap arr harr ad rows2.length uc news hnl hnc hn1 hroom2 hfit
        refine ⟨_, _, upd ι b (c, ver + 1, sz), hrun, Ext.renew hr hh rfl (by simp) (by simp) (by simp) (by simp) (fun k' hk' hne => setRow_other w c k' _ (fun e => hne cur sz (e ▸ hib))) (.inr ⟨cur, sz, hib⟩) (fun c' u s hc => ?_) (fun ι' mono => ?_), ?_⟩
        · rw [hib] at hc; simp only [Option.some.injEq, Prod.mk.injEq] at hc; omega
        · refine ⟨rfl, by omega, _, setRow_heap w c arr _ e _ harr, ?_, ?_, hrl hlens, fun i2 r j x y hi2 hj hy => mono _ _ ?_⟩
          · simp; omega
          · simp only [List.length_append, htl]; rw [Nat.add_mul]; omega
          · have hjk : j < k := by rw [← hrl hlens i2 r hi2]; exact (List.getElem?_eq_some_iff.1 hj).1
            rw [laid_get _ _ _ (by rw [hik]; omega), hik] at hy
            rcases hget i2 r hi2 with ⟨h1, h2⟩ | ⟨h1, h2⟩
            · have := hmul i2 j n h1 hjk
              rw [if_neg (by omega)] at hy
              exact hx i2 r j x y h2 hj hy
            · have hi2l : i2 - n < rows2.length := (List.getElem?_eq_some_iff.1 h2).1
              have hlow : n * k ≤ i2 * k := Nat.mul_le_mul_right _ h1
              have := hmul (i2 - n) j rows2.length hi2l hjk
              have he : i2 * k + j - n * k = (i2 - n) * k + j := by rw [Nat.sub_mul]; omega
              have he3 : (i2 - n) * k = i2 * k - n * k := Nat.sub_mul _ _ _
              rw [if_pos (by omega), he] at hy
              exact hnv (i2 - n) r j x y h2 hj hy
        · exact .msl c (ver + 1) sz (upd_same _ _ _) (Nat.le_refl _) fun _ => ⟨.inl (by simp), rfl, hroom2, hroom2, by simpa using hroom⟩
      · have hold : ∃ olds : List Value, olds.length = n * i.size ∧ (∀ j v, olds[j]? = some v → w.cell? (a.add j) = some v) ∧ ∀ j, j < n * k → olds[j]? = arr[j]? := by
          by_cases hn0 : n = 0
          · subst hn0; exact ⟨[], by simp, by simp, by simp⟩
          · obtain rfl := had.resolve_right (by omega)
            have hle3 : n * k ≤ arr.size := by
              have := Nat.mul_le_mul_right k hncap; omega
            refine ⟨arr.toList.take (n * k), by simp [hik]; omega, fun j v hj => ?_, fun j hj => by rw [List.getElem?_take_of_lt hj]; simp⟩
            have hjl := (List.getElem?_eq_some_iff.1 hj).1
            simp at hjl
            rw [List.getElem?_take_of_lt (by omega)] at hj
            simp only [addr_add, Nat.zero_add, World.cell?, harr]
            simpa using hj
        obtain ⟨olds, hol, hoc, hoa⟩ := hold
        have hrun := run_append_grow (P := P) w t ty e i zv ht hi hzv a n ccap olds hol hoc ad rows2.length uc news hnl hnc (by omega) (by omega) (growslice_fits (by omega) (by
          rw [hbt]
          calc (n + rows2.length) * bts ≤ 4294967296 * 32768 := Nat.mul_le_mul hn hb2
            _ ≤ 140737488355328 := by omega))
        have hge := grownCap_ge w (n + rows2.length) ccap e
        generalize grownCap w (n + rows2.length) ccap e = nc at hrun hge
        have hsz2 : (olds.toArray ++ news.toArray ++ Builtin.zeroCells zv.cells (nc - (n + rows2.length))).size = nc * k := by
          simp only [Array.size_append, List.size_toArray, zeroCells_size, hzs, hol, hnl, hik, ← Nat.add_mul]
          congr 1; omega
        refine ⟨_, _, upd ι b (w.heap.size, ver + 1, nc * k), hrun, Ext.renew hr hh rfl rfl rfl rfl (by simp) (fun k' hk' _ => alloc_old w.drew _ k' hk') (.inl ⟨Nat.le_refl _, by simp⟩) (fun c' u s hc => ?_) (fun ι' mono => ?_), ?_⟩
        · rw [hib] at hc; simp only [Option.some.injEq, Prod.mk.injEq] at hc; omega
        · refine ⟨rfl, by omega, _, alloc_new w.drew _, hsz2, ?_, hrl hlens, fun i2 r j x y hi2 hj hy => mono _ _ ?_⟩
          · simp only [List.length_append, htl]; exact Nat.mul_le_mul_right _ hge
          · have hjk : j < k := by rw [← hrl hlens i2 r hi2]; exact (List.getElem?_eq_some_iff.1 hj).1
            rw [Array.append_assoc, Array.getElem?_append] at hy
            simp only [List.size_toArray, hol, hik] at hy
            rcases hget i2 r hi2 with ⟨h1, h2⟩ | ⟨h1, h2⟩
            · have := hmul i2 j n h1 hjk
              rw [if_pos this] at hy
              simp only [List.getElem?_toArray] at hy
              rw [hoa _ this] at hy
              exact hx i2 r j x y h2 hj hy
            · have hi2l : i2 - n < rows2.length := (List.getElem?_eq_some_iff.1 h2).1
              have hlow : n * k ≤ i2 * k := Nat.mul_le_mul_right _ h1
              have hm2 := hmul (i2 - n) j rows2.length hi2l hjk
              have he3 : (i2 - n) * k = i2 * k - n * k := Nat.sub_mul _ _ _
              have he : i2 * k + j - n * k = (i2 - n) * k + j := by omega
              rw [if_neg (by omega), Array.getElem?_append] at hy
              simp only [List.size_toArray, hnl, hik] at hy
              rw [if_pos (by omega), he] at hy
              exact hnv (i2 - n) r j x y h2 hj (by simpa using hy)
        · exact .msl w.heap.size (ver + 1) (nc * k) (upd_same _ _ _) (Nat.le_refl _) fun _ => ⟨.inl (by simp), rfl, hge, hge, by simp⟩
  · by_cases h0 : rows2.length = 0
    · have hr0 : rows2 = [] := List.eq_nil_of_length_eq_zero h0
      subst hr0
      have hrun := run_append_zero (P := P) (ty := ty) ht hi none 0 0 (Nat.le_refl _) ua uc w
      cases hib : ι b with
      | none =>
        refine ⟨_, w, ι, hrun, Ext.still_set hr hh hib (by simp [LO.born]), ?_⟩
        simp only [List.length_nil, Nat.add_zero]; exact .mslnil
      | some q =>
        obtain ⟨c, cur, sz⟩ := q
        obtain ⟨e1, e0, arr, harr, hsz, hle2, hlens, hx⟩ := hr.real b _ _ hib hh
        refine ⟨_, w, upd ι b (c, ver + 1, sz), hrun, Ext.renew hr hh rfl rfl rfl rfl (Nat.le_refl _) (fun _ _ _ => rfl) (.inr ⟨cur, sz, hib⟩) (fun c' u s hc => ?_) (fun ι' mono => ?_), ?_⟩
        · rw [hib] at hc; simp only [Option.some.injEq, Prod.mk.injEq] at hc; omega
        · exact ⟨rfl, by omega, arr, harr, hsz, by simp, by simp, by simp⟩
        · simp only [List.length_nil, Nat.add_zero]; exact .mslnil
    · obtain ⟨ad, rfl, news, hnl, hnc, hn1, hnv⟩ := hsrc (by intro e; subst e; simp at h0)
      rw [← hik] at hnl
      have hrun := run_append_nil (P := P) w t ty e i zv ht hi hzv ad rows2.length uc news hnl hnc (by omega) (by omega) (by
        rw [hbt]
        calc rows2.length * bts ≤ 4294967296 * 32768 := Nat.mul_le_mul (by omega) hb2
          _ ≤ 281474976710656 := by omega)
      have hge := grownCap_ge w rows2.length 0 e
      generalize grownCap w rows2.length 0 e = nc at hrun hge
      have hsz2 : (news.toArray ++ Builtin.zeroCells zv.cells (nc - rows2.length)).size = nc * k := by
        simp only [Array.size_append, List.size_toArray, zeroCells_size, hzs, hnl, hik, ← Nat.add_mul]
        congr 1; omega
      refine ⟨_, _, upd ι b (w.heap.size, ver + 1, nc * k), hrun, Ext.renew hr hh rfl rfl rfl rfl (by simp) (fun k' hk' _ => alloc_old w.drew _ k' hk') (.inl ⟨Nat.le_refl _, by simp⟩) (fun c' u s hc => ?_) (fun ι' mono => ?_), ?_⟩
      · obtain ⟨e1, e0, _⟩ := hr.real b _ _ hc hh; omega
      · simp only [List.take_zero, List.nil_append] at hrl ⊢
        refine ⟨rfl, by omega, _, alloc_new w.drew _, hsz2, Nat.mul_le_mul_right _ hge, hr2, fun i2 r j x y hi2 hj hy => mono _ _ ?_⟩
        have hjk : j < k := by rw [← hr2 i2 r hi2]; exact (List.getElem?_eq_some_iff.1 hj).1
        have hi2l : i2 < rows2.length := (List.getElem?_eq_some_iff.1 hi2).1
        have hm2 := hmul i2 j rows2.length hi2l hjk
        rw [Array.getElem?_append] at hy
        simp only [List.size_toArray, hnl, hik] at hy
        rw [if_pos hm2] at hy
        exact hnv i2 r j x y hi2 hj (by simpa using hy)
      · simp only [Nat.zero_add]
        exact .msl w.heap.size (ver + 1) (nc * k) (upd_same _ _ _) (Nat.le_refl _) fun _ => ⟨.inl (by simp), rfl, hge, hge, by simp⟩

theorem Step.appendA {o : Oper} {ρ : Operand → AV} {h : Hp} {t e : TypeId} {s x : Operand} {k b ver len cap bts : Nat} {z : List AV} {rs rows2 : List (List AV)} (ho : o.op = .call { callee := .builtin .append, args := #[s, x], argTypes := #[t, t] })
    (he : elemOf' P t = some e) (hk : tsz P e = some k) (hk0 : k ≠ 0) (hz : tzero P e = some z) (hzk : z.length = k) (hb : bytesOf P e = some bts) (hb2 : bts ≤ 32768) (hs : ρ s = .msl b ver 0 k len cap) (hh : h[b]? = some (.rows rs k ver e)) (hlen : len ≤ rs.length)
    (hsrc : ∀ I ι w v, Rel I ι h w → VR I w ι (ρ x) v → Src I ι w k rows2 v) (hr2 : ∀ (i : Nat) r, rows2[i]? = some r → r.length = k) (hn : len + rows2.length ≤ 4294967296) :
    Step P o ρ h (.msl b (ver + 1) 0 k (len + rows2.length) (len + rows2.length)) (h.set b (.rows (rs.take len ++ rows2) k (ver + 1) e)) := by
  intro I ι w a hr _ hx next Q K
  have h1 := hx s (by simp [ho, Op.operands, Call.operands])
  have h2 := hx x (by simp [ho, Op.operands, Call.operands])
  rw [hs] at h1
  obtain ⟨v', w', ι', hrun, hext, hv⟩ := append_core (P := P) (ty := o.type) (elemOf_slice he) hk hk0 hz hzk hb hb2 hr h1 hh hlen (hsrc I ι w _ hr h2) hr2 hn
  unfold Oper.wp execOp
  simp only [ho, resolve, Go.invoke, builtin, Sem.run_bind, Sem.run_pure, Result.andThen_ok, List.map_toArray, List.map_cons, List.map_nil, hrun]
  exact K v' w' I ι' hext hv
end Go.Vs
