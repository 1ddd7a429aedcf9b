import Derived.Calls
import Derived.Laws.Sem
import Derived.Laws.Cells
import Derived.Laws.CopyRow
import Derived.Below
/-! Values seen by their meaning: abstract values, an abstract heap of the call's own blocks, and what they say of a world. -/
set_option linter.unusedVariables false
set_option linter.unusedSectionVars false
set_option linter.unusedSimpArgs false
namespace Go.Vs

/-- A value as the proof sees it. `sl`: a slice known by its elements (rows of cells), in memory that nobody writes any more;
`msl`, `ptr`, `map`: into the call's own blocks; `iptr`: into a row of cells that nobody writes. -/
inductive AV where
  | undef
  | bool (b : Bool)
  | int (k : IntKind) (n : Int)
  | str (s : ByteArray)
  | nilp | nilmap | nilfn | nili | nils | emp
  | ptr (b ver off : Nat)
  | eptr (b ver esz k j : Nat)
  | iptr (cs : List AV) (off : Nat)
  | sl (rows : List (List AV))
  | msl (b ver off esz len cap : Nat)
  | map (b : Nat)
  | func (fn : Fn) (first caps : List AV)
  | iface (t : TypeId) (v : AV)
  | agg (cs : List AV)
  | tuple (vs : List AV)
  deriving Inhabited

/-- Where the call's own blocks lie: block number, version, cells. -/
abbrev Io := Nat → Option (Nat × Nat × Nat)
def Io.nil : Io := fun _ => none

inductive VR (I : Nat → Prop) (w : World) : Io → AV → Value → Prop
  | undef {ι v} : VR I w ι .undef v
  | bool {ι} (b) : VR I w ι (.bool b) (.bool b)
  | int {ι} (k n) : VR I w ι (.int k n) (.int k n)
  | str {ι} (s) : VR I w ι (.str s) (.string s)
  | nilp {ι} : VR I w ι .nilp (.pointer none)
  | nilmap {ι} : VR I w ι .nilmap (.map none)
  | nilfn {ι} : VR I w ι .nilfn .nilFunc
  | nili {ι} : VR I w ι .nili .nilIface
  | nils {ι} : VR I w ι .nils (.slice none 0 0)
  | emp {ι a} : VR I w ι .emp (.slice a 0 0)
  | ptr {ι b ver off a} (c cur sz : Nat) (h : ι b = some (c, cur, sz)) (hv : ver ≤ cur) (hc : ver = cur → a = ⟨c, off, none⟩) : VR I w ι (.ptr b ver off) (.pointer (some a))
  | eptr {ι b ver esz k j a} (c cur sz : Nat) (h : ι b = some (c, cur, sz)) (hv : ver ≤ cur) (hc : ver = cur → a = ⟨c, k * esz + j, none⟩) : VR I w ι (.eptr b ver esz k j) (.pointer (some a))
  | iptr {ι cs off} (c base : Nat) (hI : I c) (hs : ∀ (j : Nat) (x : AV), cs[j]? = some x → ∃ y, w.cell? ⟨c, base + j, none⟩ = some y)
      (hv : ∀ (j : Nat) (x : AV) (y : Value), cs[j]? = some x → w.cell? ⟨c, base + j, none⟩ = some y → VR I w Io.nil x y) : VR I w ι (.iptr cs off) (.pointer (some ⟨c, base + off, none⟩))
  | sl0 {ι a cap} : VR I w ι (.sl []) (.slice a 0 cap)
  | sl {ι rows n} (esz c off cap : Nat) (hI : I c) (hn : rows.length = n) (hcap : n ≤ cap) (hl : ∀ (i : Nat) (r : List AV), rows[i]? = some r → r.length = esz)
      (hs : ∀ (i : Nat) (r : List AV) (j : Nat) (x : AV), rows[i]? = some r → r[j]? = some x → ∃ y, w.cell? ⟨c, off + (i * esz + j), none⟩ = some y)
      (hv : ∀ (i : Nat) (r : List AV) (j : Nat) (x : AV) (y : Value), rows[i]? = some r → r[j]? = some x → w.cell? ⟨c, off + (i * esz + j), none⟩ = some y → VR I w Io.nil x y) :
      VR I w ι (.sl rows) (.slice (some ⟨c, off, none⟩) n cap)
  | msl {ι b ver off esz len cap a n ccap} (c cur sz : Nat) (h : ι b = some (c, cur, sz)) (hv : ver ≤ cur)
      (hc : ver = cur → (a = ⟨c, off * esz, none⟩ ∨ ccap = 0) ∧ n = len ∧ cap ≤ ccap ∧ n ≤ ccap ∧ (off + ccap) * esz ≤ sz) : VR I w ι (.msl b ver off esz len cap) (.slice (some a) n ccap)
  | mslnil {ι b ver off esz} : VR I w ι (.msl b ver off esz 0 0) (.slice none 0 0)
  | map {ι b} (c : Nat) (h : ι b = some (c, 0, 0)) : VR I w ι (.map b) (.map (some c))
  | func {ι fn first caps fs cs} (h1 : fs.size = first.length) (h2 : cs.size = caps.length) (h3 : ∀ (j : Nat) x y, first[j]? = some x → fs[j]? = some y → VR I w ι x y)
      (h4 : ∀ (j : Nat) x y, caps[j]? = some x → cs[j]? = some y → VR I w ι x y) : VR I w ι (.func fn first caps) (.func fn fs cs)
  | iface {ι t x y} (h : VR I w ι x y) : VR I w ι (.iface t x) (.iface t y)
  | agg {ι cs} {arr : Array Value} (hl : arr.size = cs.length) (h : ∀ (j : Nat) x y, cs[j]? = some x → arr[j]? = some y → VR I w ι x y) : VR I w ι (.agg cs) (.agg arr)
  | tuple {ι cs} {arr : Array Value} (hl : arr.size = cs.length) (h : ∀ (j : Nat) x y, cs[j]? = some x → arr[j]? = some y → VR I w ι x y) : VR I w ι (.tuple cs) (.tuple arr)

theorem World.cell_block {w w' : World} {c : Nat} (h : w'.heap[c]? = w.heap[c]?) (o : Nat) : w'.cell? ⟨c, o, none⟩ = w.cell? ⟨c, o, none⟩ := by
  simp [World.cell?, h]

theorem VR.bool_inv {I w ι b v} (h : VR I w ι (.bool b) v) : v = .bool b := by cases h; rfl
theorem VR.int_inv {I w ι k n v} (h : VR I w ι (.int k n) v) : v = .int k n := by cases h; rfl
theorem VR.str_inv {I w ι s v} (h : VR I w ι (.str s) v) : v = .string s := by cases h; rfl
theorem VR.nilp_inv {I w ι v} (h : VR I w ι .nilp v) : v = .pointer none := by cases h; rfl
theorem VR.nils_inv {I w ι v} (h : VR I w ι .nils v) : v = .slice none 0 0 := by cases h; rfl
theorem VR.emp_inv {I w ι v} (h : VR I w ι .emp v) : ∃ a, v = .slice a 0 0 := by cases h; exact ⟨_, rfl⟩
theorem VR.nili_inv {I w ι v} (h : VR I w ι .nili v) : v = .nilIface := by cases h; rfl
theorem VR.agg_inv {I w ι cs v} (h : VR I w ι (.agg cs) v) : ∃ arr : Array Value, v = .agg arr ∧ arr.size = cs.length ∧ ∀ (j : Nat) x y, cs[j]? = some x → arr[j]? = some y → VR I w ι x y := by
  cases h; exact ⟨_, rfl, by assumption, by assumption⟩
theorem VR.tuple_inv {I w ι cs v} (h : VR I w ι (.tuple cs) v) : ∃ arr : Array Value, v = .tuple arr ∧ arr.size = cs.length ∧ ∀ (j : Nat) x y, cs[j]? = some x → arr[j]? = some y → VR I w ι x y := by
  cases h; exact ⟨_, rfl, by assumption, by assumption⟩
theorem VR.ptr_inv {I w ι b ver off v} (h : VR I w ι (.ptr b ver off) v) : ∃ a c cur sz, v = .pointer (some a) ∧ ι b = some (c, cur, sz) ∧ ver ≤ cur ∧ (ver = cur → a = ⟨c, off, none⟩) := by
  cases h; exact ⟨_, _, _, _, rfl, by assumption, by assumption, by assumption⟩
theorem VR.eptr_inv {I w ι b ver esz k j v} (h : VR I w ι (.eptr b ver esz k j) v) : ∃ a c cur sz, v = .pointer (some a) ∧ ι b = some (c, cur, sz) ∧ ver ≤ cur ∧ (ver = cur → a = ⟨c, k * esz + j, none⟩) := by
  cases h; exact ⟨_, _, _, _, rfl, by assumption, by assumption, by assumption⟩
theorem VR.iptr_inv {I w ι cs off v} (h : VR I w ι (.iptr cs off) v) : ∃ c base, v = .pointer (some ⟨c, base + off, none⟩) ∧ I c ∧
    ∀ (j : Nat) x, cs[j]? = some x → ∃ y, w.cell? ⟨c, base + j, none⟩ = some y ∧ VR I w Io.nil x y := by
  cases h with
  | iptr c base hI hs hv => exact ⟨c, base, rfl, hI, fun j x hj => let ⟨y, hy⟩ := hs j x hj; ⟨y, hy, hv j x y hj hy⟩⟩
theorem VR.msl_inv {I w ι b ver off esz len cap v} (h : VR I w ι (.msl b ver off esz len cap) v) : (∃ a n ccap c cur sz, v = .slice (some a) n ccap ∧ ι b = some (c, cur, sz) ∧ ver ≤ cur ∧
    (ver = cur → (a = ⟨c, off * esz, none⟩ ∨ ccap = 0) ∧ n = len ∧ cap ≤ ccap ∧ n ≤ ccap ∧ (off + ccap) * esz ≤ sz)) ∨ (v = .slice none 0 0 ∧ len = 0 ∧ cap = 0) := by
  cases h
  · exact .inl ⟨_, _, _, _, _, _, rfl, by assumption, by assumption, by assumption⟩
  · exact .inr ⟨rfl, rfl, rfl⟩
theorem VR.sl_inv {I w ι rows v} (h : VR I w ι (.sl rows) v) : (∃ a cap, v = .slice a rows.length cap) ∧ ∀ (i : Nat) r, rows[i]? = some r → ∃ c off cap, v = .slice (some ⟨c, off, none⟩) rows.length cap ∧ I c ∧ rows.length ≤ cap ∧
    ∀ (j : Nat) x, r[j]? = some x → ∃ y, w.cell? ⟨c, off + (i * r.length + j), none⟩ = some y ∧ VR I w Io.nil x y := by
  cases h with
  | sl0 => exact ⟨⟨_, _, rfl⟩, fun i r h => by simp at h⟩
  | sl esz c off cap hI hn hcap hl hs hv =>
    subst hn
    refine ⟨⟨_, _, rfl⟩, fun i r h => ⟨c, off, cap, rfl, hI, hcap, fun j x hj => ?_⟩⟩
    rw [hl i r h]
    obtain ⟨y, hy⟩ := hs i r j x h hj
    exact ⟨y, hy, hv i r j x y h hj hy⟩
theorem VR.iface_inv {I w ι t x v} (h : VR I w ι (.iface t x) v) : ∃ y, v = .iface t y ∧ VR I w ι x y := by
  cases h; exact ⟨_, rfl, by assumption⟩

/-- What says the same of a later world. -/
theorem VR.mono {I I' : Nat → Prop} {w w' : World} (hI : ∀ c, I c → I' c) (hw : ∀ c, I c → w'.heap[c]? = w.heap[c]?) {ι : Io} {x : AV} {v : Value} (h : VR I w ι x v) :
    ∀ ι' : Io, (∀ b c cur sz, ι b = some (c, cur, sz) → ∃ c' cur' sz', ι' b = some (c', cur', sz') ∧ cur ≤ cur' ∧ (cur = cur' → c' = c ∧ sz' = sz)) → (∀ b c, ι b = some (c, 0, 0) → ι' b = some (c, 0, 0)) → VR I' w' ι' x v := by
  induction h with
  | undef => intro ι' _ _; exact .undef
  | bool b => intro ι' _ _; exact .bool b
  | int k n => intro ι' _ _; exact .int k n
  | str s => intro ι' _ _; exact .str s
  | nilp => intro ι' _ _; exact .nilp
  | nilmap => intro ι' _ _; exact .nilmap
  | nilfn => intro ι' _ _; exact .nilfn
  | nili => intro ι' _ _; exact .nili
  | nils => intro ι' _ _; exact .nils
  | emp => intro ι' _ _; exact .emp
  | ptr c cur sz h hv hc =>
    intro ι' hi _
    obtain ⟨c', cur', sz', h1, h2, h3⟩ := hi _ _ _ _ h
    refine .ptr c' cur' sz' h1 (by omega) fun e => ?_
    have e2 : cur = cur' := by omega
    obtain ⟨rfl, rfl⟩ := h3 e2
    exact hc (by omega)
  | eptr c cur sz h hv hc =>
    intro ι' hi _
    obtain ⟨c', cur', sz', h1, h2, h3⟩ := hi _ _ _ _ h
    refine .eptr c' cur' sz' h1 (by omega) fun e => ?_
    have e2 : cur = cur' := by omega
    obtain ⟨rfl, rfl⟩ := h3 e2
    exact hc (by omega)
  | mslnil => intro ι' _ _; exact .mslnil
  | iptr c base hIc hs hv ih =>
    intro ι' _ _
    have e := fun o => World.cell_block (hw c hIc) o
    refine .iptr c base (hI c hIc) (fun j x hj => by rw [e]; exact hs j x hj) fun j x y hj hy => ?_
    rw [e] at hy
    exact ih j x y hj hy Io.nil (fun b c cur sz h => by simp [Io.nil] at h) (fun b c h => by simp [Io.nil] at h)
  | sl0 => intro ι' _ _; exact .sl0
  | sl esz c off cap hIc hn hcap hl hs hv ih =>
    intro ι' _ _
    have e := fun o => World.cell_block (hw c hIc) o
    refine .sl esz c off cap (hI c hIc) hn hcap hl (fun i r j x hi hj => by rw [e]; exact hs i r j x hi hj) fun i r j x y hi hj hy => ?_
    rw [e] at hy
    exact ih i r j x y hi hj hy Io.nil (fun b c cur sz h => by simp [Io.nil] at h) (fun b c h => by simp [Io.nil] at h)
  | msl c cur sz h hv hc =>
    intro ι' hi _
    obtain ⟨c', cur', sz', h1, h2, h3⟩ := hi _ _ _ _ h
    refine .msl c' cur' sz' h1 (by omega) fun e => ?_
    have e2 : cur = cur' := by omega
    obtain ⟨rfl, rfl⟩ := h3 e2
    exact hc (by omega)
  | map c h => intro ι' _ hi; exact .map c (hi _ _ h)
  | func h1 h2 _ _ ih3 ih4 => intro ι' hi hm; exact .func h1 h2 (fun j x y a b => ih3 j x y a b ι' hi hm) (fun j x y a b => ih4 j x y a b ι' hi hm)
  | iface _ ih => intro ι' hi hm; exact .iface (ih ι' hi hm)
  | agg hl _ ih => intro ι' hi hm; exact .agg hl (fun j x y a b => ih j x y a b ι' hi hm)
  | tuple hl _ ih => intro ι' hi hm; exact .tuple hl (fun j x y a b => ih j x y a b ι' hi hm)

/-- What is pure is so wherever the call's own blocks lie. -/
theorem VR.pure {I : Nat → Prop} {w : World} {x : AV} {v : Value} (h : VR I w Io.nil x v) (ι : Io) : VR I w ι x v :=
  h.mono (fun _ h => h) (fun _ _ => rfl) ι (fun b c cur sz h => by simp [Io.nil] at h) (fun b c h => by simp [Io.nil] at h)

inductive LO where
  | cells (cs : List AV) (ver : Nat) (ty : TypeId)
  | rows (rs : List (List AV)) (esz ver : Nat) (ty : TypeId)
  | siter (s : ByteArray) (pos : Nat)
  | map (es : List (AV × AV))
  | dead
  deriving Inhabited

abbrev Hp := List LO

def LO.live : LO → Bool
  | .dead => false
  | _ => true
/-- Blocks that are there for sure. -/
def LO.born : LO → Bool
  | .dead => false
  | .rows [] _ _ _ => false
  | _ => true

/-- What a block says of the world. -/
def BR (I : Nat → Prop) (w : World) (ι : Io) : LO → Nat × Nat × Nat → Prop
  | .cells cs ver ty, (c, cur, sz) => ver = cur ∧ ∃ arr : Array Value, w.heap[c]? = some (.cells arr ty (0, 0)) ∧ arr.size = sz ∧ cs.length ≤ sz ∧
      ∀ (j : Nat) x y, cs[j]? = some x → arr[j]? = some y → VR I w ι x y
  | .rows rs esz ver ty, (c, cur, sz) => ver = cur ∧ 0 < ver ∧ ∃ arr : Array Value, w.heap[c]? = some (.cells arr ty (0, 0)) ∧ arr.size = sz ∧ rs.length * esz ≤ sz ∧ (∀ (i : Nat) r, rs[i]? = some r → r.length = esz) ∧
      ∀ (i : Nat) r (j : Nat) x y, rs[i]? = some r → r[j]? = some x → arr[i * esz + j]? = some y → VR I w ι x y
  | .siter s pos, (c, cur, sz) => cur = 0 ∧ sz = 0 ∧ w.heap[c]? = some (.stringIter s pos)
  | .map es, (c, cur, sz) => cur = 0 ∧ sz = 0 ∧ ∃ (ents : Array MapEntry) (clock : Nat), w.heap[c]? = some (.map ents clock) ∧ ents.size = es.length ∧
      (∀ (j : Nat) e, ents[j]? = some e → e.born < clock) ∧ (∀ (i j : Nat) e e', ents[i]? = some e → ents[j]? = some e' → e.born = e'.born → i = j) ∧
      ∀ (j : Nat) x e, es[j]? = some x → ents[j]? = some e → VR I w ι x.1 e.key ∧ VR I w ι x.2 e.val
  | .dead, _ => True

/-- Block c of the world is one of the call's own. -/
def Own (ι : Io) (h : Hp) (c : Nat) : Prop := ∃ (b : Nat) (o : LO) (cur sz : Nat), h[b]? = some o ∧ o.live = true ∧ ι b = some (c, cur, sz)

/-- The tables of the program: package variables that hold what their text lays. -/
class Tab where
  tab : Nat → Option (List AV)
variable [Tab]
def TT (I : Nat → Prop) (w : World) : Prop := ∀ (g : Nat) cs, Tab.tab g = some cs → I g ∧ (∃ arr ty z, w.heap[g]? = some (.cells arr ty z) ∧ arr.size = cs.length) ∧
  (∀ (j : Nat) x, cs[j]? = some x → ∃ y, w.cell? ⟨g, j, none⟩ = some y ∧ VR I w Io.nil x y)
theorem TT.mono {I I' : Nat → Prop} {w w' : World} (h : TT I w) (hI : ∀ c, I c → I' c) (hw : ∀ c, I c → w'.heap[c]? = w.heap[c]?) : TT I' w' := by
  intro g cs hg
  obtain ⟨h1, ⟨arr, ty, z, h3, h4⟩, h2⟩ := h g cs hg
  refine ⟨hI g h1, ⟨arr, ty, z, (hw g h1).trans h3, h4⟩, fun j x hj => ?_⟩
  obtain ⟨y, hy, hv⟩ := h2 j x hj
  exact ⟨y, by rw [World.cell_block (hw g h1)]; exact hy, hv.mono hI hw Io.nil (fun b c cur sz h => by simp [Io.nil] at h) (fun b c h => by simp [Io.nil] at h)⟩

structure Rel (I : Nat → Prop) (ι : Io) (h : Hp) (w : World) : Prop where
  real : ∀ (b : Nat) x o, ι b = some x → h[b]? = some o → BR I w ι o x
  dom : ∀ (b : Nat) o, h[b]? = some o → o.born = true → (ι b).isSome = true
  tab : TT I w
  inj : ∀ (b b' : Nat) x x', ι b = some x → ι b' = some x' → x.1 = x'.1 → b = b'
  sep : ∀ c, Own ι h c → ¬ I c
  far : ∀ (b : Nat) x, h.length ≤ b → ι b = some x → ¬ I x.1
  lt : ∀ (b : Nat) x, ι b = some x → x.1 < w.heap.size
  ilt : ∀ c, I c → c < w.heap.size

/-- Everything but the call's own blocks is as it was. -/
structure Keep (ι : Io) (h : Hp) (w w' : World) : Prop where
  os : w'.os = w.os
  tape : w'.tape = w.tape
  output : w'.output = w.output
  size : w.heap.size ≤ w'.heap.size
  block : ∀ c, c < w.heap.size → ¬ Own ι h c → w'.heap[c]? = w.heap[c]?

/-- How the call's own blocks may have moved. -/
def Moved (ι ι' : Io) (b : Nat) : Prop :=
  (∀ c cur sz, ι b = some (c, cur, sz) → ∃ c' cur' sz', ι' b = some (c', cur', sz') ∧ cur ≤ cur' ∧ (cur = cur' → c' = c ∧ sz' = sz)) ∧ (∀ c, ι b = some (c, 0, 0) → ι' b = some (c, 0, 0))

theorem Moved.refl (ι : Io) (b : Nat) : Moved ι ι b := ⟨fun c cur sz h => ⟨c, cur, sz, h, Nat.le_refl _, fun _ => ⟨rfl, rfl⟩⟩, fun _ h => h⟩
theorem Moved.of_eq {ι ι' : Io} {b : Nat} (h : ι' b = ι b) : Moved ι ι' b := ⟨fun c cur sz e => ⟨c, cur, sz, h.trans e, Nat.le_refl _, fun _ => ⟨rfl, rfl⟩⟩, fun _ e => h.trans e⟩
theorem Moved.trans {ι ι' ι'' : Io} {b : Nat} (h : Moved ι ι' b) (h' : Moved ι' ι'' b) : Moved ι ι'' b := by
  refine ⟨fun c cur sz e => ?_, fun c e => h'.2 c (h.2 c e)⟩
  obtain ⟨c1, u1, s1, e1, l1, k1⟩ := h.1 c cur sz e
  obtain ⟨c2, u2, s2, e2, l2, k2⟩ := h'.1 c1 u1 s1 e1
  refine ⟨c2, u2, s2, e2, by omega, fun he => ?_⟩
  obtain ⟨rfl, rfl⟩ := k1 (by omega)
  exact k2 (by omega)

/-- What an operation does: the blocks ahead are those of h', none is lost. -/
structure Ext (I : Nat → Prop) (ι : Io) (h : Hp) (w : World) (I' : Nat → Prop) (ι' : Io) (h' : Hp) (w' : World) : Prop where
  rel : Rel I' ι' h' w'
  keep : Keep ι h w w'
  imm : ∀ c, I c → I' c
  new : ∀ c, I' c → I c ∨ w.heap.size ≤ c ∨ Own ι h c
  own : ∀ c, Own ι' h' c → Own ι h c ∨ w.heap.size ≤ c
  moved : ∀ b, Moved ι ι' b
  far : ∀ b, h'.length ≤ b → ι' b = ι b
  len : h.length ≤ h'.length

theorem Rel.imm_same {I ι h w w'} (r : Rel I ι h w) (k : Keep ι h w w') : ∀ c, I c → w'.heap[c]? = w.heap[c]? :=
  fun c hc => k.block c (r.ilt c hc) (fun ho => r.sep c ho hc)

theorem VR.ext {I ι h w I' ι' h' w'} (r : Rel I ι h w) (e : Ext I ι h w I' ι' h' w') {x : AV} {v : Value} (hv : VR I w ι x v) : VR I' w' ι' x v :=
  hv.mono e.imm (r.imm_same e.keep) ι' (fun b => (e.moved b).1) (fun b => (e.moved b).2)

theorem Keep.refl (ι h w) : Keep ι h w w := ⟨rfl, rfl, rfl, Nat.le_refl _, fun _ _ _ => rfl⟩

theorem Ext.refl {I ι h w} (r : Rel I ι h w) : Ext I ι h w I ι h w :=
  ⟨r, Keep.refl _ _ _, fun _ h => h, fun _ h => .inl h, fun _ h => .inl h, fun b => Moved.refl _ b, fun _ _ => rfl, Nat.le_refl _⟩

theorem Keep.trans {ι h w ι' h' w' w''} (k : Keep ι h w w') (k' : Keep ι' h' w' w'') (ho : ∀ c, Own ι' h' c → Own ι h c ∨ w.heap.size ≤ c) : Keep ι h w w'' :=
  ⟨k'.os.trans k.os, k'.tape.trans k.tape, k'.output.trans k.output, Nat.le_trans k.size k'.size, fun c hc hn =>
    (k'.block c (Nat.lt_of_lt_of_le hc k.size) (fun h => (ho c h).elim hn (fun h => by omega))).trans (k.block c hc hn)⟩

theorem Ext.trans {I ι h w I' ι' h' w' I'' ι'' h'' w''} (e : Ext I ι h w I' ι' h' w') (e' : Ext I' ι' h' w' I'' ι'' h'' w'') : Ext I ι h w I'' ι'' h'' w'' where
  rel := e'.rel
  keep := e.keep.trans e'.keep e.own
  imm c hc := e'.imm c (e.imm c hc)
  new c hc := by
    rcases e'.new c hc with h | h | h
    · exact e.new c h
    · exact .inr (.inl (Nat.le_trans e.keep.size h))
    · rcases e.own c h with h | h
      · exact .inr (.inr h)
      · exact .inr (.inl h)
  own c hc := by
    rcases e'.own c hc with h | h
    · exact e.own c h
    · exact .inr (Nat.le_trans e.keep.size h)
  moved b := (e.moved b).trans (e'.moved b)
  far b hb := (e'.far b hb).trans (e.far b (Nat.le_trans e'.len hb))
  len := Nat.le_trans e.len e'.len

end Go.Vs
