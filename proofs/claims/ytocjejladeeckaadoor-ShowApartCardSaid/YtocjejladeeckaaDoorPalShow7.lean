import Derived.Test.YtocjejladeeckaaDoorPalShow6
import Derived.Test.YtocjejladeeckaaDoorPalE
/-! The text of a program: both ways of telling it come to the same. -/
set_option linter.unusedVariables false
set_option linter.unusedSimpArgs false
set_option linter.unusedSectionVars false
namespace Go.Vs
open Go.Lib
local instance tabPalShow7 : Tab := ⟨fun _ => none⟩
theorem loop_foldl {α β σ R : Type} (l : List α) (mk : Int → β → σ) (step : σ → Option (σ ⊕ R)) (g : β → α → β) (fin : β → R) (sz : β → Nat) (B C : Nat) (a0 : β) (h0 : sz a0 ≤ B) (hg : ∀ a x, x ∈ l → sz (g a x) ≤ sz a + C)
    (h1 : ∀ (i : Nat) x, l[i]? = some x → ∀ a, sz a ≤ B + i * C → step (mk (i : Int) a) = some (.inl (mk ((i : Int) + 1) (g a x)))) (h2 : ∀ a, step (mk (l.length : Int) a) = some (.inr (fin a))) :
    loopO step (mk 0 a0) = some (fin (l.foldl g a0)) := by
  have := loop_list l mk step (fun _ a x => .inl (g a x)) fin (fun i a => sz a ≤ B + i * C) (fun i x hx a ha => ⟨h1 i x hx a ha, fun a' e => by
    obtain rfl := Sum.inl.inj e
    have := hg a x (List.mem_of_getElem? hx)
    rw [Nat.add_mul]; omega⟩) (fun a _ => h2 a) a0 (by omega)
  rw [this]
  congr 1
  generalize (0 : Nat) = k
  clear this h0 h1 h2 hg
  induction l generalizing a0 k with
  | nil => rfl
  | cons x l ih => exact ih _ _
theorem foldl_size {α : Type} (g : ByteArray → α → ByteArray) (C : Nat) : ∀ (l : List α) (hg : ∀ a x, x ∈ l → (g a x).size ≤ a.size + C) (a : ByteArray), (l.foldl g a).size ≤ a.size + l.length * C
  | [], _, a => by simp
  | x :: l, hg, a => by
    have h1 := foldl_size g C l (fun a y hy => hg a y (List.mem_cons_of_mem _ hy)) (g a x)
    have h2 := hg a x (List.mem_cons_self ..)
    simp only [List.foldl_cons, List.length_cons, Nat.add_mul]
    omega
/-! ### The pieces -/
def initT (a : ByteArray) (v : Int) : ByteArray := a ++ ((⟨#[32]⟩ : ByteArray) ++ itoaB v)
def symHead (s : T_api_Sym) : ByteArray := (((⟨#[115, 121, 109, 32]⟩ : ByteArray) ++ s.Name) ++ (⟨#[32]⟩ : ByteArray)) ++ itoaB s.Size
def symT (a : ByteArray) (s : T_api_Sym) : ByteArray := (s.Init.foldl initT (a ++ symHead s)) ++ (⟨#[10]⟩ : ByteArray)
def labT (a : ByteArray) (s : ByteArray) : ByteArray := a ++ (s ++ (⟨#[58, 10]⟩ : ByteArray))
def lineT (syms : List ByteArray) (a : ByteArray) (x : T_api_Ins) : ByteArray := (x.Labels.foldl labT a) ++ (((⟨#[9]⟩ : ByteArray) ++ insT x syms) ++ (⟨#[10]⟩ : ByteArray))
def thT (syms : List ByteArray) (a : ByteArray) (t : T_api_Thread) : ByteArray := t.Ins.foldl (lineT syms) (a ++ (⟨#[116, 104, 114, 101, 97, 100, 10]⟩ : ByteArray))
def symNames (p : T_api_Prog) : List ByteArray := p.Syms.map (·.Name)
def showT (p : T_api_Prog) : ByteArray := if checkN p != 0 then ⟨#[]⟩ else p.Threads.foldl (thT (symNames p)) (p.Syms.foldl symT ⟨#[]⟩)
section sizes
theorem z1 : (⟨#[32]⟩ : ByteArray).size = 1 := rfl
theorem z2 : (⟨#[10]⟩ : ByteArray).size = 1 := rfl
theorem z3 : (⟨#[115, 121, 109, 32]⟩ : ByteArray).size = 4 := rfl
theorem z4 : (⟨#[58, 10]⟩ : ByteArray).size = 2 := rfl
theorem z5 : (⟨#[9]⟩ : ByteArray).size = 1 := rfl
theorem z6 : (⟨#[116, 104, 114, 101, 97, 100, 10]⟩ : ByteArray).size = 7 := rfl
theorem z7 : (⟨#[]⟩ : ByteArray).size = 0 := rfl
theorem z8 : (⟨#[91]⟩ : ByteArray).size = 1 := rfl
theorem z9 : (⟨#[93]⟩ : ByteArray).size = 1 := rfl
theorem z10 : (⟨#[108, 111, 99, 107, 32]⟩ : ByteArray).size = 5 := rfl
theorem z11 : (⟨#[44, 32]⟩ : ByteArray).size = 2 := rfl
theorem initT_size {a : ByteArray} {v : Int} (h : I64 v) : (initT a v).size ≤ a.size + 22 := by
  have := itoaB_size h
  unfold initT; simp only [app_size, z1]; omega
theorem symHead_size {s : T_api_Sym} (h : SymOk s) : (symHead s).size ≤ 1026 := by
  have := itoaB_size h.size
  have := h.name
  unfold symHead; simp only [app_size, z1, z3]; omega
theorem inits_size {s : T_api_Sym} (h : SymOk s) (a : ByteArray) : (s.Init.foldl initT a).size ≤ a.size + 2200 := by
  have := foldl_size initT 22 s.Init (fun a x hx => initT_size (h.init x hx)) a
  have := h.n
  have : s.Init.length * 22 ≤ 100 * 22 := Nat.mul_le_mul_right _ h.n
  omega
theorem symT_size {s : T_api_Sym} (h : SymOk s) (a : ByteArray) : (symT a s).size ≤ a.size + 3300 := by
  have h1 := inits_size h (a ++ symHead s)
  have h2 := symHead_size h
  unfold symT; simp only [app_size, z2] at h1 ⊢; omega
def Names (syms : List ByteArray) : Prop := ∀ s ∈ syms, s.size ≤ 1000
theorem Names.syms {syms} (h : Names syms) : Syms syms := fun s hs => by have := h s hs; omega
theorem opdT_size2 (o : T_api_Opd) (syms : List ByteArray) (hn : I64 o.N) (hs : Names syms) : (opdT o syms).size ≤ 1023 := by
  have hz := itoaB_size hn
  have hy := rd_size hs o.Sym
  have hr := regT_size o.Reg
  unfold opdT
  split
  · rw [z7]; omega
  split
  · omega
  split
  · omega
  split
  · rw [z7]; omega
  split <;> simp only [app_size, z8, z9] <;> omega
theorem insT_size (x : T_api_Ins) (syms : List ByteArray) (hx : LabOk x) (hs : Names syms) : (insT x syms).size ≤ 2100 := by
  have ha := opdT_size2 x.A syms hx.a hs
  have hb := opdT_size2 x.B syms hx.b hs
  have ho := opT_size x.Op x.Cond
  have ht := hx.to1
  have hS : (if x.Lock then (⟨#[108, 111, 99, 107, 32]⟩ : ByteArray) ++ opT x.Op x.Cond else opT x.Op x.Cond).size ≤ 15 := by
    split
    · rw [app_size, z10]; omega
    · omega
  unfold insT
  split
  · rw [z7]; omega
  simp only
  generalize (if x.Lock then (⟨#[108, 111, 99, 107, 32]⟩ : ByteArray) ++ opT x.Op x.Cond else opT x.Op x.Cond) = S at hS ⊢
  split
  · simp only [app_size, z1]; omega
  split
  · omega
  split
  · rw [z7]; omega
  · simp only [app_size, z1, z11]; omega
theorem labs_size {x : T_api_Ins} (h : LabOk x) (a : ByteArray) : (x.Labels.foldl labT a).size ≤ a.size + 100200 := by
  have := foldl_size labT 1002 x.Labels (fun a s hs => by have := h.lab s hs; unfold labT; simp only [app_size, z4]; omega) a
  have : x.Labels.length * 1002 ≤ 100 * 1002 := Nat.mul_le_mul_right _ h.n
  omega
theorem lineT_size {syms : List ByteArray} (hs : Names syms) {x : T_api_Ins} (h : LabOk x) (a : ByteArray) : (lineT syms a x).size ≤ a.size + 102400 := by
  have h1 := labs_size h a
  have h2 := insT_size x syms h hs
  unfold lineT; simp only [app_size, z2, z5]; omega
theorem thT_size {syms : List ByteArray} (hs : Names syms) {t : T_api_Thread} (h : ThOk t) (a : ByteArray) : (thT syms a t).size ≤ a.size + 10241000 := by
  unfold thT
  have := foldl_size (lineT syms) 102400 t.Ins (fun a x hx => lineT_size hs (h.ins x hx) a) (a ++ (⟨#[116, 104, 114, 101, 97, 100, 10]⟩ : ByteArray))
  have : t.Ins.length * 102400 ≤ 100 * 102400 := Nat.mul_le_mul_right _ h.n
  simp only [app_size, z6] at *; omega
theorem symNames_ok {p : T_api_Prog} (h : ProgOk p) : Names (symNames p) := by
  intro s hs
  obtain ⟨y, hy, rfl⟩ := List.mem_map.1 hs
  exact (h.sym y hy).name
end sizes
theorem catB {a b : ByteArray} (h : a.size + b.size ≤ 5000000000) : CatOk a b := by unfold CatOk; omega
/-! ### The program's way -/
theorem show_inits (p : T_api_Prog) (i : Nat) (s : T_api_Sym) (hx : p.Syms[i]? = some s) (hk : SymOk s) (a : ByteArray) (ha : a.size ≤ 2000000) : loopO (show_Prog_s2 p i) (0, a) = some (s.Init.foldl initT a) := by
  have hn := hk.n
  refine loop_foldl s.Init (fun i (a : ByteArray) => (i, a)) (show_Prog_s2 p i) initT id (·.size) 2000000 22 a ha (fun a x hx => initT_size (hk.init x hx)) (fun j v hv b hb => ?_) (fun b => ?_)
  · have hj : j ≤ 1000 := by have := (List.getElem?_eq_some_iff.1 hv).1; omega
    have hz := itoaB_size (hk.init v (List.mem_of_getElem? hv))
    simp only [show_Prog_s2]
    simp only [rd_at hx]
    rw [if_pos (lt_at hv), if_pos (inb_at hv), rd_at hv, numText (hk.init v (List.mem_of_getElem? hv)), wi (by omega)]
    simp only [Option.bind_some]
    rw [if_pos (catB (by rw [z1]; omega)), if_pos (by unfold Fits; rw [app_size, z1]; omega)]
    rfl
  · simp only [show_Prog_s2, rd_at hx]
    rw [if_neg (by simp)]; rfl
theorem show_syms (p : T_api_Prog) (hp : ProgOk p) : loopO (show_Prog_s1 p) (0, (⟨#[]⟩ : ByteArray), []) = some (p.Syms.foldl symT ⟨#[]⟩, symNames p) := by
  have hn := hp.ns
  have key : ∀ (l : List T_api_Sym) (a : ByteArray) (L : List ByteArray), l.foldl (fun (b : ByteArray × List ByteArray) s => (symT b.1 s, b.2 ++ [s.Name])) (a, L) = (l.foldl symT a, L ++ l.map (·.Name)) := by
    intro l
    induction l with
    | nil => intro a L; simp
    | cons s l ih => intro a L; simp only [List.foldl_cons]; rw [ih]; simp
  have := loop_foldl p.Syms (fun i (b : ByteArray × List ByteArray) => (i, b.1, b.2)) (show_Prog_s1 p) (fun b s => (symT b.1 s, b.2 ++ [s.Name])) id (fun b => b.1.size + b.2.length) 0 3301 (⟨#[]⟩, []) (by simp [z7])
    (fun b s hs => by have := symT_size (hp.sym s hs) b.1; simp only [List.length_append, List.length_cons, List.length_nil]; omega) (fun j s hs b hb => ?_) (fun b => ?_)
  · simp only at this
    rw [this]
    simp only [id, key]
    rfl
  · have hj : j ≤ 100 := by have := (List.getElem?_eq_some_iff.1 hs).1; omega
    have hj2 : j * 3301 ≤ 100 * 3301 := Nat.mul_le_mul_right _ hj
    have hk := hp.sym s (List.mem_of_getElem? hs)
    have hz := itoaB_size hk.size
    have hm := hk.name
    have hh := symHead_size hk
    have hin := inits_size hk (b.1 ++ symHead s)
    try simp only at hb
    simp only [show_Prog_s1]
    rw [if_pos (lt_at hs), if_pos (inb_at hs)]
    simp only [rd_at hs]
    rw [if_pos (show Fits (b.2.length + 1) from by unfold Fits; omega), numText hk.size, wi (by omega)]
    simp only [Option.bind_some]
    have c1 : CatOk (⟨#[115, 121, 109, 32]⟩ : ByteArray) s.Name := catB (by rw [z3]; omega)
    have c2 : CatOk ((⟨#[115, 121, 109, 32]⟩ : ByteArray) ++ s.Name) (⟨#[32]⟩ : ByteArray) := catB (by rw [app_size, z3, z1]; omega)
    have c3 : CatOk (((⟨#[115, 121, 109, 32]⟩ : ByteArray) ++ s.Name) ++ (⟨#[32]⟩ : ByteArray)) (itoaB s.Size) := catB (by rw [app_size, app_size, z3, z1]; omega)
    simp only [if_pos c1, if_pos c2, if_pos c3]
    have e : ((((⟨#[115, 121, 109, 32]⟩ : ByteArray) ++ s.Name) ++ (⟨#[32]⟩ : ByteArray)) ++ itoaB s.Size) = symHead s := rfl
    rw [e, if_pos (show Fits (b.1.size + (symHead s).size) from by unfold Fits; omega)]
    rw [show_inits p j s hs hk _ (by rw [app_size]; omega)]
    simp only [Option.bind_some]
    rw [if_pos (show Fits ((s.Init.foldl initT (b.1 ++ symHead s)).size + (⟨#[10]⟩ : ByteArray).size) from by unfold Fits; rw [app_size] at hin; rw [z2]; omega)]
    rfl
  · simp only [show_Prog_s1]
    rw [if_neg (by simp)]; rfl
theorem show_labs (x : T_api_Ins) (hk : LabOk x) (a : ByteArray) (ha : a.size ≤ 2000000000) : loopO (show_Prog_s5 x.Labels) (0, a) = some (x.Labels.foldl labT a) := by
  have hn := hk.n
  refine loop_foldl x.Labels (fun i (a : ByteArray) => (i, a)) (show_Prog_s5 x.Labels) labT id (·.size) 2000000000 1002 a ha (fun a s hs => by have := hk.lab s hs; unfold labT; simp only [app_size, z4]; omega) (fun j s hs b hb => ?_) (fun b => ?_)
  · have hj : j ≤ 100 := by have := (List.getElem?_eq_some_iff.1 hs).1; omega
    have hj2 : j * 1002 ≤ 100 * 1002 := Nat.mul_le_mul_right _ hj
    have hz := hk.lab s (List.mem_of_getElem? hs)
    simp only [show_Prog_s5]
    rw [if_pos (lt_at hs), if_pos (inb_at hs), rd_at hs, wi (by omega), if_pos (catB (by rw [z4]; omega)), if_pos (show Fits (b.size + (s ++ (⟨#[58, 10]⟩ : ByteArray)).size) from by unfold Fits; rw [app_size, z4]; omega)]
    rfl
  · simp only [show_Prog_s5]
    rw [if_neg (by simp)]; rfl
theorem show_lines (p : T_api_Prog) (i : Nat) (t : T_api_Thread) (hx : p.Threads[i]? = some t) (hk : ThOk t) (q : ByteArray × List ByteArray) (hq : Names q.2) (a : ByteArray) (ha : a.size ≤ 1500000000) :
    loopO (show_Prog_s4 p i q) (0, a) = some (t.Ins.foldl (lineT q.2) a) := by
  have hn := hk.n
  refine loop_foldl t.Ins (fun i (a : ByteArray) => (i, a)) (show_Prog_s4 p i q) (lineT q.2) id (·.size) 1500000000 102400 a ha (fun a x hx => lineT_size hq (hk.ins x hx) a) (fun j x hs b hb => ?_) (fun b => ?_)
  · have hj : j ≤ 100 := by have := (List.getElem?_eq_some_iff.1 hs).1; omega
    have hj2 : j * 102400 ≤ 100 * 102400 := Nat.mul_le_mul_right _ hj
    have hl := hk.ins x (List.mem_of_getElem? hs)
    have hz := insT_size x q.2 hl hq
    have hls := labs_size hl b
    try simp only at hb
    simp only [show_Prog_s4]
    simp only [rd_at hx]
    rw [if_pos (lt_at hs), if_pos (inb_at hs)]
    simp only [rd_at hs, Option.bind_some]
    have eta : T_api_Ins.mk x.Op x.Lock x.Cond x.A x.B x.To x.Labels = x := rfl
    rw [eta, show_labs x hl b (by omega), show_Ins_eq x q.2 hl.toInsOk hq.syms, wi (by omega)]
    simp only [Option.bind_some]
    rw [if_pos (catB (by rw [z5]; omega)), if_pos (catB (by rw [app_size, z5, z2]; omega)), if_pos (show Fits _ from by unfold Fits; simp only [app_size, z5, z2]; omega)]
    rfl
  · simp only [show_Prog_s4, rd_at hx]
    rw [if_neg (by simp)]; rfl
theorem show_Prog_eq (p : T_api_Prog) (hp : ProgOk p) : show_Prog p = some (showT p) := by
  have hn := hp.nt
  have hnm := symNames_ok hp
  unfold show_Prog showT
  rw [valid_Check_eq p hp]
  simp only [Option.bind_some]
  split
  · rfl
  rw [show_syms p hp]
  simp only [Option.bind_some]
  have hsz : (p.Syms.foldl symT ⟨#[]⟩).size ≤ 330000 := by
    have := foldl_size symT 3300 p.Syms (fun a s hs => symT_size (hp.sym s hs) a) ⟨#[]⟩
    have : p.Syms.length * 3300 ≤ 100 * 3300 := Nat.mul_le_mul_right _ hp.ns
    rw [z7] at *; omega
  have := loop_foldl p.Threads (fun i (a : ByteArray) => (i, a)) (show_Prog_s3 p (p.Syms.foldl symT ⟨#[]⟩, symNames p)) (thT (symNames p)) id (·.size) 330000 10241000 _ hsz (fun a t ht => thT_size hnm (hp.th t ht) a) (fun j t hs b hb => ?_) (fun b => ?_)
  · rw [this]
    simp only [Option.bind_some, id]
    have h2 := foldl_size (thT (symNames p)) 10241000 p.Threads (fun a t ht => thT_size hnm (hp.th t ht) a) (p.Syms.foldl symT ⟨#[]⟩)
    have : p.Threads.length * 10241000 ≤ 100 * 10241000 := Nat.mul_le_mul_right _ hn
    rw [if_pos (show Fits _ from by unfold Fits; omega)]
  · have hj : j < 100 := by have := (List.getElem?_eq_some_iff.1 hs).1; omega
    have hj2 : j * 10241000 ≤ 100 * 10241000 := Nat.mul_le_mul_right _ (by omega)
    try simp only at hb
    simp only [show_Prog_s3]
    rw [if_pos (lt_at hs), if_pos (inb_at hs), if_pos (show Fits _ from by unfold Fits; rw [z6]; omega), wi (by omega)]
    simp only [Option.bind_some]
    rw [show_lines p j t hs (hp.th t (List.mem_of_getElem? hs)) (p.Syms.foldl symT ⟨#[]⟩, symNames p) hnm _ (by rw [app_size, z6]; omega)]
    rfl
  · simp only [show_Prog_s3]
    rw [if_neg (by simp)]; rfl
end Go.Vs
