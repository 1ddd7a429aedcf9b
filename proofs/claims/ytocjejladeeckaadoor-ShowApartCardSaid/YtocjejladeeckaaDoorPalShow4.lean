import Derived.Test.YtocjejladeeckaaDoorPalShow3
/-! What may be: both ways of telling it come to the same. -/
set_option linter.unusedVariables false
set_option linter.unusedSimpArgs false
set_option linter.unusedSectionVars false
namespace Go.Vs
open Go.Lib
local instance tabPalShow4 : Tab := ⟨fun _ => none⟩
/-! ### Texts that have been seen -/
def has (l : List ByteArray) (s : ByteArray) : Bool := l.any fun x => decide (x = s)
theorem has_mem {l : List ByteArray} {s : ByteArray} : has l s = true ↔ s ∈ l := by
  unfold has
  simp only [List.any_eq_true, decide_eq_true_eq]
  exact ⟨fun ⟨x, h, e⟩ => e ▸ h, fun h => ⟨s, h, rfl⟩⟩
theorem has_not {l : List ByteArray} {s : ByteArray} : has l s = false ↔ ¬ s ∈ l := by rw [← has_mem]; simp
def seen (l : List ByteArray) : List (ByteArray × Bool) := l.map fun k => (k, true)
theorem mixS_seen (k : ByteArray) : ∀ l : List ByteArray, mixS (seen l) k = l.findIdx? (fun x => decide (k = x))
  | [] => rfl
  | x :: l => by
    have ih := mixS_seen k l
    unfold mixS seen at ih ⊢
    simp only [List.map_cons, List.findIdx?_cons, ih]
theorem mat_seen (l : List ByteArray) (k : ByteArray) : (mat (seen l) (mixS (seen l) k)).getD false = has l k := by
  rw [mixS_seen]
  cases h : l.findIdx? (fun x => decide (k = x)) with
  | none =>
    rw [List.findIdx?_eq_none_iff] at h
    simp only [mat, Option.bind_none, Option.getD_none]
    symm; rw [has_not]
    intro hm
    have := h k hm
    simp at this
  | some i =>
    rw [List.findIdx?_eq_some_iff_getElem] at h
    obtain ⟨h1, h2, _⟩ := h
    have h3 : k = l[i] := by simpa using h2
    have h4 : (seen l)[i]? = some (l[i], true) := by unfold seen; rw [List.getElem?_map, List.getElem?_eq_getElem h1]; rfl
    simp only [mat, Option.bind_some, h4, Option.map_some, Option.getD_some]
    symm; rw [has_mem]
    rw [h3]; exact List.getElem_mem h1
theorem mst_seen {l : List ByteArray} {k : ByteArray} (h : ¬ k ∈ l) : mst (seen l) (mixS (seen l) k) k true = seen (l ++ [k]) := by
  have : mixS (seen l) k = none := by
    rw [mixS_seen, List.findIdx?_eq_none_iff]
    intro x hx
    simp only [decide_eq_false_iff_not]
    intro e; subst e; exact h hx
  rw [this]
  unfold mst seen
  simp
/-! ### The bounds of a program -/
structure LabOk (x : T_api_Ins) : Prop extends InsOk x where
  n : x.Labels.length ≤ 100
  to1 : x.To.size ≤ 1000
  lab : ∀ s ∈ x.Labels, s.size ≤ 1000
structure ThOk (t : T_api_Thread) : Prop where
  n : t.Ins.length ≤ 100
  ins : ∀ x ∈ t.Ins, LabOk x
structure SymOk (s : T_api_Sym) : Prop where
  name : s.Name.size ≤ 1000
  n : s.Init.length ≤ 100
  size : I64 s.Size
  init : ∀ v ∈ s.Init, I64 v
structure ProgOk (p : T_api_Prog) : Prop where
  ns : p.Syms.length ≤ 100
  nt : p.Threads.length ≤ 100
  sym : ∀ s ∈ p.Syms, SymOk s
  th : ∀ t ∈ p.Threads, ThOk t
theorem sm1000 {s : ByteArray} (h : s.size ≤ 1000) : Sm s := by unfold Sm; omega

/-! ### Counting -/
def countN (t : T_api_Thread) : Int := foldE (fun _ (n : Int) (x : T_api_Ins) => if (x.Op != 12) = true then .inl (n + 1) else .inl n) (fun n => n) 0 0 t.Ins
theorem valid_Count_eq (t : T_api_Thread) (ht : t.Ins.length ≤ 1000000) : valid_Count t = some (countN t) := by
  unfold valid_Count countN
  rw [loop_list t.Ins (fun i (n : Int) => (n, i)) (valid_Count_s1 t) (fun _ (n : Int) (x : T_api_Ins) => if (x.Op != 12) = true then .inl (n + 1) else .inl n) (fun n => n) (fun i n => 0 ≤ n ∧ n ≤ i)
    (fun i x hx a ha => ?_) (fun a ha => ?_) 0 ⟨by omega, by omega⟩]
  · rfl
  · have hi : i ≤ 1000000 := by have := (List.getElem?_eq_some_iff.1 hx).1; omega
    simp only [valid_Count_s1]
    rw [if_pos (lt_at hx), if_pos (inb_at hx), rd_at hx, wi (by omega), wi64_id ⟨by omega, by omega⟩]
    constructor
    · split <;> rfl
    · intro a' h
      split at h
      · obtain rfl := Sum.inl.inj h; omega
      · obtain rfl := Sum.inl.inj h; omega
  · simp only [valid_Count_s1]
    rw [if_neg (by simp)]
/-! ### Places -/
def placeN (p : T_api_Prog) (o : T_api_Opd) : Int :=
  if !memB o then 0 else if decide (o.Sym ≥ (p.Syms.length : Int)) then 7
  else if (o.Kind == 3) && decide (o.N ≥ (rd p.Syms o.Sym).Size) then 8 else 0
theorem valid_place_eq (p : T_api_Prog) (o : T_api_Opd) (h : memB o = true → o.Sym ≥ 0) : valid_place p o = some (placeN p o) := by
  unfold valid_place placeN
  have e : ((o.Kind != 3) && (o.Kind != 4)) = !memB o := by unfold memB; simp [bne]
  rw [e]
  cases hm : memB o
  · rfl
  · have h0 := h hm
    have e0 : decide (o.Sym < 0) = false := by simp; omega
    simp only [Bool.not_true, Bool.false_eq_true, if_false, e0, Bool.false_or]
    split
    · rfl
    · rename_i hs
      have hi : InB o.Sym p.Syms.length := ⟨h0, by simp at hs; omega⟩
      rw [if_pos (fun _ => hi)]
      split <;> rfl
theorem mem_sym {o : T_api_Opd} (hb : opdB o = true) (hm : memB o = true) : o.Sym ≥ 0 := by
  unfold memB at hm
  simp only [Bool.or_eq_true, beq_iff_eq] at hm
  rcases hm with e | e <;> (unfold opdB at hb; simp [e] at hb; omega)
theorem ins_sym {x : T_api_Ins} (h : insN x = 0) : (memB x.A = true → x.A.Sym ≥ 0) ∧ (memB x.B = true → x.B.Sym ≥ 0) := by
  obtain ⟨h1, _, h2, h3, _⟩ := insN_zero h
  unfold rowB at h1
  split at h1
  · simp only [Bool.and_eq_true, zeroB, beq_iff_eq] at h1
    obtain ⟨⟨⟨ha, _⟩, ⟨hb, _⟩⟩, _⟩ := h1
    constructor <;> (intro hm; unfold memB at hm; simp [ha, hb] at hm)
  · split at h1
    · cases h1
    · rename_i hab
      simp only [Bool.or_eq_true, Bool.not_eq_true', not_or, Bool.not_eq_false] at hab
      exact ⟨mem_sym hab.1, mem_sym hab.2⟩

/-! ### A thread -/
def labF (_ : Nat) (L : List ByteArray) (s : ByteArray) : List ByteArray ⊕ (List ByteArray ⊕ Int) :=
  if !rightS s then .inr (.inr 3) else if has L s then .inr (.inr 6) else .inl (L ++ [s])
def labsE (L : List ByteArray) (ls : List ByteArray) : List ByteArray ⊕ Int := foldE labF .inl 0 L ls
def insF (p : T_api_Prog) (_ : Nat) (L : List ByteArray) (x : T_api_Ins) : List ByteArray ⊕ (List ByteArray ⊕ Int) :=
  match labsE L x.Labels with
  | .inr e => .inr (.inr e)
  | .inl L' => if insN x != 0 then .inr (.inr (insN x)) else if placeN p x.A != 0 then .inr (.inr (placeN p x.A)) else if placeN p x.B != 0 then .inr (.inr (placeN p x.B)) else .inl L'
theorem labs_spec : ∀ (ls : List ByteArray) (i : Nat) (L L' : List ByteArray), foldE labF Sum.inl i L ls = Sum.inl L' → L' = L ++ ls
  | [], i, L, L', h => by simp only [foldE] at h; obtain rfl := Sum.inl.inj h; simp
  | s :: ls, i, L, L', h => by
    simp only [foldE] at h
    cases hf : labF i L s with
    | inr r =>
      rw [hf] at h
      unfold labF at hf
      split at hf
      · obtain rfl := Sum.inr.inj hf; cases h
      · split at hf
        · obtain rfl := Sum.inr.inj hf; cases h
        · cases hf
    | inl L1 =>
      rw [hf] at h
      have : L1 = L ++ [s] := by
        unfold labF at hf
        split at hf
        · cases hf
        split at hf
        · cases hf
        · exact (Sum.inl.inj hf).symm
      subst this
      have := labs_spec ls _ _ _ h
      simpa using this
theorem insF_spec {p : T_api_Prog} {i : Nat} {L L' : List ByteArray} {x : T_api_Ins} (h : insF p i L x = .inl L') : L' = L ++ x.Labels ∧ insN x = 0 := by
  unfold insF at h
  cases hl : labsE L x.Labels with
  | inr e => rw [hl] at h; cases h
  | inl L1 =>
    rw [hl] at h
    have hL := labs_spec _ _ _ _ hl
    simp only at h
    split at h
    · cases h
    rename_i hn
    split at h
    · cases h
    split at h
    · cases h
    obtain rfl := Sum.inl.inj h
    exact ⟨hL, by simpa using hn⟩
theorem insE_spec {p : T_api_Prog} : ∀ (xs : List T_api_Ins) (i : Nat) (L L' : List ByteArray), foldE (insF p) Sum.inl i L xs = Sum.inl L' → L' = L ++ xs.flatMap (·.Labels) ∧ ∀ x ∈ xs, insN x = 0
  | [], i, L, L', h => by simp only [foldE] at h; obtain rfl := Sum.inl.inj h; simp
  | x :: xs, i, L, L', h => by
    simp only [foldE] at h
    cases hf : insF p i L x with
    | inr r =>
      rw [hf] at h
      have : ∃ e, r = .inr e := by
        unfold insF at hf
        split at hf
        · exact ⟨_, (Sum.inr.inj hf).symm⟩
        · split at hf
          · exact ⟨_, (Sum.inr.inj hf).symm⟩
          split at hf
          · exact ⟨_, (Sum.inr.inj hf).symm⟩
          split at hf
          · exact ⟨_, (Sum.inr.inj hf).symm⟩
          · cases hf
      obtain ⟨e, rfl⟩ := this
      cases h
    | inl L1 =>
      rw [hf] at h
      obtain ⟨rfl, h0⟩ := insF_spec hf
      obtain ⟨h1, h2⟩ := insE_spec xs _ _ _ h
      refine ⟨by rw [h1]; simp, fun y hy => ?_⟩
      rcases List.mem_cons.1 hy with rfl | hy
      · exact h0
      · exact h2 y hy
def leadF (L : List ByteArray) (_ : Nat) (_ : Unit) (x : T_api_Ins) : Unit ⊕ (Unit ⊕ Int) := if jumpB x && !has L x.To then .inr (.inr 7) else .inl ()
def lastOp (t : T_api_Thread) : Int := (rd t.Ins ((t.Ins.length : Int) - 1)).Op
def threadN (p : T_api_Prog) (t : T_api_Thread) : Int :=
  if decide (countN t > 4096) then 10 else match foldE (insF p) (Sum.inl : List ByteArray → List ByteArray ⊕ Int) 0 [] t.Ins with
  | .inr e => e
  | .inl L => if ((t.Ins.length : Int) == 0) || ((lastOp t != 10) && (lastOp t != 14)) then 9 else match foldE (leadF L) Sum.inl 0 () t.Ins with
    | .inl () => 0
    | .inr e => e
theorem valid_labs (t : T_api_Thread) (i0 : Nat) (x : T_api_Ins) (hx : t.Ins[i0]? = some x) (hk : LabOk x) (L : List ByteArray) : loopO (valid_thread_s2 t i0) (0, seen L) = some (match labsE L x.Labels with | .inl L' => .inl (seen L') | .inr e => .inr e) := by
  have hn := hk.n
  have := loop_list x.Labels (fun i (L : List ByteArray) => (i, seen L)) (valid_thread_s2 t i0) (fun i L s => match labF i L s with | .inl L' => .inl L' | .inr (.inl L') => .inr (.inl (seen L')) | .inr (.inr e) => .inr (.inr e)) (fun L => .inl (seen L)) (fun _ _ => True)
    (fun i s hs L _ => ⟨?_, fun _ _ => trivial⟩) (fun L _ => ?_) L trivial
  · rw [this]
    congr 1
    unfold labsE
    generalize x.Labels = ls
    generalize (0 : Nat) = k
    clear this hn
    induction ls generalizing L k with
    | nil => rfl
    | cons s ls ih =>
      simp only [foldE]
      cases hf : labF k L s with
      | inl L' => exact ih L' (k + 1)
      | inr r => cases r <;> rfl
  · have hi : i ≤ 1000 := by have := (List.getElem?_eq_some_iff.1 hs).1; omega
    simp only [valid_thread_s2, rd_at hx]
    rw [if_pos (lt_at hs), if_pos (inb_at hs), rd_at hs, names_Right_eq _ (sm1000 (hk.lab s (List.mem_of_getElem? hs))), wi (by omega), mat_seen]
    simp only [Option.bind_some]
    unfold labF
    cases rightS s
    · rfl
    · cases hm : has L s
      · simp [mst_seen (has_not.1 hm)]
      · simp
  · simp only [valid_thread_s2, rd_at hx]
    rw [if_neg (by simp)]
end Go.Vs
