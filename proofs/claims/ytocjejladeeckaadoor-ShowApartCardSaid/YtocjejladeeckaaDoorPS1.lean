import Derived.Test.YtocjejladeeckaaDoorPalShow9
import Derived.Test.YtocjejladeeckaaDoorPalEb
section
/-! What the book of programs makes. -/
set_option linter.unusedVariables false
set_option linter.unusedSimpArgs false
set_option linter.unusedSectionVars false
namespace Go.Vs
open Go.Lib
local instance tabPalShowA : Tab := ⟨fun _ => none⟩
theorem z64 : I64 0 := by unfold I64; decide
theorem pick_i {p : Int} (h : I64 p) (n : Int) (hn : 0 < n) (hn2 : n ≤ 1000) : ∃ i : Nat, palingbook_Pick p n = some (i : Int) ∧ (i : Int) < n := by
  obtain ⟨i, h1, h2, h3⟩ := pick_some h n hn hn2
  exact ⟨i.toNat, by rw [h1]; congr 1; omega, by omega⟩
theorem reg_w {a : Int} (h : I64 a) : ∃ o, palingbook_register a = some o ∧ I64 o.N := by
  obtain ⟨i, h1, h2⟩ := pick_i h 4 (by omega) (by omega)
  refine ⟨⟨1, i, 0, 0⟩, ?_, z64⟩
  unfold palingbook_register
  rw [h1]; rfl
theorem div3 {a : Int} (h : I64 a) : I64 (IntKind.wrap .i64 (Int.tdiv a 3)) := by
  have h1 : (Int.tdiv a 3).natAbs ≤ a.natAbs := by rw [Int.natAbs_tdiv]; exact Nat.div_le_self _ _
  obtain ⟨h2, h3⟩ := h
  rw [wi64]
  constructor <;> omega
theorem plain_w {b n : Int} (h : I64 b) (hn : I64 n) : ∃ o, palingbook_plain b n = some o ∧ I64 o.N := by
  obtain ⟨i, h1, h2⟩ := pick_i h 3 (by omega) (by omega)
  unfold palingbook_plain
  rw [h1]
  simp only [Option.bind_some]
  split
  · obtain ⟨o, h3, h4⟩ := reg_w (div3 h)
    exact ⟨o, by rw [h3]; rfl, h4⟩
  · exact ⟨_, rfl, hn⟩
def memV (v1 : Int) : Option T_api_Opd :=
  (some ([1, 2, 1])).bind fun l3 =>
  if ((Int.tmod v1 5) == 4) = true then (some (T_api_Opd.mk 4 (IntKind.wrap .i64 (Int.tdiv v1 15)) (Int.tmod (IntKind.wrap .i64 (Int.tdiv v1 5)) 3) 0)) else (if InB (Int.tmod (IntKind.wrap .i64 (Int.tdiv v1 5)) 3) l3.length then (if ¬ (rd l3 (Int.tmod (IntKind.wrap .i64 (Int.tdiv v1 5)) 3)) = 0 then ((some (Int.tmod (Int.tmod v1 5) (rd l3 (Int.tmod (IntKind.wrap .i64 (Int.tdiv v1 5)) 3)))).bind fun n8 =>
    some (T_api_Opd.mk 3 0 (Int.tmod (IntKind.wrap .i64 (Int.tdiv v1 5)) 3) n8)) else none) else none)
def memChk (o : T_api_Opd) : Bool := opdB o && memB o && decide (0 ≤ o.Sym ∧ o.Sym ≤ 2 ∧ 0 ≤ o.N ∧ o.N ≤ 1 ∧ (o.Kind = 3 → o.N < rd [1, 2, 1] o.Sym))
theorem mem_all : ((List.range 60).all fun v => match memV (v : Int) with | some o => memChk o | none => false) = true := by decide +kernel
theorem mem_w {a : Int} (h : I64 a) : ∃ o, palingbook_memory a = some o ∧ memChk o = true := by
  obtain ⟨i, h1, h2⟩ := pick_i h 60 (by omega) (by omega)
  have h3 := (List.all_eq_true.1 mem_all) i (by simp; omega)
  have h4 : palingbook_memory a = memV i := by
    unfold palingbook_memory memV
    rw [h1]; rfl
  rw [h4]
  cases hv : memV (i : Int) with
  | none => rw [hv] at h3; cases h3
  | some o => rw [hv] at h3; exact ⟨o, rfl, h3⟩
theorem memChk_n {o : T_api_Opd} (h : memChk o = true) : I64 o.N := by
  unfold memChk at h
  simp only [Bool.and_eq_true, decide_eq_true_eq] at h
  unfold I64; omega
theorem label_w (k : Int) : ∃ s, palingbook_label k = some s ∧ s.size = 3 := by
  unfold palingbook_label
  rw [if_pos (catB (by show 1 + 2 ≤ _; omega))]
  exact ⟨_, rfl, by rw [app_size]; rfl⟩
structure BookIns (y : T_api_Ins) : Prop where
  a : I64 y.A.N
  b : I64 y.B.N
  to : y.To.size ≤ 3
  lab : y.Labels = []
def GoodI (o : Option T_api_Ins) : Prop := ∃ y, o = some y ∧ BookIns y
theorem good_ite {b : Bool} {x y : Option T_api_Ins} (h1 : b = true → GoodI x) (h2 : b = false → GoodI y) : GoodI (if b = true then x else y) := by cases b <;> simp_all
theorem book_Ins {x : T_palingbook_Act} (hw : W_palingbook_Act x) {n : Int} (hn : 0 < n) (hn2 : n ≤ 1000) : ∃ y, palingbook_Ins x n = some y ∧ BookIns y := by
  obtain ⟨v1, e1, l1⟩ := pick_i hw.C.i64 5 (by omega) (by omega)
  obtain ⟨v3, e3, l3⟩ := pick_i hw.Kind.i64 22 (by omega) (by omega)
  obtain ⟨rA, eA, nA⟩ := reg_w hw.A.i64
  obtain ⟨rB, eB, nB⟩ := reg_w hw.B.i64
  obtain ⟨mA, fA, gA⟩ := mem_w hw.A.i64
  obtain ⟨mB, fB, gB⟩ := mem_w hw.B.i64
  obtain ⟨pB, hB, kB⟩ := plain_w hw.B.i64 hw.N.i64
  obtain ⟨j, ej, lj⟩ := pick_i hw.A.i64 n hn hn2
  obtain ⟨c, ec, lc⟩ := pick_i hw.C.i64 10 (by omega) (by omega)
  obtain ⟨t, et, lt⟩ := label_w j
  have qA := memChk_n gA
  have qB := memChk_n gB
  have zt : (⟨#[]⟩ : ByteArray).size ≤ 3 := by decide
  have lt3 : t.size ≤ 3 := by omega
  have one : ∀ op lk cd A B to, I64 A.N → I64 B.N → to.size ≤ 3 → GoodI (some (T_api_Ins.mk op lk cd A B to [])) := fun op lk cd A B to h1 h2 h3 => ⟨_, rfl, ⟨h1, h2, h3, rfl⟩⟩
  have g4 : ∀ b, GoodI (palingbook_Ins_j4 x v1 v3 n b) := by
    intro b
    unfold palingbook_Ins_j4 palingbook_Ins_j1
    repeat' refine good_ite (fun _ => ?_) (fun _ => ?_)
    all_goals try simp only [Option.bind_some, eA, eB, fA, fB, hB, ej, ec, et]
    all_goals exact one _ _ _ _ _ _ (by first | assumption | exact z64) (by first | assumption | exact z64) (by assumption)
  have g3 : ∀ b, GoodI (palingbook_Ins_j3 x v3 v1 n b) := by
    intro b
    unfold palingbook_Ins_j3
    repeat' refine good_ite (fun _ => ?_) (fun _ => ?_)
    all_goals try simp only [Option.bind_some, eA, eB, fA, fB, hB, ej, ec, et]
    all_goals first | exact g4 _ | exact one _ _ _ _ _ _ (by first | assumption | exact z64) (by first | assumption | exact z64) (by assumption)
  have g2 : ∀ b, GoodI (palingbook_Ins_j2 x v3 v1 n b) := by
    intro b
    unfold palingbook_Ins_j2
    repeat' refine good_ite (fun _ => ?_) (fun _ => ?_)
    all_goals try simp only [Option.bind_some, eA, eB, fA, fB, hB, ej, ec, et]
    all_goals first | exact g3 _ | exact one _ _ _ _ _ _ (by first | assumption | exact z64) (by first | assumption | exact z64) (by assumption)
  show GoodI _
  unfold palingbook_Ins
  rw [e1, e3]
  simp only [Option.bind_some]
  repeat' refine good_ite (fun _ => ?_) (fun _ => ?_)
  all_goals try simp only [Option.bind_some, eA, eB, fA, fB, hB, ej, ec, et]
  all_goals first | exact g2 _ | exact one _ _ _ _ _ _ (by first | assumption | exact z64) (by first | assumption | exact z64) (by assumption)
theorem BookIns.ok {y : T_api_Ins} (h : BookIns y) : InsOk y := ⟨by have := h.to; unfold Sm; omega, h.a, h.b⟩
theorem BookIns.lb {y : T_api_Ins} (h : BookIns y) : LabOk y := ⟨h.ok, by rw [h.lab]; decide, by have := h.to; omega, by rw [h.lab]; intro s hs; cases hs⟩
/-! ### ShowIns -/
end Go.Vs
end

section
/-! What the book of programs makes: whole programs. -/
set_option linter.unusedVariables false
set_option linter.unusedSimpArgs false
set_option linter.unusedSectionVars false
namespace Go.Vs
open Go.Lib
local instance tabPalShowB : Tab := ⟨fun _ => none⟩
structure BookL (y : T_api_Ins) : Prop where
  a : I64 y.A.N
  b : I64 y.B.N
  to : y.To.size ≤ 3
  n : y.Labels.length ≤ 1
  lab : ∀ s ∈ y.Labels, s.size ≤ 3
theorem BookIns.l {y : T_api_Ins} (h : BookIns y) : BookL y := ⟨h.a, h.b, h.to, by rw [h.lab]; decide, by rw [h.lab]; intro s hs; cases hs⟩
theorem BookL.ok {y : T_api_Ins} (h : BookL y) : LabOk y := ⟨⟨by have := h.to; unfold Sm; omega, h.a, h.b⟩, by have := h.n; omega, by have := h.to; omega, fun s hs => by have := h.lab s hs; omega⟩
theorem book_s2 (p0 : List (List T_palingbook_Act)) (i : Nat) (l : List T_palingbook_Act) (hi : p0[i]? = some l) (hl : ∀ x ∈ l, W_palingbook_Act x) (n : Nat) (hn : n ≤ l.length) (hn8 : n ≤ 100) :
    ∃ r, loopO (palingbook_Prog_s2 (n : Int) (i : Int) p0) (0, []) = some r ∧ r.length = n ∧ ∀ y ∈ r, BookIns y := by
  have main : ∀ (k j : Nat) (out : List T_api_Ins), n - j = k → j ≤ n → out.length = j → (∀ y ∈ out, BookIns y) → ∃ r, loopO (palingbook_Prog_s2 (n : Int) (i : Int) p0) ((j : Int), out) = some r ∧ r.length = n ∧ ∀ y ∈ r, BookIns y := by
    intro k
    induction k with
    | zero =>
      intro j out h1 h2 h3 h4
      obtain rfl : j = n := by omega
      exact ⟨out, loopO_inr (by simp only [palingbook_Prog_s2]; rw [if_neg (by simp)]), h3, h4⟩
    | succ k ih =>
      intro j out h1 h2 h3 h4
      have hx : l[j]? = some l[j] := by rw [List.getElem?_eq_getElem]
      obtain ⟨y, e1, e2⟩ := book_Ins (hl l[j] (List.getElem_mem _)) (n := (n : Int) + 1) (by omega) (by omega)
      have hst : palingbook_Prog_s2 (n : Int) (i : Int) p0 ((j : Int), out) = some (.inl ((j : Int) + 1, out ++ [y])) := by
        simp only [palingbook_Prog_s2]
        rw [if_pos (by simp; omega), if_pos (inb_at hi), rd_at hi, if_pos (inb_at hx), rd_at hx, wi (by omega), e1, wi (by omega)]
        simp only [Option.bind_some]
        rw [if_pos (show Fits (out.length + 1) from by unfold Fits; omega)]
      obtain ⟨r, e3, e4, e5⟩ := ih (j + 1) (out ++ [y]) (by omega) (by omega) (by simp; omega) (fun z hz => by
        rcases List.mem_append.1 hz with h | h
        · exact h4 z h
        · rw [List.mem_singleton.1 h]; exact e2)
      exact ⟨r, by rw [loopO_inl hst]; exact e3, e4, e5⟩
  exact main n 0 [] (by omega) (by omega) rfl (by intro y hy; cases hy)
theorem set_all {α : Type} {P : α → Prop} {l : List α} {i : Nat} {a : α} (hl : ∀ x ∈ l, P x) (ha : P a) : ∀ x ∈ l.set i a, P x := by
  intro x hx
  rcases List.mem_or_eq_of_mem_set hx with h | h
  · exact hl x h
  · rw [h]; exact ha
theorem book_s4 (n : Nat) (hn : n ≤ 100) (i : Nat) (hi : i < n) : ∀ (k j : Nat) (l : List T_api_Ins), n + 1 - j = k → j ≤ n + 1 → l.length = n + 1 → (∀ y ∈ l, BookL y) →
    ∃ r, loopO (palingbook_Prog_s4 (n : Int) (i : Int)) ((j : Int), l) = some r ∧ r.length = n + 1 ∧ ∀ y ∈ r, BookL y := by
  intro k
  induction k with
  | zero =>
    intro j l h1 h2 h3 h4
    exact ⟨l, loopO_inr (by simp only [palingbook_Prog_s4]; rw [if_neg (by simp; omega)]), h3, h4⟩
  | succ k ih =>
    intro j l h1 h2 h3 h4
    obtain ⟨t, e1, e2⟩ := label_w (j : Int)
    have hj : j < l.length := by omega
    have hx : l[j]? = some l[j] := by rw [List.getElem?_eq_getElem]
    have hxi : l[i]? = some (l[i]'(by omega)) := by rw [List.getElem?_eq_getElem]
    have hst : ∃ l', palingbook_Prog_s4 (n : Int) (i : Int) ((j : Int), l) = some (.inl ((j : Int) + 1, l')) ∧ l'.length = n + 1 ∧ ∀ y ∈ l', BookL y := by
      simp only [palingbook_Prog_s4]
      rw [if_pos (by simp; omega), e1]
      simp only [Option.bind_some, if_pos (inb_at hxi), rd_at hxi, rd_at hx, inb_at hx, implies_true, if_true]
      unfold palingbook_Prog_j2
      rw [wi (by omega)]
      cases hc : (decide (t = (l[i]'(by omega)).To) && (((l[j].Labels).length : Int) == 0))
      · exact ⟨l, by simp, h3, h4⟩
      · refine ⟨_, by simp only [if_true]; rfl, by simp [h3], ?_⟩
        have hb := h4 l[j] (List.getElem_mem _)
        exact set_all h4 ⟨hb.a, hb.b, hb.to, by simp, fun s hs => by rw [List.mem_singleton.1 hs]; omega⟩
    obtain ⟨l', e3, e4, e5⟩ := hst
    obtain ⟨r, e6, e7, e8⟩ := ih (j + 1) l' (by omega) (by omega) e4 e5
    exact ⟨r, by rw [loopO_inl e3]; exact e6, e7, e8⟩
theorem book_s3 (n : Nat) (hn : n ≤ 100) : ∀ (k j : Nat) (l : List T_api_Ins), n - j = k → j ≤ n → l.length = n + 1 → (∀ y ∈ l, BookL y) →
    ∃ r, loopO (palingbook_Prog_s3 (n : Int)) ((j : Int), l) = some r ∧ r.length = n + 1 ∧ ∀ y ∈ r, BookL y := by
  intro k
  induction k with
  | zero =>
    intro j l h1 h2 h3 h4
    exact ⟨l, loopO_inr (by simp only [palingbook_Prog_s3]; rw [if_neg (by simp; omega)]), h3, h4⟩
  | succ k ih =>
    intro j l h1 h2 h3 h4
    have hx : l[j]? = some (l[j]'(by omega)) := by rw [List.getElem?_eq_getElem]
    have hst : ∃ l', palingbook_Prog_s3 (n : Int) ((j : Int), l) = some (.inl ((j : Int) + 1, l')) ∧ l'.length = n + 1 ∧ ∀ y ∈ l', BookL y := by
      simp only [palingbook_Prog_s3]
      rw [if_pos (by simp; omega), if_pos (inb_at hx)]
      unfold palingbook_Prog_j1
      rw [wi (by omega)]
      split
      · exact ⟨l, rfl, h3, h4⟩
      · obtain ⟨r, e1, e2, e3⟩ := book_s4 n hn j (by omega) (n + 1) 0 l (by omega) (by omega) h3 h4
        have e0 : loopO (palingbook_Prog_s4 (n : Int) (j : Int)) (0, l) = some r := e1
        rw [e0]
        exact ⟨r, rfl, e2, e3⟩
    obtain ⟨l', e3, e4, e5⟩ := hst
    obtain ⟨r, e6, e7, e8⟩ := ih (j + 1) l' (by omega) (by omega) e4 e5
    exact ⟨r, by rw [loopO_inl e3]; exact e6, e7, e8⟩
theorem hlt_ok : BookL (T_api_Ins.mk 14 false 0 (T_api_Opd.mk 0 0 0 0) (T_api_Opd.mk 0 0 0 0) (⟨#[]⟩ : ByteArray) ([])) := ⟨z64, z64, by decide, by decide, by intro s hs; cases hs⟩
theorem book_s1 (p0 : List (List T_palingbook_Act)) (hw : ∀ l ∈ p0, ∀ x ∈ l, W_palingbook_Act x) (p1 p2 : Nat) (h1 : p1 ≤ 100) (h2 : p2 ≤ 90) :
    ∃ r, loopO (palingbook_Prog_s1 p0 (p1 : Int) (p2 : Int)) (0, []) = some r ∧ r.length ≤ p1 ∧ ∀ t ∈ r, ThOk t := by
  have main : ∀ (k j : Nat) (out : List T_api_Thread), p1 - j = k → j ≤ p1 → out.length = j → (∀ y ∈ out, ThOk y) → ∃ r, loopO (palingbook_Prog_s1 p0 (p1 : Int) (p2 : Int)) ((j : Int), out) = some r ∧ r.length ≤ p1 ∧ ∀ y ∈ r, ThOk y := by
    intro k
    induction k with
    | zero =>
      intro j out q1 q2 q3 q4
      exact ⟨out, loopO_inr (by simp only [palingbook_Prog_s1]; rw [if_neg (by simp; omega)]), by omega, q4⟩
    | succ k ih =>
      intro j out q1 q2 q3 q4
      by_cases hj : j < p0.length
      · have hx : p0[j]? = some p0[j] := by rw [List.getElem?_eq_getElem]
        obtain ⟨n, hn, hn1, hn2⟩ : ∃ n : Nat, (if (p2 : Int) < (p0[j].length : Int) then (p2 : Int) else (p0[j].length : Int)) = (n : Int) ∧ n ≤ p0[j].length ∧ n ≤ p2 := by
          split
          · exact ⟨p2, rfl, by omega, Nat.le_refl _⟩
          · exact ⟨p0[j].length, rfl, Nat.le_refl _, by omega⟩
        obtain ⟨r, e1, e2, e3⟩ := book_s2 p0 j p0[j] hx (hw _ (List.getElem_mem _)) n hn1 (by omega)
        obtain ⟨r2, e4, e5, e6⟩ := book_s3 n (by omega) n 0 (r ++ [T_api_Ins.mk 14 false 0 (T_api_Opd.mk 0 0 0 0) (T_api_Opd.mk 0 0 0 0) (⟨#[]⟩ : ByteArray) ([])]) (by omega) (by omega) (by simp [e2]) (fun y hy => by
          rcases List.mem_append.1 hy with h | h
          · exact (e3 y h).l
          · rw [List.mem_singleton.1 h]; exact hlt_ok)
        have e7 : loopO (palingbook_Prog_s3 (n : Int)) (0, (r ++ [T_api_Ins.mk 14 false 0 (T_api_Opd.mk 0 0 0 0) (T_api_Opd.mk 0 0 0 0) (⟨#[]⟩ : ByteArray) ([])])) = some r2 := e4
        have hst : palingbook_Prog_s1 p0 (p1 : Int) (p2 : Int) ((j : Int), out) = some (.inl ((j : Int) + 1, out ++ [T_api_Thread.mk r2])) := by
          simp only [palingbook_Prog_s1]
          rw [if_pos (by simp; omega), if_pos (inb_at hx), rd_at hx, hn]
          simp only [Option.bind_some]
          rw [e1]
          simp only [Option.bind_some]
          rw [if_pos (show Fits (r.length + 1) from by unfold Fits; omega), e7]
          simp only [Option.bind_some]
          rw [if_pos (show Fits (out.length + 1) from by unfold Fits; omega), wi (by omega)]
        obtain ⟨r3, e8, e9, e10⟩ := ih (j + 1) (out ++ [T_api_Thread.mk r2]) (by omega) (by omega) (by simp; omega) (fun t ht => by
          rcases List.mem_append.1 ht with h | h
          · exact q4 t h
          · rw [List.mem_singleton.1 h]
            exact ⟨by show r2.length ≤ 100; omega, fun x hx => (e6 x hx).ok⟩)
        exact ⟨r3, by rw [loopO_inl hst]; exact e8, e9, e10⟩
      · exact ⟨out, loopO_inr (by simp only [palingbook_Prog_s1]; rw [if_neg (by simp; omega)]), by omega, q4⟩
  exact main p1 0 [] (by omega) (by omega) rfl (by intro y hy; cases hy)
def bookSyms : List T_api_Sym := [(T_api_Sym.mk (⟨#[120]⟩ : ByteArray) 1 ([])), (T_api_Sym.mk (⟨#[121]⟩ : ByteArray) 2 ([1])), (T_api_Sym.mk (⟨#[122]⟩ : ByteArray) 1 ([0]))]
theorem bookSyms_ok : ∀ s ∈ bookSyms, SymOk s := by
  intro s hs
  have i1 : I64 1 := by unfold I64; decide
  have i2 : I64 2 := by unfold I64; decide
  unfold bookSyms at hs
  simp only [List.mem_cons, List.mem_nil_iff, or_false] at hs
  rcases hs with rfl | rfl | rfl
  · exact ⟨by decide, by decide, i1, by intro v hv; cases hv⟩
  · exact ⟨by decide, by decide, i2, by intro v hv; rw [List.mem_singleton.1 hv]; exact i1⟩
  · exact ⟨by decide, by decide, i1, by intro v hv; rw [List.mem_singleton.1 hv]; exact z64⟩
theorem book_Prog (p0 : List (List T_palingbook_Act)) (hw : ∀ l ∈ p0, ∀ x ∈ l, W_palingbook_Act x) (p1 p2 : Nat) (h1 : p1 ≤ 100) (h2 : p2 ≤ 90) : ∃ p, palingbook_Prog p0 (p1 : Int) (p2 : Int) = some p ∧ ProgOk p := by
  obtain ⟨r, e1, e2, e3⟩ := book_s1 p0 hw p1 p2 h1 h2
  refine ⟨⟨bookSyms, r⟩, ?_, ⟨by show 3 ≤ 100; omega, by show r.length ≤ 100; omega, bookSyms_ok, e3⟩⟩
  unfold palingbook_Prog
  rw [e1]; rfl
end Go.Vs
end

section
/-! What the book of programs makes is right. -/
set_option linter.unusedVariables false
set_option linter.unusedSimpArgs false
set_option linter.unusedSectionVars false
namespace Go.Vs
open Go.Lib
local instance tabPalShowC : Tab := ⟨fun _ => none⟩
def labelB (k : Int) : ByteArray := (⟨#[108]⟩ : ByteArray) ++ (bytesI ([(IntKind.wrap .u8 (IntKind.wrap .i64 (48 + (IntKind.wrap .i64 (Int.tdiv k 10))))), (IntKind.wrap .u8 (IntKind.wrap .i64 (48 + (Int.tmod k 10))))]))
theorem label_eq (k : Int) : palingbook_label k = some (labelB k) := by
  unfold palingbook_label
  rw [if_pos (catB (by show 1 + 2 ≤ _; omega))]
  rfl
theorem label_right_all : ((List.range 100).all fun k => rightS (labelB (k : Int))) = true := by decide +kernel
theorem label_right {k : Nat} (h : k < 100) : rightS (labelB (k : Int)) = true := (List.all_eq_true.1 label_right_all) k (by simpa using h)
theorem label_inj_all : ((List.range 100).all fun i => (List.range 100).all fun j => decide (i = j) || !decide (labelB (i : Int) = labelB (j : Int))) = true := by decide +kernel
theorem label_inj {i j : Nat} (hi : i < 100) (hj : j < 100) (h : labelB (i : Int) = labelB (j : Int)) : i = j := by
  have := (List.all_eq_true.1 ((List.all_eq_true.1 label_inj_all) i (by simpa using hi))) j (by simpa using hj)
  simpa [h] using this
theorem row_reg {op : Int} {A B : T_api_Opd} (h1 : 1 ≤ op) (h2 : op ≤ 7) (hA : opdB A = true) (kA : A.Kind = 1) (hB : opdB B = true) : rowB ⟨op, false, 0, A, B, ⟨#[]⟩, []⟩ = true := by
  unfold rowB
  have e1 : (decide (op < 1) || decide (op > 9)) = false := by simp; omega
  have e8 : (op == 8) = false := by simp; omega
  have e9 : (op == 9) = false := by simp; omega
  simp [e1, e8, e9, hA, hB, kA]
theorem row_mem {op : Int} {lk : Bool} {A B : T_api_Opd} (h1 : 1 ≤ op) (h2 : op ≤ 7) (hA : opdB A = true) (mA : memB A = true) (hB : opdB B = true) (mB : memB B = false) (hl : lk = true → 2 ≤ op ∧ op ≤ 6) : rowB ⟨op, lk, 0, A, B, ⟨#[]⟩, []⟩ = true := by
  unfold rowB
  have e1 : (decide (op < 1) || decide (op > 9)) = false := by simp; omega
  have e8 : (op == 8) = false := by simp; omega
  have e9 : (op == 9) = false := by simp; omega
  have k1 : (A.Kind == 1) = false := by
    have := kind_mem A
    rw [mA, Bool.and_true] at this; exact this
  cases lk
  · simp [e1, e8, e9, hA, hB, k1, mA, mB]
  · have := hl rfl
    simp [e1, e8, e9, hA, hB, k1, mA, mB]; omega
theorem ins_zero {y : T_api_Ins} (hc : condB y = true) (h1 : 1 ≤ y.Op) (h2 : y.Op ≤ 14) (hr : rowB y = true) (hj : jumpB y = true → rightS y.To = true) (hn : jumpB y = false → y.To = ⟨#[]⟩) : insN y = 0 := by
  unfold insN fitsB
  have e1 : (decide (y.Op ≥ 1) && decide (y.Op ≤ 14)) = true := by simp; omega
  cases h : jumpB y
  · simp [hc, e1, hr, hn h]
  · simp [hc, e1, hr, hj h]
structure BookR (n : Nat) (y : T_api_Ins) : Prop extends BookIns y where
  z : insN y = 0
  pA : memB y.A = true → memChk y.A = true
  pB : memB y.B = true → memChk y.B = true
  j : jumpB y = true → ∃ k : Nat, k < n ∧ y.To = labelB k
  nj : jumpB y = false → y.To = ⟨#[]⟩
theorem memChk_b {o : T_api_Opd} (h : memChk o = true) : opdB o = true ∧ memB o = true := by
  unfold memChk at h
  simp only [Bool.and_eq_true] at h
  exact h.1
theorem reg_s {a : Int} (h : I64 a) : ∃ o, palingbook_register a = some o ∧ I64 o.N ∧ opdB o = true ∧ o.Kind = 1 ∧ memB o = false := by
  obtain ⟨i, h1, h2⟩ := pick_i h 4 (by omega) (by omega)
  refine ⟨⟨1, i, 0, 0⟩, ?_, z64, ?_, rfl, rfl⟩
  · unfold palingbook_register
    rw [h1]; rfl
  · unfold opdB; simp; omega
theorem plain_s {b n : Int} (h : I64 b) (hn : I64 n) : ∃ o, palingbook_plain b n = some o ∧ I64 o.N ∧ opdB o = true ∧ memB o = false := by
  obtain ⟨i, h1, h2⟩ := pick_i h 3 (by omega) (by omega)
  unfold palingbook_plain
  rw [h1]
  simp only [Option.bind_some]
  split
  · obtain ⟨o, h3, h4, h5, _, h7⟩ := reg_s (div3 h)
    exact ⟨o, by rw [h3]; rfl, h4, h5, h7⟩
  · exact ⟨_, rfl, hn, rfl, rfl⟩
def GoodR (n : Nat) (o : Option T_api_Ins) : Prop := ∃ y, o = some y ∧ BookR n y
theorem goodR_ite {n : Nat} {b : Bool} {x y : Option T_api_Ins} (h1 : b = true → GoodR n x) (h2 : b = false → GoodR n y) : GoodR n (if b = true then x else y) := by cases b <;> simp_all
theorem book_right {x : T_palingbook_Act} (hw : W_palingbook_Act x) {n : Nat} (hn : 0 < n) (hn2 : n ≤ 100) : ∃ y, palingbook_Ins x n = some y ∧ BookR n y := by
  obtain ⟨v1, e1, l1⟩ := pick_i hw.C.i64 5 (by omega) (by omega)
  obtain ⟨v3, e3, l3⟩ := pick_i hw.Kind.i64 22 (by omega) (by omega)
  obtain ⟨rA, eA, nA, oA, kA, zA⟩ := reg_s hw.A.i64
  obtain ⟨rB, eB, nB, oB, kB, zB⟩ := reg_s hw.B.i64
  obtain ⟨mA, fA, gA⟩ := mem_w hw.A.i64
  obtain ⟨mB, fB, gB⟩ := mem_w hw.B.i64
  obtain ⟨pB, hB, nP, oP, zP⟩ := plain_s hw.B.i64 hw.N.i64
  obtain ⟨j, ej, lj⟩ := pick_i hw.A.i64 n (by omega) (by omega)
  obtain ⟨c, ec, lc⟩ := pick_i hw.C.i64 10 (by omega) (by omega)
  have et := label_eq (j : Int)
  have qA := memChk_n gA
  have qB := memChk_n gB
  obtain ⟨uA, wA⟩ := memChk_b gA
  obtain ⟨uB, wB⟩ := memChk_b gB
  have hj : j < n := by omega
  have w2 : IntKind.wrap .i64 (2 + (v1 : Int)) = 2 + (v1 : Int) := wi64_id ⟨by omega, by omega⟩
  have w1 : IntKind.wrap .i64 (1 + (c : Int)) = 1 + (c : Int) := wi64_id ⟨by omega, by omega⟩
  have zt : (⟨#[]⟩ : ByteArray).size ≤ 3 := by decide
  have noj : ∀ op lk A B, op ≠ 10 → op ≠ 11 → jumpB ⟨op, lk, 0, A, B, ⟨#[]⟩, []⟩ = false := fun op lk A B a b => by unfold jumpB; simp [a, b]
  have mk : ∀ op lk A B, 1 ≤ op → op ≤ 9 → rowB ⟨op, lk, 0, A, B, ⟨#[]⟩, []⟩ = true → I64 A.N → I64 B.N → (memB A = true → memChk A = true) → (memB B = true → memChk B = true) → GoodR n (some ⟨op, lk, 0, A, B, ⟨#[]⟩, []⟩) := by
    intro op lk A B h1 h2 hr hA hB cA cB
    have hnj := noj op lk A B (by omega) (by omega)
    refine ⟨_, rfl, ⟨⟨hA, hB, zt, rfl⟩, ?_, cA, cB, (fun h => by rw [hnj] at h; cases h), fun _ => rfl⟩⟩
    refine ins_zero ?_ h1 (by show op ≤ 14; omega) hr (fun h => by rw [hnj] at h; cases h) (fun _ => rfl)
    have e11 : (op == 11) = false := by simp; omega
    unfold condB
    simp [e11]
  have nm : ∀ {o : T_api_Opd}, memB o = false → memB o = true → memChk o = true := fun h1 h2 => by rw [h1] at h2; cases h2
  have rp : ∀ op, 1 ≤ op → op ≤ 7 → GoodR n (some ⟨op, false, 0, rA, pB, ⟨#[]⟩, []⟩) := fun op a b => mk op false rA pB a (by omega) (row_reg a b oA kA oP) nA nP (nm zA) (nm zP)
  have rm : ∀ op, 1 ≤ op → op ≤ 7 → GoodR n (some ⟨op, false, 0, rA, mB, ⟨#[]⟩, []⟩) := fun op a b => mk op false rA mB a (by omega) (row_reg a b oA kA uB) nA qB (nm zA) (fun _ => gB)
  have mp : ∀ op lk, 1 ≤ op → op ≤ 7 → (lk = true → 2 ≤ op ∧ op ≤ 6) → GoodR n (some ⟨op, lk, 0, mA, pB, ⟨#[]⟩, []⟩) := fun op lk a b h => mk op lk mA pB a (by omega) (row_mem a b uA wA oP zP h) qA nP (fun _ => gA) (nm zP)
  have m8 : GoodR n (some ⟨8, false, 0, mA, rB, ⟨#[]⟩, []⟩) := mk 8 false mA rB (by omega) (by omega) (by unfold rowB; simp [uA, oB, wA, kB]) qA nB (fun _ => gA) (nm zB)
  have m9 : GoodR n (some ⟨9, true, 0, mA, rB, ⟨#[]⟩, []⟩) := mk 9 true mA rB (by omega) (by omega) (by unfold rowB; simp [uA, oB, wA, kB]) qA nB (fun _ => gA) (nm zB)
  have zO : ∀ op cd to, 10 ≤ op → op ≤ 14 → (op = 11 → 1 ≤ cd ∧ cd ≤ 10) → (op ≠ 11 → cd = 0) → to.size ≤ 3 → (op = 10 ∨ op = 11 → ∃ k : Nat, k < n ∧ to = labelB k) → (op ≠ 10 → op ≠ 11 → to = ⟨#[]⟩) → GoodR n (some ⟨op, false, cd, ⟨0, 0, 0, 0⟩, ⟨0, 0, 0, 0⟩, to, []⟩) := by
    intro op cd to h1 h2 h3 h4 h5 h6 h7
    have hJ : jumpB ⟨op, false, cd, ⟨0, 0, 0, 0⟩, ⟨0, 0, 0, 0⟩, to, []⟩ = true → op = 10 ∨ op = 11 := fun h => by unfold jumpB at h; simpa using h
    have hN : jumpB ⟨op, false, cd, ⟨0, 0, 0, 0⟩, ⟨0, 0, 0, 0⟩, to, []⟩ = false → op ≠ 10 ∧ op ≠ 11 := fun h => by unfold jumpB at h; simpa using h
    refine ⟨_, rfl, ⟨⟨z64, z64, h5, rfl⟩, ?_, (fun h => by cases h), (fun h => by cases h), fun h => h6 (hJ h), fun h => h7 (hN h).1 (hN h).2⟩⟩
    refine ins_zero ?_ (by show 1 ≤ op; omega) h2 ?_ (fun h => ?_) (fun h => h7 (hN h).1 (hN h).2)
    · unfold condB
      by_cases e : op = 11
      · simp [e]; exact h3 e
      · simp [e]; exact h4 e
    · unfold rowB
      have : (decide (op < 1) || decide (op > 9)) = true := by simp; omega
      simp [this, zeroB]
    · obtain ⟨k, hk, e⟩ := h6 (hJ h)
      show rightS to = true
      rw [e]; exact label_right (by omega)
  have lsz : (labelB (j : Int)).size ≤ 3 := by
    obtain ⟨t, h1, h2⟩ := label_w (j : Int)
    rw [et] at h1
    obtain rfl := Option.some.inj h1
    omega
  have g4 : ∀ b, GoodR n (palingbook_Ins_j4 x v1 v3 n b) := by
    intro b
    unfold palingbook_Ins_j4 palingbook_Ins_j1
    repeat' refine goodR_ite (fun _ => ?_) (fun _ => ?_)
    all_goals try simp only [Option.bind_some, eA, eB, fA, fB, hB, ej, ec, et, w1, w2]
    · exact mp (2 + (v1 : Int)) false (by omega) (by omega) (by simp)
    · exact rm 7 (by omega) (by omega)
    · exact mp 7 false (by omega) (by omega) (by simp)
    · exact m8
    · exact m9
    · exact mp (2 + (v1 : Int)) true (by omega) (by omega) (fun _ => ⟨by omega, by omega⟩)
    · exact zO 10 0 _ (by omega) (by omega) (by omega) (by simp) lsz (fun _ => ⟨j, hj, rfl⟩) (by simp)
    · exact zO 11 (1 + (c : Int)) _ (by omega) (by omega) (by omega) (by simp) lsz (fun _ => ⟨j, hj, rfl⟩) (by simp)
    · exact zO 12 0 _ (by omega) (by omega) (by omega) (by simp) zt (by omega) (by simp)
    · exact rp 7 (by omega) (by omega)
    · exact zO 13 0 _ (by omega) (by omega) (by omega) (by simp) zt (by omega) (by simp)
  have g3 : ∀ b, GoodR n (palingbook_Ins_j3 x v3 v1 n b) := by
    intro b
    unfold palingbook_Ins_j3
    repeat' first | exact g4 _ | refine goodR_ite (fun _ => ?_) (fun _ => ?_)
    all_goals try simp only [Option.bind_some, eA, eB, fA, fB, hB, ej, ec, et, w1, w2]
    all_goals first | exact g4 _ | exact mp 1 false (by omega) (by omega) (by simp) | exact rp (2 + (v1 : Int)) (by omega) (by omega) | exact rm (2 + (v1 : Int)) (by omega) (by omega)
  have g2 : ∀ b, GoodR n (palingbook_Ins_j2 x v3 v1 n b) := by
    intro b
    unfold palingbook_Ins_j2
    repeat' first | exact g3 _ | refine goodR_ite (fun _ => ?_) (fun _ => ?_)
    all_goals try simp only [Option.bind_some, eA, eB, fA, fB, hB, ej, ec, et, w1, w2]
    all_goals first | exact g3 _ | exact rm 1 (by omega) (by omega)
  show GoodR n _
  unfold palingbook_Ins
  rw [e1, e3]
  simp only [Option.bind_some]
  repeat' first | exact g2 _ | refine goodR_ite (fun _ => ?_) (fun _ => ?_)
  all_goals try simp only [Option.bind_some, eA, eB, fA, fB, hB, ej, ec, et, w1, w2]
  all_goals first | exact g2 _ | exact rp 1 (by omega) (by omega)
end Go.Vs
end

section
/-! The threads that the book of programs makes. -/
set_option linter.unusedVariables false
set_option linter.unusedSimpArgs false
set_option linter.unusedSectionVars false
namespace Go.Vs
open Go.Lib
local instance tabPalShowD : Tab := ⟨fun _ => none⟩
theorem book_s2R (p0 : List (List T_palingbook_Act)) (i : Nat) (l : List T_palingbook_Act) (hi : p0[i]? = some l) (hl : ∀ x ∈ l, W_palingbook_Act x) (n : Nat) (hn : n ≤ l.length) (hn8 : n < 99) :
    ∃ r, loopO (palingbook_Prog_s2 (n : Int) (i : Int) p0) (0, []) = some r ∧ r.length = n ∧ ∀ y ∈ r, BookR (n + 1) y := by
  have main : ∀ (k j : Nat) (out : List T_api_Ins), n - j = k → j ≤ n → out.length = j → (∀ y ∈ out, BookR (n + 1) y) → ∃ r, loopO (palingbook_Prog_s2 (n : Int) (i : Int) p0) ((j : Int), out) = some r ∧ r.length = n ∧ ∀ y ∈ r, BookR (n + 1) y := by
    intro k
    induction k with
    | zero =>
      intro j out h1 h2 h3 h4
      obtain rfl : j = n := by omega
      exact ⟨out, loopO_inr (by simp only [palingbook_Prog_s2]; rw [if_neg (by simp)]), h3, h4⟩
    | succ k ih =>
      intro j out h1 h2 h3 h4
      have hx : l[j]? = some l[j] := by rw [List.getElem?_eq_getElem]
      obtain ⟨y, e1, e2⟩ := book_right (hl l[j] (List.getElem_mem _)) (n := n + 1) (by omega) (by omega)
      have e1' : palingbook_Ins l[j] ((n : Int) + 1) = some y := e1
      have hst : palingbook_Prog_s2 (n : Int) (i : Int) p0 ((j : Int), out) = some (.inl ((j : Int) + 1, out ++ [y])) := by
        simp only [palingbook_Prog_s2]
        rw [if_pos (by simp; omega), if_pos (inb_at hi), rd_at hi, if_pos (inb_at hx), rd_at hx, wi (by omega), e1', wi (by omega)]
        simp only [Option.bind_some]
        rw [if_pos (show Fits (out.length + 1) from by unfold Fits; omega)]
      obtain ⟨r, e3, e4, e5⟩ := ih (j + 1) (out ++ [y]) (by omega) (by omega) (by simp; omega) (fun z hz => by
        rcases List.mem_append.1 hz with h | h
        · exact h4 z h
        · rw [List.mem_singleton.1 h]; exact e2)
      exact ⟨r, by rw [loopO_inl hst]; exact e3, e4, e5⟩
  exact main n 0 [] (by omega) (by omega) rfl (by intro y hy; cases hy)
def putL (m : Nat → Bool) (k : Nat) (x : T_api_Ins) : T_api_Ins := T_api_Ins.mk x.Op x.Lock x.Cond x.A x.B x.To (if m k then [labelB (k : Int)] else [])
def withL (o : List T_api_Ins) (m : Nat → Bool) : List T_api_Ins := o.mapIdx (putL m)
theorem withL_len {o m} : (withL o m).length = o.length := List.length_mapIdx
theorem withL_get {o : List T_api_Ins} {m : Nat → Bool} {k : Nat} {x : T_api_Ins} (h : o[k]? = some x) : (withL o m)[k]? = some (putL m k x) := by
  unfold withL; rw [List.getElem?_mapIdx, h]; rfl
theorem withL_set {o : List T_api_Ins} {m : Nat → Bool} {j : Nat} {x : T_api_Ins} (h : o[j]? = some x) :
    (withL o m).set j (T_api_Ins.mk x.Op x.Lock x.Cond x.A x.B x.To [labelB (j : Int)]) = withL o (fun k => m k || (k == j)) := by
  refine List.ext_getElem? fun k => ?_
  rw [List.getElem?_set]
  have hlt := (List.getElem?_eq_some_iff.1 h).1
  by_cases e : j = k
  · subst e
    rw [if_pos rfl, if_pos (by rw [withL_len]; exact hlt), withL_get h]
    simp [putL]
  · rw [if_neg e]
    cases ho : o[k]? with
    | none => unfold withL; rw [List.getElem?_mapIdx, List.getElem?_mapIdx, ho]; rfl
    | some y =>
      rw [withL_get ho, withL_get ho]
      have : (k == j) = false := by simpa using fun e2 => e e2.symm
      simp [putL, this]
theorem withL_congr {o : List T_api_Ins} {m m' : Nat → Bool} (h : ∀ k, k < o.length → m k = m' k) : withL o m = withL o m' := by
  refine List.ext_getElem? fun k => ?_
  cases ho : o[k]? with
  | none => unfold withL; rw [List.getElem?_mapIdx, List.getElem?_mapIdx, ho]; rfl
  | some y =>
    rw [withL_get ho, withL_get ho]
    have := h k (List.getElem?_eq_some_iff.1 ho).1
    simp [putL, this]
theorem book_s4R (n : Nat) (hn : n ≤ 98) (o : List T_api_Ins) (ho : o.length = n + 1) (i : Nat) (hi : i < n) (x : T_api_Ins) (hx : o[i]? = some x) : ∀ (k j : Nat) (m : Nat → Bool), n + 1 - j = k → j ≤ n + 1 →
    ∃ m', loopO (palingbook_Prog_s4 (n : Int) (i : Int)) ((j : Int), withL o m) = some (withL o m') ∧ ∀ q, q ≤ n → m' q = (m q || (decide (j ≤ q) && decide (x.To = labelB (q : Int)))) := by
  intro k
  induction k with
  | zero =>
    intro j m h1 h2
    exact ⟨m, loopO_inr (by simp only [palingbook_Prog_s4]; rw [if_neg (by simp; omega)]), fun q hq => by
      have : decide (j ≤ q) = false := by simp; omega
      simp [this]⟩
  | succ k ih =>
    intro j m h1 h2
    have hj : j < o.length := by omega
    obtain ⟨y, hy⟩ : ∃ y, o[j]? = some y := ⟨_, List.getElem?_eq_getElem hj⟩
    have gx := withL_get (m := m) hx
    have gy := withL_get (m := m) hy
    have hst : palingbook_Prog_s4 (n : Int) (i : Int) ((j : Int), withL o m) = some (.inl ((j : Int) + 1, withL o (fun q => m q || ((q == j) && decide (x.To = labelB (j : Int)))))) := by
      simp only [palingbook_Prog_s4]
      rw [if_pos (by simp; omega), label_eq]
      simp only [Option.bind_some, if_pos (inb_at gx), rd_at gx, rd_at gy, inb_at gy, implies_true, if_true]
      unfold palingbook_Prog_j2
      rw [wi (by omega)]
      have hTo : (putL m i x).To = x.To := rfl
      rw [hTo]
      by_cases ht : x.To = labelB (j : Int)
      · have d1 : decide (labelB (j : Int) = x.To) = true := by simp [ht]
        have d2 : decide (x.To = labelB (j : Int)) = true := by simp [ht]
        simp only [d1, d2, Bool.true_and, Bool.and_true]
        cases hm : m j
        · have e : (((putL m j y).Labels.length : Int) == 0) = true := by simp [putL, hm]
          simp only [e, if_true]
          have := withL_set (m := m) hy
          rw [show (j : Int).toNat = j from rfl]
          exact congrArg (fun z => some (Sum.inl ((j : Int) + 1, z))) this
        · have e : (((putL m j y).Labels.length : Int) == 0) = false := by simp [putL, hm]
          simp only [e, Bool.false_eq_true, if_false]
          refine congrArg (fun z => some (Sum.inl ((j : Int) + 1, z))) (withL_congr fun q hq => ?_)
          by_cases e2 : q = j
          · subst e2; simp [hm]
          · have : (q == j) = false := by simpa using e2
            simp [this]
      · have d1 : decide (labelB (j : Int) = x.To) = false := by simp; exact fun e => ht e.symm
        have d2 : decide (x.To = labelB (j : Int)) = false := by simpa using ht
        simp only [d1, d2, Bool.false_and, Bool.and_false, Bool.or_false, Bool.false_eq_true, if_false]
    obtain ⟨m', e3, e4⟩ := ih (j + 1) _ (by omega) (by omega)
    refine ⟨m', by rw [loopO_inl hst]; exact e3, fun q hq => ?_⟩
    rw [e4 q hq]
    by_cases e2 : q = j
    · subst e2
      have a1 : decide (q + 1 ≤ q) = false := by simp
      have a2 : decide (q ≤ q) = true := by simp
      simp [a1, a2]
    · have a0 : (q == j) = false := by simpa using e2
      have a1 : decide (j + 1 ≤ q) = decide (j ≤ q) := by
        by_cases h : j ≤ q
        · simp [h]; omega
        · simp [h]; omega
      simp [a0, a1]
theorem label_ne (q : Int) : ¬ labelB q = ⟨#[]⟩ := by
  intro h
  have h1 : (labelB q).size = 3 := by
    obtain ⟨t, h1, h2⟩ := label_w q
    rw [label_eq] at h1
    obtain rfl := Option.some.inj h1
    exact h2
  rw [h] at h1
  exact absurd h1 (by decide)
def Hit (o : List T_api_Ins) (n j q : Nat) : Prop := ∃ (i : Nat) (x : T_api_Ins), j ≤ i ∧ i < n ∧ o[i]? = some x ∧ x.To = labelB (q : Int)
theorem book_s3R (n : Nat) (hn : n ≤ 98) (o : List T_api_Ins) (ho : o.length = n + 1) : ∀ (k j : Nat) (m : Nat → Bool), n - j = k → j ≤ n →
    ∃ m', loopO (palingbook_Prog_s3 (n : Int)) ((j : Int), withL o m) = some (withL o m') ∧ ∀ q, q ≤ n → (m' q = true ↔ m q = true ∨ Hit o n j q) := by
  intro k
  induction k with
  | zero =>
    intro j m h1 h2
    refine ⟨m, loopO_inr (by simp only [palingbook_Prog_s3]; rw [if_neg (by simp; omega)]), fun q hq => ⟨.inl, fun h => h.elim id fun ⟨i, x, a, b, _⟩ => by omega⟩⟩
  | succ k ih =>
    intro j m h1 h2
    obtain ⟨x, hx⟩ : ∃ x, o[j]? = some x := ⟨_, List.getElem?_eq_getElem (by omega)⟩
    have gx := withL_get (m := m) hx
    have hst : ∃ m1, palingbook_Prog_s3 (n : Int) ((j : Int), withL o m) = some (.inl ((j : Int) + 1, withL o m1)) ∧ ∀ q, q ≤ n → (m1 q = true ↔ m q = true ∨ x.To = labelB (q : Int)) := by
      simp only [palingbook_Prog_s3]
      rw [if_pos (by simp; omega), if_pos (inb_at gx), rd_at gx]
      unfold palingbook_Prog_j1
      rw [wi (by omega)]
      have hTo : (putL m j x).To = x.To := rfl
      rw [hTo]
      by_cases he : x.To = ⟨#[]⟩
      · rw [if_pos (by simpa using he)]
        exact ⟨m, rfl, fun q _ => ⟨.inl, fun h => h.elim id fun h => absurd (h.symm.trans he) (label_ne _)⟩⟩
      · rw [if_neg (by simpa using he)]
        obtain ⟨m', e1, e2⟩ := book_s4R n hn o ho j (by omega) x hx (n + 1) 0 m (by omega) (by omega)
        have e0 : loopO (palingbook_Prog_s4 (n : Int) (j : Int)) (0, withL o m) = some (withL o m') := e1
        rw [e0]
        refine ⟨m', rfl, fun q hq => ?_⟩
        rw [e2 q hq]
        simp
    obtain ⟨m1, e3, e4⟩ := hst
    obtain ⟨m', e5, e6⟩ := ih (j + 1) m1 (by omega) (by omega)
    refine ⟨m', by rw [loopO_inl e3]; exact e5, fun q hq => ?_⟩
    rw [e6 q hq, e4 q hq]
    constructor
    · rintro ((h | h) | ⟨i, y, a, b, c, d⟩)
      · exact .inl h
      · exact .inr ⟨j, x, Nat.le_refl _, by omega, hx, h⟩
      · exact .inr ⟨i, y, by omega, b, c, d⟩
    · rintro (h | ⟨i, y, a, b, c, d⟩)
      · exact .inl (.inl h)
      · by_cases e : i = j
        · subst e
          rw [hx] at c
          obtain rfl := Option.some.inj c
          exact .inl (.inr d)
        · exact .inr ⟨i, y, by omega, b, c, d⟩
end Go.Vs
end

section
/-! Made threads may be. -/
set_option linter.unusedVariables false
set_option linter.unusedSimpArgs false
set_option linter.unusedSectionVars false
namespace Go.Vs
open Go.Lib
local instance tabPalShowE : Tab := ⟨fun _ => none⟩
theorem insN_putL (m : Nat → Bool) (k : Nat) (y : T_api_Ins) : insN (putL m k y) = insN y := rfl
theorem place_book {p : T_api_Prog} (hp : p.Syms = bookSyms) {o : T_api_Opd} (h : memB o = true → memChk o = true) : placeN p o = 0 := by
  unfold placeN
  cases hm : memB o
  · rfl
  · have hc := h hm
    unfold memChk at hc
    simp only [Bool.and_eq_true, decide_eq_true_eq] at hc
    obtain ⟨_, h0, h2, h3, h4, h5⟩ := hc
    rw [hp]
    have e3 : ((bookSyms.length : Nat) : Int) = 3 := rfl
    rw [e3]
    have d1 : decide (o.Sym ≥ 3) = false := by simp; omega
    simp only [Bool.not_true, Bool.false_eq_true, if_false, d1]
    by_cases hk : o.Kind = 3
    · have hs : (rd bookSyms o.Sym).Size = rd [1, 2, 1] o.Sym := by
        have : o.Sym = 0 ∨ o.Sym = 1 ∨ o.Sym = 2 := by omega
        rcases this with e | e | e <;> rw [e] <;> rfl
      have := h5 hk
      rw [hs]
      have d2 : decide (o.N ≥ rd [1, 2, 1] o.Sym) = false := by simp; omega
      simp [d2]
    · have : (o.Kind == 3) = false := by simpa using hk
      simp [this]
theorem ins_fold (p : T_api_Prog) (hp : p.Syms = bookSyms) (o : List T_api_Ins) (ho : o.length ≤ 100) (m : Nat → Bool) (hy : ∀ y ∈ o, insN y = 0 ∧ (memB y.A = true → memChk y.A = true) ∧ (memB y.B = true → memChk y.B = true)) :
    ∀ (k j : Nat) (L : List ByteArray), o.length - j = k → j ≤ o.length → (∀ s ∈ L, ∃ q : Nat, q < j ∧ s = labelB (q : Int)) → ∃ L', foldE (insF p) (Sum.inl : List ByteArray → List ByteArray ⊕ Int) j L ((withL o m).drop j) = .inl L' := by
  intro k
  induction k with
  | zero =>
    intro j L h1 h2 h3
    rw [List.drop_eq_nil_of_le (by rw [withL_len]; omega)]
    exact ⟨L, rfl⟩
  | succ k ih =>
    intro j L h1 h2 h3
    have hj : j < o.length := by omega
    have hyj : o[j]? = some o[j] := List.getElem?_eq_getElem hj
    have g := withL_get (m := m) hyj
    have hd : (withL o m).drop j = putL m j o[j] :: (withL o m).drop (j + 1) := by
      rw [List.drop_eq_getElem_cons (by rw [withL_len]; exact hj)]
      congr 1
      exact (List.getElem?_eq_some_iff.1 g).2
    rw [hd]
    obtain ⟨z, cA, cB⟩ := hy o[j] (List.getElem_mem _)
    have hl : labsE L (putL m j o[j]).Labels = .inl (if m j then L ++ [labelB (j : Int)] else L) := by
      unfold putL labsE
      cases hm : m j
      · rfl
      · have hn : has L (labelB (j : Int)) = false := by
          rw [has_not]
          intro hmem
          obtain ⟨q, hq, e⟩ := h3 _ hmem
          have := label_inj (by omega) (by omega) e
          omega
        simp [foldE, labF, label_right (show j < 100 by omega), hn]
    have hf : insF p j L (putL m j o[j]) = .inl (if m j then L ++ [labelB (j : Int)] else L) := by
      unfold insF
      rw [hl]
      simp only [insN_putL, z]
      have pA : placeN p (putL m j o[j]).A = 0 := place_book hp cA
      have pB : placeN p (putL m j o[j]).B = 0 := place_book hp cB
      rw [pA, pB]
      rfl
    simp only [foldE, hf]
    refine ih (j + 1) _ (by omega) (by omega) fun s hs => ?_
    split at hs
    · rcases List.mem_append.1 hs with h | h
      · obtain ⟨q, a, b⟩ := h3 s h; exact ⟨q, by omega, b⟩
      · exact ⟨j, by omega, List.mem_singleton.1 h⟩
    · obtain ⟨q, a, b⟩ := h3 s hs; exact ⟨q, by omega, b⟩
theorem count_le : ∀ (xs : List T_api_Ins) (k : Nat) (a : Int), foldE (fun _ (n : Int) (x : T_api_Ins) => if (x.Op != 12) = true then .inl (n + 1) else .inl n) (fun n => n) k a xs ≤ a + xs.length
  | [], k, a => by simp [foldE]
  | x :: xs, k, a => by
    simp only [foldE]
    by_cases h : (x.Op != 12) = true
    · simp only [h, if_true]
      have := count_le xs (k + 1) (a + 1)
      simp only [List.length_cons]; omega
    · simp only [h, if_false]
      have := count_le xs (k + 1) a
      simp only [List.length_cons]
      simp only [Bool.false_eq_true, if_false]
      omega
theorem lead_ok (L : List ByteArray) : ∀ (xs : List T_api_Ins) (k : Nat), (∀ x ∈ xs, jumpB x = true → has L x.To = true) → foldE (leadF L) (Sum.inl : Unit → Unit ⊕ Int) k () xs = .inl ()
  | [], k, _ => rfl
  | x :: xs, k, h => by
    have hx : leadF L k () x = .inl () := by
      unfold leadF
      cases hj : jumpB x
      · rfl
      · rw [h x (List.mem_cons_self ..) hj]; rfl
    simp only [foldE, hx]
    exact lead_ok L xs (k + 1) fun y hy => h y (List.mem_cons_of_mem _ hy)
def hltI : T_api_Ins := T_api_Ins.mk 14 false 0 (T_api_Opd.mk 0 0 0 0) (T_api_Opd.mk 0 0 0 0) (⟨#[]⟩ : ByteArray) ([])
theorem thread_zero (p : T_api_Prog) (hp : p.Syms = bookSyms) (r : List T_api_Ins) (n : Nat) (hr : r.length = n) (hn : n ≤ 98) (hy : ∀ y ∈ r, BookR (n + 1) y) (m : Nat → Bool) (hm : ∀ q, q ≤ n → Hit (r ++ [hltI]) n 0 q → m q = true) :
    threadN p ⟨withL (r ++ [hltI]) m⟩ = 0 := by
  have hlen : (withL (r ++ [hltI]) m).length = n + 1 := by rw [withL_len]; simp [hr]
  unfold threadN
  have hc : decide (countN ⟨withL (r ++ [hltI]) m⟩ > 4096) = false := by
    have := count_le (withL (r ++ [hltI]) m) 0 0
    rw [hlen] at this
    have h2 : countN ⟨withL (r ++ [hltI]) m⟩ ≤ 0 + ((n + 1 : Nat) : Int) := this
    simp; omega
  rw [hc]
  obtain ⟨L, hL⟩ := ins_fold p hp (r ++ [hltI]) (by simp; omega) m (fun y h => by
    rcases List.mem_append.1 h with h | h
    · exact ⟨(hy y h).z, (hy y h).pA, (hy y h).pB⟩
    · rw [List.mem_singleton.1 h]; exact ⟨by decide +kernel, by decide, by decide⟩) _ 0 [] rfl (by omega) (by intro s hs; cases hs)
  rw [List.drop_zero] at hL
  simp only [Bool.false_eq_true, if_false]
  rw [hL]
  obtain ⟨hL2, _⟩ := insE_spec _ _ _ _ hL
  have hlast : lastOp ⟨withL (r ++ [hltI]) m⟩ = 14 := by
    unfold lastOp
    have : (withL (r ++ [hltI]) m)[n]? = some (putL m n hltI) := withL_get (by simp [← hr])
    have e : (((withL (r ++ [hltI]) m).length : Nat) : Int) - 1 = (n : Int) := by rw [hlen]; omega
    show (rd (withL (r ++ [hltI]) m) (((withL (r ++ [hltI]) m).length : Int) - 1)).Op = 14
    rw [e, rd_at this]; rfl
  have h0 : (((withL (r ++ [hltI]) m).length : Int) == 0) = false := by rw [hlen]; simp; omega
  simp only [hlast, h0]
  rw [lead_ok L _ 0 fun x hx hj => ?_]
  · rfl
  · obtain ⟨k, hk⟩ := List.mem_iff_getElem?.1 hx
    have hk2 : k < (r ++ [hltI]).length := by have := (List.getElem?_eq_some_iff.1 hk).1; rw [withL_len] at this; exact this
    obtain ⟨y, hyk⟩ : ∃ y, (r ++ [hltI])[k]? = some y := ⟨_, List.getElem?_eq_getElem hk2⟩
    rw [withL_get hyk] at hk
    obtain rfl := Option.some.inj hk
    have hj2 : jumpB y = true := hj
    by_cases hkn : k < n
    · have hyr : r[k]? = some y := by rw [List.getElem?_append_left (by omega)] at hyk; exact hyk
      obtain ⟨q, hq, hto⟩ := (hy y (List.mem_of_getElem? hyr)).j hj2
      have hmq := hm q (by omega) ⟨k, y, Nat.zero_le _, hkn, hyk, hto⟩
      rw [has_mem, hL2, List.nil_append, List.mem_flatMap]
      obtain ⟨z, hz⟩ : ∃ z, (r ++ [hltI])[q]? = some z := ⟨_, List.getElem?_eq_getElem (by simp; omega)⟩
      refine ⟨putL m q z, List.mem_of_getElem? (withL_get hz), ?_⟩
      show y.To ∈ (if m q then [labelB (q : Int)] else [])
      rw [hmq, hto]; simp
    · have : k = r.length := by simp at hk2; omega
      subst this
      rw [List.getElem?_append_right (Nat.le_refl _), Nat.sub_self] at hyk
      obtain rfl := Option.some.inj hyk
      exact absurd hj2 (by decide)
end Go.Vs
end

section
/-! Made programs may be. -/
set_option linter.unusedVariables false
set_option linter.unusedSimpArgs false
set_option linter.unusedSectionVars false
namespace Go.Vs
open Go.Lib
local instance tabPalShowF : Tab := ⟨fun _ => none⟩
def BookT (t : T_api_Thread) : Prop := ∃ (r : List T_api_Ins) (n : Nat) (m : Nat → Bool), r.length = n ∧ n ≤ 98 ∧ (∀ y ∈ r, BookR (n + 1) y) ∧ (∀ q, q ≤ n → (m q = true ↔ Hit (r ++ [hltI]) n 0 q)) ∧ t = ⟨withL (r ++ [hltI]) m⟩
theorem withL_none {o : List T_api_Ins} (h : ∀ y ∈ o, y.Labels = []) : withL o (fun _ => false) = o := by
  refine List.ext_getElem? fun k => ?_
  cases ho : o[k]? with
  | none => unfold withL; rw [List.getElem?_mapIdx, ho]; rfl
  | some y =>
    rw [withL_get ho]
    have := h y (List.mem_of_getElem? ho)
    congr 1
    unfold putL
    simp only [Bool.false_eq_true, if_false]
    rw [← this]
theorem book_s1R (p0 : List (List T_palingbook_Act)) (hw : ∀ l ∈ p0, ∀ x ∈ l, W_palingbook_Act x) (p1 p2 : Nat) (h1 : p1 ≤ 60) (h2 : p2 ≤ 90) :
    ∃ r, loopO (palingbook_Prog_s1 p0 (p1 : Int) (p2 : Int)) (0, []) = some r ∧ r.length ≤ p1 ∧ ∀ t ∈ r, BookT t := by
  have main : ∀ (k j : Nat) (out : List T_api_Thread), p1 - j = k → j ≤ p1 → out.length = j → (∀ y ∈ out, BookT y) → ∃ r, loopO (palingbook_Prog_s1 p0 (p1 : Int) (p2 : Int)) ((j : Int), out) = some r ∧ r.length ≤ p1 ∧ ∀ y ∈ r, BookT y := by
    intro k
    induction k with
    | zero =>
      intro j out q1 q2 q3 q4
      exact ⟨out, loopO_inr (by simp only [palingbook_Prog_s1]; rw [if_neg (by simp; omega)]), by omega, q4⟩
    | succ k ih =>
      intro j out q1 q2 q3 q4
      by_cases hj : j < p0.length
      · have hx : p0[j]? = some p0[j] := by rw [List.getElem?_eq_getElem]
        obtain ⟨n, hn, hn1, hn2⟩ : ∃ n : Nat, (if (p2 : Int) < (p0[j].length : Int) then (p2 : Int) else (p0[j].length : Int)) = (n : Int) ∧ n ≤ p0[j].length ∧ n ≤ p2 := by
          split
          · exact ⟨p2, rfl, by omega, Nat.le_refl _⟩
          · exact ⟨p0[j].length, rfl, Nat.le_refl _, by omega⟩
        obtain ⟨r, e1, e2, e3⟩ := book_s2R p0 j p0[j] hx (hw _ (List.getElem_mem _)) n hn1 (by omega)
        obtain ⟨m, e4, e5⟩ := book_s3R n (by omega) (r ++ [hltI]) (by simp [e2]) n 0 (fun _ => false) (by omega) (by omega)
        rw [withL_none (fun y hy => by
          rcases List.mem_append.1 hy with h | h
          · exact (e3 y h).lab
          · rw [List.mem_singleton.1 h]; rfl)] at e4
        have e7 : loopO (palingbook_Prog_s3 (n : Int)) (0, (r ++ [T_api_Ins.mk 14 false 0 (T_api_Opd.mk 0 0 0 0) (T_api_Opd.mk 0 0 0 0) (⟨#[]⟩ : ByteArray) ([])])) = some (withL (r ++ [hltI]) m) := e4
        have hst : palingbook_Prog_s1 p0 (p1 : Int) (p2 : Int) ((j : Int), out) = some (.inl ((j : Int) + 1, out ++ [T_api_Thread.mk (withL (r ++ [hltI]) m)])) := by
          simp only [palingbook_Prog_s1]
          rw [if_pos (by simp; omega), if_pos (inb_at hx), rd_at hx, hn]
          simp only [Option.bind_some]
          rw [e1]
          simp only [Option.bind_some]
          rw [if_pos (show Fits (r.length + 1) from by unfold Fits; omega), e7]
          simp only [Option.bind_some]
          rw [if_pos (show Fits (out.length + 1) from by unfold Fits; omega), wi (by omega)]
        obtain ⟨r3, e8, e9, e10⟩ := ih (j + 1) (out ++ [T_api_Thread.mk (withL (r ++ [hltI]) m)]) (by omega) (by omega) (by simp; omega) (fun t ht => by
          rcases List.mem_append.1 ht with h | h
          · exact q4 t h
          · rw [List.mem_singleton.1 h]
            exact ⟨r, n, m, e2, by omega, e3, fun q hq => by rw [e5 q hq]; simp, rfl⟩)
        exact ⟨r3, by rw [loopO_inl hst]; exact e8, e9, e10⟩
      · exact ⟨out, loopO_inr (by simp only [palingbook_Prog_s1]; rw [if_neg (by simp; omega)]), by omega, q4⟩
  exact main p1 0 [] (by omega) (by omega) rfl (by intro y hy; cases hy)
theorem sym_zero : foldE symF (fun _ => (.inl () : Unit ⊕ Int)) 0 [] bookSyms = .inl () := by decide +kernel
theorem th_zero (p : T_api_Prog) : ∀ (ts : List T_api_Thread) (k : Nat), (∀ t ∈ ts, threadN p t = 0) → foldE (thF p) (Sum.inl : Unit → Unit ⊕ Int) k () ts = .inl ()
  | [], k, _ => rfl
  | t :: ts, k, h => by
    have : thF p k () t = .inl () := by unfold thF; rw [h t (List.mem_cons_self ..)]; rfl
    simp only [foldE, this]
    exact th_zero p ts (k + 1) fun y hy => h y (List.mem_cons_of_mem _ hy)
theorem book_zero (p0 : List (List T_palingbook_Act)) (hw : ∀ l ∈ p0, ∀ x ∈ l, W_palingbook_Act x) (p1 p2 : Nat) (h1 : p1 ≤ 60) (h2 : p2 ≤ 90) :
    ∃ p, palingbook_Prog p0 (p1 : Int) (p2 : Int) = some p ∧ p.Syms = bookSyms ∧ (∀ t ∈ p.Threads, BookT t) ∧ p.Threads.length ≤ p1 ∧ checkN p = 0 := by
  obtain ⟨r, e1, e2, e3⟩ := book_s1R p0 hw p1 p2 h1 h2
  refine ⟨⟨bookSyms, r⟩, ?_, rfl, e3, e2, ?_⟩
  · unfold palingbook_Prog
    rw [e1]; rfl
  · unfold checkN
    have d : (decide (((bookSyms.length : Nat) : Int) > 64) || decide ((r.length : Int) > 64)) = false := by
      have : decide ((r.length : Int) > 64) = false := by simp; omega
      rw [this]; rfl
    simp only [d, Bool.false_eq_true, if_false, sym_zero]
    rw [th_zero ⟨bookSyms, r⟩ r 0 fun t ht => ?_]
    obtain ⟨r', n, m, q1, q2, q3, q4, rfl⟩ := e3 t ht
    exact thread_zero _ rfl r' n q1 q2 q3 m (fun q hq => (q4 q hq).2)
end Go.Vs
end
