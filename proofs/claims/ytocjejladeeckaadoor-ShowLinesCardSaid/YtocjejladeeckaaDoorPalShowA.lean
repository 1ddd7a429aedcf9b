import Derived.Test.YtocjejladeeckaaDoorPalShow9
import Derived.Test.YtocjejladeeckaaDoorPalEb
/-! What the book of programs makes. -/
set_option linter.unusedVariables false
set_option linter.unusedSimpArgs false
set_option linter.unusedSectionVars false
namespace Go.Vs
open Go.Lib
local instance tabPalShowA : Tab := ⟨fun _ => none⟩
theorem z64 : I64 0 := by unfold I64; decide
theorem pick_i {p : Int} (h : I64 p) (n : Int) (hn : 0 < n) (hn2 : n ≤ 1000) : ∃ i : Nat, palingbook_Pick p n = some (i : Int) ∧ (i : Int) < n := by
  obtain ⟨i, h1, h2, h3⟩ := pick_some h n hn hn2
  exact ⟨i.toNat, by rw [h1]; congr 1; omega, by omega⟩
theorem reg_w {a : Int} (h : I64 a) : ∃ o, palingbook_register a = some o ∧ I64 o.N := by
  obtain ⟨i, h1, h2⟩ := pick_i h 4 (by omega) (by omega)
  refine ⟨⟨1, i, 0, 0⟩, ?_, z64⟩
  unfold palingbook_register
  rw [h1]; rfl
theorem div3 {a : Int} (h : I64 a) : I64 (IntKind.wrap .i64 (Int.tdiv a 3)) := by
  have h1 : (Int.tdiv a 3).natAbs ≤ a.natAbs := by rw [Int.natAbs_tdiv]; exact Nat.div_le_self _ _
  obtain ⟨h2, h3⟩ := h
  rw [wi64]
  constructor <;> omega
theorem plain_w {b n : Int} (h : I64 b) (hn : I64 n) : ∃ o, palingbook_plain b n = some o ∧ I64 o.N := by
  obtain ⟨i, h1, h2⟩ := pick_i h 3 (by omega) (by omega)
  unfold palingbook_plain
  rw [h1]
  simp only [Option.bind_some]
  split
  · obtain ⟨o, h3, h4⟩ := reg_w (div3 h)
    exact ⟨o, by rw [h3]; rfl, h4⟩
  · exact ⟨_, rfl, hn⟩
def memV (v1 : Int) : Option T_api_Opd :=
  (some ([1, 2, 1])).bind fun l3 =>
  if ((Int.tmod v1 5) == 4) = true then (some (T_api_Opd.mk 4 (IntKind.wrap .i64 (Int.tdiv v1 15)) (Int.tmod (IntKind.wrap .i64 (Int.tdiv v1 5)) 3) 0)) else (if InB (Int.tmod (IntKind.wrap .i64 (Int.tdiv v1 5)) 3) l3.length then (if ¬ (rd l3 (Int.tmod (IntKind.wrap .i64 (Int.tdiv v1 5)) 3)) = 0 then ((some (Int.tmod (Int.tmod v1 5) (rd l3 (Int.tmod (IntKind.wrap .i64 (Int.tdiv v1 5)) 3)))).bind fun n8 =>
    some (T_api_Opd.mk 3 0 (Int.tmod (IntKind.wrap .i64 (Int.tdiv v1 5)) 3) n8)) else none) else none)
def memChk (o : T_api_Opd) : Bool := opdB o && memB o && decide (0 ≤ o.Sym ∧ o.Sym ≤ 2 ∧ 0 ≤ o.N ∧ o.N ≤ 1 ∧ (o.Kind = 3 → o.N < rd [1, 2, 1] o.Sym))
theorem mem_all : ((List.range 60).all fun v => match memV (v : Int) with | some o => memChk o | none => false) = true := by decide +kernel
theorem mem_w {a : Int} (h : I64 a) : ∃ o, palingbook_memory a = some o ∧ memChk o = true := by
  obtain ⟨i, h1, h2⟩ := pick_i h 60 (by omega) (by omega)
  have h3 := (List.all_eq_true.1 mem_all) i (by simp; omega)
  have h4 : palingbook_memory a = memV i := by
    unfold palingbook_memory memV
    rw [h1]; rfl
  rw [h4]
  cases hv : memV (i : Int) with
  | none => rw [hv] at h3; cases h3
  | some o => rw [hv] at h3; exact ⟨o, rfl, h3⟩
theorem memChk_n {o : T_api_Opd} (h : memChk o = true) : I64 o.N := by
  unfold memChk at h
  simp only [Bool.and_eq_true, decide_eq_true_eq] at h
  unfold I64; omega
theorem label_w (k : Int) : ∃ s, palingbook_label k = some s ∧ s.size = 3 := by
  unfold palingbook_label
  rw [if_pos (catB (by show 1 + 2 ≤ _; omega))]
  exact ⟨_, rfl, by rw [app_size]; rfl⟩
structure BookIns (y : T_api_Ins) : Prop where
  a : I64 y.A.N
  b : I64 y.B.N
  to : y.To.size ≤ 3
  lab : y.Labels = []
def GoodI (o : Option T_api_Ins) : Prop := ∃ y, o = some y ∧ BookIns y
theorem good_ite {b : Bool} {x y : Option T_api_Ins} (h1 : b = true → GoodI x) (h2 : b = false → GoodI y) : GoodI (if b = true then x else y) := by cases b <;> simp_all
theorem book_Ins {x : T_palingbook_Act} (hw : W_palingbook_Act x) {n : Int} (hn : 0 < n) (hn2 : n ≤ 1000) : ∃ y, palingbook_Ins x n = some y ∧ BookIns y := by
  obtain ⟨v1, e1, l1⟩ := pick_i hw.C.i64 5 (by omega) (by omega)
  obtain ⟨v3, e3, l3⟩ := pick_i hw.Kind.i64 22 (by omega) (by omega)
  obtain ⟨rA, eA, nA⟩ := reg_w hw.A.i64
  obtain ⟨rB, eB, nB⟩ := reg_w hw.B.i64
  obtain ⟨mA, fA, gA⟩ := mem_w hw.A.i64
  obtain ⟨mB, fB, gB⟩ := mem_w hw.B.i64
  obtain ⟨pB, hB, kB⟩ := plain_w hw.B.i64 hw.N.i64
  obtain ⟨j, ej, lj⟩ := pick_i hw.A.i64 n hn hn2
  obtain ⟨c, ec, lc⟩ := pick_i hw.C.i64 10 (by omega) (by omega)
  obtain ⟨t, et, lt⟩ := label_w j
  have qA := memChk_n gA
  have qB := memChk_n gB
  have zt : (⟨#[]⟩ : ByteArray).size ≤ 3 := by decide
  have lt3 : t.size ≤ 3 := by omega
  have one : ∀ op lk cd A B to, I64 A.N → I64 B.N → to.size ≤ 3 → GoodI (some (T_api_Ins.mk op lk cd A B to [])) := fun op lk cd A B to h1 h2 h3 => ⟨_, rfl, ⟨h1, h2, h3, rfl⟩⟩
  have g4 : ∀ b, GoodI (palingbook_Ins_j4 x v1 v3 n b) := by
    intro b
    unfold palingbook_Ins_j4 palingbook_Ins_j1
    repeat' refine good_ite (fun _ => ?_) (fun _ => ?_)
    all_goals try simp only [Option.bind_some, eA, eB, fA, fB, hB, ej, ec, et]
    all_goals exact one _ _ _ _ _ _ (by first | assumption | exact z64) (by first | assumption | exact z64) (by assumption)
  have g3 : ∀ b, GoodI (palingbook_Ins_j3 x v3 v1 n b) := by
    intro b
    unfold palingbook_Ins_j3
    repeat' refine good_ite (fun _ => ?_) (fun _ => ?_)
    all_goals try simp only [Option.bind_some, eA, eB, fA, fB, hB, ej, ec, et]
    all_goals first | exact g4 _ | exact one _ _ _ _ _ _ (by first | assumption | exact z64) (by first | assumption | exact z64) (by assumption)
  have g2 : ∀ b, GoodI (palingbook_Ins_j2 x v3 v1 n b) := by
    intro b
    unfold palingbook_Ins_j2
    repeat' refine good_ite (fun _ => ?_) (fun _ => ?_)
    all_goals try simp only [Option.bind_some, eA, eB, fA, fB, hB, ej, ec, et]
    all_goals first | exact g3 _ | exact one _ _ _ _ _ _ (by first | assumption | exact z64) (by first | assumption | exact z64) (by assumption)
  show GoodI _
  unfold palingbook_Ins
  rw [e1, e3]
  simp only [Option.bind_some]
  repeat' refine good_ite (fun _ => ?_) (fun _ => ?_)
  all_goals try simp only [Option.bind_some, eA, eB, fA, fB, hB, ej, ec, et]
  all_goals first | exact g2 _ | exact one _ _ _ _ _ _ (by first | assumption | exact z64) (by first | assumption | exact z64) (by assumption)
theorem BookIns.ok {y : T_api_Ins} (h : BookIns y) : InsOk y := ⟨by have := h.to; unfold Sm; omega, h.a, h.b⟩
/-! ### ShowIns -/
end Go.Vs
