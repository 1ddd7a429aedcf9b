import Derived.Test.YtocjejladeeckaaDoorPalShowB
/-! What the book of programs makes is right. -/
set_option linter.unusedVariables false
set_option linter.unusedSimpArgs false
set_option linter.unusedSectionVars false
namespace Go.Vs
open Go.Lib
local instance tabPalShowC : Tab := ⟨fun _ => none⟩
def labelB (k : Int) : ByteArray := (⟨#[108]⟩ : ByteArray) ++ (bytesI ([(IntKind.wrap .u8 (IntKind.wrap .i64 (48 + (IntKind.wrap .i64 (Int.tdiv k 10))))), (IntKind.wrap .u8 (IntKind.wrap .i64 (48 + (Int.tmod k 10))))]))
theorem label_eq (k : Int) : palingbook_label k = some (labelB k) := by
  unfold palingbook_label
  rw [if_pos (catB (by show 1 + 2 ≤ _; omega))]
  rfl
theorem label_right_all : ((List.range 100).all fun k => rightS (labelB (k : Int))) = true := by decide +kernel
theorem label_right {k : Nat} (h : k < 100) : rightS (labelB (k : Int)) = true := (List.all_eq_true.1 label_right_all) k (by simpa using h)
theorem label_inj_all : ((List.range 100).all fun i => (List.range 100).all fun j => decide (i = j) || !decide (labelB (i : Int) = labelB (j : Int))) = true := by decide +kernel
theorem label_inj {i j : Nat} (hi : i < 100) (hj : j < 100) (h : labelB (i : Int) = labelB (j : Int)) : i = j := by
  have := (List.all_eq_true.1 ((List.all_eq_true.1 label_inj_all) i (by simpa using hi))) j (by simpa using hj)
  simpa [h] using this
theorem row_reg {op : Int} {A B : T_api_Opd} (h1 : 1 ≤ op) (h2 : op ≤ 7) (hA : opdB A = true) (kA : A.Kind = 1) (hB : opdB B = true) : rowB ⟨op, false, 0, A, B, ⟨#[]⟩, []⟩ = true := by
  unfold rowB
  have e1 : (decide (op < 1) || decide (op > 9)) = false := by simp; omega
  have e8 : (op == 8) = false := by simp; omega
  have e9 : (op == 9) = false := by simp; omega
  simp [e1, e8, e9, hA, hB, kA]
theorem row_mem {op : Int} {lk : Bool} {A B : T_api_Opd} (h1 : 1 ≤ op) (h2 : op ≤ 7) (hA : opdB A = true) (mA : memB A = true) (hB : opdB B = true) (mB : memB B = false) (hl : lk = true → 2 ≤ op ∧ op ≤ 6) : rowB ⟨op, lk, 0, A, B, ⟨#[]⟩, []⟩ = true := by
  unfold rowB
  have e1 : (decide (op < 1) || decide (op > 9)) = false := by simp; omega
  have e8 : (op == 8) = false := by simp; omega
  have e9 : (op == 9) = false := by simp; omega
  have k1 : (A.Kind == 1) = false := by
    have := kind_mem A
    rw [mA, Bool.and_true] at this; exact this
  cases lk
  · simp [e1, e8, e9, hA, hB, k1, mA, mB]
  · have := hl rfl
    simp [e1, e8, e9, hA, hB, k1, mA, mB]; omega
theorem ins_zero {y : T_api_Ins} (hc : condB y = true) (h1 : 1 ≤ y.Op) (h2 : y.Op ≤ 14) (hr : rowB y = true) (hj : jumpB y = true → rightS y.To = true) (hn : jumpB y = false → y.To = ⟨#[]⟩) : insN y = 0 := by
  unfold insN fitsB
  have e1 : (decide (y.Op ≥ 1) && decide (y.Op ≤ 14)) = true := by simp; omega
  cases h : jumpB y
  · simp [hc, e1, hr, hn h]
  · simp [hc, e1, hr, hj h]
structure BookR (n : Nat) (y : T_api_Ins) : Prop extends BookIns y where
  z : insN y = 0
  pA : memB y.A = true → memChk y.A = true
  pB : memB y.B = true → memChk y.B = true
  j : jumpB y = true → ∃ k : Nat, k < n ∧ y.To = labelB k
  nj : jumpB y = false → y.To = ⟨#[]⟩
theorem memChk_b {o : T_api_Opd} (h : memChk o = true) : opdB o = true ∧ memB o = true := by
  unfold memChk at h
  simp only [Bool.and_eq_true] at h
  exact h.1
theorem reg_s {a : Int} (h : I64 a) : ∃ o, palingbook_register a = some o ∧ I64 o.N ∧ opdB o = true ∧ o.Kind = 1 ∧ memB o = false := by
  obtain ⟨i, h1, h2⟩ := pick_i h 4 (by omega) (by omega)
  refine ⟨⟨1, i, 0, 0⟩, ?_, z64, ?_, rfl, rfl⟩
  · unfold palingbook_register
    rw [h1]; rfl
  · unfold opdB; simp; omega
theorem plain_s {b n : Int} (h : I64 b) (hn : I64 n) : ∃ o, palingbook_plain b n = some o ∧ I64 o.N ∧ opdB o = true ∧ memB o = false := by
  obtain ⟨i, h1, h2⟩ := pick_i h 3 (by omega) (by omega)
  unfold palingbook_plain
  rw [h1]
  simp only [Option.bind_some]
  split
  · obtain ⟨o, h3, h4, h5, _, h7⟩ := reg_s (div3 h)
    exact ⟨o, by rw [h3]; rfl, h4, h5, h7⟩
  · exact ⟨_, rfl, hn, rfl, rfl⟩
def GoodR (n : Nat) (o : Option T_api_Ins) : Prop := ∃ y, o = some y ∧ BookR n y
theorem goodR_ite {n : Nat} {b : Bool} {x y : Option T_api_Ins} (h1 : b = true → GoodR n x) (h2 : b = false → GoodR n y) : GoodR n (if b = true then x else y) := by cases b <;> simp_all
theorem book_right {x : T_palingbook_Act} (hw : W_palingbook_Act x) {n : Nat} (hn : 0 < n) (hn2 : n ≤ 100) : ∃ y, palingbook_Ins x n = some y ∧ BookR n y := by
  obtain ⟨v1, e1, l1⟩ := pick_i hw.C.i64 5 (by omega) (by omega)
  obtain ⟨v3, e3, l3⟩ := pick_i hw.Kind.i64 22 (by omega) (by omega)
  obtain ⟨rA, eA, nA, oA, kA, zA⟩ := reg_s hw.A.i64
  obtain ⟨rB, eB, nB, oB, kB, zB⟩ := reg_s hw.B.i64
  obtain ⟨mA, fA, gA⟩ := mem_w hw.A.i64
  obtain ⟨mB, fB, gB⟩ := mem_w hw.B.i64
  obtain ⟨pB, hB, nP, oP, zP⟩ := plain_s hw.B.i64 hw.N.i64
  obtain ⟨j, ej, lj⟩ := pick_i hw.A.i64 n (by omega) (by omega)
  obtain ⟨c, ec, lc⟩ := pick_i hw.C.i64 10 (by omega) (by omega)
  have et := label_eq (j : Int)
  have qA := memChk_n gA
  have qB := memChk_n gB
  obtain ⟨uA, wA⟩ := memChk_b gA
  obtain ⟨uB, wB⟩ := memChk_b gB
  have hj : j < n := by omega
  have w2 : IntKind.wrap .i64 (2 + (v1 : Int)) = 2 + (v1 : Int) := wi64_id ⟨by omega, by omega⟩
  have w1 : IntKind.wrap .i64 (1 + (c : Int)) = 1 + (c : Int) := wi64_id ⟨by omega, by omega⟩
  have zt : (⟨#[]⟩ : ByteArray).size ≤ 3 := by decide
  have noj : ∀ op lk A B, op ≠ 10 → op ≠ 11 → jumpB ⟨op, lk, 0, A, B, ⟨#[]⟩, []⟩ = false := fun op lk A B a b => by unfold jumpB; simp [a, b]
  have mk : ∀ op lk A B, 1 ≤ op → op ≤ 9 → rowB ⟨op, lk, 0, A, B, ⟨#[]⟩, []⟩ = true → I64 A.N → I64 B.N → (memB A = true → memChk A = true) → (memB B = true → memChk B = true) → GoodR n (some ⟨op, lk, 0, A, B, ⟨#[]⟩, []⟩) := by
    intro op lk A B h1 h2 hr hA hB cA cB
    have hnj := noj op lk A B (by omega) (by omega)
    refine ⟨_, rfl, ⟨⟨hA, hB, zt, rfl⟩, ?_, cA, cB, (fun h => by rw [hnj] at h; cases h), fun _ => rfl⟩⟩
    refine ins_zero ?_ h1 (by show op ≤ 14; omega) hr (fun h => by rw [hnj] at h; cases h) (fun _ => rfl)
    have e11 : (op == 11) = false := by simp; omega
    unfold condB
    simp [e11]
  have nm : ∀ {o : T_api_Opd}, memB o = false → memB o = true → memChk o = true := fun h1 h2 => by rw [h1] at h2; cases h2
  have rp : ∀ op, 1 ≤ op → op ≤ 7 → GoodR n (some ⟨op, false, 0, rA, pB, ⟨#[]⟩, []⟩) := fun op a b => mk op false rA pB a (by omega) (row_reg a b oA kA oP) nA nP (nm zA) (nm zP)
  have rm : ∀ op, 1 ≤ op → op ≤ 7 → GoodR n (some ⟨op, false, 0, rA, mB, ⟨#[]⟩, []⟩) := fun op a b => mk op false rA mB a (by omega) (row_reg a b oA kA uB) nA qB (nm zA) (fun _ => gB)
  have mp : ∀ op lk, 1 ≤ op → op ≤ 7 → (lk = true → 2 ≤ op ∧ op ≤ 6) → GoodR n (some ⟨op, lk, 0, mA, pB, ⟨#[]⟩, []⟩) := fun op lk a b h => mk op lk mA pB a (by omega) (row_mem a b uA wA oP zP h) qA nP (fun _ => gA) (nm zP)
  have m8 : GoodR n (some ⟨8, false, 0, mA, rB, ⟨#[]⟩, []⟩) := mk 8 false mA rB (by omega) (by omega) (by unfold rowB; simp [uA, oB, wA, kB]) qA nB (fun _ => gA) (nm zB)
  have m9 : GoodR n (some ⟨9, true, 0, mA, rB, ⟨#[]⟩, []⟩) := mk 9 true mA rB (by omega) (by omega) (by unfold rowB; simp [uA, oB, wA, kB]) qA nB (fun _ => gA) (nm zB)
  have zO : ∀ op cd to, 10 ≤ op → op ≤ 14 → (op = 11 → 1 ≤ cd ∧ cd ≤ 10) → (op ≠ 11 → cd = 0) → to.size ≤ 3 → (op = 10 ∨ op = 11 → ∃ k : Nat, k < n ∧ to = labelB k) → (op ≠ 10 → op ≠ 11 → to = ⟨#[]⟩) → GoodR n (some ⟨op, false, cd, ⟨0, 0, 0, 0⟩, ⟨0, 0, 0, 0⟩, to, []⟩) := by
    intro op cd to h1 h2 h3 h4 h5 h6 h7
    have hJ : jumpB ⟨op, false, cd, ⟨0, 0, 0, 0⟩, ⟨0, 0, 0, 0⟩, to, []⟩ = true → op = 10 ∨ op = 11 := fun h => by unfold jumpB at h; simpa using h
    have hN : jumpB ⟨op, false, cd, ⟨0, 0, 0, 0⟩, ⟨0, 0, 0, 0⟩, to, []⟩ = false → op ≠ 10 ∧ op ≠ 11 := fun h => by unfold jumpB at h; simpa using h
    refine ⟨_, rfl, ⟨⟨z64, z64, h5, rfl⟩, ?_, (fun h => by cases h), (fun h => by cases h), fun h => h6 (hJ h), fun h => h7 (hN h).1 (hN h).2⟩⟩
    refine ins_zero ?_ (by show 1 ≤ op; omega) h2 ?_ (fun h => ?_) (fun h => h7 (hN h).1 (hN h).2)
    · unfold condB
      by_cases e : op = 11
      · simp [e]; exact h3 e
      · simp [e]; exact h4 e
    · unfold rowB
      have : (decide (op < 1) || decide (op > 9)) = true := by simp; omega
      simp [this, zeroB]
    · obtain ⟨k, hk, e⟩ := h6 (hJ h)
      show rightS to = true
      rw [e]; exact label_right (by omega)
  have lsz : (labelB (j : Int)).size ≤ 3 := by
    obtain ⟨t, h1, h2⟩ := label_w (j : Int)
    rw [et] at h1
    obtain rfl := Option.some.inj h1
    omega
  have g4 : ∀ b, GoodR n (palingbook_Ins_j4 x v1 v3 n b) := by
    intro b
    unfold palingbook_Ins_j4 palingbook_Ins_j1
    repeat' refine goodR_ite (fun _ => ?_) (fun _ => ?_)
    all_goals try simp only [Option.bind_some, eA, eB, fA, fB, hB, ej, ec, et, w1, w2]
    · exact mp (2 + (v1 : Int)) false (by omega) (by omega) (by simp)
    · exact rm 7 (by omega) (by omega)
    · exact mp 7 false (by omega) (by omega) (by simp)
    · exact m8
    · exact m9
    · exact mp (2 + (v1 : Int)) true (by omega) (by omega) (fun _ => ⟨by omega, by omega⟩)
    · exact zO 10 0 _ (by omega) (by omega) (by omega) (by simp) lsz (fun _ => ⟨j, hj, rfl⟩) (by simp)
    · exact zO 11 (1 + (c : Int)) _ (by omega) (by omega) (by omega) (by simp) lsz (fun _ => ⟨j, hj, rfl⟩) (by simp)
    · exact zO 12 0 _ (by omega) (by omega) (by omega) (by simp) zt (by omega) (by simp)
    · exact rp 7 (by omega) (by omega)
    · exact zO 13 0 _ (by omega) (by omega) (by omega) (by simp) zt (by omega) (by simp)
  have g3 : ∀ b, GoodR n (palingbook_Ins_j3 x v3 v1 n b) := by
    intro b
    unfold palingbook_Ins_j3
    repeat' first | exact g4 _ | refine goodR_ite (fun _ => ?_) (fun _ => ?_)
    all_goals try simp only [Option.bind_some, eA, eB, fA, fB, hB, ej, ec, et, w1, w2]
    all_goals first | exact g4 _ | exact mp 1 false (by omega) (by omega) (by simp) | exact rp (2 + (v1 : Int)) (by omega) (by omega) | exact rm (2 + (v1 : Int)) (by omega) (by omega)
  have g2 : ∀ b, GoodR n (palingbook_Ins_j2 x v3 v1 n b) := by
    intro b
    unfold palingbook_Ins_j2
    repeat' first | exact g3 _ | refine goodR_ite (fun _ => ?_) (fun _ => ?_)
    all_goals try simp only [Option.bind_some, eA, eB, fA, fB, hB, ej, ec, et, w1, w2]
    all_goals first | exact g3 _ | exact rm 1 (by omega) (by omega)
  show GoodR n _
  unfold palingbook_Ins
  rw [e1, e3]
  simp only [Option.bind_some]
  repeat' first | exact g2 _ | refine goodR_ite (fun _ => ?_) (fun _ => ?_)
  all_goals try simp only [Option.bind_some, eA, eB, fA, fB, hB, ej, ec, et, w1, w2]
  all_goals first | exact g2 _ | exact rp 1 (by omega) (by omega)
end Go.Vs
