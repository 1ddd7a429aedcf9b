import Derived.Test.YtocjejladeeckaaDoorPalShow2
import Derived.Lib.ItoaLen
/-! The text of an instruction: both ways of telling it come to the same. -/
set_option linter.unusedVariables false
set_option linter.unusedSimpArgs false
set_option linter.unusedSectionVars false
namespace Go.Vs
open Go.Lib
local instance tabPalShow3 : Tab := ⟨fun _ => none⟩
theorem itoaB_size {n : Int} (h : I64 n) : (itoaB n).size ≤ 21 := by unfold itoaB; rw [bs_size]; exact itoa_length_le n h.1 h.2
theorem app_size (a b : ByteArray) : (a ++ b).size = a.size + b.size := ByteArray.size_append
theorem nil_app (a : ByteArray) : (⟨#[]⟩ : ByteArray) ++ a = a := bext (by rw [bl_append]; rfl)
theorem app_assoc (a b c : ByteArray) : (a ++ b) ++ c = a ++ (b ++ c) := ByteArray.append_assoc
theorem catOk1 {a b : ByteArray} {n m : Nat} (ha : a.size ≤ n) (hb : b.size ≤ m) (h : n + m ≤ 9223372036854775807) : CatOk a b := by unfold CatOk; omega
def regT (r : Int) : ByteArray := if decide (r ≥ 0) && decide (r < 8) then rd regsL r else ⟨#[]⟩
theorem names_RegText_eq (r : Int) : names_RegText r = some (regT r) := by
  unfold names_RegText regT
  rw [regs_eq]
  simp only [Option.bind_some]
  by_cases h0 : r ≥ 0 <;> by_cases h1 : r < 8
  · have hi : InB r regsL.length := ⟨h0, by show r.toNat < 8; omega⟩
    have h2 : decide (r < ((regsL.length : Nat) : Int)) = true := by show decide (r < (8 : Int)) = true; simpa using h1
    simp only [h0, h1, h2, decide_true, Bool.and_true, if_true, hi]
  · have h2 : decide (r < ((regsL.length : Nat) : Int)) = false := by show decide (r < (8 : Int)) = false; simpa using h1
    simp [h0, h1, h2]
  · simp [h0, h1]
  · simp [h0, h1]
def opT (op cond : Int) : ByteArray :=
  if ((op == 11) && decide (cond ≥ 1)) && decide (cond ≤ 10) then rd jumpsL (cond - 1)
  else if ((cond == 0) && decide (op ≥ 1)) && decide (op ≤ 14) then rd opsL (op - 1) else ⟨#[]⟩
theorem names_OpText_eq (op cond : Int) : names_OpText op cond = some (opT op cond) := by
  unfold names_OpText opT
  rw [jumps_eq, ops_eq]
  simp only [Option.bind_some]
  have e10 : ((jumpsL.length : Nat) : Int) = 10 := rfl
  have e14 : ((opsL.length : Nat) : Int) = 14 := rfl
  rw [e10, e14]
  split
  · rename_i h
    simp only [Bool.and_eq_true, decide_eq_true_eq] at h
    rw [wi64_id ⟨by omega, by omega⟩, if_pos (show InB (cond - 1) jumpsL.length from ⟨by omega, by show _ < 10; omega⟩)]
  · split
    · rename_i h
      simp only [Bool.and_eq_true, decide_eq_true_eq] at h
      rw [wi64_id ⟨by omega, by omega⟩, if_pos (show InB (op - 1) opsL.length from ⟨by omega, by show _ < 14; omega⟩)]
    · rfl
theorem rd_size {l : List ByteArray} {n : Nat} (h : ∀ s ∈ l, s.size ≤ n) (i : Int) : (rd l i).size ≤ n := by
  unfold rd
  rw [List.getD_eq_getElem?_getD]
  cases e : l[i.toNat]? with
  | none => show (default : ByteArray).size ≤ n; exact Nat.zero_le _
  | some s => exact h s (List.mem_of_getElem? e)
theorem regT_size (r : Int) : (regT r).size ≤ 10 := by
  unfold regT
  split
  · exact rd_size (by decide) r
  · show 0 ≤ 10; omega
theorem opT_size (op cond : Int) : (opT op cond).size ≤ 10 := by
  unfold opT
  split
  · exact rd_size (by decide) _
  split
  · exact rd_size (by decide) _
  · show 0 ≤ 10; omega
def opdT (o : T_api_Opd) (syms : List ByteArray) : ByteArray :=
  if !opdB o then ⟨#[]⟩ else if o.Kind == 1 then regT o.Reg else if o.Kind == 2 then itoaB o.N
  else if decide (o.Sym ≥ (syms.length : Int)) then ⟨#[]⟩
  else if o.Kind == 3 then ((rd syms o.Sym ++ ⟨#[91]⟩) ++ itoaB o.N) ++ ⟨#[93]⟩
  else ((rd syms o.Sym ++ ⟨#[91]⟩) ++ regT o.Reg) ++ ⟨#[93]⟩
def Syms (syms : List ByteArray) : Prop := ∀ s ∈ syms, s.size ≤ 1000000
theorem back_eq {o : T_api_Opd} (hb : opdB o = true) (hk : o.Kind = 3 ∨ o.Kind = 4) : ∃ r, opnd_Back (partOf o) = some r ∧ r.Kind ≠ 0 := by
  rcases hk with e | e
  · have hp : partOf o = .AtPart ⟨o.Sym, o.N⟩ := by unfold partOf; simp [e]
    have hR : opdB ⟨3, 0, o.Sym, o.N⟩ = true := by unfold opdB at hb ⊢; simp [e] at hb ⊢; omega
    rw [hp]
    refine ⟨⟨3, 0, o.Sym, o.N⟩, ?_, by simp⟩
    simp only [opnd_Back, opnd_Back_j1, opnd_Back_j2, opnd_Back_j3, opnd_Back_j4, opnd_Right_eq, hR, Option.bind_some, Bool.not_true, Bool.false_eq_true, if_false]
  · have hp : partOf o = .ByPart ⟨o.Sym, o.Reg⟩ := by unfold partOf; simp [e]
    have hR : opdB ⟨4, o.Reg, o.Sym, 0⟩ = true := by unfold opdB at hb ⊢; simp [e] at hb ⊢; omega
    rw [hp]
    refine ⟨⟨4, o.Reg, o.Sym, 0⟩, ?_, by simp⟩
    simp only [opnd_Back, opnd_Back_j1, opnd_Back_j2, opnd_Back_j3, opnd_Back_j4, opnd_Right_eq, hR, Option.bind_some, Bool.not_true, Bool.false_eq_true, if_false]
theorem opnd_Text_eq (o : T_api_Opd) (syms : List ByteArray) (hn : I64 o.N) (hs : Syms syms) : opnd_Text o syms = some (opdT o syms) := by
  have hz := itoaB_size hn
  have hy := rd_size hs o.Sym
  have hr := regT_size o.Reg
  unfold opnd_Text opdT
  rw [opnd_Of_eq]
  cases hb : opdB o
  · rfl
  have c1 : CatOk (rd syms o.Sym) (⟨#[91]⟩ : ByteArray) := catOk1 hy (Nat.le_refl 1) (by omega)
  have s1 : ((rd syms o.Sym) ++ (⟨#[91]⟩ : ByteArray)).size ≤ 1000001 := by rw [app_size]; exact Nat.add_le_add hy (Nat.le_refl 1)
  have e93 : (⟨#[93]⟩ : ByteArray).size = 1 := rfl
  have cN : CatOk ((rd syms o.Sym) ++ (⟨#[91]⟩ : ByteArray)) (itoaB o.N) := by unfold CatOk; omega
  have cN2 : CatOk (((rd syms o.Sym) ++ (⟨#[91]⟩ : ByteArray)) ++ itoaB o.N) (⟨#[93]⟩ : ByteArray) := by unfold CatOk; rw [app_size (_ ++ _)]; omega
  have cR : CatOk ((rd syms o.Sym) ++ (⟨#[91]⟩ : ByteArray)) (regT o.Reg) := by unfold CatOk; omega
  have cR2 : CatOk (((rd syms o.Sym) ++ (⟨#[91]⟩ : ByteArray)) ++ regT o.Reg) (⟨#[93]⟩ : ByteArray) := by unfold CatOk; rw [app_size (_ ++ _)]; omega
  simp only [Bool.not_true, Bool.false_eq_true, if_false, if_true, Option.bind_some]
  rcases opdB_kind hb with e | e | e | e
  · have hp : partOf o = .RegPart ⟨o.Reg⟩ := by unfold partOf; simp [e]
    rw [hp]
    simp only [opnd_RegPart_Text, names_RegText_eq, Option.bind_some]
    simp [e]
  · have hp : partOf o = .NumPart ⟨o.N⟩ := by unfold partOf; simp [e]
    rw [hp]
    simp only [opnd_NumPart_Text, numText hn, Option.bind_some]
    simp [e]
  · obtain ⟨r, h1, h2⟩ := back_eq hb (.inl e)
    have hS : o.Sym ≥ 0 := by unfold opdB at hb; simp [e] at hb; omega
    have hp : partOf o = .AtPart ⟨o.Sym, o.N⟩ := by unfold partOf; simp [e]
    rw [hp] at h1 ⊢
    have h3 : (r.Kind == 0) = false := by simpa using h2
    simp only [opnd_AtPart_Text, h1, Option.bind_some, h3, Bool.false_and, Bool.false_or, numText hn]
    have k1 : (o.Kind == 1) = false := by rw [e]; rfl
    have k2 : (o.Kind == 2) = false := by rw [e]; rfl
    have k3 : (o.Kind == 3) = true := by rw [e]; rfl
    simp only [k1, k2, k3, Bool.false_eq_true, if_false, if_true]
    split
    · rfl
    · rename_i h3
      have hi : InB o.Sym syms.length := ⟨hS, by simp at h3; omega⟩
      (simp only [if_pos hi, if_pos c1, if_pos cN, if_pos cN2, if_pos cR, if_pos cR2, Option.bind_some]; try rfl)
  · obtain ⟨r, h1, h2⟩ := back_eq hb (.inr e)
    have hS : o.Sym ≥ 0 := by unfold opdB at hb; simp [e] at hb; omega
    have hp : partOf o = .ByPart ⟨o.Sym, o.Reg⟩ := by unfold partOf; simp [e]
    rw [hp] at h1 ⊢
    have h3 : (r.Kind == 0) = false := by simpa using h2
    simp only [opnd_ByPart_Text, h1, Option.bind_some, h3, Bool.false_and, Bool.false_or, names_RegText_eq]
    have k1 : (o.Kind == 1) = false := by rw [e]; rfl
    have k2 : (o.Kind == 2) = false := by rw [e]; rfl
    have k3 : (o.Kind == 3) = false := by rw [e]; rfl
    simp only [k1, k2, k3, Bool.false_eq_true, if_false, if_true]
    split
    · rfl
    · rename_i h3
      have hi : InB o.Sym syms.length := ⟨hS, by simp at h3; omega⟩
      (simp only [if_pos hi, if_pos c1, if_pos cN, if_pos cN2, if_pos cR, if_pos cR2, Option.bind_some]; try rfl)
theorem opdT_size (o : T_api_Opd) (syms : List ByteArray) (hn : I64 o.N) (hs : Syms syms) : (opdT o syms).size ≤ 1000100 := by
  have hz := itoaB_size hn
  have hy := rd_size hs o.Sym
  have hr := regT_size o.Reg
  have z : (⟨#[]⟩ : ByteArray).size = 0 := rfl
  have e1 : (⟨#[91]⟩ : ByteArray).size = 1 := rfl
  have e2 : (⟨#[93]⟩ : ByteArray).size = 1 := rfl
  unfold opdT
  split
  · omega
  split
  · omega
  split
  · omega
  split
  · omega
  split <;> simp only [app_size] <;> omega
def insT (x : T_api_Ins) (syms : List ByteArray) : ByteArray :=
  if insN x != 0 then ⟨#[]⟩ else
    let s := if x.Lock then (⟨#[108, 111, 99, 107, 32]⟩ : ByteArray) ++ opT x.Op x.Cond else opT x.Op x.Cond
    if jumpB x then (s ++ ⟨#[32]⟩) ++ x.To else if decide (x.Op > 9) then s
    else if (memB x.A && decide (x.A.Sym ≥ (syms.length : Int))) || (memB x.B && decide (x.B.Sym ≥ (syms.length : Int))) then ⟨#[]⟩
    else (((s ++ ⟨#[32]⟩) ++ opdT x.A syms) ++ ⟨#[44, 32]⟩) ++ opdT x.B syms
structure InsOk (x : T_api_Ins) : Prop where
  to : Sm x.To
  a : I64 x.A.N
  b : I64 x.B.N
theorem insN_zero {x : T_api_Ins} (h : insN x = 0) : rowB x = true ∧ condB x = true ∧ 1 ≤ x.Op ∧ x.Op ≤ 14 ∧ (jumpB x = true → rightS x.To = true) := by
  unfold insN fitsB at h
  split at h
  · rename_i hc
    simp only [Bool.and_eq_true, decide_eq_true_eq] at hc
    refine ⟨hc.1.2.2, hc.1.1, hc.1.2.1.1, hc.1.2.1.2, fun hj => ?_⟩
    cases hr : rightS x.To
    · simp [hj, hr] at h
    · rfl
  · cases h
theorem ins_kinds {x : T_api_Ins} (h : insN x = 0) : (x.A.Kind == 0) = decide (x.Op > 9) := by
  obtain ⟨h1, _, h2, h3, _⟩ := insN_zero h
  unfold rowB at h1
  by_cases ho : x.Op > 9
  · have : (decide (x.Op < 1) || decide (x.Op > 9)) = true := by simp [ho]
    rw [if_pos this] at h1
    simp only [Bool.and_eq_true, zeroB] at h1
    simp [ho, h1.1.1.1]
  · have : ¬ (decide (x.Op < 1) || decide (x.Op > 9)) = true := by simp [ho]; omega
    rw [if_neg this] at h1
    split at h1
    · cases h1
    · rename_i hab
      simp only [Bool.or_eq_true, Bool.not_eq_true', not_or, Bool.not_eq_false] at hab
      rcases opdB_kind hab.1 with e | e | e | e <;> simp [e, ho]
theorem show_Ins_eq (x : T_api_Ins) (syms : List ByteArray) (hx : InsOk x) (hs : Syms syms) : show_Ins x syms = some (insT x syms) := by
  have ha := opdT_size x.A syms hx.a hs
  have hb := opdT_size x.B syms hx.b hs
  have hto : x.To.size ≤ 1000000 := hx.to
  have ho := opT_size x.Op x.Cond
  unfold show_Ins insT
  rw [ins_Right_eq _ hx.to]
  simp only [Option.bind_some]
  by_cases hN : insN x = 0
  · have main : ∀ S : ByteArray, S.size ≤ 15 → show_Ins_j1 x syms S = some (if jumpB x then (S ++ ⟨#[32]⟩) ++ x.To else if decide (x.Op > 9) then S
      else if (memB x.A && decide (x.A.Sym ≥ (syms.length : Int))) || (memB x.B && decide (x.B.Sym ≥ (syms.length : Int))) then ⟨#[]⟩
      else (((S ++ ⟨#[32]⟩) ++ opdT x.A syms) ++ ⟨#[44, 32]⟩) ++ opdT x.B syms) := by
      intro S hSz
      unfold show_Ins_j1 ins_Leads show_lacks
      rw [ins_Right_eq _ hx.to, opnd_Text_eq _ _ hx.a hs, opnd_Text_eq _ _ hx.b hs]
      simp only [Option.bind_some, hN]
      have e : ((x.Op == 10) || (x.Op == 11)) = jumpB x := rfl
      have eA : ((x.A.Kind == 3) || (x.A.Kind == 4)) = memB x.A := rfl
      have eB : ((x.B.Kind == 3) || (x.B.Kind == 4)) = memB x.B := rfl
      rw [e, eA, eB, ins_kinds hN]
      have e1 : (⟨#[32]⟩ : ByteArray).size = 1 := rfl
      have e2 : (⟨#[44, 32]⟩ : ByteArray).size = 2 := rfl
      have c1 : CatOk S (⟨#[32]⟩ : ByteArray) := by unfold CatOk; omega
      have c2 : CatOk (S ++ (⟨#[32]⟩ : ByteArray)) x.To := by unfold CatOk; simp only [app_size]; omega
      have c3 : CatOk (S ++ (⟨#[32]⟩ : ByteArray)) (opdT x.A syms) := by unfold CatOk; simp only [app_size]; omega
      have c4 : CatOk ((S ++ (⟨#[32]⟩ : ByteArray)) ++ opdT x.A syms) (⟨#[44, 32]⟩ : ByteArray) := by unfold CatOk; simp only [app_size]; omega
      have c5 : CatOk (((S ++ (⟨#[32]⟩ : ByteArray)) ++ opdT x.A syms) ++ (⟨#[44, 32]⟩ : ByteArray)) (opdT x.B syms) := by unfold CatOk; simp only [app_size]; omega
      simp only [if_pos c1, if_pos c2, if_pos c3, if_pos c4, if_pos c5]
      have b0 : ((0 : Int) != 0) = false := rfl
      simp only [b0, Bool.false_eq_true, if_false, Option.bind_some]
      split
      · rfl
      split
      · rfl
      cases memB x.A <;> cases decide (x.A.Sym ≥ (syms.length : Int)) <;> cases memB x.B <;> cases decide (x.B.Sym ≥ (syms.length : Int)) <;> rfl
    have b0 : (insN x != 0) = false := by rw [hN]; rfl
    rw [names_OpText_eq]
    simp only [b0, Bool.false_eq_true, if_false, Option.bind_some]
    cases x.Lock
    · simp only [Bool.false_eq_true, if_false]
      exact main _ (by omega)
    · simp only [if_true]
      have h5 : (⟨#[108, 111, 99, 107, 32]⟩ : ByteArray).size = 5 := rfl
      rw [if_pos (by unfold CatOk; omega)]
      exact main _ (by rw [app_size]; omega)
  · have b0 : (insN x != 0) = true := by simpa using hN
    simp [b0]
end Go.Vs
