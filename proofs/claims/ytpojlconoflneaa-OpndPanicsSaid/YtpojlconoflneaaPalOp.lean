import Derived.Test.YtpojlconoflneaaPalC
import Derived.Test.YtpojlconoflneaaPalNum
/-! Registers of what is no register: OpndPanics in plain Lean. -/
set_option linter.unusedVariables false
set_option linter.unusedSimpArgs false
set_option linter.unusedSectionVars false
namespace Go.Vs
local instance tabPalOp : Tab := ⟨fun _ => none⟩
theorem pick_op {p : Int} (h : I64 p) (n : Int) (hn : 0 < n) (hn2 : n ≤ 1000) : ∃ i, palingbook_Pick p n = some i ∧ 0 ≤ i ∧ i < n := by
  rw [palingbook_Pick, if_pos (by omega)]
  have h1 := Int.tmod_lt_of_pos p hn
  have h2 : -n < Int.tmod p n := by
    have := Int.tmod_lt_of_pos (-p) hn
    rw [Int.neg_tmod] at this; omega
  by_cases hc : Int.tmod p n < 0
  · rw [if_pos (by simpa using hc), wi64_id ⟨by omega, by omega⟩]
    exact ⟨_, rfl, by omega, by omega⟩
  · rw [if_neg (by simpa using hc)]
    exact ⟨_, rfl, by omega, by omega⟩
theorem alive6_true : palinglaw6_alive = some true := by
  have e1 : opnd_Text (T_api_Opd.mk 4 1 0 0) [(⟨#[120]⟩ : ByteArray)] = some (⟨#[120, 91, 114, 98, 120, 93]⟩ : ByteArray) := by
    decide +kernel
  have e2 : opnd_Right (T_api_Opd.mk 2 0 0 0) = some true := by decide +kernel
  unfold palinglaw6_alive
  simp only [opnd_Memory, opnd_Reg, Option.bind_some, e1, e2]
  rfl
theorem OpndPanics_true (a b c : Int) (ha : I64 a) : palinglaw6_OpndPanics a b c = some true := by
  obtain ⟨i, e, _, _⟩ := pick_op ha 8 (by omega) (by omega)
  unfold palinglaw6_OpndPanics
  rw [e]
  simp [palinglaw6_panics, opnd_Reg, alive6_true]
end Go.Vs
