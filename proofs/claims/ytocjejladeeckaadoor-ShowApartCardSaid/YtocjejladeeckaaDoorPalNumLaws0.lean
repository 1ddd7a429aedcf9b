import Derived.Test.YtocjejladeeckaaDoorPalRead
/-! Readings and writings, shorter. -/
set_option linter.unusedVariables false
set_option linter.unusedSimpArgs false
set_option linter.unusedSectionVars false
namespace Go.Vs
local instance tabPalNumLaws0 : Tab := ⟨fun _ => none⟩
open Go.Lib (decDigits itoa nDigits)
theorem numText {v : Int} (h : I64 v) : num_Text v = some (itoaB v) := if_pos h
theorem pick_some {p : Int} (h : I64 p) (n : Int) (hn : 0 < n) (hn2 : n ≤ 1000) : ∃ i, palingbook_Pick p n = some i ∧ 0 ≤ i ∧ i < n := by
  rw [palingbook_Pick, if_pos (by omega)]
  have h1 := Int.tmod_lt_of_pos p hn
  have h2 : -n < Int.tmod p n := by
    have := Int.tmod_lt_of_pos (-p) hn
    rw [Int.neg_tmod] at this; omega
  by_cases hc : Int.tmod p n < 0
  · rw [if_pos (by simpa using hc), wi64_id ⟨by omega, by omega⟩]
    exact ⟨_, rfl, by omega, by omega⟩
  · rw [if_neg (by simpa using hc)]
    exact ⟨_, rfl, by omega, by omega⟩
end Go.Vs
