import Derived.Test.YtlolkehjlkmcbaaDoorPalNum
/-! Numbers written one behind the other. -/
set_option linter.unusedVariables false
set_option linter.unusedSectionVars false
namespace Go.Vs
local instance : Tab := ⟨fun _ => none⟩
noncomputable def numbersS (l : List Int) : (Nat × ByteArray) → Option ((Nat × ByteArray) ⊕ ByteArray)
  | (i, s) => if i < l.length then (if Fits (s.size + 1) then ((num_Text (rd l (i : Int))).bind fun t =>
      if Fits ((if 0 < i then s ++ (⟨#[44]⟩ : ByteArray) else s).size + t.size) then some (.inl (i + 1, (if 0 < i then s ++ (⟨#[44]⟩ : ByteArray) else s) ++ t)) else none) else none)
    else if i = l.length then some (.inr s) else none
noncomputable def state_numbers (s : ByteArray) (l : List Int) : Option ByteArray := if Fits l.length then loopO (numbersS l) (0, s) else none
end Go.Vs
