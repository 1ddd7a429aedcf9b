import Derived.Test.YtocjejladeeckaaDoorPalLex
/-! A text's runes: the document's own way. -/
set_option linter.unusedVariables false
set_option linter.unusedSimpArgs false
set_option linter.unusedSectionVars false
namespace Go.Vs
local instance tabPalLex2 : Tab := ⟨fun _ => none⟩
def toR (x : T_glyph_Spot) : T_palingref1_Spot := { Rune := x.Rune, At := x.At, Size := x.Size, Line := x.Line, Col := x.Col, Bad := x.Bad }
def shutR (x : T_glyph_Spot) : T_palingref1_Spot := { Rune := x.Rune, At := x.At, Size := x.Size, Line := x.Line, Col := x.Col, Bad := false }
def opnR (x : T_glyph_Spot) : T_palingref1_Spot := { Rune := x.Rune, At := x.At, Size := 0, Line := x.Line, Col := x.Col, Bad := false }
theorem spotsF_len (s : ByteArray) : ∀ (f pos : Nat) (line col : Int), (spotsF s f pos line col).length ≤ s.size - pos := by
  intro f
  induction f with
  | zero => intro pos line col; simp [spotsF]
  | succ f ih =>
    intro pos line col
    rw [spotsF]
    split
    · rename_i h
      obtain ⟨w1, w2⟩ := width s pos h
      have := ih (pos + (Utf8.decode s pos).2) (if (Utf8.decode s pos).1 = 10 then line + 1 else line) (if (Utf8.decode s pos).1 = 10 then 1 else col + 1)
      simp only [List.length_cons]; omega
    · simp
end Go.Vs
