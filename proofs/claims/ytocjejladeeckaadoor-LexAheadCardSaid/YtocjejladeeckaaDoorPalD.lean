import Derived.Test.YtocjejladeeckaaDoorPalT
import Derived.Test.YtocjejladeeckaaDoorPalC
import Derived.Test.YtocjejladeeckaaDoorPalB
import Derived.Test.YtocjejladeeckaaDoorPalA
import Derived.Test.YtocjejladeeckaaDoorPalNum
import Derived.Test.YtocjejladeeckaaDoorPalUtf
set_option linter.unusedVariables false
set_option linter.unusedSectionVars false
namespace Go.Vs
noncomputable def palinglaw5_alive : Option (Bool) :=
(lex_Tokens (⟨#[120, 91, 49, 93, 32, 59, 32, 97]⟩ : ByteArray)).bind fun v1 =>
  (lex_Tokens (⟨#[97, 32, 36]⟩ : ByteArray)).bind fun v3 =>
  if ((((v1.1.length : Int) == 5) && ((v1.2.Code == 0) && ((v1.2.Line == 0) && (v1.2.Col == 0)))) = true → InB 0 v1.1.length) then (if (((((v1.1.length : Int) == 5) && ((v1.2.Code == 0) && ((v1.2.Line == 0) && (v1.2.Col == 0)))) && (((rd v1.1 0).Kind == 1) && (((rd v1.1 0).Line == 1) && (((rd v1.1 0).Col == 1) && ((rd v1.1 0).Text == (⟨#[120]⟩ : ByteArray)))))) = true → InB 4 v1.1.length) then ((some ((((((v1.1.length : Int) == 5) && ((v1.2.Code == 0) && ((v1.2.Line == 0) && (v1.2.Col == 0)))) && (((rd v1.1 0).Kind == 1) && (((rd v1.1 0).Line == 1) && (((rd v1.1 0).Col == 1) && ((rd v1.1 0).Text == (⟨#[120]⟩ : ByteArray)))))) && (((rd v1.1 4).Kind == 4) && (((rd v1.1 4).Line == 1) && (((rd v1.1 4).Col == 9) && ((rd v1.1 4).Text == (⟨#[]⟩ : ByteArray)))))) && ((v3.2.Code == 1) && ((v3.2.Line == 1) && (v3.2.Col == 3))))).bind fun b7 =>
  some b7) else none) else none
noncomputable def palinglaw5_LexTells (p0 : ByteArray) : Option (Bool) :=
(palingbook_Short p0 600).bind fun v1 =>
  (lex_Tokens v1).bind fun v3 =>
  (palingref1_Tokens v1).bind fun v5 =>
  (palingbook_SameTokens v3.1 v5.1).bind fun v7 =>
  (if (v7 && ((v3.2.Code == v5.2.Code) && ((v3.2.Line == v5.2.Line) && (v3.2.Col == v5.2.Col)))) = true then palinglaw5_alive else some default).bind fun v9 =>
  (some ((v7 && ((v3.2.Code == v5.2.Code) && ((v3.2.Line == v5.2.Line) && (v3.2.Col == v5.2.Col)))) && v9)).bind fun b11 =>
  some b11
end Go.Vs
