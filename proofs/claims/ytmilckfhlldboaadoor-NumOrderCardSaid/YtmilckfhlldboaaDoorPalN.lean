import Derived.Test.YtmilckfhlldboaaDoorPalT
import Derived.Test.YtmilckfhlldboaaDoorPalA
import Derived.Test.YtmilckfhlldboaaDoorPalB
import Derived.Test.YtmilckfhlldboaaDoorPalNum
set_option linter.unusedVariables false
set_option linter.unusedSectionVars false
namespace Go.Vs
noncomputable def palinglaw2_alive : Option (Bool) :=
(num_Read (⟨#[45, 49, 50]⟩ : ByteArray)).bind fun v1 =>
  (num_Read (⟨#[45, 48]⟩ : ByteArray)).bind fun v3 =>
  (num_Text (-12)).bind fun v5 =>
  some (((decide (v5 = (⟨#[45, 49, 50]⟩ : ByteArray)) && (v1.1 == (-12))) && v1.2) && (!v3.2))
noncomputable def palinglaw2_NumTells (p0 : Int) (p1 : ByteArray) : Option (Bool) :=
(palingbook_Short p1 60).bind fun v1 =>
  (num_Read v1).bind fun v3 =>
  (palingref1_Read v1).bind fun v5 =>
  (num_Text p0).bind fun v7 =>
  (palingref1_Text p0).bind fun v9 =>
  (if ((decide (v7 = v9) && (v3.1 == v5.1)) && (v3.2 == v5.2)) = true then palinglaw2_alive else some default).bind fun v11 =>
  some (((decide (v7 = v9) && (v3.1 == v5.1)) && (v3.2 == v5.2)) && v11)
noncomputable def palinglaw2_NumBack (p0 : Int) : Option (Bool) :=
(num_Text p0).bind fun v1 =>
  (num_Read v1).bind fun v3 =>
  (if (v3.2 && (v3.1 == p0)) = true then palinglaw2_alive else some default).bind fun v5 =>
  some ((v3.2 && (v3.1 == p0)) && v5)
noncomputable def palinglaw2_NumOnce (p0 : ByteArray) : Option (Bool) :=
(palingbook_Short p0 60).bind fun v1 =>
  (num_Read v1).bind fun v3 =>
  (if ((!((!v3.2) && (v3.1 == 0))) && v3.2) = true then num_Text v3.1 else some default).bind fun v5 =>
  (if (((!v3.2) && (v3.1 == 0)) || (v3.2 && decide (v5 = v1))) = true then palinglaw2_alive else some default).bind fun v7 =>
  some ((((!v3.2) && (v3.1 == 0)) || (v3.2 && decide (v5 = v1))) && v7)
noncomputable def palinglaw2_NumBent (p0 : Int) (p1 : Int) : Option (Bool) :=
(num_Text p0).bind fun v1 =>
  (palingbook_Pick p1 4).bind fun v3 =>
  if InB v3 ([(⟨#[48]⟩ : ByteArray), (⟨#[43]⟩ : ByteArray), (⟨#[32]⟩ : ByteArray), (⟨#[45]⟩ : ByteArray)]).length then ((some (rd ([(⟨#[48]⟩ : ByteArray), (⟨#[43]⟩ : ByteArray), (⟨#[32]⟩ : ByteArray), (⟨#[45]⟩ : ByteArray)]) v3)).bind fun s6 =>
  if (decide (s6 = (⟨#[45]⟩ : ByteArray)) && decide (p0 > 0)) = true then (if CatOk (⟨#[45]⟩ : ByteArray) v1 then ((num_Read ((⟨#[45]⟩ : ByteArray) ++ v1)).bind fun v11 =>
    (if (v11.2 && (v11.1 == (IntKind.wrap .i64 (0 - p0)))) = true then palinglaw2_alive else some default).bind fun v13 =>
    some ((v11.2 && (v11.1 == (IntKind.wrap .i64 (0 - p0)))) && v13)) else none) else (if CatOk s6 v1 then ((num_Read (s6 ++ v1)).bind fun v18 =>
    if CatOk v1 (⟨#[32]⟩ : ByteArray) then ((num_Read (v1 ++ (⟨#[32]⟩ : ByteArray))).bind fun v21 =>
    (num_Read (⟨#[57, 50, 50, 51, 51, 55, 50, 48, 51, 54, 56, 53, 52, 55, 55, 53, 56, 48, 56]⟩ : ByteArray)).bind fun v23 =>
    (num_Read (⟨#[45, 57, 50, 50, 51, 51, 55, 50, 48, 51, 54, 56, 53, 52, 55, 55, 53, 56, 48, 57]⟩ : ByteArray)).bind fun v25 =>
    (if ((((!v18.2) && (!v21.2)) && (!v23.2)) && (!v25.2)) = true then palinglaw2_alive else some default).bind fun v27 =>
    some (((((!v18.2) && (!v21.2)) && (!v23.2)) && (!v25.2)) && v27)) else none) else none)) else none
noncomputable def palinglaw2_NumOrder (p0 : Int) (p1 : Int) : Option (Bool) :=
if (decide (p0 < 0) || decide (p1 < 0)) = true then ((palinglaw2_alive).bind fun v3 =>
    some v3) else ((num_Text p0).bind fun v5 =>
    (num_Text p1).bind fun v7 =>
    (if (decide (p0 < p1) == (decide ((v5.size : Int) < (v7.size : Int)) || (((v5.size : Int) == (v7.size : Int)) && Op.bytesLess v5.data.toList v7.data.toList))) = true then palinglaw2_alive else some default).bind fun v9 =>
    (some ((decide (p0 < p1) == (decide ((v5.size : Int) < (v7.size : Int)) || (((v5.size : Int) == (v7.size : Int)) && Op.bytesLess v5.data.toList v7.data.toList))) && v9)).bind fun b11 =>
    some b11)
end Go.Vs
