import Derived.Test.YtlolkehjlkmcbaaDoorPalT
import Derived.Test.YtlolkehjlkmcbaaDoorPalA
import Derived.Test.YtlolkehjlkmcbaaDoorPalB
import Derived.Test.YtlolkehjlkmcbaaDoorPalC
import Derived.Test.YtlolkehjlkmcbaaDoorPalNum
import Derived.Test.YtlolkehjlkmcbaaDoorPalNumb
set_option linter.unusedVariables false
set_option linter.unusedSectionVars false
namespace Go.Vs
noncomputable def palinglaw13_alive : Option (Bool) :=
(some ([1, 2])).bind fun l1 =>
  (some ([[(T_api_Entry.mk 0 5)]])).bind fun l3 =>
  (state_Text (T_api_State.mk l1 ([]) l3 0)).bind fun v5 =>
  (if decide (v5 = (⟨#[49, 44, 50, 40, 48, 61, 53, 41, 35, 48]⟩ : ByteArray)) = true then state_Drained (T_api_State.mk l1 ([]) l3 0) else some default).bind fun v7 =>
  (if (decide (v5 = (⟨#[49, 44, 50, 40, 48, 61, 53, 41, 35, 48]⟩ : ByteArray)) && (!v7)) = true then state_Drained (T_api_State.mk ([]) ([]) ([]) 0) else some default).bind fun v9 =>
  (if ((decide (v5 = (⟨#[49, 44, 50, 40, 48, 61, 53, 41, 35, 48]⟩ : ByteArray)) && (!v7)) && v9) = true then state_Same (T_api_State.mk l1 ([]) l3 0) (T_api_State.mk l1 ([]) l3 0) else some default).bind fun v11 =>
  (if (((decide (v5 = (⟨#[49, 44, 50, 40, 48, 61, 53, 41, 35, 48]⟩ : ByteArray)) && (!v7)) && v9) && v11) = true then state_Same (T_api_State.mk l1 ([]) l3 0) (T_api_State.mk ([]) ([]) ([]) 0) else some default).bind fun v13 =>
  (some ((((decide (v5 = (⟨#[49, 44, 50, 40, 48, 61, 53, 41, 35, 48]⟩ : ByteArray)) && (!v7)) && v9) && v11) && (!v13))).bind fun b15 =>
  some b15
noncomputable def palinglaw13_StateTells (p0 : T_api_State) (p1 : T_api_State) : Option (Bool) :=
(palingbook_GreatState p0).bind fun v1 =>
  (if (!v1) = true then palingbook_GreatState p1 else some default).bind fun v3 =>
  if (v1 || v3) = true then ((palinglaw13_alive).bind fun v7 =>
    some v7) else ((state_Same p0 p1).bind fun v9 =>
    (palingref2_Same p0 p1).bind fun v11 =>
    (if (v9 == v11) = true then state_Text p0 else some default).bind fun v13 =>
    (if (v9 == v11) = true then palingref2_Text p0 else some default).bind fun v15 =>
    (if ((v9 == v11) && decide (v13 = v15)) = true then state_Drained p0 else some default).bind fun v17 =>
    (if ((v9 == v11) && decide (v13 = v15)) = true then palingref2_Drained p0 else some default).bind fun v19 =>
    (if (((v9 == v11) && decide (v13 = v15)) && (v17 == v19)) = true then palinglaw13_alive else some default).bind fun v21 =>
    some ((((v9 == v11) && decide (v13 = v15)) && (v17 == v19)) && v21))
end Go.Vs
