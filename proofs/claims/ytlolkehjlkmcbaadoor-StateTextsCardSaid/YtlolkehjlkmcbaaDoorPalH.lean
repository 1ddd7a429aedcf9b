import Derived.Test.YtlolkehjlkmcbaaDoorPalT
import Derived.Test.YtlolkehjlkmcbaaDoorPalA
import Derived.Test.YtlolkehjlkmcbaaDoorPalB
import Derived.Test.YtlolkehjlkmcbaaDoorPalC
import Derived.Test.YtlolkehjlkmcbaaDoorPalD
import Derived.Test.YtlolkehjlkmcbaaDoorPalF
import Derived.Test.YtlolkehjlkmcbaaDoorPalG
import Derived.Test.YtlolkehjlkmcbaaDoorPalNum
import Derived.Test.YtlolkehjlkmcbaaDoorPalNumb
set_option linter.unusedVariables false
set_option linter.unusedSectionVars false
namespace Go.Vs
noncomputable def palinglaw13_StateTexts (p0 : T_api_State) (p1 : T_api_State) (p2 : Int) (p3 : Int) (p4 : Int) : Option (Bool) :=
(palingbook_GreatState p0).bind fun v1 =>
  (if (!v1) = true then palingbook_GreatState p1 else some default).bind fun v3 =>
  if (v1 || v3) = true then ((palinglaw13_alive).bind fun v7 =>
    some v7) else ((palinglaw13_bent p0 p2 p3 p4).bind fun v9 =>
    (state_Text p0).bind fun v11 =>
    (state_Text p1).bind fun v13 =>
    (state_Same p0 p1).bind fun v15 =>
    (if (decide (v11 = v13) == v15) = true then state_Text p0 else some default).bind fun v17 =>
    (if (decide (v11 = v13) == v15) = true then state_Text v9 else some default).bind fun v19 =>
    (if (decide (v11 = v13) == v15) = true then state_Same p0 v9 else some default).bind fun v21 =>
    (if ((decide (v11 = v13) == v15) && (decide (v17 = v19) == v21)) = true then state_Same p0 v9 else some default).bind fun v23 =>
    (if ((decide (v11 = v13) == v15) && (decide (v17 = v19) == v21)) = true then palingref2_Same p0 v9 else some default).bind fun v25 =>
    (if (((decide (v11 = v13) == v15) && (decide (v17 = v19) == v21)) && (v23 == v25)) = true then palinglaw13_alive else some default).bind fun v27 =>
    some ((((decide (v11 = v13) == v15) && (decide (v17 = v19) == v21)) && (v23 == v25)) && v27))
end Go.Vs
