import Derived.Test.YtocjejladeeckaaDoorPalT
import Derived.Test.YtocjejladeeckaaDoorPalE
set_option linter.unusedVariables false
set_option linter.unusedSectionVars false
namespace Go.Vs
noncomputable def palinglaw9_ShowTells (p0 : T_api_Prog) : Option (Bool) :=
(palingbook_Great p0).bind fun v1 =>
  (if v1 = true then palinglaw9_alive else some default).bind fun v3 =>
  (if (!(v1 && v3)) = true then show_Prog p0 else some default).bind fun v5 =>
  (if (!(v1 && v3)) = true then palingref1_Show p0 else some default).bind fun v7 =>
  (if ((!(v1 && v3)) && decide (v5 = v7)) = true then palinglaw9_alive else some default).bind fun v9 =>
  some ((v1 && v3) || (decide (v5 = v7) && v9))
end Go.Vs
