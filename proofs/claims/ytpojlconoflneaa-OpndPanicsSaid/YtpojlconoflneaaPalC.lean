import Derived.Test.YtpojlconoflneaaPalT
import Derived.Test.YtpojlconoflneaaPalA
import Derived.Test.YtpojlconoflneaaPalB
import Derived.Test.YtpojlconoflneaaPalPn
set_option linter.unusedVariables false
set_option linter.unusedSectionVars false
namespace Go.Vs
noncomputable def palinglaw6_OpndPanics (p0 : Int) (p1 : Int) (p2 : Int) : Option (Bool) :=
(palingbook_Pick p0 8).bind fun v1 =>
  (palinglaw6_panics I_opnd_Part.nil).bind fun v3 =>
  (if v3 = true then palinglaw6_panics (I_opnd_Part.NumPart (T_opnd_NumPart.mk p2)) else some default).bind fun v5 =>
  (if (v3 && v5) = true then palinglaw6_panics (I_opnd_Part.AtPart (T_opnd_AtPart.mk p1 p2)) else some default).bind fun v7 =>
  (if ((v3 && v5) && v7) = true then palinglaw6_panics (I_opnd_Part.ByPart (T_opnd_ByPart.mk p1 v1)) else some default).bind fun v9 =>
  (if (((v3 && v5) && v7) && v9) = true then opnd_Reg (I_opnd_Part.RegPart (T_opnd_RegPart.mk v1)) else some default).bind fun v11 =>
  (if ((((v3 && v5) && v7) && v9) && (v11 == v1)) = true then palinglaw6_alive else some default).bind fun v13 =>
  some (((((v3 && v5) && v7) && v9) && (v11 == v1)) && v13)
end Go.Vs
