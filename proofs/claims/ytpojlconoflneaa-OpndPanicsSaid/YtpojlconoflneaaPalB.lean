import Derived.Test.YtpojlconoflneaaPalT
import Derived.Test.YtpojlconoflneaaPalA
set_option linter.unusedVariables false
set_option linter.unusedSectionVars false
namespace Go.Vs
noncomputable def opnd_Text (p0 : T_api_Opd) (p1 : (List ByteArray)) : Option (ByteArray) :=
(opnd_Of p0).bind fun v1 =>
  if (!v1.2) = true then (some (⟨#[]⟩ : ByteArray)) else ((some v1.1).bind fun z4 =>
    (match z4 with | .nil => (none) | .NumPart x6 => (none) | .AtPart x7 => (none) | .ByPart x8 => ((opnd_ByPart_Text x8 p1).bind fun v9 => some v9) | .RegPart x11 => (none)))
noncomputable def palinglaw6_alive : Option (Bool) :=
(opnd_Memory (I_opnd_Part.AtPart (T_opnd_AtPart.mk 2 1))).bind fun v1 =>
  (opnd_Memory (I_opnd_Part.NumPart (T_opnd_NumPart.mk 3))).bind fun v3 =>
  (if (((v1.1 == 2) && v1.2) && (!v3.2)) = true then opnd_Reg (I_opnd_Part.RegPart (T_opnd_RegPart.mk 2)) else some default).bind fun v5 =>
  (if ((((v1.1 == 2) && v1.2) && (!v3.2)) && (v5 == 2)) = true then opnd_Text (T_api_Opd.mk 4 1 0 0) ([(⟨#[120]⟩ : ByteArray)]) else some default).bind fun v7 =>
  (if (((((v1.1 == 2) && v1.2) && (!v3.2)) && (v5 == 2)) && decide (v7 = (⟨#[120, 91, 114, 98, 120, 93]⟩ : ByteArray))) = true then opnd_Right (T_api_Opd.mk 2 0 0 0) else some default).bind fun v9 =>
  (some ((((((v1.1 == 2) && v1.2) && (!v3.2)) && (v5 == 2)) && decide (v7 = (⟨#[120, 91, 114, 98, 120, 93]⟩ : ByteArray))) && v9)).bind fun b11 =>
  some b11
end Go.Vs
