import Derived.Test.YtpojlconoflneaaPalT
set_option linter.unusedVariables false
set_option linter.unusedSectionVars false
namespace Go.Vs
noncomputable def palinglaw6_panics (p0 : I_opnd_Part) : Option Bool := match p0 with | .RegPart _ => none | _ => some true
end Go.Vs
