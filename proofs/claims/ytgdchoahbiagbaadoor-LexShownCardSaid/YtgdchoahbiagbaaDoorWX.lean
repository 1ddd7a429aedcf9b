import Derived.Test.YtgdchoahbiagbaaDoorWNum
import Derived.Test.YtgdchoahbiagbaaDoorWUtf
/-! The tables of texts and of errors. -/
set_option linter.unusedVariables false
namespace Go.Proofs.YtgdchoahbiagbaaDoor
open Go.Vs
class TabX extends TabU,TabE
end Go.Proofs.YtgdchoahbiagbaaDoor
