import Derived.Test.YtgdchoahbiagbaaDoorWSh
import Derived.Test.YtgdchoahbiagbaaDoorHas
import Derived.Test.YtgdchoahbiagbaaDoorPalLS
/-! LexShown, as a walk. -/
set_option linter.unusedVariables false
set_option linter.unusedSimpArgs false
set_option linter.unusedSectionVars false
set_option maxRecDepth 100000
namespace Go.Proofs.YtgdchoahbiagbaaDoor
open Go.Vs
theorem lexShown_law[TabX](x0:List AV)(t0:HasT Tryd.prog 12 22 x0)(x1:List AV)(t1:HasT Tryd.prog 12 3 x1)(x2:List AV)(t2:HasT Tryd.prog 12 5 x2):PureF Tryd.prog 3 [pk Tryd.prog 22 x0,pk Tryd.prog 3 x1,pk Tryd.prog 5 x2] (.bool true):=by
  obtain ⟨l,rfl,w⟩:=has22 (n:=8) t0
  obtain ⟨a,rfl,wa⟩:=has3 (n:=11) t1
  obtain ⟨b,rfl,wb⟩:=has5 (n:=11) t2
  rw [pk22,pk3,pk5]
  exact palinglaw5_LexShown_ok (LexShown_true l (fun x hx y hy=>(w.2 x hx).2 y hy) a b wa.i64)
end Go.Proofs.YtgdchoahbiagbaaDoor
