import Derived.Test.YtocjejladeeckaaDoorPalT
import Derived.Test.YtocjejladeeckaaDoorPalE
import Derived.Test.YtocjejladeeckaaDoorPalG
import Derived.Test.YtocjejladeeckaaDoorPalK
set_option linter.unusedVariables false
set_option linter.unusedSectionVars false
namespace Go.Vs
noncomputable def palinglaw9_ShowApart_j1 (v1 : T_api_Prog) (v3 : T_api_Prog) (l22 : List T_api_Thread) : Option (Bool) :=
  (show_Prog (T_api_Prog.mk v1.Syms v1.Threads)).bind fun v23 =>
      (show_Prog (T_api_Prog.mk v3.Syms l22)).bind fun v25 =>
      (palingref1_SameProg (T_api_Prog.mk v1.Syms v1.Threads) (T_api_Prog.mk v3.Syms l22)).bind fun v27 =>
      (if (decide (v23 = v25) == v27) = true then show_Prog (T_api_Prog.mk v3.Syms l22) else some default).bind fun v29 =>
      (if ((decide (v23 = v25) == v27) && (!decide (v29 = (⟨#[]⟩ : ByteArray)))) = true then palinglaw9_alive else some default).bind fun v31 =>
      some (((decide (v23 = v25) == v27) && (!decide (v29 = (⟨#[]⟩ : ByteArray)))) && v31)

noncomputable def palinglaw9_ShowApart (p0 : (List (List T_palingbook_Act))) (p1 : Int) (p2 : Int) (p3 : T_palingbook_Act) : Option (Bool) :=
(palingbook_Prog p0 2 5).bind fun v1 =>
  (palingbook_Prog p0 2 5).bind fun v3 =>
  if ((v3.Threads.length : Int) == 0) = true then ((show_Prog (T_api_Prog.mk v1.Syms v1.Threads)).bind fun v6 =>
    (show_Prog (T_api_Prog.mk v3.Syms v3.Threads)).bind fun v8 =>
    (if decide (v6 = v8) = true then palinglaw9_alive else some default).bind fun v10 =>
    some (decide (v6 = v8) && v10)) else ((palingbook_Pick p1 (v3.Threads.length : Int)).bind fun v13 =>
    if InB v13 v3.Threads.length then ((some ((rd v3.Threads v13).Ins)).bind fun l16 =>
    (palingbook_Pick p2 (l16.length : Int)).bind fun v18 =>
    (palingbook_Ins p3 1).bind fun v20 =>
    (some (decide ((IntKind.wrap .i64 (v18 + 1)) < (l16.length : Int)) && decide (v20.To = (⟨#[]⟩ : ByteArray)))).bind fun b35 =>
      if b35 = true then (if InB v18 l16.length then (if InB v18 l16.length then ((some (v3.Threads.set v13.toNat (T_api_Thread.mk (l16.set v18.toNat (T_api_Ins.mk v20.Op v20.Lock v20.Cond v20.A v20.B v20.To ((rd l16 v18).Labels)))))).bind fun l40 =>
        palinglaw9_ShowApart_j1 v1 v3 l40) else none) else none) else (palinglaw9_ShowApart_j1 v1 v3 (v3.Threads.set v13.toNat (T_api_Thread.mk l16)))) else none)
end Go.Vs
