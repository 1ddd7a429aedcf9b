import Derived.Test.YtgdchoahbiagbaaDoorPalT
import Derived.Test.YtgdchoahbiagbaaDoorPalL
import Derived.Test.YtgdchoahbiagbaaDoorPalF
set_option linter.unusedVariables false
set_option linter.unusedSectionVars false
namespace Go.Vs
noncomputable def palinglaw5_alive:Option (Bool) :=
(lex_Tokens (⟨#[120,91,49,93,32,59,32,97]⟩:ByteArray)).bind fun v1 =>
  (lex_Tokens (⟨#[97,32,36]⟩:ByteArray)).bind fun v3 =>
  if ((((v1.1.length:Int)==5)&&((v1.2.Code==0)&&((v1.2.Line==0)&&(v1.2.Col==0))))=true → InB 0 v1.1.length) then (if (((((v1.1.length:Int)==5)&&((v1.2.Code==0)&&((v1.2.Line==0)&&(v1.2.Col==0))))&&(((rd v1.1 0).Kind==1)&&(((rd v1.1 0).Line==1)&&(((rd v1.1 0).Col==1)&&((rd v1.1 0).Text==(⟨#[120]⟩:ByteArray))))))=true → InB 4 v1.1.length) then ((some ((((((v1.1.length:Int)==5)&&((v1.2.Code==0)&&((v1.2.Line==0)&&(v1.2.Col==0))))&&(((rd v1.1 0).Kind==1)&&(((rd v1.1 0).Line==1)&&(((rd v1.1 0).Col==1)&&((rd v1.1 0).Text==(⟨#[120]⟩:ByteArray))))))&&(((rd v1.1 4).Kind==4)&&(((rd v1.1 4).Line==1)&&(((rd v1.1 4).Col==9)&&((rd v1.1 4).Text==(⟨#[]⟩:ByteArray))))))&&((v3.2.Code==1)&&((v3.2.Line==1)&&(v3.2.Col==3))))).bind fun b7 =>
  some b7) else none) else none
noncomputable def palinglaw5_LexShown_j1(l7:List Int):Option (Bool) :=
  (lex_Tokens (bytesI l7)).bind fun v8 =>
    (palingref1_Tokens (bytesI l7)).bind fun v10 =>
    (palingbook_SameTokens v8.1 v10.1).bind fun v12 =>
    (if (v12&&((v8.2.Code==v10.2.Code)&&((v8.2.Line==v10.2.Line)&&(v8.2.Col==v10.2.Col))))=true then palinglaw5_alive else some default).bind fun v14 =>
    (some ((v12&&((v8.2.Code==v10.2.Code)&&((v8.2.Line==v10.2.Line)&&(v8.2.Col==v10.2.Col))))&&v14)).bind fun b16 =>
    some b16

noncomputable def palinglaw5_LexShown(p0:(List (List T_palingbook_Act)))(p1:Int)(p2:Int):Option (Bool) :=
(palingbook_Prog p0 2 5).bind fun v1 =>
  (palingref1_Show v1).bind fun v3 =>
  (some (intsB v3)).bind fun l5 =>
  if decide ((l5.length:Int)>0)=true then ((palingbook_Pick p1 (l5.length:Int)).bind fun v19 =>
      if InB v19 l5.length then ((some (l5.set v19.toNat p2)).bind fun l22 =>
      palinglaw5_LexShown_j1  l22) else none) else (palinglaw5_LexShown_j1  l5)
end Go.Vs
