import Derived.Test.YtocjejladeeckaaGreatDoorPalT
import Derived.Test.YtocjejladeeckaaGreatDoorPalJ
import Derived.Test.YtocjejladeeckaaGreatDoorPalK
import Derived.Test.YtocjejladeeckaaGreatDoorPalM
import Derived.Test.YtocjejladeeckaaGreatDoorPalA
set_option linter.all false
namespace Go.Vs
noncomputable def zbA:Option (Bool) :=
(zc3 (⟨#[115,121,109,32,120,32,50,32,55,10,116,104,114,101,97,100,10,97,58,32,106,109,112,32,97]⟩:ByteArray)).bind fun v1 =>
 (zc3 (⟨#[109,111,118,32,114,97,120,44,32,49]⟩:ByteArray)).bind fun v3 =>
 if (((((v1.2.Code==0)&&((v1.2.Line==0)&&(v1.2.Col==0)))&&((v1.1.zSy.length:Int)==1))&&((v1.1.zTh.length:Int)==1))=true->InB 0 v1.1.zSy.length) then ((some ((((((v1.2.Code==0)&&((v1.2.Line==0)&&(v1.2.Col==0)))&&((v1.1.zSy.length:Int)==1))&&((v1.1.zTh.length:Int)==1))&&((rd v1.1.zSy 0).Size==2))&&((v3.2.Code==4)&&((v3.2.Line==1)&&(v3.2.Col==1))))).bind fun b6 =>
 some b6) else none
noncomputable def zeI(p0:ByteArray):Option (Bool) :=
(zc3 p0).bind fun v1 =>
 (zjr p0).bind fun v3 =>
 (if ((v1.2.Code==v3.2.Code)&&((v1.2.Line==v3.2.Line)&&(v1.2.Col==v3.2.Col)))=true then zba v1.1 v3.1 else some default).bind fun v5 =>
 some (((v1.2.Code==v3.2.Code)&&((v1.2.Line==v3.2.Line)&&(v1.2.Col==v3.2.Col)))&&v5)
end Go.Vs
