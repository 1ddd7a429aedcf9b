import Derived.Test.YtocjejladeeckaaDoorPalT
import Derived.Test.YtocjejladeeckaaDoorPalJ
import Derived.Test.YtocjejladeeckaaDoorPalK
import Derived.Test.YtocjejladeeckaaDoorPalA
set_option linter.all false
namespace Go.Vs
noncomputable def zbX:Option (Bool) :=
(zb1 (⟨#[115,121,109,32,120,32,50,32,55,10,116,104,114,101,97,100,10,97,58,32,106,109,112,32,97]⟩:ByteArray)).bind fun v1 =>
 (zb1 (⟨#[109,111,118,32,114,97,120,44,32,49]⟩:ByteArray)).bind fun v3 =>
 if (((((v1.2.Code==0)&&((v1.2.Line==0)&&(v1.2.Col==0)))&&((v1.1.zSy.length:Int)==1))&&((v1.1.zTh.length:Int)==1))=true->InB 0 v1.1.zSy.length) then ((some ((((((v1.2.Code==0)&&((v1.2.Line==0)&&(v1.2.Col==0)))&&((v1.1.zSy.length:Int)==1))&&((v1.1.zTh.length:Int)==1))&&((rd v1.1.zSy 0).Size==2))&&((v3.2.Code==4)&&((v3.2.Line==1)&&(v3.2.Col==1))))).bind fun b6 =>
 some b6) else none
noncomputable def zaF(v3:Int):(ByteArray × Int)->Option ((ByteArray × Int) ⊕ (ByteArray))
 | (s13,i14) =>
 if decide (i14<v3)=true then (if zlC (⟨#[10]⟩:ByteArray) s13 then (some (.inl (((⟨#[10]⟩:ByteArray)++s13),(IntKind.wrap .i64 (i14+1))))) else none) else (some (.inr s13))
noncomputable def zaW(v5:zaw × zag)(v21:zaw × zag)(i23:Int):Option (Bool) :=
 (if ((v5.2.Code==v21.2.Code)&&((i23==v21.2.Line)&&(v5.2.Col==v21.2.Col)))=true then zbm v5.1 v21.1 else some default).bind fun v24 =>
   (if (((v5.2.Code==v21.2.Code)&&((i23==v21.2.Line)&&(v5.2.Col==v21.2.Col)))&&v24)=true then zbX else some default).bind fun v26 =>
   (some ((((v5.2.Code==v21.2.Code)&&((i23==v21.2.Line)&&(v5.2.Col==v21.2.Col)))&&v24)&&v26)).bind fun b28 =>
   some b28
noncomputable def zbF(p0:ByteArray)(p1:Int):Option (Bool) :=
(zb3 p0 400).bind fun v1 =>
 (zcc p1 5).bind fun v3 =>
 (zb1 v1).bind fun v5 =>
 (za7 (zaF v3) (v1,0)).bind fun r18 =>
 (zb1 r18).bind fun v21 =>
  if (v5.2.Code != 0)=true then (zaW v5 v21 (IntKind.wrap .i64 (v5.2.Line+v3))) else (zaW v5 v21 v5.2.Line)
end Go.Vs
