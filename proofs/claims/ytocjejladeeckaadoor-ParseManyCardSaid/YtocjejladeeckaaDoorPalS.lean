import Derived.Test.YtocjejladeeckaaDoorPalT
import Derived.Test.YtocjejladeeckaaDoorPalJ
import Derived.Test.YtocjejladeeckaaDoorPalK
import Derived.Test.YtocjejladeeckaaDoorPalA
set_option linter.all false
namespace Go.Vs
noncomputable def zbP:Option (Bool) :=
(zb4 (⟨#[115,121,109,32,120,32,50,32,55,10,116,104,114,101,97,100,10,97,58,32,106,109,112,32,97]⟩:ByteArray)).bind fun v1 =>
 (zb4 (⟨#[109,111,118,32,114,97,120,44,32,49]⟩:ByteArray)).bind fun v3 =>
 if (((((v1.2.Code==0)&&((v1.2.Line==0)&&(v1.2.Col==0)))&&((v1.1.zSy.length:Int)==1))&&((v1.1.zTh.length:Int)==1))=true->InB 0 v1.1.zSy.length) then ((some ((((((v1.2.Code==0)&&((v1.2.Line==0)&&(v1.2.Col==0)))&&((v1.1.zSy.length:Int)==1))&&((v1.1.zTh.length:Int)==1))&&((rd v1.1.zSy 0).Size==2))&&((v3.2.Code==4)&&((v3.2.Line==1)&&(v3.2.Col==1))))).bind fun b6 =>
 some b6) else none
noncomputable def zdR(v3:Int):(ByteArray × Int)->Option ((ByteArray × Int) ⊕ (ByteArray))
 | (s13,i14) =>
 if decide (i14<v3)=true then (if zeC (⟨#[10]⟩:ByteArray) s13 then (some (.inl (((⟨#[10]⟩:ByteArray)++s13),(IntKind.wrap .i64 (i14+1))))) else none) else (some (.inr s13))
noncomputable def zcC(v5:zat × zag)(v21:zat × zag)(i23:Int):Option (Bool) :=
 (if ((v5.2.Code==v21.2.Code)&&((i23==v21.2.Line)&&(v5.2.Col==v21.2.Col)))=true then zfm v5.1 v21.1 else some default).bind fun v24 =>
   (if (((v5.2.Code==v21.2.Code)&&((i23==v21.2.Line)&&(v5.2.Col==v21.2.Col)))&&v24)=true then zbP else some default).bind fun v26 =>
   (some ((((v5.2.Code==v21.2.Code)&&((i23==v21.2.Line)&&(v5.2.Col==v21.2.Col)))&&v24)&&v26)).bind fun b28 =>
   some b28
noncomputable def zix(p0:ByteArray)(p1:Int):Option (Bool) :=
(zgj p0 400).bind fun v1 =>
 (zbR p1 5).bind fun v3 =>
 (zb4 v1).bind fun v5 =>
 (zbg (zdR v3) (v1,0)).bind fun r18 =>
 (zb4 r18).bind fun v21 =>
  if (v5.2.Code != 0)=true then (zcC v5 v21 (IntKind.wrap .i64 (v5.2.Line+v3))) else (zcC v5 v21 v5.2.Line)
noncomputable def zaO(v1:Int):(ByteArray × Int)->Option ((ByteArray × Int) ⊕ (ByteArray))
 | (s23,i24) =>
 if decide (i24<(IntKind.wrap .i64 ((IntKind.wrap .i64 (v1+64))-1)))=true then ((zcm i24).bind fun v36 =>
   if zeC (⟨#[115,121,109,32,115]⟩:ByteArray) v36 then (if zeC ((⟨#[115,121,109,32,115]⟩:ByteArray)++v36) (⟨#[32,49,10]⟩:ByteArray) then (if zeC s23 (((⟨#[115,121,109,32,115]⟩:ByteArray)++v36)++(⟨#[32,49,10]⟩:ByteArray)) then ((some (s23++(((⟨#[115,121,109,32,115]⟩:ByteArray)++v36)++(⟨#[32,49,10]⟩:ByteArray)))).bind fun s41 =>
   some (.inl (s41,(IntKind.wrap .i64 (i24+1))))) else none) else none) else none) else (some (.inr s23))
noncomputable def zaN(v3:Int):(ByteArray × Int)->Option ((ByteArray × Int) ⊕ (ByteArray))
 | (s53,i54) =>
 if decide (i54<(IntKind.wrap .i64 ((IntKind.wrap .i64 (v3+64))-1)))=true then (if zeC s53 (⟨#[116,104,114,101,97,100,10,104,108,116,10]⟩:ByteArray) then ((some (s53++(⟨#[116,104,114,101,97,100,10,104,108,116,10]⟩:ByteArray))).bind fun s63 =>
    some (.inl (s63,(IntKind.wrap .i64 (i54+1))))) else none) else (some (.inr s53))
noncomputable def zaU(v65:zat × zag)(v1:Int)(v3:Int)(i67:Int)(i68:Int)(i69:Int):Option (Bool) :=
 (if (((v65.2.Code==i67)&&((v65.2.Line==i68)&&(v65.2.Col==i69)))&&((v65.2.Code != 0)||(((v65.1.zSy.length:Int)==(IntKind.wrap .i64 ((IntKind.wrap .i64 (v1+64))-1)))&&((v65.1.zTh.length:Int)==(IntKind.wrap .i64 ((IntKind.wrap .i64 (v3+64))-1))))))=true then zbP else some default).bind fun v70 =>
    (some ((((v65.2.Code==i67)&&((v65.2.Line==i68)&&(v65.2.Col==i69)))&&((v65.2.Code != 0)||(((v65.1.zSy.length:Int)==(IntKind.wrap .i64 ((IntKind.wrap .i64 (v1+64))-1)))&&((v65.1.zTh.length:Int)==(IntKind.wrap .i64 ((IntKind.wrap .i64 (v3+64))-1))))))&&v70)).bind fun b72 =>
    some b72
noncomputable def zb0(p0:Int)(p1:Int):Option (Bool) :=
(zbR p0 3).bind fun v1 =>
 (zbR p1 3).bind fun v3 =>
 (zbg (zaO v1) ((⟨#[]⟩:ByteArray),0)).bind fun r34 =>
 (zbg (zaN v3) (r34,0)).bind fun r60 =>
  (zb4 r60).bind fun v65 =>
   if decide ((IntKind.wrap .i64 ((IntKind.wrap .i64 (v1+64))-1))>64)=true then (zaU v65 v1 v3 10 65 1) else (if decide ((IntKind.wrap .i64 ((IntKind.wrap .i64 (v3+64))-1))>64)=true then ((some (IntKind.wrap .i64 ((IntKind.wrap .i64 ((IntKind.wrap .i64 ((IntKind.wrap .i64 (v1+64))-1))+128))+1))).bind fun n76 =>
      zaU v65 v1 v3 10 n76 1) else (zaU v65 v1 v3 0 0 0))
end Go.Vs
