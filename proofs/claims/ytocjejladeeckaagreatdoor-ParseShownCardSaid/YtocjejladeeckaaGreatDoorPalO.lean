import Derived.Test.YtocjejladeeckaaGreatDoorPalT
import Derived.Test.YtocjejladeeckaaGreatDoorPalN
import Derived.Test.YtocjejladeeckaaGreatDoorPalJ
import Derived.Test.YtocjejladeeckaaGreatDoorPalK
import Derived.Test.YtocjejladeeckaaGreatDoorPalM
import Derived.Test.YtocjejladeeckaaGreatDoorPalA
import Derived.Test.YtocjejladeeckaaGreatDoorPalC
import Derived.Test.YtocjejladeeckaaGreatDoorPalF
set_option linter.all false
namespace Go.Vs
noncomputable def zmK(p0:(List (List zbd)))(p1:Int)(p2:Int)(p3:ByteArray):Option (Bool) :=
(zkd p0 2 5).bind fun v1 =>
 (zdd v1).bind fun v3 =>
 (za2 p1 (IntKind.wrap .i64 ((v3.size:Int)+1))).bind fun v5 =>
 (za2 p2 12).bind fun v7 =>
 (some (if (IntKind.wrap .i64 (v5+v7))<(v3.size:Int) then (IntKind.wrap .i64 (v5+v7)) else (v3.size:Int))).bind fun n9 =>
 if Bnd v5 v3.size then ((zcT p3 40).bind fun v12 =>
 if zbm (v3.extract 0 v5.toNat) v12 then (if Bnd n9 v3.size then (if zbm ((v3.extract 0 v5.toNat)++v12) (v3.extract n9.toNat v3.size) then ((zeI (((v3.extract 0 v5.toNat)++v12)++(v3.extract n9.toNat v3.size))).bind fun v17 =>
 (if v17=true then zbA else some default).bind fun v19 =>
 some (v17&&v19)) else none) else none) else none) else none
noncomputable def zcN(p0:ByteArray):Option (Bool) :=
(zcT p0 600).bind fun v1 =>
 (zc3 v1).bind fun v3 =>
 if (v3.2.Code != 0)=true then ((zba v3.1 (zaf.mk ([]) ([]))).bind fun v6 =>
  (if ((v6&&decide (v3.2.Line≥1))&&decide (v3.2.Col≥1))=true then zbA else some default).bind fun v8 =>
  some (((v6&&decide (v3.2.Line≥1))&&decide (v3.2.Col≥1))&&v8)) else ((zdd v3.1).bind fun v13 =>
  (zc3 v13).bind fun v15 =>
  (zcS v3.1).bind fun v17 =>
  (if ((v17==0)&&((v15.2.Code==0)&&((v15.2.Line==0)&&(v15.2.Col==0))))=true then zba v3.1 v15.1 else some default).bind fun v19 =>
  (if (((v17==0)&&((v15.2.Code==0)&&((v15.2.Line==0)&&(v15.2.Col==0))))&&v19)=true then zbA else some default).bind fun v21 =>
  (some ((((v17==0)&&((v15.2.Code==0)&&((v15.2.Line==0)&&(v15.2.Col==0))))&&v19)&&v21)).bind fun b23 =>
  some b23)
noncomputable def zfB(i38:Int)(s52:ByteArray):Option ((ByteArray × Int) ⊕ (ByteArray)) :=
 some (.inl (s52,(IntKind.wrap .i64 (i38+1))))
noncomputable def zdV(s37:ByteArray)(i38:Int)(s54:ByteArray):Option ((ByteArray × Int) ⊕ (ByteArray)) :=
 if zbm s54 (⟨#[32]⟩:ByteArray) then (if zbm s37 (s54++(⟨#[32]⟩:ByteArray)) then (zfB i38 (s37++(s54++(⟨#[32]⟩:ByteArray)))) else none) else none
noncomputable def zkG(v5:(List zaa) × zai)(v7:Int)(p2:Int)(l13:List ByteArray):(ByteArray × Int)->Option ((ByteArray × Int) ⊕ (ByteArray))
 | (s37,i38) =>
 if decide (i38<(v5.1.length:Int))=true then (if InB i38 v5.1.length then (if (i38==v7)=true then ((za2 p2 (l13.length:Int)).bind fun v58 =>
           if InB v58 l13.length then (zdV s37 i38 (rd l13 v58)) else none) else (zdV s37 i38 ((rd v5.1 i38).Text))) else none) else (some (.inr s37))
noncomputable def zgd(i79:Int)(p0:(List (List Int)))(l1:List ByteArray):(ByteArray × Int)->Option ((ByteArray × Int) ⊕ (ByteArray))
 | (s138,i139) =>
 if InB i79 p0.length then (if (decide (i139<((rd p0 i79).length:Int))&&decide (i139<8))=true then (if InB i79 p0.length then (if InB i139 (rd p0 i79).length then ((za2 (rd (rd p0 i79) i139) (l1.length:Int)).bind fun v155 =>
         if InB v155 l1.length then (if zbm (rd l1 v155) (⟨#[32]⟩:ByteArray) then (if zbm s138 ((rd l1 v155)++(⟨#[32]⟩:ByteArray)) then (some (.inl ((s138++((rd l1 v155)++(⟨#[32]⟩:ByteArray))),(IntKind.wrap .i64 (i139+1))))) else none) else none) else none) else none) else none) else (some (.inr s138))) else none
noncomputable def zge(p0:(List (List Int)))(l1:List ByteArray):(ByteArray × Int)->Option ((ByteArray × Int) ⊕ (ByteArray))
 | (s78,i79) =>
 if (decide (i79<(p0.length:Int))&&decide (i79<6))=true then ((zaL (zgd i79 p0 l1) (s78,0)).bind fun r150 =>
   if zbm r150 (⟨#[10]⟩:ByteArray) then (some (.inl ((r150++(⟨#[10]⟩:ByteArray)),(IntKind.wrap .i64 (i79+1))))) else none) else (some (.inr s78))
noncomputable def zmJ(p0:(List (List Int))):Option (Bool) :=
(some ([(⟨#[109,111,118]⟩:ByteArray),(⟨#[97,100,100]⟩:ByteArray),(⟨#[120,111,114]⟩:ByteArray),(⟨#[99,109,112]⟩:ByteArray),(⟨#[120,99,104,103]⟩:ByteArray),(⟨#[108,111,99,107]⟩:ByteArray),(⟨#[99,109,112,120,99,104,103]⟩:ByteArray),(⟨#[106,109,112]⟩:ByteArray),(⟨#[106,101]⟩:ByteArray),(⟨#[109,102,101,110,99,101]⟩:ByteArray),(⟨#[104,108,116]⟩:ByteArray),(⟨#[110,111,112]⟩:ByteArray),(⟨#[114,97,120]⟩:ByteArray),(⟨#[114,57]⟩:ByteArray),(⟨#[120]⟩:ByteArray),(⟨#[121]⟩:ByteArray),(⟨#[55]⟩:ByteArray),(⟨#[45,51]⟩:ByteArray),(⟨#[48]⟩:ByteArray),(⟨#[49]⟩:ByteArray),(⟨#[44]⟩:ByteArray),(⟨#[91]⟩:ByteArray),(⟨#[93]⟩:ByteArray),(⟨#[58]⟩:ByteArray),(⟨#[97]⟩:ByteArray),(⟨#[98]⟩:ByteArray),(⟨#[114,97,120,44,32,49]⟩:ByteArray),(⟨#[120,91,48,93]⟩:ByteArray),(⟨#[121,91,114,97,120,93]⟩:ByteArray),(⟨#[97,58]⟩:ByteArray),(⟨#[106,109,112,32,97]⟩:ByteArray),(⟨#[120,91,48,93,44,32,114,98,120]⟩:ByteArray),(⟨#[59]⟩:ByteArray)])).bind fun l1 =>
 (some (⟨#[115,121,109,32,120,32,49,10,115,121,109,32,121,32,50,10,116,104,114,101,97,100,10]⟩:ByteArray)).bind fun s3 =>
 (zaL (zge p0 l1) (s3,0)).bind fun r116 =>
 (zeI r116).bind fun v161 =>
  if (v161=true->zbm r116 (⟨#[104,108,116]⟩:ByteArray)) then ((if v161=true then zeI (r116++(⟨#[104,108,116]⟩:ByteArray)) else some default).bind fun v164 =>
  (if (v161&&v164)=true then zbA else some default).bind fun v166 =>
  some ((v161&&v164)&&v166)) else none
end Go.Vs
