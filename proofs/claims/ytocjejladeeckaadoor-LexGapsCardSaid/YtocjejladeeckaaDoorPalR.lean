import Derived.Test.YtocjejladeeckaaDoorPalT
import Derived.Test.YtocjejladeeckaaDoorPalL
import Derived.Test.YtocjejladeeckaaDoorPalA
import Derived.Test.YtocjejladeeckaaDoorPalC
import Derived.Test.YtocjejladeeckaaDoorPalF
set_option linter.all false
namespace Go.Vs
noncomputable def zaG:Option (Bool) :=
(zbd (⟨#[120,91,49,93,32,59,32,97]⟩:ByteArray)).bind fun v1 =>
 (zbd (⟨#[97,32,36]⟩:ByteArray)).bind fun v3 =>
 if ((((v1.1.length:Int)==5)&&((v1.2.Code==0)&&((v1.2.Line==0)&&(v1.2.Col==0))))=true->InB 0 v1.1.length) then (if (((((v1.1.length:Int)==5)&&((v1.2.Code==0)&&((v1.2.Line==0)&&(v1.2.Col==0))))&&(((rd v1.1 0).Kind==1)&&(((rd v1.1 0).Line==1)&&(((rd v1.1 0).Col==1)&&((rd v1.1 0).Text==(⟨#[120]⟩:ByteArray))))))=true->InB 4 v1.1.length) then ((some ((((((v1.1.length:Int)==5)&&((v1.2.Code==0)&&((v1.2.Line==0)&&(v1.2.Col==0))))&&(((rd v1.1 0).Kind==1)&&(((rd v1.1 0).Line==1)&&(((rd v1.1 0).Col==1)&&((rd v1.1 0).Text==(⟨#[120]⟩:ByteArray))))))&&(((rd v1.1 4).Kind==4)&&(((rd v1.1 4).Line==1)&&(((rd v1.1 4).Col==9)&&((rd v1.1 4).Text==(⟨#[]⟩:ByteArray))))))&&((v3.2.Code==1)&&((v3.2.Line==1)&&(v3.2.Col==3))))).bind fun b7 =>
 some b7) else none) else none
noncomputable def zaH(i49:Int)(s72:ByteArray):Option ((ByteArray × Int) ⊕ (ByteArray)) :=
 some (.inl (s72,(IntKind.wrap .i64 (i49+1))))
noncomputable def zao(i49:Int)(v3:(List zaa) × zag)(p1:Int)(s73:ByteArray):Option ((ByteArray × Int) ⊕ (ByteArray)) :=
 if InB i49 v3.1.length then ((zaP p1 3).bind fun v75 =>
           if InB (Int.tmod (IntKind.wrap .i64 (v75+i49)) 4) ([(⟨#[32]⟩:ByteArray),(⟨#[9]⟩:ByteArray),(⟨#[32,32]⟩:ByteArray),(⟨#[32,9]⟩:ByteArray)]).length then (if zeT ((rd v3.1 i49).Text) (rd ([(⟨#[32]⟩:ByteArray),(⟨#[9]⟩:ByteArray),(⟨#[32,32]⟩:ByteArray),(⟨#[32,9]⟩:ByteArray)]) (Int.tmod (IntKind.wrap .i64 (v75+i49)) 4)) then (if zeT s73 (((rd v3.1 i49).Text)++(rd ([(⟨#[32]⟩:ByteArray),(⟨#[9]⟩:ByteArray),(⟨#[32,32]⟩:ByteArray),(⟨#[32,9]⟩:ByteArray)]) (Int.tmod (IntKind.wrap .i64 (v75+i49)) 4))) then ((some (s73++(((rd v3.1 i49).Text)++(rd ([(⟨#[32]⟩:ByteArray),(⟨#[9]⟩:ByteArray),(⟨#[32,32]⟩:ByteArray),(⟨#[32,9]⟩:ByteArray)]) (Int.tmod (IntKind.wrap .i64 (v75+i49)) 4))))).bind fun s80 =>
           zaH i49 s80) else none) else none) else none) else none
noncomputable def zau(v3:(List zaa) × zag)(p1:Int):(ByteArray × Int)->Option ((ByteArray × Int) ⊕ (ByteArray))
 | (s48,i49) =>
 if decide ((IntKind.wrap .i64 (i49+1))<(v3.1.length:Int))=true then (if InB i49 v3.1.length then (if ((rd v3.1 i49).Kind==4)=true then ((zaP p1 4).bind fun v84 =>
             if InB (Int.tmod (IntKind.wrap .i64 (v84+i49)) 4) ([(⟨#[]⟩:ByteArray),(⟨#[32]⟩:ByteArray),(⟨#[59,195,169,91,9]⟩:ByteArray),(⟨#[9,59,59]⟩:ByteArray)]).length then (if zeT s48 (rd ([(⟨#[]⟩:ByteArray),(⟨#[32]⟩:ByteArray),(⟨#[59,195,169,91,9]⟩:ByteArray),(⟨#[9,59,59]⟩:ByteArray)]) (Int.tmod (IntKind.wrap .i64 (v84+i49)) 4)) then ((some (s48++(rd ([(⟨#[]⟩:ByteArray),(⟨#[32]⟩:ByteArray),(⟨#[59,195,169,91,9]⟩:ByteArray),(⟨#[9,59,59]⟩:ByteArray)]) (Int.tmod (IntKind.wrap .i64 (v84+i49)) 4)))).bind fun s88 =>
             zao i49 v3 p1 s88) else none) else none) else (zao i49 v3 p1 s48)) else none) else (some (.inr s48))
noncomputable def zat(v3:(List zaa) × zag)(v91:(List zaa) × zag):Int->Option ((Int) ⊕ ((Unit) ⊕ (Bool)))
 | i113 =>
 if decide (i113<(v3.1.length:Int))=true then (if InB i113 v3.1.length then (if InB i113 v91.1.length then (if ((!((rd v3.1 i113).Kind != (rd v91.1 i113).Kind))=true->InB i113 v3.1.length) then (if ((!((rd v3.1 i113).Kind != (rd v91.1 i113).Kind))=true->InB i113 v91.1.length) then ((some (((rd v3.1 i113).Kind != (rd v91.1 i113).Kind)||(!decide ((rd v3.1 i113).Text=(rd v91.1 i113).Text)))).bind fun b128 =>
           if b128=true then (some (.inr (.inr false))) else (some (.inl (IntKind.wrap .i64 (i113+1))))) else none) else none) else none) else none) else (some (.inr (.inl ())))
noncomputable def zaZ(p0:ByteArray)(p1:Int):Option (Bool) :=
(zaU p0 300).bind fun v1 =>
 (zbd v1).bind fun v3 =>
 if ((v3.2.Code != 0)||((v3.1.length:Int)==0))=true then ((if (((v3.1.length:Int)==0)&&(v3.2.Code != 0))=true then zaG else some default).bind fun v6 =>
  some ((((v3.1.length:Int)==0)&&(v3.2.Code != 0))&&v6)) else ((za9 (zau v3 p1) ((⟨#[]⟩:ByteArray),0)).bind fun r70 =>
  if zeT r70 (⟨#[59]⟩:ByteArray) then ((zbd (r70++(⟨#[59]⟩:ByteArray))).bind fun v91 =>
   (some ((!((v91.2.Code==0)&&((v91.2.Line==0)&&(v91.2.Col==0))))||((v3.1.length:Int) != (v91.1.length:Int)))).bind fun b93 =>
   if b93=true then (some false) else ((za9 (zat v3 v91) 0).bind (zdu (fun er122 =>
    (zaG).bind fun v131 =>
      some v131) (fun qr122=>some qr122)))) else none)
end Go.Vs
