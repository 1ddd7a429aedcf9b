import Derived.Test.YtocjejladeeckaaGreatDoorPalT
import Derived.Test.YtocjejladeeckaaGreatDoorPalA
import Derived.Test.YtocjejladeeckaaGreatDoorPalUtf
set_option linter.all false
namespace Go.Vs
noncomputable def zaL(p0:Int):Option (zal) :=
(zaR p0 4).bind fun v1 =>
 some (zal.mk 1 v1 0 0)
noncomputable def za6(p0:Int)(p1:Int):Option (zal) :=
(zaR p0 3).bind fun v1 =>
 if (v1==0)=true then ((zaL (IntKind.wrap .i64 (Int.tdiv p0 3))).bind fun v4 =>
  some v4) else (some (zal.mk 2 0 0 p1))
noncomputable def zaS(p0:Int):Option (zal) :=
(zaR p0 60).bind fun v1 =>
 (some ([1,2,1])).bind fun l3 =>
 if ((Int.tmod v1 5)==4)=true then (some (zal.mk 4 (IntKind.wrap .i64 (Int.tdiv v1 15)) (Int.tmod (IntKind.wrap .i64 (Int.tdiv v1 5)) 3) 0)) else (if InB (Int.tmod (IntKind.wrap .i64 (Int.tdiv v1 5)) 3) l3.length then (if ¬(rd l3 (Int.tmod (IntKind.wrap .i64 (Int.tdiv v1 5)) 3))=0 then ((some (Int.tmod (Int.tmod v1 5) (rd l3 (Int.tmod (IntKind.wrap .i64 (Int.tdiv v1 5)) 3)))).bind fun n8 =>
  some (zal.mk 3 0 (Int.tmod (IntKind.wrap .i64 (Int.tdiv v1 5)) 3) n8)) else none) else none)
noncomputable def zbo(p0:Int):Option (ByteArray) :=
if zby (⟨#[108]⟩:ByteArray) (ziG ([(IntKind.wrap .u8 (IntKind.wrap .i64 (48+(IntKind.wrap .i64 (Int.tdiv p0 10))))),(IntKind.wrap .u8 (IntKind.wrap .i64 (48+(Int.tmod p0 10))))])) then ((some ((⟨#[108]⟩:ByteArray)++(ziG ([(IntKind.wrap .u8 (IntKind.wrap .i64 (48+(IntKind.wrap .i64 (Int.tdiv p0 10))))),(IntKind.wrap .u8 (IntKind.wrap .i64 (48+(Int.tmod p0 10))))])))).bind fun s2 =>
 some s2) else none
noncomputable def zdv:Option (zae) :=
 some (zae.mk 13 false 0 (zal.mk 0 0 0 0) (zal.mk 0 0 0 0) (⟨#[]⟩:ByteArray) ([]))
noncomputable def zbU(p0:zay)(v1:Int)(v3:Int)(p1:Int)(b32:Bool):Option (zae) :=
 if b32=true then ((zaS p0.A).bind fun v34 =>
                     (za6 p0.B p0.N).bind fun v36 =>
                     some (zae.mk (IntKind.wrap .i64 (2+v1)) false 0 v34 v36 (⟨#[]⟩:ByteArray) ([]))) else (if (v3==6)=true then ((zaL p0.A).bind fun v39 =>
            (zaS p0.B).bind fun v41 =>
            some (zae.mk 7 false 0 v39 v41 (⟨#[]⟩:ByteArray) ([]))) else (if (v3==7)=true then ((zaS p0.A).bind fun v44 =>
             (za6 p0.B p0.N).bind fun v46 =>
             some (zae.mk 7 false 0 v44 v46 (⟨#[]⟩:ByteArray) ([]))) else (if (v3==8)=true then ((zaS p0.A).bind fun v49 =>
              (zaL p0.B).bind fun v51 =>
              some (zae.mk 8 false 0 v49 v51 (⟨#[]⟩:ByteArray) ([]))) else (if (v3==9)=true then ((zaS p0.A).bind fun v54 =>
               (zaL p0.B).bind fun v56 =>
               some (zae.mk 9 true 0 v54 v56 (⟨#[]⟩:ByteArray) ([]))) else (if (v3==10)=true then ((zaS p0.A).bind fun v59 =>
                (za6 p0.B p0.N).bind fun v61 =>
                some (zae.mk (IntKind.wrap .i64 (2+v1)) true 0 v59 v61 (⟨#[]⟩:ByteArray) ([]))) else (if (v3==11)=true then ((zaR p0.A p1).bind fun v64 =>
                 (zbo v64).bind fun v66 =>
                 some (zae.mk 10 false 0 (zal.mk 0 0 0 0) (zal.mk 0 0 0 0) v66 ([]))) else (if (v3==12)=true then ((zaR p0.C 10).bind fun v69 =>
                  (zaR p0.A p1).bind fun v71 =>
                  (zbo v71).bind fun v73 =>
                  some (zae.mk 11 false (IntKind.wrap .i64 (1+v69)) (zal.mk 0 0 0 0) (zal.mk 0 0 0 0) v73 ([]))) else (if (v3==13)=true then (some (zae.mk 12 false 0 (zal.mk 0 0 0 0) (zal.mk 0 0 0 0) (⟨#[]⟩:ByteArray) ([]))) else (if (v3==14)=true then ((zaL p0.A).bind fun v77 =>
                    (za6 p0.B p0.N).bind fun v79 =>
                    some (zae.mk 7 false 0 v77 v79 (⟨#[]⟩:ByteArray) ([]))) else (zdv ))))))))))
noncomputable def zbf(p0:zay)(v3:Int)(v1:Int)(p1:Int)(b16:Bool):Option (zae) :=
 if b16=true then ((zaS p0.A).bind fun v18 =>
             (za6 p0.B p0.N).bind fun v20 =>
             some (zae.mk 1 false 0 v18 v20 (⟨#[]⟩:ByteArray) ([]))) else (if (v3==3)=true then ((zaL p0.A).bind fun v23 =>
       (za6 p0.B p0.N).bind fun v25 =>
       some (zae.mk (IntKind.wrap .i64 (2+v1)) false 0 v23 v25 (⟨#[]⟩:ByteArray) ([]))) else (if (v3==4)=true then ((zaL p0.A).bind fun v28 =>
        (zaS p0.B).bind fun v30 =>
        some (zae.mk (IntKind.wrap .i64 (2+v1)) false 0 v28 v30 (⟨#[]⟩:ByteArray) ([]))) else (if (v3==5)=true then (zbU p0 v1 v3 p1 (v3==5)) else (zbU p0 v1 v3 p1 (v3==21)))))
noncomputable def zbr(p0:zay)(v3:Int)(v1:Int)(p1:Int)(b10:Bool):Option (zae) :=
 if b10=true then ((zaL p0.A).bind fun v12 =>
         (zaS p0.B).bind fun v14 =>
         some (zae.mk 1 false 0 v12 v14 (⟨#[]⟩:ByteArray) ([]))) else (if (v3==2)=true then (zbf p0 v3 v1 p1 (v3==2)) else (if (v3==18)=true then (zbf p0 v3 v1 p1 (v3==18)) else (if (v3==19)=true then (zbf p0 v3 v1 p1 (v3==19)) else (zbf p0 v3 v1 p1 (v3==20)))))
noncomputable def zcR(p0:zay)(p1:Int):Option (zae) :=
(zaR p0.C 5).bind fun v1 =>
 (zaR p0.Kind 22).bind fun v3 =>
  if (v3==0)=true then ((zaL p0.A).bind fun v6 =>
   (za6 p0.B p0.N).bind fun v8 =>
   some (zae.mk 1 false 0 v6 v8 (⟨#[]⟩:ByteArray) ([]))) else (if (v3==1)=true then (zbr p0 v3 v1 p1 (v3==1)) else (if (v3==16)=true then (zbr p0 v3 v1 p1 (v3==16)) else (zbr p0 v3 v1 p1 (v3==17))))
noncomputable def zaV(n563:Int)(i373:Int)(p0:(List (List zay))):(Int × (List zae))->Option ((Int × (List zae)) ⊕ ((List zae)))
 | (i583,l584) =>
 if decide (i583<n563)=true then (if InB i373 p0.length then (if InB i583 (rd p0 i373).length then ((zcR (rd (rd p0 i373) i583) (IntKind.wrap .i64 (n563+1))).bind fun v598 =>
         if Fits (l584.length+1) then ((some (l584++([v598]))).bind fun l601 =>
         some (.inl ((IntKind.wrap .i64 (i583+1)),l601))) else none) else none) else none) else (some (.inr l584))
noncomputable def zcH(i700:Int)(l751:List zae):Option ((Int × (List zae)) ⊕ ((List zae))) :=
 some (.inl ((IntKind.wrap .i64 (i700+1)),l751))
noncomputable def zcG(i780:Int)(l797:List zae):Option ((Int × (List zae)) ⊕ ((List zae))) :=
 some (.inl ((IntKind.wrap .i64 (i780+1)),l797))
noncomputable def zaT(n563:Int)(i700:Int):(Int × (List zae))->Option ((Int × (List zae)) ⊕ ((List zae)))
 | (i780,l781) =>
 if decide (i780<=n563)=true then ((zbo i780).bind fun v798 =>
                     if InB i700 l781.length then (if (decide (v798=(rd l781 i700).To)=true->InB i780 l781.length) then (if (decide (v798=(rd l781 i700).To)&&((((rd l781 i780).zLb).length:Int)==0))=true then ((zbo i780).bind fun v803 =>
            if InB i780 l781.length then ((some (l781.set i780.toNat (zae.mk ((rd l781 i780).Op) ((rd l781 i780).Lock) ((rd l781 i780).Cond) ((rd l781 i780).A) ((rd l781 i780).B) ((rd l781 i780).To) ([v803])))).bind fun l806 =>
            zcG i780 l806) else none) else (zcG i780 l781)) else none) else none) else (some (.inr l781))
noncomputable def zaU(n563:Int):(Int × (List zae))->Option ((Int × (List zae)) ⊕ ((List zae)))
 | (i700,l701) =>
 if decide (i700<n563)=true then (if InB i700 l701.length then (if decide ((rd l701 i700).To=(⟨#[]⟩:ByteArray))=true then (zcH i700 l701) else ((zaN (zaT n563 i700) (0,l701)).bind fun r795 =>
               zcH i700 r795)) else none) else (some (.inr l701))
noncomputable def zaO(p0:(List (List zay)))(p1:Int)(p2:Int):(Int × (List zad))->Option ((Int × (List zad)) ⊕ ((List zad)))
 | (i373,l374) =>
 if (decide (i373<(p0.length:Int))&&decide (i373<p1))=true then (if InB i373 p0.length then ((some (if p2<((rd p0 i373).length:Int) then p2 else ((rd p0 i373).length:Int))).bind fun n563 =>
   (zaN (zaV n563 i373 p0) (0,([]:List zae))).bind fun r594 =>
   if Fits (r594.length+1) then ((some (r594++([(zae.mk 14 false 0 (zal.mk 0 0 0 0) (zal.mk 0 0 0 0) (⟨#[]⟩:ByteArray) ([]))]))).bind fun l604 =>
    (zaN (zaU n563) (0,l604)).bind fun r749 =>
    if Fits (l374.length+1) then ((some (l374++[(zad.mk r749)])).bind fun l809 =>
     some (.inl ((IntKind.wrap .i64 (i373+1)),l809))) else none) else none) else none) else (some (.inr l374))
noncomputable def zbC(p0:(List (List zay)))(p1:Int)(p2:Int):Option (zag) :=
(some ([(zak.mk (⟨#[120]⟩:ByteArray) 1 ([])),(zak.mk (⟨#[121]⟩:ByteArray) 2 ([1])),(zak.mk (⟨#[122]⟩:ByteArray) 1 ([0]))])).bind fun l1 =>
 (zaN (zaO p0 p1 p2) (0,([]:List zad))).bind fun r560 =>
 some (zag.mk l1 r560)
end Go.Vs
