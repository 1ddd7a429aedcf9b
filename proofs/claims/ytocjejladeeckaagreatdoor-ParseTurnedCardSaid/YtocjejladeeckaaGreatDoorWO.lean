import Derived.Test.YtocjejladeeckaaGreatDoorVFacts
import Derived.Test.YtocjejladeeckaaGreatDoorVu3
import Derived.Test.YtocjejladeeckaaGreatDoorPalO
import Derived.Test.YtocjejladeeckaaGreatDoorWN
import Derived.Test.YtocjejladeeckaaGreatDoorWJ
import Derived.Test.YtocjejladeeckaaGreatDoorWK
import Derived.Test.YtocjejladeeckaaGreatDoorWM
import Derived.Test.YtocjejladeeckaaGreatDoorWA
import Derived.Test.YtocjejladeeckaaGreatDoorWC
import Derived.Test.YtocjejladeeckaaGreatDoorWF
set_option linter.all false
set_option maxRecDepth 100000
set_option maxHeartbeats 4000000
namespace Go.Proofs.YtocjejladeeckaaGreatDoor
open Go.Vs
variable [TabX]
theorem zgr{p0:(List (List zaC))}{p1:Int}{p2:Int}{r:Bool}(hm:zdt p0 p1 p2=some r):zaJ Tryz.prog 5 [.sl (p0.map (eSl zas)),zi p1,zi p2] (.bool r):=by
 rw [zdt] at hm
 refine zaJ.of Tryz.func5 rfl Tryz.ntmps5 (Nat.le_of_ble_eq_true rfl) ?_
 refine W.sa 0 [0,1,2] ?_
 replace ⟨v1,h2,hm⟩:=zaf hm
 replace ⟨v3,h4,hm⟩:=zaf hm
 have kh2:=ziU h2
 have kh4:=ziT h4
 refine W.sa 0 [1,2,7] ?_
 replace ⟨v5,h6,hm⟩:=zaf hm
 have kh6:=zfV h6
 refine W.sa 0 [1,2,8] ?_
 replace ⟨v7,h8,hm⟩:=zaf hm
 have kh8:=zbr h8
 refine W.sa 0 [2,8,10] ?_
 replace ⟨h9,hm⟩:=zao hm
 replace ⟨h10,hm⟩:=zao hm
 replace ⟨h11,hm⟩:=zao hm
 replace ⟨h12,hm⟩:=zao hm
 replace ⟨l13,h14,hm⟩:=zaK hm
 refine W.sqJ [] [] [] 0 [] [(2,zi p2),(8,.sl (v5.1.map zag)),(10,zi v7),(11,.sl (l13.map eStr))] [] zaw ?_
 clear h14
 refine W.sa 0 [2,8,10,11,12] ?_
 refine W.seq (W.sa 0 [2,8,10,11,12,13] ?_)
 refine W.block ?_
 replace ⟨r50,hlr50,hm⟩:=zaf hm
 refine W.mono (Q:=fun e0 s0 h0=>e0=.exit 0/\∃w:Unit,s0=[(12,.str r50)]/\h0=[]) (W.loopM (step:=zb1 v5 v7 p2 l13) (a0:=((⟨#[]⟩:ByteArray),0)) (fun (a:ByteArray × Int) (v:Unit)=>([(2,zi p2),(8,.sl (v5.1.map zag)),(10,zi v7),(11,.sl (l13.map eStr)),(12,.str a.1),(13,zi a.2)],[])) () hlr50 ⟨[],[]⟩ RO ?_) ?_
 ·rintro ⟨s37,i38⟩ _ x hm hx
  rw [zb1] at hm
  show WK _ _ _ _ _ [(2,zi p2),(8,.sl (v5.1.map zag)),(10,zi v7),(11,.sl (l13.map eStr)),(12,.str s37),(13,zi i38)] []
  refine W.seq (W.sa 0 [2,8,10,11,12,13,43] ?_)
  refine W.cn hm ?_ ?_ <;> clear hm <;> intro hb51 hm
  ·refine W.skip ?_
   refine W.cut (fun s h=>∃(v:ByteArray) (w:Unit) (F:Gs),zcL i38 v=some x/\AT 0 F [(2,zi p2),(8,.sl (v5.1.map zag)),(10,zi v7),(11,.sl (l13.map eStr)),(12,.str v),(13,zi i38)] [] s h) ?_ ?_
   ·refine W.block ?_
    replace ⟨h53,hm⟩:=zao hm
    refine W.sa 0 [2,8,10,11,12,13,14] ?_
    refine W.cut (fun s h=>∃(v:ByteArray) (w:Unit) (F:Gs),zbt s37 i38 v=some x/\AT 0 F [(2,zi p2),(8,.sl (v5.1.map zag)),(10,zi v7),(11,.sl (l13.map eStr)),(12,.str s37),(13,zi i38),(14,.str v)] [] s h) ?_ ?_
    ·refine W.sa 0 [2,8,10,11,12,13,14,53] ?_
     refine W.cn hm ?_ ?_ <;> clear hm <;> intro hb57 hm
     ·replace ⟨v58,h59,hm⟩:=zaf hm
      replace ⟨h60,hm⟩:=zao hm
      have kh59:=zbr h59
      try simp only [hb51,hb57] at kh59
      refine W.rg [] [(2,zi p2),(8,.sl (v5.1.map zag)),(10,zi v7),(11,.sl (l13.map eStr)),(12,.str s37),(13,zi i38),(14,.str (rd l13 v58))] [] ?_
      exact ⟨(rd l13 v58),(),⟨[],[]⟩,hm,RO⟩
     ·refine W.skip ?_
      exact ⟨(rd v5.1 i38).Text,(),⟨[],[]⟩,hm,RO⟩
    ·rintro s h ⟨s54,_,F,hm,hat⟩
     refine W.weak F hat ?_
     show WK _ _ _ _ _ [(2,zi p2),(8,.sl (v5.1.map zag)),(10,zi v7),(11,.sl (l13.map eStr)),(12,.str s37),(13,zi i38),(14,.str s54)] []
     rw [zbt] at hm
     replace ⟨h55,hm⟩:=zao hm
     replace ⟨h56,hm⟩:=zao hm
     refine W.rg [] [(2,zi p2),(8,.sl (v5.1.map zag)),(10,zi v7),(11,.sl (l13.map eStr)),(12,.str (s37++(s54++(⟨#[32]⟩:ByteArray)))),(13,zi i38)] [] ?_
     exact ⟨(s37++(s54++(⟨#[32]⟩:ByteArray))),(),⟨[],[]⟩,hm,RO⟩
   ·rintro s h ⟨s52,_,F,hm,hat⟩
    refine W.weak F hat ?_
    show WK _ _ _ _ _ [(2,zi p2),(8,.sl (v5.1.map zag)),(10,zi v7),(11,.sl (l13.map eStr)),(12,.str s52),(13,zi i38)] []
    rw [zcL] at hm
    refine W.rg [] [(2,zi p2),(8,.sl (v5.1.map zag)),(10,zi v7),(11,.sl (l13.map eStr)),(12,.str s52),(13,zi (zw (i38+1)))] [] ?_
    cases hm
    exact ⟨(s52,(zw (i38+1))),(),⟨[],[]⟩,rfl,RO⟩
  ·cases hm
   obtain rfl:=hx _ rfl
   exact W.wk ⟨[],[]⟩ [(12,.str s37)] [] (W.exit (show _/\_ from ⟨rfl,(),rfl,rfl⟩))
 ·rintro e0 s0 h0 ⟨rfl,_,rfl,rfl⟩
  show WK _ _ _ _ _ [(12,.str r50)] []
  replace ⟨v61,h62,hm⟩:=zaf hm
  replace ⟨v63,h64,hm⟩:=zaf hm
  have kh62:=zih h62
  have kh64:=fun hg=>zii (zbb hg h64)
  refine W.sqh [] [(6,.bool (v61&&v63))] ?_
  cases hm
  exact W.rt
end Go.Proofs.YtocjejladeeckaaGreatDoor
