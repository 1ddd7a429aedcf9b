import Derived.Test.YtocjejladeeckaaDoorVFacts
import Derived.Test.YtocjejladeeckaaDoorVu3
import Derived.Test.YtocjejladeeckaaDoorPalS
import Derived.Test.YtocjejladeeckaaDoorWJ
import Derived.Test.YtocjejladeeckaaDoorWK
import Derived.Test.YtocjejladeeckaaDoorWA
set_option linter.all false
set_option maxRecDepth 100000
set_option maxHeartbeats 4000000
namespace Go.Proofs.YtocjejladeeckaaDoor
open Go.Vs
variable [TabX]
theorem zeK{r:Bool}(hm:zbX =some r):zaI Tryd.prog 33 [] (.bool r):=by
 rw [zbX] at hm
 refine zaI.of Tryd.func33 rfl Tryd.ntmps33 (Nat.le_of_ble_eq_true rfl) ?_
 refine W.sa 0 [] ?_
 replace ⟨v1,h2,hm⟩:=zai hm
 have kh2:=zcZ h2
 refine W.sa 2 [1,2] ?_
 replace ⟨v3,h4,hm⟩:=zai hm
 have kh4:=zcZ h4
 refine W.sa 4 [1,2,4] ?_
 replace ⟨h5,hm⟩:=zay hm
 replace ⟨b6,h7,hm⟩:=zaR hm
 refine W.sq [] [(0,.bool b6)] [] ?_
 clear h7
 cases hm
 exact W.rt
theorem zdC{p0:ByteArray}{p1:Int}{r:Bool}(hm:zbF p0 p1=some r):zaI Tryd.prog 13 [.str p0,zi p1] (.bool r):=by
 rw [zbF] at hm
 refine zaI.of Tryd.func13 rfl Tryd.ntmps13 (Nat.le_of_ble_eq_true rfl) ?_
 refine W.sa 0 [0,1] ?_
 replace ⟨v1,h2,hm⟩:=zai hm
 replace ⟨v3,h4,hm⟩:=zai hm
 have kh2:=zeY h2
 have kh4:=zfg h4
 refine W.sa 0 [0,1] ?_
 replace ⟨v5,h6,hm⟩:=zai hm
 have kh6:=zcZ h6
 refine W.sa 2 [0,1,5,6] ?_
 refine W.sa 2 [1,5,6,7] ?_
 refine W.seq (W.sa 2 [1,5,6,7,8] ?_)
 refine W.block ?_
 replace ⟨r18,hlr18,hm⟩:=zai hm
 refine W.mono (Q:=fun e0 s0 h0=>e0=.exit 0/\∃w:Unit,s0=[(1,zi v3),(5,.ptr 0 0 0),(6,.ptr 1 0 0),(7,.str r18)]/\h0=[.cells (zat v5.1) 0 38,.cells (zaG v5.2) 0 26]) (W.loopM (step:=zaF v3) (a0:=(v1,0)) (fun (a:ByteArray × Int) (v:Unit)=>([(1,zi v3),(5,.ptr 0 0 0),(6,.ptr 1 0 0),(7,.str a.1),(8,zi a.2)],[.cells (zat v5.1) 0 38,.cells (zaG v5.2) 0 26])) () hlr18 ⟨[],[]⟩ RO ?_) ?_
 ·rintro ⟨s13,i14⟩ _ x hm hx
  rw [zaF] at hm
  show WK _ _ _ _ _ [(1,zi v3),(5,.ptr 0 0 0),(6,.ptr 1 0 0),(7,.str s13),(8,zi i14)] [.cells (zat v5.1) 0 38,.cells (zaG v5.2) 0 26]
  refine W.seq (W.sa 2 [1,5,6,7,8,23] ?_)
  refine W.cn hm ?_ ?_ <;> clear hm <;> intro hb19 hm
  ·refine W.skip (W.seq (W.block ?_))
   replace ⟨h20,hm⟩:=zay hm
   refine W.rg [] [(1,zi v3),(5,.ptr 0 0 0),(6,.ptr 1 0 0),(7,.str ((⟨#[10]⟩:ByteArray)++s13)),(8,zi i14)] [.cells (zat v5.1) 0 38,.cells (zaG v5.2) 0 26] ?_
   refine W.rg [] [(1,zi v3),(5,.ptr 0 0 0),(6,.ptr 1 0 0),(7,.str ((⟨#[10]⟩:ByteArray)++s13)),(8,zi (zw (i14+1)))] [.cells (zat v5.1) 0 38,.cells (zaG v5.2) 0 26] ?_
   cases hm
   exact ⟨(((⟨#[10]⟩:ByteArray)++s13),(zw (i14+1))),(),⟨[],[]⟩,rfl,RO⟩
  ·cases hm
   obtain rfl:=hx _ rfl
   exact W.wk ⟨[],[]⟩ [(1,zi v3),(5,.ptr 0 0 0),(6,.ptr 1 0 0),(7,.str s13)] [.cells (zat v5.1) 0 38,.cells (zaG v5.2) 0 26] (W.exit (show _/\_ from ⟨rfl,(),rfl,rfl⟩))
 ·rintro e0 s0 h0 ⟨rfl,_,rfl,rfl⟩
  show WK _ _ _ _ _ [(1,zi v3),(5,.ptr 0 0 0),(6,.ptr 1 0 0),(7,.str r18)] [.cells (zat v5.1) 0 38,.cells (zaG v5.2) 0 26]
  replace ⟨v21,h22,hm⟩:=zai hm
  have kh22:=zcZ h22
  refine W.sa 4 [1,5,6,9,10] ?_
  refine W.cut (fun s h=>∃(v:Int) (w:Unit) (F:Gs),zaW v5 v21 v=some r/\AT 0 F [(5,.ptr 0 0 0),(6,.ptr 1 0 0),(9,.ptr 2 0 0),(10,.ptr 3 0 0)] [.cells (zat v5.1) 0 38,.cells [zi v5.2.Code,zi v,zi v5.2.Col] 0 26,.cells (zat v21.1) 0 38,.cells (zaG v21.2) 0 26] s h) ?_ ?_
  ·refine W.sa 4 [1,5,6,9,10,35] ?_
   refine W.cn hm ?_ ?_ <;> clear hm <;> intro hb30 hm
   ·refine W.rg [] [(5,.ptr 0 0 0),(6,.ptr 1 0 0),(9,.ptr 2 0 0),(10,.ptr 3 0 0)] [.cells (zat v5.1) 0 38,.cells [zi v5.2.Code,zi (zw (v5.2.Line+v3)),zi v5.2.Col] 0 26,.cells (zat v21.1) 0 38,.cells (zaG v21.2) 0 26] ?_
    exact ⟨(zw (v5.2.Line+v3)),(),⟨[],[]⟩,hm,RO⟩
   ·refine W.skip ?_
    exact ⟨v5.2.Line,(),⟨[],[]⟩,hm,RO⟩
  ·rintro s h ⟨i23,_,F,hm,hat⟩
   refine W.weak F hat ?_
   show WK _ _ _ _ _ [(5,.ptr 0 0 0),(6,.ptr 1 0 0),(9,.ptr 2 0 0),(10,.ptr 3 0 0)] [.cells (zat v5.1) 0 38,.cells [zi v5.2.Code,zi i23,zi v5.2.Col] 0 26,.cells (zat v21.1) 0 38,.cells (zaG v21.2) 0 26]
   rw [zaW] at hm
   replace ⟨v24,h25,hm⟩:=zai hm
   replace ⟨v26,h27,hm⟩:=zai hm
   replace ⟨b28,h29,hm⟩:=zaR hm
   have kh25:=fun hg=>zee (zbC hg h25)
   have kh27:=fun hg=>zeK (zbC hg h27)
   refine W.sq [] [(4,.bool b28)] [] ?_
   clear h29
   cases hm
   exact W.rt
end Go.Proofs.YtocjejladeeckaaDoor
