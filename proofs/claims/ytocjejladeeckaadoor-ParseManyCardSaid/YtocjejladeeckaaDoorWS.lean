import Derived.Test.YtocjejladeeckaaDoorVFacts
import Derived.Test.YtocjejladeeckaaDoorVu3
import Derived.Test.YtocjejladeeckaaDoorPalS
import Derived.Test.YtocjejladeeckaaDoorWJ
import Derived.Test.YtocjejladeeckaaDoorWK
import Derived.Test.YtocjejladeeckaaDoorWA
set_option linter.all false
set_option maxRecDepth 100000
set_option maxHeartbeats 4000000
namespace Go.Proofs.YtocjejladeeckaaDoor
open Go.Vs
variable [TabX]
theorem ze8{r:Bool}(hm:zbP =some r):zaT Tryd.prog 33 [] (.bool r):=by
 rw [zbP] at hm
 refine zaT.of Tryd.func33 rfl Tryd.ntmps33 (Nat.le_of_ble_eq_true rfl) ?_
 refine W.sa 0 [] ?_
 replace ⟨v1,h2,hm⟩:=zai hm
 have kh2:=zdP h2
 refine W.sa 2 [1,2] ?_
 replace ⟨v3,h4,hm⟩:=zai hm
 have kh4:=zdP h4
 refine W.sa 4 [1,2,4] ?_
 replace ⟨h5,hm⟩:=zaA hm
 replace ⟨b6,h7,hm⟩:=za8 hm
 refine W.sq [] [(0,.bool b6)] [] ?_
 clear h7
 cases hm
 exact W.rt
theorem zdZ{p0:Int}{p1:Int}{r:Bool}(hm:zb0 p0 p1=some r):zaT Tryd.prog 14 [zi p0,zi p1] (.bool r):=by
 rw [zb0] at hm
 refine zaT.of Tryd.func14 rfl Tryd.ntmps14 (Nat.le_of_ble_eq_true rfl) ?_
 refine W.sa 0 [0,1] ?_
 replace ⟨v1,h2,hm⟩:=zai hm
 replace ⟨v3,h4,hm⟩:=zai hm
 have kh2:=zdI h2
 have kh4:=zdI h4
 refine W.sa 0 [0,1] ?_
 refine W.sa 0 [0,1,5] ?_
 refine W.seq (W.sa 0 [0,1,5,6] ?_)
 refine W.block ?_
 replace ⟨r34,hlr34,hm⟩:=zai hm
 refine W.mono (Q:=fun e0 s0 h0=>e0=.exit 0/\∃w:Unit,s0=[(0,zi (zw ((zw (v1+64))-1))),(1,zi (zw ((zw (v3+64))-1))),(5,.str r34)]/\h0=[]) (W.loopM (step:=zaO v1) (a0:=((⟨#[]⟩:ByteArray),0)) (fun (a:ByteArray × Int) (v:Unit)=>([(0,zi (zw ((zw (v1+64))-1))),(1,zi (zw ((zw (v3+64))-1))),(5,.str a.1),(6,zi a.2)],[])) () hlr34 ⟨[],[]⟩ RO ?_) ?_
 ·rintro ⟨s23,i24⟩ _ x hm hx
  rw [zaO] at hm
  show WK _ _ _ _ _ [(0,zi (zw ((zw (v1+64))-1))),(1,zi (zw ((zw (v3+64))-1))),(5,.str s23),(6,zi i24)] []
  refine W.seq (W.sa 0 [0,1,5,6,21] ?_)
  refine W.cn hm ?_ ?_ <;> clear hm <;> intro hb35 hm
  ·refine W.skip (W.seq (W.block ?_))
   replace ⟨v36,h37,hm⟩:=zai hm
   replace ⟨h38,hm⟩:=zaA hm
   replace ⟨h39,hm⟩:=zaA hm
   replace ⟨h40,hm⟩:=zaA hm
   replace ⟨s41,h42,hm⟩:=za8 hm
   have kh37:=zfB h37
   try simp only [hb35] at kh37
   refine W.rg [] [(0,zi (zw ((zw (v1+64))-1))),(1,zi (zw ((zw (v3+64))-1))),(5,.str s41),(6,zi i24)] [] ?_
   clear h42
   refine W.rg [] [(0,zi (zw ((zw (v1+64))-1))),(1,zi (zw ((zw (v3+64))-1))),(5,.str s41),(6,zi (zw (i24+1)))] [] ?_
   cases hm
   exact ⟨(s41,(zw (i24+1))),(),⟨[],[]⟩,rfl,RO⟩
  ·cases hm
   obtain rfl:=hx _ rfl
   exact W.wk ⟨[],[]⟩ [(0,zi (zw ((zw (v1+64))-1))),(1,zi (zw ((zw (v3+64))-1))),(5,.str s23)] [] (W.exit (show _/\_ from ⟨rfl,(),rfl,rfl⟩))
 ·rintro e0 s0 h0 ⟨rfl,_,rfl,rfl⟩
  show WK _ _ _ _ _ [(0,zi (zw ((zw (v1+64))-1))),(1,zi (zw ((zw (v3+64))-1))),(5,.str r34)] []
  refine W.seq (W.sa 0 [0,1,5,7] ?_)
  refine W.block ?_
  replace ⟨r60,hlr60,hm⟩:=zai hm
  refine W.mono (Q:=fun e0 s0 h0=>e0=.exit 2/\∃w:Unit,s0=[(0,zi (zw ((zw (v1+64))-1))),(1,zi (zw ((zw (v3+64))-1))),(5,.str r60)]/\h0=[]) (W.loopM (step:=zaN v3) (a0:=(r34,0)) (fun (a:ByteArray × Int) (v:Unit)=>([(0,zi (zw ((zw (v1+64))-1))),(1,zi (zw ((zw (v3+64))-1))),(5,.str a.1),(7,zi a.2)],[])) () hlr60 ⟨[],[]⟩ RO ?_) ?_
  ·rintro ⟨s53,i54⟩ _ x hm hx
   rw [zaN] at hm
   show WK _ _ _ _ _ [(0,zi (zw ((zw (v1+64))-1))),(1,zi (zw ((zw (v3+64))-1))),(5,.str s53),(7,zi i54)] []
   refine W.seq (W.sa 0 [0,1,5,7,32] ?_)
   refine W.cn hm ?_ ?_ <;> clear hm <;> intro hb61 hm
   ·refine W.skip (W.seq (W.block ?_))
    replace ⟨h62,hm⟩:=zaA hm
    replace ⟨s63,h64,hm⟩:=za8 hm
    refine W.rg [] [(0,zi (zw ((zw (v1+64))-1))),(1,zi (zw ((zw (v3+64))-1))),(5,.str s63),(7,zi i54)] [] ?_
    clear h64
    refine W.rg [] [(0,zi (zw ((zw (v1+64))-1))),(1,zi (zw ((zw (v3+64))-1))),(5,.str s63),(7,zi (zw (i54+1)))] [] ?_
    cases hm
    exact ⟨(s63,(zw (i54+1))),(),⟨[],[]⟩,rfl,RO⟩
   ·cases hm
    obtain rfl:=hx _ rfl
    exact W.wk ⟨[],[]⟩ [(0,zi (zw ((zw (v1+64))-1))),(1,zi (zw ((zw (v3+64))-1))),(5,.str s53)] [] (W.exit (show _/\_ from ⟨rfl,(),rfl,rfl⟩))
  ·rintro e0 s0 h0 ⟨rfl,_,rfl,rfl⟩
   show WK _ _ _ _ _ [(0,zi (zw ((zw (v1+64))-1))),(1,zi (zw ((zw (v3+64))-1))),(5,.str r60)] []
   replace ⟨v65,h66,hm⟩:=zai hm
   have kh66:=zdP h66
   refine W.sa 2 [0,1,8,9] ?_
   refine W.sa 3 [0,1,8,9,10] ?_
   refine W.cut (fun s h=>∃(v:Int × Int × Int) (w:Unit) (F:Gs),zaU v65 v1 v3 v.1 v.2.1 v.2.2=some r/\AT 0 F [(0,zi (zw ((zw (v1+64))-1))),(1,zi (zw ((zw (v3+64))-1))),(8,.ptr 0 0 0),(9,.ptr 1 0 0),(10,.ptr 2 0 0)] [.cells (za7 v65.1) 0 38,.cells (zaD v65.2) 0 26,.cells [zi v.1,zi v.2.1,zi v.2.2] 0 26] s h) ?_ ?_
   ·refine W.block (W.sa 3 [0,1,8,9,10,43] ?_)
    refine W.cn hm ?_ ?_ <;> clear hm <;> intro hb74 hm
    ·refine W.rg [] [(0,zi (zw ((zw (v1+64))-1))),(1,zi (zw ((zw (v3+64))-1))),(8,.ptr 0 0 0),(9,.ptr 1 0 0),(10,.ptr 2 0 0)] [.cells (za7 v65.1) 0 38,.cells (zaD v65.2) 0 26,.cells [zi 10,zi 65,zi 1] 0 26] ?_
     exact ⟨(10,65,1),(),⟨[],[]⟩,hm,RO⟩
    ·refine W.sa 3 [0,1,8,9,10,47] ?_
     refine W.cn hm ?_ ?_ <;> clear hm <;> intro hb75 hm
     ·replace ⟨n76,h77,hm⟩:=za8 hm
      refine W.rg [] [(0,zi (zw ((zw (v1+64))-1))),(1,zi (zw ((zw (v3+64))-1))),(8,.ptr 0 0 0),(9,.ptr 1 0 0),(10,.ptr 2 0 0)] [.cells (za7 v65.1) 0 38,.cells (zaD v65.2) 0 26,.cells [zi 10,zi n76,zi 1] 0 26] ?_
      clear h77
      exact ⟨(10,n76,1),(),⟨[],[]⟩,hm,RO⟩
     ·refine W.skip ?_
      exact ⟨(0,0,0),(),⟨[],[]⟩,hm,RO⟩
   ·rintro s h ⟨⟨i67,i68,i69⟩,_,F,hm,hat⟩
    refine W.weak F hat ?_
    show WK _ _ _ _ _ [(0,zi (zw ((zw (v1+64))-1))),(1,zi (zw ((zw (v3+64))-1))),(8,.ptr 0 0 0),(9,.ptr 1 0 0),(10,.ptr 2 0 0)] [.cells (za7 v65.1) 0 38,.cells (zaD v65.2) 0 26,.cells [zi i67,zi i68,zi i69] 0 26]
    rw [zaU] at hm
    replace ⟨v70,h71,hm⟩:=zai hm
    replace ⟨b72,h73,hm⟩:=za8 hm
    have kh71:=fun hg=>ze8 (zb9 hg h71)
    refine W.sq [] [(4,.bool b72)] [] ?_
    clear h73
    cases hm
    exact W.rt
end Go.Proofs.YtocjejladeeckaaDoor
