import Derived.Test.YtocjejladeeckaaDoorVFacts
import Derived.Test.YtocjejladeeckaaDoorVu3
import Derived.Test.YtocjejladeeckaaDoorPalR
import Derived.Test.YtocjejladeeckaaDoorWL
import Derived.Test.YtocjejladeeckaaDoorWA
import Derived.Test.YtocjejladeeckaaDoorWC
import Derived.Test.YtocjejladeeckaaDoorWF
set_option linter.all false
set_option maxRecDepth 100000
set_option maxHeartbeats 4000000
namespace Go.Proofs.YtocjejladeeckaaDoor
open Go.Vs
variable [TabX]
theorem zbG{r:Bool}(hm:zaG =some r):zaE Tryd.prog 19 [] (.bool r):=by
 rw [zaG] at hm
 refine zaE.of Tryd.func19 rfl Tryd.ntmps19 (Nat.le_of_ble_eq_true rfl) ?_
 refine W.sa 0 [] ?_
 replace ⟨v1,h2,hm⟩:=zal hm
 have kh2:=zby h2
 refine W.sa 1 [1,2] ?_
 replace ⟨v3,h4,hm⟩:=zal hm
 have kh4:=zby h4
 refine W.sa 2 [1,2,4] ?_
 replace ⟨h5,hm⟩:=zaB hm
 replace ⟨h6,hm⟩:=zaB hm
 replace ⟨b7,h8,hm⟩:=zb2 hm
 refine W.sq [] [(0,.bool b7)] [] ?_
 clear h8
 cases hm
 exact W.rt
theorem zb5{p0:ByteArray}{p1:Int}{r:Bool}(hm:zaZ p0 p1=some r):zaE Tryd.prog 5 [.str p0,zi p1] (.bool r):=by
 rw [zaZ] at hm
 refine zaE.of Tryd.func5 rfl Tryd.ntmps5 (Nat.le_of_ble_eq_true rfl) ?_
 refine W.sa 0 [0,1] ?_
 replace ⟨v1,h2,hm⟩:=zal hm
 have kh2:=zcq h2
 refine W.sa 0 [0,1] ?_
 replace ⟨v3,h4,hm⟩:=zal hm
 have kh4:=zby h4
 refine W.sa 1 [1,5,6] ?_
 refine W.seq (W.sq [] [(1,zi p1),(5,.sl (v3.1.map zad)),(6,.ptr 0 0 0),(26,.bool ((v3.2.Code != 0)||((v3.1.length:Int)==0)))] [.cells (zbb v3.2) 0 26] ?_)
 refine W.cn hm ?_ ?_ <;> clear hm <;> intro hb5 hm
 ·replace ⟨v6,h7,hm⟩:=zal hm
  have kh7:=fun hg=>zbG (zej hg h7)
  try simp only [hb5] at kh7
  refine W.sq [] [(4,.bool ((((v3.1.length:Int)==0)&&(v3.2.Code != 0))&&v6))] [] ?_
  cases hm
  exact W.rt
 ·refine W.skip (W.sa 0 [1,5,7] ?_)
  refine W.seq (W.sa 0 [1,5,7,8] ?_)
  refine W.block ?_
  replace ⟨r70,hlr70,hm⟩:=zal hm
  refine W.mono (Q:=fun e0 s0 h0=>e0=.exit 0/\∃w:Unit,s0=[(5,.sl (v3.1.map zad)),(7,.str r70)]/\h0=[]) (W.loopM (step:=zau v3 p1) (a0:=((⟨#[]⟩:ByteArray),0)) (fun (a:ByteArray × Int) (v:Unit)=>([(1,zi p1),(5,.sl (v3.1.map zad)),(7,.str a.1),(8,zi a.2)],[])) () hlr70 ⟨[],[]⟩ RO ?_) ?_
  ·rintro ⟨s48,i49⟩ _ x hm hx
   rw [zau] at hm
   show WK _ _ _ _ _ [(1,zi p1),(5,.sl (v3.1.map zad)),(7,.str s48),(8,zi i49)] []
   refine W.seq (W.sa 0 [1,5,7,8,42] ?_)
   refine W.cn hm ?_ ?_ <;> clear hm <;> intro hb71 hm
   ·refine W.skip ?_
    refine W.cut (fun s h=>∃(v:ByteArray) (w:Unit) (F:Gs),zaH i49 v=some x/\AT 0 F [(1,zi p1),(5,.sl (v3.1.map zad)),(7,.str v),(8,zi i49)] [] s h) ?_ ?_
    ·refine W.block ?_
     refine W.cut (fun s h=>∃(v:ByteArray) (w:Unit) (F:Gs),zao i49 v3 p1 v=some x/\AT 0 F [(1,zi p1),(5,.sl (v3.1.map zad)),(7,.str v),(8,zi i49)] [] s h) ?_ ?_
     ·replace ⟨h82,hm⟩:=zaB hm
      refine W.sa 0 [1,5,7,8,50] ?_
      refine W.cn hm ?_ ?_ <;> clear hm <;> intro hb83 hm
      ·replace ⟨v84,h85,hm⟩:=zal hm
       replace ⟨h86,hm⟩:=zaB hm
       have h86a:=h86
       simp only [List.length_cons,List.length_nil,Nat.reduceAdd] at h86a
       have h86c:=zhG (f:=eStr) h86
       simp -dsimp only [List.map_cons,List.map_nil,eStr,eInt,ziZ] at h86c
       replace ⟨h87,hm⟩:=zaB hm
       replace ⟨s88,h89,hm⟩:=zb2 hm
       have kh85:=zbL h85
       try simp only [hb5,hb71,hb83] at kh85
       refine W.rg [] [(1,zi p1),(5,.sl (v3.1.map zad)),(7,.str s88),(8,zi i49)] [] ?_
       clear h89
       exact ⟨s88,(),⟨[],[]⟩,hm,RO⟩
      ·refine W.skip ?_
       exact ⟨s48,(),⟨[],[]⟩,hm,RO⟩
     ·rintro s h ⟨s73,_,F,hm,hat⟩
      refine W.weak F hat ?_
      show WK _ _ _ _ _ [(1,zi p1),(5,.sl (v3.1.map zad)),(7,.str s73),(8,zi i49)] []
      rw [zao] at hm
      replace ⟨h74,hm⟩:=zaB hm
      replace ⟨v75,h76,hm⟩:=zal hm
      replace ⟨h77,hm⟩:=zaB hm
      have h77a:=h77
      simp only [List.length_cons,List.length_nil,Nat.reduceAdd] at h77a
      have h77c:=zhG (f:=eStr) h77
      simp -dsimp only [List.map_cons,List.map_nil,eStr,eInt,ziZ] at h77c
      replace ⟨h78,hm⟩:=zaB hm
      replace ⟨h79,hm⟩:=zaB hm
      replace ⟨s80,h81,hm⟩:=zb2 hm
      have kh76:=zbL h76
      try simp only [hb5,hb71] at kh76
      refine W.rgJ [] [] [] 0 [] [(1,zi p1),(5,.sl (v3.1.map zad)),(7,.str s80),(8,zi i49)] [] zeW ?_
      clear h81
      exact ⟨s80,(),⟨[],[]⟩,hm,RO⟩
    ·rintro s h ⟨s72,_,F,hm,hat⟩
     refine W.weak F hat ?_
     show WK _ _ _ _ _ [(1,zi p1),(5,.sl (v3.1.map zad)),(7,.str s72),(8,zi i49)] []
     rw [zaH] at hm
     refine W.rg [] [(1,zi p1),(5,.sl (v3.1.map zad)),(7,.str s72),(8,zi (zw (i49+1)))] [] ?_
     cases hm
     exact ⟨(s72,(zw (i49+1))),(),⟨[],[]⟩,rfl,RO⟩
   ·cases hm
    obtain rfl:=hx _ rfl
    exact W.wk ⟨[],[]⟩ [(5,.sl (v3.1.map zad)),(7,.str s48)] [] (W.exit (show _/\_ from ⟨rfl,(),rfl,rfl⟩))
  ·rintro e0 s0 h0 ⟨rfl,_,rfl,rfl⟩
   show WK _ _ _ _ _ [(5,.sl (v3.1.map zad)),(7,.str r70)] []
   replace ⟨h90,hm⟩:=zaB hm
   replace ⟨v91,h92,hm⟩:=zal hm
   have kh92:=zby h92
   try simp only [hb5] at kh92
   refine W.sa 1 [5,9,10] ?_
   refine W.seq ?_
   replace ⟨b93,h94,hm⟩:=zb2 hm
   refine W.sq [] [(5,.sl (v3.1.map zad)),(9,.sl (v91.1.map zad)),(92,.bool b93)] [] ?_
   clear h94
   refine W.cn hm ?_ ?_ <;> clear hm <;> intro hb95 hm
   ·refine W.sa 0 [4] ?_
    cases hm
    exact W.rt
   ·refine W.skip (W.seq (W.sa 0 [5,9,11] ?_))
    refine W.block ?_
    replace ⟨r122,hlr122,hm⟩:=zal hm
    refine W.mono (Q:=fun e0 s0 h0=>match r122 with | .inl e=>e0=.exit 2/\∃w:Unit,s0=[]/\h0=[] | .inr q=>e0=.ret/\s0=[(4,.bool q)]/\h0=[]) (W.loopM (step:=zat v3 v91) (a0:=0) (fun (a:Int) (v:Unit)=>([(5,.sl (v3.1.map zad)),(9,.sl (v91.1.map zad)),(11,zi a)],[])) () hlr122 ⟨[],[]⟩ RO ?_) ?_
    ·rintro i113 _ x hm hx
     rw [zat] at hm
     show WK _ _ _ _ _ [(5,.sl (v3.1.map zad)),(9,.sl (v91.1.map zad)),(11,zi i113)] []
     refine W.seq (W.sa 0 [5,9,11,96] ?_)
     refine W.cn hm ?_ ?_ <;> clear hm <;> intro hb123 hm
     ·refine W.skip (W.seq (W.block ?_))
      replace ⟨h124,hm⟩:=zaB hm
      replace ⟨h125,hm⟩:=zaB hm
      replace ⟨h126,hm⟩:=zaB hm
      replace ⟨h127,hm⟩:=zaB hm
      replace ⟨b128,h129,hm⟩:=zb2 hm
      refine W.sqJ [] [] [] 0 [] [(5,.sl (v3.1.map zad)),(9,.sl (v91.1.map zad)),(11,zi i113),(122,.bool b128)] [] zeW ?_
      clear h129
      refine W.cn hm ?_ ?_ <;> clear hm <;> intro hb130 hm
      ·refine W.sa 0 [4] ?_
       cases hm
       obtain rfl:=hx _ rfl
       exact W.wk ⟨[],[]⟩ [(4,.bool false)] [] (W.ret (show _/\_ from ⟨rfl,rfl,rfl⟩))
      ·refine W.skip (W.rg [] [(5,.sl (v3.1.map zad)),(9,.sl (v91.1.map zad)),(11,zi (zw (i113+1)))] [] ?_)
       cases hm
       exact ⟨(zw (i113+1)),(),⟨[],[]⟩,rfl,RO⟩
     ·cases hm
      obtain rfl:=hx _ rfl
      exact W.wk ⟨[],[]⟩ [] [] (W.exit (show _/\_ from ⟨rfl,(),rfl,rfl⟩))
    ·intro e0 s0 h0 hq
     rcases r122 with er122 | qr122
     ·obtain ⟨rfl,_,rfl,rfl⟩:=hq
      replace hm:=zgu hm
      show WK _ _ _ _ _ [] []
      replace ⟨v131,h132,hm⟩:=zal hm
      have kh132:=zbG h132
      try simp only [hb5,hb95] at kh132
      refine W.sa 0 [4] ?_
      cases hm
      exact W.rt
     ·obtain ⟨rfl,rfl,rfl⟩:=hq
      replace hm:=zgt hm
      cases hm
      exact zcX.retW [] RO
end Go.Proofs.YtocjejladeeckaaDoor
