import Derived.Test.YtocjejladeeckaaDoorVFacts
import Derived.Test.YtocjejladeeckaaDoorVu3
import Derived.Test.YtocjejladeeckaaDoorPalL
import Derived.Test.YtocjejladeeckaaDoorWB
import Derived.Test.YtocjejladeeckaaDoorWC
import Derived.Test.YtocjejladeeckaaDoorWX
set_option linter.all false
set_option maxRecDepth 100000
set_option maxHeartbeats 4000000
namespace Go.Proofs.YtocjejladeeckaaDoor
open Go.Vs
variable [TabX]
theorem zi5{p0:zab}{p1:Int}{r:Int}(hm:zdu p0 p1=some r):zaT Tryd.prog 39 [.agg [zi p0.Kind,zi p0.Line,zi p0.Col,.str p0.Text],zi p1] (zi r):=by
 rw [zdu] at hm
 refine zaT.of Tryd.func39 rfl Tryd.ntmps39 (Nat.le_of_ble_eq_true rfl) ?_
 refine W.sa 1 [1,2] ?_
 refine W.seq (W.sq [] [(2,.ptr 0 0 0),(13,.bool ((p0.Kind==1)&&decide (p1>16)))] [.cells (zac p0) 0 43] ?_)
 refine W.cn hm ?_ ?_ <;> clear hm <;> intro hb1 hm
 ·refine W.sa 0 [4] ?_
  cases hm
  exact W.rt
 ·refine W.skip (W.seq (W.sa 1 [2,16] ?_))
  refine W.cn hm ?_ ?_ <;> clear hm <;> intro hb2 hm
  ·replace ⟨v3,h4,hm⟩:=zai hm
   have kh4:=zcH h4
   try simp only [hb1,hb2] at kh4
   refine W.sa 0 [6] ?_
   refine W.sa 0 [24] ?_
   refine W.cn hm ?_ ?_ <;> clear hm <;> intro hb5 hm
   ·refine W.sa 0 [4] ?_
    cases hm
    exact W.rt
   ·refine W.skip (W.sa 0 [4] ?_)
    cases hm
    exact W.rt
  ·refine W.skip (W.sa 0 [4] ?_)
   cases hm
   exact W.rt
theorem zig{p0:ByteArray}{r:(List zab) × zag}(hm:zd3 p0=some r):zaT Tryd.prog 16 [.str p0] (.tuple [.sl (r.1.map zac),.agg [zi r.2.Code,zi r.2.Line,zi r.2.Col]]):=by
 rw [zd3] at hm
 refine zaT.of Tryd.func16 rfl Tryd.ntmps16 (Nat.le_of_ble_eq_true rfl) ?_
 refine W.sa 1 [0,3] ?_
 replace ⟨v1,h2,hm⟩:=zai hm
 have kh2:=zfb h2
 refine W.sa 1 [0,3,4] ?_
 refine W.sa 1 [0,3,4,5] ?_
 refine W.seq (W.sa 1 [0,3,4,5,6] ?_)
 refine W.block ?_
 replace ⟨r170,hlr170,hm⟩:=zai hm
 refine W.mono (Q:=fun e0 s0 h0=>match r170 with | .inl e=>e0=.exit 0/\∃w:Nat,s0=[(0,.str p0),(3,.ptr 0 0 0),(5,zM 3 w 4 e)]/\h0=[.cells [zi 0,zi 0,zi 0] 0 26,.dead,.dead,.rows (e.map zac) 4 w 43] | .inr q=>e0=.ret/\s0=[(2,.sl (q.1.map zac)),(3,.ptr 0 0 0)]/\h0=[.cells (zaD q.2) 0 26]) (W.loopM (step:=zb1 v1 p0) (a0:=(0,[])) (fun (a:Int × (List zab)) (v:Nat)=>([(0,.str p0),(3,.ptr 0 0 0),(4,.sl (v1.map zal)),(5,zM 3 v 4 a.2),(6,zi a.1)],[.cells [zi 0,zi 0,zi 0] 0 26,.dead,.dead,.rows (a.2.map zac) 4 v 43])) 0 hlr170 ⟨[],[]⟩ RO ?_) ?_
 ·rintro ⟨i112,l113⟩ w114 x hm hx
  rw [zb1] at hm
  show WK _ _ _ _ _ [(0,.str p0),(3,.ptr 0 0 0),(4,.sl (v1.map zal)),(5,zM 3 w114 4 l113),(6,zi i112)] [.cells [zi 0,zi 0,zi 0] 0 26,.dead,.dead,.rows (l113.map zac) 4 w114 43]
  refine W.seq (W.sa 4 [0,3,4,5,6,19] ?_)
  refine W.cn hm ?_ ?_ <;> clear hm <;> intro hb171 hm
  ·refine W.skip (W.block ?_)
   replace ⟨h172,hm⟩:=zaA hm
   refine W.sa 5 [0,3,4,5,6,7] ?_
   refine W.block (W.sa 5 [0,3,4,5,6,7,72] ?_)
   refine W.cn hm ?_ ?_ <;> clear hm <;> intro hb173 hm
   ·replace ⟨v174,h175,hm⟩:=zai hm
    have kh175:=zdM h175
    try simp only [hb171,hb173] at kh175
    refine W.sa 1 [2,3] ?_
    cases hm
    obtain rfl:=hx _ rfl
    exact W.wk ⟨[],[]⟩ [(2,.sl (([]).map zac)),(3,.ptr 0 0 0)] [.cells (zaD v174) 0 26] (W.ret (show _/\_ from ⟨rfl,rfl,rfl⟩))
   ·replace ⟨v176,h177,hm⟩:=zai hm
    have kh177:=zhu h177
    try simp only [hb171,hb173] at kh177
    refine W.sa 5 [0,3,4,5,6,7,77] ?_
    refine W.cn hm ?_ ?_ <;> clear hm <;> intro hb178 hm
    ·refine W.rg [] [(0,.str p0),(3,.ptr 0 0 0),(4,.sl (v1.map zal)),(5,zM 3 w114 4 l113),(6,zi (zw (i112+1)))] [.cells [zi 0,zi 0,zi 0] 0 26,.dead,.dead,.rows (l113.map zac) 4 w114 43] ?_
     cases hm
     exact ⟨((zw (i112+1)),l113),w114,⟨[],[]⟩,rfl,RO⟩
    ·refine W.sa 5 [0,3,4,5,6,7,83] ?_
     refine W.cn hm ?_ ?_ <;> clear hm <;> intro hb179 hm
     ·refine W.block ?_
      replace ⟨r204,hlr204,hm⟩:=zai hm
      refine W.mono (Q:=fun e0 s0 h0=>match r204 with | .inl e=>e0=.exit 3/\∃w:Unit,s0=[(0,.str p0),(3,.ptr 0 0 0),(4,.sl (v1.map zal)),(5,zM 3 w114 4 l113),(6,zi e)]/\h0=[.cells [zi 0,zi 0,zi 0] 0 26,.dead,.dead,.rows (l113.map zac) 4 w114 43] | .inr q=>e0=.ret/\s0=[(2,.sl (q.1.map zac)),(3,.ptr 0 0 0)]/\h0=[.cells (zaD q.2) 0 26]) (W.loopM (step:=zcc v1) (a0:=i112) (fun (a:Int) (v:Unit)=>([(0,.str p0),(3,.ptr 0 0 0),(4,.sl (v1.map zal)),(5,zM 3 w114 4 l113),(6,zi a)],[.cells [zi 0,zi 0,zi 0] 0 26,.dead,.dead,.rows (l113.map zac) 4 w114 43])) () hlr204 ⟨[],[]⟩ RO ?_) ?_
      ·rintro i195 _ x hm hx
       rw [zcc] at hm
       show WK _ _ _ _ _ [(0,.str p0),(3,.ptr 0 0 0),(4,.sl (v1.map zal)),(5,zM 3 w114 4 l113),(6,zi i195)] [.cells [zi 0,zi 0,zi 0] 0 26,.dead,.dead,.rows (l113.map zac) 4 w114 43]
       refine W.seq ?_
       replace ⟨h205,hm⟩:=zaA hm
       refine W.sqh [] [(0,.str p0),(3,.ptr 0 0 0),(4,.sl (v1.map zal)),(5,zM 3 w114 4 l113),(6,zi i195),(98,.bool (decide (i195<(v1.length:Int))&&((rd v1 i195).Rune != 10)))] ?_
       refine W.cn hm ?_ ?_ <;> clear hm <;> intro hb206 hm
       ·refine W.skip (W.block (W.seq ?_))
        replace ⟨h207,hm⟩:=zaA hm
        refine W.sa 4 [0,3,4,5,6,103] ?_
        refine W.cn hm ?_ ?_ <;> clear hm <;> intro hb208 hm
        ·replace ⟨h209,hm⟩:=zaA hm
         replace ⟨v210,h211,hm⟩:=zai hm
         have kh211:=zdM h211
         try simp only [hb171,hb173,hb178,hb179,hb206,hb208] at kh211
         refine W.sa 1 [2,3] ?_
         cases hm
         obtain rfl:=hx _ rfl
         exact W.wk ⟨[],[]⟩ [(2,.sl (([]).map zac)),(3,.ptr 0 0 0)] [.cells (zaD v210) 0 26] (W.ret (show _/\_ from ⟨rfl,rfl,rfl⟩))
        ·refine W.skip (W.rg [] [(0,.str p0),(3,.ptr 0 0 0),(4,.sl (v1.map zal)),(5,zM 3 w114 4 l113),(6,zi (zw (i195+1)))] [.cells [zi 0,zi 0,zi 0] 0 26,.dead,.dead,.rows (l113.map zac) 4 w114 43] ?_)
         cases hm
         exact ⟨(zw (i195+1)),(),⟨[],[]⟩,rfl,RO⟩
       ·cases hm
        obtain rfl:=hx _ rfl
        exact W.wk ⟨[],[]⟩ [(0,.str p0),(3,.ptr 0 0 0),(4,.sl (v1.map zal)),(5,zM 3 w114 4 l113),(6,zi i195)] [.cells [zi 0,zi 0,zi 0] 0 26,.dead,.dead,.rows (l113.map zac) 4 w114 43] (W.exit (show _/\_ from ⟨rfl,(),rfl,rfl⟩))
      ·intro e0 s0 h0 hq
       rcases r204 with er204 | qr204
       ·obtain ⟨rfl,_,rfl,rfl⟩:=hq
        replace hm:=zdK hm
        cases hm
        exact ⟨(er204,l113),w114,⟨[],[]⟩,rfl,RO⟩
       ·obtain ⟨rfl,rfl,rfl⟩:=hq
        replace hm:=zdJ hm
        cases hm
        obtain rfl:=hx _ rfl
        first | exact (show _/\_ from ⟨rfl,rfl,rfl⟩) | exact ⟨trivial,rfl,rfl⟩
     ·replace ⟨v212,h213,hm⟩:=zai hm
      have kh213:=zk9 h213
      try simp only [hb171,hb173,hb178,hb179] at kh213
      refine W.sa 5 [0,3,4,5,6,7,8,9] ?_
      refine W.seq (W.sa 5 [0,3,4,5,6,7,8,9,31] ?_)
      refine W.cn hm ?_ ?_ <;> clear hm <;> intro hb214 hm
      ·replace ⟨v215,h216,hm⟩:=zai hm
       have kh216:=zdM h216
       try simp only [hb171,hb173,hb178,hb179,hb214] at kh216
       refine W.sa 1 [2,3] ?_
       cases hm
       obtain rfl:=hx _ rfl
       exact W.wk ⟨[],[]⟩ [(2,.sl (([]).map zac)),(3,.ptr 0 0 0)] [.cells (zaD v215) 0 26] (W.ret (show _/\_ from ⟨rfl,rfl,rfl⟩))
      ·refine W.skip ?_
       replace ⟨h217,hm⟩:=zaA hm
       replace ⟨h218,hm⟩:=zaA hm
       replace ⟨h219,hm⟩:=zaA hm
       replace ⟨h220,hm⟩:=zaA hm
       replace ⟨s221,h222,hm⟩:=za8 hm
       refine W.sqJ [23,24] [23,24] [0,1,2,3,4,5,6,7,8,9,10,11,12,13,14,15,16,17,18,19,20,21,22] 5 [] [(0,.str p0),(3,.ptr 0 0 0),(4,.sl (v1.map zal)),(5,zM 3 w114 4 l113),(6,zi i112),(7,.ptr 4 0 0),(8,zi v212.1),(10,.ptr 5 0 0)] [.cells [zi 0,zi 0,zi 0] 0 26,.dead,.dead,.rows (l113.map zac) 4 w114 43,.cells (zal (rd v1 i112)) 0 74,.cells [zi v212.2,zi ((rd v1 i112).Line),zi ((rd v1 i112).Col),.str s221] 0 43] zaL ?_
       clear h222
       refine W.seq ?_
       replace ⟨v223,h224,hm⟩:=zai hm
       have kh224:=zi5 h224
       try simp only [hb171,hb173,hb178,hb179,hb214] at kh224
       refine W.sa 6 [0,3,4,5,7,8,10,11] ?_
       refine W.sa 6 [0,3,4,5,7,8,10,11,63] ?_
       refine W.cn hm ?_ ?_ <;> clear hm <;> intro hb225 hm
       ·replace ⟨v226,h227,hm⟩:=zai hm
        have kh227:=zdM h227
        try simp only [hb171,hb173,hb178,hb179,hb214,hb225] at kh227
        refine W.sa 1 [2,3] ?_
        cases hm
        obtain rfl:=hx _ rfl
        exact W.wk ⟨[],[]⟩ [(2,.sl (([]).map zac)),(3,.ptr 0 0 0)] [.cells (zaD v226) 0 26] (W.ret (show _/\_ from ⟨rfl,rfl,rfl⟩))
       ·refine W.skip ?_
        replace ⟨h228,hm⟩:=zaA hm
        replace ⟨l229,h230,hm⟩:=za8 hm
        refine W.sq [] [(0,.str p0),(3,.ptr 0 0 0),(4,.sl (v1.map zal)),(5,.msl 3 (w114+1) 0 4 l229.length l229.length),(8,zi v212.1)] [.cells [zi 0,zi 0,zi 0] 0 26,.dead,.dead,.rows (l229.map zac) 4 (w114+1) 43] ?_
        clear h230
        refine W.rg [] [(0,.str p0),(3,.ptr 0 0 0),(4,.sl (v1.map zal)),(5,.msl 3 (w114+1) 0 4 l229.length l229.length),(6,zi v212.1)] [.cells [zi 0,zi 0,zi 0] 0 26,.dead,.dead,.rows (l229.map zac) 4 (w114+1) 43] ?_
        cases hm
        exact ⟨(v212.1,l229),(w114+1),⟨[],[]⟩,rfl,RO⟩
  ·cases hm
   obtain rfl:=hx _ rfl
   exact W.wk ⟨[],[]⟩ [(0,.str p0),(3,.ptr 0 0 0),(5,zM 3 w114 4 l113)] [.cells [zi 0,zi 0,zi 0] 0 26,.dead,.dead,.rows (l113.map zac) 4 w114 43] (W.exit (show _/\_ from ⟨rfl,w114,rfl,rfl⟩))
 ·intro e0 s0 h0 hq
  rcases r170 with er170 | qr170
  ·obtain ⟨rfl,w169,rfl,rfl⟩:=hq
   replace hm:=zdK hm
   show WK _ _ _ _ _ [(0,.str p0),(3,.ptr 0 0 0),(5,zM 3 w169 4 er170)] [.cells [zi 0,zi 0,zi 0] 0 26,.dead,.dead,.rows (er170.map zac) 4 w169 43]
   replace ⟨v231,h232,hm⟩:=zai hm
   have kh232:=zjc h232
   refine W.sa 4 [3,5,12,13] ?_
   replace ⟨h233,hm⟩:=zaA hm
   replace ⟨l234,h235,hm⟩:=za8 hm
   refine W.sq [] [(2,.msl 3 (w169+1) 0 4 l234.length l234.length),(3,.ptr 0 0 0)] [.cells [zi 0,zi 0,zi 0] 0 26,.dead,.dead,.rows (l234.map zac) 4 (w169+1) 43] ?_
   clear h235
   cases hm
   exact W.ret (zeB.retW [3] RO)
  ·obtain ⟨rfl,rfl,rfl⟩:=hq
   replace hm:=zdJ hm
   cases hm
   exact zeB.retW [] RO
end Go.Proofs.YtocjejladeeckaaDoor
