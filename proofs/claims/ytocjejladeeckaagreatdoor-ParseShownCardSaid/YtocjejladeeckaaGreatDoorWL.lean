import Derived.Test.YtocjejladeeckaaGreatDoorVFacts
import Derived.Test.YtocjejladeeckaaGreatDoorVu3
import Derived.Test.YtocjejladeeckaaGreatDoorPalL
import Derived.Test.YtocjejladeeckaaGreatDoorWB
import Derived.Test.YtocjejladeeckaaGreatDoorWC
import Derived.Test.YtocjejladeeckaaGreatDoorWX
set_option linter.all false
set_option maxRecDepth 100000
set_option maxHeartbeats 4000000
namespace Go.Proofs.YtocjejladeeckaaGreatDoor
open Go.Vs
variable [TabX]
theorem zmV{p0:zaa}{p1:Int}{r:Int}(hm:zfq p0 p1=some r):zaE Tryz.prog 53 [zqT p0,zi p1] (zi r):=by
 rw [zfq] at hm
 refine zaE.of Tryz.func53 rfl Tryz.ntmps53 (Nat.le_of_ble_eq_true rfl) ?_
 refine W.sa 1 [1,2] ?_
 refine W.seq (W.sq [] [(2,.ptr 0 0 0),(13,.bool ((p0.Kind==1)&&decide (p1>16)))] [.cells (zaj p0) 0 41] ?_)
 refine W.cn hm ?_ ?_ <;> clear hm <;> intro hb1 hm
 ·refine W.sa 0 [4] ?_
  cases hm
  exact W.rt
 ·refine W.skip (W.seq (W.sa 1 [2,16] ?_))
  refine W.cn hm ?_ ?_ <;> clear hm <;> intro hb2 hm
  ·replace ⟨v3,h4,hm⟩:=zah hm
   have kh4:=zd9 h4
   try simp only [hb1,hb2] at kh4
   refine W.sa 0 [6] ?_
   refine W.sa 0 [24] ?_
   refine W.cn hm ?_ ?_ <;> clear hm <;> intro hb5 hm
   ·refine W.sa 0 [4] ?_
    cases hm
    exact W.rt
   ·refine W.skip (W.sa 0 [4] ?_)
    cases hm
    exact W.rt
  ·refine W.skip (W.sa 0 [4] ?_)
   cases hm
   exact W.rt
theorem zlX{p0:ByteArray}{r:(List zaa) × zai}(hm:zgh p0=some r):zaE Tryz.prog 31 [.str p0] (.tuple [.sl (r.1.map zaj),.agg [zi r.2.Code,zi r.2.Line,zi r.2.Col]]):=by
 rw [zgh] at hm
 refine zaE.of Tryz.func31 rfl Tryz.ntmps31 (Nat.le_of_ble_eq_true rfl) ?_
 refine W.sa 1 [0,3] ?_
 replace ⟨v1,h2,hm⟩:=zah hm
 have kh2:=zhK h2
 refine W.sa 1 [0,3,4] ?_
 refine W.sa 1 [0,3,4,5] ?_
 refine W.seq (W.sa 1 [0,3,4,5,6] ?_)
 refine W.block ?_
 replace ⟨r170,hlr170,hm⟩:=zah hm
 refine W.mono (Q:=fun e0 s0 h0=>match r170 with | .inl e=>e0=.exit 0/\∃w:Nat,s0=[(0,.str p0),(3,.ptr 0 0 0),(5,zM 3 w 4 e)]/\h0=[.cells [zi 0,zi 0,zi 0] 0 37,.dead,.dead,.rows (e.map zaj) 4 w 41] | .inr q=>e0=.ret/\s0=[(2,.sl (q.1.map zaj)),(3,.ptr 0 0 0)]/\h0=[.cells (zce q.2) 0 37]) (W.loopM (step:=zcZ v1 p0) (a0:=(0,[])) (fun (a:Int × (List zaa)) (v:Nat)=>([(0,.str p0),(3,.ptr 0 0 0),(4,.sl (v1.map zax)),(5,zM 3 v 4 a.2),(6,zi a.1)],[.cells [zi 0,zi 0,zi 0] 0 37,.dead,.dead,.rows (a.2.map zaj) 4 v 41])) 0 hlr170 ⟨[],[]⟩ RO ?_) ?_
 ·rintro ⟨i112,l113⟩ w114 x hm hx
  rw [zcZ] at hm
  show WK _ _ _ _ _ [(0,.str p0),(3,.ptr 0 0 0),(4,.sl (v1.map zax)),(5,zM 3 w114 4 l113),(6,zi i112)] [.cells [zi 0,zi 0,zi 0] 0 37,.dead,.dead,.rows (l113.map zaj) 4 w114 41]
  refine W.seq (W.sa 4 [0,3,4,5,6,19] ?_)
  refine W.cn hm ?_ ?_ <;> clear hm <;> intro hb171 hm
  ·refine W.skip (W.block ?_)
   replace ⟨h172,hm⟩:=zap hm
   refine W.sa 5 [0,3,4,5,6,7] ?_
   refine W.block (W.sa 5 [0,3,4,5,6,7,72] ?_)
   refine W.cn hm ?_ ?_ <;> clear hm <;> intro hb173 hm
   ·replace ⟨v174,h175,hm⟩:=zah hm
    have kh175:=zfL h175
    try simp only [hb171,hb173] at kh175
    refine W.sa 1 [2,3] ?_
    cases hm
    obtain rfl:=hx _ rfl
    exact W.wk ⟨[],[]⟩ [(2,.sl (([]).map zaj)),(3,.ptr 0 0 0)] [.cells (zce v174) 0 37] (W.ret (show _/\_ from ⟨rfl,rfl,rfl⟩))
   ·replace ⟨v176,h177,hm⟩:=zah hm
    have kh177:=zkZ h177
    try simp only [hb171,hb173] at kh177
    refine W.sa 5 [0,3,4,5,6,7,77] ?_
    refine W.cn hm ?_ ?_ <;> clear hm <;> intro hb178 hm
    ·refine W.rg [] [(0,.str p0),(3,.ptr 0 0 0),(4,.sl (v1.map zax)),(5,zM 3 w114 4 l113),(6,zi (zw (i112+1)))] [.cells [zi 0,zi 0,zi 0] 0 37,.dead,.dead,.rows (l113.map zaj) 4 w114 41] ?_
     cases hm
     exact ⟨((zw (i112+1)),l113),w114,⟨[],[]⟩,rfl,RO⟩
    ·refine W.sa 5 [0,3,4,5,6,7,83] ?_
     refine W.cn hm ?_ ?_ <;> clear hm <;> intro hb179 hm
     ·refine W.block ?_
      replace ⟨r204,hlr204,hm⟩:=zah hm
      refine W.mono (Q:=fun e0 s0 h0=>match r204 with | .inl e=>e0=.exit 3/\∃w:Unit,s0=[(0,.str p0),(3,.ptr 0 0 0),(4,.sl (v1.map zax)),(5,zM 3 w114 4 l113),(6,zi e)]/\h0=[.cells [zi 0,zi 0,zi 0] 0 37,.dead,.dead,.rows (l113.map zaj) 4 w114 41] | .inr q=>e0=.ret/\s0=[(2,.sl (q.1.map zaj)),(3,.ptr 0 0 0)]/\h0=[.cells (zce q.2) 0 37]) (W.loopM (step:=zdq v1) (a0:=i112) (fun (a:Int) (v:Unit)=>([(0,.str p0),(3,.ptr 0 0 0),(4,.sl (v1.map zax)),(5,zM 3 w114 4 l113),(6,zi a)],[.cells [zi 0,zi 0,zi 0] 0 37,.dead,.dead,.rows (l113.map zaj) 4 w114 41])) () hlr204 ⟨[],[]⟩ RO ?_) ?_
      ·rintro i195 _ x hm hx
       rw [zdq] at hm
       show WK _ _ _ _ _ [(0,.str p0),(3,.ptr 0 0 0),(4,.sl (v1.map zax)),(5,zM 3 w114 4 l113),(6,zi i195)] [.cells [zi 0,zi 0,zi 0] 0 37,.dead,.dead,.rows (l113.map zaj) 4 w114 41]
       refine W.seq ?_
       replace ⟨h205,hm⟩:=zap hm
       refine W.sqh [] [(0,.str p0),(3,.ptr 0 0 0),(4,.sl (v1.map zax)),(5,zM 3 w114 4 l113),(6,zi i195),(98,.bool (decide (i195<(v1.length:Int))&&((rd v1 i195).Rune != 10)))] ?_
       refine W.cn hm ?_ ?_ <;> clear hm <;> intro hb206 hm
       ·refine W.skip (W.block (W.seq ?_))
        replace ⟨h207,hm⟩:=zap hm
        refine W.sa 4 [0,3,4,5,6,103] ?_
        refine W.cn hm ?_ ?_ <;> clear hm <;> intro hb208 hm
        ·replace ⟨h209,hm⟩:=zap hm
         replace ⟨v210,h211,hm⟩:=zah hm
         have kh211:=zfL h211
         try simp only [hb171,hb173,hb178,hb179,hb206,hb208] at kh211
         refine W.sa 1 [2,3] ?_
         cases hm
         obtain rfl:=hx _ rfl
         exact W.wk ⟨[],[]⟩ [(2,.sl (([]).map zaj)),(3,.ptr 0 0 0)] [.cells (zce v210) 0 37] (W.ret (show _/\_ from ⟨rfl,rfl,rfl⟩))
        ·refine W.skip (W.rg [] [(0,.str p0),(3,.ptr 0 0 0),(4,.sl (v1.map zax)),(5,zM 3 w114 4 l113),(6,zi (zw (i195+1)))] [.cells [zi 0,zi 0,zi 0] 0 37,.dead,.dead,.rows (l113.map zaj) 4 w114 41] ?_)
         cases hm
         exact ⟨(zw (i195+1)),(),⟨[],[]⟩,rfl,RO⟩
       ·cases hm
        obtain rfl:=hx _ rfl
        exact W.wk ⟨[],[]⟩ [(0,.str p0),(3,.ptr 0 0 0),(4,.sl (v1.map zax)),(5,zM 3 w114 4 l113),(6,zi i195)] [.cells [zi 0,zi 0,zi 0] 0 37,.dead,.dead,.rows (l113.map zaj) 4 w114 41] (W.exit (show _/\_ from ⟨rfl,(),rfl,rfl⟩))
      ·intro e0 s0 h0 hq
       rcases r204 with er204 | qr204
       ·obtain ⟨rfl,_,rfl,rfl⟩:=hq
        replace hm:=zc5 hm
        cases hm
        exact ⟨(er204,l113),w114,⟨[],[]⟩,rfl,RO⟩
       ·obtain ⟨rfl,rfl,rfl⟩:=hq
        replace hm:=zc4 hm
        cases hm
        obtain rfl:=hx _ rfl
        first | exact (show _/\_ from ⟨rfl,rfl,rfl⟩) | exact ⟨trivial,rfl,rfl⟩
     ·replace ⟨v212,h213,hm⟩:=zah hm
      have kh213:=zpr h213
      try simp only [hb171,hb173,hb178,hb179] at kh213
      refine W.sa 5 [0,3,4,5,6,7,8,9] ?_
      refine W.seq (W.sa 5 [0,3,4,5,6,7,8,9,31] ?_)
      refine W.cn hm ?_ ?_ <;> clear hm <;> intro hb214 hm
      ·replace ⟨v215,h216,hm⟩:=zah hm
       have kh216:=zfL h216
       try simp only [hb171,hb173,hb178,hb179,hb214] at kh216
       refine W.sa 1 [2,3] ?_
       cases hm
       obtain rfl:=hx _ rfl
       exact W.wk ⟨[],[]⟩ [(2,.sl (([]).map zaj)),(3,.ptr 0 0 0)] [.cells (zce v215) 0 37] (W.ret (show _/\_ from ⟨rfl,rfl,rfl⟩))
      ·refine W.skip ?_
       replace ⟨h217,hm⟩:=zap hm
       replace ⟨h218,hm⟩:=zap hm
       replace ⟨h219,hm⟩:=zap hm
       replace ⟨h220,hm⟩:=zap hm
       replace ⟨s221,h222,hm⟩:=zaN hm
       refine W.sqJ [23,24] [23,24] [0,1,2,3,4,5,6,7,8,9,10,11,12,13,14,15,16,17,18,19,20,21,22] 5 [] [(0,.str p0),(3,.ptr 0 0 0),(4,.sl (v1.map zax)),(5,zM 3 w114 4 l113),(6,zi i112),(7,.ptr 4 0 0),(8,zi v212.1),(10,.ptr 5 0 0)] [.cells [zi 0,zi 0,zi 0] 0 37,.dead,.dead,.rows (l113.map zaj) 4 w114 41,.cells (zax (rd v1 i112)) 0 101,.cells [zi v212.2,zi ((rd v1 i112).Line),zi ((rd v1 i112).Col),.str s221] 0 41] zaI ?_
       clear h222
       refine W.seq ?_
       replace ⟨v223,h224,hm⟩:=zah hm
       have kh224:=zmV h224
       try simp only [hb171,hb173,hb178,hb179,hb214] at kh224
       refine W.sa 6 [0,3,4,5,7,8,10,11] ?_
       refine W.sa 6 [0,3,4,5,7,8,10,11,63] ?_
       refine W.cn hm ?_ ?_ <;> clear hm <;> intro hb225 hm
       ·replace ⟨v226,h227,hm⟩:=zah hm
        have kh227:=zfL h227
        try simp only [hb171,hb173,hb178,hb179,hb214,hb225] at kh227
        refine W.sa 1 [2,3] ?_
        cases hm
        obtain rfl:=hx _ rfl
        exact W.wk ⟨[],[]⟩ [(2,.sl (([]).map zaj)),(3,.ptr 0 0 0)] [.cells (zce v226) 0 37] (W.ret (show _/\_ from ⟨rfl,rfl,rfl⟩))
       ·refine W.skip ?_
        replace ⟨h228,hm⟩:=zap hm
        replace ⟨l229,h230,hm⟩:=zaN hm
        refine W.sq [] [(0,.str p0),(3,.ptr 0 0 0),(4,.sl (v1.map zax)),(5,.msl 3 (w114+1) 0 4 l229.length l229.length),(8,zi v212.1)] [.cells [zi 0,zi 0,zi 0] 0 37,.dead,.dead,.rows (l229.map zaj) 4 (w114+1) 41] ?_
        clear h230
        refine W.rg [] [(0,.str p0),(3,.ptr 0 0 0),(4,.sl (v1.map zax)),(5,.msl 3 (w114+1) 0 4 l229.length l229.length),(6,zi v212.1)] [.cells [zi 0,zi 0,zi 0] 0 37,.dead,.dead,.rows (l229.map zaj) 4 (w114+1) 41] ?_
        cases hm
        exact ⟨(v212.1,l229),(w114+1),⟨[],[]⟩,rfl,RO⟩
  ·cases hm
   obtain rfl:=hx _ rfl
   exact W.wk ⟨[],[]⟩ [(0,.str p0),(3,.ptr 0 0 0),(5,zM 3 w114 4 l113)] [.cells [zi 0,zi 0,zi 0] 0 37,.dead,.dead,.rows (l113.map zaj) 4 w114 41] (W.exit (show _/\_ from ⟨rfl,w114,rfl,rfl⟩))
 ·intro e0 s0 h0 hq
  rcases r170 with er170 | qr170
  ·obtain ⟨rfl,w169,rfl,rfl⟩:=hq
   replace hm:=zc5 hm
   show WK _ _ _ _ _ [(0,.str p0),(3,.ptr 0 0 0),(5,zM 3 w169 4 er170)] [.cells [zi 0,zi 0,zi 0] 0 37,.dead,.dead,.rows (er170.map zaj) 4 w169 41]
   replace ⟨v231,h232,hm⟩:=zah hm
   have kh232:=znd h232
   refine W.sa 4 [3,5,12,13] ?_
   replace ⟨h233,hm⟩:=zap hm
   replace ⟨l234,h235,hm⟩:=zaN hm
   refine W.sq [] [(2,.msl 3 (w169+1) 0 4 l234.length l234.length),(3,.ptr 0 0 0)] [.cells [zi 0,zi 0,zi 0] 0 37,.dead,.dead,.rows (l234.map zaj) 4 (w169+1) 41] ?_
   clear h235
   cases hm
   exact W.ret (zee.retW [3] RO)
  ·obtain ⟨rfl,rfl,rfl⟩:=hq
   replace hm:=zc4 hm
   cases hm
   exact zee.retW [] RO
end Go.Proofs.YtocjejladeeckaaGreatDoor
