import Derived.Test.YtkgpofmbegonfaaGreatDoorVFacts
import Derived.Test.YtkgpofmbegonfaaGreatDoorVu3
import Derived.Test.YtkgpofmbegonfaaGreatDoorPalL
import Derived.Test.YtkgpofmbegonfaaGreatDoorWB
import Derived.Test.YtkgpofmbegonfaaGreatDoorWC
import Derived.Test.YtkgpofmbegonfaaGreatDoorWX
set_option linter.all false
set_option maxRecDepth 100000
set_option maxHeartbeats 4000000
namespace Go.Proofs.YtkgpofmbegonfaaGreatDoor
open Go.Vs
variable [TabX]
theorem zjm{p0:zac}{p1:Int}{r:Int}(hm:zdV p0 p1=some r):zaO Tryz.prog 103 [.agg [zi p0.Kind,zi p0.Line,zi p0.Col,.str p0.Text],zi p1] (zi r):=by
 rw [zdV] at hm
 refine zaO.of Tryz.func103 rfl Tryz.ntmps103 (Nat.le_of_ble_eq_true rfl) ?_
 refine W.sa 1 [1,2] ?_
 refine W.seq (W.sq [] [(2,.ptr 0 0 0),(13,.bool ((p0.Kind==1)&&decide (p1>16)))] [.cells (zab p0) 0 192] ?_)
 refine W.cn hm ?_ ?_ <;> clear hm <;> intro hb1 hm
 ·refine W.sa 0 [4] ?_
  cases hm
  exact W.rt
 ·refine W.skip (W.seq (W.sa 1 [2,16] ?_))
  refine W.cn hm ?_ ?_ <;> clear hm <;> intro hb2 hm
  ·replace ⟨v3,h4,hm⟩:=zai hm
   have kh4:=zcx h4
   try simp only [hb1,hb2] at kh4
   refine W.sa 0 [6] ?_
   refine W.sa 0 [24] ?_
   refine W.cn hm ?_ ?_ <;> clear hm <;> intro hb5 hm
   ·refine W.sa 0 [4] ?_
    cases hm
    exact W.rt
   ·refine W.skip (W.sa 0 [4] ?_)
    cases hm
    exact W.rt
  ·refine W.skip (W.sa 0 [4] ?_)
   cases hm
   exact W.rt
theorem ziJ{p0:ByteArray}{r:(List zac) × zah}(hm:zel p0=some r):zaO Tryz.prog 53 [.str p0] (.tuple [.sl (r.1.map zab),.agg [zi r.2.Code,zi r.2.Line,zi r.2.Col]]):=by
 rw [zel] at hm
 refine zaO.of Tryz.func53 rfl Tryz.ntmps53 (Nat.le_of_ble_eq_true rfl) ?_
 refine W.sa 1 [0,3] ?_
 replace ⟨v1,h2,hm⟩:=zai hm
 have kh2:=zfm h2
 refine W.sa 1 [0,3,4] ?_
 refine W.sa 1 [0,3,4,5] ?_
 refine W.seq (W.sa 1 [0,3,4,5,6] ?_)
 refine W.block ?_
 replace ⟨r170,hlr170,hm⟩:=zai hm
 refine W.mono (Q:=fun e0 s0 h0=>match r170 with | .inl e=>e0=.exit 0/\∃w:Nat,s0=[(0,.str p0),(3,.ptr 0 0 0),(5,zM 3 w 4 e)]/\h0=[.cells [zi 0,zi 0,zi 0] 0 64,.dead,.dead,.rows (e.map zab) 4 w 192] | .inr q=>e0=.ret/\s0=[(2,.sl (q.1.map zab)),(3,.ptr 0 0 0)]/\h0=[.cells (zaL q.2) 0 64]) (W.loopM (step:=zca v1 p0) (a0:=(0,[])) (fun (a:Int × (List zac)) (v:Nat)=>([(0,.str p0),(3,.ptr 0 0 0),(4,.sl (v1.map zal)),(5,zM 3 v 4 a.2),(6,zi a.1)],[.cells [zi 0,zi 0,zi 0] 0 64,.dead,.dead,.rows (a.2.map zab) 4 v 192])) 0 hlr170 ⟨[],[]⟩ RO ?_) ?_
 ·rintro ⟨i112,l113⟩ w114 x hm hx
  rw [zca] at hm
  show WK _ _ _ _ _ [(0,.str p0),(3,.ptr 0 0 0),(4,.sl (v1.map zal)),(5,zM 3 w114 4 l113),(6,zi i112)] [.cells [zi 0,zi 0,zi 0] 0 64,.dead,.dead,.rows (l113.map zab) 4 w114 192]
  refine W.seq (W.sa 4 [0,3,4,5,6,19] ?_)
  refine W.cn hm ?_ ?_ <;> clear hm <;> intro hb171 hm
  ·refine W.skip (W.block ?_)
   replace ⟨h172,hm⟩:=zaA hm
   refine W.sa 5 [0,3,4,5,6,7] ?_
   refine W.block (W.sa 5 [0,3,4,5,6,7,72] ?_)
   refine W.cn hm ?_ ?_ <;> clear hm <;> intro hb173 hm
   ·replace ⟨v174,h175,hm⟩:=zai hm
    have kh175:=zea h175
    try simp only [hb171,hb173] at kh175
    refine W.sa 1 [2,3] ?_
    cases hm
    obtain rfl:=hx _ rfl
    exact W.wk ⟨[],[]⟩ [(2,.sl (([]).map zab)),(3,.ptr 0 0 0)] [.cells (zaL v174) 0 64] (W.ret (show _/\_ from ⟨rfl,rfl,rfl⟩))
   ·replace ⟨v176,h177,hm⟩:=zai hm
    have kh177:=zhS h177
    try simp only [hb171,hb173] at kh177
    refine W.sa 5 [0,3,4,5,6,7,77] ?_
    refine W.cn hm ?_ ?_ <;> clear hm <;> intro hb178 hm
    ·refine W.rg [] [(0,.str p0),(3,.ptr 0 0 0),(4,.sl (v1.map zal)),(5,zM 3 w114 4 l113),(6,zi (zw (i112+1)))] [.cells [zi 0,zi 0,zi 0] 0 64,.dead,.dead,.rows (l113.map zab) 4 w114 192] ?_
     cases hm
     exact ⟨((zw (i112+1)),l113),w114,⟨[],[]⟩,rfl,RO⟩
    ·refine W.sa 5 [0,3,4,5,6,7,83] ?_
     refine W.cn hm ?_ ?_ <;> clear hm <;> intro hb179 hm
     ·refine W.block ?_
      replace ⟨r204,hlr204,hm⟩:=zai hm
      refine W.mono (Q:=fun e0 s0 h0=>match r204 with | .inl e=>e0=.exit 3/\∃w:Unit,s0=[(0,.str p0),(3,.ptr 0 0 0),(4,.sl (v1.map zal)),(5,zM 3 w114 4 l113),(6,zi e)]/\h0=[.cells [zi 0,zi 0,zi 0] 0 64,.dead,.dead,.rows (l113.map zab) 4 w114 192] | .inr q=>e0=.ret/\s0=[(2,.sl (q.1.map zab)),(3,.ptr 0 0 0)]/\h0=[.cells (zaL q.2) 0 64]) (W.loopM (step:=zck v1) (a0:=i112) (fun (a:Int) (v:Unit)=>([(0,.str p0),(3,.ptr 0 0 0),(4,.sl (v1.map zal)),(5,zM 3 w114 4 l113),(6,zi a)],[.cells [zi 0,zi 0,zi 0] 0 64,.dead,.dead,.rows (l113.map zab) 4 w114 192])) () hlr204 ⟨[],[]⟩ RO ?_) ?_
      ·rintro i195 _ x hm hx
       rw [zck] at hm
       show WK _ _ _ _ _ [(0,.str p0),(3,.ptr 0 0 0),(4,.sl (v1.map zal)),(5,zM 3 w114 4 l113),(6,zi i195)] [.cells [zi 0,zi 0,zi 0] 0 64,.dead,.dead,.rows (l113.map zab) 4 w114 192]
       refine W.seq ?_
       replace ⟨h205,hm⟩:=zaA hm
       refine W.sqh [] [(0,.str p0),(3,.ptr 0 0 0),(4,.sl (v1.map zal)),(5,zM 3 w114 4 l113),(6,zi i195),(98,.bool (decide (i195<(v1.length:Int))&&((rd v1 i195).Rune != 10)))] ?_
       refine W.cn hm ?_ ?_ <;> clear hm <;> intro hb206 hm
       ·refine W.skip (W.block (W.seq ?_))
        replace ⟨h207,hm⟩:=zaA hm
        refine W.sa 4 [0,3,4,5,6,103] ?_
        refine W.cn hm ?_ ?_ <;> clear hm <;> intro hb208 hm
        ·replace ⟨h209,hm⟩:=zaA hm
         replace ⟨v210,h211,hm⟩:=zai hm
         have kh211:=zea h211
         try simp only [hb171,hb173,hb178,hb179,hb206,hb208] at kh211
         refine W.sa 1 [2,3] ?_
         cases hm
         obtain rfl:=hx _ rfl
         exact W.wk ⟨[],[]⟩ [(2,.sl (([]).map zab)),(3,.ptr 0 0 0)] [.cells (zaL v210) 0 64] (W.ret (show _/\_ from ⟨rfl,rfl,rfl⟩))
        ·refine W.skip (W.rg [] [(0,.str p0),(3,.ptr 0 0 0),(4,.sl (v1.map zal)),(5,zM 3 w114 4 l113),(6,zi (zw (i195+1)))] [.cells [zi 0,zi 0,zi 0] 0 64,.dead,.dead,.rows (l113.map zab) 4 w114 192] ?_)
         cases hm
         exact ⟨(zw (i195+1)),(),⟨[],[]⟩,rfl,RO⟩
       ·cases hm
        obtain rfl:=hx _ rfl
        exact W.wk ⟨[],[]⟩ [(0,.str p0),(3,.ptr 0 0 0),(4,.sl (v1.map zal)),(5,zM 3 w114 4 l113),(6,zi i195)] [.cells [zi 0,zi 0,zi 0] 0 64,.dead,.dead,.rows (l113.map zab) 4 w114 192] (W.exit (show _/\_ from ⟨rfl,(),rfl,rfl⟩))
      ·intro e0 s0 h0 hq
       rcases r204 with er204 | qr204
       ·obtain ⟨rfl,_,rfl,rfl⟩:=hq
        replace hm:=zdC hm
        cases hm
        exact ⟨(er204,l113),w114,⟨[],[]⟩,rfl,RO⟩
       ·obtain ⟨rfl,rfl,rfl⟩:=hq
        replace hm:=zdB hm
        cases hm
        obtain rfl:=hx _ rfl
        first | exact (show _/\_ from ⟨rfl,rfl,rfl⟩) | exact ⟨trivial,rfl,rfl⟩
     ·replace ⟨v212,h213,hm⟩:=zai hm
      have kh213:=zli h213
      try simp only [hb171,hb173,hb178,hb179] at kh213
      refine W.sa 5 [0,3,4,5,6,7,8,9] ?_
      refine W.seq (W.sa 5 [0,3,4,5,6,7,8,9,31] ?_)
      refine W.cn hm ?_ ?_ <;> clear hm <;> intro hb214 hm
      ·replace ⟨v215,h216,hm⟩:=zai hm
       have kh216:=zea h216
       try simp only [hb171,hb173,hb178,hb179,hb214] at kh216
       refine W.sa 1 [2,3] ?_
       cases hm
       obtain rfl:=hx _ rfl
       exact W.wk ⟨[],[]⟩ [(2,.sl (([]).map zab)),(3,.ptr 0 0 0)] [.cells (zaL v215) 0 64] (W.ret (show _/\_ from ⟨rfl,rfl,rfl⟩))
      ·refine W.skip ?_
       replace ⟨h217,hm⟩:=zaA hm
       replace ⟨h218,hm⟩:=zaA hm
       replace ⟨h219,hm⟩:=zaA hm
       replace ⟨h220,hm⟩:=zaA hm
       replace ⟨s221,h222,hm⟩:=zaY hm
       refine W.sqJ [23,24] [23,24] [0,1,2,3,4,5,6,7,8,9,10,11,12,13,14,15,16,17,18,19,20,21,22] 5 [] [(0,.str p0),(3,.ptr 0 0 0),(4,.sl (v1.map zal)),(5,zM 3 w114 4 l113),(6,zi i112),(7,.ptr 4 0 0),(8,zi v212.1),(10,.ptr 5 0 0)] [.cells [zi 0,zi 0,zi 0] 0 64,.dead,.dead,.rows (l113.map zab) 4 w114 192,.cells (zal (rd v1 i112)) 0 186,.cells [zi v212.2,zi ((rd v1 i112).Line),zi ((rd v1 i112).Col),.str s221] 0 192] zaP ?_ (hd:=zf3 [[],[],[1],[],[3],[],[],[6],[],[],[9],[8,9,10],[8,9,10,11],[8,9,10,11,12],[],[],[15],[14,15,16],[14,15,16,17],[14,15,16,17,18],[8,9,10,11,12,13,14,15,16,17,18,19],[5,6,7,8,9,10,11,12,13,14,15,16,17,18,19,20],[0,1,2,3,4,5,6,7,8,9,10,11,12,13,14,15,16,17,18,19,20,21],[],[0,1,2,3,4,5,6,7,8,9,10,11,12,13,14,15,16,17,18,19,20,21,22,23]] (by kernel_rfl) (by kernel_rfl) (by kernel_rfl))
       clear h222
       refine W.seq ?_
       replace ⟨v223,h224,hm⟩:=zai hm
       have kh224:=zjm h224
       try simp only [hb171,hb173,hb178,hb179,hb214] at kh224
       refine W.sa 6 [0,3,4,5,7,8,10,11] ?_
       refine W.sa 6 [0,3,4,5,7,8,10,11,63] ?_
       refine W.cn hm ?_ ?_ <;> clear hm <;> intro hb225 hm
       ·replace ⟨v226,h227,hm⟩:=zai hm
        have kh227:=zea h227
        try simp only [hb171,hb173,hb178,hb179,hb214,hb225] at kh227
        refine W.sa 1 [2,3] ?_
        cases hm
        obtain rfl:=hx _ rfl
        exact W.wk ⟨[],[]⟩ [(2,.sl (([]).map zab)),(3,.ptr 0 0 0)] [.cells (zaL v226) 0 64] (W.ret (show _/\_ from ⟨rfl,rfl,rfl⟩))
       ·refine W.skip ?_
        replace ⟨h228,hm⟩:=zaA hm
        replace ⟨l229,h230,hm⟩:=zaY hm
        refine W.sq [] [(0,.str p0),(3,.ptr 0 0 0),(4,.sl (v1.map zal)),(5,.msl 3 (w114+1) 0 4 l229.length l229.length),(8,zi v212.1)] [.cells [zi 0,zi 0,zi 0] 0 64,.dead,.dead,.rows (l229.map zab) 4 (w114+1) 192] ?_
        clear h230
        refine W.rg [] [(0,.str p0),(3,.ptr 0 0 0),(4,.sl (v1.map zal)),(5,.msl 3 (w114+1) 0 4 l229.length l229.length),(6,zi v212.1)] [.cells [zi 0,zi 0,zi 0] 0 64,.dead,.dead,.rows (l229.map zab) 4 (w114+1) 192] ?_
        cases hm
        exact ⟨(v212.1,l229),(w114+1),⟨[],[]⟩,rfl,RO⟩
  ·cases hm
   obtain rfl:=hx _ rfl
   exact W.wk ⟨[],[]⟩ [(0,.str p0),(3,.ptr 0 0 0),(5,zM 3 w114 4 l113)] [.cells [zi 0,zi 0,zi 0] 0 64,.dead,.dead,.rows (l113.map zab) 4 w114 192] (W.exit (show _/\_ from ⟨rfl,w114,rfl,rfl⟩))
 ·intro e0 s0 h0 hq
  rcases r170 with er170 | qr170
  ·obtain ⟨rfl,w169,rfl,rfl⟩:=hq
   replace hm:=zdC hm
   show WK _ _ _ _ _ [(0,.str p0),(3,.ptr 0 0 0),(5,zM 3 w169 4 er170)] [.cells [zi 0,zi 0,zi 0] 0 64,.dead,.dead,.rows (er170.map zab) 4 w169 192]
   replace ⟨v231,h232,hm⟩:=zai hm
   have kh232:=zjv h232
   refine W.sa 4 [3,5,12,13] ?_
   replace ⟨h233,hm⟩:=zaA hm
   replace ⟨l234,h235,hm⟩:=zaY hm
   refine W.sq [] [(2,.msl 3 (w169+1) 0 4 l234.length l234.length),(3,.ptr 0 0 0)] [.cells [zi 0,zi 0,zi 0] 0 64,.dead,.dead,.rows (l234.map zab) 4 (w169+1) 192] ?_
   clear h235
   cases hm
   exact W.ret (zcB.retW [3] RO)
  ·obtain ⟨rfl,rfl,rfl⟩:=hq
   replace hm:=zdB hm
   cases hm
   exact zcB.retW [] RO
end Go.Proofs.YtkgpofmbegonfaaGreatDoor
