import Derived.Test.YtocjejladeeckaaGreatDoorVFacts
import Derived.Test.YtocjejladeeckaaGreatDoorVu3
import Derived.Test.YtocjejladeeckaaGreatDoorPalL
import Derived.Test.YtocjejladeeckaaGreatDoorWB
import Derived.Test.YtocjejladeeckaaGreatDoorWC
import Derived.Test.YtocjejladeeckaaGreatDoorWX
set_option linter.all false
set_option maxRecDepth 100000
set_option maxHeartbeats 4000000
namespace Go.Proofs.YtocjejladeeckaaGreatDoor
open Go.Vs
variable [TabX]
theorem znk{p0:zaa}{p1:Int}{r:Int}(hm:zgh p0 p1=some r):zaJ Tryz.prog 53 [zqT p0,zi p1] (zi r):=by
 rw [zgh] at hm
 refine zaJ.of Tryz.func53 rfl Tryz.ntmps53 (Nat.le_of_ble_eq_true rfl) ?_
 refine W.sa 1 [1,2] ?_
 refine W.seq (W.sq [] [(2,.ptr 0 0 0),(13,.bool ((p0.Kind==1)&&decide (p1>16)))] [.cells (zag p0) 0 41] ?_)
 refine W.cn hm ?_ ?_ <;> clear hm <;> intro hb1 hm
 ·refine W.sa 0 [4] ?_
  cases hm
  exact W.rt
 ·refine W.skip (W.seq (W.sa 1 [2,16] ?_))
  refine W.cn hm ?_ ?_ <;> clear hm <;> intro hb2 hm
  ·replace ⟨v3,h4,hm⟩:=zaf hm
   have kh4:=ze4 h4
   try simp only [hb1,hb2] at kh4
   refine W.sa 0 [6] ?_
   refine W.sa 0 [24] ?_
   refine W.cn hm ?_ ?_ <;> clear hm <;> intro hb5 hm
   ·refine W.sa 0 [4] ?_
    cases hm
    exact W.rt
   ·refine W.skip (W.sa 0 [4] ?_)
    cases hm
    exact W.rt
  ·refine W.skip (W.sa 0 [4] ?_)
   cases hm
   exact W.rt
theorem zjq{p0:ByteArray}{r:Int × Int}(hm:zeT p0=some r):zaJ Tryz.prog 30 [.str p0] (.tuple [zi r.1,zi r.2]):=by
 rw [zeT] at hm
 refine zaJ.of Tryz.func30 rfl Tryz.ntmps30 (Nat.le_of_ble_eq_true rfl) ?_
 refine W.sa 0 [0] ?_
 replace ⟨v1,h2,hm⟩:=zaf hm
 have kh2:=ze1 h2
 refine W.sa 0 [4] ?_
 refine W.seq (W.sa 0 [4,10] ?_)
 refine W.cn hm ?_ ?_ <;> clear hm <;> intro hb3 hm
 ·refine W.sa 0 [2,3] ?_
  cases hm
  exact W.rt
 ·refine W.skip ?_
  replace ⟨h4,hm⟩:=zao hm
  refine W.sa 1 [5] ?_
  refine W.seq (W.sa 1 [5,19] ?_)
  refine W.cn hm ?_ ?_ <;> clear hm <;> intro hb5 hm
  ·replace ⟨n6,h7,hm⟩:=zaK hm
   refine W.sq [] [(2,zi n6),(3,zi 1)] [] ?_
   clear h7
   cases hm
   exact W.rt
  ·refine W.skip ?_
   replace ⟨n8,h9,hm⟩:=zaK hm
   refine W.sqJ [] [] [] 0 [] [(2,zi ((rd v1 (zw ((v1.length:Int)-1))).Line)),(3,zi n8)] [] zaw ?_
   clear h9
   cases hm
   exact W.rt
theorem zmf{p0:ByteArray}{r:(List zaa) × zak}(hm:zg1 p0=some r):zaJ Tryz.prog 31 [.str p0] (.tuple [.sl (r.1.map zag),.agg [zi r.2.Code,zi r.2.Line,zi r.2.Col]]):=by
 rw [zg1] at hm
 refine zaJ.of Tryz.func31 rfl Tryz.ntmps31 (Nat.le_of_ble_eq_true rfl) ?_
 refine W.sa 1 [0,3] ?_
 replace ⟨v1,h2,hm⟩:=zaf hm
 have kh2:=zip h2
 refine W.sa 1 [0,3,4] ?_
 refine W.sa 1 [0,3,4,5] ?_
 refine W.seq (W.sa 1 [0,3,4,5,6] ?_)
 refine W.block ?_
 replace ⟨r170,hlr170,hm⟩:=zaf hm
 refine W.mono (Q:=fun e0 s0 h0=>match r170 with | .inl e=>e0=.exit 0/\∃w:Nat,s0=[(0,.str p0),(3,.ptr 0 0 0),(5,zM 3 w 4 e)]/\h0=[.cells [zi 0,zi 0,zi 0] 0 37,.dead,.dead,.rows (e.map zag) 4 w 41] | .inr q=>e0=.ret/\s0=[(2,.sl (q.1.map zag)),(3,.ptr 0 0 0)]/\h0=[.cells (zbf q.2) 0 37]) (W.loopM (step:=zdV v1 p0) (a0:=(0,[])) (fun (a:Int × (List zaa)) (v:Nat)=>([(0,.str p0),(3,.ptr 0 0 0),(4,.sl (v1.map zaD)),(5,zM 3 v 4 a.2),(6,zi a.1)],[.cells [zi 0,zi 0,zi 0] 0 37,.dead,.dead,.rows (a.2.map zag) 4 v 41])) 0 hlr170 ⟨[],[]⟩ RO ?_) ?_
 ·rintro ⟨i112,l113⟩ w114 x hm hx
  rw [zdV] at hm
  show WK _ _ _ _ _ [(0,.str p0),(3,.ptr 0 0 0),(4,.sl (v1.map zaD)),(5,zM 3 w114 4 l113),(6,zi i112)] [.cells [zi 0,zi 0,zi 0] 0 37,.dead,.dead,.rows (l113.map zag) 4 w114 41]
  refine W.seq (W.sa 4 [0,3,4,5,6,19] ?_)
  refine W.cn hm ?_ ?_ <;> clear hm <;> intro hb171 hm
  ·refine W.skip (W.block ?_)
   replace ⟨h172,hm⟩:=zao hm
   refine W.sa 5 [0,3,4,5,6,7] ?_
   refine W.block (W.sa 5 [0,3,4,5,6,7,72] ?_)
   refine W.cn hm ?_ ?_ <;> clear hm <;> intro hb173 hm
   ·replace ⟨v174,h175,hm⟩:=zaf hm
    have kh175:=zgy h175
    try simp only [hb171,hb173] at kh175
    refine W.sa 1 [2,3] ?_
    cases hm
    obtain rfl:=hx _ rfl
    exact W.wk ⟨[],[]⟩ [(2,.sl (([]).map zag)),(3,.ptr 0 0 0)] [.cells (zbf v174) 0 37] (W.ret (show _/\_ from ⟨rfl,rfl,rfl⟩))
   ·replace ⟨v176,h177,hm⟩:=zaf hm
    have kh177:=zlk h177
    try simp only [hb171,hb173] at kh177
    refine W.sa 5 [0,3,4,5,6,7,77] ?_
    refine W.cn hm ?_ ?_ <;> clear hm <;> intro hb178 hm
    ·refine W.rg [] [(0,.str p0),(3,.ptr 0 0 0),(4,.sl (v1.map zaD)),(5,zM 3 w114 4 l113),(6,zi (zw (i112+1)))] [.cells [zi 0,zi 0,zi 0] 0 37,.dead,.dead,.rows (l113.map zag) 4 w114 41] ?_
     cases hm
     exact ⟨((zw (i112+1)),l113),w114,⟨[],[]⟩,rfl,RO⟩
    ·refine W.sa 5 [0,3,4,5,6,7,83] ?_
     refine W.cn hm ?_ ?_ <;> clear hm <;> intro hb179 hm
     ·refine W.block ?_
      replace ⟨r204,hlr204,hm⟩:=zaf hm
      refine W.mono (Q:=fun e0 s0 h0=>match r204 with | .inl e=>e0=.exit 3/\∃w:Unit,s0=[(0,.str p0),(3,.ptr 0 0 0),(4,.sl (v1.map zaD)),(5,zM 3 w114 4 l113),(6,zi e)]/\h0=[.cells [zi 0,zi 0,zi 0] 0 37,.dead,.dead,.rows (l113.map zag) 4 w114 41] | .inr q=>e0=.ret/\s0=[(2,.sl (q.1.map zag)),(3,.ptr 0 0 0)]/\h0=[.cells (zbf q.2) 0 37]) (W.loopM (step:=zel v1) (a0:=i112) (fun (a:Int) (v:Unit)=>([(0,.str p0),(3,.ptr 0 0 0),(4,.sl (v1.map zaD)),(5,zM 3 w114 4 l113),(6,zi a)],[.cells [zi 0,zi 0,zi 0] 0 37,.dead,.dead,.rows (l113.map zag) 4 w114 41])) () hlr204 ⟨[],[]⟩ RO ?_) ?_
      ·rintro i195 _ x hm hx
       rw [zel] at hm
       show WK _ _ _ _ _ [(0,.str p0),(3,.ptr 0 0 0),(4,.sl (v1.map zaD)),(5,zM 3 w114 4 l113),(6,zi i195)] [.cells [zi 0,zi 0,zi 0] 0 37,.dead,.dead,.rows (l113.map zag) 4 w114 41]
       refine W.seq ?_
       replace ⟨h205,hm⟩:=zao hm
       refine W.sqh [] [(0,.str p0),(3,.ptr 0 0 0),(4,.sl (v1.map zaD)),(5,zM 3 w114 4 l113),(6,zi i195),(98,.bool (decide (i195<(v1.length:Int))&&((rd v1 i195).Rune != 10)))] ?_
       refine W.cn hm ?_ ?_ <;> clear hm <;> intro hb206 hm
       ·refine W.skip (W.block (W.seq ?_))
        replace ⟨h207,hm⟩:=zao hm
        refine W.sa 4 [0,3,4,5,6,103] ?_
        refine W.cn hm ?_ ?_ <;> clear hm <;> intro hb208 hm
        ·replace ⟨h209,hm⟩:=zao hm
         replace ⟨v210,h211,hm⟩:=zaf hm
         have kh211:=zgy h211
         try simp only [hb171,hb173,hb178,hb179,hb206,hb208] at kh211
         refine W.sa 1 [2,3] ?_
         cases hm
         obtain rfl:=hx _ rfl
         exact W.wk ⟨[],[]⟩ [(2,.sl (([]).map zag)),(3,.ptr 0 0 0)] [.cells (zbf v210) 0 37] (W.ret (show _/\_ from ⟨rfl,rfl,rfl⟩))
        ·refine W.skip (W.rg [] [(0,.str p0),(3,.ptr 0 0 0),(4,.sl (v1.map zaD)),(5,zM 3 w114 4 l113),(6,zi (zw (i195+1)))] [.cells [zi 0,zi 0,zi 0] 0 37,.dead,.dead,.rows (l113.map zag) 4 w114 41] ?_)
         cases hm
         exact ⟨(zw (i195+1)),(),⟨[],[]⟩,rfl,RO⟩
       ·cases hm
        obtain rfl:=hx _ rfl
        exact W.wk ⟨[],[]⟩ [(0,.str p0),(3,.ptr 0 0 0),(4,.sl (v1.map zaD)),(5,zM 3 w114 4 l113),(6,zi i195)] [.cells [zi 0,zi 0,zi 0] 0 37,.dead,.dead,.rows (l113.map zag) 4 w114 41] (W.exit (show _/\_ from ⟨rfl,(),rfl,rfl⟩))
      ·intro e0 s0 h0 hq
       rcases r204 with er204 | qr204
       ·obtain ⟨rfl,_,rfl,rfl⟩:=hq
        replace hm:=zcJ hm
        cases hm
        exact ⟨(er204,l113),w114,⟨[],[]⟩,rfl,RO⟩
       ·obtain ⟨rfl,rfl,rfl⟩:=hq
        replace hm:=zcI hm
        cases hm
        obtain rfl:=hx _ rfl
        first | exact (show _/\_ from ⟨rfl,rfl,rfl⟩) | exact ⟨trivial,rfl,rfl⟩
     ·replace ⟨v212,h213,hm⟩:=zaf hm
      have kh213:=zpO h213
      try simp only [hb171,hb173,hb178,hb179] at kh213
      refine W.sa 5 [0,3,4,5,6,7,8,9] ?_
      refine W.seq (W.sa 5 [0,3,4,5,6,7,8,9,31] ?_)
      refine W.cn hm ?_ ?_ <;> clear hm <;> intro hb214 hm
      ·replace ⟨v215,h216,hm⟩:=zaf hm
       have kh216:=zgy h216
       try simp only [hb171,hb173,hb178,hb179,hb214] at kh216
       refine W.sa 1 [2,3] ?_
       cases hm
       obtain rfl:=hx _ rfl
       exact W.wk ⟨[],[]⟩ [(2,.sl (([]).map zag)),(3,.ptr 0 0 0)] [.cells (zbf v215) 0 37] (W.ret (show _/\_ from ⟨rfl,rfl,rfl⟩))
      ·refine W.skip ?_
       replace ⟨h217,hm⟩:=zao hm
       replace ⟨h218,hm⟩:=zao hm
       replace ⟨h219,hm⟩:=zao hm
       replace ⟨h220,hm⟩:=zao hm
       replace ⟨s221,h222,hm⟩:=zaK hm
       refine W.sqJ [23,24] [23,24] [0,1,2,3,4,5,6,7,8,9,10,11,12,13,14,15,16,17,18,19,20,21,22] 5 [] [(0,.str p0),(3,.ptr 0 0 0),(4,.sl (v1.map zaD)),(5,zM 3 w114 4 l113),(6,zi i112),(7,.ptr 4 0 0),(8,zi v212.1),(10,.ptr 5 0 0)] [.cells [zi 0,zi 0,zi 0] 0 37,.dead,.dead,.rows (l113.map zag) 4 w114 41,.cells (zaD (rd v1 i112)) 0 101,.cells [zi v212.2,zi ((rd v1 i112).Line),zi ((rd v1 i112).Col),.str s221] 0 41] zaw ?_
       clear h222
       refine W.seq ?_
       replace ⟨v223,h224,hm⟩:=zaf hm
       have kh224:=znk h224
       try simp only [hb171,hb173,hb178,hb179,hb214] at kh224
       refine W.sa 6 [0,3,4,5,7,8,10,11] ?_
       refine W.sa 6 [0,3,4,5,7,8,10,11,63] ?_
       refine W.cn hm ?_ ?_ <;> clear hm <;> intro hb225 hm
       ·replace ⟨v226,h227,hm⟩:=zaf hm
        have kh227:=zgy h227
        try simp only [hb171,hb173,hb178,hb179,hb214,hb225] at kh227
        refine W.sa 1 [2,3] ?_
        cases hm
        obtain rfl:=hx _ rfl
        exact W.wk ⟨[],[]⟩ [(2,.sl (([]).map zag)),(3,.ptr 0 0 0)] [.cells (zbf v226) 0 37] (W.ret (show _/\_ from ⟨rfl,rfl,rfl⟩))
       ·refine W.skip ?_
        replace ⟨h228,hm⟩:=zao hm
        replace ⟨l229,h230,hm⟩:=zaK hm
        refine W.sq [] [(0,.str p0),(3,.ptr 0 0 0),(4,.sl (v1.map zaD)),(5,.msl 3 (w114+1) 0 4 l229.length l229.length),(8,zi v212.1)] [.cells [zi 0,zi 0,zi 0] 0 37,.dead,.dead,.rows (l229.map zag) 4 (w114+1) 41] ?_
        clear h230
        refine W.rg [] [(0,.str p0),(3,.ptr 0 0 0),(4,.sl (v1.map zaD)),(5,.msl 3 (w114+1) 0 4 l229.length l229.length),(6,zi v212.1)] [.cells [zi 0,zi 0,zi 0] 0 37,.dead,.dead,.rows (l229.map zag) 4 (w114+1) 41] ?_
        cases hm
        exact ⟨(v212.1,l229),(w114+1),⟨[],[]⟩,rfl,RO⟩
  ·cases hm
   obtain rfl:=hx _ rfl
   exact W.wk ⟨[],[]⟩ [(0,.str p0),(3,.ptr 0 0 0),(5,zM 3 w114 4 l113)] [.cells [zi 0,zi 0,zi 0] 0 37,.dead,.dead,.rows (l113.map zag) 4 w114 41] (W.exit (show _/\_ from ⟨rfl,w114,rfl,rfl⟩))
 ·intro e0 s0 h0 hq
  rcases r170 with er170 | qr170
  ·obtain ⟨rfl,w169,rfl,rfl⟩:=hq
   replace hm:=zcJ hm
   show WK _ _ _ _ _ [(0,.str p0),(3,.ptr 0 0 0),(5,zM 3 w169 4 er170)] [.cells [zi 0,zi 0,zi 0] 0 37,.dead,.dead,.rows (er170.map zag) 4 w169 41]
   replace ⟨v231,h232,hm⟩:=zaf hm
   have kh232:=znz h232
   refine W.sa 4 [3,5,12,13] ?_
   replace ⟨h233,hm⟩:=zao hm
   replace ⟨l234,h235,hm⟩:=zaK hm
   refine W.sq [] [(2,.msl 3 (w169+1) 0 4 l234.length l234.length),(3,.ptr 0 0 0)] [.cells [zi 0,zi 0,zi 0] 0 37,.dead,.dead,.rows (l234.map zag) 4 (w169+1) 41] ?_
   clear h235
   cases hm
   exact W.ret (zen.retW [3] RO)
  ·obtain ⟨rfl,rfl,rfl⟩:=hq
   replace hm:=zcI hm
   cases hm
   exact zen.retW [] RO
theorem zfV{p0:ByteArray}{r:(List zaa) × zak}(hm:zdx p0=some r):zaJ Tryz.prog 15 [.str p0] (.tuple [.sl (r.1.map zag),.agg [zi r.2.Code,zi r.2.Line,zi r.2.Col]]):=by
 rw [zdx] at hm
 refine zaJ.of Tryz.func15 rfl Tryz.ntmps15 (Nat.le_of_ble_eq_true rfl) ?_
 refine W.sa 1 [0,3] ?_
 replace ⟨v1,h2,hm⟩:=zaf hm
 have kh2:=ze1 h2
 refine W.sa 1 [0,3,4] ?_
 refine W.sa 1 [0,3,4,5] ?_
 refine W.seq (W.sa 1 [0,3,4,5,6] ?_)
 refine W.block ?_
 replace ⟨r288,hlr288,hm⟩:=zaf hm
 refine W.mono (Q:=fun e0 s0 h0=>match r288 with | .inl e=>e0=.exit 0/\∃w:Nat,s0=[(0,.str p0),(3,.ptr 0 0 0),(5,zM 2 w 4 e)]/\h0=[.cells [zi 0,zi 0,zi 0] 0 37,.dead,.rows (e.map zag) 4 w 41] | .inr q=>e0=.ret/\s0=[(2,.sl (q.1.map zag)),(3,.ptr 0 0 0)]/\h0=[.cells (zbf q.2) 0 37]) (W.loopM (step:=zbC v1 p0) (a0:=(0,[])) (fun (a:Int × (List zaa)) (v:Nat)=>([(0,.str p0),(3,.ptr 0 0 0),(4,.sl (v1.map zai)),(5,zM 2 v 4 a.2),(6,zi a.1)],[.cells [zi 0,zi 0,zi 0] 0 37,.dead,.rows (a.2.map zag) 4 v 41])) 0 hlr288 ⟨[],[]⟩ RO ?_) ?_
 ·rintro ⟨i191,l192⟩ w193 x hm hx
  rw [zbC] at hm
  show WK _ _ _ _ _ [(0,.str p0),(3,.ptr 0 0 0),(4,.sl (v1.map zai)),(5,zM 2 w193 4 l192),(6,zi i191)] [.cells [zi 0,zi 0,zi 0] 0 37,.dead,.rows (l192.map zag) 4 w193 41]
  refine W.seq (W.sa 3 [0,3,4,5,6,20] ?_)
  refine W.cn hm ?_ ?_ <;> clear hm <;> intro hb289 hm
  ·refine W.skip (W.block ?_)
   replace ⟨h290,hm⟩:=zao hm
   refine W.sa 4 [0,3,4,5,6,7] ?_
   refine W.sa 4 [0,3,4,5,6,7,8] ?_
   refine W.sa 4 [0,3,4,5,6,7,8,9] ?_
   refine W.cut (fun s h=>∃(v:Int × Int) (w:Unit) (F:Gs),zaX v1 p0 i191 l192 v.1 v.2=some x/\AT 0 F [(0,.str p0),(3,.ptr 0 0 0),(4,.sl (v1.map zai)),(5,zM 2 w193 4 l192),(6,zi i191),(7,.ptr 3 0 0),(8,zi v.1),(9,zi v.2)] [.cells [zi 0,zi 0,zi 0] 0 37,.dead,.rows (l192.map zag) 4 w193 41,.cells (zai (rd v1 i191)) 0 73] s h) ?_ ?_
   ·refine W.block (W.sa 4 [0,3,4,5,6,7,8,9,32] ?_)
    refine W.cn hm ?_ ?_ <;> clear hm <;> intro hb310 hm
    ·refine W.saJ [6] [] [] 0 1 [2,3] zaw ?_
     cases hm
     obtain rfl:=hx _ rfl
     exact W.wk ⟨[],[]⟩ [(2,.sl (([]).map zag)),(3,.ptr 0 0 0)] [.cells [zi 1,zi ((rd v1 i191).Line),zi ((rd v1 i191).Col)] 0 37] (W.ret (show _/\_ from ⟨rfl,rfl,rfl⟩))
    ·replace ⟨v311,h312,hm⟩:=zaf hm
     have kh312:=ziC h312
     try simp only [hb289,hb310] at kh312
     refine W.sa 4 [0,3,4,5,6,7,8,9,40] ?_
     refine W.cn hm ?_ ?_ <;> clear hm <;> intro hb313 hm
     ·refine W.skip ?_
      exact ⟨((zw (i191+1)),0),(),⟨[],[]⟩,hm,RO⟩
     ·refine W.sa 4 [0,3,4,5,6,7,8,9,44] ?_
      refine W.cn hm ?_ ?_ <;> clear hm <;> intro hb314 hm
      ·refine W.block ?_
       replace ⟨r338,hlr338,hm⟩:=zaf hm
       refine W.mono (Q:=fun e0 s0 h0=>match r338 with | .inl e=>e0=.exit 3/\∃w:Unit,s0=[(0,.str p0),(3,.ptr 0 0 0),(4,.sl (v1.map zai)),(5,zM 2 w193 4 l192),(6,zi i191),(7,.ptr 3 0 0),(8,zi e),(9,zi 0)]/\h0=[.cells [zi 0,zi 0,zi 0] 0 37,.dead,.rows (l192.map zag) 4 w193 41,.cells (zai (rd v1 i191)) 0 73] | .inr q=>e0=.ret/\s0=[(2,.sl (q.1.map zag)),(3,.ptr 0 0 0)]/\h0=[.cells (zbf q.2) 0 37]) (W.loopM (step:=zcH v1) (a0:=(zw (i191+1))) (fun (a:Int) (v:Unit)=>([(0,.str p0),(3,.ptr 0 0 0),(4,.sl (v1.map zai)),(5,zM 2 w193 4 l192),(6,zi i191),(7,.ptr 3 0 0),(8,zi a),(9,zi 0)],[.cells [zi 0,zi 0,zi 0] 0 37,.dead,.rows (l192.map zag) 4 w193 41,.cells (zai (rd v1 i191)) 0 73])) () hlr338 ⟨[],[]⟩ RO ?_) ?_
       ·rintro i330 _ x hm hx
        rw [zcH] at hm
        show WK _ _ _ _ _ [(0,.str p0),(3,.ptr 0 0 0),(4,.sl (v1.map zai)),(5,zM 2 w193 4 l192),(6,zi i191),(7,.ptr 3 0 0),(8,zi i330),(9,zi 0)] [.cells [zi 0,zi 0,zi 0] 0 37,.dead,.rows (l192.map zag) 4 w193 41,.cells (zai (rd v1 i191)) 0 73]
        refine W.seq ?_
        replace ⟨h339,hm⟩:=zao hm
        refine W.sqh [] [(0,.str p0),(3,.ptr 0 0 0),(4,.sl (v1.map zai)),(5,zM 2 w193 4 l192),(6,zi i191),(7,.ptr 3 0 0),(8,zi i330),(9,zi 0),(59,.bool (decide (i330<(v1.length:Int))&&((rd v1 i330).Rune != 10)))] ?_
        refine W.cn hm ?_ ?_ <;> clear hm <;> intro hb340 hm
        ·refine W.skip (W.block (W.seq ?_))
         replace ⟨h341,hm⟩:=zao hm
         refine W.sa 4 [0,3,4,5,6,7,8,9,64] ?_
         refine W.cn hm ?_ ?_ <;> clear hm <;> intro hb342 hm
         ·replace ⟨h343,hm⟩:=zao hm
          replace ⟨h344,hm⟩:=zao hm
          refine W.saJ [12] [] [] 0 1 [2,3] zaw ?_
          cases hm
          obtain rfl:=hx _ rfl
          exact W.wk ⟨[],[]⟩ [(2,.sl (([]).map zag)),(3,.ptr 0 0 0)] [.cells [zi 1,zi ((rd v1 i330).Line),zi ((rd v1 i330).Col)] 0 37] (W.ret (show _/\_ from ⟨rfl,rfl,rfl⟩))
         ·refine W.skip (W.rg [] [(0,.str p0),(3,.ptr 0 0 0),(4,.sl (v1.map zai)),(5,zM 2 w193 4 l192),(6,zi i191),(7,.ptr 3 0 0),(8,zi (zw (i330+1))),(9,zi 0)] [.cells [zi 0,zi 0,zi 0] 0 37,.dead,.rows (l192.map zag) 4 w193 41,.cells (zai (rd v1 i191)) 0 73] ?_)
          cases hm
          exact ⟨(zw (i330+1)),(),⟨[],[]⟩,rfl,RO⟩
        ·cases hm
         obtain rfl:=hx _ rfl
         exact W.wk ⟨[],[]⟩ [(0,.str p0),(3,.ptr 0 0 0),(4,.sl (v1.map zai)),(5,zM 2 w193 4 l192),(6,zi i191),(7,.ptr 3 0 0),(8,zi i330),(9,zi 0)] [.cells [zi 0,zi 0,zi 0] 0 37,.dead,.rows (l192.map zag) 4 w193 41,.cells (zai (rd v1 i191)) 0 73] (W.exit (show _/\_ from ⟨rfl,(),rfl,rfl⟩))
       ·intro e0 s0 h0 hq
        rcases r338 with er338 | qr338
        ·obtain ⟨rfl,_,rfl,rfl⟩:=hq
         replace hm:=zcJ hm
         exact ⟨(er338,0),(),⟨[],[]⟩,hm,RO⟩
        ·obtain ⟨rfl,rfl,rfl⟩:=hq
         replace hm:=zcI hm
         cases hm
         obtain rfl:=hx _ rfl
         first | exact (show _/\_ from ⟨rfl,rfl,rfl⟩) | exact ⟨trivial,rfl,rfl⟩
      ·refine W.sa 4 [0,3,4,5,6,7,8,78] ?_
       refine W.cn hm ?_ ?_ <;> clear hm <;> intro hb345 hm
       ·refine W.rg [] [(0,.str p0),(3,.ptr 0 0 0),(4,.sl (v1.map zai)),(5,zM 2 w193 4 l192),(6,zi i191),(7,.ptr 3 0 0),(8,zi (zw (i191+1))),(9,zi 4)] [.cells [zi 0,zi 0,zi 0] 0 37,.dead,.rows (l192.map zag) 4 w193 41,.cells (zai (rd v1 i191)) 0 73] ?_
        exact ⟨((zw (i191+1)),4),(),⟨[],[]⟩,hm,RO⟩
       ·replace ⟨b346,h347,hm⟩:=zaK hm
        refine W.sq [] [(0,.str p0),(3,.ptr 0 0 0),(4,.sl (v1.map zai)),(5,zM 2 w193 4 l192),(6,zi i191),(7,.ptr 3 0 0),(8,zi (zw (i191+1))),(82,.bool b346)] [.cells [zi 0,zi 0,zi 0] 0 37,.dead,.rows (l192.map zag) 4 w193 41,.cells (zai (rd v1 i191)) 0 73] ?_
        clear h347
        refine W.cn hm ?_ ?_ <;> clear hm <;> intro hb348 hm
        ·refine W.rg [] [(0,.str p0),(3,.ptr 0 0 0),(4,.sl (v1.map zai)),(5,zM 2 w193 4 l192),(6,zi i191),(7,.ptr 3 0 0),(8,zi (zw (i191+1))),(9,zi 3)] [.cells [zi 0,zi 0,zi 0] 0 37,.dead,.rows (l192.map zag) 4 w193 41,.cells (zai (rd v1 i191)) 0 73] ?_
         exact ⟨((zw (i191+1)),3),(),⟨[],[]⟩,hm,RO⟩
        ·replace ⟨v349,h350,hm⟩:=zaf hm
         replace ⟨v351,h352,hm⟩:=zaf hm
         have kh350:=zd3 h350
         try simp only [hb289,hb310,hb313,hb314,hb345,hb348] at kh350
         have kh352:=fun hg=>ze3 (zbb hg h352)
         try simp only [hb289,hb310,hb313,hb314,hb345,hb348] at kh352
         refine W.sq [] [(0,.str p0),(3,.ptr 0 0 0),(4,.sl (v1.map zai)),(5,zM 2 w193 4 l192),(6,zi i191),(7,.ptr 3 0 0),(8,zi (zw (i191+1))),(101,.bool ((v349||v351)||((rd v1 i191).Rune==45)))] [.cells [zi 0,zi 0,zi 0] 0 37,.dead,.rows (l192.map zag) 4 w193 41,.cells (zai (rd v1 i191)) 0 73] ?_
         refine W.cn hm ?_ ?_ <;> clear hm <;> intro hb353 hm
         ·refine W.seq (W.block ?_)
          replace ⟨r383,hlr383,hm⟩:=zaf hm
          refine W.mono (Q:=fun e0 s0 h0=>e0=.exit 5/\∃w:Unit,s0=[(0,.str p0),(3,.ptr 0 0 0),(4,.sl (v1.map zai)),(5,zM 2 w193 4 l192),(6,zi i191),(7,.ptr 3 0 0),(8,zi r383)]/\h0=[.cells [zi 0,zi 0,zi 0] 0 37,.dead,.rows (l192.map zag) 4 w193 41,.cells (zai (rd v1 i191)) 0 73]) (W.loopM (step:=zcG v1) (a0:=(zw (i191+1))) (fun (a:Int) (v:Unit)=>([(0,.str p0),(3,.ptr 0 0 0),(4,.sl (v1.map zai)),(5,zM 2 w193 4 l192),(6,zi i191),(7,.ptr 3 0 0),(8,zi a)],[.cells [zi 0,zi 0,zi 0] 0 37,.dead,.rows (l192.map zag) 4 w193 41,.cells (zai (rd v1 i191)) 0 73])) () hlr383 ⟨[],[]⟩ RO ?_) ?_
          ·rintro i373 _ x hm hx
           rw [zcG] at hm
           show WK _ _ _ _ _ [(0,.str p0),(3,.ptr 0 0 0),(4,.sl (v1.map zai)),(5,zM 2 w193 4 l192),(6,zi i191),(7,.ptr 3 0 0),(8,zi i373)] [.cells [zi 0,zi 0,zi 0] 0 37,.dead,.rows (l192.map zag) 4 w193 41,.cells (zai (rd v1 i191)) 0 73]
           refine W.seq ?_
           replace ⟨h384,hm⟩:=zao hm
           replace ⟨h385,hm⟩:=zao hm
           replace ⟨v386,h387,hm⟩:=zaf hm
           replace ⟨h388,hm⟩:=zao hm
           replace ⟨v389,h390,hm⟩:=zaf hm
           have kh387:=fun hg=>zd3 (zbb hg h387)
           try simp only [hb289,hb310,hb313,hb314,hb345,hb348,hb353] at kh387
           have kh390:=fun hg=>ze3 (zbb hg h390)
           try simp only [hb289,hb310,hb313,hb314,hb345,hb348,hb353] at kh390
           refine W.sqh [] [(0,.str p0),(3,.ptr 0 0 0),(4,.sl (v1.map zai)),(5,zM 2 w193 4 l192),(6,zi i191),(7,.ptr 3 0 0),(8,zi i373),(142,.bool ((decide (i373<(v1.length:Int))&&(!(rd v1 i373).Bad))&&(v386||v389)))] ?_
           refine W.cn hm ?_ ?_ <;> clear hm <;> intro hb391 hm
           ·refine W.skip (W.block (W.rg [] [(0,.str p0),(3,.ptr 0 0 0),(4,.sl (v1.map zai)),(5,zM 2 w193 4 l192),(6,zi i191),(7,.ptr 3 0 0),(8,zi (zw (i373+1)))] [.cells [zi 0,zi 0,zi 0] 0 37,.dead,.rows (l192.map zag) 4 w193 41,.cells (zai (rd v1 i191)) 0 73] ?_))
            cases hm
            exact ⟨(zw (i373+1)),(),⟨[],[]⟩,rfl,RO⟩
           ·cases hm
            obtain rfl:=hx _ rfl
            exact W.wk ⟨[],[]⟩ [(0,.str p0),(3,.ptr 0 0 0),(4,.sl (v1.map zai)),(5,zM 2 w193 4 l192),(6,zi i191),(7,.ptr 3 0 0),(8,zi i373)] [.cells [zi 0,zi 0,zi 0] 0 37,.dead,.rows (l192.map zag) 4 w193 41,.cells (zai (rd v1 i191)) 0 73] (W.exit (show _/\_ from ⟨rfl,(),rfl,rfl⟩))
          ·rintro e0 s0 h0 ⟨rfl,_,rfl,rfl⟩
           show WK _ _ _ _ _ [(0,.str p0),(3,.ptr 0 0 0),(4,.sl (v1.map zai)),(5,zM 2 w193 4 l192),(6,zi i191),(7,.ptr 3 0 0),(8,zi r383)] [.cells [zi 0,zi 0,zi 0] 0 37,.dead,.rows (l192.map zag) 4 w193 41,.cells (zai (rd v1 i191)) 0 73]
           refine W.sa 4 [0,3,4,5,6,7,8,9] ?_
           replace ⟨v392,h393,hm⟩:=zaf hm
           have kh393:=zd3 h393
           try simp only [hb289,hb310,hb313,hb314,hb345,hb348,hb353] at kh393
           refine W.sa 4 [0,3,4,5,6,7,8,9,147] ?_
           refine W.cn hm ?_ ?_ <;> clear hm <;> intro hb394 hm
           ·refine W.rg [] [(0,.str p0),(3,.ptr 0 0 0),(4,.sl (v1.map zai)),(5,zM 2 w193 4 l192),(6,zi i191),(7,.ptr 3 0 0),(8,zi r383),(9,zi 1)] [.cells [zi 0,zi 0,zi 0] 0 37,.dead,.rows (l192.map zag) 4 w193 41,.cells (zai (rd v1 i191)) 0 73] ?_
            exact ⟨(r383,1),(),⟨[],[]⟩,hm,RO⟩
           ·refine W.skip ?_
            exact ⟨(r383,2),(),⟨[],[]⟩,hm,RO⟩
         ·refine W.saJ [6] [] [] 0 1 [2,3] zaw ?_
          cases hm
          obtain rfl:=hx _ rfl
          exact W.wk ⟨[],[]⟩ [(2,.sl (([]).map zag)),(3,.ptr 0 0 0)] [.cells [zi 1,zi ((rd v1 i191).Line),zi ((rd v1 i191).Col)] 0 37] (W.ret (show _/\_ from ⟨rfl,rfl,rfl⟩))
   ·rintro s h ⟨⟨i291,i292⟩,_,F,hm,hat⟩
    refine W.weak F hat ?_
    show WK _ _ _ _ _ [(0,.str p0),(3,.ptr 0 0 0),(4,.sl (v1.map zai)),(5,zM 2 w193 4 l192),(6,zi i191),(7,.ptr 3 0 0),(8,zi i291),(9,zi i292)] [.cells [zi 0,zi 0,zi 0] 0 37,.dead,.rows (l192.map zag) 4 w193 41,.cells (zai (rd v1 i191)) 0 73]
    rw [zaX] at hm
    replace ⟨h293,hm⟩:=zao hm
    replace ⟨h294,hm⟩:=zao hm
    replace ⟨h295,hm⟩:=zao hm
    replace ⟨h296,hm⟩:=zao hm
    replace ⟨s297,h298,hm⟩:=zaK hm
    refine W.sqJ [] [] [] 0 [] [(0,.str p0),(3,.ptr 0 0 0),(4,.sl (v1.map zai)),(5,zM 2 w193 4 l192),(6,zi i191),(7,.ptr 3 0 0),(8,zi i291),(9,zi i292),(10,.str s297)] [.cells [zi 0,zi 0,zi 0] 0 37,.dead,.rows (l192.map zag) 4 w193 41,.cells (zai (rd v1 i191)) 0 73] zaw ?_
    clear h298
    refine W.seq (W.sq [] [(0,.str p0),(3,.ptr 0 0 0),(4,.sl (v1.map zai)),(5,zM 2 w193 4 l192),(7,.ptr 3 0 0),(8,zi i291),(9,zi i292),(10,.str s297),(172,.bool ((i292==1)&&decide ((zw (i291-i191))>16)))] [.cells [zi 0,zi 0,zi 0] 0 37,.dead,.rows (l192.map zag) 4 w193 41,.cells (zai (rd v1 i191)) 0 73] ?_)
    refine W.cn hm ?_ ?_ <;> clear hm <;> intro hb299 hm
    ·refine W.saJ [6] [] [] 0 1 [2,3] zaw ?_
     cases hm
     obtain rfl:=hx _ rfl
     exact W.wk ⟨[],[]⟩ [(2,.sl (([]).map zag)),(3,.ptr 0 0 0)] [.cells [zi 3,zi ((rd v1 i191).Line),zi ((rd v1 i191).Col)] 0 37] (W.ret (show _/\_ from ⟨rfl,rfl,rfl⟩))
    ·refine W.skip ?_
     refine W.cut (fun s h=>∃(v:Unit) (w:Unit) (F:Gs),zb7 i292 l192 v1 i191 s297 i291=some x/\AT 0 F [(0,.str p0),(3,.ptr 0 0 0),(4,.sl (v1.map zai)),(5,zM 2 w193 4 l192),(7,.ptr 3 0 0),(8,zi i291),(9,zi i292),(10,.str s297)] [.cells [zi 0,zi 0,zi 0] 0 37,.dead,.rows (l192.map zag) 4 w193 41,.cells (zai (rd v1 i191)) 0 73] s h) ?_ ?_
     ·refine W.sa 4 [0,3,4,5,7,8,9,10,179] ?_
      refine W.cn hm ?_ ?_ <;> clear hm <;> intro hb306 hm
      ·replace ⟨v307,h308,hm⟩:=zaf hm
       have kh308:=zdU h308
       try simp only [hb289,hb299,hb306] at kh308
       refine W.sa 4 [0,3,4,5,7,8,9,10,12] ?_
       refine W.sa 4 [0,3,4,5,7,8,9,10,186] ?_
       refine W.cn hm ?_ ?_ <;> clear hm <;> intro hb309 hm
       ·refine W.saJ [6] [] [] 0 1 [2,3] zaw ?_
        cases hm
        obtain rfl:=hx _ rfl
        exact W.wk ⟨[],[]⟩ [(2,.sl (([]).map zag)),(3,.ptr 0 0 0)] [.cells [zi 2,zi ((rd v1 i191).Line),zi ((rd v1 i191).Col)] 0 37] (W.ret (show _/\_ from ⟨rfl,rfl,rfl⟩))
       ·refine W.skip ?_
        exact ⟨(),(),⟨[],[]⟩,hm,RO⟩
      ·refine W.skip ?_
       exact ⟨(),(),⟨[],[]⟩,hm,RO⟩
     ·rintro s h ⟨_,_,F,hm,hat⟩
      refine W.weak F hat ?_
      show WK _ _ _ _ _ [(0,.str p0),(3,.ptr 0 0 0),(4,.sl (v1.map zai)),(5,zM 2 w193 4 l192),(7,.ptr 3 0 0),(8,zi i291),(9,zi i292),(10,.str s297)] [.cells [zi 0,zi 0,zi 0] 0 37,.dead,.rows (l192.map zag) 4 w193 41,.cells (zai (rd v1 i191)) 0 73]
      rw [zb7] at hm
      refine W.cut (fun s h=>∃(v:(List zaa)) (w:Nat) (F:Gs),zd2 i291 v=some x/\AT 0 F [(0,.str p0),(3,.ptr 0 0 0),(4,.sl (v1.map zai)),(5,zM 2 w 4 v),(8,zi i291)] [.cells [zi 0,zi 0,zi 0] 0 37,.dead,.rows (v.map zag) 4 w 41] s h) ?_ ?_
      ·refine W.sa 4 [0,3,4,5,7,8,9,10,193] ?_
       refine W.cn hm ?_ ?_ <;> clear hm <;> intro hb302 hm
       ·replace ⟨h303,hm⟩:=zao hm
        replace ⟨l304,h305,hm⟩:=zaK hm
        refine W.rg [] [(0,.str p0),(3,.ptr 0 0 0),(4,.sl (v1.map zai)),(5,.msl 2 (w193+1) 0 4 l304.length l304.length),(8,zi i291)] [.cells [zi 0,zi 0,zi 0] 0 37,.dead,.rows (l304.map zag) 4 (w193+1) 41] ?_
        clear h305
        exact ⟨l304,(w193+1),⟨[],[]⟩,hm,RO⟩
       ·refine W.skip ?_
        exact ⟨l192,w193,⟨[],[]⟩,hm,RO⟩
      ·rintro s h ⟨l300,w301,F,hm,hat⟩
       refine W.weak F hat ?_
       show WK _ _ _ _ _ [(0,.str p0),(3,.ptr 0 0 0),(4,.sl (v1.map zai)),(5,zM 2 w301 4 l300),(8,zi i291)] [.cells [zi 0,zi 0,zi 0] 0 37,.dead,.rows (l300.map zag) 4 w301 41]
       rw [zd2] at hm
       refine W.rg [] [(0,.str p0),(3,.ptr 0 0 0),(4,.sl (v1.map zai)),(5,zM 2 w301 4 l300),(6,zi i291)] [.cells [zi 0,zi 0,zi 0] 0 37,.dead,.rows (l300.map zag) 4 w301 41] ?_
       cases hm
       exact ⟨(i291,l300),w301,⟨[],[]⟩,rfl,RO⟩
  ·cases hm
   obtain rfl:=hx _ rfl
   exact W.wk ⟨[],[]⟩ [(0,.str p0),(3,.ptr 0 0 0),(5,zM 2 w193 4 l192)] [.cells [zi 0,zi 0,zi 0] 0 37,.dead,.rows (l192.map zag) 4 w193 41] (W.exit (show _/\_ from ⟨rfl,w193,rfl,rfl⟩))
 ·intro e0 s0 h0 hq
  rcases r288 with er288 | qr288
  ·obtain ⟨rfl,w287,rfl,rfl⟩:=hq
   replace hm:=zcJ hm
   show WK _ _ _ _ _ [(0,.str p0),(3,.ptr 0 0 0),(5,zM 2 w287 4 er288)] [.cells [zi 0,zi 0,zi 0] 0 37,.dead,.rows (er288.map zag) 4 w287 41]
   replace ⟨v395,h396,hm⟩:=zaf hm
   have kh396:=zjq h396
   refine W.sa 3 [3,5,13,14] ?_
   replace ⟨h397,hm⟩:=zao hm
   replace ⟨l398,h399,hm⟩:=zaK hm
   refine W.sq [] [(2,.msl 2 (w287+1) 0 4 l398.length l398.length),(3,.ptr 0 0 0)] [.cells [zi 0,zi 0,zi 0] 0 37,.dead,.rows (l398.map zag) 4 (w287+1) 41] ?_
   clear h399
   cases hm
   exact W.ret (zen.retW [2] RO)
  ·obtain ⟨rfl,rfl,rfl⟩:=hq
   replace hm:=zcI hm
   cases hm
   exact zen.retW [] RO
end Go.Proofs.YtocjejladeeckaaGreatDoor
