import Derived.Test.YtocjejladeeckaaGreatDoorVFacts
import Derived.Test.YtocjejladeeckaaGreatDoorVu3
import Derived.Test.YtocjejladeeckaaGreatDoorPalM
import Derived.Test.YtocjejladeeckaaGreatDoorWC
import Derived.Test.YtocjejladeeckaaGreatDoorWK
import Derived.Test.YtocjejladeeckaaGreatDoorWL
set_option linter.all false
set_option maxRecDepth 100000
set_option maxHeartbeats 4000000
namespace Go.Proofs.YtocjejladeeckaaGreatDoor
open Go.Vs
variable [TabX]
theorem zjV{p0:ByteArray}{r:Int × Int × Bool}(hm:zeH p0=some r):zaJ Tryz.prog 95 [.str p0] (.tuple [zi r.1,zi r.2.1,.bool r.2.2]):=by
 rw [zeH] at hm
 refine zaJ.of Tryz.func95 rfl Tryz.ntmps95 (Nat.le_of_ble_eq_true rfl) ?_
 refine W.sa 0 [0] ?_
 refine W.seq (W.sa 0 [0,8] ?_)
 refine W.cn hm ?_ ?_ <;> clear hm <;> intro hb1 hm
 ·refine W.sa 0 [2,3,4] ?_
  cases hm
  exact W.rt
 ·refine W.skip (W.seq ?_)
  replace ⟨v2,h3,hm⟩:=zaf hm
  replace ⟨v4,h5,hm⟩:=zaf hm
  have kh3:=zfA h3
  try simp only [hb1] at kh3
  have kh5:=zbk h5
  try simp only [hb1] at kh5
  refine W.sa 0 [0,5] ?_
  refine W.sa 0 [0,5,13] ?_
  refine W.cn hm ?_ ?_ <;> clear hm <;> intro hb6 hm
  ·refine W.sa 0 [2,3,4] ?_
   cases hm
   exact W.rt
  ·refine W.skip (W.seq ?_)
   replace ⟨v7,h8,hm⟩:=zaf hm
   replace ⟨v9,h10,hm⟩:=zaf hm
   have kh8:=ze0 h8
   try simp only [hb1,hb6] at kh8
   have kh10:=zbk h10
   try simp only [hb1,hb6] at kh10
   refine W.sa 0 [6] ?_
   refine W.sa 0 [6,19] ?_
   refine W.cn hm ?_ ?_ <;> clear hm <;> intro hb11 hm
   ·refine W.sa 0 [2,3,4] ?_
    cases hm
    exact W.rt
   ·refine W.skip (W.sa 0 [2,3,4] ?_)
    cases hm
    exact W.rt
theorem zgX{p0:ByteArray}{r:Int × Bool}(hm:zeu p0=some r):zaJ Tryz.prog 115 [.str p0] (.tuple [zi r.1,.bool r.2]):=by
 rw [zeu] at hm
 refine zaJ.of Tryz.func115 rfl Tryz.ntmps115 (Nat.le_of_ble_eq_true rfl) ?_
 refine W.sa 0 [0] ?_
 replace ⟨v1,h2,hm⟩:=zaf hm
 replace ⟨v3,h4,hm⟩:=zaf hm
 have kh2:=zfn h2
 have kh4:=zbk h4
 refine W.sa 0 [4] ?_
 refine W.seq (W.sa 0 [4,9] ?_)
 refine W.cn hm ?_ ?_ <;> clear hm <;> intro hb5 hm
 ·refine W.sa 0 [2,3] ?_
  cases hm
  exact W.rt
 ·refine W.skip (W.sa 0 [2,3] ?_)
  cases hm
  exact W.rt
theorem zfb{p0:zaj}{w0_:Nat}{w1_:Nat}{r:(List ByteArray)}(hm:zda p0=some r):HF Tryz.prog 21 [.agg [zM 0 w0_ 3 p0.zSy,zM 1 w1_ 1 p0.zTh]] [.rows (p0.zSy.map zan) 3 w0_ 54,.rows (p0.zTh.map zah) 1 w1_ 59] (.sl (r.map eStr)) [.rows (p0.zSy.map zan) 3 w0_ 54,.rows (p0.zTh.map zah) 1 w1_ 59]:=by
 rw [zda] at hm
 refine HF.of Tryz.func21 rfl Tryz.ntmps21 (Nat.le_of_ble_eq_true rfl) rfl ?_
 refine W.sa 3 [1] ?_
 refine W.sa 3 [1,3] ?_
 refine W.seq (W.sa 3 [1,3,4] ?_)
 refine W.block ?_
 replace ⟨r24,hlr24,hm⟩:=zaf hm
 refine W.mono (Q:=fun e0 s0 h0=>e0=.exit 0/\∃w:Nat,s0=[(3,zM 3 w 1 r24)]/\h0=[.rows (p0.zSy.map zan) 3 w0_ 54,.rows (p0.zTh.map zah) 1 w1_ 59,.dead,.rows (r24.map eStr) 1 w 9]) (W.loopM (step:=zd8 p0) (a0:=(0,[])) (fun (a:Int × (List ByteArray)) (v:Nat)=>([(1,.ptr 2 0 0),(3,zM 3 v 1 a.2),(4,zi a.1)],[.rows (p0.zSy.map zan) 3 w0_ 54,.rows (p0.zTh.map zah) 1 w1_ 59,.cells [zM 0 w0_ 3 p0.zSy,zM 1 w1_ 1 p0.zTh] 0 30,.rows (a.2.map eStr) 1 v 9])) 0 hlr24 ⟨[],[]⟩ RO ?_) ?_
 ·rintro ⟨i14,l15⟩ w16 x hm hx
  rw [zd8] at hm
  show WK _ _ _ _ _ [(1,.ptr 2 0 0),(3,zM 3 w16 1 l15),(4,zi i14)] [.rows (p0.zSy.map zan) 3 w0_ 54,.rows (p0.zTh.map zah) 1 w1_ 59,.cells [zM 0 w0_ 3 p0.zSy,zM 1 w1_ 1 p0.zTh] 0 30,.rows (l15.map eStr) 1 w16 9]
  refine W.seq (W.sa 4 [1,3,4,9] ?_)
  refine W.cn hm ?_ ?_ <;> clear hm <;> intro hb25 hm
  ·refine W.skip (W.seq (W.block ?_))
   replace ⟨h26,hm⟩:=zao hm
   replace ⟨h27,hm⟩:=zao hm
   replace ⟨l28,h29,hm⟩:=zaK hm
   refine W.rg [] [(1,.ptr 2 0 0),(3,.msl 3 (w16+1) 0 1 l28.length l28.length),(4,zi i14)] [.rows (p0.zSy.map zan) 3 w0_ 54,.rows (p0.zTh.map zah) 1 w1_ 59,.cells [zM 0 w0_ 3 p0.zSy,zM 1 w1_ 1 p0.zTh] 0 30,.rows (l28.map eStr) 1 (w16+1) 9] ?_
   clear h29
   refine W.rg [] [(1,.ptr 2 0 0),(3,.msl 3 (w16+1) 0 1 l28.length l28.length),(4,zi (zw (i14+1)))] [.rows (p0.zSy.map zan) 3 w0_ 54,.rows (p0.zTh.map zah) 1 w1_ 59,.cells [zM 0 w0_ 3 p0.zSy,zM 1 w1_ 1 p0.zTh] 0 30,.rows (l28.map eStr) 1 (w16+1) 9] ?_
   cases hm
   exact ⟨((zw (i14+1)),l28),(w16+1),⟨[],[]⟩,rfl,RO⟩
  ·cases hm
   obtain rfl:=hx _ rfl
   exact W.wk ⟨[],[]⟩ [(3,zM 3 w16 1 l15)] [.rows (p0.zSy.map zan) 3 w0_ 54,.rows (p0.zTh.map zah) 1 w1_ 59,.dead,.rows (l15.map eStr) 1 w16 9] (W.exit (show _/\_ from ⟨rfl,w16,rfl,rfl⟩))
 ·rintro e0 s0 h0 ⟨rfl,w23,rfl,rfl⟩
  show WK _ _ _ _ _ [(3,zM 3 w23 1 r24)] [.rows (p0.zSy.map zan) 3 w0_ 54,.rows (p0.zTh.map zah) 1 w1_ 59,.dead,.rows (r24.map eStr) 1 w23 9]
  refine W.sa 4 [2] ?_
  cases hm
  exact W.ret (zgM.retW ⟨[3],[]⟩ RO)
theorem zhK{p0:(List ByteArray)}{p1:ByteArray}{w0_:Nat}{r:Int}(hm:zdR p0 p1=some r):HF Tryz.prog 62 [zM 0 w0_ 1 p0,.str p1] [.rows (p0.map eStr) 1 w0_ 9] (zi r) [.rows (p0.map eStr) 1 w0_ 9]:=by
 rw [zdR] at hm
 refine HF.of Tryz.func62 rfl Tryz.ntmps62 (Nat.le_of_ble_eq_true rfl) rfl ?_
 refine W.sa 1 [0,1] ?_
 refine W.seq (W.sa 1 [0,1,5] ?_)
 refine W.block ?_
 replace ⟨r13,hlr13,hm⟩:=zaf hm
 refine W.mono (Q:=fun e0 s0 h0=>match r13 with | .inl e=>e0=.exit 0/\∃w:Unit,s0=[]/\h0=[.rows (p0.map eStr) 1 w0_ 9] | .inr q=>e0=.ret/\s0=[(4,zi q)]/\h0=[.rows (p0.map eStr) 1 w0_ 9]) (W.loopM (step:=zeD p0 p1) (a0:=0) (fun (a:Int) (v:Unit)=>([(0,zM 0 w0_ 1 p0),(1,.str p1),(5,zi a)],[.rows (p0.map eStr) 1 w0_ 9])) () hlr13 ⟨[],[]⟩ RO ?_) ?_
 ·rintro i9 _ x hm hx
  rw [zeD] at hm
  show WK _ _ _ _ _ [(0,zM 0 w0_ 1 p0),(1,.str p1),(5,zi i9)] [.rows (p0.map eStr) 1 w0_ 9]
  refine W.seq (W.sa 1 [0,1,5,9] ?_)
  refine W.cn hm ?_ ?_ <;> clear hm <;> intro hb14 hm
  ·refine W.skip (W.seq (W.block ?_))
   replace ⟨h15,hm⟩:=zao hm
   refine W.sa 1 [0,1,5,17] ?_
   refine W.cn hm ?_ ?_ <;> clear hm <;> intro hb16 hm
   ·refine W.sa 1 [4] ?_
    cases hm
    obtain rfl:=hx _ rfl
    exact W.wk ⟨[],[]⟩ [(4,zi i9)] [.rows (p0.map eStr) 1 w0_ 9] (W.ret (show _/\_ from ⟨rfl,rfl,rfl⟩))
   ·refine W.skip (W.rg [] [(0,zM 0 w0_ 1 p0),(1,.str p1),(5,zi (zw (i9+1)))] [.rows (p0.map eStr) 1 w0_ 9] ?_)
    cases hm
    exact ⟨(zw (i9+1)),(),⟨[],[]⟩,rfl,RO⟩
  ·cases hm
   obtain rfl:=hx _ rfl
   exact W.wk ⟨[],[]⟩ [] [.rows (p0.map eStr) 1 w0_ 9] (W.exit (show _/\_ from ⟨rfl,(),rfl,rfl⟩))
 ·intro e0 s0 h0 hq
  rcases r13 with er13 | qr13
  ·obtain ⟨rfl,_,rfl,rfl⟩:=hq
   replace hm:=zcJ hm
   show WK _ _ _ _ _ [] [.rows (p0.map eStr) 1 w0_ 9]
   refine W.sa 1 [4] ?_
   cases hm
   exact W.rt
  ·obtain ⟨rfl,rfl,rfl⟩:=hq
   replace hm:=zcI hm
   cases hm
   exact zgM.retW ⟨[],[]⟩ RO
theorem zaF{p0:zab}{p1:Int}{p2:zaa}{r:Bool × zab}(hm:zaG p0 p1 p2=some r):HF Tryz.prog 68 [.ptr 0 0 0,zi p1,zqT p2] [.cells (zat p0) 0 90] (.bool r.1) [.cells (zat r.2) 0 90]:=by
 rw [zaG] at hm
 refine HF.of Tryz.func68 rfl Tryz.ntmps68 (Nat.le_of_ble_eq_true rfl) rfl ?_
 refine W.sa 2 [0,1,5] ?_
 refine W.sa 1 [] ?_
 refine W.sa 1 [6] ?_
 cases hm
 exact W.rt
theorem zaS{p0:zab}{p1:Int}{p2:zaa}{w1_:Nat}{r:Bool × zab}(hm:zaN p0 p1 p2=some r):HF Tryz.prog 68 [.ptr 0 0 0,zi p1,zqT p2] [zqa p0 p0.I (zM 1 w1_ 1 p0.Wait),.rows (p0.Wait.map eStr) 1 w1_ 9] (.bool r.1) [zqa r.2 r.2.I (zM 1 w1_ 1 p0.Wait),.rows (p0.Wait.map eStr) 1 w1_ 9]:=by
 rw [zaN] at hm
 refine HF.of Tryz.func68 rfl Tryz.ntmps68 (Nat.le_of_ble_eq_true rfl) rfl ?_
 refine W.sa 3 [0,1,5] ?_
 refine W.sa 2 [] ?_
 refine W.sa 2 [6] ?_
 cases hm
 exact W.rt
theorem zeS{p0:zab}{r:Bool × zab}(hm:zca p0=some r):HF Tryz.prog 85 [.ptr 0 0 0] [.cells (zat p0) 0 90] (.bool r.1) [.cells (zat r.2) 0 90]:=by
 rw [zca] at hm
 refine HF.of Tryz.func85 rfl Tryz.ntmps85 (Nat.le_of_ble_eq_true rfl) rfl ?_
 refine W.sa 1 [0] ?_
 replace ⟨h1,hm⟩:=zao hm
 refine W.saJ [10,11] [10,11] [0,1,2,3,4,5,6,7,8,9] 1 2 [0,3] zaw ?_
 refine W.seq (W.sa 2 [0,3,16] ?_)
 refine W.cn hm ?_ ?_ <;> clear hm <;> intro hb2 hm
 ·replace ⟨v3,h4,hm⟩:=zaf hm
  refine W.sa 1 [2] ?_ (hrun:=RC (zaF h4) [0])
  cases hm
  exact W.rt
 ·refine W.skip (W.seq ?_)
  replace ⟨v5,h6,hm⟩:=zaf hm
  have kh6:=zfl h6
  try simp only [hb2] at kh6
  refine W.sa 2 [0,3,22] ?_
  refine W.cn hm ?_ ?_ <;> clear hm <;> intro hb7 hm
  ·replace ⟨v8,h9,hm⟩:=zaf hm
   refine W.sa 1 [2] ?_ (hrun:=RC (zaF h9) [0])
   cases hm
   exact W.rt
  ·refine W.skip (W.sa 1 [2] ?_)
   cases hm
   exact W.rt
theorem zeC{p0:zab}{w1_:Nat}{r:Bool × zab}(hm:zbM p0=some r):HF Tryz.prog 85 [.ptr 0 0 0] [zqa p0 p0.I (zM 1 w1_ 1 p0.Wait),.rows (p0.Wait.map eStr) 1 w1_ 9] (.bool r.1) [zqa r.2 r.2.I (zM 1 w1_ 1 p0.Wait),.rows (p0.Wait.map eStr) 1 w1_ 9]:=by
 rw [zbM] at hm
 refine HF.of Tryz.func85 rfl Tryz.ntmps85 (Nat.le_of_ble_eq_true rfl) rfl ?_
 refine W.sa 2 [0] ?_
 replace ⟨h1,hm⟩:=zao hm
 refine W.saJ [10,11] [10,11] [0,1,2,3,4,5,6,7,8,9] 2 3 [0,3] zaw ?_
 refine W.seq (W.sa 3 [0,3,16] ?_)
 refine W.cn hm ?_ ?_ <;> clear hm <;> intro hb2 hm
 ·replace ⟨v3,h4,hm⟩:=zaf hm
  refine W.sa 2 [2] ?_ (hrun:=RC (zaS (w1_:=w1_) h4) [0,1])
  cases hm
  exact W.rt
 ·refine W.skip (W.seq ?_)
  replace ⟨v5,h6,hm⟩:=zaf hm
  have kh6:=zfl h6
  try simp only [hb2] at kh6
  refine W.sa 3 [0,3,22] ?_
  refine W.cn hm ?_ ?_ <;> clear hm <;> intro hb7 hm
  ·replace ⟨v8,h9,hm⟩:=zaf hm
   refine W.sa 2 [2] ?_ (hrun:=RC (zaS (w1_:=w1_) h9) [0,1])
   cases hm
   exact W.rt
  ·refine W.skip (W.sa 2 [2] ?_)
   cases hm
   exact W.rt
theorem zef{p0:zab}{w1_:Nat}{r:zap × Bool × zab}(hm:zbo p0=some r):HF Tryz.prog 105 [.ptr 0 0 0] [zqa p0 p0.I (zM 1 w1_ 1 p0.Wait),.rows (p0.Wait.map eStr) 1 w1_ 9] (.tuple [.agg [zi r.1.Kind,zi r.1.Reg,zi r.1.Sym,zi r.1.N],.bool r.2.1]) [zqa r.2.2 r.2.2.I (zM 1 w1_ 1 p0.Wait),.rows (p0.Wait.map eStr) 1 w1_ 9]:=by
 rw [zbo] at hm
 refine HF.of Tryz.func105 rfl Tryz.ntmps105 (Nat.le_of_ble_eq_true rfl) rfl ?_
 refine W.sa 3 [0,2] ?_
 replace ⟨h1,hm⟩:=zao hm
 refine W.saJ [10,11] [10,11] [0,1,2,3,4,5,6,7,8,9] 3 4 [0,2,4] zaw ?_
 refine W.seq (W.sa 4 [0,2,4,24] ?_)
 refine W.cn hm ?_ ?_ <;> clear hm <;> intro hb2 hm
 ·replace ⟨v3,h4,hm⟩:=zaf hm
  have kh4:=zdU h4
  try simp only [hb2] at kh4
  refine W.sa 3 [0,2,5] ?_
  refine W.sa 3 [2,5] ?_
  refine W.sa 3 [2,3] ?_
  cases hm
  exact W.rt
 ·refine W.skip (W.seq ?_)
  replace ⟨v5,h6,hm⟩:=zaf hm
  have kh6:=zgX h6
  try simp only [hb2] at kh6
  refine W.sa 4 [0,2,4,7,8] ?_
  refine W.sq [] [(0,.ptr 0 0 0),(2,.ptr 2 0 0),(4,.ptr 3 0 0),(7,zi v5.1),(51,.bool (v5.2&&((rd p0.T p0.I).Kind==1)))] [zqa p0 p0.I (zM 1 w1_ 1 p0.Wait),.rows (p0.Wait.map eStr) 1 w1_ 9,.cells [zi 0,zi 0,zi 0,zi 0] 0 61,.cells (zag (rd p0.T p0.I)) 0 41] ?_
  refine W.cn hm ?_ ?_ <;> clear hm <;> intro hb7 hm
  ·refine W.sa 3 [2,7] ?_
   refine W.sa 3 [2,3] ?_
   cases hm
   exact W.rt
  ·refine W.skip (W.seq ?_)
   replace ⟨v8,h9,hm⟩:=zaf hm
   refine W.sa 4 [0,2,4,63] ?_ (hrun:=RC (zeC (w1_:=w1_) h9) [0,1])
   refine W.cn hm ?_ ?_ <;> clear hm <;> intro hb10 hm
   ·refine W.sa 3 [2,3] ?_
    cases hm
    exact W.rt
   ·refine W.skip ?_
    replace ⟨v11,h12,hm⟩:=zaf hm
    replace ⟨v13,h14,hm⟩:=zaf hm
    refine W.wa 6 [0,2,4,63] [.foc 0 0 2,.foc 0 0 3] ?_
    refine W.wa 7 [0,2,4,63] [.res] ?_
    refine W.sqLG [.light,.light,.light,.light,.callh,.light,.light,.call,.light,.here 6,.store] [([],[]),([],[]),([],[]),([0],[]),([4,5],[4,5]),([],[]),([3],[]),([],[]),([],[]),([6],[6]),([6],[6])] [] [.fol 0 0 2,.fol 0 0 3] [(0,.ptr 0 0 0),(2,.ptr 2 0 0),(4,.ptr 3 0 0),(9,.ptr 6 0 0)] [zqa v8.2 v8.2.I (zM 1 w1_ 1 p0.Wait),.rows (p0.Wait.map eStr) 1 w1_ 9,.cells [zi 0,zi 0,zi 0,zi 0] 0 61,.cells (zag (rd p0.T p0.I)) 0 41,.dead,.dead,.cells [zi 0,zi 0,zi v13,zi 0] 0 61] zaw ?_ (hrun:=?_)
    rotate_left
    ·try simp -implicitDefEqProofs -dsimp only [go_sem,h1,hb2,hb7,hb10]
     with_reducible refine exP.mk ⟨[],[4,5],[.agg [zM 0 1 3 v8.2.P.zSy,zM 1 1 1 v8.2.P.zTh]],[.rows (v8.2.P.zSy.map zan) 3 1 54,.rows (v8.2.P.zTh.map zah) 1 1 59],.sl (v11.map eStr),[.rows (v8.2.P.zSy.map zan) 3 1 54,.rows (v8.2.P.zTh.map zah) 1 1 59]⟩ (ziK.of (by simp -implicitDefEqProofs -dsimp only [go_sem,h1,hb2,hb7,hb10]) (zfb h12)) ?_
     try simp -implicitDefEqProofs -dsimp only [go_sem,h1,hb2,hb7,hb10]
     with_reducible refine exP.mk _ (by have hk:=zbk h14; (try simp only [hb2,hb7,hb10] at hk); (try simp only [List.map_cons,List.map_nil,eStr,eInt] at hk); exact hk) ?_
     try simp -implicitDefEqProofs -dsimp only [go_sem,h1,hb2,hb7,hb10]
    refine W.seq (W.sa 7 [0,2,4,9,76] ?_)
    refine W.cn hm ?_ ?_ <;> clear hm <;> intro hb15 hm
    ·replace ⟨v16,h17,hm⟩:=zaf hm
     refine W.sa 3 [2,3] ?_ (hrun:=RC (zaS (w1_:=w1_) h17) [0,1])
     cases hm
     exact W.rt
    ·refine W.skip (W.sa 7 [0,2,4,9] ?_)
     refine W.seq ?_
     replace ⟨h18,hm⟩:=zao hm
     replace ⟨h19,hm⟩:=zao hm
     replace ⟨b20,h21,hm⟩:=zaK hm
     refine W.sqJ [] [] [] 0 [] [(0,.ptr 0 0 0),(2,.ptr 2 0 0),(4,.ptr 3 0 0),(9,.ptr 6 0 0),(113,.bool b20)] [zqa v8.2 (zw (v8.2.I+1)) (zM 1 w1_ 1 p0.Wait),.rows (p0.Wait.map eStr) 1 w1_ 9,.cells [zi 0,zi 0,zi 0,zi 0] 0 61,.cells (zag (rd p0.T p0.I)) 0 41,.dead,.dead,.cells [zi 0,zi 0,zi v13,zi 0] 0 61] zaw ?_
     clear h21
     refine W.cn hm ?_ ?_ <;> clear hm <;> intro hb22 hm
     ·replace ⟨h23,hm⟩:=zao hm
      replace ⟨v24,h25,hm⟩:=zaf hm
      refine W.sqL [.light,.light,.light,.light,.light,.light,.light,.light,.light,.light,.light,.light,.callh,.store,.light] [([],[]),([],[]),([],[]),([],[]),([],[]),([0],[]),([],[]),([],[]),([],[]),([0],[]),([],[]),([],[]),([0,1],[0,1]),([2],[2]),([],[])] [] [(2,.ptr 2 0 0),(3,.bool v24.1)] [zqa v24.2 v24.2.I (zM 1 w1_ 1 p0.Wait),.rows (p0.Wait.map eStr) 1 w1_ 9,.cells [zi 0,zi 0,zi 0,zi 0] 0 61] zaw ?_ (hrun:=?_)
      rotate_left
      ·try simp -implicitDefEqProofs -dsimp only [go_sem,h1,hb2,hb7,hb10,hb15,h18,h19,hb22,h23]
       with_reducible refine exP.mk ⟨[],[0,1],[.ptr 0 0 0,zi 4,zqT (rd v8.2.T (zw (v8.2.I+1)))],[zqa v8.2 (zw (v8.2.I+1)) (zM 1 w1_ 1 p0.Wait),.rows (p0.Wait.map eStr) 1 w1_ 9],.bool v24.1,[zqa v24.2 v24.2.I (zM 1 w1_ 1 p0.Wait),.rows (p0.Wait.map eStr) 1 w1_ 9]⟩ (ziK.of (by simp -implicitDefEqProofs -dsimp only [go_sem,h1,hb2,hb7,hb10,hb15,h18,h19,hb22,h23]) (zaS h25)) ?_
       try simp -implicitDefEqProofs -dsimp only [go_sem,h1,hb2,hb7,hb10,hb15,h18,h19,hb22,h23]
      cases hm
      exact W.rt
     ·refine W.skip (W.sa 7 [0,2,4,9] ?_)
      replace ⟨h26,hm⟩:=zao hm
      replace ⟨n27,h28,hm⟩:=zaK hm
      replace ⟨n29,h30,hm⟩:=zaK hm
      replace ⟨n31,h32,hm⟩:=zaK hm
      replace ⟨s33,h34,hm⟩:=zaK hm
      refine W.sqJ [10] [] [] 0 [] [(0,.ptr 0 0 0),(2,.ptr 2 0 0),(4,.ptr 3 0 0),(9,.ptr 6 0 0)] [zqa v8.2 (zw ((zw (v8.2.I+1))+1)) (zM 1 w1_ 1 p0.Wait),.rows (p0.Wait.map eStr) 1 w1_ 9,.cells [zi 0,zi 0,zi 0,zi 0] 0 61,.cells [zi n27,zi n29,zi n31,.str s33] 0 41,.dead,.dead,.cells [zi 0,zi 0,zi v13,zi 0] 0 61] zaw ?_
      clear h28 h30 h32 h34
      replace ⟨v35,h36,hm⟩:=zaf hm
      have kh36:=zgX h36
      try simp only [hb2,hb7,hb10,hb15,hb22] at kh36
      refine W.sa 7 [0,2,4,9,10,11] ?_
      refine W.cut (fun s h=>∃(v:Int × Int × Int) (w:Unit) (F:Gs),zaZ v8 p0 v13 v.1 v.2.1 v.2.2=some r/\AT 2 F [(0,.ptr 0 0 0),(2,.ptr 2 0 0),(9,.ptr 6 0 0)] [zqa v8.2 (zw ((zw (v8.2.I+1))+1)) (zM 1 w1_ 1 p0.Wait),.rows (p0.Wait.map eStr) 1 w1_ 9,.cells [zi 0,zi 0,zi 0,zi 0] 0 61,.dead,.dead,.dead,.cells [zi v.1,zi v.2.1,zi v13,zi v.2.2] 0 61] s h) ?_ ?_
      ·refine W.block (W.sa 7 [0,2,4,9,10,11,154] ?_)
       refine W.cn hm ?_ ?_ <;> clear hm <;> intro hb48 hm
       ·refine W.sa 7 [0,2,4,9] ?_
        replace ⟨v49,h50,hm⟩:=zaf hm
        have kh50:=zdU h50
        try simp only [hb2,hb7,hb10,hb15,hb22,hb48] at kh50
        refine W.sa 7 [0,2,4,9] ?_
        replace ⟨h51,hm⟩:=zao hm
        refine W.wa 8 [0,2,4,9] [.foc 0 0 2] ?_
        refine W.sqJG [] [] [] 0 [] [.fol 0 0 2] [(0,.ptr 0 0 0),(2,.ptr 2 0 0),(4,.ptr 3 0 0),(9,.ptr 6 0 0),(183,.bool (decide (v49.1<0)||decide (v49.1≥(rd v8.2.P.zSy v13).Size)))] [zqa v8.2 (zw ((zw (v8.2.I+1))+1)) (zM 1 w1_ 1 p0.Wait),.rows (p0.Wait.map eStr) 1 w1_ 9,.cells [zi 0,zi 0,zi 0,zi 0] 0 61,.cells [zi n27,zi n29,zi n31,.str s33] 0 41,.dead,.dead,.cells [zi 3,zi 0,zi v13,zi v49.1] 0 61] zaw ?_
        refine W.cn hm ?_ ?_ <;> clear hm <;> intro hb52 hm
        ·replace ⟨v53,h54,hm⟩:=zaf hm
         refine W.sa 3 [2,3] ?_ (hrun:=RC (zaS (w1_:=w1_) h54) [0,1])
         cases hm
         exact W.rt
        ·refine W.skip ?_
         exact ⟨(3,0,v49.1),(),⟨[],[]⟩,hm,RO⟩
       ·refine W.sq [] [(0,.ptr 0 0 0),(2,.ptr 2 0 0),(4,.ptr 3 0 0),(9,.ptr 6 0 0),(10,zi v35.1),(188,.bool (v35.2&&(n27==1)))] [zqa v8.2 (zw ((zw (v8.2.I+1))+1)) (zM 1 w1_ 1 p0.Wait),.rows (p0.Wait.map eStr) 1 w1_ 9,.cells [zi 0,zi 0,zi 0,zi 0] 0 61,.cells [zi n27,zi n29,zi n31,.str s33] 0 41,.dead,.dead,.cells [zi 0,zi 0,zi v13,zi 0] 0 61] ?_
        refine W.cn hm ?_ ?_ <;> clear hm <;> intro hb55 hm
        ·refine W.rg [] [(0,.ptr 0 0 0),(2,.ptr 2 0 0),(9,.ptr 6 0 0)] [zqa v8.2 (zw ((zw (v8.2.I+1))+1)) (zM 1 w1_ 1 p0.Wait),.rows (p0.Wait.map eStr) 1 w1_ 9,.cells [zi 0,zi 0,zi 0,zi 0] 0 61,.dead,.dead,.dead,.cells [zi 4,zi v35.1,zi v13,zi 0] 0 61] ?_
         exact ⟨(4,v35.1,0),(),⟨[],[]⟩,hm,RO⟩
        ·replace ⟨v56,h57,hm⟩:=zaf hm
         refine W.sa 3 [2,3] ?_ (hrun:=RC (zaS (w1_:=w1_) h57) [0,1])
         cases hm
         exact W.rt
      ·rintro s h ⟨⟨i37,i38,i39⟩,_,F,hm,hat⟩
       refine W.weak F hat ?_
       show WK _ _ _ _ _ [(0,.ptr 0 0 0),(2,.ptr 2 0 0),(9,.ptr 6 0 0)] [zqa v8.2 (zw ((zw (v8.2.I+1))+1)) (zM 1 w1_ 1 p0.Wait),.rows (p0.Wait.map eStr) 1 w1_ 9,.cells [zi 0,zi 0,zi 0,zi 0] 0 61,.dead,.dead,.dead,.cells [zi i37,zi i38,zi v13,zi i39] 0 61]
       rw [zaZ] at hm
       replace ⟨n40,h41,hm⟩:=zaK hm
       refine W.sq [] [(0,.ptr 0 0 0),(2,.ptr 2 0 0),(9,.ptr 6 0 0)] [zqa v8.2 n40 (zM 1 w1_ 1 p0.Wait),.rows (p0.Wait.map eStr) 1 w1_ 9,.cells [zi 0,zi 0,zi 0,zi 0] 0 61,.dead,.dead,.dead,.cells [zi i37,zi i38,zi v13,zi i39] 0 61] ?_
       clear h41
       refine W.seq ?_
       replace ⟨h42,hm⟩:=zao hm
       replace ⟨h43,hm⟩:=zao hm
       refine W.sqJ [] [] [] 0 [] [(0,.ptr 0 0 0),(2,.ptr 2 0 0),(9,.ptr 6 0 0),(230,.bool (((rd v8.2.T n40).Kind != 3)||(!decide ((rd v8.2.T n40).Text=(⟨#[93]⟩:ByteArray)))))] [zqa v8.2 n40 (zM 1 w1_ 1 p0.Wait),.rows (p0.Wait.map eStr) 1 w1_ 9,.cells [zi 0,zi 0,zi 0,zi 0] 0 61,.dead,.dead,.dead,.cells [zi i37,zi i38,zi v13,zi i39] 0 61] zaw ?_
       refine W.cn hm ?_ ?_ <;> clear hm <;> intro hb44 hm
       ·replace ⟨h45,hm⟩:=zao hm
        replace ⟨v46,h47,hm⟩:=zaf hm
        refine W.sqL [.light,.light,.light,.light,.light,.light,.light,.light,.light,.light,.light,.light,.callh,.store,.light] [([],[]),([],[]),([],[]),([],[]),([],[]),([0],[]),([],[]),([],[]),([],[]),([0],[]),([],[]),([],[]),([0,1],[0,1]),([2],[2]),([],[])] [] [(2,.ptr 2 0 0),(3,.bool v46.1)] [zqa v46.2 v46.2.I (zM 1 w1_ 1 p0.Wait),.rows (p0.Wait.map eStr) 1 w1_ 9,.cells [zi 0,zi 0,zi 0,zi 0] 0 61] zaw ?_ (hrun:=?_)
        rotate_left
        ·try simp -implicitDefEqProofs -dsimp only [go_sem,h1,hb2,hb7,hb10,hb15,h18,h19,hb22,h26,h42,h43,hb44,h45]
         with_reducible refine exP.mk ⟨[],[0,1],[.ptr 0 0 0,zi 4,zqT (rd v8.2.T n40)],[zqa v8.2 n40 (zM 1 w1_ 1 p0.Wait),.rows (p0.Wait.map eStr) 1 w1_ 9],.bool v46.1,[zqa v46.2 v46.2.I (zM 1 w1_ 1 p0.Wait),.rows (p0.Wait.map eStr) 1 w1_ 9]⟩ (ziK.of (by simp -implicitDefEqProofs -dsimp only [go_sem,h1,hb2,hb7,hb10,hb15,h18,h19,hb22,h26,h42,h43,hb44,h45]) (zaS h47)) ?_
         try simp -implicitDefEqProofs -dsimp only [go_sem,h1,hb2,hb7,hb10,hb15,h18,h19,hb22,h26,h42,h43,hb44,h45]
        cases hm
        exact W.rt
       ·refine W.skip (W.sa 7 [2,9] ?_)
        refine W.sa 3 [2,3] ?_
        cases hm
        exact W.rt
theorem zfz{p0:zab}{p1:zae}{w1_:Nat}{r:Bool × zab × zae}(hm:zbG p0 p1=some r):HF Tryz.prog 96 [.ptr 0 0 0,.ptr 2 0 0] [zqa p0 p0.I (zM 1 w1_ 1 p0.Wait),.rows (p0.Wait.map eStr) 1 w1_ 9,.cells [zi p1.Op,.bool p1.Lock,zi p1.Cond,zi p1.A.Kind,zi p1.A.Reg,zi p1.A.Sym,zi p1.A.N,zi p1.B.Kind,zi p1.B.Reg,zi p1.B.Sym,zi p1.B.N,.str p1.To,zM 1 w1_ 1 p0.Wait] 0 63] (.bool r.1) [zqa r.2.1 r.2.1.I (zM 1 w1_ 1 p0.Wait),.rows (p0.Wait.map eStr) 1 w1_ 9,.cells [zi r.2.2.Op,.bool r.2.2.Lock,zi r.2.2.Cond,zi r.2.2.A.Kind,zi r.2.2.A.Reg,zi r.2.2.A.Sym,zi r.2.2.A.N,zi r.2.2.B.Kind,zi r.2.2.B.Reg,zi r.2.2.B.Sym,zi r.2.2.B.N,.str r.2.2.To,zM 1 w1_ 1 p0.Wait] 0 63]:=by
 rw [zbG] at hm
 refine HF.of Tryz.func96 rfl Tryz.ntmps96 (Nat.le_of_ble_eq_true rfl) rfl ?_
 refine W.sa 3 [0,1] ?_
 replace ⟨h1,hm⟩:=zao hm
 refine W.saJ [10,11] [10,11] [0,1,2,3,4,5,6,7,8,9] 3 4 [0,1,5] zaw ?_
 refine W.sa 4 [0,1,5] ?_
 refine W.seq ?_
 replace ⟨v2,h3,hm⟩:=zaf hm
 refine W.sa 4 [0,1,5,6] ?_ (hrun:=RC (zef (w1_:=w1_) h3) [0,1])
 refine W.sa 4 [0,1,5,26] ?_
 refine W.cn hm ?_ ?_ <;> clear hm <;> intro hb4 hm
 ·refine W.sa 3 [4] ?_
  cases hm
  exact W.rt
 ·refine W.skip (W.seq (W.sq [] [(0,.ptr 0 0 0),(1,.ptr 2 0 0),(5,.ptr 3 0 0),(53,.bool ((v2.1.Kind==2)||((v2.1.Kind==1)&&(p1.Lock||(p1.Op==8)))))] [zqa v2.2.2 v2.2.2.I (zM 1 w1_ 1 p0.Wait),.rows (p0.Wait.map eStr) 1 w1_ 9,.cells [zi p1.Op,.bool p1.Lock,zi p1.Cond,zi v2.1.Kind,zi v2.1.Reg,zi v2.1.Sym,zi v2.1.N,zi p1.B.Kind,zi p1.B.Reg,zi p1.B.Sym,zi p1.B.N,.str p1.To,zM 1 w1_ 1 p0.Wait] 0 63,.cells (zag (rd p0.T p0.I)) 0 41] ?_))
  refine W.cn hm ?_ ?_ <;> clear hm <;> intro hb5 hm
  ·replace ⟨v6,h7,hm⟩:=zaf hm
   refine W.sa 3 [4] ?_ (hrun:=RC (zaS (w1_:=w1_) h7) [0,1])
   cases hm
   exact W.rt
  ·refine W.skip (W.seq ?_)
   replace ⟨h8,hm⟩:=zao hm
   replace ⟨h9,hm⟩:=zao hm
   replace ⟨b10,h11,hm⟩:=zaK hm
   refine W.sqJ [] [] [] 0 [] [(0,.ptr 0 0 0),(1,.ptr 2 0 0),(5,.ptr 3 0 0),(82,.bool b10)] [zqa v2.2.2 v2.2.2.I (zM 1 w1_ 1 p0.Wait),.rows (p0.Wait.map eStr) 1 w1_ 9,.cells [zi p1.Op,.bool p1.Lock,zi p1.Cond,zi v2.1.Kind,zi v2.1.Reg,zi v2.1.Sym,zi v2.1.N,zi p1.B.Kind,zi p1.B.Reg,zi p1.B.Sym,zi p1.B.N,.str p1.To,zM 1 w1_ 1 p0.Wait] 0 63,.cells (zag (rd p0.T p0.I)) 0 41] zaw ?_
   clear h11
   refine W.cn hm ?_ ?_ <;> clear hm <;> intro hb12 hm
   ·replace ⟨h13,hm⟩:=zao hm
    replace ⟨v14,h15,hm⟩:=zaf hm
    refine W.saJ [11] [] [] 0 3 [4] zaw ?_ (hrun:=RC (zaS (w1_:=w1_) h15) [0,1])
    cases hm
    exact W.rt
   ·refine W.skip (W.sa 4 [0,1,5] ?_)
    replace ⟨h16,hm⟩:=zao hm
    refine W.saJ [10] [] [] 0 4 [0,1,5] zaw ?_
    refine W.seq ?_
    replace ⟨v17,h18,hm⟩:=zaf hm
    refine W.sa 4 [0,1,5,6] ?_ (hrun:=RC (zef (w1_:=w1_) h18) [0,1])
    refine W.sa 4 [0,1,5,121] ?_
    refine W.cn hm ?_ ?_ <;> clear hm <;> intro hb19 hm
    ·refine W.sa 3 [4] ?_
     cases hm
     exact W.rt
    ·refine W.skip (W.seq ?_)
     replace ⟨v20,h21,hm⟩:=zaf hm
     refine W.sq [] [(0,.ptr 0 0 0),(5,.ptr 3 0 0),(126,.bool (!v20))] [zqa v17.2.2 v17.2.2.I (zM 1 w1_ 1 p0.Wait),.rows (p0.Wait.map eStr) 1 w1_ 9,.cells [zi p1.Op,.bool p1.Lock,zi p1.Cond,zi v2.1.Kind,zi v2.1.Reg,zi v2.1.Sym,zi v2.1.N,zi v17.1.Kind,zi v17.1.Reg,zi v17.1.Sym,zi v17.1.N,.str p1.To,zM 1 w1_ 1 p0.Wait] 0 63,.cells (zag (rd v2.2.2.T (zw (v2.2.2.I+1)))) 0 41] ?_ (hrun:=?_)
     rotate_left
     ·try simp -implicitDefEqProofs -dsimp only [go_sem,h1,hb4,hb5,h8,h9,hb12,h16,hb19]
      with_reducible refine exP.mk (.pure ⟨[1],true,[.agg [zi ((zae.mk p1.Op p1.Lock p1.Cond v2.1 v17.1 p1.To p0.Wait).Op),.bool ((zae.mk p1.Op p1.Lock p1.Cond v2.1 v17.1 p1.To p0.Wait).Lock),zi ((zae.mk p1.Op p1.Lock p1.Cond v2.1 v17.1 p1.To p0.Wait).Cond),zi ((zae.mk p1.Op p1.Lock p1.Cond v2.1 v17.1 p1.To p0.Wait).A.Kind),zi ((zae.mk p1.Op p1.Lock p1.Cond v2.1 v17.1 p1.To p0.Wait).A.Reg),zi ((zae.mk p1.Op p1.Lock p1.Cond v2.1 v17.1 p1.To p0.Wait).A.Sym),zi ((zae.mk p1.Op p1.Lock p1.Cond v2.1 v17.1 p1.To p0.Wait).A.N),zi ((zae.mk p1.Op p1.Lock p1.Cond v2.1 v17.1 p1.To p0.Wait).B.Kind),zi ((zae.mk p1.Op p1.Lock p1.Cond v2.1 v17.1 p1.To p0.Wait).B.Reg),zi ((zae.mk p1.Op p1.Lock p1.Cond v2.1 v17.1 p1.To p0.Wait).B.Sym),zi ((zae.mk p1.Op p1.Lock p1.Cond v2.1 v17.1 p1.To p0.Wait).B.N),.str ((zae.mk p1.Op p1.Lock p1.Cond v2.1 v17.1 p1.To p0.Wait).To),.sl (((zae.mk p1.Op p1.Lock p1.Cond v2.1 v17.1 p1.To p0.Wait).zLb).map eStr)]],.bool v20⟩) (callQ.of (by simp -implicitDefEqProofs -dsimp only [go_sem,h1,hb4,hb5,h8,h9,hb12,h16,hb19]) (by simp -implicitDefEqProofs -dsimp only [go_sem,h1,hb4,hb5,h8,h9,hb12,h16,hb19]) (by simp -implicitDefEqProofs -dsimp only [go_sem,h1,hb4,hb5,h8,h9,hb12,h16,hb19]) (fun _=>by simp -implicitDefEqProofs -dsimp only [go_sem,h1,hb4,hb5,h8,h9,hb12,h16,hb19]) (zgU h21)) ?_
      try simp -implicitDefEqProofs -dsimp only [go_sem,h1,hb4,hb5,h8,h9,hb12,h16,hb19]
     refine W.cn hm ?_ ?_ <;> clear hm <;> intro hb22 hm
     ·replace ⟨v23,h24,hm⟩:=zaf hm
      refine W.sa 3 [4] ?_ (hrun:=RC (zaS (w1_:=w1_) h24) [0,1])
      cases hm
      exact W.rt
     ·refine W.skip (W.sa 3 [4] ?_)
      cases hm
      exact W.rt
theorem zgW{p0:zab}{r:Bool × zab}(hm:zc8 p0=some r):HF Tryz.prog 86 [.ptr 0 0 0] [.cells (zat p0) 0 90] (.bool r.1) [.cells (zat r.2) 0 90]:=by
 rw [zc8] at hm
 refine HF.of Tryz.func86 rfl Tryz.ntmps86 (Nat.le_of_ble_eq_true rfl) rfl ?_
 refine W.sa 1 [0] ?_
 replace ⟨h1,hm⟩:=zao hm
 refine W.saJ [10,11] [10,11] [0,1,2,3,4,5,6,7,8,9] 1 2 [0,3] zaw ?_
 refine W.seq (W.sa 2 [0,3,23] ?_)
 refine W.cn hm ?_ ?_ <;> clear hm <;> intro hb2 hm
 ·replace ⟨v3,h4,hm⟩:=zaf hm
  refine W.sa 1 [2] ?_ (hrun:=RC (zaF h4) [0])
  cases hm
  exact W.rt
 ·refine W.skip (W.wa 3 [0,3,23] [.foc 0 0 9] ?_)
  refine W.sa 4 [0,3,4] ?_
  refine W.sa 5 [0,3,4,5] ?_
  refine W.cut (fun s h=>∃(v:Int × Bool × Int × Int × Int × ByteArray) (w:Unit) (F:Gs),zbN p0 v.1 v.2.1 v.2.2.1 v.2.2.2.1 v.2.2.2.2.1 v.2.2.2.2.2=some r/\AT 1 F [(0,.ptr 0 0 0),(3,.ptr 1 0 0),(4,.ptr 3 0 0),(5,.ptr 4 0 0)] [zqa p0 v.1 (zM 2 1 1 p0.Wait),.cells (zag (rd p0.T p0.I)) 0 41,.rows (p0.Wait.map eStr) 1 1 9,.cells [zi 0,.bool v.2.1,zi 0,zi 0,zi 0,zi 0,zi 0,zi 0,zi 0,zi 0,zi 0,.str (⟨#[]⟩:ByteArray),zM 2 1 1 p0.Wait] 0 63,.cells [zi v.2.2.1,zi v.2.2.2.1,zi v.2.2.2.2.1,.str v.2.2.2.2.2] 0 41] s h) ?_ ?_
  ·refine W.sa 5 [0,3,4,5,35] ?_
   refine W.cn hm ?_ ?_ <;> clear hm <;> intro hb76 hm
   ·refine W.sa 5 [0,3,4,5] ?_
    refine W.sa 5 [0,3,4,5] ?_
    replace ⟨h77,hm⟩:=zao hm
    refine W.rgJ [10] [] [] 0 [] [(0,.ptr 0 0 0),(3,.ptr 1 0 0),(4,.ptr 3 0 0),(5,.ptr 4 0 0)] [zqa p0 (zw (p0.I+1)) (zM 2 1 1 p0.Wait),.cells (zag (rd p0.T p0.I)) 0 41,.rows (p0.Wait.map eStr) 1 1 9,.cells [zi 0,.bool true,zi 0,zi 0,zi 0,zi 0,zi 0,zi 0,zi 0,zi 0,zi 0,.str (⟨#[]⟩:ByteArray),zM 2 1 1 p0.Wait] 0 63,.cells (zag (rd p0.T (zw (p0.I+1)))) 0 41] zaw ?_
    exact ⟨((zw (p0.I+1)),true,(rd p0.T (zw (p0.I+1))).Kind,(rd p0.T (zw (p0.I+1))).Line,(rd p0.T (zw (p0.I+1))).Col,(rd p0.T (zw (p0.I+1))).Text),(),⟨[],[]⟩,hm,RO⟩
   ·refine W.skip ?_
    exact ⟨(p0.I,false,(rd p0.T p0.I).Kind,(rd p0.T p0.I).Line,(rd p0.T p0.I).Col,(rd p0.T p0.I).Text),(),⟨[],[]⟩,hm,RO⟩
  ·rintro s h ⟨⟨i5,b6,i7,i9,i10,s11⟩,_,F,hm,hat⟩
   refine W.weak F hat ?_
   show WK _ _ _ _ _ [(0,.ptr 0 0 0),(3,.ptr 1 0 0),(4,.ptr 3 0 0),(5,.ptr 4 0 0)] [zqa p0 i5 (zM 2 1 1 p0.Wait),.cells (zag (rd p0.T p0.I)) 0 41,.rows (p0.Wait.map eStr) 1 1 9,.cells [zi 0,.bool b6,zi 0,zi 0,zi 0,zi 0,zi 0,zi 0,zi 0,zi 0,zi 0,.str (⟨#[]⟩:ByteArray),zM 2 1 1 p0.Wait] 0 63,.cells [zi i7,zi i9,zi i10,.str s11] 0 41]
   rw [zbN] at hm
   replace ⟨v12,h13,hm⟩:=zaf hm
   have kh13:=zjV h13
   try simp only [hb2] at kh13
   refine W.sa 5 [0,3,4,5,6,7,8] ?_
   refine W.seq ?_
   replace ⟨v14,h15,hm⟩:=zaf hm
   replace ⟨b16,h17,hm⟩:=zaK hm
   have kh15:=fun hg=>zfL (zbb hg h15)
   try simp only [hb2] at kh15
   refine W.sq [] [(0,.ptr 0 0 0),(3,.ptr 1 0 0),(4,.ptr 3 0 0),(5,.ptr 4 0 0),(6,zi v12.1),(7,zi v12.2.1),(89,.bool b16)] [zqa p0 i5 (zM 2 1 1 p0.Wait),.cells (zag (rd p0.T p0.I)) 0 41,.rows (p0.Wait.map eStr) 1 1 9,.cells [zi 0,.bool b6,zi 0,zi 0,zi 0,zi 0,zi 0,zi 0,zi 0,zi 0,zi 0,.str (⟨#[]⟩:ByteArray),zM 2 1 1 p0.Wait] 0 63,.cells [zi i7,zi i9,zi i10,.str s11] 0 41] ?_
   clear h17
   refine W.cn hm ?_ ?_ <;> clear hm <;> intro hb18 hm
   ·replace ⟨v19,h20,hm⟩:=zaf hm
    refine W.sa 1 [2] ?_ (hrun:=RCG (zaF h20) [0] [] [.fol 0 0 9] [])
    cases hm
    exact W.rt
   ·refine W.skip (W.sa 4 [0,3,4,6] ?_)
    refine W.sa 4 [0,3,4,6] ?_
    refine W.sa 5 [0,3,4,6,9] ?_
    refine W.cut (fun s h=>∃(v:(List zaa) × Int × (List zam) × (List zad) × (List zaa) × (List (List zaa)) × (List (List zaa)) × (List Int) × (List ByteArray) × Int × Int × Int × Int × Bool × Int × Int × Int × Int × Int × Int × Int × Int × Int × ByteArray × Int × Int × Int × ByteArray) (w:Unit) (F:Gs),zbp p0 v.1 v.2.1 v.2.2.1 v.2.2.2.1 v.2.2.2.2.1 v.2.2.2.2.2.1 v.2.2.2.2.2.2.1 v.2.2.2.2.2.2.2.1 v.2.2.2.2.2.2.2.2.1 v.2.2.2.2.2.2.2.2.2.1 v.2.2.2.2.2.2.2.2.2.2.1 v.2.2.2.2.2.2.2.2.2.2.2.1 v.2.2.2.2.2.2.2.2.2.2.2.2.1 v.2.2.2.2.2.2.2.2.2.2.2.2.2.1 v.2.2.2.2.2.2.2.2.2.2.2.2.2.2.1 v.2.2.2.2.2.2.2.2.2.2.2.2.2.2.2.1 v.2.2.2.2.2.2.2.2.2.2.2.2.2.2.2.2.1 v.2.2.2.2.2.2.2.2.2.2.2.2.2.2.2.2.2.1 v.2.2.2.2.2.2.2.2.2.2.2.2.2.2.2.2.2.2.1 v.2.2.2.2.2.2.2.2.2.2.2.2.2.2.2.2.2.2.2.1 v.2.2.2.2.2.2.2.2.2.2.2.2.2.2.2.2.2.2.2.2.1 v.2.2.2.2.2.2.2.2.2.2.2.2.2.2.2.2.2.2.2.2.2.1 v.2.2.2.2.2.2.2.2.2.2.2.2.2.2.2.2.2.2.2.2.2.2.1 v.2.2.2.2.2.2.2.2.2.2.2.2.2.2.2.2.2.2.2.2.2.2.2.1 v.2.2.2.2.2.2.2.2.2.2.2.2.2.2.2.2.2.2.2.2.2.2.2.2.1 v.2.2.2.2.2.2.2.2.2.2.2.2.2.2.2.2.2.2.2.2.2.2.2.2.2.1 v.2.2.2.2.2.2.2.2.2.2.2.2.2.2.2.2.2.2.2.2.2.2.2.2.2.2.1 v.2.2.2.2.2.2.2.2.2.2.2.2.2.2.2.2.2.2.2.2.2.2.2.2.2.2.2=some r/\AT 1 F [(0,.ptr 0 0 0),(3,.ptr 1 0 0),(4,.ptr 3 0 0),(9,.ptr 4 0 0)] [zqd v.1 v.2.1 (zbS v.2.2.1) (zbT v.2.2.2.1) (zbK v.2.2.2.2.1) (zbL v.2.2.2.2.2.1) (zbL v.2.2.2.2.2.2.1) (zbI v.2.2.2.2.2.2.2.1) (zbW v.2.2.2.2.2.2.2.2.1) (zM 2 1 1 p0.Wait) v.2.2.2.2.2.2.2.2.2.1 v.2.2.2.2.2.2.2.2.2.2.1 v.2.2.2.2.2.2.2.2.2.2.2.1,.cells (zag (rd p0.T p0.I)) 0 41,.rows (p0.Wait.map eStr) 1 1 9,.cells [zi v.2.2.2.2.2.2.2.2.2.2.2.2.1,.bool v.2.2.2.2.2.2.2.2.2.2.2.2.2.1,zi v.2.2.2.2.2.2.2.2.2.2.2.2.2.2.1,zi v.2.2.2.2.2.2.2.2.2.2.2.2.2.2.2.1,zi v.2.2.2.2.2.2.2.2.2.2.2.2.2.2.2.2.1,zi v.2.2.2.2.2.2.2.2.2.2.2.2.2.2.2.2.2.1,zi v.2.2.2.2.2.2.2.2.2.2.2.2.2.2.2.2.2.2.1,zi v.2.2.2.2.2.2.2.2.2.2.2.2.2.2.2.2.2.2.2.1,zi v.2.2.2.2.2.2.2.2.2.2.2.2.2.2.2.2.2.2.2.2.1,zi v.2.2.2.2.2.2.2.2.2.2.2.2.2.2.2.2.2.2.2.2.2.1,zi v.2.2.2.2.2.2.2.2.2.2.2.2.2.2.2.2.2.2.2.2.2.2.1,.str v.2.2.2.2.2.2.2.2.2.2.2.2.2.2.2.2.2.2.2.2.2.2.2.1,zM 2 1 1 p0.Wait] 0 63,.cells [zi v.2.2.2.2.2.2.2.2.2.2.2.2.2.2.2.2.2.2.2.2.2.2.2.2.1,zi v.2.2.2.2.2.2.2.2.2.2.2.2.2.2.2.2.2.2.2.2.2.2.2.2.2.1,zi v.2.2.2.2.2.2.2.2.2.2.2.2.2.2.2.2.2.2.2.2.2.2.2.2.2.2.1,.str v.2.2.2.2.2.2.2.2.2.2.2.2.2.2.2.2.2.2.2.2.2.2.2.2.2.2.2] 0 41] s h) ?_ ?_
    ·refine W.block ?_
     replace ⟨v65,h66,hm⟩:=zaf hm
     have kh66:=zcX h66
     try simp only [hb2,hb18] at kh66
     refine W.sa 5 [0,3,4,6,9,105] ?_
     refine W.cn hm ?_ ?_ <;> clear hm <;> intro hb67 hm
     ·refine W.seq ?_
      replace ⟨v68,h69,hm⟩:=zaf hm
      refine W.sa 5 [0,3,4,9,110] ?_ (hrun:=RC (zeC (w1_:=1) h69) [0,2])
      refine W.cn hm ?_ ?_ <;> clear hm <;> intro hb70 hm
      ·refine W.sa 1 [2] ?_ [.fol 0 0 9]
       cases hm
       exact W.rt
      ·refine W.skip ?_
       replace ⟨h71,hm⟩:=zao hm
       refine W.saJ [10] [] [] 0 5 [0,3,4,9] zaw ?_
       refine W.sa 5 [0,3,4,9] ?_
       refine W.rg [] [(0,.ptr 0 0 0),(3,.ptr 1 0 0),(4,.ptr 3 0 0),(9,.ptr 4 0 0)] [zqa v68.2 (zw (v68.2.I+1)) (zM 2 1 1 p0.Wait),.cells (zag (rd p0.T p0.I)) 0 41,.rows (p0.Wait.map eStr) 1 1 9,.cells [zi v12.1,.bool b6,zi v12.2.1,zi 0,zi 0,zi 0,zi 0,zi 0,zi 0,zi 0,zi 0,.str ((rd v68.2.T v68.2.I).Text),zM 2 1 1 p0.Wait] 0 63,.cells (zag (rd v68.2.T v68.2.I)) 0 41] ?_
       exact ⟨(v68.2.T,(zw (v68.2.I+1)),v68.2.P.zSy,v68.2.P.zTh,v68.2.zHd,v68.2.First,v68.2.To,v68.2.Left,v68.2.All,v68.2.Bad.Code,v68.2.Bad.Line,v68.2.Bad.Col,v12.1,b6,v12.2.1,0,0,0,0,0,0,0,0,(rd v68.2.T v68.2.I).Text,(rd v68.2.T v68.2.I).Kind,(rd v68.2.T v68.2.I).Line,(rd v68.2.T v68.2.I).Col,(rd v68.2.T v68.2.I).Text),(),⟨[],[]⟩,hm,RO⟩
     ·refine W.sa 5 [0,3,4,9,131] ?_
      refine W.cn hm ?_ ?_ <;> clear hm <;> intro hb72 hm
      ·replace ⟨v73,h74,hm⟩:=zaf hm
       refine W.sa 5 [0,3,4,9,136] ?_ (hrun:=RC (zfz (w1_:=1) h74) [0,2,3])
       refine W.cn hm ?_ ?_ <;> clear hm <;> intro hb75 hm
       ·refine W.sa 1 [2] ?_ [.fol 0 0 9]
        cases hm
        exact W.rt
       ·refine W.skip ?_
        exact ⟨(v73.2.1.T,v73.2.1.I,v73.2.1.P.zSy,v73.2.1.P.zTh,v73.2.1.zHd,v73.2.1.First,v73.2.1.To,v73.2.1.Left,v73.2.1.All,v73.2.1.Bad.Code,v73.2.1.Bad.Line,v73.2.1.Bad.Col,v73.2.2.Op,v73.2.2.Lock,v73.2.2.Cond,v73.2.2.A.Kind,v73.2.2.A.Reg,v73.2.2.A.Sym,v73.2.2.A.N,v73.2.2.B.Kind,v73.2.2.B.Reg,v73.2.2.B.Sym,v73.2.2.B.N,v73.2.2.To,0,0,0,(⟨#[]⟩:ByteArray)),(),⟨[],[]⟩,hm,RO⟩
      ·refine W.skip ?_
       exact ⟨(p0.T,(zw (i5+1)),p0.P.zSy,p0.P.zTh,p0.zHd,p0.First,p0.To,p0.Left,p0.All,p0.Bad.Code,p0.Bad.Line,p0.Bad.Col,v12.1,b6,v12.2.1,0,0,0,0,0,0,0,0,(⟨#[]⟩:ByteArray),0,0,0,(⟨#[]⟩:ByteArray)),(),⟨[],[]⟩,hm,RO⟩
    ·rintro s h ⟨⟨l21,i22,l23,l24,l25,l26,l27,l28,l29,i30,i31,i33,i34,b35,i36,i37,i38,i39,i40,i41,i42,i43,i44,s45,i46,i47,i48,s49⟩,_,F,hm,hat⟩
     refine W.weak F hat ?_
     show WK _ _ _ _ _ [(0,.ptr 0 0 0),(3,.ptr 1 0 0),(4,.ptr 3 0 0),(9,.ptr 4 0 0)] [zqd l21 i22 (zbS l23) (zbT l24) (zbK l25) (zbL l26) (zbL l27) (zbI l28) (zbW l29) (zM 2 1 1 p0.Wait) i30 i31 i33,.cells (zag (rd p0.T p0.I)) 0 41,.rows (p0.Wait.map eStr) 1 1 9,.cells [zi i34,.bool b35,zi i36,zi i37,zi i38,zi i39,zi i40,zi i41,zi i42,zi i43,zi i44,.str s45,zM 2 1 1 p0.Wait] 0 63,.cells [zi i46,zi i47,zi i48,.str s49] 0 41]
     rw [zbp] at hm
     refine W.wa 6 [0,3,4,9] [.foc 0 0 3] ?_
     refine W.sa 5 [0,3,4,9,10] ?_ [.fol 0 0 3]
     replace ⟨h50,hm⟩:=zao hm
     replace ⟨h51,hm⟩:=zao hm
     replace ⟨h52,hm⟩:=zao hm
     replace ⟨l53,h54,hm⟩:=zaK hm
     refine W.wk ⟨[2],[.foc 0 0 3,.foc 5 ((zw ((l24.length:Int)-1)).toNat) 0]⟩ [(0,.ptr 0 0 0),(3,.ptr 1 0 0),(4,.ptr 3 0 0),(9,.ptr 4 0 0),(10,zi (zw ((l24.length:Int)-1)))] [zqd l21 i22 (zbS l23) (zM 5 1 1 l24) (zbK l25) (zbL l26) (zbL l27) (zbI l28) (zbW l29) (.sl (p0.Wait.map eStr)) i30 i31 i33,.cells (zag (rd p0.T p0.I)) 0 41,.dead,.cells [zi i34,.bool b35,zi i36,zi i37,zi i38,zi i39,zi i40,zi i41,zi i42,zi i43,zi i44,.str s45,.sl (p0.Wait.map eStr)] 0 63,.cells [zi i46,zi i47,zi i48,.str s49] 0 41,.rows ((l24.map zah).set ((zw ((l24.length:Int)-1)).toNat) [.msl 6 1 0 13 (((rd l24 (zw ((l24.length:Int)-1))).Ins).length) (((rd l24 (zw ((l24.length:Int)-1))).Ins).length)]) 1 1 59,.rows (((rd l24 (zw ((l24.length:Int)-1))).Ins).map zar) 13 1 63] ?_
     refine W.sqLG [.light,.light,.light,.light,.light,.light,.light,.light,.light,.light,.light,.light,.light,.light,.light,.light,.lit,.app,.light,.light,.store] [([],[]),([],[]),([],[]),([],[]),([0],[]),([],[]),([],[]),([],[]),([],[]),([],[]),([0],[]),([],[]),([5],[]),([],[]),([5],[]),([3],[]),([],[]),([6],[6]),([5],[]),([],[]),([5],[5])] [] [.fol 5 ((zw ((l24.length:Int)-1)).toNat) 0,.fol 0 0 3] [(0,.ptr 0 0 0),(3,.ptr 1 0 0),(9,.ptr 4 0 0),(10,zi (zw ((l24.length:Int)-1)))] [zqd l21 i22 (zbS l23) (zbT l53) (zbK l25) (zbL l26) (zbL l27) (zbI l28) (zbW l29) (.sl (p0.Wait.map eStr)) i30 i31 i33,.cells (zag (rd p0.T p0.I)) 0 41,.dead,.dead,.cells [zi i46,zi i47,zi i48,.str s49] 0 41] zaw ?_
     clear h54
     replace ⟨h55,hm⟩:=zao hm
     replace ⟨h56,hm⟩:=zao hm
     replace ⟨h57,hm⟩:=zao hm
     replace ⟨h58,hm⟩:=zao hm
     replace ⟨h59,hm⟩:=zao hm
     replace ⟨h60,hm⟩:=zao hm
     replace ⟨l61,h62,hm⟩:=zaK hm
     replace ⟨l63,h64,hm⟩:=zaK hm
     refine W.wa 9 [0,3,9,10] [.foc 0 0 5,.foc 0 0 6,.foc 5 ((zw ((l24.length:Int)-1)).toNat) 0,.foc 6 ((zw ((l24.length:Int)-1)).toNat) 0] ?_
     refine W.sqLG [.light,.light,.light,.light,.light,.light,.light,.light,.light,.light,.light,.light,.light,.light,.light,.light,.light,.light,.lit,.app,.light,.light,.light,.light,.light,.light,.light,.light,.lit,.app,.light,.store,.light,.store] [([],[]),([],[]),([],[]),([0],[]),([],[]),([],[]),([],[]),([],[]),([0],[]),([],[]),([],[]),([],[]),([],[]),([0],[]),([],[]),([5],[]),([5],[]),([1],[]),([],[]),([7],[7]),([],[]),([],[]),([],[]),([0],[]),([],[]),([6],[]),([6],[]),([4],[]),([],[]),([8],[8]),([5],[]),([5],[5]),([6],[]),([6],[6])] [] [.fol 5 ((zw ((l24.length:Int)-1)).toNat) 0,.fol 0 0 5,.fol 6 ((zw ((l24.length:Int)-1)).toNat) 0,.fol 0 0 6] [(0,.ptr 0 0 0)] [zqd l21 i22 (zbS l23) (zbT l53) (zbK l25) (zbL l61) (zbL l63) (zbI l28) (zbW l29) (.sl (p0.Wait.map eStr)) i30 i31 i33] zaw ?_
     clear h62 h64
     refine W.sa 1 [] ?_ [.nbx 0 0 9 1 9]
     refine W.sa 1 [2] ?_
     cases hm
     exact W.rt
theorem zgE{p0:zab}{r:Bool × zab}(hm:zb9 p0=some r):HF Tryz.prog 67 [.ptr 0 0 0] [.cells (zat p0) 0 90] (.bool r.1) [.cells (zat r.2) 0 90]:=by
 rw [zb9] at hm
 refine HF.of Tryz.func67 rfl Tryz.ntmps67 (Nat.le_of_ble_eq_true rfl) rfl ?_
 refine W.sa 1 [0] ?_
 refine W.seq (W.wa 2 [0] [.foc 0 0 3] ?_)
 refine W.sa 1 [0,10] ?_ [.fol 0 0 3]
 refine W.cn hm ?_ ?_ <;> clear hm <;> intro hb1 hm
 ·replace ⟨h2,hm⟩:=zao hm
  replace ⟨v3,h4,hm⟩:=zaf hm
  refine W.saJ [11] [] [] 0 1 [2] zaw ?_ (hrun:=RC (zaF h4) [0])
  cases hm
  exact W.rt
 ·refine W.skip (W.seq (W.block ?_))
  replace ⟨r110,hlr110,hm⟩:=zaf hm
  refine W.mono (Q:=fun e0 s0 h0=>match r110 with | .inl e=>e0=.exit 0/\∃w:Unit,s0=[(0,.ptr 0 0 0)]/\h0=[zqd e.1 e.2.1 (zbS e.2.2.1) (zbT e.2.2.2.1) (zbK e.2.2.2.2.1) (zbL e.2.2.2.2.2.1) (zbL e.2.2.2.2.2.2.1) (zbI e.2.2.2.2.2.2.2.1) (zbW e.2.2.2.2.2.2.2.2.1) (zbW e.2.2.2.2.2.2.2.2.2.1) e.2.2.2.2.2.2.2.2.2.2.1 e.2.2.2.2.2.2.2.2.2.2.2.1 e.2.2.2.2.2.2.2.2.2.2.2.2] | .inr q=>e0=.ret/\s0=[(2,.bool q.1)]/\h0=[.cells (zat q.2) 0 90]) (W.loopM (step:=za9) (a0:=(p0.T,p0.I,p0.P.zSy,p0.P.zTh,p0.zHd,p0.First,p0.To,p0.Left,p0.All,p0.Wait,p0.Bad.Code,p0.Bad.Line,p0.Bad.Col)) (fun (a:(List zaa) × Int × (List zam) × (List zad) × (List zaa) × (List (List zaa)) × (List (List zaa)) × (List Int) × (List ByteArray) × (List ByteArray) × Int × Int × Int) (v:Unit)=>([(0,.ptr 0 0 0)],[zqd a.1 a.2.1 (zbS a.2.2.1) (zbT a.2.2.2.1) (zbK a.2.2.2.2.1) (zbL a.2.2.2.2.2.1) (zbL a.2.2.2.2.2.2.1) (zbI a.2.2.2.2.2.2.2.1) (zbW a.2.2.2.2.2.2.2.2.1) (zbW a.2.2.2.2.2.2.2.2.2.1) a.2.2.2.2.2.2.2.2.2.2.1 a.2.2.2.2.2.2.2.2.2.2.2.1 a.2.2.2.2.2.2.2.2.2.2.2.2])) () hlr110 ⟨[],[]⟩ RO ?_) ?_
  ·rintro ⟨l62,i63,l64,l65,l66,l67,l68,l69,l70,l71,i72,i73,i74⟩ _ x hm hx
   rw [za9] at hm
   show WK _ _ _ _ _ [(0,.ptr 0 0 0)] [zqd l62 i63 (zbS l64) (zbT l65) (zbK l66) (zbL l67) (zbL l68) (zbI l69) (zbW l70) (zbW l71) i72 i73 i74]
   refine W.seq ?_
   replace ⟨h111,hm⟩:=zao hm
   replace ⟨h112,hm⟩:=zao hm
   replace ⟨h113,hm⟩:=zao hm
   replace ⟨b114,h115,hm⟩:=zaK hm
   refine W.sqJ [] [] [] 0 [] [(0,.ptr 0 0 0),(64,.bool b114)] [zqd l62 i63 (zbS l64) (zbT l65) (zbK l66) (zbL l67) (zbL l68) (zbI l69) (zbW l70) (zbW l71) i72 i73 i74] zaw ?_
   clear h115
   refine W.cn hm ?_ ?_ <;> clear hm <;> intro hb116 hm
   ·refine W.skip (W.block (W.seq ?_))
    replace ⟨v117,h118,hm⟩:=zaf hm
    refine W.sa 1 [0,67] ?_ (hrun:=RC (zeS h118) [0])
    refine W.cn hm ?_ ?_ <;> clear hm <;> intro hb119 hm
    ·refine W.sa 1 [2] ?_
     cases hm
     obtain rfl:=hx _ rfl
     exact W.wk ⟨[],[]⟩ [(2,.bool false)] [.cells (zat v117.2) 0 90] (W.ret (show _/\_ from ⟨rfl,rfl,rfl⟩))
    ·refine W.skip ?_
     replace ⟨h120,hm⟩:=zao hm
     refine W.saJ [] [] [] 0 1 [0,3] zaw ?_
     refine W.seq ?_
     replace ⟨v121,h122,hm⟩:=zaf hm
     refine W.wa 2 [0,3] [.foc 0 0 8] ?_
     refine W.sa 1 [0,3,85] ?_ [.fol 0 0 8] (hrun:=RC (zhK (w0_:=1) h122) [1])
     refine W.cn hm ?_ ?_ <;> clear hm <;> intro hb123 hm
     ·replace ⟨h124,hm⟩:=zao hm
      replace ⟨v125,h126,hm⟩:=zaf hm
      refine W.saJ [11] [] [] 0 1 [2] zaw ?_ (hrun:=RC (zaF h126) [0])
      cases hm
      obtain rfl:=hx _ rfl
      exact W.wk ⟨[],[]⟩ [(2,.bool v125.1)] [.cells (zat v125.2) 0 90] (W.ret (show _/\_ from ⟨rfl,rfl,rfl⟩))
     ·refine W.skip ?_
      replace ⟨h127,hm⟩:=zao hm
      replace ⟨h128,hm⟩:=zao hm
      replace ⟨l129,h130,hm⟩:=zaK hm
      replace ⟨l131,h132,hm⟩:=zaK hm
      refine W.wa 3 [0,3,85] [.foc 0 0 8,.foc 0 0 9] ?_
      refine W.sqLG [.light,.light,.light,.light,.light,.light,.light,.lit,.app,.light,.light,.light,.light,.light,.lit,.app,.light,.light,.store,.light,.light,.store] [([],[]),([],[]),([],[]),([],[]),([],[]),([0],[]),([],[]),([],[]),([1],[1]),([],[]),([],[]),([],[]),([0],[]),([],[]),([],[]),([2],[2]),([],[]),([],[]),([0],[0]),([],[]),([],[]),([0],[0])] [] [.fol 0 0 8,.fol 0 0 9] [(0,.ptr 0 0 0)] [zqc v117.2 v117.2.I (zbS v117.2.P.zSy) (zbT v117.2.P.zTh) (zbK v117.2.zHd) (zbL v117.2.First) (zbL v117.2.To) (zbI v117.2.Left) (zbW l129) (zbW l131)] zaw ?_
      clear h130 h132
      refine W.rg [] [(0,.ptr 0 0 0)] [zqc v117.2 (zw (v117.2.I+2)) (zbS v117.2.P.zSy) (zbT v117.2.P.zTh) (zbK v117.2.zHd) (zbL v117.2.First) (zbL v117.2.To) (zbI v117.2.Left) (zbW l129) (zbW l131)] ?_
      cases hm
      exact ⟨(v117.2.T,(zw (v117.2.I+2)),v117.2.P.zSy,v117.2.P.zTh,v117.2.zHd,v117.2.First,v117.2.To,v117.2.Left,l129,l131,v117.2.Bad.Code,v117.2.Bad.Line,v117.2.Bad.Col),(),⟨[],[]⟩,rfl,RO⟩
   ·cases hm
    obtain rfl:=hx _ rfl
    exact W.wk ⟨[],[]⟩ [(0,.ptr 0 0 0)] [zqd l62 i63 (zbS l64) (zbT l65) (zbK l66) (zbL l67) (zbL l68) (zbI l69) (zbW l70) (zbW l71) i72 i73 i74] (W.exit (show _/\_ from ⟨rfl,(),rfl,rfl⟩))
  ·intro e0 s0 h0 hq
   rcases r110 with er110 | qr110
   ·obtain ⟨rfl,_,rfl,rfl⟩:=hq
    replace hm:=zcJ hm
    show WK _ _ _ _ _ [(0,.ptr 0 0 0)] [zqd er110.1 er110.2.1 (zbS er110.2.2.1) (zbT er110.2.2.2.1) (zbK er110.2.2.2.2.1) (zbL er110.2.2.2.2.2.1) (zbL er110.2.2.2.2.2.2.1) (zbI er110.2.2.2.2.2.2.2.1) (zbW er110.2.2.2.2.2.2.2.2.1) (zbW er110.2.2.2.2.2.2.2.2.2.1) er110.2.2.2.2.2.2.2.2.2.2.1 er110.2.2.2.2.2.2.2.2.2.2.2.1 er110.2.2.2.2.2.2.2.2.2.2.2.2]
    refine W.seq ?_
    replace ⟨h133,hm⟩:=zao hm
    refine W.saJ [] [] [] 0 1 [0,136] zaw ?_
    refine W.cn hm ?_ ?_ <;> clear hm <;> intro hb134 hm
    ·refine W.sa 1 [2] ?_
     cases hm
     exact W.rt
    ·refine W.skip ?_
     replace ⟨v135,h136,hm⟩:=zaf hm
     refine W.sa 1 [2] ?_ (hrun:=RC (zgW h136) [0])
     cases hm
     exact W.rt
   ·obtain ⟨rfl,rfl,rfl⟩:=hq
    replace hm:=zcI hm
    cases hm
    exact zgM.retW ⟨[],[]⟩ RO
theorem zeR{p0:zab}{r:zab}(hm:zbc p0=some r):HF Tryz.prog 39 [.ptr 0 0 0] [.cells (zat p0) 0 90] (.tuple []) [.cells (zat r) 0 90]:=by
 rw [zbc] at hm
 refine HF.of Tryz.func39 rfl Tryz.ntmps39 (Nat.le_of_ble_eq_true rfl) rfl ?_
 refine W.seq (W.wa 2 [0] [.foc 0 0 3] ?_)
 refine W.sa 1 [0,8] ?_ [.fol 0 0 3]
 refine W.cn hm ?_ ?_ <;> clear hm <;> intro hb1 hm
 ·replace ⟨h2,hm⟩:=zao hm
  replace ⟨l3,h4,hm⟩:=zaK hm
  refine W.wa 3 [0,8] [.foc 0 0 7,.foc 0 0 9] ?_
  refine W.rgLG [.light,.light,.light,.light,.light,.light,.light,.light,.light,.look,.lit,.app,.light,.light,.store] [([],[]),([],[]),([],[]),([],[]),([0],[]),([],[]),([],[]),([],[]),([0],[]),([2],[]),([],[]),([1],[1]),([],[]),([],[]),([0],[0])] [] [.fol 0 0 7,.fol 0 0 9] [(0,.ptr 0 0 0)] [zqc p0 p0.I (zbS p0.P.zSy) (zbT p0.P.zTh) (zbK p0.zHd) (zbL p0.First) (zbL p0.To) (zbI l3) (zbW p0.All) (zbW p0.Wait)] zaw ?_
  clear h4
  refine W.rgG [] [.nbx 0 0 8 1 9,.nbx 0 0 9 1 9] [] [zqc p0 p0.I (zbS p0.P.zSy) (zbT p0.P.zTh) (zbK p0.zHd) (zbL p0.First) (zbL p0.To) (zbI l3) (zbW ([]:List ByteArray)) (zbW ([]:List ByteArray))] ?_
  cases hm
  exact zgM.normalW ⟨[],[]⟩ RO
 ·refine W.skip (W.rgG [] [.nbx 0 0 8 1 9,.nbx 0 0 9 1 9] [] [zqc p0 p0.I (zbS p0.P.zSy) (zbT p0.P.zTh) (zbK p0.zHd) (zbL p0.First) (zbL p0.To) (zbI p0.Left) (zbW ([]:List ByteArray)) (zbW ([]:List ByteArray))] ?_)
  cases hm
  exact zgM.normalW ⟨[],[]⟩ RO
theorem zga{p0:zab}{r:Bool × zab}(hm:zco p0=some r):HF Tryz.prog 66 [.ptr 0 0 0] [.cells (zat p0) 0 90] (.bool r.1) [.cells (zat r.2) 0 90]:=by
 rw [zco] at hm
 refine HF.of Tryz.func66 rfl Tryz.ntmps66 (Nat.le_of_ble_eq_true rfl) rfl ?_
 refine W.sa 1 [0] ?_
 refine W.seq (W.wa 2 [0] [.foc 0 0 3] ?_)
 refine W.sa 1 [0,9] ?_ [.fol 0 0 3]
 refine W.cn hm ?_ ?_ <;> clear hm <;> intro hb1 hm
 ·replace ⟨h2,hm⟩:=zao hm
  replace ⟨v3,h4,hm⟩:=zaf hm
  refine W.saJ [11] [] [] 0 1 [2] zaw ?_ (hrun:=RC (zaF h4) [0])
  cases hm
  exact W.rt
 ·refine W.skip ?_
  replace ⟨v5,h6,hm⟩:=zaf hm
  refine W.sa 1 [0] ?_ (hrun:=RC (zeR h6) [0])
  replace ⟨h7,hm⟩:=zao hm
  replace ⟨l8,h9,hm⟩:=zaK hm
  refine W.wa 2 [0] [.foc 0 0 3] ?_
  refine W.sqG [] [.nbx 1 v5.P.zTh.length 0 13 63,.fol 0 0 3] [(0,.ptr 0 0 0)] [zqb v5 v5.I (zbS v5.P.zSy) (zbT l8) (zbW v5.Wait)] ?_ (hrun:=by exact ROT)
  clear h9
  replace ⟨h10,hm⟩:=zao hm
  replace ⟨h11,hm⟩:=zao hm
  replace ⟨l12,h13,hm⟩:=zaK hm
  refine W.wa 2 [0] [.foc 0 0 4] ?_
  refine W.sqLG [.light,.light,.light,.light,.light,.light,.light,.light,.light,.light,.light,.light,.light,.light,.light,.lit,.app,.light,.light,.store] [([],[]),([],[]),([],[]),([],[]),([0],[]),([],[]),([],[]),([],[]),([0],[]),([],[]),([],[]),([],[]),([0],[]),([],[]),([],[]),([],[]),([1],[1]),([],[]),([],[]),([0],[0])] [] [.fol 0 0 4] [(0,.ptr 0 0 0)] [zqc v5 v5.I (zbS v5.P.zSy) (zbT l8) (zbK l12) (zbL v5.First) (zbL v5.To) (zbI v5.Left) (zbW v5.All) (zbW v5.Wait)] zaw ?_
  clear h13
  replace ⟨h14,hm⟩:=zao hm
  replace ⟨h15,hm⟩:=zao hm
  replace ⟨l16,h17,hm⟩:=zaK hm
  replace ⟨l18,h19,hm⟩:=zaK hm
  refine W.wa 3 [0] [.foc 0 0 5,.foc 0 0 6] ?_
  refine W.wa 5 [0] [.res,.res] ?_
  refine W.sqLG [.light,.light,.light,.light,.light,.light,.here 3,.app,.light,.light,.light,.light,.here 4,.app,.light,.light,.store,.light,.light,.store] [([],[]),([],[]),([],[]),([],[]),([],[]),([0],[]),([3],[3]),([1,3],[1]),([],[]),([],[]),([],[]),([0],[]),([4],[4]),([2,4],[2]),([],[]),([],[]),([0],[0]),([],[]),([],[]),([0],[0])] [] [.nbx 1 v5.First.length 0 4 41,.fol 0 0 5,.nbx 2 v5.To.length 0 4 41,.fol 0 0 6] [(0,.ptr 0 0 0)] [zqc v5 v5.I (zbS v5.P.zSy) (zbT l8) (zbK l12) (zbL l16) (zbL l18) (zbI v5.Left) (zbW v5.All) (zbW v5.Wait)] zaw ?_
  clear h17 h19
  refine W.sa 1 [] ?_
  refine W.sa 1 [2] ?_
  cases hm
  exact W.rt
theorem zgV{p0:zab}{r:Bool × zab}(hm:zc7 p0=some r):HF Tryz.prog 65 [.ptr 0 0 0] [.cells (zat p0) 0 90] (.bool r.1) [.cells (zat r.2) 0 90]:=by
 rw [zc7] at hm
 refine HF.of Tryz.func65 rfl Tryz.ntmps65 (Nat.le_of_ble_eq_true rfl) rfl ?_
 refine W.sa 1 [0] ?_
 refine W.seq (W.wa 2 [0] [.foc 0 0 3] ?_)
 refine W.sa 1 [0,15] ?_ [.fol 0 0 3]
 refine W.cn hm ?_ ?_ <;> clear hm <;> intro hb1 hm
 ·replace ⟨h2,hm⟩:=zao hm
  replace ⟨v3,h4,hm⟩:=zaf hm
  refine W.saJ [11] [] [] 0 1 [2] zaw ?_ (hrun:=RC (zaF h4) [0])
  cases hm
  exact W.rt
 ·refine W.skip (W.seq (W.wa 2 [0,15] [.foc 0 0 2] ?_))
  refine W.sa 1 [0,34] ?_ [.fol 0 0 2]
  refine W.cn hm ?_ ?_ <;> clear hm <;> intro hb5 hm
  ·replace ⟨h6,hm⟩:=zao hm
   replace ⟨v7,h8,hm⟩:=zaf hm
   refine W.saJ [11] [] [] 0 1 [2] zaw ?_ (hrun:=RC (zaF h8) [0])
   cases hm
   exact W.rt
  ·refine W.skip (W.sa 1 [0] ?_)
   refine W.seq ?_
   replace ⟨v9,h10,hm⟩:=zaf hm
   refine W.sa 1 [0,56] ?_ (hrun:=RC (zeS h10) [0])
   refine W.cn hm ?_ ?_ <;> clear hm <;> intro hb11 hm
   ·refine W.sa 1 [2] ?_
    cases hm
    exact W.rt
   ·refine W.skip ?_
    replace ⟨h12,hm⟩:=zao hm
    refine W.saJ [12,13] [12,13] [0,1,2,3,4,5,6,7,8,9,10,11] 1 2 [0,3] zaw ?_
    refine W.seq ?_
    replace ⟨v13,h14,hm⟩:=zaf hm
    replace ⟨v15,h16,hm⟩:=zaf hm
    refine W.wa 4 [0,3] [.foc 0 0 2,.foc 0 0 3] ?_
    refine W.sqJG [4] [4] [0,1,2,3,5,6,8] 4 [] [.fol 0 0 2,.fol 0 0 3] [(0,.ptr 0 0 0),(3,.ptr 1 0 0),(77,.bool (decide (v15≥0)))] [.cells (zat v9.2) 0 90,.cells [.str ((rd v9.2.T v9.2.I).Text),zi 0,.nils] 0 54] zaw ?_ (hrun:=?_)
    rotate_left
    ·try simp -implicitDefEqProofs -dsimp only [go_sem,hb1,hb5,hb11,h12]
     with_reducible refine exP.mk (.gheap [] ⟨[],[2,3],[.agg [zM 0 1 3 v9.2.P.zSy,zM 1 1 1 v9.2.P.zTh]],[.rows (v9.2.P.zSy.map zan) 3 1 54,.rows (v9.2.P.zTh.map zah) 1 1 59],.sl (v13.map eStr),[.rows (v9.2.P.zSy.map zan) 3 1 54,.rows (v9.2.P.zTh.map zah) 1 1 59]⟩ []) (callQ.ofG (by simp -implicitDefEqProofs -dsimp only [go_sem,hb1,hb5,hb11,h12]) (zfb h14)) ?_
     try simp -implicitDefEqProofs -dsimp only [go_sem,hb1,hb5,hb11,h12]
     with_reducible refine exP.mk _ (callQ.plain (by simp -implicitDefEqProofs -dsimp only [go_sem,hb1,hb5,hb11,h12]) (by have hk:=zbk h16; (try simp only [hb1,hb5,hb11] at hk); (try simp only [List.map_cons,List.map_nil,eStr,eInt] at hk); exact hk)) ?_
     try simp -implicitDefEqProofs -dsimp only [go_sem,hb1,hb5,hb11,h12]
    refine W.cn hm ?_ ?_ <;> clear hm <;> intro hb17 hm
    ·replace ⟨h18,hm⟩:=zao hm
     replace ⟨v19,h20,hm⟩:=zaf hm
     refine W.saJ [11] [] [] 0 1 [2] zaw ?_ (hrun:=RC (zaF h20) [0])
     cases hm
     exact W.rt
    ·refine W.skip (W.sa 2 [0,3] ?_)
     replace ⟨h21,hm⟩:=zao hm
     refine W.saJ [10,11] [10,11] [0,1,2,3,4,5,6,7,8,9] 2 3 [0,3,4] zaw ?_
     refine W.seq (W.sa 3 [0,3,4,109] ?_)
     refine W.cn hm ?_ ?_ <;> clear hm <;> intro hb22 hm
     ·replace ⟨v23,h24,hm⟩:=zaf hm
      refine W.sa 1 [2] ?_ (hrun:=RC (zaF h24) [0])
      cases hm
      exact W.rt
     ·refine W.skip ?_
      replace ⟨v25,h26,hm⟩:=zaf hm
      have kh26:=zdU h26
      try simp only [hb1,hb5,hb11,hb17,hb22] at kh26
      refine W.sa 3 [0,3,4,5] ?_
      refine W.seq (W.sq [] [(0,.ptr 0 0 0),(3,.ptr 1 0 0),(4,.ptr 2 0 0),(5,zi v25.1),(124,.bool (decide (v25.1<1)||decide (v25.1>64)))] [zqa v9.2 (zw (v9.2.I+1)) (zbW v9.2.Wait),.cells [.str ((rd v9.2.T v9.2.I).Text),zi 0,.nils] 0 54,.cells (zag (rd v9.2.T (zw (v9.2.I+1)))) 0 41] ?_)
      refine W.cn hm ?_ ?_ <;> clear hm <;> intro hb27 hm
      ·replace ⟨v28,h29,hm⟩:=zaf hm
       refine W.sa 1 [2] ?_ (hrun:=RC (zaF h29) [0])
       cases hm
       exact W.rt
      ·refine W.skip (W.sa 2 [0,3] ?_)
       refine W.sa 2 [0,3] ?_
       refine W.seq (W.block ?_)
       replace ⟨r77,hlr77,hm⟩:=zaf hm
       refine W.mono (Q:=fun e0 s0 h0=>match r77 with | .inl e=>e0=.exit 0/\∃w:Nat,s0=[(0,.ptr 0 0 0),(3,.ptr 1 0 0)]/\h0=[zqa v9.2 e.1 (zbW v9.2.Wait),.cells [.str ((rd v9.2.T v9.2.I).Text),zi v25.1,zM 2 w 1 e.2] 0 54,.rows (e.2.map (eInt .i64)) 1 w 2] | .inr q=>e0=.ret/\s0=[(2,.bool q.1)]/\h0=[.cells (zat q.2) 0 90]) (W.loopM (step:=zbn v9 v25) (a0:=((zw ((zw (v9.2.I+1))+1)),[])) (fun (a:Int × (List Int)) (v:Nat)=>([(0,.ptr 0 0 0),(3,.ptr 1 0 0)],[zqa v9.2 a.1 (zbW v9.2.Wait),.cells [.str ((rd v9.2.T v9.2.I).Text),zi v25.1,zM 2 v 1 a.2] 0 54,.rows (a.2.map (eInt .i64)) 1 v 2])) 0 hlr77 ⟨[],[]⟩ RO ?_) ?_
       ·rintro ⟨i59,l60⟩ w61 x hm hx
        rw [zbn] at hm
        show WK _ _ _ _ _ [(0,.ptr 0 0 0),(3,.ptr 1 0 0)] [zqa v9.2 i59 (zbW v9.2.Wait),.cells [.str ((rd v9.2.T v9.2.I).Text),zi v25.1,zM 2 w61 1 l60] 0 54,.rows (l60.map (eInt .i64)) 1 w61 2]
        refine W.seq ?_
        replace ⟨h78,hm⟩:=zao hm
        refine W.saJ [] [] [] 0 3 [0,3,148] zaw ?_
        refine W.cn hm ?_ ?_ <;> clear hm <;> intro hb79 hm
        ·refine W.skip (W.block (W.seq (W.sa 3 [0,3,154] ?_)))
         refine W.cn hm ?_ ?_ <;> clear hm <;> intro hb80 hm
         ·replace ⟨h81,hm⟩:=zao hm
          replace ⟨v82,h83,hm⟩:=zaf hm
          refine W.saJ [11] [] [] 0 1 [2] zaw ?_ (hrun:=RC (zaF h83) [0])
          cases hm
          obtain rfl:=hx _ rfl
          exact W.wk ⟨[],[]⟩ [(2,.bool v82.1)] [.cells (zat v82.2) 0 90] (W.ret (show _/\_ from ⟨rfl,rfl,rfl⟩))
         ·refine W.skip ?_
          replace ⟨h84,hm⟩:=zao hm
          replace ⟨v85,h86,hm⟩:=zaf hm
          have kh86:=zdU h86
          try simp only [hb1,hb5,hb11,hb17,hb22,hb27,hb79,hb80] at kh86
          refine W.saJ [] [] [] 0 3 [0,3,7] zaw ?_
          replace ⟨h87,hm⟩:=zao hm
          replace ⟨l88,h89,hm⟩:=zaK hm
          refine W.sq [] [(0,.ptr 0 0 0),(3,.ptr 1 0 0)] [zqa v9.2 i59 (zbW v9.2.Wait),.cells [.str ((rd v9.2.T v9.2.I).Text),zi v25.1,.msl 2 (w61+1) 0 1 l88.length l88.length] 0 54,.rows (l88.map (eInt .i64)) 1 (w61+1) 2] ?_
          clear h89
          refine W.rg [] [(0,.ptr 0 0 0),(3,.ptr 1 0 0)] [zqa v9.2 (zw (i59+1)) (zbW v9.2.Wait),.cells [.str ((rd v9.2.T v9.2.I).Text),zi v25.1,.msl 2 (w61+1) 0 1 l88.length l88.length] 0 54,.rows (l88.map (eInt .i64)) 1 (w61+1) 2] ?_
          cases hm
          exact ⟨((zw (i59+1)),l88),(w61+1),⟨[],[]⟩,rfl,RO⟩
        ·cases hm
         obtain rfl:=hx _ rfl
         exact W.wk ⟨[],[]⟩ [(0,.ptr 0 0 0),(3,.ptr 1 0 0)] [zqa v9.2 i59 (zbW v9.2.Wait),.cells [.str ((rd v9.2.T v9.2.I).Text),zi v25.1,zM 2 w61 1 l60] 0 54,.rows (l60.map (eInt .i64)) 1 w61 2] (W.exit (show _/\_ from ⟨rfl,w61,rfl,rfl⟩))
       ·intro e0 s0 h0 hq
        rcases r77 with er77 | qr77
        ·obtain ⟨rfl,w76,rfl,rfl⟩:=hq
         replace hm:=zcJ hm
         show WK _ _ _ _ _ [(0,.ptr 0 0 0),(3,.ptr 1 0 0)] [zqa v9.2 er77.1 (zbW v9.2.Wait),.cells [.str ((rd v9.2.T v9.2.I).Text),zi v25.1,zM 2 w76 1 er77.2] 0 54,.rows (er77.2.map (eInt .i64)) 1 w76 2]
         replace ⟨h90,hm⟩:=zao hm
         replace ⟨l91,h92,hm⟩:=zaK hm
         refine W.wk ⟨[2],[.foc 0 0 2]⟩ [(0,.ptr 0 0 0),(3,.ptr 1 0 0)] [zqb v9.2 er77.1 (zM 3 1 3 v9.2.P.zSy) (zbT v9.2.P.zTh) (zbW v9.2.Wait),.cells [.str ((rd v9.2.T v9.2.I).Text),zi v25.1,.sl (er77.2.map (eInt .i64))] 0 54,.dead,.rows (v9.2.P.zSy.map zan) 3 1 54] ?_
         refine W.sqLG [.light,.light,.light,.light,.light,.light,.light,.lit,.app,.light,.light,.light,.store] [([],[]),([],[]),([],[]),([],[]),([],[]),([0],[]),([1],[]),([],[]),([3],[3]),([],[]),([],[]),([],[]),([0],[0])] [] [.fol 0 0 2] [] [zqb v9.2 er77.1 (zbS l91) (zbT v9.2.P.zTh) (zbW v9.2.Wait)] zaw ?_
         clear h92
         refine W.sa 1 [2] ?_
         cases hm
         exact W.rt
        ·obtain ⟨rfl,rfl,rfl⟩:=hq
         replace hm:=zcI hm
         cases hm
         exact zgM.retW ⟨[],[]⟩ RO
theorem zgF{p0:zab}{r:Bool × zab}(hm:zcb p0=some r):HF Tryz.prog 38 [.ptr 0 0 0] [.cells (zat p0) 0 90] (.bool r.1) [.cells (zat r.2) 0 90]:=by
 rw [zcb] at hm
 refine HF.of Tryz.func38 rfl Tryz.ntmps38 (Nat.le_of_ble_eq_true rfl) rfl ?_
 refine W.sa 1 [0] ?_
 replace ⟨h1,hm⟩:=zao hm
 refine W.saJ [10,11] [10,11] [0,1,2,3,4,5,6,7,8,9] 1 2 [0,3] zaw ?_
 refine W.sa 2 [0,3,4] ?_
 refine W.cut (fun s h=>∃(v:Bool × (List zaa) × Int × (List zam) × (List zad) × (List zaa) × (List (List zaa)) × (List (List zaa)) × (List Int) × (List ByteArray) × (List ByteArray) × Int × Int × Int) (w:Unit) (F:Gs),zaY v.1 v.2.1 v.2.2.1 v.2.2.2.1 v.2.2.2.2.1 v.2.2.2.2.2.1 v.2.2.2.2.2.2.1 v.2.2.2.2.2.2.2.1 v.2.2.2.2.2.2.2.2.1 v.2.2.2.2.2.2.2.2.2.1 v.2.2.2.2.2.2.2.2.2.2.1 v.2.2.2.2.2.2.2.2.2.2.2.1 v.2.2.2.2.2.2.2.2.2.2.2.2.1 v.2.2.2.2.2.2.2.2.2.2.2.2.2=some r/\AT 1 F [(0,.ptr 0 0 0),(4,.bool v.1)] [zqd v.2.1 v.2.2.1 (zbS v.2.2.2.1) (zbT v.2.2.2.2.1) (zbK v.2.2.2.2.2.1) (zbL v.2.2.2.2.2.2.1) (zbL v.2.2.2.2.2.2.2.1) (zbI v.2.2.2.2.2.2.2.2.1) (zbW v.2.2.2.2.2.2.2.2.2.1) (zbW v.2.2.2.2.2.2.2.2.2.2.1) v.2.2.2.2.2.2.2.2.2.2.2.1 v.2.2.2.2.2.2.2.2.2.2.2.2.1 v.2.2.2.2.2.2.2.2.2.2.2.2.2] s h) ?_ ?_
 ·refine W.block (W.sa 2 [0,3,4,17] ?_)
  refine W.cn hm ?_ ?_ <;> clear hm <;> intro hb21 hm
  ·refine W.skip ?_
   exact ⟨(true,p0.T,p0.I,p0.P.zSy,p0.P.zTh,p0.zHd,p0.First,p0.To,p0.Left,p0.All,p0.Wait,p0.Bad.Code,p0.Bad.Line,p0.Bad.Col),(),⟨[],[]⟩,hm,RO⟩
  ·replace ⟨b22,h23,hm⟩:=zaK hm
   refine W.sq [] [(0,.ptr 0 0 0),(3,.ptr 1 0 0),(21,.bool b22)] [.cells (zat p0) 0 90,.cells (zag (rd p0.T p0.I)) 0 41] ?_
   clear h23
   refine W.cn hm ?_ ?_ <;> clear hm <;> intro hb24 hm
   ·replace ⟨v25,h26,hm⟩:=zaf hm
    refine W.rg [] [(0,.ptr 0 0 0),(4,.bool v25.1)] [.cells (zat v25.2) 0 90] ?_ (hrun:=?_)
    rotate_left
    ·try simp -implicitDefEqProofs -dsimp only [go_sem,h1,hb21,hb24]
     with_reducible refine exP.mk (.gheap [] ⟨[],[0],[.ptr 0 0 0],[.cells (zat p0) 0 90],.bool v25.1,[.cells (zat v25.2) 0 90]⟩ []) (callQ.ofG (by simp -implicitDefEqProofs -dsimp only [go_sem,h1,hb21,hb24]) (zgV h26)) ?_
     try simp -implicitDefEqProofs -dsimp only [go_sem,h1,hb21,hb24]
    exact ⟨(v25.1,v25.2.T,v25.2.I,v25.2.P.zSy,v25.2.P.zTh,v25.2.zHd,v25.2.First,v25.2.To,v25.2.Left,v25.2.All,v25.2.Wait,v25.2.Bad.Code,v25.2.Bad.Line,v25.2.Bad.Col),(),⟨[],[]⟩,hm,RO⟩
   ·replace ⟨b27,h28,hm⟩:=zaK hm
    refine W.sq [] [(0,.ptr 0 0 0),(32,.bool b27)] [.cells (zat p0) 0 90] ?_
    clear h28
    refine W.cn hm ?_ ?_ <;> clear hm <;> intro hb29 hm
    ·replace ⟨v30,h31,hm⟩:=zaf hm
     refine W.rg [] [(0,.ptr 0 0 0),(4,.bool v30.1)] [.cells (zat v30.2) 0 90] ?_ (hrun:=?_)
     rotate_left
     ·try simp -implicitDefEqProofs -dsimp only [go_sem,h1,hb21,hb24,hb29]
      with_reducible refine exP.mk (.gheap [] ⟨[],[0],[.ptr 0 0 0],[.cells (zat p0) 0 90],.bool v30.1,[.cells (zat v30.2) 0 90]⟩ []) (callQ.ofG (by simp -implicitDefEqProofs -dsimp only [go_sem,h1,hb21,hb24,hb29]) (zga h31)) ?_
      try simp -implicitDefEqProofs -dsimp only [go_sem,h1,hb21,hb24,hb29]
     exact ⟨(v30.1,v30.2.T,v30.2.I,v30.2.P.zSy,v30.2.P.zTh,v30.2.zHd,v30.2.First,v30.2.To,v30.2.Left,v30.2.All,v30.2.Wait,v30.2.Bad.Code,v30.2.Bad.Line,v30.2.Bad.Col),(),⟨[],[]⟩,hm,RO⟩
    ·replace ⟨v32,h33,hm⟩:=zaf hm
     refine W.rg [] [(0,.ptr 0 0 0),(4,.bool v32.1)] [.cells (zat v32.2) 0 90] ?_ (hrun:=?_)
     rotate_left
     ·try simp -implicitDefEqProofs -dsimp only [go_sem,h1,hb21,hb24,hb29]
      with_reducible refine exP.mk (.gheap [] ⟨[],[0],[.ptr 0 0 0],[.cells (zat p0) 0 90],.bool v32.1,[.cells (zat v32.2) 0 90]⟩ []) (callQ.ofG (by simp -implicitDefEqProofs -dsimp only [go_sem,h1,hb21,hb24,hb29]) (zgE h33)) ?_
      try simp -implicitDefEqProofs -dsimp only [go_sem,h1,hb21,hb24,hb29]
     exact ⟨(v32.1,v32.2.T,v32.2.I,v32.2.P.zSy,v32.2.P.zTh,v32.2.zHd,v32.2.First,v32.2.To,v32.2.Left,v32.2.All,v32.2.Wait,v32.2.Bad.Code,v32.2.Bad.Line,v32.2.Bad.Col),(),⟨[],[]⟩,hm,RO⟩
 ·rintro s h ⟨⟨b2,l3,i4,l5,l6,l7,l8,l9,l10,l11,l12,i13,i14,i15⟩,_,F,hm,hat⟩
  refine W.weak F hat ?_
  show WK _ _ _ _ _ [(0,.ptr 0 0 0),(4,.bool b2)] [zqd l3 i4 (zbS l5) (zbT l6) (zbK l7) (zbL l8) (zbL l9) (zbI l10) (zbW l11) (zbW l12) i13 i14 i15]
  rw [zaY] at hm
  refine W.seq ?_
  replace ⟨h16,hm⟩:=zao hm
  refine W.sqJ [] [] [] 0 [] [(0,.ptr 0 0 0),(4,.bool b2),(57,.bool (b2&&((rd l3 i4).Kind != 4)))] [zqd l3 i4 (zbS l5) (zbT l6) (zbK l7) (zbL l8) (zbL l9) (zbI l10) (zbW l11) (zbW l12) i13 i14 i15] zaw ?_
  refine W.cn hm ?_ ?_ <;> clear hm <;> intro hb17 hm
  ·replace ⟨h18,hm⟩:=zao hm
   replace ⟨v19,h20,hm⟩:=zaf hm
   refine W.saJ [11] [] [] 0 1 [2] zaw ?_ (hrun:=RC (zaF h20) [0])
   cases hm
   exact W.rt
  ·refine W.skip (W.sa 1 [4] ?_)
   refine W.sa 1 [2] ?_
   cases hm
   exact W.rt
theorem zgG{p0:zab}{p1:Int}{r:Bool × zab}(hm:zbF p0 p1=some r):HF Tryz.prog 40 [.ptr 0 0 0,zi p1] [.cells (zat p0) 0 90] (.bool r.1) [.cells (zat r.2) 0 90]:=by
 rw [zbF] at hm
 refine HF.of Tryz.func40 rfl Tryz.ntmps40 (Nat.le_of_ble_eq_true rfl) rfl ?_
 refine W.sa 1 [0,1] ?_
 replace ⟨h1,hm⟩:=zao hm
 replace ⟨l2,h3,hm⟩:=zaK hm
 refine W.wa 3 [0,1] [.foc 0 0 3,.foc 1 p1.toNat 0] ?_
 refine W.sq [] [(0,.ptr 0 0 0),(1,zi p1),(5,zM 2 1 13 l2)] [zqb p0 p0.I (zbS p0.P.zSy) (zM 1 1 1 p0.P.zTh) (zbW p0.Wait),.rows ((p0.P.zTh.map zah).set p1.toNat [zM 2 1 13 l2]) 1 1 59,.rows (l2.map zar) 13 1 63] ?_
 clear h3
 refine W.seq ?_
 replace ⟨h4,hm⟩:=zao hm
 replace ⟨h5,hm⟩:=zao hm
 replace ⟨h6,hm⟩:=zao hm
 replace ⟨b7,h8,hm⟩:=zaK hm
 refine W.wa 4 [0,1,5] [.foc 0 0 7] ?_
 refine W.sqG [] [.fol 0 0 7] [(0,.ptr 0 0 0),(1,zi p1),(5,zM 2 1 13 l2),(50,.bool b7)] [zqb p0 p0.I (zbS p0.P.zSy) (zM 1 1 1 p0.P.zTh) (zbW p0.Wait),.rows ((p0.P.zTh.map zah).set p1.toNat [zM 2 1 13 l2]) 1 1 59,.rows (l2.map zar) 13 1 63] ?_
 clear h8
 refine W.cn hm ?_ ?_ <;> clear hm <;> intro hb9 hm
 ·replace ⟨h10,hm⟩:=zao hm
  replace ⟨v11,h12,hm⟩:=zaf hm
  refine W.wa 4 [0,1,5,50] [.foc 0 0 4] ?_
  refine W.sa 1 [4] ?_ (hrun:=RCG (zaF h12) [0] [] [.fol 0 0 4,.fol 1 p1.toNat 0,.fol 0 0 3] [])
  cases hm
  exact W.rt
 ·refine W.skip (W.sa 3 [0,1,5,6] ?_)
  refine W.seq (W.sa 3 [0,1,5,6,7] ?_)
  refine W.block ?_
  replace ⟨r47,hlr47,hm⟩:=zaf hm
  refine W.mono (Q:=fun e0 s0 h0=>match r47 with | .inl e=>e0=.exit 0/\∃w:Unit,s0=[(0,.ptr 0 0 0),(1,zi p1),(5,zM 2 1 13 l2)]/\h0=[zqb p0 p0.I (zbS p0.P.zSy) (zM 1 1 1 p0.P.zTh) (zbW p0.Wait),.rows ((p0.P.zTh.map zah).set p1.toNat [zM 2 1 13 l2]) 1 1 59,.rows (l2.map zar) 13 1 63] | .inr q=>e0=.ret/\s0=[(4,.bool q.1)]/\h0=[.cells (zat q.2) 0 90]) (W.loopM (step:=zby l2 p1 p0) (a0:=(0,0)) (fun (a:Int × Int) (v:Unit)=>([(0,.ptr 0 0 0),(1,zi p1),(5,zM 2 1 13 l2),(6,zi a.1),(7,zi a.2)],[zqb p0 p0.I (zbS p0.P.zSy) (zM 1 1 1 p0.P.zTh) (zbW p0.Wait),.rows ((p0.P.zTh.map zah).set p1.toNat [zM 2 1 13 l2]) 1 1 59,.rows (l2.map zar) 13 1 63])) () hlr47 ⟨[],[]⟩ RO ?_) ?_
  ·rintro ⟨i35,i36⟩ _ x hm hx
   rw [zby] at hm
   show WK _ _ _ _ _ [(0,.ptr 0 0 0),(1,zi p1),(5,zM 2 1 13 l2),(6,zi i35),(7,zi i36)] [zqb p0 p0.I (zbS p0.P.zSy) (zM 1 1 1 p0.P.zTh) (zbW p0.Wait),.rows ((p0.P.zTh.map zah).set p1.toNat [zM 2 1 13 l2]) 1 1 59,.rows (l2.map zar) 13 1 63]
   refine W.seq (W.sa 3 [0,1,5,6,7,63] ?_)
   refine W.cn hm ?_ ?_ <;> clear hm <;> intro hb48 hm
   ·refine W.skip ?_
    refine W.cut (fun s h=>∃(v:Int) (w:Unit) (F:Gs),zbz i36 v=some x/\AT 1 F [(0,.ptr 0 0 0),(1,zi p1),(5,zM 2 1 13 l2),(6,zi v),(7,zi i36)] [zqb p0 p0.I (zbS p0.P.zSy) (zM 1 1 1 p0.P.zTh) (zbW p0.Wait),.rows ((p0.P.zTh.map zah).set p1.toNat [zM 2 1 13 l2]) 1 1 59,.rows (l2.map zar) 13 1 63] s h) ?_ ?_
    ·refine W.block (W.seq ?_)
     replace ⟨h50,hm⟩:=zao hm
     refine W.sa 3 [0,1,5,6,7,71] ?_
     refine W.cn hm ?_ ?_ <;> clear hm <;> intro hb51 hm
     ·refine W.exit ?_
      exact ⟨i35,(),⟨[],[]⟩,hm,RO⟩
     ·refine W.skip (W.seq (W.sa 3 [0,1,5,6,7,73] ?_))
      refine W.cn hm ?_ ?_ <;> clear hm <;> intro hb52 hm
      ·replace ⟨h53,hm⟩:=zao hm
       replace ⟨h54,hm⟩:=zao hm
       replace ⟨h55,hm⟩:=zao hm
       replace ⟨v56,h57,hm⟩:=zaf hm
       refine W.wa 5 [0,1,5,6,7,73] [.foc 0 0 5,.foc 3 p1.toNat 0] ?_
       refine W.sa 1 [4] ?_ (hrun:=RCG (zaF h57) [0] [] [.fol 1 p1.toNat 0,.fol 0 0 3,.fol 3 p1.toNat 0,.fol 0 0 5] [])
       cases hm
       obtain rfl:=hx _ rfl
       exact W.wk ⟨[],[]⟩ [(4,.bool v56.1)] [.cells (zat v56.2) 0 90] (W.ret (show _/\_ from ⟨rfl,rfl,rfl⟩))
      ·refine W.skip (W.rg [] [(0,.ptr 0 0 0),(1,zi p1),(5,zM 2 1 13 l2),(6,zi (zw (i35+1))),(7,zi i36)] [zqb p0 p0.I (zbS p0.P.zSy) (zM 1 1 1 p0.P.zTh) (zbW p0.Wait),.rows ((p0.P.zTh.map zah).set p1.toNat [zM 2 1 13 l2]) 1 1 59,.rows (l2.map zar) 13 1 63] ?_)
       exact ⟨(zw (i35+1)),(),⟨[],[]⟩,hm,RO⟩
    ·rintro s h ⟨i49,_,F,hm,hat⟩
     refine W.weak F hat ?_
     show WK _ _ _ _ _ [(0,.ptr 0 0 0),(1,zi p1),(5,zM 2 1 13 l2),(6,zi i49),(7,zi i36)] [zqb p0 p0.I (zbS p0.P.zSy) (zM 1 1 1 p0.P.zTh) (zbW p0.Wait),.rows ((p0.P.zTh.map zah).set p1.toNat [zM 2 1 13 l2]) 1 1 59,.rows (l2.map zar) 13 1 63]
     rw [zbz] at hm
     refine W.rg [] [(0,.ptr 0 0 0),(1,zi p1),(5,zM 2 1 13 l2),(6,zi i49),(7,zi (zw (i36+1)))] [zqb p0 p0.I (zbS p0.P.zSy) (zM 1 1 1 p0.P.zTh) (zbW p0.Wait),.rows ((p0.P.zTh.map zah).set p1.toNat [zM 2 1 13 l2]) 1 1 59,.rows (l2.map zar) 13 1 63] ?_
     cases hm
     exact ⟨(i49,(zw (i36+1))),(),⟨[],[]⟩,rfl,RO⟩
   ·cases hm
    obtain rfl:=hx _ rfl
    exact W.wk ⟨[],[]⟩ [(0,.ptr 0 0 0),(1,zi p1),(5,zM 2 1 13 l2)] [zqb p0 p0.I (zbS p0.P.zSy) (zM 1 1 1 p0.P.zTh) (zbW p0.Wait),.rows ((p0.P.zTh.map zah).set p1.toNat [zM 2 1 13 l2]) 1 1 59,.rows (l2.map zar) 13 1 63] (W.exit (show _/\_ from ⟨rfl,(),rfl,rfl⟩))
  ·intro e0 s0 h0 hq
   rcases r47 with er47 | qr47
   ·obtain ⟨rfl,_,rfl,rfl⟩:=hq
    replace hm:=zcJ hm
    show WK _ _ _ _ _ [(0,.ptr 0 0 0),(1,zi p1),(5,zM 2 1 13 l2)] [zqb p0 p0.I (zbS p0.P.zSy) (zM 1 1 1 p0.P.zTh) (zbW p0.Wait),.rows ((p0.P.zTh.map zah).set p1.toNat [zM 2 1 13 l2]) 1 1 59,.rows (l2.map zar) 13 1 63]
    refine W.seq (W.sa 3 [0,1,5,8] ?_)
    refine W.block ?_
    replace ⟨r102,hlr102,hm⟩:=zaf hm
    refine W.mono (Q:=fun e0 s0 h0=>match r102 with | .inl e=>e0=.exit 2/\∃w:Unit,s0=[]/\h0=[zqb p0 p0.I (zbS p0.P.zSy) (zbT (p0.P.zTh.set p1.toNat (zad.mk l2))) (zbW p0.Wait)] | .inr q=>e0=.ret/\s0=[(4,.bool q.1)]/\h0=[.cells (zat q.2) 0 90]) (W.loopM (step:=zbx l2 p1 p0) (a0:=0) (fun (a:Int) (v:Unit)=>([(0,.ptr 0 0 0),(1,zi p1),(5,zM 2 1 13 l2),(8,zi a)],[zqb p0 p0.I (zbS p0.P.zSy) (zM 1 1 1 p0.P.zTh) (zbW p0.Wait),.rows ((p0.P.zTh.map zah).set p1.toNat [zM 2 1 13 l2]) 1 1 59,.rows (l2.map zar) 13 1 63])) () hlr102 ⟨[],[]⟩ RO ?_) ?_
    ·rintro i87 _ x hm hx
     rw [zbx] at hm
     show WK _ _ _ _ _ [(0,.ptr 0 0 0),(1,zi p1),(5,zM 2 1 13 l2),(8,zi i87)] [zqb p0 p0.I (zbS p0.P.zSy) (zM 1 1 1 p0.P.zTh) (zbW p0.Wait),.rows ((p0.P.zTh.map zah).set p1.toNat [zM 2 1 13 l2]) 1 1 59,.rows (l2.map zar) 13 1 63]
     refine W.seq (W.sa 3 [0,1,5,8,91] ?_)
     refine W.cn hm ?_ ?_ <;> clear hm <;> intro hb103 hm
     ·refine W.skip (W.seq (W.block ?_))
      replace ⟨h104,hm⟩:=zao hm
      replace ⟨v105,h106,hm⟩:=zaf hm
      replace ⟨h107,hm⟩:=zao hm
      replace ⟨h108,hm⟩:=zao hm
      replace ⟨v109,h110,hm⟩:=zaf hm
      refine W.sqJ [] [] [] 0 [] [(0,.ptr 0 0 0),(1,zi p1),(5,zM 2 1 13 l2),(8,zi i87),(116,.bool (v105&&decide (v109<0)))] [zqb p0 p0.I (zbS p0.P.zSy) (zM 1 1 1 p0.P.zTh) (zbW p0.Wait),.rows ((p0.P.zTh.map zah).set p1.toNat [zM 2 1 13 l2]) 1 1 59,.rows (l2.map zar) 13 1 63] zaw ?_ (hrun:=?_)
      rotate_left
      ·try simp -implicitDefEqProofs -dsimp only [go_sem,h1,h4,h5,h6,hb9,hb103,h104,h107,h108]
       with_reducible refine exP.mk _ (callQ.plain (by simp -implicitDefEqProofs -dsimp only [go_sem,h1,h4,h5,h6,hb9,hb103,h104,h107,h108]) (by have hk:=zcX h106; (try simp only [hb9,hb103] at hk); (try simp only [List.map_cons,List.map_nil,eStr,eInt] at hk); exact hk)) ?_
       try simp -implicitDefEqProofs -dsimp only [go_sem,h1,h4,h5,h6,hb9,hb103,h104,h107,h108]
       refine zec (fun hg111=>?_) (fun hg111=>?_)
       ·try simp -implicitDefEqProofs -dsimp only [go_sem,h1,h4,h5,h6,hb9,hb103,h104,h107,h108,hg111]
        with_reducible refine exP.mk (.pure ⟨[2],true,[.agg [.sl (((zad.mk l2).Ins).map zar)],.str ((rd l2 i87).To)],zi v109⟩) (callQ.of (by simp -implicitDefEqProofs -dsimp only [go_sem,h1,h4,h5,h6,hb9,hb103,h104,h107,h108,hg111]) (by simp -implicitDefEqProofs -dsimp only [go_sem,h1,h4,h5,h6,hb9,hb103,h104,h107,h108,hg111]) (by simp -implicitDefEqProofs -dsimp only [go_sem,h1,h4,h5,h6,hb9,hb103,h104,h107,h108,hg111]) (fun _=>by simp -implicitDefEqProofs -dsimp only [go_sem,h1,h4,h5,h6,hb9,hb103,h104,h107,h108,hg111]) (zgv (zbb (by simp -implicitDefEqProofs -dsimp only [go_sem,h1,h4,h5,h6,hb9,hb103,h104,h107,h108,hg111]) h110))) ?_
        try simp -implicitDefEqProofs -dsimp only [go_sem,h1,h4,h5,h6,hb9,hb103,h104,h107,h108,hg111]
       ·try simp -implicitDefEqProofs -dsimp only [go_sem,h1,h4,h5,h6,hb9,hb103,h104,h107,h108,hg111]
      refine W.cn hm ?_ ?_ <;> clear hm <;> intro hb112 hm
      ·replace ⟨h113,hm⟩:=zao hm
       replace ⟨h114,hm⟩:=zao hm
       replace ⟨h115,hm⟩:=zao hm
       replace ⟨v116,h117,hm⟩:=zaf hm
       refine W.wa 5 [0,1,5,8,116] [.foc 0 0 6,.foc 3 p1.toNat 0] ?_
       refine W.sa 1 [4] ?_ (hrun:=RCG (zaF h117) [0] [] [.fol 1 p1.toNat 0,.fol 0 0 3,.fol 3 p1.toNat 0,.fol 0 0 6] [])
       cases hm
       obtain rfl:=hx _ rfl
       exact W.wk ⟨[],[]⟩ [(4,.bool v116.1)] [.cells (zat v116.2) 0 90] (W.ret (show _/\_ from ⟨rfl,rfl,rfl⟩))
      ·refine W.skip (W.rg [] [(0,.ptr 0 0 0),(1,zi p1),(5,zM 2 1 13 l2),(8,zi (zw (i87+1)))] [zqb p0 p0.I (zbS p0.P.zSy) (zM 1 1 1 p0.P.zTh) (zbW p0.Wait),.rows ((p0.P.zTh.map zah).set p1.toNat [zM 2 1 13 l2]) 1 1 59,.rows (l2.map zar) 13 1 63] ?_)
       cases hm
       exact ⟨(zw (i87+1)),(),⟨[],[]⟩,rfl,RO⟩
     ·cases hm
      obtain rfl:=hx _ rfl
      exact W.wk ⟨[],[.fol 1 p1.toNat 0,.fol 0 0 3]⟩ [] [zqb p0 p0.I (zbS p0.P.zSy) (zbT (p0.P.zTh.set p1.toNat (zad.mk l2))) (zbW p0.Wait)] (W.exit (show _/\_ from ⟨rfl,(),rfl,rfl⟩))
    ·intro e0 s0 h0 hq
     rcases r102 with er102 | qr102
     ·obtain ⟨rfl,_,rfl,rfl⟩:=hq
      replace hm:=zcJ hm
      show WK _ _ _ _ _ [] [zqb p0 p0.I (zbS p0.P.zSy) (zbT (p0.P.zTh.set p1.toNat (zad.mk l2))) (zbW p0.Wait)]
      replace ⟨l118,h119,hm⟩:=zaK hm
      refine W.sq [] [(4,.bool true)] [zqb p0 p0.I (zbS p0.P.zSy) (zbT l118) (zbW p0.Wait)] ?_
      clear h119
      cases hm
      exact W.rt
     ·obtain ⟨rfl,rfl,rfl⟩:=hq
      replace hm:=zcI hm
      cases hm
      exact zgM.retW ⟨[],[]⟩ RO
   ·obtain ⟨rfl,rfl,rfl⟩:=hq
    replace hm:=zcI hm
    cases hm
    exact zgM.retW ⟨[],[]⟩ RO
theorem ziz{p0:ByteArray}{r:zaj × zak}(hm:zdN p0=some r):zaJ Tryz.prog 19 [.str p0] (.tuple [.agg [.sl (r.1.zSy.map zan),.sl (r.1.zTh.map zax)],.agg [zi r.2.Code,zi r.2.Line,zi r.2.Col]]):=by
 rw [zdN] at hm
 refine zaJ.of Tryz.func19 rfl Tryz.ntmps19 (Nat.le_of_ble_eq_true rfl) ?_
 refine W.sa 2 [0,2,3] ?_ [.nbx 0 0 0 3 54,.nbx 0 0 1 1 59]
 replace ⟨v1,h2,hm⟩:=zaf hm
 have kh2:=zfV h2
 refine W.sa 3 [2,3,4,5] ?_
 refine W.seq (W.sa 3 [2,3,4,5,15] ?_)
 refine W.cn hm ?_ ?_ <;> clear hm <;> intro hb3 hm
 ·refine W.saL [.light,.light,.store,.store] [([],[]),([2],[]),([0],[0]),([1],[1])] 2 [2,3] zaw ?_ [.nbx 0 0 0 3 54,.nbx 0 0 1 1 59]
  cases hm
  refine W.wk ⟨[2,3],[.foc 0 0 0,.foc 0 0 1]⟩ [(2,.ptr 0 0 0),(3,.ptr 1 0 0)] [.cells [.sl (([]:List zam).map zan),.sl (([]:List zad).map zax)] 0 30,.cells (zbf v1.2) 0 37] ?_
  exact W.rt
 ·refine W.skip (W.sa 4 [2,3,4,6] ?_ [.nbx 3 0 2 3 54,.nbx 3 0 3 1 59,.nbx 3 0 4 4 41,.nbx 3 0 5 1 34,.nbx 3 0 6 1 34,.nbx 3 0 7 1 3,.nbx 3 0 8 1 9,.nbx 3 0 9 1 9])
  refine W.seq (W.block ?_)
  replace ⟨r55,hlr55,hm⟩:=zaf hm
  refine W.mono (Q:=fun e0 s0 h0=>match r55 with | .inl e=>e0=.exit 0/\∃w:Unit,s0=[(2,.ptr 0 0 0),(3,.ptr 1 0 0),(6,.ptr 3 0 0)]/\h0=[.cells [.zBx (([]:List zam).map zan) 3 54,.zBx (([]:List zad).map zah) 1 59] 0 30,.cells [zi 0,zi 0,zi 0] 0 37,.dead,zqd e.1 e.2.1 (zbS e.2.2.1) (zbT e.2.2.2.1) (zbK e.2.2.2.2.1) (zbL e.2.2.2.2.2.1) (zbL e.2.2.2.2.2.2.1) (zbI e.2.2.2.2.2.2.2.1) (zbW e.2.2.2.2.2.2.2.2.1) (zbW e.2.2.2.2.2.2.2.2.2.1) e.2.2.2.2.2.2.2.2.2.2.1 e.2.2.2.2.2.2.2.2.2.2.2.1 e.2.2.2.2.2.2.2.2.2.2.2.2] | .inr q=>e0=.ret/\s0=[(2,.ptr 0 0 0),(3,.ptr 1 0 0)]/\h0=[.cells (zaq q.1) 0 30,.cells (zbf q.2) 0 37]) (W.loopM (step:=zbu v1) (a0:=(v1.1,0,([]:List zam),([]:List zad),([]:List zaa),([]:List (List zaa)),([]:List (List zaa)),([]:List Int),([]:List ByteArray),([]:List ByteArray),0,0,0)) (fun (a:(List zaa) × Int × (List zam) × (List zad) × (List zaa) × (List (List zaa)) × (List (List zaa)) × (List Int) × (List ByteArray) × (List ByteArray) × Int × Int × Int) (v:Unit)=>([(2,.ptr 0 0 0),(3,.ptr 1 0 0),(4,.sl (v1.1.map zag)),(6,.ptr 3 0 0)],[.cells [.zBx (([]:List zam).map zan) 3 54,.zBx (([]:List zad).map zah) 1 59] 0 30,.cells [zi 0,zi 0,zi 0] 0 37,.dead,zqd a.1 a.2.1 (zbS a.2.2.1) (zbT a.2.2.2.1) (zbK a.2.2.2.2.1) (zbL a.2.2.2.2.2.1) (zbL a.2.2.2.2.2.2.1) (zbI a.2.2.2.2.2.2.2.1) (zbW a.2.2.2.2.2.2.2.2.1) (zbW a.2.2.2.2.2.2.2.2.2.1) a.2.2.2.2.2.2.2.2.2.2.1 a.2.2.2.2.2.2.2.2.2.2.2.1 a.2.2.2.2.2.2.2.2.2.2.2.2])) () hlr55 ⟨[],[]⟩ RO ?_) ?_
  ·rintro ⟨l25,i26,l27,l28,l29,l30,l31,l32,l33,l34,i35,i36,i37⟩ _ x hm hx
   rw [zbu] at hm
   show WK _ _ _ _ _ [(2,.ptr 0 0 0),(3,.ptr 1 0 0),(4,.sl (v1.1.map zag)),(6,.ptr 3 0 0)] [.cells [.zBx (([]:List zam).map zan) 3 54,.zBx (([]:List zad).map zah) 1 59] 0 30,.cells [zi 0,zi 0,zi 0] 0 37,.dead,zqd l25 i26 (zbS l27) (zbT l28) (zbK l29) (zbL l30) (zbL l31) (zbI l32) (zbW l33) (zbW l34) i35 i36 i37]
   refine W.seq (W.sa 4 [2,3,4,6,27] ?_)
   refine W.cn hm ?_ ?_ <;> clear hm <;> intro hb56 hm
   ·refine W.skip (W.block ?_)
    replace ⟨v57,h58,hm⟩:=zaf hm
    refine W.sa 4 [2,3,4,6,30] ?_ (hrun:=RC (zgF h58) [3])
    refine W.cn hm ?_ ?_ <;> clear hm <;> intro hb59 hm
    ·refine W.saL [.light,.light,.light,.light,.light,.store,.store] [([],[]),([],[]),([],[]),([],[]),([3],[]),([0],[0]),([1],[1])] 2 [2,3] zaw ?_ [.nbx 0 0 0 3 54,.nbx 0 0 1 1 59]
     cases hm
     obtain rfl:=hx _ rfl
     refine W.wk ⟨[2,3],[.foc 0 0 0,.foc 0 0 1]⟩ [(2,.ptr 0 0 0),(3,.ptr 1 0 0)] [.cells [.sl (([]:List zam).map zan),.sl (([]:List zad).map zax)] 0 30,.cells (zbf v57.2.Bad) 0 37] ?_
     exact W.wk ⟨[],[]⟩ [(2,.ptr 0 0 0),(3,.ptr 1 0 0)] [.cells [.sl (([]:List zam).map zan),.sl (([]:List zad).map zax)] 0 30,.cells (zbf v57.2.Bad) 0 37] (W.ret (show _/\_ from ⟨rfl,rfl,rfl⟩))
    ·refine W.skip ?_
     cases hm
     exact ⟨(v57.2.T,v57.2.I,v57.2.P.zSy,v57.2.P.zTh,v57.2.zHd,v57.2.First,v57.2.To,v57.2.Left,v57.2.All,v57.2.Wait,v57.2.Bad.Code,v57.2.Bad.Line,v57.2.Bad.Col),(),⟨[],[]⟩,rfl,RO⟩
   ·cases hm
    obtain rfl:=hx _ rfl
    exact W.wk ⟨[],[]⟩ [(2,.ptr 0 0 0),(3,.ptr 1 0 0),(6,.ptr 3 0 0)] [.cells [.zBx (([]:List zam).map zan) 3 54,.zBx (([]:List zad).map zah) 1 59] 0 30,.cells [zi 0,zi 0,zi 0] 0 37,.dead,zqd l25 i26 (zbS l27) (zbT l28) (zbK l29) (zbL l30) (zbL l31) (zbI l32) (zbW l33) (zbW l34) i35 i36 i37] (W.exit (show _/\_ from ⟨rfl,(),rfl,rfl⟩))
  ·intro e0 s0 h0 hq
   rcases r55 with er55 | qr55
   ·obtain ⟨rfl,_,rfl,rfl⟩:=hq
    replace hm:=zcJ hm
    show WK _ _ _ _ _ [(2,.ptr 0 0 0),(3,.ptr 1 0 0),(6,.ptr 3 0 0)] [.cells [.zBx (([]:List zam).map zan) 3 54,.zBx (([]:List zad).map zah) 1 59] 0 30,.cells [zi 0,zi 0,zi 0] 0 37,.dead,zqd er55.1 er55.2.1 (zbS er55.2.2.1) (zbT er55.2.2.2.1) (zbK er55.2.2.2.2.1) (zbL er55.2.2.2.2.2.1) (zbL er55.2.2.2.2.2.2.1) (zbI er55.2.2.2.2.2.2.2.1) (zbW er55.2.2.2.2.2.2.2.2.1) (zbW er55.2.2.2.2.2.2.2.2.2.1) er55.2.2.2.2.2.2.2.2.2.2.1 er55.2.2.2.2.2.2.2.2.2.2.2.1 er55.2.2.2.2.2.2.2.2.2.2.2.2]
    replace ⟨v60,h61,hm⟩:=zaf hm
    refine W.sa 4 [2,3,6] ?_ (hrun:=RC (zeR h61) [3])
    refine W.seq (W.sa 4 [2,3,6,7] ?_)
    refine W.block ?_
    replace ⟨r115,hlr115,hm⟩:=zaf hm
    refine W.mono (Q:=fun e0 s0 h0=>match r115 with | .inl e=>e0=.exit 2/\∃w:Unit,s0=[(2,.ptr 0 0 0),(3,.ptr 1 0 0),(6,.ptr 3 0 0)]/\h0=[.cells [.zBx (([]:List zam).map zan) 3 54,.zBx (([]:List zad).map zah) 1 59] 0 30,.cells [zi 0,zi 0,zi 0] 0 37,.dead,zqd e.1 e.2.1 (zbS e.2.2.1) (zbT e.2.2.2.1) (zbK e.2.2.2.2.1) (zbL e.2.2.2.2.2.1) (zbL e.2.2.2.2.2.2.1) (zbI e.2.2.2.2.2.2.2.1) (zbW e.2.2.2.2.2.2.2.2.1) (zbW e.2.2.2.2.2.2.2.2.2.1) e.2.2.2.2.2.2.2.2.2.2.1 e.2.2.2.2.2.2.2.2.2.2.2.1 e.2.2.2.2.2.2.2.2.2.2.2.2] | .inr q=>e0=.ret/\s0=[(2,.ptr 0 0 0),(3,.ptr 1 0 0)]/\h0=[.cells (zaq q.1) 0 30,.cells (zbf q.2) 0 37]) (W.loopM (step:=zcW) (a0:=(0,v60.T,v60.I,v60.P.zSy,v60.P.zTh,v60.zHd,v60.First,v60.To,v60.Left,v60.All,v60.Wait,v60.Bad.Code,v60.Bad.Line,v60.Bad.Col)) (fun (a:Int × (List zaa) × Int × (List zam) × (List zad) × (List zaa) × (List (List zaa)) × (List (List zaa)) × (List Int) × (List ByteArray) × (List ByteArray) × Int × Int × Int) (v:Unit)=>([(2,.ptr 0 0 0),(3,.ptr 1 0 0),(6,.ptr 3 0 0),(7,zi a.1)],[.cells [.zBx (([]:List zam).map zan) 3 54,.zBx (([]:List zad).map zah) 1 59] 0 30,.cells [zi 0,zi 0,zi 0] 0 37,.dead,zqd a.2.1 a.2.2.1 (zbS a.2.2.2.1) (zbT a.2.2.2.2.1) (zbK a.2.2.2.2.2.1) (zbL a.2.2.2.2.2.2.1) (zbL a.2.2.2.2.2.2.2.1) (zbI a.2.2.2.2.2.2.2.2.1) (zbW a.2.2.2.2.2.2.2.2.2.1) (zbW a.2.2.2.2.2.2.2.2.2.2.1) a.2.2.2.2.2.2.2.2.2.2.2.1 a.2.2.2.2.2.2.2.2.2.2.2.2.1 a.2.2.2.2.2.2.2.2.2.2.2.2.2])) () hlr115 ⟨[],[]⟩ RO ?_) ?_
    ·rintro ⟨i84,l85,i86,l87,l88,l89,l90,l91,l92,l93,l94,i95,i96,i97⟩ _ x hm hx
     rw [zcW] at hm
     show WK _ _ _ _ _ [(2,.ptr 0 0 0),(3,.ptr 1 0 0),(6,.ptr 3 0 0),(7,zi i84)] [.cells [.zBx (([]:List zam).map zan) 3 54,.zBx (([]:List zad).map zah) 1 59] 0 30,.cells [zi 0,zi 0,zi 0] 0 37,.dead,zqd l85 i86 (zbS l87) (zbT l88) (zbK l89) (zbL l90) (zbL l91) (zbI l92) (zbW l93) (zbW l94) i95 i96 i97]
     refine W.seq (W.wa 5 [2,3,6,7] [.foc 3 0 3] ?_)
     refine W.sa 4 [2,3,6,7,45] ?_ [.fol 3 0 3]
     refine W.cn hm ?_ ?_ <;> clear hm <;> intro hb116 hm
     ·refine W.skip (W.seq (W.block ?_))
      replace ⟨v117,h118,hm⟩:=zaf hm
      refine W.sa 4 [2,3,6,7,51] ?_ (hrun:=RC (zgG h118) [3])
      refine W.cn hm ?_ ?_ <;> clear hm <;> intro hb119 hm
      ·refine W.saL [.light,.light,.light,.light,.light,.store,.store] [([],[]),([],[]),([],[]),([],[]),([3],[]),([0],[0]),([1],[1])] 2 [2,3] zaw ?_ [.nbx 0 0 0 3 54,.nbx 0 0 1 1 59]
       cases hm
       obtain rfl:=hx _ rfl
       refine W.wk ⟨[2,3],[.foc 0 0 0,.foc 0 0 1]⟩ [(2,.ptr 0 0 0),(3,.ptr 1 0 0)] [.cells [.sl (([]:List zam).map zan),.sl (([]:List zad).map zax)] 0 30,.cells (zbf v117.2.Bad) 0 37] ?_
       exact W.wk ⟨[],[]⟩ [(2,.ptr 0 0 0),(3,.ptr 1 0 0)] [.cells [.sl (([]:List zam).map zan),.sl (([]:List zad).map zax)] 0 30,.cells (zbf v117.2.Bad) 0 37] (W.ret (show _/\_ from ⟨rfl,rfl,rfl⟩))
      ·refine W.skip (W.rg [] [(2,.ptr 0 0 0),(3,.ptr 1 0 0),(6,.ptr 3 0 0),(7,zi (zw (i84+1)))] [.cells [.zBx (([]:List zam).map zan) 3 54,.zBx (([]:List zad).map zah) 1 59] 0 30,.cells [zi 0,zi 0,zi 0] 0 37,.dead,.cells (zat v117.2) 0 90] ?_)
       cases hm
       exact ⟨((zw (i84+1)),v117.2.T,v117.2.I,v117.2.P.zSy,v117.2.P.zTh,v117.2.zHd,v117.2.First,v117.2.To,v117.2.Left,v117.2.All,v117.2.Wait,v117.2.Bad.Code,v117.2.Bad.Line,v117.2.Bad.Col),(),⟨[],[]⟩,rfl,RO⟩
     ·cases hm
      obtain rfl:=hx _ rfl
      exact W.wk ⟨[],[]⟩ [(2,.ptr 0 0 0),(3,.ptr 1 0 0),(6,.ptr 3 0 0)] [.cells [.zBx (([]:List zam).map zan) 3 54,.zBx (([]:List zad).map zah) 1 59] 0 30,.cells [zi 0,zi 0,zi 0] 0 37,.dead,zqd l85 i86 (zbS l87) (zbT l88) (zbK l89) (zbL l90) (zbL l91) (zbI l92) (zbW l93) (zbW l94) i95 i96 i97] (W.exit (show _/\_ from ⟨rfl,(),rfl,rfl⟩))
    ·intro e0 s0 h0 hq
     rcases r115 with er115 | qr115
     ·obtain ⟨rfl,_,rfl,rfl⟩:=hq
      replace hm:=zcJ hm
      show WK _ _ _ _ _ [(2,.ptr 0 0 0),(3,.ptr 1 0 0),(6,.ptr 3 0 0)] [.cells [.zBx (([]:List zam).map zan) 3 54,.zBx (([]:List zad).map zah) 1 59] 0 30,.cells [zi 0,zi 0,zi 0] 0 37,.dead,zqd er115.1 er115.2.1 (zbS er115.2.2.1) (zbT er115.2.2.2.1) (zbK er115.2.2.2.2.1) (zbL er115.2.2.2.2.2.1) (zbL er115.2.2.2.2.2.2.1) (zbI er115.2.2.2.2.2.2.2.1) (zbW er115.2.2.2.2.2.2.2.2.1) (zbW er115.2.2.2.2.2.2.2.2.2.1) er115.2.2.2.2.2.2.2.2.2.2.1 er115.2.2.2.2.2.2.2.2.2.2.2.1 er115.2.2.2.2.2.2.2.2.2.2.2.2]
      refine W.wa 6 [2,3,6] [.foc 3 0 2,.foc 3 0 3] ?_
      refine W.sa 2 [2,3] ?_ [.fol 0 0 0,.fol 0 0 1]
      cases hm
      refine W.wk ⟨[2,3],[.foc 0 0 0,.foc 0 0 1]⟩ [(2,.ptr 0 0 0),(3,.ptr 1 0 0)] [.cells [.sl (er115.2.2.1.map zan),.sl (er115.2.2.2.1.map zax)] 0 30,.cells [zi 0,zi 0,zi 0] 0 37] ?_
      exact W.rt
     ·obtain ⟨rfl,rfl,rfl⟩:=hq
      replace hm:=zcI hm
      cases hm
      exact zen.retW [] RO
   ·obtain ⟨rfl,rfl,rfl⟩:=hq
    replace hm:=zcI hm
    cases hm
    exact zen.retW [] RO
end Go.Proofs.YtocjejladeeckaaGreatDoor
