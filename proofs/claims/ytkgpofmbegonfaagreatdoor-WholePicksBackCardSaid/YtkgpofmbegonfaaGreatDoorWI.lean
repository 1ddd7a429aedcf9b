import Derived.Test.YtkgpofmbegonfaaGreatDoorVFacts
import Derived.Test.YtkgpofmbegonfaaGreatDoorVu3
import Derived.Test.YtkgpofmbegonfaaGreatDoorPalI
import Derived.Test.YtkgpofmbegonfaaGreatDoorWB
import Derived.Test.YtkgpofmbegonfaaGreatDoorWC
import Derived.Test.YtkgpofmbegonfaaGreatDoorWX
set_option linter.all false
set_option maxRecDepth 100000
set_option maxHeartbeats 4000000
namespace Go.Proofs.YtkgpofmbegonfaaGreatDoor
open Go.Vs
variable [TabX]
theorem zaG{p0:zaa}{p1:Int}{p2:zac}{r:Bool × zaa}(hm:zaI p0 p1 p2=some r):HF Tryz.prog 106 [.ptr 0 0 0,zi p1,.agg [zi p2.Kind,zi p2.Line,zi p2.Col,.str p2.Text]] [.cells (zas p0) 0 106] (.bool r.1) [.cells (zas r.2) 0 106]:=by
 rw [zaI] at hm
 refine HF.of Tryz.func106 rfl Tryz.ntmps106 (Nat.le_of_ble_eq_true rfl) rfl ?_
 refine W.sa 2 [0,1,5] ?_
 refine W.sa 1 [] ?_
 refine W.sa 1 [6] ?_
 cases hm
 exact W.rt
theorem zcY{p0:zaa}{r:Bool × zaa}(hm:za2 p0=some r):HF Tryz.prog 107 [.ptr 0 0 0] [.cells (zas p0) 0 106] (.bool r.1) [.cells (zas r.2) 0 106]:=by
 rw [za2] at hm
 refine HF.of Tryz.func107 rfl Tryz.ntmps107 (Nat.le_of_ble_eq_true rfl) rfl ?_
 refine W.sa 1 [0] ?_
 refine W.seq ?_
 replace ⟨h1,hm⟩:=zaA hm
 refine W.saJ [] [] [] 0 1 [0,14] zaP ?_
 refine W.cn hm ?_ ?_ <;> clear hm <;> intro hb2 hm
 ·replace ⟨h3,hm⟩:=zaA hm
  replace ⟨v4,h5,hm⟩:=zai hm
  refine W.saJ [11] [] [] 0 1 [2] zaP ?_ (hrun:=RC (zaG h5) [0])
  cases hm
  exact W.rt
 ·refine W.skip (W.sa 1 [] ?_)
  refine W.sa 1 [2] ?_
  cases hm
  exact W.rt
theorem zfe{p0:zaa}{p1:ByteArray}{r:Int × Bool × zaa}(hm:zcD p0 p1=some r):HF Tryz.prog 168 [.ptr 0 0 0,.str p1] [.cells (zas p0) 0 106] (.tuple [zi r.1,.bool r.2.1]) [.cells (zas r.2.2) 0 106]:=by
 rw [zcD] at hm
 refine HF.of Tryz.func168 rfl Tryz.ntmps168 (Nat.le_of_ble_eq_true rfl) rfl ?_
 refine W.sa 1 [0,1] ?_
 refine W.seq (W.wa 2 [0,1] [.foc 0 0 2] ?_)
 refine W.sa 2 [1,12,13,14] ?_
 refine W.block ?_
 replace ⟨r13,hlr13,hm⟩:=zai hm
 refine W.mono (Q:=fun e0 s0 h0=>match r13 with | .inl e=>e0=.exit 0/\∃w:Unit,s0=[]/\h0=[.cells (zas p0) 0 106] | .inr q=>e0=.ret/\s0=[(4,zi q.1),(5,.bool q.2.1)]/\h0=[.cells (zas q.2.2) 0 106]) (W.loopM (step:=zcQ p0 p1) (a0:=0) (fun (a:Int) (v:Unit)=>([(1,.str p1),(12,zM 1 1 3 p0.p.zSy),(13,zi (p0.p.zSy.length:Int)),(14,zi a)],[.cells [.sl (p0.l.map zab),zi p0.at_,zM 1 1 3 p0.p.zSy,.zBx (p0.p.zTh.map zad) 1 121,.zBx (p0.b.map zae) 8 199,zi p0.f.Code,zi p0.f.Line,zi p0.f.Col] 0 106,.rows (p0.p.zSy.map zaf) 3 1 205])) () hlr13 ⟨[],[]⟩ RO ?_) ?_
 ·rintro i9 _ x hm hx
  rw [zcQ] at hm
  show WK _ _ _ _ _ [(1,.str p1),(12,zM 1 1 3 p0.p.zSy),(13,zi (p0.p.zSy.length:Int)),(14,zi i9)] [.cells [.sl (p0.l.map zab),zi p0.at_,zM 1 1 3 p0.p.zSy,.zBx (p0.p.zTh.map zad) 1 121,.zBx (p0.b.map zae) 8 199,zi p0.f.Code,zi p0.f.Line,zi p0.f.Col] 0 106,.rows (p0.p.zSy.map zaf) 3 1 205]
  refine W.sa 2 [1,12,13,14,15] ?_
  refine W.seq ?_
  refine W.cn hm ?_ ?_ <;> clear hm <;> intro hb14 hm
  ·refine W.skip (W.seq (W.block ?_))
   replace ⟨h15,hm⟩:=zaA hm
   refine W.sa 3 [1,6,7,12,13,14] ?_
   refine W.sa 2 [1,6,12,13,14,22] ?_
   refine W.cn hm ?_ ?_ <;> clear hm <;> intro hb16 hm
   ·refine W.sa 1 [4,5] ?_ [.fol 0 0 2]
    cases hm
    obtain rfl:=hx _ rfl
    exact W.wk ⟨[],[]⟩ [(4,zi i9),(5,.bool true)] [.cells (zas p0) 0 106] (W.ret (show _/\_ from ⟨rfl,rfl,rfl⟩))
   ·refine W.skip (W.rg [] [(1,.str p1),(12,zM 1 1 3 p0.p.zSy),(13,zi (p0.p.zSy.length:Int)),(14,zi (zw (i9+1)))] [.cells [.sl (p0.l.map zab),zi p0.at_,zM 1 1 3 p0.p.zSy,.zBx (p0.p.zTh.map zad) 1 121,.zBx (p0.b.map zae) 8 199,zi p0.f.Code,zi p0.f.Line,zi p0.f.Col] 0 106,.rows (p0.p.zSy.map zaf) 3 1 205] ?_)
    cases hm
    exact ⟨(zw (i9+1)),(),⟨[],[]⟩,rfl,RO⟩
  ·cases hm
   obtain rfl:=hx _ rfl
   exact W.wk ⟨[],[.fol 0 0 2]⟩ [] [.cells (zas p0) 0 106] (W.exit (show _/\_ from ⟨rfl,(),rfl,rfl⟩))
 ·intro e0 s0 h0 hq
  rcases r13 with er13 | qr13
  ·obtain ⟨rfl,_,rfl,rfl⟩:=hq
   replace hm:=zdC hm
   show WK _ _ _ _ _ [] [.cells (zas p0) 0 106]
   refine W.sa 1 [4,5] ?_
   cases hm
   exact W.rt
  ·obtain ⟨rfl,rfl,rfl⟩:=hq
   replace hm:=zdB hm
   cases hm
   exact zgn.retW ⟨[],[]⟩ RO
theorem zeM{p0:zaa}{p1:zac}{r:Bool × zaa}(hm:zbF p0 p1=some r):HF Tryz.prog 105 [.ptr 0 0 0,.agg [zi p1.Kind,zi p1.Line,zi p1.Col,.str p1.Text]] [.cells (zas p0) 0 106] (.bool r.1) [.cells (zas r.2) 0 106]:=by
 rw [zbF] at hm
 refine HF.of Tryz.func105 rfl Tryz.ntmps105 (Nat.le_of_ble_eq_true rfl) rfl ?_
 refine W.sa 2 [0,3] ?_
 refine W.seq (W.wa 3 [0,3] [.foc 0 0 4] ?_)
 refine W.sa 2 [0,3,18] ?_ [.fol 0 0 4]
 refine W.cn hm ?_ ?_ <;> clear hm <;> intro hb1 hm
 ·replace ⟨v2,h3,hm⟩:=zai hm
  refine W.sa 1 [4] ?_ (hrun:=RC (zaG h3) [0])
  cases hm
  exact W.rt
 ·refine W.skip (W.seq (W.wa 3 [0,3,18] [.foc 0 0 2] ?_))
  refine W.sa 2 [0,3,28] ?_ [.fol 0 0 2]
  refine W.cn hm ?_ ?_ <;> clear hm <;> intro hb4 hm
  ·replace ⟨v5,h6,hm⟩:=zai hm
   refine W.sa 1 [4] ?_ (hrun:=RC (zaG h6) [0])
   cases hm
   exact W.rt
  ·refine W.skip ?_
   replace ⟨h7,hm⟩:=zaA hm
   refine W.saJ [11,12] [11,12] [0,1,2,3,4,5,6,7,8,9,10] 2 3 [0,5] zaP ?_
   refine W.seq (W.sa 3 [0,5,45] ?_)
   refine W.cn hm ?_ ?_ <;> clear hm <;> intro hb8 hm
   ·replace ⟨v9,h10,hm⟩:=zai hm
    refine W.sa 1 [4] ?_ (hrun:=RC (zaG h10) [0])
    cases hm
    exact W.rt
   ·refine W.skip (W.seq ?_)
    replace ⟨v11,h12,hm⟩:=zai hm
    have kh12:=zcI h12
    try simp only [hb1,hb4,hb8] at kh12
    refine W.sa 3 [0,5,51] ?_
    refine W.cn hm ?_ ?_ <;> clear hm <;> intro hb13 hm
    ·replace ⟨v14,h15,hm⟩:=zai hm
     refine W.sa 1 [4] ?_ (hrun:=RC (zaG h15) [0])
     cases hm
     exact W.rt
    ·refine W.skip (W.seq ?_)
     replace ⟨v16,h17,hm⟩:=zai hm
     refine W.sa 3 [0,5,7] ?_ (hrun:=RC (zfe h17) [0])
     refine W.sa 3 [0,5,62] ?_
     refine W.cn hm ?_ ?_ <;> clear hm <;> intro hb18 hm
     ·replace ⟨v19,h20,hm⟩:=zai hm
      refine W.sa 1 [4] ?_ (hrun:=RC (zaG h20) [0])
      cases hm
      exact W.rt
     ·refine W.skip (W.sa 4 [0,5,8] ?_)
      replace ⟨h21,hm⟩:=zaA hm
      refine W.saJ [11] [] [] 0 4 [0,5,8] zaP ?_
      refine W.seq (W.sa 4 [0,5,8,82] ?_)
      refine W.cn hm ?_ ?_ <;> clear hm <;> intro hb22 hm
      ·replace ⟨v23,h24,hm⟩:=zai hm
       refine W.sa 1 [4] ?_ (hrun:=RC (zaG h24) [0])
       cases hm
       exact W.rt
      ·refine W.skip ?_
       replace ⟨v25,h26,hm⟩:=zai hm
       have kh26:=zcx h26
       try simp only [hb1,hb4,hb8,hb13,hb18,hb22] at kh26
       refine W.sa 4 [0,5,8,9] ?_
       refine W.seq (W.sq [] [(0,.ptr 0 0 0),(5,.ptr 2 0 0),(8,.ptr 3 0 0),(9,zi v25.1),(97,.bool (decide (v25.1<1)||decide (v25.1>64)))] [.cells (zas v16.2.2) 0 106,.dead,.cells (zab (rd v16.2.2.l (zw (v16.2.2.at_+2)))) 0 192,.cells [.str ((rd p0.l (zw (p0.at_+1))).Text),zi 0,.nils] 0 205] ?_)
       refine W.cn hm ?_ ?_ <;> clear hm <;> intro hb27 hm
       ·replace ⟨v28,h29,hm⟩:=zai hm
        refine W.sa 1 [4] ?_ (hrun:=RC (zaG h29) [0])
        cases hm
        exact W.rt
       ·refine W.skip (W.sa 4 [0,8] ?_)
        refine W.sa 4 [0,8] ?_
        refine W.seq (W.block ?_)
        replace ⟨r77,hlr77,hm⟩:=zai hm
        refine W.mono (Q:=fun e0 s0 h0=>match r77 with | .inl e=>e0=.exit 0/\∃w:Nat,s0=[(0,.ptr 0 0 0),(8,.ptr 3 0 0)]/\h0=[.cells [.sl (v16.2.2.l.map zab),zi e.1,.zBx (v16.2.2.p.zSy.map zaf) 3 205,.zBx (v16.2.2.p.zTh.map zad) 1 121,.zBx (v16.2.2.b.map zae) 8 199,zi v16.2.2.f.Code,zi v16.2.2.f.Line,zi v16.2.2.f.Col] 0 106,.dead,.dead,.cells [.str ((rd p0.l (zw (p0.at_+1))).Text),zi v25.1,zM 4 w 1 e.2] 0 205,.rows (e.2.map (eInt .i64)) 1 w 2] | .inr q=>e0=.ret/\s0=[(4,.bool q.1)]/\h0=[.cells (zas q.2) 0 106]) (W.loopM (step:=za0 v16 v25) (a0:=((zw (v16.2.2.at_+3)),[])) (fun (a:Int × (List Int)) (v:Nat)=>([(0,.ptr 0 0 0),(8,.ptr 3 0 0)],[.cells [.sl (v16.2.2.l.map zab),zi a.1,.zBx (v16.2.2.p.zSy.map zaf) 3 205,.zBx (v16.2.2.p.zTh.map zad) 1 121,.zBx (v16.2.2.b.map zae) 8 199,zi v16.2.2.f.Code,zi v16.2.2.f.Line,zi v16.2.2.f.Col] 0 106,.dead,.dead,.cells [.str ((rd p0.l (zw (p0.at_+1))).Text),zi v25.1,zM 4 v 1 a.2] 0 205,.rows (a.2.map (eInt .i64)) 1 v 2])) 0 hlr77 ⟨[],[]⟩ RO ?_) ?_
        ·rintro ⟨i59,l60⟩ w61 x hm hx
         rw [za0] at hm
         show WK _ _ _ _ _ [(0,.ptr 0 0 0),(8,.ptr 3 0 0)] [.cells [.sl (v16.2.2.l.map zab),zi i59,.zBx (v16.2.2.p.zSy.map zaf) 3 205,.zBx (v16.2.2.p.zTh.map zad) 1 121,.zBx (v16.2.2.b.map zae) 8 199,zi v16.2.2.f.Code,zi v16.2.2.f.Line,zi v16.2.2.f.Col] 0 106,.dead,.dead,.cells [.str ((rd p0.l (zw (p0.at_+1))).Text),zi v25.1,zM 4 w61 1 l60] 0 205,.rows (l60.map (eInt .i64)) 1 w61 2]
         refine W.seq ?_
         replace ⟨h78,hm⟩:=zaA hm
         refine W.saJ [] [] [] 0 5 [0,8,121] zaP ?_
         refine W.cn hm ?_ ?_ <;> clear hm <;> intro hb79 hm
         ·refine W.skip (W.block (W.seq (W.sa 5 [0,8,127] ?_)))
          refine W.cn hm ?_ ?_ <;> clear hm <;> intro hb80 hm
          ·replace ⟨h81,hm⟩:=zaA hm
           replace ⟨v82,h83,hm⟩:=zai hm
           refine W.saJ [11] [] [] 0 1 [4] zaP ?_ (hrun:=RC (zaG h83) [0])
           cases hm
           obtain rfl:=hx _ rfl
           exact W.wk ⟨[],[]⟩ [(4,.bool v82.1)] [.cells (zas v82.2) 0 106] (W.ret (show _/\_ from ⟨rfl,rfl,rfl⟩))
          ·refine W.skip ?_
           replace ⟨h84,hm⟩:=zaA hm
           replace ⟨v85,h86,hm⟩:=zai hm
           have kh86:=zcx h86
           try simp only [hb1,hb4,hb8,hb13,hb18,hb22,hb27,hb79,hb80] at kh86
           refine W.saJ [] [] [] 0 5 [0,8,11] zaP ?_ (hd:=zf3 [[],[0],[0,1],[0,1,2],[],[4],[4,5],[4,5,6],[0,1,2,3,4,5,6,7],[0,1,2,3,4,5,6,7,8],[0,1,2,3,4,5,6,7,8,9],[0,1,2,3,4,5,6,7,8,9,10],[0,1,2,3,4,5,6,7,8,9,10,11],[0,1,2,3,4,5,6,7,8,9,10,11,12],[0,1,2,3,4,5,6,7,8,9,10,11,12],[0,1,2,3,4,5,6,7,8,9,10,11,12,13],[0,1,2,3,4,5,6,7,8,9,10,11,12,13,14,15]] (by kernel_rfl) (by kernel_rfl) (by kernel_rfl))
           replace ⟨h87,hm⟩:=zaA hm
           replace ⟨l88,h89,hm⟩:=zaY hm
           refine W.sq [] [(0,.ptr 0 0 0),(8,.ptr 3 0 0)] [.cells [.sl (v16.2.2.l.map zab),zi i59,.zBx (v16.2.2.p.zSy.map zaf) 3 205,.zBx (v16.2.2.p.zTh.map zad) 1 121,.zBx (v16.2.2.b.map zae) 8 199,zi v16.2.2.f.Code,zi v16.2.2.f.Line,zi v16.2.2.f.Col] 0 106,.dead,.dead,.cells [.str ((rd p0.l (zw (p0.at_+1))).Text),zi v25.1,.msl 4 (w61+1) 0 1 l88.length l88.length] 0 205,.rows (l88.map (eInt .i64)) 1 (w61+1) 2] ?_
           clear h89
           refine W.rg [] [(0,.ptr 0 0 0),(8,.ptr 3 0 0)] [.cells [.sl (v16.2.2.l.map zab),zi (zw (i59+1)),.zBx (v16.2.2.p.zSy.map zaf) 3 205,.zBx (v16.2.2.p.zTh.map zad) 1 121,.zBx (v16.2.2.b.map zae) 8 199,zi v16.2.2.f.Code,zi v16.2.2.f.Line,zi v16.2.2.f.Col] 0 106,.dead,.dead,.cells [.str ((rd p0.l (zw (p0.at_+1))).Text),zi v25.1,.msl 4 (w61+1) 0 1 l88.length l88.length] 0 205,.rows (l88.map (eInt .i64)) 1 (w61+1) 2] ?_
           cases hm
           exact ⟨((zw (i59+1)),l88),(w61+1),⟨[],[]⟩,rfl,RO⟩
         ·cases hm
          obtain rfl:=hx _ rfl
          exact W.wk ⟨[],[]⟩ [(0,.ptr 0 0 0),(8,.ptr 3 0 0)] [.cells [.sl (v16.2.2.l.map zab),zi i59,.zBx (v16.2.2.p.zSy.map zaf) 3 205,.zBx (v16.2.2.p.zTh.map zad) 1 121,.zBx (v16.2.2.b.map zae) 8 199,zi v16.2.2.f.Code,zi v16.2.2.f.Line,zi v16.2.2.f.Col] 0 106,.dead,.dead,.cells [.str ((rd p0.l (zw (p0.at_+1))).Text),zi v25.1,zM 4 w61 1 l60] 0 205,.rows (l60.map (eInt .i64)) 1 w61 2] (W.exit (show _/\_ from ⟨rfl,w61,rfl,rfl⟩))
        ·intro e0 s0 h0 hq
         rcases r77 with er77 | qr77
         ·obtain ⟨rfl,w76,rfl,rfl⟩:=hq
          replace hm:=zdC hm
          show WK _ _ _ _ _ [(0,.ptr 0 0 0),(8,.ptr 3 0 0)] [.cells [.sl (v16.2.2.l.map zab),zi er77.1,.zBx (v16.2.2.p.zSy.map zaf) 3 205,.zBx (v16.2.2.p.zTh.map zad) 1 121,.zBx (v16.2.2.b.map zae) 8 199,zi v16.2.2.f.Code,zi v16.2.2.f.Line,zi v16.2.2.f.Col] 0 106,.dead,.dead,.cells [.str ((rd p0.l (zw (p0.at_+1))).Text),zi v25.1,zM 4 w76 1 er77.2] 0 205,.rows (er77.2.map (eInt .i64)) 1 w76 2]
          replace ⟨h90,hm⟩:=zaA hm
          replace ⟨l91,h92,hm⟩:=zaY hm
          refine W.wk ⟨[4],[.foc 0 0 2]⟩ [(0,.ptr 0 0 0),(8,.ptr 3 0 0)] [.cells [.sl (v16.2.2.l.map zab),zi er77.1,zM 5 1 3 v16.2.2.p.zSy,.zBx (v16.2.2.p.zTh.map zad) 1 121,.zBx (v16.2.2.b.map zae) 8 199,zi v16.2.2.f.Code,zi v16.2.2.f.Line,zi v16.2.2.f.Col] 0 106,.dead,.dead,.cells [.str ((rd p0.l (zw (p0.at_+1))).Text),zi v25.1,.sl (er77.2.map (eInt .i64))] 0 205,.dead,.rows (v16.2.2.p.zSy.map zaf) 3 1 205] ?_
          refine W.sqLG [.light,.light,.light,.light,.light,.light,.light,.lit,.app,.light,.light,.light,.store] [([],[]),([],[]),([],[]),([],[]),([],[]),([0],[]),([3],[]),([],[]),([5],[5]),([],[]),([],[]),([],[]),([0],[0])] [] [.fol 0 0 2] [(0,.ptr 0 0 0)] [.cells [.sl (v16.2.2.l.map zab),zi er77.1,.zBx (l91.map zaf) 3 205,.zBx (v16.2.2.p.zTh.map zad) 1 121,.zBx (v16.2.2.b.map zae) 8 199,zi v16.2.2.f.Code,zi v16.2.2.f.Line,zi v16.2.2.f.Col] 0 106] zaP ?_
          clear h92
          replace ⟨v93,h94,hm⟩:=zai hm
          refine W.sa 1 [4] ?_ (hrun:=RC (zcY h94) [0])
          cases hm
          exact W.rt
         ·obtain ⟨rfl,rfl,rfl⟩:=hq
          replace hm:=zdB hm
          cases hm
          exact zgn.retW ⟨[],[]⟩ RO
theorem zau{p0:zaa}{p1:Int}{p2:zac}{w1_:Nat}{r:Bool × zaa}(hm:zaw p0 p1 p2=some r):HF Tryz.prog 106 [.ptr 0 0 0,zi p1,.agg [zi p2.Kind,zi p2.Line,zi p2.Col,.str p2.Text]] [.cells [.sl (p0.l.map zab),zi p0.at_,.zBx (p0.p.zSy.map zaf) 3 205,.zBx (p0.p.zTh.map zad) 1 121,zM 1 w1_ 8 p0.b,zi p0.f.Code,zi p0.f.Line,zi p0.f.Col] 0 106,.rows (p0.b.map zae) 8 w1_ 199] (.bool r.1) [.cells [.sl (r.2.l.map zab),zi r.2.at_,.zBx (r.2.p.zSy.map zaf) 3 205,.zBx (r.2.p.zTh.map zad) 1 121,zM 1 w1_ 8 p0.b,zi r.2.f.Code,zi r.2.f.Line,zi r.2.f.Col] 0 106,.rows (p0.b.map zae) 8 w1_ 199]:=by
 rw [zaw] at hm
 refine HF.of Tryz.func106 rfl Tryz.ntmps106 (Nat.le_of_ble_eq_true rfl) rfl ?_
 refine W.sa 3 [0,1,5] ?_
 refine W.sa 2 [] ?_
 refine W.sa 2 [6] ?_
 cases hm
 exact W.rt
theorem zeU{p0:zaa}{w1_:Nat}{r:Bool × zaa}(hm:zb8 p0=some r):HF Tryz.prog 107 [.ptr 0 0 0] [.cells [.sl (p0.l.map zab),zi p0.at_,.zBx (p0.p.zSy.map zaf) 3 205,.zBx (p0.p.zTh.map zad) 1 121,zM 1 w1_ 8 p0.b,zi p0.f.Code,zi p0.f.Line,zi p0.f.Col] 0 106,.rows (p0.b.map zae) 8 w1_ 199] (.bool r.1) [.cells [.sl (r.2.l.map zab),zi r.2.at_,.zBx (r.2.p.zSy.map zaf) 3 205,.zBx (r.2.p.zTh.map zad) 1 121,zM 1 w1_ 8 p0.b,zi r.2.f.Code,zi r.2.f.Line,zi r.2.f.Col] 0 106,.rows (p0.b.map zae) 8 w1_ 199]:=by
 rw [zb8] at hm
 refine HF.of Tryz.func107 rfl Tryz.ntmps107 (Nat.le_of_ble_eq_true rfl) rfl ?_
 refine W.sa 2 [0] ?_
 refine W.seq ?_
 replace ⟨h1,hm⟩:=zaA hm
 refine W.saJ [] [] [] 0 2 [0,14] zaP ?_
 refine W.cn hm ?_ ?_ <;> clear hm <;> intro hb2 hm
 ·replace ⟨h3,hm⟩:=zaA hm
  replace ⟨v4,h5,hm⟩:=zai hm
  refine W.saJ [11] [] [] 0 2 [2] zaP ?_ (hrun:=RC (zau (w1_:=w1_) h5) [0,1])
  cases hm
  exact W.rt
 ·refine W.skip (W.sa 2 [] ?_)
  refine W.sa 2 [2] ?_
  cases hm
  exact W.rt
theorem zbd{p0:zaa}{p1:Int}{p2:ByteArray}{w1_:Nat}{r:Bool × zaa}(hm:zaN p0 p1 p2=some r):HF Tryz.prog 169 [.ptr 0 0 0,zi p1,.str p2] [.cells [.sl (p0.l.map zab),zi p0.at_,.zBx (p0.p.zSy.map zaf) 3 205,.zBx (p0.p.zTh.map zad) 1 121,zM 1 w1_ 8 p0.b,zi p0.f.Code,zi p0.f.Line,zi p0.f.Col] 0 106,.rows (p0.b.map zae) 8 w1_ 199] (.bool r.1) [.cells [.sl (r.2.l.map zab),zi r.2.at_,.zBx (r.2.p.zSy.map zaf) 3 205,.zBx (r.2.p.zTh.map zad) 1 121,zM 1 w1_ 8 p0.b,zi r.2.f.Code,zi r.2.f.Line,zi r.2.f.Col] 0 106,.rows (p0.b.map zae) 8 w1_ 199]:=by
 rw [zaN] at hm
 refine HF.of Tryz.func169 rfl Tryz.ntmps169 (Nat.le_of_ble_eq_true rfl) rfl ?_
 refine W.sa 2 [0,1,2] ?_
 replace ⟨h1,hm⟩:=zaA hm
 replace ⟨h2,hm⟩:=zaA hm
 refine W.sq [] [(6,.bool (((rd p0.l p1).Kind==3)&&decide ((rd p0.l p1).Text=p2)))] [.cells [.sl (p0.l.map zab),zi p0.at_,.zBx (p0.p.zSy.map zaf) 3 205,.zBx (p0.p.zTh.map zad) 1 121,zM 1 w1_ 8 p0.b,zi p0.f.Code,zi p0.f.Line,zi p0.f.Col] 0 106,.rows (p0.b.map zae) 8 w1_ 199] ?_
 cases hm
 exact W.rt
theorem zdj{p0:zaa}{p1:ByteArray}{w1_:Nat}{r:Int × Bool × zaa}(hm:zbG p0 p1=some r):HF Tryz.prog 168 [.ptr 0 0 0,.str p1] [.cells [.sl (p0.l.map zab),zi p0.at_,.zBx (p0.p.zSy.map zaf) 3 205,.zBx (p0.p.zTh.map zad) 1 121,zM 1 w1_ 8 p0.b,zi p0.f.Code,zi p0.f.Line,zi p0.f.Col] 0 106,.rows (p0.b.map zae) 8 w1_ 199] (.tuple [zi r.1,.bool r.2.1]) [.cells [.sl (r.2.2.l.map zab),zi r.2.2.at_,.zBx (r.2.2.p.zSy.map zaf) 3 205,.zBx (r.2.2.p.zTh.map zad) 1 121,zM 1 w1_ 8 p0.b,zi r.2.2.f.Code,zi r.2.2.f.Line,zi r.2.2.f.Col] 0 106,.rows (p0.b.map zae) 8 w1_ 199]:=by
 rw [zbG] at hm
 refine HF.of Tryz.func168 rfl Tryz.ntmps168 (Nat.le_of_ble_eq_true rfl) rfl ?_
 refine W.sa 2 [0,1] ?_
 refine W.seq (W.wa 3 [0,1] [.foc 0 0 2] ?_)
 refine W.sa 3 [1,12,13,14] ?_
 refine W.block ?_
 replace ⟨r13,hlr13,hm⟩:=zai hm
 refine W.mono (Q:=fun e0 s0 h0=>match r13 with | .inl e=>e0=.exit 0/\∃w:Unit,s0=[]/\h0=[.cells [.sl (p0.l.map zab),zi p0.at_,.zBx (p0.p.zSy.map zaf) 3 205,.zBx (p0.p.zTh.map zad) 1 121,zM 1 w1_ 8 p0.b,zi p0.f.Code,zi p0.f.Line,zi p0.f.Col] 0 106,.rows (p0.b.map zae) 8 w1_ 199] | .inr q=>e0=.ret/\s0=[(4,zi q.1),(5,.bool q.2.1)]/\h0=[.cells [.sl (q.2.2.l.map zab),zi q.2.2.at_,.zBx (q.2.2.p.zSy.map zaf) 3 205,.zBx (q.2.2.p.zTh.map zad) 1 121,zM 1 w1_ 8 p0.b,zi q.2.2.f.Code,zi q.2.2.f.Line,zi q.2.2.f.Col] 0 106,.rows (p0.b.map zae) 8 w1_ 199]) (W.loopM (step:=zb5 p0 p1) (a0:=0) (fun (a:Int) (v:Unit)=>([(1,.str p1),(12,zM 2 1 3 p0.p.zSy),(13,zi (p0.p.zSy.length:Int)),(14,zi a)],[.cells [.sl (p0.l.map zab),zi p0.at_,zM 2 1 3 p0.p.zSy,.zBx (p0.p.zTh.map zad) 1 121,zM 1 w1_ 8 p0.b,zi p0.f.Code,zi p0.f.Line,zi p0.f.Col] 0 106,.rows (p0.b.map zae) 8 w1_ 199,.rows (p0.p.zSy.map zaf) 3 1 205])) () hlr13 ⟨[],[]⟩ RO ?_) ?_
 ·rintro i9 _ x hm hx
  rw [zb5] at hm
  show WK _ _ _ _ _ [(1,.str p1),(12,zM 2 1 3 p0.p.zSy),(13,zi (p0.p.zSy.length:Int)),(14,zi i9)] [.cells [.sl (p0.l.map zab),zi p0.at_,zM 2 1 3 p0.p.zSy,.zBx (p0.p.zTh.map zad) 1 121,zM 1 w1_ 8 p0.b,zi p0.f.Code,zi p0.f.Line,zi p0.f.Col] 0 106,.rows (p0.b.map zae) 8 w1_ 199,.rows (p0.p.zSy.map zaf) 3 1 205]
  refine W.sa 3 [1,12,13,14,15] ?_
  refine W.seq ?_
  refine W.cn hm ?_ ?_ <;> clear hm <;> intro hb14 hm
  ·refine W.skip (W.seq (W.block ?_))
   replace ⟨h15,hm⟩:=zaA hm
   refine W.sa 4 [1,6,7,12,13,14] ?_
   refine W.sa 3 [1,6,12,13,14,22] ?_
   refine W.cn hm ?_ ?_ <;> clear hm <;> intro hb16 hm
   ·refine W.sa 2 [4,5] ?_ [.fol 0 0 2]
    cases hm
    obtain rfl:=hx _ rfl
    exact W.wk ⟨[],[]⟩ [(4,zi i9),(5,.bool true)] [.cells [.sl (p0.l.map zab),zi p0.at_,.zBx (p0.p.zSy.map zaf) 3 205,.zBx (p0.p.zTh.map zad) 1 121,zM 1 w1_ 8 p0.b,zi p0.f.Code,zi p0.f.Line,zi p0.f.Col] 0 106,.rows (p0.b.map zae) 8 w1_ 199] (W.ret (show _/\_ from ⟨rfl,rfl,rfl⟩))
   ·refine W.skip (W.rg [] [(1,.str p1),(12,zM 2 1 3 p0.p.zSy),(13,zi (p0.p.zSy.length:Int)),(14,zi (zw (i9+1)))] [.cells [.sl (p0.l.map zab),zi p0.at_,zM 2 1 3 p0.p.zSy,.zBx (p0.p.zTh.map zad) 1 121,zM 1 w1_ 8 p0.b,zi p0.f.Code,zi p0.f.Line,zi p0.f.Col] 0 106,.rows (p0.b.map zae) 8 w1_ 199,.rows (p0.p.zSy.map zaf) 3 1 205] ?_)
    cases hm
    exact ⟨(zw (i9+1)),(),⟨[],[]⟩,rfl,RO⟩
  ·cases hm
   obtain rfl:=hx _ rfl
   exact W.wk ⟨[],[.fol 0 0 2]⟩ [] [.cells [.sl (p0.l.map zab),zi p0.at_,.zBx (p0.p.zSy.map zaf) 3 205,.zBx (p0.p.zTh.map zad) 1 121,zM 1 w1_ 8 p0.b,zi p0.f.Code,zi p0.f.Line,zi p0.f.Col] 0 106,.rows (p0.b.map zae) 8 w1_ 199] (W.exit (show _/\_ from ⟨rfl,(),rfl,rfl⟩))
 ·intro e0 s0 h0 hq
  rcases r13 with er13 | qr13
  ·obtain ⟨rfl,_,rfl,rfl⟩:=hq
   replace hm:=zdC hm
   show WK _ _ _ _ _ [] [.cells [.sl (p0.l.map zab),zi p0.at_,.zBx (p0.p.zSy.map zaf) 3 205,.zBx (p0.p.zTh.map zad) 1 121,zM 1 w1_ 8 p0.b,zi p0.f.Code,zi p0.f.Line,zi p0.f.Col] 0 106,.rows (p0.b.map zae) 8 w1_ 199]
   refine W.sa 2 [4,5] ?_
   cases hm
   exact W.rt
  ·obtain ⟨rfl,rfl,rfl⟩:=hq
   replace hm:=zdB hm
   cases hm
   exact zgn.retW ⟨[],[]⟩ RO
theorem zej{p0:zaa}{p1:Int}{p2:zao}{w1_:Nat}{r:Bool × zaa × zao}(hm:zbM p0 p1 p2=some r):HF Tryz.prog 254 [.ptr 0 0 0,zi p1,.ptr 2 0 3] [.cells [.sl (p0.l.map zab),zi p0.at_,.zBx (p0.p.zSy.map zaf) 3 205,.zBx (p0.p.zTh.map zad) 1 121,zM 1 w1_ 8 p0.b,zi p0.f.Code,zi p0.f.Line,zi p0.f.Col] 0 106,.rows (p0.b.map zae) 8 w1_ 199,.cells (zaD p2) 0 203] (.bool r.1) [.cells [.sl (r.2.1.l.map zab),zi r.2.1.at_,.zBx (r.2.1.p.zSy.map zaf) 3 205,.zBx (r.2.1.p.zTh.map zad) 1 121,zM 1 w1_ 8 p0.b,zi r.2.1.f.Code,zi r.2.1.f.Line,zi r.2.1.f.Col] 0 106,.rows (p0.b.map zae) 8 w1_ 199,.cells (zaD r.2.2) 0 203]:=by
 rw [zbM] at hm
 refine HF.of Tryz.func254 rfl Tryz.ntmps254 (Nat.le_of_ble_eq_true rfl) rfl ?_
 refine W.sa 3 [0,1,2] ?_
 replace ⟨h1,hm⟩:=zaA hm
 refine W.saJ [10,11] [10,11] [0,1,2,3,4,5,6,7,8,9] 3 4 [0,1,2,7] zaP ?_
 refine W.seq (W.sa 4 [0,1,2,7,24] ?_)
 refine W.cn hm ?_ ?_ <;> clear hm <;> intro hb2 hm
 ·replace ⟨v3,h4,hm⟩:=zai hm
  have kh4:=zcx h4
  try simp only [hb2] at kh4
  refine W.sa 4 [0,1,2,7,8] ?_
  refine W.seq ?_
  replace ⟨h5,hm⟩:=zaA hm
  refine W.wa 5 [0,1,2,7,8] [.foc 0 0 2] ?_
  refine W.sqG [] [.fol 0 0 2] [(0,.ptr 0 0 0),(1,zi p1),(2,.ptr 2 0 3),(7,.ptr 3 0 0),(8,zi v3.1),(45,.bool (decide (v3.1<0)||decide (v3.1≥(rd p0.p.zSy p1).Size)))] [.cells [.sl (p0.l.map zab),zi p0.at_,.zBx (p0.p.zSy.map zaf) 3 205,.zBx (p0.p.zTh.map zad) 1 121,zM 1 w1_ 8 p0.b,zi p0.f.Code,zi p0.f.Line,zi p0.f.Col] 0 106,.rows (p0.b.map zae) 8 w1_ 199,.cells (zaD p2) 0 203,.cells (zab (rd p0.l p0.at_)) 0 192] ?_
  refine W.cn hm ?_ ?_ <;> clear hm <;> intro hb6 hm
  ·replace ⟨v7,h8,hm⟩:=zai hm
   refine W.sa 3 [6] ?_ (hrun:=RC (zau (w1_:=w1_) h8) [0,1])
   cases hm
   exact W.rt
  ·refine W.skip (W.sa 3 [0] ?_)
   refine W.sa 3 [] ?_
   refine W.sa 3 [6] ?_
   cases hm
   exact W.rt
 ·refine W.skip ?_
  replace ⟨v9,h10,hm⟩:=zai hm
  have kh10:=zdt h10
  try simp only [hb2] at kh10
  refine W.sa 4 [0,1,2,7,10,11] ?_
  refine W.seq (W.sq [] [(0,.ptr 0 0 0),(1,zi p1),(2,.ptr 2 0 3),(7,.ptr 3 0 0),(10,zi v9.1),(73,.bool (((rd p0.l p0.at_).Kind != 1)||(!v9.2)))] [.cells [.sl (p0.l.map zab),zi p0.at_,.zBx (p0.p.zSy.map zaf) 3 205,.zBx (p0.p.zTh.map zad) 1 121,zM 1 w1_ 8 p0.b,zi p0.f.Code,zi p0.f.Line,zi p0.f.Col] 0 106,.rows (p0.b.map zae) 8 w1_ 199,.cells (zaD p2) 0 203,.cells (zab (rd p0.l p0.at_)) 0 192] ?_)
  refine W.cn hm ?_ ?_ <;> clear hm <;> intro hb11 hm
  ·replace ⟨v12,h13,hm⟩:=zai hm
   refine W.sa 3 [6] ?_ (hrun:=RC (zau (w1_:=w1_) h13) [0,1])
   cases hm
   exact W.rt
  ·refine W.skip (W.sa 3 [0] ?_)
   refine W.sa 3 [] ?_
   refine W.sa 3 [6] ?_
   cases hm
   exact W.rt
theorem zei{p0:zaa}{p1:Int}{p2:zao}{w1_:Nat}{r:Bool × zaa × zao}(hm:zbL p0 p1 p2=some r):HF Tryz.prog 254 [.ptr 0 0 0,zi p1,.ptr 2 0 7] [.cells [.sl (p0.l.map zab),zi p0.at_,.zBx (p0.p.zSy.map zaf) 3 205,.zBx (p0.p.zTh.map zad) 1 121,zM 1 w1_ 8 p0.b,zi p0.f.Code,zi p0.f.Line,zi p0.f.Col] 0 106,.rows (p0.b.map zae) 8 w1_ 199,.cells (zaD p2) 0 203] (.bool r.1) [.cells [.sl (r.2.1.l.map zab),zi r.2.1.at_,.zBx (r.2.1.p.zSy.map zaf) 3 205,.zBx (r.2.1.p.zTh.map zad) 1 121,zM 1 w1_ 8 p0.b,zi r.2.1.f.Code,zi r.2.1.f.Line,zi r.2.1.f.Col] 0 106,.rows (p0.b.map zae) 8 w1_ 199,.cells (zaD r.2.2) 0 203]:=by
 rw [zbL] at hm
 refine HF.of Tryz.func254 rfl Tryz.ntmps254 (Nat.le_of_ble_eq_true rfl) rfl ?_
 refine W.sa 3 [0,1,2] ?_
 replace ⟨h1,hm⟩:=zaA hm
 refine W.saJ [10,11] [10,11] [0,1,2,3,4,5,6,7,8,9] 3 4 [0,1,2,7] zaP ?_
 refine W.seq (W.sa 4 [0,1,2,7,24] ?_)
 refine W.cn hm ?_ ?_ <;> clear hm <;> intro hb2 hm
 ·replace ⟨v3,h4,hm⟩:=zai hm
  have kh4:=zcx h4
  try simp only [hb2] at kh4
  refine W.sa 4 [0,1,2,7,8] ?_
  refine W.seq ?_
  replace ⟨h5,hm⟩:=zaA hm
  refine W.wa 5 [0,1,2,7,8] [.foc 0 0 2] ?_
  refine W.sqG [] [.fol 0 0 2] [(0,.ptr 0 0 0),(1,zi p1),(2,.ptr 2 0 7),(7,.ptr 3 0 0),(8,zi v3.1),(45,.bool (decide (v3.1<0)||decide (v3.1≥(rd p0.p.zSy p1).Size)))] [.cells [.sl (p0.l.map zab),zi p0.at_,.zBx (p0.p.zSy.map zaf) 3 205,.zBx (p0.p.zTh.map zad) 1 121,zM 1 w1_ 8 p0.b,zi p0.f.Code,zi p0.f.Line,zi p0.f.Col] 0 106,.rows (p0.b.map zae) 8 w1_ 199,.cells (zaD p2) 0 203,.cells (zab (rd p0.l p0.at_)) 0 192] ?_
  refine W.cn hm ?_ ?_ <;> clear hm <;> intro hb6 hm
  ·replace ⟨v7,h8,hm⟩:=zai hm
   refine W.sa 3 [6] ?_ (hrun:=RC (zau (w1_:=w1_) h8) [0,1])
   cases hm
   exact W.rt
  ·refine W.skip (W.sa 3 [0] ?_)
   refine W.sa 3 [] ?_
   refine W.sa 3 [6] ?_
   cases hm
   exact W.rt
 ·refine W.skip ?_
  replace ⟨v9,h10,hm⟩:=zai hm
  have kh10:=zdt h10
  try simp only [hb2] at kh10
  refine W.sa 4 [0,1,2,7,10,11] ?_
  refine W.seq (W.sq [] [(0,.ptr 0 0 0),(1,zi p1),(2,.ptr 2 0 7),(7,.ptr 3 0 0),(10,zi v9.1),(73,.bool (((rd p0.l p0.at_).Kind != 1)||(!v9.2)))] [.cells [.sl (p0.l.map zab),zi p0.at_,.zBx (p0.p.zSy.map zaf) 3 205,.zBx (p0.p.zTh.map zad) 1 121,zM 1 w1_ 8 p0.b,zi p0.f.Code,zi p0.f.Line,zi p0.f.Col] 0 106,.rows (p0.b.map zae) 8 w1_ 199,.cells (zaD p2) 0 203,.cells (zab (rd p0.l p0.at_)) 0 192] ?_)
  refine W.cn hm ?_ ?_ <;> clear hm <;> intro hb11 hm
  ·replace ⟨v12,h13,hm⟩:=zai hm
   refine W.sa 3 [6] ?_ (hrun:=RC (zau (w1_:=w1_) h13) [0,1])
   cases hm
   exact W.rt
  ·refine W.skip (W.sa 3 [0] ?_)
   refine W.sa 3 [] ?_
   refine W.sa 3 [6] ?_
   cases hm
   exact W.rt
theorem zd6{p0:zaa}{p1:zao}{w1_:Nat}{r:Bool × zaa × zao}(hm:zbr p0 p1=some r):HF Tryz.prog 233 [.ptr 0 0 0,.ptr 2 0 3] [.cells [.sl (p0.l.map zab),zi p0.at_,.zBx (p0.p.zSy.map zaf) 3 205,.zBx (p0.p.zTh.map zad) 1 121,zM 1 w1_ 8 p0.b,zi p0.f.Code,zi p0.f.Line,zi p0.f.Col] 0 106,.rows (p0.b.map zae) 8 w1_ 199,.cells (zaD p1) 0 203] (.bool r.1) [.cells [.sl (r.2.1.l.map zab),zi r.2.1.at_,.zBx (r.2.1.p.zSy.map zaf) 3 205,.zBx (r.2.1.p.zTh.map zad) 1 121,zM 1 w1_ 8 p0.b,zi r.2.1.f.Code,zi r.2.1.f.Line,zi r.2.1.f.Col] 0 106,.rows (p0.b.map zae) 8 w1_ 199,.cells (zaD r.2.2) 0 203]:=by
 rw [zbr] at hm
 refine HF.of Tryz.func233 rfl Tryz.ntmps233 (Nat.le_of_ble_eq_true rfl) rfl ?_
 refine W.sa 3 [0,1] ?_
 replace ⟨h1,hm⟩:=zaA hm
 refine W.saJ [10,11] [10,11] [0,1,2,3,4,5,6,7,8,9] 3 4 [0,1,5] zaP ?_
 refine W.seq (W.sa 4 [0,1,5,24] ?_)
 refine W.cn hm ?_ ?_ <;> clear hm <;> intro hb2 hm
 ·replace ⟨v3,h4,hm⟩:=zai hm
  have kh4:=zcx h4
  try simp only [hb2] at kh4
  refine W.sa 3 [0,1,6] ?_
  refine W.sa 3 [0] ?_
  refine W.sa 3 [] ?_
  refine W.sa 3 [4] ?_
  cases hm
  exact W.rt
 ·refine W.skip (W.seq (W.sa 4 [0,1,5,44] ?_))
  refine W.cn hm ?_ ?_ <;> clear hm <;> intro hb5 hm
  ·replace ⟨v6,h7,hm⟩:=zai hm
   refine W.sa 3 [4] ?_ (hrun:=RC (zau (w1_:=w1_) h7) [0,1])
   cases hm
   exact W.rt
  ·refine W.skip (W.seq ?_)
   replace ⟨v8,h9,hm⟩:=zai hm
   have kh9:=zdt h9
   try simp only [hb2,hb5] at kh9
   refine W.sa 4 [0,1,5,8,9] ?_
   refine W.sa 4 [0,1,5,8,54] ?_
   refine W.cn hm ?_ ?_ <;> clear hm <;> intro hb10 hm
   ·refine W.sa 3 [0] ?_
    refine W.sa 3 [] ?_
    refine W.sa 3 [4] ?_
    cases hm
    exact W.rt
   ·refine W.skip (W.seq ?_)
    replace ⟨v11,h12,hm⟩:=zai hm
    have kh12:=zcI h12
    try simp only [hb2,hb5,hb10] at kh12
    refine W.sa 4 [0,1,5,68] ?_
    refine W.cn hm ?_ ?_ <;> clear hm <;> intro hb13 hm
    ·replace ⟨v14,h15,hm⟩:=zai hm
     refine W.sa 3 [4] ?_ (hrun:=RC (zau (w1_:=w1_) h15) [0,1])
     cases hm
     exact W.rt
    ·refine W.skip ?_
     replace ⟨v16,h17,hm⟩:=zai hm
     refine W.sa 4 [0,1,5,10,11] ?_ (hrun:=RC (zdj (w1_:=w1_) h17) [0,1])
     refine W.seq (W.sa 4 [0,1,5,10,80] ?_)
     refine W.cn hm ?_ ?_ <;> clear hm <;> intro hb18 hm
     ·replace ⟨v19,h20,hm⟩:=zai hm
      refine W.sa 3 [4] ?_ (hrun:=RC (zau (w1_:=w1_) h20) [0,1])
      cases hm
      exact W.rt
     ·refine W.skip (W.sa 3 [0,1,10] ?_)
      refine W.seq ?_
      replace ⟨v21,h22,hm⟩:=zai hm
      refine W.sa 3 [0,1,10,97] ?_ (hrun:=RC (zbd (w1_:=w1_) h22) [0,1])
      refine W.cn hm ?_ ?_ <;> clear hm <;> intro hb23 hm
      ·replace ⟨h24,hm⟩:=zaA hm
       replace ⟨v25,h26,hm⟩:=zai hm
       refine W.saJ [11] [] [] 0 3 [4] zaP ?_ (hrun:=RC (zau (w1_:=w1_) h26) [0,1])
       cases hm
       exact W.rt
      ·refine W.skip (W.sa 3 [0,1,10] ?_)
       refine W.seq ?_
       replace ⟨v27,h28,hm⟩:=zai hm
       refine W.sa 3 [0,121] ?_ (hrun:=RC (zej (w1_:=w1_) h28) [0,1,2])
       refine W.cn hm ?_ ?_ <;> clear hm <;> intro hb29 hm
       ·refine W.sa 3 [4] ?_
        cases hm
        exact W.rt
       ·refine W.skip (W.seq ?_)
        replace ⟨v30,h31,hm⟩:=zai hm
        refine W.sa 3 [0,128] ?_ (hrun:=RC (zbd (w1_:=w1_) h31) [0,1])
        refine W.cn hm ?_ ?_ <;> clear hm <;> intro hb32 hm
        ·replace ⟨h33,hm⟩:=zaA hm
         replace ⟨v34,h35,hm⟩:=zai hm
         refine W.saJ [11] [] [] 0 3 [4] zaP ?_ (hrun:=RC (zau (w1_:=w1_) h35) [0,1])
         cases hm
         exact W.rt
        ·refine W.skip (W.sa 3 [] ?_)
         refine W.sa 3 [4] ?_
         cases hm
         exact W.rt
theorem zd5{p0:zaa}{p1:zao}{w1_:Nat}{r:Bool × zaa × zao}(hm:zbq p0 p1=some r):HF Tryz.prog 233 [.ptr 0 0 0,.ptr 2 0 7] [.cells [.sl (p0.l.map zab),zi p0.at_,.zBx (p0.p.zSy.map zaf) 3 205,.zBx (p0.p.zTh.map zad) 1 121,zM 1 w1_ 8 p0.b,zi p0.f.Code,zi p0.f.Line,zi p0.f.Col] 0 106,.rows (p0.b.map zae) 8 w1_ 199,.cells (zaD p1) 0 203] (.bool r.1) [.cells [.sl (r.2.1.l.map zab),zi r.2.1.at_,.zBx (r.2.1.p.zSy.map zaf) 3 205,.zBx (r.2.1.p.zTh.map zad) 1 121,zM 1 w1_ 8 p0.b,zi r.2.1.f.Code,zi r.2.1.f.Line,zi r.2.1.f.Col] 0 106,.rows (p0.b.map zae) 8 w1_ 199,.cells (zaD r.2.2) 0 203]:=by
 rw [zbq] at hm
 refine HF.of Tryz.func233 rfl Tryz.ntmps233 (Nat.le_of_ble_eq_true rfl) rfl ?_
 refine W.sa 3 [0,1] ?_
 replace ⟨h1,hm⟩:=zaA hm
 refine W.saJ [10,11] [10,11] [0,1,2,3,4,5,6,7,8,9] 3 4 [0,1,5] zaP ?_
 refine W.seq (W.sa 4 [0,1,5,24] ?_)
 refine W.cn hm ?_ ?_ <;> clear hm <;> intro hb2 hm
 ·replace ⟨v3,h4,hm⟩:=zai hm
  have kh4:=zcx h4
  try simp only [hb2] at kh4
  refine W.sa 3 [0,1,6] ?_
  refine W.sa 3 [0] ?_
  refine W.sa 3 [] ?_
  refine W.sa 3 [4] ?_
  cases hm
  exact W.rt
 ·refine W.skip (W.seq (W.sa 4 [0,1,5,44] ?_))
  refine W.cn hm ?_ ?_ <;> clear hm <;> intro hb5 hm
  ·replace ⟨v6,h7,hm⟩:=zai hm
   refine W.sa 3 [4] ?_ (hrun:=RC (zau (w1_:=w1_) h7) [0,1])
   cases hm
   exact W.rt
  ·refine W.skip (W.seq ?_)
   replace ⟨v8,h9,hm⟩:=zai hm
   have kh9:=zdt h9
   try simp only [hb2,hb5] at kh9
   refine W.sa 4 [0,1,5,8,9] ?_
   refine W.sa 4 [0,1,5,8,54] ?_
   refine W.cn hm ?_ ?_ <;> clear hm <;> intro hb10 hm
   ·refine W.sa 3 [0] ?_
    refine W.sa 3 [] ?_
    refine W.sa 3 [4] ?_
    cases hm
    exact W.rt
   ·refine W.skip (W.seq ?_)
    replace ⟨v11,h12,hm⟩:=zai hm
    have kh12:=zcI h12
    try simp only [hb2,hb5,hb10] at kh12
    refine W.sa 4 [0,1,5,68] ?_
    refine W.cn hm ?_ ?_ <;> clear hm <;> intro hb13 hm
    ·replace ⟨v14,h15,hm⟩:=zai hm
     refine W.sa 3 [4] ?_ (hrun:=RC (zau (w1_:=w1_) h15) [0,1])
     cases hm
     exact W.rt
    ·refine W.skip ?_
     replace ⟨v16,h17,hm⟩:=zai hm
     refine W.sa 4 [0,1,5,10,11] ?_ (hrun:=RC (zdj (w1_:=w1_) h17) [0,1])
     refine W.seq (W.sa 4 [0,1,5,10,80] ?_)
     refine W.cn hm ?_ ?_ <;> clear hm <;> intro hb18 hm
     ·replace ⟨v19,h20,hm⟩:=zai hm
      refine W.sa 3 [4] ?_ (hrun:=RC (zau (w1_:=w1_) h20) [0,1])
      cases hm
      exact W.rt
     ·refine W.skip (W.sa 3 [0,1,10] ?_)
      refine W.seq ?_
      replace ⟨v21,h22,hm⟩:=zai hm
      refine W.sa 3 [0,1,10,97] ?_ (hrun:=RC (zbd (w1_:=w1_) h22) [0,1])
      refine W.cn hm ?_ ?_ <;> clear hm <;> intro hb23 hm
      ·replace ⟨h24,hm⟩:=zaA hm
       replace ⟨v25,h26,hm⟩:=zai hm
       refine W.saJ [11] [] [] 0 3 [4] zaP ?_ (hrun:=RC (zau (w1_:=w1_) h26) [0,1])
       cases hm
       exact W.rt
      ·refine W.skip (W.sa 3 [0,1,10] ?_)
       refine W.seq ?_
       replace ⟨v27,h28,hm⟩:=zai hm
       refine W.sa 3 [0,121] ?_ (hrun:=RC (zei (w1_:=w1_) h28) [0,1,2])
       refine W.cn hm ?_ ?_ <;> clear hm <;> intro hb29 hm
       ·refine W.sa 3 [4] ?_
        cases hm
        exact W.rt
       ·refine W.skip (W.seq ?_)
        replace ⟨v30,h31,hm⟩:=zai hm
        refine W.sa 3 [0,128] ?_ (hrun:=RC (zbd (w1_:=w1_) h31) [0,1])
        refine W.cn hm ?_ ?_ <;> clear hm <;> intro hb32 hm
        ·replace ⟨h33,hm⟩:=zaA hm
         replace ⟨v34,h35,hm⟩:=zai hm
         refine W.saJ [11] [] [] 0 3 [4] zaP ?_ (hrun:=RC (zau (w1_:=w1_) h35) [0,1])
         cases hm
         exact W.rt
        ·refine W.skip (W.sa 3 [] ?_)
         refine W.sa 3 [4] ?_
         cases hm
         exact W.rt
theorem zd4{p0:zaa}{p1:zao}{w1_:Nat}{r:zao × Bool × zaa}(hm:za6 p0 p1=some r):HF Tryz.prog 211 [.ptr 0 0 0,.agg [zi p1.Op,.bool p1.Lock,zi p1.Cond,zi p1.A.Kind,zi p1.A.Reg,zi p1.A.Sym,zi p1.A.N,zi p1.B.Kind,zi p1.B.Reg,zi p1.B.Sym,zi p1.B.N,.str p1.To,.sl (p1.zLb.map eStr)]] [.cells [.sl (p0.l.map zab),zi p0.at_,.zBx (p0.p.zSy.map zaf) 3 205,.zBx (p0.p.zTh.map zad) 1 121,zM 1 w1_ 8 p0.b,zi p0.f.Code,zi p0.f.Line,zi p0.f.Col] 0 106,.rows (p0.b.map zae) 8 w1_ 199] (.tuple [.agg [zi r.1.Op,.bool r.1.Lock,zi r.1.Cond,zi r.1.A.Kind,zi r.1.A.Reg,zi r.1.A.Sym,zi r.1.A.N,zi r.1.B.Kind,zi r.1.B.Reg,zi r.1.B.Sym,zi r.1.B.N,.str r.1.To,.sl (r.1.zLb.map eStr)],.bool r.2.1]) [.cells [.sl (r.2.2.l.map zab),zi r.2.2.at_,.zBx (r.2.2.p.zSy.map zaf) 3 205,.zBx (r.2.2.p.zTh.map zad) 1 121,zM 1 w1_ 8 p0.b,zi r.2.2.f.Code,zi r.2.2.f.Line,zi r.2.2.f.Col] 0 106,.rows (p0.b.map zae) 8 w1_ 199]:=by
 rw [za6] at hm
 refine HF.of Tryz.func211 rfl Tryz.ntmps211 (Nat.le_of_ble_eq_true rfl) rfl ?_
 refine W.sa 4 [0,3,4] ?_
 replace ⟨h1,hm⟩:=zaA hm
 refine W.saJ [10,11] [10,11] [0,1,2,3,4,5,6,7,8,9] 4 5 [0,3,4,6] zaP ?_
 refine W.seq ?_
 replace ⟨v2,h3,hm⟩:=zai hm
 refine W.sa 5 [0,3,4,6,21] ?_ (hrun:=RC (zd6 (w1_:=w1_) h3) [0,1,2])
 refine W.cn hm ?_ ?_ <;> clear hm <;> intro hb4 hm
 ·refine W.sa 4 [4,5] ?_
  cases hm
  exact W.rt
 ·refine W.skip (W.sq [] [(0,.ptr 0 0 0),(3,.ptr 2 0 0),(4,.ptr 3 0 0),(6,.ptr 4 0 0),(7,.bool (((v2.2.2.A.Kind==1)&&(!v2.2.2.Lock))&&(v2.2.2.Op != 8)))] [.cells [.sl (v2.2.1.l.map zab),zi v2.2.1.at_,.zBx (v2.2.1.p.zSy.map zaf) 3 205,.zBx (v2.2.1.p.zTh.map zad) 1 121,zM 1 w1_ 8 p0.b,zi v2.2.1.f.Code,zi v2.2.1.f.Line,zi v2.2.1.f.Col] 0 106,.rows (p0.b.map zae) 8 w1_ 199,.cells (zaD v2.2.2) 0 203,.cells [zi 0,.bool false,zi 0,zi 0,zi 0,zi 0,zi 0,zi 0,zi 0,zi 0,zi 0,.str (⟨#[]⟩:ByteArray),.nils] 0 203,.cells (zab (rd p0.l p0.at_)) 0 192] ?_)
  refine W.seq ?_
  replace ⟨b5,h6,hm⟩:=zaY hm
  refine W.sqh [] [(0,.ptr 0 0 0),(3,.ptr 2 0 0),(4,.ptr 3 0 0),(6,.ptr 4 0 0),(50,.bool b5)] ?_
  clear h6
  refine W.cn hm ?_ ?_ <;> clear hm <;> intro hb7 hm
  ·replace ⟨v8,h9,hm⟩:=zai hm
   refine W.sqL [.light,.light,.light,.callh,.store,.light] [([2],[]),([],[]),([4],[]),([0,1],[0,1]),([3],[3]),([],[])] [] [(4,.ptr 3 0 0),(5,.bool v8.1)] [.cells [.sl (v8.2.l.map zab),zi v8.2.at_,.zBx (v8.2.p.zSy.map zaf) 3 205,.zBx (v8.2.p.zTh.map zad) 1 121,zM 1 w1_ 8 p0.b,zi v8.2.f.Code,zi v8.2.f.Line,zi v8.2.f.Col] 0 106,.rows (p0.b.map zae) 8 w1_ 199,.dead,.cells (zaD v2.2.2) 0 203] zaP ?_ (hrun:=?_)
   rotate_left
   ·try simp -implicitDefEqProofs -dsimp only [go_sem,h1,hb4,hb7]
    with_reducible refine exP.mk ⟨[],[0,1],[.ptr 0 0 0,zi 4,.agg [zi ((rd p0.l p0.at_).Kind),zi ((rd p0.l p0.at_).Line),zi ((rd p0.l p0.at_).Col),.str ((rd p0.l p0.at_).Text)]],[.cells [.sl (v2.2.1.l.map zab),zi v2.2.1.at_,.zBx (v2.2.1.p.zSy.map zaf) 3 205,.zBx (v2.2.1.p.zTh.map zad) 1 121,zM 1 w1_ 8 p0.b,zi v2.2.1.f.Code,zi v2.2.1.f.Line,zi v2.2.1.f.Col] 0 106,.rows (p0.b.map zae) 8 w1_ 199],.bool v8.1,[.cells [.sl (v8.2.l.map zab),zi v8.2.at_,.zBx (v8.2.p.zSy.map zaf) 3 205,.zBx (v8.2.p.zTh.map zad) 1 121,zM 1 w1_ 8 p0.b,zi v8.2.f.Code,zi v8.2.f.Line,zi v8.2.f.Col] 0 106,.rows (p0.b.map zae) 8 w1_ 199]⟩ (zgI.of (by simp -implicitDefEqProofs -dsimp only [go_sem,h1,hb4,hb7]) (zau h9)) ?_
    try simp -implicitDefEqProofs -dsimp only [go_sem,h1,hb4,hb7]
   cases hm
   exact W.rt
  ·refine W.skip (W.seq ?_)
   replace ⟨v10,h11,hm⟩:=zai hm
   refine W.sa 5 [0,3,4,6,61] ?_ (hrun:=RC (zbd (w1_:=w1_) h11) [0,1])
   refine W.cn hm ?_ ?_ <;> clear hm <;> intro hb12 hm
   ·replace ⟨h13,hm⟩:=zaA hm
    replace ⟨v14,h15,hm⟩:=zai hm
    refine W.sqL [.light,.light,.light,.light,.light,.light,.light,.light,.light,.light,.light,.light,.callh,.store,.light] [([2],[]),([],[]),([],[]),([],[]),([],[]),([0],[]),([],[]),([],[]),([],[]),([0],[]),([],[]),([],[]),([0,1],[0,1]),([3],[3]),([],[])] [] [(4,.ptr 3 0 0),(5,.bool v14.1)] [.cells [.sl (v14.2.l.map zab),zi v14.2.at_,.zBx (v14.2.p.zSy.map zaf) 3 205,.zBx (v14.2.p.zTh.map zad) 1 121,zM 1 w1_ 8 p0.b,zi v14.2.f.Code,zi v14.2.f.Line,zi v14.2.f.Col] 0 106,.rows (p0.b.map zae) 8 w1_ 199,.dead,.cells (zaD v2.2.2) 0 203] zaP ?_ (hrun:=?_)
    rotate_left
    ·try simp -implicitDefEqProofs -dsimp only [go_sem,h1,hb4,hb7,hb12,h13]
     with_reducible refine exP.mk ⟨[],[0,1],[.ptr 0 0 0,zi 4,.agg [zi ((rd v10.2.l v10.2.at_).Kind),zi ((rd v10.2.l v10.2.at_).Line),zi ((rd v10.2.l v10.2.at_).Col),.str ((rd v10.2.l v10.2.at_).Text)]],[.cells [.sl (v10.2.l.map zab),zi v10.2.at_,.zBx (v10.2.p.zSy.map zaf) 3 205,.zBx (v10.2.p.zTh.map zad) 1 121,zM 1 w1_ 8 p0.b,zi v10.2.f.Code,zi v10.2.f.Line,zi v10.2.f.Col] 0 106,.rows (p0.b.map zae) 8 w1_ 199],.bool v14.1,[.cells [.sl (v14.2.l.map zab),zi v14.2.at_,.zBx (v14.2.p.zSy.map zaf) 3 205,.zBx (v14.2.p.zTh.map zad) 1 121,zM 1 w1_ 8 p0.b,zi v14.2.f.Code,zi v14.2.f.Line,zi v14.2.f.Col] 0 106,.rows (p0.b.map zae) 8 w1_ 199]⟩ (zgI.of (by simp -implicitDefEqProofs -dsimp only [go_sem,h1,hb4,hb7,hb12,h13]) (zau h15)) ?_
     try simp -implicitDefEqProofs -dsimp only [go_sem,h1,hb4,hb7,hb12,h13]
    cases hm
    exact W.rt
   ·refine W.skip (W.sa 5 [0,3,4,6] ?_)
    replace ⟨h16,hm⟩:=zaA hm
    refine W.saJ [10] [] [] 0 5 [0,3,4,6] zaP ?_
    refine W.seq ?_
    replace ⟨v17,h18,hm⟩:=zai hm
    refine W.sa 5 [0,3,4,6,95] ?_ (hrun:=RC (zd5 (w1_:=w1_) h18) [0,1,2])
    refine W.cn hm ?_ ?_ <;> clear hm <;> intro hb19 hm
    ·refine W.sa 4 [4,5] ?_
     cases hm
     exact W.rt
    ·refine W.skip (W.seq ?_)
     replace ⟨v20,h21,hm⟩:=zai hm
     have kh21:=zjs h21
     try simp only [hb4,hb7,hb12,hb19] at kh21
     refine W.sa 5 [0,3,4,6,99] ?_
     refine W.cn hm ?_ ?_ <;> clear hm <;> intro hb22 hm
     ·replace ⟨v23,h24,hm⟩:=zai hm
      refine W.sqL [.light,.light,.light,.callh,.store,.light] [([2],[]),([],[]),([4],[]),([0,1],[0,1]),([3],[3]),([],[])] [] [(4,.ptr 3 0 0),(5,.bool v23.1)] [.cells [.sl (v23.2.l.map zab),zi v23.2.at_,.zBx (v23.2.p.zSy.map zaf) 3 205,.zBx (v23.2.p.zTh.map zad) 1 121,zM 1 w1_ 8 p0.b,zi v23.2.f.Code,zi v23.2.f.Line,zi v23.2.f.Col] 0 106,.rows (p0.b.map zae) 8 w1_ 199,.dead,.cells (zaD v17.2.2) 0 203] zaP ?_ (hrun:=?_)
      rotate_left
      ·try simp -implicitDefEqProofs -dsimp only [go_sem,h1,hb4,hb7,hb12,h16,hb19,hb22]
       with_reducible refine exP.mk ⟨[],[0,1],[.ptr 0 0 0,zi 4,.agg [zi ((rd v10.2.l (zw (v10.2.at_+1))).Kind),zi ((rd v10.2.l (zw (v10.2.at_+1))).Line),zi ((rd v10.2.l (zw (v10.2.at_+1))).Col),.str ((rd v10.2.l (zw (v10.2.at_+1))).Text)]],[.cells [.sl (v17.2.1.l.map zab),zi v17.2.1.at_,.zBx (v17.2.1.p.zSy.map zaf) 3 205,.zBx (v17.2.1.p.zTh.map zad) 1 121,zM 1 w1_ 8 p0.b,zi v17.2.1.f.Code,zi v17.2.1.f.Line,zi v17.2.1.f.Col] 0 106,.rows (p0.b.map zae) 8 w1_ 199],.bool v23.1,[.cells [.sl (v23.2.l.map zab),zi v23.2.at_,.zBx (v23.2.p.zSy.map zaf) 3 205,.zBx (v23.2.p.zTh.map zad) 1 121,zM 1 w1_ 8 p0.b,zi v23.2.f.Code,zi v23.2.f.Line,zi v23.2.f.Col] 0 106,.rows (p0.b.map zae) 8 w1_ 199]⟩ (zgI.of (by simp -implicitDefEqProofs -dsimp only [go_sem,h1,hb4,hb7,hb12,h16,hb19,hb22]) (zau h24)) ?_
       try simp -implicitDefEqProofs -dsimp only [go_sem,h1,hb4,hb7,hb12,h16,hb19,hb22]
      cases hm
      exact W.rt
     ·refine W.skip (W.sa 4 [4,5] ?_)
      cases hm
      exact W.rt
theorem zdv{p0:zaa}{p1:Int}{w1_:Nat}{r:zao × Bool × zaa}(hm:zaW p0 p1=some r):HF Tryz.prog 170 [.ptr 0 0 0,.eptr 1 w1_ 8 p1.toNat 0] [.cells [.sl (p0.l.map zab),zi p0.at_,.zBx (p0.p.zSy.map zaf) 3 205,.zBx (p0.p.zTh.map zad) 1 121,zM 1 w1_ 8 p0.b,zi p0.f.Code,zi p0.f.Line,zi p0.f.Col] 0 106,.rows (p0.b.map zae) 8 w1_ 199] (.tuple [.agg [zi r.1.Op,.bool r.1.Lock,zi r.1.Cond,zi r.1.A.Kind,zi r.1.A.Reg,zi r.1.A.Sym,zi r.1.A.N,zi r.1.B.Kind,zi r.1.B.Reg,zi r.1.B.Sym,zi r.1.B.N,.str r.1.To,.sl (r.1.zLb.map eStr)],.bool r.2.1]) [.cells [.sl (r.2.2.l.map zab),zi r.2.2.at_,.zBx (r.2.2.p.zSy.map zaf) 3 205,.zBx (r.2.2.p.zTh.map zad) 1 121,zM 1 w1_ 8 r.2.2.b,zi r.2.2.f.Code,zi r.2.2.f.Line,zi r.2.2.f.Col] 0 106,.rows (r.2.2.b.map zae) 8 w1_ 199]:=by
 rw [zaW] at hm
 replace ⟨he0,hm⟩:=zaA hm
 refine HF.of Tryz.func170 rfl Tryz.ntmps170 (Nat.le_of_ble_eq_true rfl) rfl ?_
 refine W.sa 3 [0,1,4] ?_
 refine W.sa 4 [0,1,4,6] ?_
 replace ⟨h1,hm⟩:=zaA hm
 refine W.saJ [10,11] [10,11] [0,1,2,3,4,5,6,7,8,9] 4 5 [0,1,4,6,7] zaP ?_
 refine W.seq (W.sa 5 [0,1,4,6,7,24] ?_)
 refine W.cn hm ?_ ?_ <;> clear hm <;> intro hb2 hm
 ·replace ⟨v3,h4,hm⟩:=zai hm
  refine W.sqL [.light,.light,.light,.callh,.store,.light] [([3],[]),([],[]),([4],[]),([0,1],[0,1]),([2],[2]),([],[])] [] [(4,.ptr 2 0 0),(5,.bool v3.1)] [.cells [.sl (v3.2.l.map zab),zi v3.2.at_,.zBx (v3.2.p.zSy.map zaf) 3 205,.zBx (v3.2.p.zTh.map zad) 1 121,zM 1 w1_ 8 p0.b,zi v3.2.f.Code,zi v3.2.f.Line,zi v3.2.f.Col] 0 106,.rows (p0.b.map zae) 8 w1_ 199,.cells [zi 0,.bool false,zi 0,zi 0,zi 0,zi 0,zi 0,zi 0,zi 0,zi 0,zi 0,.str (⟨#[]⟩:ByteArray),.nils] 0 203] zaP ?_ (hrun:=?_)
  rotate_left
  ·try simp -implicitDefEqProofs -dsimp only [go_sem,he0,h1,hb2]
   with_reducible refine exP.mk ⟨[],[0,1],[.ptr 0 0 0,zi 4,.agg [zi ((rd p0.l p0.at_).Kind),zi ((rd p0.l p0.at_).Line),zi ((rd p0.l p0.at_).Col),.str ((rd p0.l p0.at_).Text)]],[.cells [.sl (p0.l.map zab),zi p0.at_,.zBx (p0.p.zSy.map zaf) 3 205,.zBx (p0.p.zTh.map zad) 1 121,zM 1 w1_ 8 p0.b,zi p0.f.Code,zi p0.f.Line,zi p0.f.Col] 0 106,.rows (p0.b.map zae) 8 w1_ 199],.bool v3.1,[.cells [.sl (v3.2.l.map zab),zi v3.2.at_,.zBx (v3.2.p.zSy.map zaf) 3 205,.zBx (v3.2.p.zTh.map zad) 1 121,zM 1 w1_ 8 p0.b,zi v3.2.f.Code,zi v3.2.f.Line,zi v3.2.f.Col] 0 106,.rows (p0.b.map zae) 8 w1_ 199]⟩ (zgI.of (by simp -implicitDefEqProofs -dsimp only [go_sem,he0,h1,hb2]) (zau h4)) ?_
   try simp -implicitDefEqProofs -dsimp only [go_sem,he0,h1,hb2]
  cases hm
  refine W.wk ⟨[],[]⟩ [(4,.ptr 2 0 0),(5,.bool v3.1)] [.cells [.sl (v3.2.l.map zab),zi v3.2.at_,.zBx (v3.2.p.zSy.map zaf) 3 205,.zBx (v3.2.p.zTh.map zad) 1 121,zM 1 w1_ 8 p0.b,zi v3.2.f.Code,zi v3.2.f.Line,zi v3.2.f.Col] 0 106,.rows (p0.b.map zae) 8 w1_ 199,.cells [zi 0,.bool false,zi 0,zi 0,zi 0,zi 0,zi 0,zi 0,zi 0,zi 0,zi 0,.str (⟨#[]⟩:ByteArray),.sl (([]).map eStr)] 0 203] ?_
  exact W.rt
 ·refine W.skip ?_
  refine W.cut (fun s h=>∃(v:Int × Bool × Int × Int × Int × ByteArray) (w:Unit) (F:Gs),zaT p0 p1 v.1 v.2.1 v.2.2.1 v.2.2.2.1 v.2.2.2.2.1 v.2.2.2.2.2=some r/\AT 2 F [(0,.ptr 0 0 0),(1,.eptr 1 w1_ 8 p1.toNat 0),(4,.ptr 2 0 0),(6,.ptr 3 0 0),(7,.ptr 4 0 0)] [.cells [.sl (p0.l.map zab),zi v.1,.zBx (p0.p.zSy.map zaf) 3 205,.zBx (p0.p.zTh.map zad) 1 121,zM 1 w1_ 8 p0.b,zi p0.f.Code,zi p0.f.Line,zi p0.f.Col] 0 106,.rows (p0.b.map zae) 8 w1_ 199,.cells [zi 0,.bool false,zi 0,zi 0,zi 0,zi 0,zi 0,zi 0,zi 0,zi 0,zi 0,.str (⟨#[]⟩:ByteArray),.nils] 0 203,.cells [zi 0,.bool v.2.1,zi 0,zi 0,zi 0,zi 0,zi 0,zi 0,zi 0,zi 0,zi 0,.str (⟨#[]⟩:ByteArray),.nils] 0 203,.cells [zi v.2.2.1,zi v.2.2.2.1,zi v.2.2.2.2.1,.str v.2.2.2.2.2] 0 192] s h) ?_ ?_
  ·refine W.sa 5 [0,1,4,6,7,31] ?_
   refine W.cn hm ?_ ?_ <;> clear hm <;> intro hb37 hm
   ·refine W.sa 5 [0,1,4,6,7] ?_
    refine W.sa 5 [0,1,4,6,7] ?_
    replace ⟨h38,hm⟩:=zaA hm
    refine W.rgJ [10] [] [] 0 [] [(0,.ptr 0 0 0),(1,.eptr 1 w1_ 8 p1.toNat 0),(4,.ptr 2 0 0),(6,.ptr 3 0 0),(7,.ptr 4 0 0)] [.cells [.sl (p0.l.map zab),zi (zw (p0.at_+1)),.zBx (p0.p.zSy.map zaf) 3 205,.zBx (p0.p.zTh.map zad) 1 121,zM 1 w1_ 8 p0.b,zi p0.f.Code,zi p0.f.Line,zi p0.f.Col] 0 106,.rows (p0.b.map zae) 8 w1_ 199,.cells [zi 0,.bool false,zi 0,zi 0,zi 0,zi 0,zi 0,zi 0,zi 0,zi 0,zi 0,.str (⟨#[]⟩:ByteArray),.nils] 0 203,.cells [zi 0,.bool true,zi 0,zi 0,zi 0,zi 0,zi 0,zi 0,zi 0,zi 0,zi 0,.str (⟨#[]⟩:ByteArray),.nils] 0 203,.cells (zab (rd p0.l (zw (p0.at_+1)))) 0 192] zaP ?_
    exact ⟨((zw (p0.at_+1)),true,(rd p0.l (zw (p0.at_+1))).Kind,(rd p0.l (zw (p0.at_+1))).Line,(rd p0.l (zw (p0.at_+1))).Col,(rd p0.l (zw (p0.at_+1))).Text),(),⟨[],[]⟩,hm,RO⟩
   ·refine W.skip ?_
    exact ⟨(p0.at_,false,(rd p0.l p0.at_).Kind,(rd p0.l p0.at_).Line,(rd p0.l p0.at_).Col,(rd p0.l p0.at_).Text),(),⟨[],[]⟩,hm,RO⟩
  ·rintro s h ⟨⟨i5,b6,i7,i9,i10,s11⟩,_,F,hm,hat⟩
   refine W.weak F hat ?_
   show WK _ _ _ _ _ [(0,.ptr 0 0 0),(1,.eptr 1 w1_ 8 p1.toNat 0),(4,.ptr 2 0 0),(6,.ptr 3 0 0),(7,.ptr 4 0 0)] [.cells [.sl (p0.l.map zab),zi i5,.zBx (p0.p.zSy.map zaf) 3 205,.zBx (p0.p.zTh.map zad) 1 121,zM 1 w1_ 8 p0.b,zi p0.f.Code,zi p0.f.Line,zi p0.f.Col] 0 106,.rows (p0.b.map zae) 8 w1_ 199,.cells [zi 0,.bool false,zi 0,zi 0,zi 0,zi 0,zi 0,zi 0,zi 0,zi 0,zi 0,.str (⟨#[]⟩:ByteArray),.nils] 0 203,.cells [zi 0,.bool b6,zi 0,zi 0,zi 0,zi 0,zi 0,zi 0,zi 0,zi 0,zi 0,.str (⟨#[]⟩:ByteArray),.nils] 0 203,.cells [zi i7,zi i9,zi i10,.str s11] 0 192]
   rw [zaT] at hm
   replace ⟨v12,h13,hm⟩:=zai hm
   have kh13:=zhh h13
   try simp only [hb2] at kh13
   refine W.sa 5 [0,1,4,6,7,8,9,10] ?_
   refine W.seq ?_
   replace ⟨b14,h15,hm⟩:=zaY hm
   refine W.sq [] [(0,.ptr 0 0 0),(1,.eptr 1 w1_ 8 p1.toNat 0),(4,.ptr 2 0 0),(6,.ptr 3 0 0),(7,.ptr 4 0 0),(8,zi v12.1),(9,zi v12.2.1),(83,.bool b14)] [.cells [.sl (p0.l.map zab),zi i5,.zBx (p0.p.zSy.map zaf) 3 205,.zBx (p0.p.zTh.map zad) 1 121,zM 1 w1_ 8 p0.b,zi p0.f.Code,zi p0.f.Line,zi p0.f.Col] 0 106,.rows (p0.b.map zae) 8 w1_ 199,.cells [zi 0,.bool false,zi 0,zi 0,zi 0,zi 0,zi 0,zi 0,zi 0,zi 0,zi 0,.str (⟨#[]⟩:ByteArray),.nils] 0 203,.cells [zi 0,.bool b6,zi 0,zi 0,zi 0,zi 0,zi 0,zi 0,zi 0,zi 0,zi 0,.str (⟨#[]⟩:ByteArray),.nils] 0 203,.cells [zi i7,zi i9,zi i10,.str s11] 0 192] ?_
   clear h15
   refine W.cn hm ?_ ?_ <;> clear hm <;> intro hb16 hm
   ·replace ⟨v17,h18,hm⟩:=zai hm
    refine W.sqL [.light,.light,.light,.callh,.store,.light] [([3],[]),([],[]),([4],[]),([0,1],[0,1]),([2],[2]),([],[])] [] [(4,.ptr 2 0 0),(5,.bool v17.1)] [.cells [.sl (v17.2.l.map zab),zi v17.2.at_,.zBx (v17.2.p.zSy.map zaf) 3 205,.zBx (v17.2.p.zTh.map zad) 1 121,zM 1 w1_ 8 p0.b,zi v17.2.f.Code,zi v17.2.f.Line,zi v17.2.f.Col] 0 106,.rows (p0.b.map zae) 8 w1_ 199,.cells [zi 0,.bool b6,zi 0,zi 0,zi 0,zi 0,zi 0,zi 0,zi 0,zi 0,zi 0,.str (⟨#[]⟩:ByteArray),.nils] 0 203] zaP ?_ (hrun:=?_)
    rotate_left
    ·try simp -implicitDefEqProofs -dsimp only [go_sem,he0,h1,hb2,hb16]
     with_reducible refine exP.mk ⟨[],[0,1],[.ptr 0 0 0,zi 4,.agg [zi ((zac.mk i7 i9 i10 s11).Kind),zi ((zac.mk i7 i9 i10 s11).Line),zi ((zac.mk i7 i9 i10 s11).Col),.str ((zac.mk i7 i9 i10 s11).Text)]],[.cells [.sl (p0.l.map zab),zi i5,.zBx (p0.p.zSy.map zaf) 3 205,.zBx (p0.p.zTh.map zad) 1 121,zM 1 w1_ 8 p0.b,zi p0.f.Code,zi p0.f.Line,zi p0.f.Col] 0 106,.rows (p0.b.map zae) 8 w1_ 199],.bool v17.1,[.cells [.sl (v17.2.l.map zab),zi v17.2.at_,.zBx (v17.2.p.zSy.map zaf) 3 205,.zBx (v17.2.p.zTh.map zad) 1 121,zM 1 w1_ 8 p0.b,zi v17.2.f.Code,zi v17.2.f.Line,zi v17.2.f.Col] 0 106,.rows (p0.b.map zae) 8 w1_ 199]⟩ (zgI.of (by simp -implicitDefEqProofs -dsimp only [go_sem,he0,h1,hb2,hb16]) (zau h18)) ?_
     try simp -implicitDefEqProofs -dsimp only [go_sem,he0,h1,hb2,hb16]
    cases hm
    refine W.wk ⟨[],[]⟩ [(4,.ptr 2 0 0),(5,.bool v17.1)] [.cells [.sl (v17.2.l.map zab),zi v17.2.at_,.zBx (v17.2.p.zSy.map zaf) 3 205,.zBx (v17.2.p.zTh.map zad) 1 121,zM 1 w1_ 8 p0.b,zi v17.2.f.Code,zi v17.2.f.Line,zi v17.2.f.Col] 0 106,.rows (p0.b.map zae) 8 w1_ 199,.cells [zi 0,.bool b6,zi 0,zi 0,zi 0,zi 0,zi 0,zi 0,zi 0,zi 0,zi 0,.str (⟨#[]⟩:ByteArray),.sl (([]).map eStr)] 0 203] ?_
    exact W.rt
   ·refine W.skip (W.sa 4 [0,1,4,6,8] ?_)
    refine W.sa 4 [0,1,4,6,8] ?_
    refine W.seq (W.block (W.sq [] [(0,.ptr 0 0 0),(1,.eptr 1 w1_ 8 p1.toNat 0),(4,.ptr 2 0 0),(6,.ptr 3 0 0),(8,zi v12.1),(99,.bool ((v12.1==10)||(v12.1==11)))] [.cells [.sl (p0.l.map zab),zi (zw (i5+1)),.zBx (p0.p.zSy.map zaf) 3 205,.zBx (p0.p.zTh.map zad) 1 121,zM 1 w1_ 8 p0.b,zi p0.f.Code,zi p0.f.Line,zi p0.f.Col] 0 106,.rows (p0.b.map zae) 8 w1_ 199,.cells [zi 0,.bool false,zi 0,zi 0,zi 0,zi 0,zi 0,zi 0,zi 0,zi 0,zi 0,.str (⟨#[]⟩:ByteArray),.nils] 0 203,.cells [zi v12.1,.bool b6,zi v12.2.1,zi 0,zi 0,zi 0,zi 0,zi 0,zi 0,zi 0,zi 0,.str (⟨#[]⟩:ByteArray),.nils] 0 203] ?_))
    refine W.cn hm ?_ ?_ <;> clear hm <;> intro hb19 hm
    ·replace ⟨h20,hm⟩:=zaA hm
     refine W.saJ [10,11] [10,11] [0,1,2,3,4,5,6,7,8,9] 4 5 [0,1,4,6,11] zaP ?_
     refine W.seq (W.sa 5 [0,1,4,6,11,118] ?_)
     refine W.cn hm ?_ ?_ <;> clear hm <;> intro hb21 hm
     ·replace ⟨v22,h23,hm⟩:=zai hm
      refine W.sqL [.light,.light,.light,.callh,.store,.light] [([3],[]),([],[]),([4],[]),([0,1],[0,1]),([2],[2]),([],[])] [] [(4,.ptr 2 0 0),(5,.bool v22.1)] [.cells [.sl (v22.2.l.map zab),zi v22.2.at_,.zBx (v22.2.p.zSy.map zaf) 3 205,.zBx (v22.2.p.zTh.map zad) 1 121,zM 1 w1_ 8 p0.b,zi v22.2.f.Code,zi v22.2.f.Line,zi v22.2.f.Col] 0 106,.rows (p0.b.map zae) 8 w1_ 199,.cells [zi v12.1,.bool b6,zi v12.2.1,zi 0,zi 0,zi 0,zi 0,zi 0,zi 0,zi 0,zi 0,.str (⟨#[]⟩:ByteArray),.nils] 0 203] zaP ?_ (hrun:=?_)
      rotate_left
      ·try simp -implicitDefEqProofs -dsimp only [go_sem,he0,h1,hb2,hb16,hb19,h20,hb21]
       with_reducible refine exP.mk ⟨[],[0,1],[.ptr 0 0 0,zi 4,.agg [zi ((rd p0.l (zw (i5+1))).Kind),zi ((rd p0.l (zw (i5+1))).Line),zi ((rd p0.l (zw (i5+1))).Col),.str ((rd p0.l (zw (i5+1))).Text)]],[.cells [.sl (p0.l.map zab),zi (zw (i5+1)),.zBx (p0.p.zSy.map zaf) 3 205,.zBx (p0.p.zTh.map zad) 1 121,zM 1 w1_ 8 p0.b,zi p0.f.Code,zi p0.f.Line,zi p0.f.Col] 0 106,.rows (p0.b.map zae) 8 w1_ 199],.bool v22.1,[.cells [.sl (v22.2.l.map zab),zi v22.2.at_,.zBx (v22.2.p.zSy.map zaf) 3 205,.zBx (v22.2.p.zTh.map zad) 1 121,zM 1 w1_ 8 p0.b,zi v22.2.f.Code,zi v22.2.f.Line,zi v22.2.f.Col] 0 106,.rows (p0.b.map zae) 8 w1_ 199]⟩ (zgI.of (by simp -implicitDefEqProofs -dsimp only [go_sem,he0,h1,hb2,hb16,hb19,h20,hb21]) (zau h23)) ?_
       try simp -implicitDefEqProofs -dsimp only [go_sem,he0,h1,hb2,hb16,hb19,h20,hb21]
      cases hm
      refine W.wk ⟨[],[]⟩ [(4,.ptr 2 0 0),(5,.bool v22.1)] [.cells [.sl (v22.2.l.map zab),zi v22.2.at_,.zBx (v22.2.p.zSy.map zaf) 3 205,.zBx (v22.2.p.zTh.map zad) 1 121,zM 1 w1_ 8 p0.b,zi v22.2.f.Code,zi v22.2.f.Line,zi v22.2.f.Col] 0 106,.rows (p0.b.map zae) 8 w1_ 199,.cells [zi v12.1,.bool b6,zi v12.2.1,zi 0,zi 0,zi 0,zi 0,zi 0,zi 0,zi 0,zi 0,.str (⟨#[]⟩:ByteArray),.sl (([]).map eStr)] 0 203] ?_
      exact W.rt
     ·refine W.skip (W.seq ?_)
      replace ⟨v24,h25,hm⟩:=zai hm
      have kh25:=zcI h25
      try simp only [hb2,hb16,hb19,hb21] at kh25
      refine W.sa 5 [0,1,4,6,11,125] ?_
      refine W.cn hm ?_ ?_ <;> clear hm <;> intro hb26 hm
      ·replace ⟨v27,h28,hm⟩:=zai hm
       refine W.sqL [.light,.light,.light,.callh,.store,.light] [([3],[]),([],[]),([4],[]),([0,1],[0,1]),([2],[2]),([],[])] [] [(4,.ptr 2 0 0),(5,.bool v27.1)] [.cells [.sl (v27.2.l.map zab),zi v27.2.at_,.zBx (v27.2.p.zSy.map zaf) 3 205,.zBx (v27.2.p.zTh.map zad) 1 121,zM 1 w1_ 8 p0.b,zi v27.2.f.Code,zi v27.2.f.Line,zi v27.2.f.Col] 0 106,.rows (p0.b.map zae) 8 w1_ 199,.cells [zi v12.1,.bool b6,zi v12.2.1,zi 0,zi 0,zi 0,zi 0,zi 0,zi 0,zi 0,zi 0,.str (⟨#[]⟩:ByteArray),.nils] 0 203] zaP ?_ (hrun:=?_)
       rotate_left
       ·try simp -implicitDefEqProofs -dsimp only [go_sem,he0,h1,hb2,hb16,hb19,h20,hb21,hb26]
        with_reducible refine exP.mk ⟨[],[0,1],[.ptr 0 0 0,zi 3,.agg [zi ((rd p0.l (zw (i5+1))).Kind),zi ((rd p0.l (zw (i5+1))).Line),zi ((rd p0.l (zw (i5+1))).Col),.str ((rd p0.l (zw (i5+1))).Text)]],[.cells [.sl (p0.l.map zab),zi (zw (i5+1)),.zBx (p0.p.zSy.map zaf) 3 205,.zBx (p0.p.zTh.map zad) 1 121,zM 1 w1_ 8 p0.b,zi p0.f.Code,zi p0.f.Line,zi p0.f.Col] 0 106,.rows (p0.b.map zae) 8 w1_ 199],.bool v27.1,[.cells [.sl (v27.2.l.map zab),zi v27.2.at_,.zBx (v27.2.p.zSy.map zaf) 3 205,.zBx (v27.2.p.zTh.map zad) 1 121,zM 1 w1_ 8 p0.b,zi v27.2.f.Code,zi v27.2.f.Line,zi v27.2.f.Col] 0 106,.rows (p0.b.map zae) 8 w1_ 199]⟩ (zgI.of (by simp -implicitDefEqProofs -dsimp only [go_sem,he0,h1,hb2,hb16,hb19,h20,hb21,hb26]) (zau h28)) ?_
        try simp -implicitDefEqProofs -dsimp only [go_sem,he0,h1,hb2,hb16,hb19,h20,hb21,hb26]
       cases hm
       refine W.wk ⟨[],[]⟩ [(4,.ptr 2 0 0),(5,.bool v27.1)] [.cells [.sl (v27.2.l.map zab),zi v27.2.at_,.zBx (v27.2.p.zSy.map zaf) 3 205,.zBx (v27.2.p.zTh.map zad) 1 121,zM 1 w1_ 8 p0.b,zi v27.2.f.Code,zi v27.2.f.Line,zi v27.2.f.Col] 0 106,.rows (p0.b.map zae) 8 w1_ 199,.cells [zi v12.1,.bool b6,zi v12.2.1,zi 0,zi 0,zi 0,zi 0,zi 0,zi 0,zi 0,zi 0,.str (⟨#[]⟩:ByteArray),.sl (([]).map eStr)] 0 203] ?_
       exact W.rt
      ·refine W.skip (W.sa 5 [0,1,4,6,11] ?_)
       replace ⟨h29,hm⟩:=zaA hm
       replace ⟨h30,hm⟩:=zaA hm
       replace ⟨h31,hm⟩:=zaA hm
       replace ⟨l32,h33,hm⟩:=zaY hm
       refine W.wa 6 [0,1,4,6,11] [.foc 1 p1.toNat 7] ?_
       refine W.sqJG [12] [] [] 0 [] [.fol 1 p1.toNat 7] [(0,.ptr 0 0 0),(4,.ptr 2 0 0),(6,.ptr 3 0 0)] [.cells [.sl (p0.l.map zab),zi (zw (i5+1)),.zBx (p0.p.zSy.map zaf) 3 205,.zBx (p0.p.zTh.map zad) 1 121,zM 1 w1_ 8 l32,zi p0.f.Code,zi p0.f.Line,zi p0.f.Col] 0 106,.rows (l32.map zae) 8 w1_ 199,.cells [zi 0,.bool false,zi 0,zi 0,zi 0,zi 0,zi 0,zi 0,zi 0,zi 0,zi 0,.str (⟨#[]⟩:ByteArray),.nils] 0 203,.cells [zi v12.1,.bool b6,zi v12.2.1,zi 0,zi 0,zi 0,zi 0,zi 0,zi 0,zi 0,zi 0,.str ((rd p0.l (zw (i5+1))).Text),.nils] 0 203] zaP ?_
       clear h33
       refine W.rg [] [(4,.ptr 2 0 0),(6,.ptr 3 0 0)] [.cells [.sl (p0.l.map zab),zi (zw ((zw (i5+1))+1)),.zBx (p0.p.zSy.map zaf) 3 205,.zBx (p0.p.zTh.map zad) 1 121,zM 1 w1_ 8 l32,zi p0.f.Code,zi p0.f.Line,zi p0.f.Col] 0 106,.rows (l32.map zae) 8 w1_ 199,.cells [zi 0,.bool false,zi 0,zi 0,zi 0,zi 0,zi 0,zi 0,zi 0,zi 0,zi 0,.str (⟨#[]⟩:ByteArray),.nils] 0 203,.cells [zi v12.1,.bool b6,zi v12.2.1,zi 0,zi 0,zi 0,zi 0,zi 0,zi 0,zi 0,zi 0,.str ((rd p0.l (zw (i5+1))).Text),.nils] 0 203] ?_
       refine W.sa 3 [4,5] ?_
       cases hm
       refine W.wk ⟨[],[]⟩ [(4,.ptr 2 0 0),(5,.bool true)] [.cells [.sl (p0.l.map zab),zi (zw ((zw (i5+1))+1)),.zBx (p0.p.zSy.map zaf) 3 205,.zBx (p0.p.zTh.map zad) 1 121,zM 1 w1_ 8 l32,zi p0.f.Code,zi p0.f.Line,zi p0.f.Col] 0 106,.rows (l32.map zae) 8 w1_ 199,.cells [zi v12.1,.bool b6,zi v12.2.1,zi 0,zi 0,zi 0,zi 0,zi 0,zi 0,zi 0,zi 0,.str ((rd p0.l (zw (i5+1))).Text),.sl (([]).map eStr)] 0 203] ?_
       exact W.rt
    ·refine W.sa 4 [0,4,6,152] ?_
     refine W.cn hm ?_ ?_ <;> clear hm <;> intro hb34 hm
     ·replace ⟨v35,h36,hm⟩:=zai hm
      refine W.sa 3 [4,5] ?_ (hrun:=RC (zd4 (w1_:=w1_) h36) [0,1])
      cases hm
      exact W.rt
     ·refine W.skip (W.sa 3 [4,5] ?_)
      cases hm
      refine W.wk ⟨[],[]⟩ [(4,.ptr 2 0 0),(5,.bool true)] [.cells [.sl (p0.l.map zab),zi (zw (i5+1)),.zBx (p0.p.zSy.map zaf) 3 205,.zBx (p0.p.zTh.map zad) 1 121,zM 1 w1_ 8 p0.b,zi p0.f.Code,zi p0.f.Line,zi p0.f.Col] 0 106,.rows (p0.b.map zae) 8 w1_ 199,.cells [zi v12.1,.bool b6,zi v12.2.1,zi 0,zi 0,zi 0,zi 0,zi 0,zi 0,zi 0,zi 0,.str (⟨#[]⟩:ByteArray),.sl (([]).map eStr)] 0 203] ?_
      exact W.rt
theorem zff{p0:zaa}{p1:zac}{r:Bool × zaa}(hm:zbH p0 p1=some r):HF Tryz.prog 108 [.ptr 0 0 0,.agg [zi p1.Kind,zi p1.Line,zi p1.Col,.str p1.Text]] [.cells (zas p0) 0 106] (.bool r.1) [.cells (zas r.2) 0 106]:=by
 rw [zbH] at hm
 refine HF.of Tryz.func108 rfl Tryz.ntmps108 (Nat.le_of_ble_eq_true rfl) rfl ?_
 refine W.sa 2 [0,3] ?_
 refine W.seq (W.wa 3 [0,3] [.foc 0 0 4] ?_)
 refine W.sa 2 [0,3,15] ?_ [.fol 0 0 4]
 refine W.cn hm ?_ ?_ <;> clear hm <;> intro hb1 hm
 ·replace ⟨v2,h3,hm⟩:=zai hm
  refine W.sa 1 [4] ?_ (hrun:=RC (zaG h3) [0])
  cases hm
  exact W.rt
 ·refine W.skip ?_
  replace ⟨h4,hm⟩:=zaA hm
  refine W.wa 3 [0,3,15] [.foc 0 0 4] ?_
  refine W.saJ [] [] [] 0 3 [0,5] zaP ?_
  refine W.seq (W.block ?_)
  replace ⟨r100,hlr100,hm⟩:=zai hm
  refine W.mono (Q:=fun e0 s0 h0=>match r100 with | .inl e=>e0=.exit 0/\∃w:Unit,s0=[(0,.ptr 0 0 0),(5,.eptr 2 1 8 ((zw ((p0.b.length:Int)-1)).toNat) 0)]/\h0=[.cells [.sl (e.1.map zab),zi e.2.1,.zBx (e.2.2.1.map zaf) 3 205,.zBx (e.2.2.2.1.map zad) 1 121,zM 2 1 8 e.2.2.2.2.2.2.2,zi e.2.2.2.2.1,zi e.2.2.2.2.2.1,zi e.2.2.2.2.2.2.1] 0 106,.dead,.rows (e.2.2.2.2.2.2.2.map zae) 8 1 199] | .inr q=>e0=.ret/\s0=[(4,.bool q.1)]/\h0=[.cells (zas q.2) 0 106]) (W.loopM (step:=zbw p0) (a0:=(p0.l,p0.at_,p0.p.zSy,p0.p.zTh,p0.f.Code,p0.f.Line,p0.f.Col,p0.b)) (fun (a:(List zac) × Int × (List zaz) × (List zaj) × Int × Int × Int × (List zat)) (v:Unit)=>([(0,.ptr 0 0 0),(5,.eptr 2 1 8 ((zw ((p0.b.length:Int)-1)).toNat) 0)],[.cells [.sl (a.1.map zab),zi a.2.1,.zBx (a.2.2.1.map zaf) 3 205,.zBx (a.2.2.2.1.map zad) 1 121,zM 2 1 8 a.2.2.2.2.2.2.2,zi a.2.2.2.2.1,zi a.2.2.2.2.2.1,zi a.2.2.2.2.2.2.1] 0 106,.dead,.rows (a.2.2.2.2.2.2.2.map zae) 8 1 199])) () hlr100 ⟨[],[]⟩ RO ?_) ?_
  ·rintro ⟨l60,i61,l62,l63,i65,i66,i67,l68⟩ _ x hm hx
   rw [zbw] at hm
   show WK _ _ _ _ _ [(0,.ptr 0 0 0),(5,.eptr 2 1 8 ((zw ((p0.b.length:Int)-1)).toNat) 0)] [.cells [.sl (l60.map zab),zi i61,.zBx (l62.map zaf) 3 205,.zBx (l63.map zad) 1 121,zM 2 1 8 l68,zi i65,zi i66,zi i67] 0 106,.dead,.rows (l68.map zae) 8 1 199]
   refine W.seq ?_
   replace ⟨h101,hm⟩:=zaA hm
   replace ⟨v102,h103,hm⟩:=zai hm
   refine W.sqJ [19] [] [] 0 [] [(0,.ptr 0 0 0),(5,.eptr 2 1 8 ((zw ((p0.b.length:Int)-1)).toNat) 0),(50,.bool (((rd l60 i61).Kind==1)&&v102.1))] [.cells [.sl (v102.2.l.map zab),zi v102.2.at_,.zBx (v102.2.p.zSy.map zaf) 3 205,.zBx (v102.2.p.zTh.map zad) 1 121,zM 2 1 8 l68,zi v102.2.f.Code,zi v102.2.f.Line,zi v102.2.f.Col] 0 106,.dead,.rows (l68.map zae) 8 1 199] zaP ?_ (hrun:=?_) (hd:=zf3 [[],[0],[0,1],[0,1,2],[],[4],[4,5],[4,5,6],[0,1,2,3,4,5,6,7],[0,1,2,3,4,5,6,7,8],[0,1,2,3,4,5,6,7,8,9],[0,1,2,3,4,5,6,7,8,9,10],[0,1,2,3,4,5,6,7,8,9,10,11],[0,1,2,3,4,5,6,7,8,9,10,11,12],[0,1,2,3,4,5,6,7,8,9,10,11,12],[0,1,2,3,4,5,6,7,8,9,10,11,12,14],[0,1,2,3,4,5,6,7,8,9,10,11,12,14,15],[0,1,2,3,4,5,6,7,8,9,10,11,12,14,15,16],[0,1,2,3,4,5,6,7,8,9,10,11,12,14,15,16,17],[0,1,2,3,4,5,6,7,8,9,10,11,12,13,14,15,16,17,18],[0,1,2,3,4,5,6,7,8,9,10,11,12,13,14,15,16,17,18,19]] (by kernel_rfl) (by kernel_rfl) (by kernel_rfl))
   rotate_left
   ·try simp -implicitDefEqProofs -dsimp only [go_sem,hb1,h4,h101]
    refine zcl (fun hg104=>?_) (fun hg104=>?_)
    ·try simp -implicitDefEqProofs -dsimp only [go_sem,hb1,h4,h101,hg104]
     with_reducible refine exP.mk (.gheap [] ⟨[],[0,2],[.ptr 0 0 0,zi (zw (i61+1)),.str (⟨#[58]⟩:ByteArray)],[.cells [.sl (l60.map zab),zi i61,.zBx (l62.map zaf) 3 205,.zBx (l63.map zad) 1 121,zM 1 1 8 l68,zi i65,zi i66,zi i67] 0 106,.rows (l68.map zae) 8 1 199],.bool v102.1,[.cells [.sl (v102.2.l.map zab),zi v102.2.at_,.zBx (v102.2.p.zSy.map zaf) 3 205,.zBx (v102.2.p.zTh.map zad) 1 121,zM 1 1 8 l68,zi v102.2.f.Code,zi v102.2.f.Line,zi v102.2.f.Col] 0 106,.rows (l68.map zae) 8 1 199]⟩ []) (callQ.ofG (by simp -implicitDefEqProofs -dsimp only [go_sem,hb1,h4,h101,hg104]) (zbd (zaK (by simp -implicitDefEqProofs -dsimp only [go_sem,hb1,h4,h101,hg104]) h103))) ?_
     try simp -implicitDefEqProofs -dsimp only [go_sem,hb1,h4,h101,hg104]
    ·obtain rfl:=Option.some.inj (zaV (by simp -implicitDefEqProofs -dsimp only [go_sem,hb1,h4,h101,hg104]) h103)
     try simp -implicitDefEqProofs -dsimp only [go_sem,hb1,h4,h101,hg104]
   refine W.cn hm ?_ ?_ <;> clear hm <;> intro hb105 hm
   ·refine W.skip (W.block ?_)
    replace ⟨h106,hm⟩:=zaA hm
    refine W.saJ [10,11] [10,11] [0,1,2,3,4,5,6,7,8,9] 3 4 [0,5,6] zaP ?_
    refine W.seq ?_
    replace ⟨v107,h108,hm⟩:=zai hm
    have kh108:=zcI h108
    try simp only [hb1,hb105] at kh108
    refine W.sa 4 [0,5,6,63] ?_
    refine W.cn hm ?_ ?_ <;> clear hm <;> intro hb109 hm
    ·replace ⟨v110,h111,hm⟩:=zai hm
     refine W.sa 1 [4] ?_ (hrun:=RCG (zaG h111) [0] [] [.fol 0 0 4] [])
     cases hm
     obtain rfl:=hx _ rfl
     exact W.wk ⟨[],[]⟩ [(4,.bool v110.1)] [.cells (zas v110.2) 0 106] (W.ret (show _/\_ from ⟨rfl,rfl,rfl⟩))
    ·refine W.skip (W.seq ?_)
     replace ⟨h112,hm⟩:=zaA hm
     replace ⟨b113,h114,hm⟩:=zaY hm
     refine W.wa 5 [0,5,6,63] [.foc 2 ((zw ((p0.b.length:Int)-1)).toNat) 4] ?_
     refine W.sqJG [] [] [] 0 [] [.fol 2 ((zw ((p0.b.length:Int)-1)).toNat) 4] [(0,.ptr 0 0 0),(5,.eptr 2 1 8 ((zw ((p0.b.length:Int)-1)).toNat) 0),(6,.ptr 3 0 0),(73,.bool b113)] [.cells [.sl (v102.2.l.map zab),zi v102.2.at_,.zBx (v102.2.p.zSy.map zaf) 3 205,.zBx (v102.2.p.zTh.map zad) 1 121,zM 2 1 8 l68,zi v102.2.f.Code,zi v102.2.f.Line,zi v102.2.f.Col] 0 106,.dead,.rows (l68.map zae) 8 1 199,.cells (zab (rd v102.2.l v102.2.at_)) 0 192] zaP ?_
     clear h114
     refine W.cn hm ?_ ?_ <;> clear hm <;> intro hb115 hm
     ·replace ⟨v116,h117,hm⟩:=zai hm
      refine W.sa 1 [4] ?_ (hrun:=RCG (zaG h117) [0] [] [.fol 0 0 4] [])
      cases hm
      obtain rfl:=hx _ rfl
      exact W.wk ⟨[],[]⟩ [(4,.bool v116.1)] [.cells (zas v116.2) 0 106] (W.ret (show _/\_ from ⟨rfl,rfl,rfl⟩))
     ·refine W.skip ?_
      replace ⟨h118,hm⟩:=zaA hm
      replace ⟨l119,h120,hm⟩:=zaY hm
      refine W.wa 5 [0,5,6,73] [.foc 2 ((zw ((p0.b.length:Int)-1)).toNat) 4] ?_
      refine W.sqJG [6] [] [] 0 [] [.fol 2 ((zw ((p0.b.length:Int)-1)).toNat) 4] [(0,.ptr 0 0 0),(5,.eptr 2 1 8 ((zw ((p0.b.length:Int)-1)).toNat) 0),(6,.ptr 3 0 0)] [.cells [.sl (v102.2.l.map zab),zi v102.2.at_,.zBx (v102.2.p.zSy.map zaf) 3 205,.zBx (v102.2.p.zTh.map zad) 1 121,zM 2 1 8 l119,zi v102.2.f.Code,zi v102.2.f.Line,zi v102.2.f.Col] 0 106,.dead,.rows (l119.map zae) 8 1 199,.cells (zab (rd v102.2.l v102.2.at_)) 0 192] zaP ?_
      clear h120
      replace ⟨h121,hm⟩:=zaA hm
      replace ⟨h122,hm⟩:=zaA hm
      replace ⟨l123,h124,hm⟩:=zaY hm
      refine W.wa 5 [0,5,6] [.foc 2 ((zw ((p0.b.length:Int)-1)).toNat) 5] ?_
      refine W.sqLG [.light,.light,.light,.light,.light,.light,.light,.lit,.app,.light,.light,.store] [([],[]),([],[]),([],[]),([],[]),([2],[]),([],[]),([3],[]),([],[]),([4],[4]),([],[]),([],[]),([2],[2])] [] [.fol 2 ((zw ((p0.b.length:Int)-1)).toNat) 5] [(0,.ptr 0 0 0),(5,.eptr 2 1 8 ((zw ((p0.b.length:Int)-1)).toNat) 0)] [.cells [.sl (v102.2.l.map zab),zi v102.2.at_,.zBx (v102.2.p.zSy.map zaf) 3 205,.zBx (v102.2.p.zTh.map zad) 1 121,zM 2 1 8 l123,zi v102.2.f.Code,zi v102.2.f.Line,zi v102.2.f.Col] 0 106,.dead,.rows (l123.map zae) 8 1 199] zaP ?_
      clear h124
      refine W.rg [] [(0,.ptr 0 0 0),(5,.eptr 2 1 8 ((zw ((p0.b.length:Int)-1)).toNat) 0)] [.cells [.sl (v102.2.l.map zab),zi (zw (v102.2.at_+2)),.zBx (v102.2.p.zSy.map zaf) 3 205,.zBx (v102.2.p.zTh.map zad) 1 121,zM 2 1 8 l123,zi v102.2.f.Code,zi v102.2.f.Line,zi v102.2.f.Col] 0 106,.dead,.rows (l123.map zae) 8 1 199] ?_
      cases hm
      exact ⟨(v102.2.l,(zw (v102.2.at_+2)),v102.2.p.zSy,v102.2.p.zTh,v102.2.f.Code,v102.2.f.Line,v102.2.f.Col,l123),(),⟨[],[]⟩,rfl,RO⟩
   ·cases hm
    obtain rfl:=hx _ rfl
    exact W.wk ⟨[],[]⟩ [(0,.ptr 0 0 0),(5,.eptr 2 1 8 ((zw ((p0.b.length:Int)-1)).toNat) 0)] [.cells [.sl (v102.2.l.map zab),zi v102.2.at_,.zBx (v102.2.p.zSy.map zaf) 3 205,.zBx (v102.2.p.zTh.map zad) 1 121,zM 2 1 8 l68,zi v102.2.f.Code,zi v102.2.f.Line,zi v102.2.f.Col] 0 106,.dead,.rows (l68.map zae) 8 1 199] (W.exit (show _/\_ from ⟨rfl,(),rfl,rfl⟩))
  ·intro e0 s0 h0 hq
   rcases r100 with er100 | qr100
   ·obtain ⟨rfl,_,rfl,rfl⟩:=hq
    replace hm:=zdC hm
    show WK _ _ _ _ _ [(0,.ptr 0 0 0),(5,.eptr 2 1 8 ((zw ((p0.b.length:Int)-1)).toNat) 0)] [.cells [.sl (er100.1.map zab),zi er100.2.1,.zBx (er100.2.2.1.map zaf) 3 205,.zBx (er100.2.2.2.1.map zad) 1 121,zM 2 1 8 er100.2.2.2.2.2.2.2,zi er100.2.2.2.2.1,zi er100.2.2.2.2.2.1,zi er100.2.2.2.2.2.2.1] 0 106,.dead,.rows (er100.2.2.2.2.2.2.2.map zae) 8 1 199]
    refine W.seq ?_
    replace ⟨h125,hm⟩:=zaA hm
    refine W.saJ [] [] [] 0 3 [0,5,112] zaP ?_
    refine W.cn hm ?_ ?_ <;> clear hm <;> intro hb126 hm
    ·replace ⟨v127,h128,hm⟩:=zai hm
     refine W.sa 1 [4] ?_ (hrun:=RCG (zcY h128) [0] [] [.fol 0 0 4] [])
     cases hm
     exact W.rt
    ·refine W.skip ?_
     replace ⟨h129,hm⟩:=zaA hm
     replace ⟨h130,hm⟩:=zaA hm
     replace ⟨h131,hm⟩:=zaA hm
     replace ⟨l132,h133,hm⟩:=zaY hm
     refine W.wa 4 [0,5,112] [.foc 2 ((zw ((p0.b.length:Int)-1)).toNat) 6] ?_
     refine W.sqLG [.light,.light,.light,.light,.light,.light,.light,.light,.light,.light,.light,.light,.light,.light,.light,.lit,.app,.light,.light,.store] [([],[]),([],[]),([],[]),([],[]),([2],[]),([],[]),([],[]),([],[]),([0],[]),([],[]),([],[]),([],[]),([0],[]),([],[]),([],[]),([],[]),([3],[3]),([],[]),([],[]),([2],[2])] [] [.fol 2 ((zw ((p0.b.length:Int)-1)).toNat) 6] [(0,.ptr 0 0 0),(5,.eptr 2 1 8 ((zw ((p0.b.length:Int)-1)).toNat) 0)] [.cells [.sl (er100.1.map zab),zi er100.2.1,.zBx (er100.2.2.1.map zaf) 3 205,.zBx (er100.2.2.2.1.map zad) 1 121,zM 2 1 8 l132,zi er100.2.2.2.2.1,zi er100.2.2.2.2.2.1,zi er100.2.2.2.2.2.2.1] 0 106,.dead,.rows (l132.map zae) 8 1 199] zaP ?_ (hd:=zoM [[],[],[1],[1,2],[1,2,3],[],[5],[5,6],[5,6,7],[],[9],[9,10],[9,10,11],[5,6,7,8,9,10,11,12],[5,6,7,8,9,10,11,12,13],[5,6,7,8,9,10,11,12,13,14],[1,2,3,4,5,6,7,8,9,10,11,12,13,14,15],[0,1,2,3,4,5,6,7,8,9,10,11,12,13,14,15,16],[0,1,2,3,4,5,6,7,8,9,10,11,12,13,14,15,16,17],[0,1,2,3,4,5,6,7,8,9,10,11,12,13,14,15,16,17,18]] (by kernel_rfl) (by kernel_rfl) (by kernel_rfl))
     clear h133
     replace ⟨h134,hm⟩:=zaA hm
     replace ⟨h135,hm⟩:=zaA hm
     replace ⟨l136,h137,hm⟩:=zaY hm
     refine W.wa 4 [0,5] [.foc 2 ((zw ((p0.b.length:Int)-1)).toNat) 7] ?_
     refine W.sqG [] [.fol 2 ((zw ((p0.b.length:Int)-1)).toNat) 7] [(0,.ptr 0 0 0),(5,.eptr 2 1 8 ((zw ((p0.b.length:Int)-1)).toNat) 0)] [.cells [.sl (er100.1.map zab),zi er100.2.1,.zBx (er100.2.2.1.map zaf) 3 205,.zBx (er100.2.2.2.1.map zad) 1 121,zM 2 1 8 l136,zi er100.2.2.2.2.1,zi er100.2.2.2.2.2.1,zi er100.2.2.2.2.2.2.1] 0 106,.dead,.rows (l136.map zae) 8 1 199] ?_
     clear h137
     replace ⟨v138,h139,hm⟩:=zai hm
     refine W.sa 4 [0,5,7,8] ?_ (hrun:=RC (zdv (w1_:=1) h139) [0,2])
     refine W.seq ?_
     replace ⟨v140,h141,hm⟩:=zai hm
     refine W.sq [] [(0,.ptr 0 0 0),(5,.eptr 2 1 8 ((zw ((p0.b.length:Int)-1)).toNat) 0),(7,.ptr 3 0 0),(156,.bool ((!v138.2.1)||(!v140.1)))] [.cells [.sl (v140.2.l.map zab),zi v140.2.at_,.zBx (v140.2.p.zSy.map zaf) 3 205,.zBx (v140.2.p.zTh.map zad) 1 121,zM 2 1 8 v138.2.2.b,zi v140.2.f.Code,zi v140.2.f.Line,zi v140.2.f.Col] 0 106,.dead,.rows (v138.2.2.b.map zae) 8 1 199,.cells (zaD v138.1) 0 203] ?_ (hrun:=?_)
     rotate_left
     ·try simp -implicitDefEqProofs -dsimp only [go_sem,hb1,h4,h125,hb126,h129,h130,h131,h134,h135]
      refine zcl (fun hg142=>?_) (fun hg142=>?_)
      ·try simp only [Bool.not_not] at hg142
       try simp -implicitDefEqProofs -dsimp only [go_sem,hb1,h4,h125,hb126,h129,h130,h131,h134,h135,hg142]
       with_reducible refine exP.mk (.gheap [] ⟨[],[0,2],[.ptr 0 0 0],[.cells [.sl (v138.2.2.l.map zab),zi v138.2.2.at_,.zBx (v138.2.2.p.zSy.map zaf) 3 205,.zBx (v138.2.2.p.zTh.map zad) 1 121,zM 1 1 8 v138.2.2.b,zi v138.2.2.f.Code,zi v138.2.2.f.Line,zi v138.2.2.f.Col] 0 106,.rows (v138.2.2.b.map zae) 8 1 199],.bool v140.1,[.cells [.sl (v140.2.l.map zab),zi v140.2.at_,.zBx (v140.2.p.zSy.map zaf) 3 205,.zBx (v140.2.p.zTh.map zad) 1 121,zM 1 1 8 v138.2.2.b,zi v140.2.f.Code,zi v140.2.f.Line,zi v140.2.f.Col] 0 106,.rows (v138.2.2.b.map zae) 8 1 199]⟩ []) (callQ.ofG (by simp -implicitDefEqProofs -dsimp only [go_sem,hb1,h4,h125,hb126,h129,h130,h131,h134,h135,hg142]) (zeU (zaK (by simp -implicitDefEqProofs -dsimp only [go_sem,hb1,h4,h125,hb126,h129,h130,h131,h134,h135,hg142]) h141))) ?_
       try simp -implicitDefEqProofs -dsimp only [go_sem,hb1,h4,h125,hb126,h129,h130,h131,h134,h135,hg142]
      ·try simp only [Bool.not_not] at hg142
       obtain rfl:=Option.some.inj (zaV (by simp -implicitDefEqProofs -dsimp only [go_sem,hb1,h4,h125,hb126,h129,h130,h131,h134,h135,hg142]) h141)
       try simp -implicitDefEqProofs -dsimp only [go_sem,hb1,h4,h125,hb126,h129,h130,h131,h134,h135,hg142]
     refine W.cn hm ?_ ?_ <;> clear hm <;> intro hb143 hm
     ·refine W.sa 1 [4] ?_ [.fol 0 0 4]
      cases hm
      exact W.rt
     ·refine W.skip ?_
      replace ⟨h144,hm⟩:=zaA hm
      replace ⟨l145,h146,hm⟩:=zaY hm
      replace ⟨l147,h148,hm⟩:=zaY hm
      refine W.wa 5 [0,5,7,156] [.foc 2 ((zw ((p0.b.length:Int)-1)).toNat) 5] ?_
      refine W.sqG [] [.nbx 2 ((zw ((p0.b.length:Int)-1)).toNat) 5 1 9,.fol 0 0 4] [(0,.ptr 0 0 0),(7,.ptr 3 0 0)] [.cells [.sl (v140.2.l.map zab),zi v140.2.at_,.zBx (v140.2.p.zSy.map zaf) 3 205,.zBx (v140.2.p.zTh.map zad) 1 121,.zBx (l147.map zae) 8 199,zi v140.2.f.Code,zi v140.2.f.Line,zi v140.2.f.Col] 0 106,.dead,.dead,.cells [zi v138.1.Op,.bool v138.1.Lock,zi v138.1.Cond,zi v138.1.A.Kind,zi v138.1.A.Reg,zi v138.1.A.Sym,zi v138.1.A.N,zi v138.1.B.Kind,zi v138.1.B.Reg,zi v138.1.B.Sym,zi v138.1.B.N,.str v138.1.To,zM 4 1 1 l145] 0 203,.rows (l145.map eStr) 1 1 9] ?_
      clear h146 h148
      replace ⟨h149,hm⟩:=zaA hm
      refine W.wa 6 [0,7] [.foc 0 0 3] ?_
      refine W.saJ [] [] [] 0 6 [7,9] zaP ?_
      replace ⟨h150,hm⟩:=zaA hm
      replace ⟨h151,hm⟩:=zaA hm
      replace ⟨l152,h153,hm⟩:=zaY hm
      refine W.wk ⟨[4],[.foc 5 ((zw ((v140.2.p.zTh.length:Int)-1)).toNat) 0]⟩ [(7,.ptr 3 0 0),(9,.eptr 5 1 1 ((zw ((v140.2.p.zTh.length:Int)-1)).toNat) 0)] [.cells [.sl (v140.2.l.map zab),zi v140.2.at_,.zBx (v140.2.p.zSy.map zaf) 3 205,zM 5 1 1 v140.2.p.zTh,.zBx (l147.map zae) 8 199,zi v140.2.f.Code,zi v140.2.f.Line,zi v140.2.f.Col] 0 106,.dead,.dead,.cells [zi v138.1.Op,.bool v138.1.Lock,zi v138.1.Cond,zi v138.1.A.Kind,zi v138.1.A.Reg,zi v138.1.A.Sym,zi v138.1.A.N,zi v138.1.B.Kind,zi v138.1.B.Reg,zi v138.1.B.Sym,zi v138.1.B.N,.str v138.1.To,.sl (l145.map eStr)] 0 203,.dead,.rows ((v140.2.p.zTh.map zad).set ((zw ((v140.2.p.zTh.length:Int)-1)).toNat) [.msl 6 1 0 13 (((rd v140.2.p.zTh (zw ((v140.2.p.zTh.length:Int)-1))).Ins).length) (((rd v140.2.p.zTh (zw ((v140.2.p.zTh.length:Int)-1))).Ins).length)]) 1 1 121,.rows (((rd v140.2.p.zTh (zw ((v140.2.p.zTh.length:Int)-1))).Ins).map zaD) 13 1 203] ?_
      refine W.sqLG [.light,.light,.light,.light,.light,.light,.lit,.app,.light,.light,.store] [([],[]),([],[]),([],[]),([],[]),([5],[]),([3],[]),([],[]),([6],[6]),([],[]),([],[]),([5],[5])] [] [.fol 5 ((zw ((v140.2.p.zTh.length:Int)-1)).toNat) 0,.fol 0 0 3] [] [.cells [.sl (v140.2.l.map zab),zi v140.2.at_,.zBx (v140.2.p.zSy.map zaf) 3 205,.zBx (l152.map zad) 1 121,.zBx (l147.map zae) 8 199,zi v140.2.f.Code,zi v140.2.f.Line,zi v140.2.f.Col] 0 106] zaP ?_
      clear h153
      refine W.sa 1 [4] ?_
      cases hm
      exact W.rt
   ·obtain ⟨rfl,rfl,rfl⟩:=hq
    replace hm:=zdB hm
    cases hm
    exact zgn.retW ⟨[],[]⟩ RO
theorem zfd{p0:zaa}{r:Bool × zaa}(hm:zbY p0=some r):HF Tryz.prog 54 [.ptr 0 0 0] [.cells (zas p0) 0 106] (.bool r.1) [.cells (zas r.2) 0 106]:=by
 rw [zbY] at hm
 refine HF.of Tryz.func54 rfl Tryz.ntmps54 (Nat.le_of_ble_eq_true rfl) rfl ?_
 refine W.sa 1 [0] ?_
 replace ⟨h1,hm⟩:=zaA hm
 refine W.saJ [10,11] [10,11] [0,1,2,3,4,5,6,7,8,9] 1 2 [0,3] zaP ?_
 refine W.seq (W.block (W.sa 2 [0,3,14] ?_))
 refine W.cn hm ?_ ?_ <;> clear hm <;> intro hb2 hm
 ·refine W.sa 1 [] ?_
  refine W.sa 1 [2] ?_
  cases hm
  exact W.rt
 ·replace ⟨b3,h4,hm⟩:=zaY hm
  refine W.sq [] [(0,.ptr 0 0 0),(3,.ptr 1 0 0),(25,.bool b3)] [.cells (zas p0) 0 106,.cells (zab (rd p0.l p0.at_)) 0 192] ?_
  clear h4
  refine W.cn hm ?_ ?_ <;> clear hm <;> intro hb5 hm
  ·replace ⟨v6,h7,hm⟩:=zai hm
   refine W.sa 1 [2] ?_ (hrun:=RC (zeM h7) [0])
   cases hm
   exact W.rt
  ·replace ⟨b8,h9,hm⟩:=zaY hm
   refine W.sq [] [(0,.ptr 0 0 0),(3,.ptr 1 0 0),(37,.bool b8)] [.cells (zas p0) 0 106,.cells (zab (rd p0.l p0.at_)) 0 192] ?_
   clear h9
   refine W.cn hm ?_ ?_ <;> clear hm <;> intro hb10 hm
   ·refine W.seq (W.wa 3 [0,3,37] [.foc 0 0 4] ?_)
    refine W.sa 2 [0,3,51] ?_ [.fol 0 0 4]
    refine W.cn hm ?_ ?_ <;> clear hm <;> intro hb11 hm
    ·replace ⟨v12,h13,hm⟩:=zai hm
     refine W.sa 1 [2] ?_ (hrun:=RC (zaG h13) [0])
     cases hm
     exact W.rt
    ·refine W.skip (W.sa 2 [0,3] ?_)
     replace ⟨h14,hm⟩:=zaA hm
     replace ⟨l15,h16,hm⟩:=zaY hm
     refine W.wa 3 [0,3] [.foc 0 0 4] ?_
     refine W.wa 5 [0,3] [.res,.res] ?_
     refine W.sqLG [.light,.light,.light,.light,.light,.light,.here 3,.light,.here 4,.app,.light,.light,.store] [([],[]),([],[]),([],[]),([],[]),([0],[]),([1],[]),([3],[3]),([],[]),([4],[4]),([2,4],[2]),([],[]),([],[]),([0],[0])] [] [.fol 2 p0.b.length 4,.nbx 2 p0.b.length 5 1 9,.nbx 2 p0.b.length 6 4 192,.nbx 2 p0.b.length 7 4 192,.fol 0 0 4] [(0,.ptr 0 0 0)] [.cells [.sl (p0.l.map zab),zi (zw (p0.at_+1)),.zBx (p0.p.zSy.map zaf) 3 205,.zBx (p0.p.zTh.map zad) 1 121,.zBx (l15.map zae) 8 199,zi p0.f.Code,zi p0.f.Line,zi p0.f.Col] 0 106] zaP ?_
     clear h16
     replace ⟨h17,hm⟩:=zaA hm
     replace ⟨l18,h19,hm⟩:=zaY hm
     refine W.wa 2 [0] [.foc 0 0 3] ?_
     refine W.sqG [] [.nbx 1 p0.p.zTh.length 0 13 203,.fol 0 0 3] [(0,.ptr 0 0 0)] [.cells [.sl (p0.l.map zab),zi (zw (p0.at_+1)),.zBx (p0.p.zSy.map zaf) 3 205,.zBx (l18.map zad) 1 121,.zBx (l15.map zae) 8 199,zi p0.f.Code,zi p0.f.Line,zi p0.f.Col] 0 106] ?_ (hrun:=by exact ROT)
     clear h19
     replace ⟨v20,h21,hm⟩:=zai hm
     refine W.sa 1 [2] ?_ (hrun:=RC (zcY h21) [0])
     cases hm
     exact W.rt
   ·refine W.skip ?_
    replace ⟨v22,h23,hm⟩:=zai hm
    refine W.sa 1 [2] ?_ (hrun:=RC (zff h23) [0])
    cases hm
    exact W.rt
theorem zeT{p0:zaa}{p1:Int}{r:Bool × zaa}(hm:zbp p0 p1=some r):HF Tryz.prog 55 [.ptr 0 0 0,zi p1] [.cells (zas p0) 0 106] (.bool r.1) [.cells (zas r.2) 0 106]:=by
 rw [zbp] at hm
 refine HF.of Tryz.func55 rfl Tryz.ntmps55 (Nat.le_of_ble_eq_true rfl) rfl ?_
 refine W.sa 1 [0,1] ?_
 replace ⟨h1,hm⟩:=zaA hm
 replace ⟨h2,hm⟩:=zaA hm
 replace ⟨l3,h4,hm⟩:=zaY hm
 replace ⟨l5,h6,hm⟩:=zaY hm
 replace ⟨l7,h8,hm⟩:=zaY hm
 replace ⟨l9,h10,hm⟩:=zaY hm
 replace ⟨l11,h12,hm⟩:=zaY hm
 refine W.wa 8 [0,1] [.foc 0 0 4,.foc 1 p1.toNat 4,.foc 1 p1.toNat 5,.foc 1 p1.toNat 6,.foc 1 p1.toNat 7,.foc 0 0 3,.foc 6 p1.toNat 0] ?_
 refine W.sqJ [16,17] [16,17] [0,1,2,3,4,5,6,7,8,9,10,11,12,13,14,15,18] 8 [] [(0,.ptr 0 0 0),(5,.ptr 8 0 0),(6,zM 7 1 13 l11)] [.cells [.sl (p0.l.map zab),zi p0.at_,.zBx (p0.p.zSy.map zaf) 3 205,zM 6 1 1 p0.p.zTh,zM 1 1 8 p0.b,zi p0.f.Code,zi p0.f.Line,zi p0.f.Col] 0 106,.rows ((p0.b.map zae).set p1.toNat [zi ((rd p0.b p1).head.Kind),zi ((rd p0.b p1).head.Line),zi ((rd p0.b p1).head.Col),.str ((rd p0.b p1).head.Text),.map 2,zM 3 1 1 l5,zM 4 1 4 l7,zM 5 1 4 l9]) 8 1 199,.map (l3.map (eKV AV.str AV.bool)),.rows (l5.map eStr) 1 1 9,.rows (l7.map zab) 4 1 192,.rows (l9.map zab) 4 1 192,.rows ((p0.p.zTh.map zad).set p1.toNat [zM 7 1 13 l11]) 1 1 121,.rows (l11.map zaD) 13 1 203,.cells [zi ((rd p0.b p1).head.Kind),zi ((rd p0.b p1).head.Line),zi ((rd p0.b p1).head.Col),.str ((rd p0.b p1).head.Text),.map 2,zM 3 1 1 l5,zM 4 1 4 l7,zM 5 1 4 l9] 0 199] zaP ?_ (hd:=zf3 [[],[0],[0,1],[0,1,2],[],[0,1,2,3,4],[0,1,2,3,4,5],[],[7],[7,8],[7,8,9],[7,8,9,10],[],[7,8,9,10,11,12],[7,8,9,10,11,12,13],[7,8,9,10,11,12,13,14],[],[0,1,2,3,4,5,6,16],[0,1,2,3,4,5,6,7,8,9,10,11,12,13,14,15,16,17]] (by kernel_rfl) (by kernel_rfl) (by kernel_rfl))
 clear h4 h6 h8 h10 h12
 refine W.seq ?_
 replace ⟨h13,hm⟩:=zaA hm
 replace ⟨h14,hm⟩:=zaA hm
 replace ⟨b15,h16,hm⟩:=zaY hm
 refine W.sq [] [(0,.ptr 0 0 0),(5,.ptr 8 0 0),(6,zM 7 1 13 l11),(56,.bool b15)] [.cells [.sl (p0.l.map zab),zi p0.at_,.zBx (p0.p.zSy.map zaf) 3 205,zM 6 1 1 p0.p.zTh,zM 1 1 8 p0.b,zi p0.f.Code,zi p0.f.Line,zi p0.f.Col] 0 106,.rows ((p0.b.map zae).set p1.toNat [zi ((rd p0.b p1).head.Kind),zi ((rd p0.b p1).head.Line),zi ((rd p0.b p1).head.Col),.str ((rd p0.b p1).head.Text),.map 2,zM 3 1 1 l5,zM 4 1 4 l7,zM 5 1 4 l9]) 8 1 199,.map (l3.map (eKV AV.str AV.bool)),.rows (l5.map eStr) 1 1 9,.rows (l7.map zab) 4 1 192,.rows (l9.map zab) 4 1 192,.rows ((p0.p.zTh.map zad).set p1.toNat [zM 7 1 13 l11]) 1 1 121,.rows (l11.map zaD) 13 1 203,.cells [zi ((rd p0.b p1).head.Kind),zi ((rd p0.b p1).head.Line),zi ((rd p0.b p1).head.Col),.str ((rd p0.b p1).head.Text),.map 2,zM 3 1 1 l5,zM 4 1 4 l7,zM 5 1 4 l9] 0 199] ?_
 clear h16
 refine W.cn hm ?_ ?_ <;> clear hm <;> intro hb17 hm
 ·replace ⟨v18,h19,hm⟩:=zai hm
  refine W.sa 1 [4] ?_ (hrun:=RCG (zaG h19) [0] [] [.fol 1 p1.toNat 4,.fol 1 p1.toNat 5,.fol 1 p1.toNat 6,.fol 1 p1.toNat 7,.fol 0 0 4,.fol 6 p1.toNat 0,.fol 0 0 3] [])
  cases hm
  exact W.rt
 ·refine W.skip (W.sa 9 [0,5,6,7] ?_)
  refine W.seq (W.sa 9 [0,5,6,7,61,62,63] ?_)
  refine W.block ?_
  replace ⟨r48,hlr48,hm⟩:=zai hm
  refine W.mono (Q:=fun e0 s0 h0=>match r48 with | .inl e=>e0=.exit 0/\∃w:Unit,s0=[(0,.ptr 0 0 0),(5,.ptr 8 0 0),(6,zM 7 1 13 l11)]/\h0=[.cells [.sl (p0.l.map zab),zi p0.at_,.zBx (p0.p.zSy.map zaf) 3 205,zM 6 1 1 p0.p.zTh,zM 1 1 8 p0.b,zi p0.f.Code,zi p0.f.Line,zi p0.f.Col] 0 106,.rows ((p0.b.map zae).set p1.toNat [zi ((rd p0.b p1).head.Kind),zi ((rd p0.b p1).head.Line),zi ((rd p0.b p1).head.Col),.str ((rd p0.b p1).head.Text),.map 2,zM 3 1 1 l5,zM 4 1 4 l7,zM 5 1 4 l9]) 8 1 199,.map (l3.map (eKV AV.str AV.bool)),.rows (l5.map eStr) 1 1 9,.rows (l7.map zab) 4 1 192,.rows (l9.map zab) 4 1 192,.rows ((p0.p.zTh.map zad).set p1.toNat [zM 7 1 13 l11]) 1 1 121,.rows (l11.map zaD) 13 1 203,.cells [zi ((rd p0.b p1).head.Kind),zi ((rd p0.b p1).head.Line),zi ((rd p0.b p1).head.Col),.str ((rd p0.b p1).head.Text),.map 2,zM 3 1 1 l5,zM 4 1 4 l7,zM 5 1 4 l9] 0 199] | .inr q=>e0=.ret/\s0=[(4,.bool q.1)]/\h0=[.cells (zas q.2) 0 106]) (W.loopM (step:=zbl l11 l7 p0 p1 l3 l5 l9) (a0:=(0,0)) (fun (a:Int × Int) (v:Unit)=>([(0,.ptr 0 0 0),(5,.ptr 8 0 0),(6,zM 7 1 13 l11),(7,zi a.1),(61,zM 7 1 13 l11),(62,zi (l11.length:Int)),(63,zi a.2)],[.cells [.sl (p0.l.map zab),zi p0.at_,.zBx (p0.p.zSy.map zaf) 3 205,zM 6 1 1 p0.p.zTh,zM 1 1 8 p0.b,zi p0.f.Code,zi p0.f.Line,zi p0.f.Col] 0 106,.rows ((p0.b.map zae).set p1.toNat [zi ((rd p0.b p1).head.Kind),zi ((rd p0.b p1).head.Line),zi ((rd p0.b p1).head.Col),.str ((rd p0.b p1).head.Text),.map 2,zM 3 1 1 l5,zM 4 1 4 l7,zM 5 1 4 l9]) 8 1 199,.map (l3.map (eKV AV.str AV.bool)),.rows (l5.map eStr) 1 1 9,.rows (l7.map zab) 4 1 192,.rows (l9.map zab) 4 1 192,.rows ((p0.p.zTh.map zad).set p1.toNat [zM 7 1 13 l11]) 1 1 121,.rows (l11.map zaD) 13 1 203,.cells [zi ((rd p0.b p1).head.Kind),zi ((rd p0.b p1).head.Line),zi ((rd p0.b p1).head.Col),.str ((rd p0.b p1).head.Text),.map 2,zM 3 1 1 l5,zM 4 1 4 l7,zM 5 1 4 l9] 0 199])) () hlr48 ⟨[],[]⟩ RO ?_) ?_
  ·rintro ⟨i38,i39⟩ _ x hm hx
   rw [zbl] at hm
   show WK _ _ _ _ _ [(0,.ptr 0 0 0),(5,.ptr 8 0 0),(6,zM 7 1 13 l11),(7,zi i38),(61,zM 7 1 13 l11),(62,zi (l11.length:Int)),(63,zi i39)] [.cells [.sl (p0.l.map zab),zi p0.at_,.zBx (p0.p.zSy.map zaf) 3 205,zM 6 1 1 p0.p.zTh,zM 1 1 8 p0.b,zi p0.f.Code,zi p0.f.Line,zi p0.f.Col] 0 106,.rows ((p0.b.map zae).set p1.toNat [zi ((rd p0.b p1).head.Kind),zi ((rd p0.b p1).head.Line),zi ((rd p0.b p1).head.Col),.str ((rd p0.b p1).head.Text),.map 2,zM 3 1 1 l5,zM 4 1 4 l7,zM 5 1 4 l9]) 8 1 199,.map (l3.map (eKV AV.str AV.bool)),.rows (l5.map eStr) 1 1 9,.rows (l7.map zab) 4 1 192,.rows (l9.map zab) 4 1 192,.rows ((p0.p.zTh.map zad).set p1.toNat [zM 7 1 13 l11]) 1 1 121,.rows (l11.map zaD) 13 1 203,.cells [zi ((rd p0.b p1).head.Kind),zi ((rd p0.b p1).head.Line),zi ((rd p0.b p1).head.Col),.str ((rd p0.b p1).head.Text),.map 2,zM 3 1 1 l5,zM 4 1 4 l7,zM 5 1 4 l9] 0 199]
   refine W.sa 9 [0,5,6,7,61,62,63,64] ?_
   refine W.seq ?_
   refine W.cn hm ?_ ?_ <;> clear hm <;> intro hb49 hm
   ·refine W.skip ?_
    refine W.cut (fun s h=>∃(v:Int) (w:Unit) (F:Gs),zbm i39 v=some x/\AT 1 F [(0,.ptr 0 0 0),(5,.ptr 8 0 0),(6,zM 7 1 13 l11),(7,zi v),(61,zM 7 1 13 l11),(62,zi (l11.length:Int)),(63,zi i39)] [.cells [.sl (p0.l.map zab),zi p0.at_,.zBx (p0.p.zSy.map zaf) 3 205,zM 6 1 1 p0.p.zTh,zM 1 1 8 p0.b,zi p0.f.Code,zi p0.f.Line,zi p0.f.Col] 0 106,.rows ((p0.b.map zae).set p1.toNat [zi ((rd p0.b p1).head.Kind),zi ((rd p0.b p1).head.Line),zi ((rd p0.b p1).head.Col),.str ((rd p0.b p1).head.Text),.map 2,zM 3 1 1 l5,zM 4 1 4 l7,zM 5 1 4 l9]) 8 1 199,.map (l3.map (eKV AV.str AV.bool)),.rows (l5.map eStr) 1 1 9,.rows (l7.map zab) 4 1 192,.rows (l9.map zab) 4 1 192,.rows ((p0.p.zTh.map zad).set p1.toNat [zM 7 1 13 l11]) 1 1 121,.rows (l11.map zaD) 13 1 203,.cells [zi ((rd p0.b p1).head.Kind),zi ((rd p0.b p1).head.Line),zi ((rd p0.b p1).head.Col),.str ((rd p0.b p1).head.Text),.map 2,zM 3 1 1 l5,zM 4 1 4 l7,zM 5 1 4 l9] 0 199] s h) ?_ ?_
    ·refine W.block ?_
     replace ⟨h51,hm⟩:=zaA hm
     refine W.sa 10 [0,5,6,7,8,9,61,62,63] ?_
     refine W.seq (W.sa 9 [0,5,6,7,8,61,62,63,70] ?_)
     refine W.cn hm ?_ ?_ <;> clear hm <;> intro hb52 hm
     ·refine W.exit ?_
      exact ⟨i38,(),⟨[],[]⟩,hm,RO⟩
     ·refine W.skip (W.seq (W.sa 9 [0,5,6,7,8,61,62,63,72] ?_))
      refine W.cn hm ?_ ?_ <;> clear hm <;> intro hb53 hm
      ·replace ⟨h54,hm⟩:=zaA hm
       replace ⟨v55,h56,hm⟩:=zai hm
       refine W.sa 1 [4] ?_ (hrun:=RCG (zaG h56) [0] [] [.fol 1 p1.toNat 4,.fol 1 p1.toNat 5,.fol 1 p1.toNat 6,.fol 1 p1.toNat 7,.fol 0 0 4,.fol 6 p1.toNat 0,.fol 0 0 3] [])
       cases hm
       obtain rfl:=hx _ rfl
       exact W.wk ⟨[],[]⟩ [(4,.bool v55.1)] [.cells (zas v55.2) 0 106] (W.ret (show _/\_ from ⟨rfl,rfl,rfl⟩))
      ·refine W.skip (W.rg [] [(0,.ptr 0 0 0),(5,.ptr 8 0 0),(6,zM 7 1 13 l11),(7,zi (zw (i38+1))),(61,zM 7 1 13 l11),(62,zi (l11.length:Int)),(63,zi i39)] [.cells [.sl (p0.l.map zab),zi p0.at_,.zBx (p0.p.zSy.map zaf) 3 205,zM 6 1 1 p0.p.zTh,zM 1 1 8 p0.b,zi p0.f.Code,zi p0.f.Line,zi p0.f.Col] 0 106,.rows ((p0.b.map zae).set p1.toNat [zi ((rd p0.b p1).head.Kind),zi ((rd p0.b p1).head.Line),zi ((rd p0.b p1).head.Col),.str ((rd p0.b p1).head.Text),.map 2,zM 3 1 1 l5,zM 4 1 4 l7,zM 5 1 4 l9]) 8 1 199,.map (l3.map (eKV AV.str AV.bool)),.rows (l5.map eStr) 1 1 9,.rows (l7.map zab) 4 1 192,.rows (l9.map zab) 4 1 192,.rows ((p0.p.zTh.map zad).set p1.toNat [zM 7 1 13 l11]) 1 1 121,.rows (l11.map zaD) 13 1 203,.cells [zi ((rd p0.b p1).head.Kind),zi ((rd p0.b p1).head.Line),zi ((rd p0.b p1).head.Col),.str ((rd p0.b p1).head.Text),.map 2,zM 3 1 1 l5,zM 4 1 4 l7,zM 5 1 4 l9] 0 199] ?_)
       exact ⟨(zw (i38+1)),(),⟨[],[]⟩,hm,RO⟩
    ·rintro s h ⟨i50,_,F,hm,hat⟩
     refine W.weak F hat ?_
     show WK _ _ _ _ _ [(0,.ptr 0 0 0),(5,.ptr 8 0 0),(6,zM 7 1 13 l11),(7,zi i50),(61,zM 7 1 13 l11),(62,zi (l11.length:Int)),(63,zi i39)] [.cells [.sl (p0.l.map zab),zi p0.at_,.zBx (p0.p.zSy.map zaf) 3 205,zM 6 1 1 p0.p.zTh,zM 1 1 8 p0.b,zi p0.f.Code,zi p0.f.Line,zi p0.f.Col] 0 106,.rows ((p0.b.map zae).set p1.toNat [zi ((rd p0.b p1).head.Kind),zi ((rd p0.b p1).head.Line),zi ((rd p0.b p1).head.Col),.str ((rd p0.b p1).head.Text),.map 2,zM 3 1 1 l5,zM 4 1 4 l7,zM 5 1 4 l9]) 8 1 199,.map (l3.map (eKV AV.str AV.bool)),.rows (l5.map eStr) 1 1 9,.rows (l7.map zab) 4 1 192,.rows (l9.map zab) 4 1 192,.rows ((p0.p.zTh.map zad).set p1.toNat [zM 7 1 13 l11]) 1 1 121,.rows (l11.map zaD) 13 1 203,.cells [zi ((rd p0.b p1).head.Kind),zi ((rd p0.b p1).head.Line),zi ((rd p0.b p1).head.Col),.str ((rd p0.b p1).head.Text),.map 2,zM 3 1 1 l5,zM 4 1 4 l7,zM 5 1 4 l9] 0 199]
     rw [zbm] at hm
     refine W.rg [] [(0,.ptr 0 0 0),(5,.ptr 8 0 0),(6,zM 7 1 13 l11),(7,zi i50),(61,zM 7 1 13 l11),(62,zi (l11.length:Int)),(63,zi (zw (i39+1)))] [.cells [.sl (p0.l.map zab),zi p0.at_,.zBx (p0.p.zSy.map zaf) 3 205,zM 6 1 1 p0.p.zTh,zM 1 1 8 p0.b,zi p0.f.Code,zi p0.f.Line,zi p0.f.Col] 0 106,.rows ((p0.b.map zae).set p1.toNat [zi ((rd p0.b p1).head.Kind),zi ((rd p0.b p1).head.Line),zi ((rd p0.b p1).head.Col),.str ((rd p0.b p1).head.Text),.map 2,zM 3 1 1 l5,zM 4 1 4 l7,zM 5 1 4 l9]) 8 1 199,.map (l3.map (eKV AV.str AV.bool)),.rows (l5.map eStr) 1 1 9,.rows (l7.map zab) 4 1 192,.rows (l9.map zab) 4 1 192,.rows ((p0.p.zTh.map zad).set p1.toNat [zM 7 1 13 l11]) 1 1 121,.rows (l11.map zaD) 13 1 203,.cells [zi ((rd p0.b p1).head.Kind),zi ((rd p0.b p1).head.Line),zi ((rd p0.b p1).head.Col),.str ((rd p0.b p1).head.Text),.map 2,zM 3 1 1 l5,zM 4 1 4 l7,zM 5 1 4 l9] 0 199] ?_
     cases hm
     exact ⟨(i50,(zw (i39+1))),(),⟨[],[]⟩,rfl,RO⟩
   ·cases hm
    obtain rfl:=hx _ rfl
    exact W.wk ⟨[],[]⟩ [(0,.ptr 0 0 0),(5,.ptr 8 0 0),(6,zM 7 1 13 l11)] [.cells [.sl (p0.l.map zab),zi p0.at_,.zBx (p0.p.zSy.map zaf) 3 205,zM 6 1 1 p0.p.zTh,zM 1 1 8 p0.b,zi p0.f.Code,zi p0.f.Line,zi p0.f.Col] 0 106,.rows ((p0.b.map zae).set p1.toNat [zi ((rd p0.b p1).head.Kind),zi ((rd p0.b p1).head.Line),zi ((rd p0.b p1).head.Col),.str ((rd p0.b p1).head.Text),.map 2,zM 3 1 1 l5,zM 4 1 4 l7,zM 5 1 4 l9]) 8 1 199,.map (l3.map (eKV AV.str AV.bool)),.rows (l5.map eStr) 1 1 9,.rows (l7.map zab) 4 1 192,.rows (l9.map zab) 4 1 192,.rows ((p0.p.zTh.map zad).set p1.toNat [zM 7 1 13 l11]) 1 1 121,.rows (l11.map zaD) 13 1 203,.cells [zi ((rd p0.b p1).head.Kind),zi ((rd p0.b p1).head.Line),zi ((rd p0.b p1).head.Col),.str ((rd p0.b p1).head.Text),.map 2,zM 3 1 1 l5,zM 4 1 4 l7,zM 5 1 4 l9] 0 199] (W.exit (show _/\_ from ⟨rfl,(),rfl,rfl⟩))
  ·intro e0 s0 h0 hq
   rcases r48 with er48 | qr48
   ·obtain ⟨rfl,_,rfl,rfl⟩:=hq
    replace hm:=zdC hm
    show WK _ _ _ _ _ [(0,.ptr 0 0 0),(5,.ptr 8 0 0),(6,zM 7 1 13 l11)] [.cells [.sl (p0.l.map zab),zi p0.at_,.zBx (p0.p.zSy.map zaf) 3 205,zM 6 1 1 p0.p.zTh,zM 1 1 8 p0.b,zi p0.f.Code,zi p0.f.Line,zi p0.f.Col] 0 106,.rows ((p0.b.map zae).set p1.toNat [zi ((rd p0.b p1).head.Kind),zi ((rd p0.b p1).head.Line),zi ((rd p0.b p1).head.Col),.str ((rd p0.b p1).head.Text),.map 2,zM 3 1 1 l5,zM 4 1 4 l7,zM 5 1 4 l9]) 8 1 199,.map (l3.map (eKV AV.str AV.bool)),.rows (l5.map eStr) 1 1 9,.rows (l7.map zab) 4 1 192,.rows (l9.map zab) 4 1 192,.rows ((p0.p.zTh.map zad).set p1.toNat [zM 7 1 13 l11]) 1 1 121,.rows (l11.map zaD) 13 1 203,.cells [zi ((rd p0.b p1).head.Kind),zi ((rd p0.b p1).head.Line),zi ((rd p0.b p1).head.Col),.str ((rd p0.b p1).head.Text),.map 2,zM 3 1 1 l5,zM 4 1 4 l7,zM 5 1 4 l9] 0 199]
    refine W.seq (W.sa 9 [0,5,83,84,85] ?_)
    refine W.block ?_
    replace ⟨r83,hlr83,hm⟩:=zai hm
    refine W.mono (Q:=fun e0 s0 h0=>match r83 with | .inl e=>e0=.exit 2/\∃w:Unit,s0=[]/\h0=[.cells [.sl (p0.l.map zab),zi p0.at_,.zBx (p0.p.zSy.map zaf) 3 205,.zBx ((p0.p.zTh.set p1.toNat (zaj.mk l11)).map zad) 1 121,.zBx ((p0.b.set p1.toNat (zat.mk ((rd p0.b p1).head) l3 l5 l7 l9)).map zae) 8 199,zi p0.f.Code,zi p0.f.Line,zi p0.f.Col] 0 106] | .inr q=>e0=.ret/\s0=[(4,.bool q.1)]/\h0=[.cells (zas q.2) 0 106]) (W.loopM (step:=zbk l11 l3 l9 p0 p1 l5 l7) (a0:=0) (fun (a:Int) (v:Unit)=>([(0,.ptr 0 0 0),(5,.ptr 8 0 0),(83,zM 7 1 13 l11),(84,zi (l11.length:Int)),(85,zi a)],[.cells [.sl (p0.l.map zab),zi p0.at_,.zBx (p0.p.zSy.map zaf) 3 205,zM 6 1 1 p0.p.zTh,zM 1 1 8 p0.b,zi p0.f.Code,zi p0.f.Line,zi p0.f.Col] 0 106,.rows ((p0.b.map zae).set p1.toNat [zi ((rd p0.b p1).head.Kind),zi ((rd p0.b p1).head.Line),zi ((rd p0.b p1).head.Col),.str ((rd p0.b p1).head.Text),.map 2,zM 3 1 1 l5,zM 4 1 4 l7,zM 5 1 4 l9]) 8 1 199,.map (l3.map (eKV AV.str AV.bool)),.rows (l5.map eStr) 1 1 9,.rows (l7.map zab) 4 1 192,.rows (l9.map zab) 4 1 192,.rows ((p0.p.zTh.map zad).set p1.toNat [zM 7 1 13 l11]) 1 1 121,.rows (l11.map zaD) 13 1 203,.cells [zi ((rd p0.b p1).head.Kind),zi ((rd p0.b p1).head.Line),zi ((rd p0.b p1).head.Col),.str ((rd p0.b p1).head.Text),.map 2,zM 3 1 1 l5,zM 4 1 4 l7,zM 5 1 4 l9] 0 199])) () hlr83 ⟨[],[]⟩ RO ?_) ?_
    ·rintro i74 _ x hm hx
     rw [zbk] at hm
     show WK _ _ _ _ _ [(0,.ptr 0 0 0),(5,.ptr 8 0 0),(83,zM 7 1 13 l11),(84,zi (l11.length:Int)),(85,zi i74)] [.cells [.sl (p0.l.map zab),zi p0.at_,.zBx (p0.p.zSy.map zaf) 3 205,zM 6 1 1 p0.p.zTh,zM 1 1 8 p0.b,zi p0.f.Code,zi p0.f.Line,zi p0.f.Col] 0 106,.rows ((p0.b.map zae).set p1.toNat [zi ((rd p0.b p1).head.Kind),zi ((rd p0.b p1).head.Line),zi ((rd p0.b p1).head.Col),.str ((rd p0.b p1).head.Text),.map 2,zM 3 1 1 l5,zM 4 1 4 l7,zM 5 1 4 l9]) 8 1 199,.map (l3.map (eKV AV.str AV.bool)),.rows (l5.map eStr) 1 1 9,.rows (l7.map zab) 4 1 192,.rows (l9.map zab) 4 1 192,.rows ((p0.p.zTh.map zad).set p1.toNat [zM 7 1 13 l11]) 1 1 121,.rows (l11.map zaD) 13 1 203,.cells [zi ((rd p0.b p1).head.Kind),zi ((rd p0.b p1).head.Line),zi ((rd p0.b p1).head.Col),.str ((rd p0.b p1).head.Text),.map 2,zM 3 1 1 l5,zM 4 1 4 l7,zM 5 1 4 l9] 0 199]
     refine W.sa 9 [0,5,83,84,85,86] ?_
     refine W.seq ?_
     refine W.cn hm ?_ ?_ <;> clear hm <;> intro hb84 hm
     ·refine W.skip (W.seq (W.block ?_))
      replace ⟨h85,hm⟩:=zaA hm
      refine W.sa 10 [0,5,10,11,83,84,85] ?_
      replace ⟨b86,h87,hm⟩:=zaY hm
      refine W.sq [] [(0,.ptr 0 0 0),(5,.ptr 8 0 0),(10,zi i74),(83,zM 7 1 13 l11),(84,zi (l11.length:Int)),(85,zi i74),(100,.bool b86)] [.cells [.sl (p0.l.map zab),zi p0.at_,.zBx (p0.p.zSy.map zaf) 3 205,zM 6 1 1 p0.p.zTh,zM 1 1 8 p0.b,zi p0.f.Code,zi p0.f.Line,zi p0.f.Col] 0 106,.rows ((p0.b.map zae).set p1.toNat [zi ((rd p0.b p1).head.Kind),zi ((rd p0.b p1).head.Line),zi ((rd p0.b p1).head.Col),.str ((rd p0.b p1).head.Text),.map 2,zM 3 1 1 l5,zM 4 1 4 l7,zM 5 1 4 l9]) 8 1 199,.map (l3.map (eKV AV.str AV.bool)),.rows (l5.map eStr) 1 1 9,.rows (l7.map zab) 4 1 192,.rows (l9.map zab) 4 1 192,.rows ((p0.p.zTh.map zad).set p1.toNat [zM 7 1 13 l11]) 1 1 121,.rows (l11.map zaD) 13 1 203,.cells [zi ((rd p0.b p1).head.Kind),zi ((rd p0.b p1).head.Line),zi ((rd p0.b p1).head.Col),.str ((rd p0.b p1).head.Text),.map 2,zM 3 1 1 l5,zM 4 1 4 l7,zM 5 1 4 l9] 0 199] ?_
      clear h87
      refine W.cn hm ?_ ?_ <;> clear hm <;> intro hb88 hm
      ·replace ⟨h89,hm⟩:=zaA hm
       replace ⟨v90,h91,hm⟩:=zai hm
       refine W.sa 1 [4] ?_ (hrun:=RCG (zaG h91) [0] [] [.fol 1 p1.toNat 4,.fol 1 p1.toNat 5,.fol 1 p1.toNat 6,.fol 1 p1.toNat 7,.fol 0 0 4,.fol 6 p1.toNat 0,.fol 0 0 3] [])
       cases hm
       obtain rfl:=hx _ rfl
       exact W.wk ⟨[],[]⟩ [(4,.bool v90.1)] [.cells (zas v90.2) 0 106] (W.ret (show _/\_ from ⟨rfl,rfl,rfl⟩))
      ·refine W.skip (W.rg [] [(0,.ptr 0 0 0),(5,.ptr 8 0 0),(83,zM 7 1 13 l11),(84,zi (l11.length:Int)),(85,zi (zw (i74+1)))] [.cells [.sl (p0.l.map zab),zi p0.at_,.zBx (p0.p.zSy.map zaf) 3 205,zM 6 1 1 p0.p.zTh,zM 1 1 8 p0.b,zi p0.f.Code,zi p0.f.Line,zi p0.f.Col] 0 106,.rows ((p0.b.map zae).set p1.toNat [zi ((rd p0.b p1).head.Kind),zi ((rd p0.b p1).head.Line),zi ((rd p0.b p1).head.Col),.str ((rd p0.b p1).head.Text),.map 2,zM 3 1 1 l5,zM 4 1 4 l7,zM 5 1 4 l9]) 8 1 199,.map (l3.map (eKV AV.str AV.bool)),.rows (l5.map eStr) 1 1 9,.rows (l7.map zab) 4 1 192,.rows (l9.map zab) 4 1 192,.rows ((p0.p.zTh.map zad).set p1.toNat [zM 7 1 13 l11]) 1 1 121,.rows (l11.map zaD) 13 1 203,.cells [zi ((rd p0.b p1).head.Kind),zi ((rd p0.b p1).head.Line),zi ((rd p0.b p1).head.Col),.str ((rd p0.b p1).head.Text),.map 2,zM 3 1 1 l5,zM 4 1 4 l7,zM 5 1 4 l9] 0 199] ?_)
       cases hm
       exact ⟨(zw (i74+1)),(),⟨[],[]⟩,rfl,RO⟩
     ·cases hm
      obtain rfl:=hx _ rfl
      exact W.wk ⟨[],[.fol 1 p1.toNat 4,.fol 1 p1.toNat 5,.fol 1 p1.toNat 6,.fol 1 p1.toNat 7,.fol 0 0 4,.fol 6 p1.toNat 0,.fol 0 0 3]⟩ [] [.cells [.sl (p0.l.map zab),zi p0.at_,.zBx (p0.p.zSy.map zaf) 3 205,.zBx ((p0.p.zTh.set p1.toNat (zaj.mk l11)).map zad) 1 121,.zBx ((p0.b.set p1.toNat (zat.mk ((rd p0.b p1).head) l3 l5 l7 l9)).map zae) 8 199,zi p0.f.Code,zi p0.f.Line,zi p0.f.Col] 0 106] (W.exit (show _/\_ from ⟨rfl,(),rfl,rfl⟩))
    ·intro e0 s0 h0 hq
     rcases r83 with er83 | qr83
     ·obtain ⟨rfl,_,rfl,rfl⟩:=hq
      replace hm:=zdC hm
      show WK _ _ _ _ _ [] [.cells [.sl (p0.l.map zab),zi p0.at_,.zBx (p0.p.zSy.map zaf) 3 205,.zBx ((p0.p.zTh.set p1.toNat (zaj.mk l11)).map zad) 1 121,.zBx ((p0.b.set p1.toNat (zat.mk ((rd p0.b p1).head) l3 l5 l7 l9)).map zae) 8 199,zi p0.f.Code,zi p0.f.Line,zi p0.f.Col] 0 106]
      replace ⟨l92,h93,hm⟩:=zaY hm
      replace ⟨l94,h95,hm⟩:=zaY hm
      refine W.sq [] [(4,.bool true)] [.cells [.sl (p0.l.map zab),zi p0.at_,.zBx (p0.p.zSy.map zaf) 3 205,.zBx (l92.map zad) 1 121,.zBx (l94.map zae) 8 199,zi p0.f.Code,zi p0.f.Line,zi p0.f.Col] 0 106] ?_
      clear h93 h95
      cases hm
      exact W.rt
     ·obtain ⟨rfl,rfl,rfl⟩:=hq
      replace hm:=zdB hm
      cases hm
      exact zgn.retW ⟨[],[]⟩ RO
   ·obtain ⟨rfl,rfl,rfl⟩:=hq
    replace hm:=zdB hm
    cases hm
    exact zgn.retW ⟨[],[]⟩ RO
end Go.Proofs.YtkgpofmbegonfaaGreatDoor
