import Derived.Test.YtocjejladeeckaaGreatDoorVFacts
import Derived.Test.YtocjejladeeckaaGreatDoorVu3
import Derived.Test.YtocjejladeeckaaGreatDoorPalI
import Derived.Test.YtocjejladeeckaaGreatDoorWB
import Derived.Test.YtocjejladeeckaaGreatDoorWC
import Derived.Test.YtocjejladeeckaaGreatDoorWX
set_option linter.all false
set_option maxRecDepth 100000
set_option maxHeartbeats 4000000
namespace Go.Proofs.YtocjejladeeckaaGreatDoor
open Go.Vs
variable [TabX]
theorem zaF{p0:zab}{p1:Int}{p2:zaa}{r:Bool × zab}(hm:zaG p0 p1 p2=some r):HF Tryz.prog 56 [.ptr 0 0 0,zi p1,zqT p2] [.cells (zaA p0) 0 82] (.bool r.1) [.cells (zaA r.2) 0 82]:=by
 rw [zaG] at hm
 refine HF.of Tryz.func56 rfl Tryz.ntmps56 (Nat.le_of_ble_eq_true rfl) rfl ?_
 refine W.sa 2 [0,1,5] ?_
 refine W.sa 1 [] ?_
 refine W.sa 1 [6] ?_
 cases hm
 exact W.rt
theorem zd7{p0:zab}{r:Bool × zab}(hm:zbc p0=some r):HF Tryz.prog 57 [.ptr 0 0 0] [.cells (zaA p0) 0 82] (.bool r.1) [.cells (zaA r.2) 0 82]:=by
 rw [zbc] at hm
 refine HF.of Tryz.func57 rfl Tryz.ntmps57 (Nat.le_of_ble_eq_true rfl) rfl ?_
 refine W.sa 1 [0] ?_
 refine W.seq ?_
 replace ⟨h1,hm⟩:=zap hm
 refine W.saJ [] [] [] 0 1 [0,14] zaI ?_
 refine W.cn hm ?_ ?_ <;> clear hm <;> intro hb2 hm
 ·replace ⟨h3,hm⟩:=zap hm
  replace ⟨v4,h5,hm⟩:=zah hm
  refine W.saJ [11] [] [] 0 1 [2] zaI ?_ (hrun:=RC (zaF h5) [0])
  cases hm
  exact W.rt
 ·refine W.skip (W.sa 1 [] ?_)
  refine W.sa 1 [2] ?_
  cases hm
  exact W.rt
theorem zhA{p0:zab}{p1:ByteArray}{r:Int × Bool × zab}(hm:zdL p0 p1=some r):HF Tryz.prog 81 [.ptr 0 0 0,.str p1] [.cells (zaA p0) 0 82] (.tuple [zi r.1,.bool r.2.1]) [.cells (zaA r.2.2) 0 82]:=by
 rw [zdL] at hm
 refine HF.of Tryz.func81 rfl Tryz.ntmps81 (Nat.le_of_ble_eq_true rfl) rfl ?_
 refine W.sa 1 [0,1] ?_
 refine W.seq (W.wa 2 [0,1] [.foc 0 0 2] ?_)
 refine W.sa 2 [1,12,13,14] ?_
 refine W.block ?_
 replace ⟨r13,hlr13,hm⟩:=zah hm
 refine W.mono (Q:=fun e0 s0 h0=>match r13 with | .inl e=>e0=.exit 0/\∃w:Unit,s0=[]/\h0=[.cells (zaA p0) 0 82] | .inr q=>e0=.ret/\s0=[(4,zi q.1),(5,.bool q.2.1)]/\h0=[.cells (zaA q.2.2) 0 82]) (W.loopM (step:=zdX p0 p1) (a0:=0) (fun (a:Int) (v:Unit)=>([(1,.str p1),(12,zM 1 1 3 p0.p.zSy),(13,zi (p0.p.zSy.length:Int)),(14,zi a)],[zkb p0 p0.at_ (zM 1 1 3 p0.p.zSy) (zbT p0.p.zTh) (zbB p0.b),.rows (p0.p.zSy.map zaD) 3 1 54])) () hlr13 ⟨[],[]⟩ RO ?_) ?_
 ·rintro i9 _ x hm hx
  rw [zdX] at hm
  show WK _ _ _ _ _ [(1,.str p1),(12,zM 1 1 3 p0.p.zSy),(13,zi (p0.p.zSy.length:Int)),(14,zi i9)] [zkb p0 p0.at_ (zM 1 1 3 p0.p.zSy) (zbT p0.p.zTh) (zbB p0.b),.rows (p0.p.zSy.map zaD) 3 1 54]
  refine W.sa 2 [1,12,13,14,15] ?_
  refine W.seq ?_
  refine W.cn hm ?_ ?_ <;> clear hm <;> intro hb14 hm
  ·refine W.skip (W.seq (W.block ?_))
   replace ⟨h15,hm⟩:=zap hm
   refine W.sa 3 [1,6,7,12,13,14] ?_
   refine W.sa 2 [1,6,12,13,14,22] ?_
   refine W.cn hm ?_ ?_ <;> clear hm <;> intro hb16 hm
   ·refine W.sa 1 [4,5] ?_ [.fol 0 0 2]
    cases hm
    obtain rfl:=hx _ rfl
    exact W.wk ⟨[],[]⟩ [(4,zi i9),(5,.bool true)] [.cells (zaA p0) 0 82] (W.ret (show _/\_ from ⟨rfl,rfl,rfl⟩))
   ·refine W.skip (W.rg [] [(1,.str p1),(12,zM 1 1 3 p0.p.zSy),(13,zi (p0.p.zSy.length:Int)),(14,zi (zw (i9+1)))] [zkb p0 p0.at_ (zM 1 1 3 p0.p.zSy) (zbT p0.p.zTh) (zbB p0.b),.rows (p0.p.zSy.map zaD) 3 1 54] ?_)
    cases hm
    exact ⟨(zw (i9+1)),(),⟨[],[]⟩,rfl,RO⟩
  ·cases hm
   obtain rfl:=hx _ rfl
   exact W.wk ⟨[],[.fol 0 0 2]⟩ [] [.cells (zaA p0) 0 82] (W.exit (show _/\_ from ⟨rfl,(),rfl,rfl⟩))
 ·intro e0 s0 h0 hq
  rcases r13 with er13 | qr13
  ·obtain ⟨rfl,_,rfl,rfl⟩:=hq
   replace hm:=zc5 hm
   show WK _ _ _ _ _ [] [.cells (zaA p0) 0 82]
   refine W.sa 1 [4,5] ?_
   cases hm
   exact W.rt
  ·obtain ⟨rfl,rfl,rfl⟩:=hq
   replace hm:=zc4 hm
   cases hm
   exact zkF.retW ⟨[],[]⟩ RO
theorem zgL{p0:zab}{p1:zaa}{r:Bool × zab}(hm:zb8 p0 p1=some r):HF Tryz.prog 55 [.ptr 0 0 0,zqT p1] [.cells (zaA p0) 0 82] (.bool r.1) [.cells (zaA r.2) 0 82]:=by
 rw [zb8] at hm
 refine HF.of Tryz.func55 rfl Tryz.ntmps55 (Nat.le_of_ble_eq_true rfl) rfl ?_
 refine W.sa 2 [0,3] ?_
 refine W.seq (W.wa 3 [0,3] [.foc 0 0 4] ?_)
 refine W.sa 2 [0,3,18] ?_ [.fol 0 0 4]
 refine W.cn hm ?_ ?_ <;> clear hm <;> intro hb1 hm
 ·replace ⟨v2,h3,hm⟩:=zah hm
  refine W.sa 1 [4] ?_ (hrun:=RC (zaF h3) [0])
  cases hm
  exact W.rt
 ·refine W.skip (W.seq (W.wa 3 [0,3,18] [.foc 0 0 2] ?_))
  refine W.sa 2 [0,3,28] ?_ [.fol 0 0 2]
  refine W.cn hm ?_ ?_ <;> clear hm <;> intro hb4 hm
  ·replace ⟨v5,h6,hm⟩:=zah hm
   refine W.sa 1 [4] ?_ (hrun:=RC (zaF h6) [0])
   cases hm
   exact W.rt
  ·refine W.skip ?_
   replace ⟨h7,hm⟩:=zap hm
   refine W.saJ [11,12] [11,12] [0,1,2,3,4,5,6,7,8,9,10] 2 3 [0,5] zaI ?_
   refine W.seq (W.sa 3 [0,5,45] ?_)
   refine W.cn hm ?_ ?_ <;> clear hm <;> intro hb8 hm
   ·replace ⟨v9,h10,hm⟩:=zah hm
    refine W.sa 1 [4] ?_ (hrun:=RC (zaF h10) [0])
    cases hm
    exact W.rt
   ·refine W.skip (W.seq ?_)
    replace ⟨v11,h12,hm⟩:=zah hm
    have kh12:=zdN h12
    try simp only [hb1,hb4,hb8] at kh12
    refine W.sa 3 [0,5,51] ?_
    refine W.cn hm ?_ ?_ <;> clear hm <;> intro hb13 hm
    ·replace ⟨v14,h15,hm⟩:=zah hm
     refine W.sa 1 [4] ?_ (hrun:=RC (zaF h15) [0])
     cases hm
     exact W.rt
    ·refine W.skip (W.seq ?_)
     replace ⟨v16,h17,hm⟩:=zah hm
     refine W.sa 3 [0,5,7] ?_ (hrun:=RC (zhA h17) [0])
     refine W.sa 3 [0,5,62] ?_
     refine W.cn hm ?_ ?_ <;> clear hm <;> intro hb18 hm
     ·replace ⟨v19,h20,hm⟩:=zah hm
      refine W.sa 1 [4] ?_ (hrun:=RC (zaF h20) [0])
      cases hm
      exact W.rt
     ·refine W.skip (W.sa 4 [0,5,8] ?_)
      replace ⟨h21,hm⟩:=zap hm
      refine W.saJ [11] [] [] 0 4 [0,5,8] zaI ?_
      refine W.seq (W.sa 4 [0,5,8,82] ?_)
      refine W.cn hm ?_ ?_ <;> clear hm <;> intro hb22 hm
      ·replace ⟨v23,h24,hm⟩:=zah hm
       refine W.sa 1 [4] ?_ (hrun:=RC (zaF h24) [0])
       cases hm
       exact W.rt
      ·refine W.skip ?_
       replace ⟨v25,h26,hm⟩:=zah hm
       have kh26:=zd9 h26
       try simp only [hb1,hb4,hb8,hb13,hb18,hb22] at kh26
       refine W.sa 4 [0,5,8,9] ?_
       refine W.seq (W.sq [] [(0,.ptr 0 0 0),(5,.ptr 2 0 0),(8,.ptr 3 0 0),(9,zi v25.1),(97,.bool (decide (v25.1<1)||decide (v25.1>64)))] [.cells (zaA v16.2.2) 0 82,.dead,.cells (zaj (rd v16.2.2.l (zw (v16.2.2.at_+2)))) 0 41,.cells [.str ((rd p0.l (zw (p0.at_+1))).Text),zi 0,.nils] 0 54] ?_)
       refine W.cn hm ?_ ?_ <;> clear hm <;> intro hb27 hm
       ·replace ⟨v28,h29,hm⟩:=zah hm
        refine W.sa 1 [4] ?_ (hrun:=RC (zaF h29) [0])
        cases hm
        exact W.rt
       ·refine W.skip (W.sa 4 [0,8] ?_)
        refine W.sa 4 [0,8] ?_
        refine W.seq (W.block ?_)
        replace ⟨r77,hlr77,hm⟩:=zah hm
        refine W.mono (Q:=fun e0 s0 h0=>match r77 with | .inl e=>e0=.exit 0/\∃w:Nat,s0=[(0,.ptr 0 0 0),(8,.ptr 3 0 0)]/\h0=[zka v16.2.2 e.1 (zbB v16.2.2.b),.dead,.dead,.cells [.str ((rd p0.l (zw (p0.at_+1))).Text),zi v25.1,zM 4 w 1 e.2] 0 54,.rows (e.2.map (eInt .i64)) 1 w 2] | .inr q=>e0=.ret/\s0=[(4,.bool q.1)]/\h0=[.cells (zaA q.2) 0 82]) (W.loopM (step:=za6 v16 v25) (a0:=((zw (v16.2.2.at_+3)),[])) (fun (a:Int × (List Int)) (v:Nat)=>([(0,.ptr 0 0 0),(8,.ptr 3 0 0)],[zka v16.2.2 a.1 (zbB v16.2.2.b),.dead,.dead,.cells [.str ((rd p0.l (zw (p0.at_+1))).Text),zi v25.1,zM 4 v 1 a.2] 0 54,.rows (a.2.map (eInt .i64)) 1 v 2])) 0 hlr77 ⟨[],[]⟩ RO ?_) ?_
        ·rintro ⟨i59,l60⟩ w61 x hm hx
         rw [za6] at hm
         show WK _ _ _ _ _ [(0,.ptr 0 0 0),(8,.ptr 3 0 0)] [zka v16.2.2 i59 (zbB v16.2.2.b),.dead,.dead,.cells [.str ((rd p0.l (zw (p0.at_+1))).Text),zi v25.1,zM 4 w61 1 l60] 0 54,.rows (l60.map (eInt .i64)) 1 w61 2]
         refine W.seq ?_
         replace ⟨h78,hm⟩:=zap hm
         refine W.saJ [] [] [] 0 5 [0,8,121] zaI ?_
         refine W.cn hm ?_ ?_ <;> clear hm <;> intro hb79 hm
         ·refine W.skip (W.block (W.seq (W.sa 5 [0,8,127] ?_)))
          refine W.cn hm ?_ ?_ <;> clear hm <;> intro hb80 hm
          ·replace ⟨h81,hm⟩:=zap hm
           replace ⟨v82,h83,hm⟩:=zah hm
           refine W.saJ [11] [] [] 0 1 [4] zaI ?_ (hrun:=RC (zaF h83) [0])
           cases hm
           obtain rfl:=hx _ rfl
           exact W.wk ⟨[],[]⟩ [(4,.bool v82.1)] [.cells (zaA v82.2) 0 82] (W.ret (show _/\_ from ⟨rfl,rfl,rfl⟩))
          ·refine W.skip ?_
           replace ⟨h84,hm⟩:=zap hm
           replace ⟨v85,h86,hm⟩:=zah hm
           have kh86:=zd9 h86
           try simp only [hb1,hb4,hb8,hb13,hb18,hb22,hb27,hb79,hb80] at kh86
           refine W.saJ [] [] [] 0 5 [0,8,11] zaI ?_
           replace ⟨h87,hm⟩:=zap hm
           replace ⟨l88,h89,hm⟩:=zaN hm
           refine W.sq [] [(0,.ptr 0 0 0),(8,.ptr 3 0 0)] [zka v16.2.2 i59 (zbB v16.2.2.b),.dead,.dead,.cells [.str ((rd p0.l (zw (p0.at_+1))).Text),zi v25.1,.msl 4 (w61+1) 0 1 l88.length l88.length] 0 54,.rows (l88.map (eInt .i64)) 1 (w61+1) 2] ?_
           clear h89
           refine W.rg [] [(0,.ptr 0 0 0),(8,.ptr 3 0 0)] [zka v16.2.2 (zw (i59+1)) (zbB v16.2.2.b),.dead,.dead,.cells [.str ((rd p0.l (zw (p0.at_+1))).Text),zi v25.1,.msl 4 (w61+1) 0 1 l88.length l88.length] 0 54,.rows (l88.map (eInt .i64)) 1 (w61+1) 2] ?_
           cases hm
           exact ⟨((zw (i59+1)),l88),(w61+1),⟨[],[]⟩,rfl,RO⟩
         ·cases hm
          obtain rfl:=hx _ rfl
          exact W.wk ⟨[],[]⟩ [(0,.ptr 0 0 0),(8,.ptr 3 0 0)] [zka v16.2.2 i59 (zbB v16.2.2.b),.dead,.dead,.cells [.str ((rd p0.l (zw (p0.at_+1))).Text),zi v25.1,zM 4 w61 1 l60] 0 54,.rows (l60.map (eInt .i64)) 1 w61 2] (W.exit (show _/\_ from ⟨rfl,w61,rfl,rfl⟩))
        ·intro e0 s0 h0 hq
         rcases r77 with er77 | qr77
         ·obtain ⟨rfl,w76,rfl,rfl⟩:=hq
          replace hm:=zc5 hm
          show WK _ _ _ _ _ [(0,.ptr 0 0 0),(8,.ptr 3 0 0)] [zka v16.2.2 er77.1 (zbB v16.2.2.b),.dead,.dead,.cells [.str ((rd p0.l (zw (p0.at_+1))).Text),zi v25.1,zM 4 w76 1 er77.2] 0 54,.rows (er77.2.map (eInt .i64)) 1 w76 2]
          replace ⟨h90,hm⟩:=zap hm
          replace ⟨l91,h92,hm⟩:=zaN hm
          refine W.wk ⟨[4],[.foc 0 0 2]⟩ [(0,.ptr 0 0 0),(8,.ptr 3 0 0)] [zkb v16.2.2 er77.1 (zM 5 1 3 v16.2.2.p.zSy) (zbT v16.2.2.p.zTh) (zbB v16.2.2.b),.dead,.dead,.cells [.str ((rd p0.l (zw (p0.at_+1))).Text),zi v25.1,.sl (er77.2.map (eInt .i64))] 0 54,.dead,.rows (v16.2.2.p.zSy.map zaD) 3 1 54] ?_
          refine W.sqLG [.light,.light,.light,.light,.light,.light,.light,.lit,.app,.light,.light,.light,.store] [([],[]),([],[]),([],[]),([],[]),([],[]),([0],[]),([3],[]),([],[]),([5],[5]),([],[]),([],[]),([],[]),([0],[0])] [] [.fol 0 0 2] [(0,.ptr 0 0 0)] [zkb v16.2.2 er77.1 (zbS l91) (zbT v16.2.2.p.zTh) (zbB v16.2.2.b)] zaI ?_
          clear h92
          replace ⟨v93,h94,hm⟩:=zah hm
          refine W.sa 1 [4] ?_ (hrun:=RC (zd7 h94) [0])
          cases hm
          exact W.rt
         ·obtain ⟨rfl,rfl,rfl⟩:=hq
          replace hm:=zc4 hm
          cases hm
          exact zkF.retW ⟨[],[]⟩ RO
theorem zau{p0:zab}{p1:Int}{p2:zaa}{w1_:Nat}{r:Bool × zab}(hm:zay p0 p1 p2=some r):HF Tryz.prog 56 [.ptr 0 0 0,zi p1,zqT p2] [zka p0 p0.at_ (zM 1 w1_ 8 p0.b),.rows (p0.b.map zag) 8 w1_ 109] (.bool r.1) [zka r.2 r.2.at_ (zM 1 w1_ 8 p0.b),.rows (p0.b.map zag) 8 w1_ 109]:=by
 rw [zay] at hm
 refine HF.of Tryz.func56 rfl Tryz.ntmps56 (Nat.le_of_ble_eq_true rfl) rfl ?_
 refine W.sa 3 [0,1,5] ?_
 refine W.sa 2 [] ?_
 refine W.sa 2 [6] ?_
 cases hm
 exact W.rt
theorem zgZ{p0:zab}{w1_:Nat}{r:Bool × zab}(hm:zcV p0=some r):HF Tryz.prog 57 [.ptr 0 0 0] [zka p0 p0.at_ (zM 1 w1_ 8 p0.b),.rows (p0.b.map zag) 8 w1_ 109] (.bool r.1) [zka r.2 r.2.at_ (zM 1 w1_ 8 p0.b),.rows (p0.b.map zag) 8 w1_ 109]:=by
 rw [zcV] at hm
 refine HF.of Tryz.func57 rfl Tryz.ntmps57 (Nat.le_of_ble_eq_true rfl) rfl ?_
 refine W.sa 2 [0] ?_
 refine W.seq ?_
 replace ⟨h1,hm⟩:=zap hm
 refine W.saJ [] [] [] 0 2 [0,14] zaI ?_
 refine W.cn hm ?_ ?_ <;> clear hm <;> intro hb2 hm
 ·replace ⟨h3,hm⟩:=zap hm
  replace ⟨v4,h5,hm⟩:=zah hm
  refine W.saJ [11] [] [] 0 2 [2] zaI ?_ (hrun:=RC (zau (w1_:=w1_) h5) [0,1])
  cases hm
  exact W.rt
 ·refine W.skip (W.sa 2 [] ?_)
  refine W.sa 2 [2] ?_
  cases hm
  exact W.rt
theorem zbn{p0:zab}{p1:Int}{p2:ByteArray}{w1_:Nat}{r:Bool × zab}(hm:zaO p0 p1 p2=some r):HF Tryz.prog 82 [.ptr 0 0 0,zi p1,.str p2] [zka p0 p0.at_ (zM 1 w1_ 8 p0.b),.rows (p0.b.map zag) 8 w1_ 109] (.bool r.1) [zka r.2 r.2.at_ (zM 1 w1_ 8 p0.b),.rows (p0.b.map zag) 8 w1_ 109]:=by
 rw [zaO] at hm
 refine HF.of Tryz.func82 rfl Tryz.ntmps82 (Nat.le_of_ble_eq_true rfl) rfl ?_
 refine W.sa 2 [0,1,2] ?_
 replace ⟨h1,hm⟩:=zap hm
 replace ⟨h2,hm⟩:=zap hm
 refine W.sq [] [(6,.bool (((rd p0.l p1).Kind==3)&&decide ((rd p0.l p1).Text=p2)))] [zka p0 p0.at_ (zM 1 w1_ 8 p0.b),.rows (p0.b.map zag) 8 w1_ 109] ?_
 cases hm
 exact W.rt
theorem zew{p0:zab}{p1:ByteArray}{w1_:Nat}{r:Int × Bool × zab}(hm:zb9 p0 p1=some r):HF Tryz.prog 81 [.ptr 0 0 0,.str p1] [zka p0 p0.at_ (zM 1 w1_ 8 p0.b),.rows (p0.b.map zag) 8 w1_ 109] (.tuple [zi r.1,.bool r.2.1]) [zka r.2.2 r.2.2.at_ (zM 1 w1_ 8 p0.b),.rows (p0.b.map zag) 8 w1_ 109]:=by
 rw [zb9] at hm
 refine HF.of Tryz.func81 rfl Tryz.ntmps81 (Nat.le_of_ble_eq_true rfl) rfl ?_
 refine W.sa 2 [0,1] ?_
 refine W.seq (W.wa 3 [0,1] [.foc 0 0 2] ?_)
 refine W.sa 3 [1,12,13,14] ?_
 refine W.block ?_
 replace ⟨r13,hlr13,hm⟩:=zah hm
 refine W.mono (Q:=fun e0 s0 h0=>match r13 with | .inl e=>e0=.exit 0/\∃w:Unit,s0=[]/\h0=[zka p0 p0.at_ (zM 1 w1_ 8 p0.b),.rows (p0.b.map zag) 8 w1_ 109] | .inr q=>e0=.ret/\s0=[(4,zi q.1),(5,.bool q.2.1)]/\h0=[zka q.2.2 q.2.2.at_ (zM 1 w1_ 8 p0.b),.rows (p0.b.map zag) 8 w1_ 109]) (W.loopM (step:=zcM p0 p1) (a0:=0) (fun (a:Int) (v:Unit)=>([(1,.str p1),(12,zM 2 1 3 p0.p.zSy),(13,zi (p0.p.zSy.length:Int)),(14,zi a)],[zkb p0 p0.at_ (zM 2 1 3 p0.p.zSy) (zbT p0.p.zTh) (zM 1 w1_ 8 p0.b),.rows (p0.b.map zag) 8 w1_ 109,.rows (p0.p.zSy.map zaD) 3 1 54])) () hlr13 ⟨[],[]⟩ RO ?_) ?_
 ·rintro i9 _ x hm hx
  rw [zcM] at hm
  show WK _ _ _ _ _ [(1,.str p1),(12,zM 2 1 3 p0.p.zSy),(13,zi (p0.p.zSy.length:Int)),(14,zi i9)] [zkb p0 p0.at_ (zM 2 1 3 p0.p.zSy) (zbT p0.p.zTh) (zM 1 w1_ 8 p0.b),.rows (p0.b.map zag) 8 w1_ 109,.rows (p0.p.zSy.map zaD) 3 1 54]
  refine W.sa 3 [1,12,13,14,15] ?_
  refine W.seq ?_
  refine W.cn hm ?_ ?_ <;> clear hm <;> intro hb14 hm
  ·refine W.skip (W.seq (W.block ?_))
   replace ⟨h15,hm⟩:=zap hm
   refine W.sa 4 [1,6,7,12,13,14] ?_
   refine W.sa 3 [1,6,12,13,14,22] ?_
   refine W.cn hm ?_ ?_ <;> clear hm <;> intro hb16 hm
   ·refine W.sa 2 [4,5] ?_ [.fol 0 0 2]
    cases hm
    obtain rfl:=hx _ rfl
    exact W.wk ⟨[],[]⟩ [(4,zi i9),(5,.bool true)] [zka p0 p0.at_ (zM 1 w1_ 8 p0.b),.rows (p0.b.map zag) 8 w1_ 109] (W.ret (show _/\_ from ⟨rfl,rfl,rfl⟩))
   ·refine W.skip (W.rg [] [(1,.str p1),(12,zM 2 1 3 p0.p.zSy),(13,zi (p0.p.zSy.length:Int)),(14,zi (zw (i9+1)))] [zkb p0 p0.at_ (zM 2 1 3 p0.p.zSy) (zbT p0.p.zTh) (zM 1 w1_ 8 p0.b),.rows (p0.b.map zag) 8 w1_ 109,.rows (p0.p.zSy.map zaD) 3 1 54] ?_)
    cases hm
    exact ⟨(zw (i9+1)),(),⟨[],[]⟩,rfl,RO⟩
  ·cases hm
   obtain rfl:=hx _ rfl
   exact W.wk ⟨[],[.fol 0 0 2]⟩ [] [zka p0 p0.at_ (zM 1 w1_ 8 p0.b),.rows (p0.b.map zag) 8 w1_ 109] (W.exit (show _/\_ from ⟨rfl,(),rfl,rfl⟩))
 ·intro e0 s0 h0 hq
  rcases r13 with er13 | qr13
  ·obtain ⟨rfl,_,rfl,rfl⟩:=hq
   replace hm:=zc5 hm
   show WK _ _ _ _ _ [] [zka p0 p0.at_ (zM 1 w1_ 8 p0.b),.rows (p0.b.map zag) 8 w1_ 109]
   refine W.sa 2 [4,5] ?_
   cases hm
   exact W.rt
  ·obtain ⟨rfl,rfl,rfl⟩:=hq
   replace hm:=zc4 hm
   cases hm
   exact zkF.retW ⟨[],[]⟩ RO
theorem zf7{p0:zab}{p1:Int}{p2:zad}{w1_:Nat}{r:Bool × zab × zad}(hm:zck p0 p1 p2=some r):HF Tryz.prog 112 [.ptr 0 0 0,zi p1,.ptr 2 0 3] [zka p0 p0.at_ (zM 1 w1_ 8 p0.b),.rows (p0.b.map zag) 8 w1_ 109,.cells (zas p2) 0 63] (.bool r.1) [zka r.2.1 r.2.1.at_ (zM 1 w1_ 8 p0.b),.rows (p0.b.map zag) 8 w1_ 109,.cells (zas r.2.2) 0 63]:=by
 rw [zck] at hm
 refine HF.of Tryz.func112 rfl Tryz.ntmps112 (Nat.le_of_ble_eq_true rfl) rfl ?_
 refine W.sa 3 [0,1,2] ?_
 replace ⟨h1,hm⟩:=zap hm
 refine W.saJ [10,11] [10,11] [0,1,2,3,4,5,6,7,8,9] 3 4 [0,1,2,7] zaI ?_
 refine W.seq (W.sa 4 [0,1,2,7,24] ?_)
 refine W.cn hm ?_ ?_ <;> clear hm <;> intro hb2 hm
 ·replace ⟨v3,h4,hm⟩:=zah hm
  have kh4:=zd9 h4
  try simp only [hb2] at kh4
  refine W.sa 4 [0,1,2,7,8] ?_
  refine W.seq ?_
  replace ⟨h5,hm⟩:=zap hm
  refine W.wa 5 [0,1,2,7,8] [.foc 0 0 2] ?_
  refine W.sqG [] [.fol 0 0 2] [(0,.ptr 0 0 0),(1,zi p1),(2,.ptr 2 0 3),(7,.ptr 3 0 0),(8,zi v3.1),(45,.bool (decide (v3.1<0)||decide (v3.1≥(rd p0.p.zSy p1).Size)))] [zka p0 p0.at_ (zM 1 w1_ 8 p0.b),.rows (p0.b.map zag) 8 w1_ 109,.cells (zas p2) 0 63,.cells (zaj (rd p0.l p0.at_)) 0 41] ?_
  refine W.cn hm ?_ ?_ <;> clear hm <;> intro hb6 hm
  ·replace ⟨v7,h8,hm⟩:=zah hm
   refine W.sa 3 [6] ?_ (hrun:=RC (zau (w1_:=w1_) h8) [0,1])
   cases hm
   exact W.rt
  ·refine W.skip (W.sa 3 [0] ?_)
   refine W.sa 3 [] ?_
   refine W.sa 3 [6] ?_
   cases hm
   exact W.rt
 ·refine W.skip ?_
  replace ⟨v9,h10,hm⟩:=zah hm
  have kh10:=zeT h10
  try simp only [hb2] at kh10
  refine W.sa 4 [0,1,2,7,10,11] ?_
  refine W.seq (W.sq [] [(0,.ptr 0 0 0),(1,zi p1),(2,.ptr 2 0 3),(7,.ptr 3 0 0),(10,zi v9.1),(73,.bool (((rd p0.l p0.at_).Kind != 1)||(!v9.2)))] [zka p0 p0.at_ (zM 1 w1_ 8 p0.b),.rows (p0.b.map zag) 8 w1_ 109,.cells (zas p2) 0 63,.cells (zaj (rd p0.l p0.at_)) 0 41] ?_)
  refine W.cn hm ?_ ?_ <;> clear hm <;> intro hb11 hm
  ·replace ⟨v12,h13,hm⟩:=zah hm
   refine W.sa 3 [6] ?_ (hrun:=RC (zau (w1_:=w1_) h13) [0,1])
   cases hm
   exact W.rt
  ·refine W.skip (W.sa 3 [0] ?_)
   refine W.sa 3 [] ?_
   refine W.sa 3 [6] ?_
   cases hm
   exact W.rt
theorem zf6{p0:zab}{p1:Int}{p2:zad}{w1_:Nat}{r:Bool × zab × zad}(hm:zcj p0 p1 p2=some r):HF Tryz.prog 112 [.ptr 0 0 0,zi p1,.ptr 2 0 7] [zka p0 p0.at_ (zM 1 w1_ 8 p0.b),.rows (p0.b.map zag) 8 w1_ 109,.cells (zas p2) 0 63] (.bool r.1) [zka r.2.1 r.2.1.at_ (zM 1 w1_ 8 p0.b),.rows (p0.b.map zag) 8 w1_ 109,.cells (zas r.2.2) 0 63]:=by
 rw [zcj] at hm
 refine HF.of Tryz.func112 rfl Tryz.ntmps112 (Nat.le_of_ble_eq_true rfl) rfl ?_
 refine W.sa 3 [0,1,2] ?_
 replace ⟨h1,hm⟩:=zap hm
 refine W.saJ [10,11] [10,11] [0,1,2,3,4,5,6,7,8,9] 3 4 [0,1,2,7] zaI ?_
 refine W.seq (W.sa 4 [0,1,2,7,24] ?_)
 refine W.cn hm ?_ ?_ <;> clear hm <;> intro hb2 hm
 ·replace ⟨v3,h4,hm⟩:=zah hm
  have kh4:=zd9 h4
  try simp only [hb2] at kh4
  refine W.sa 4 [0,1,2,7,8] ?_
  refine W.seq ?_
  replace ⟨h5,hm⟩:=zap hm
  refine W.wa 5 [0,1,2,7,8] [.foc 0 0 2] ?_
  refine W.sqG [] [.fol 0 0 2] [(0,.ptr 0 0 0),(1,zi p1),(2,.ptr 2 0 7),(7,.ptr 3 0 0),(8,zi v3.1),(45,.bool (decide (v3.1<0)||decide (v3.1≥(rd p0.p.zSy p1).Size)))] [zka p0 p0.at_ (zM 1 w1_ 8 p0.b),.rows (p0.b.map zag) 8 w1_ 109,.cells (zas p2) 0 63,.cells (zaj (rd p0.l p0.at_)) 0 41] ?_
  refine W.cn hm ?_ ?_ <;> clear hm <;> intro hb6 hm
  ·replace ⟨v7,h8,hm⟩:=zah hm
   refine W.sa 3 [6] ?_ (hrun:=RC (zau (w1_:=w1_) h8) [0,1])
   cases hm
   exact W.rt
  ·refine W.skip (W.sa 3 [0] ?_)
   refine W.sa 3 [] ?_
   refine W.sa 3 [6] ?_
   cases hm
   exact W.rt
 ·refine W.skip ?_
  replace ⟨v9,h10,hm⟩:=zah hm
  have kh10:=zeT h10
  try simp only [hb2] at kh10
  refine W.sa 4 [0,1,2,7,10,11] ?_
  refine W.seq (W.sq [] [(0,.ptr 0 0 0),(1,zi p1),(2,.ptr 2 0 7),(7,.ptr 3 0 0),(10,zi v9.1),(73,.bool (((rd p0.l p0.at_).Kind != 1)||(!v9.2)))] [zka p0 p0.at_ (zM 1 w1_ 8 p0.b),.rows (p0.b.map zag) 8 w1_ 109,.cells (zas p2) 0 63,.cells (zaj (rd p0.l p0.at_)) 0 41] ?_)
  refine W.cn hm ?_ ?_ <;> clear hm <;> intro hb11 hm
  ·replace ⟨v12,h13,hm⟩:=zah hm
   refine W.sa 3 [6] ?_ (hrun:=RC (zau (w1_:=w1_) h13) [0,1])
   cases hm
   exact W.rt
  ·refine W.skip (W.sa 3 [0] ?_)
   refine W.sa 3 [] ?_
   refine W.sa 3 [6] ?_
   cases hm
   exact W.rt
theorem zfA{p0:zab}{p1:zad}{w1_:Nat}{r:Bool × zab × zad}(hm:zbN p0 p1=some r):HF Tryz.prog 103 [.ptr 0 0 0,.ptr 2 0 3] [zka p0 p0.at_ (zM 1 w1_ 8 p0.b),.rows (p0.b.map zag) 8 w1_ 109,.cells (zas p1) 0 63] (.bool r.1) [zka r.2.1 r.2.1.at_ (zM 1 w1_ 8 p0.b),.rows (p0.b.map zag) 8 w1_ 109,.cells (zas r.2.2) 0 63]:=by
 rw [zbN] at hm
 refine HF.of Tryz.func103 rfl Tryz.ntmps103 (Nat.le_of_ble_eq_true rfl) rfl ?_
 refine W.sa 3 [0,1] ?_
 replace ⟨h1,hm⟩:=zap hm
 refine W.saJ [10,11] [10,11] [0,1,2,3,4,5,6,7,8,9] 3 4 [0,1,5] zaI ?_
 refine W.seq (W.sa 4 [0,1,5,24] ?_)
 refine W.cn hm ?_ ?_ <;> clear hm <;> intro hb2 hm
 ·replace ⟨v3,h4,hm⟩:=zah hm
  have kh4:=zd9 h4
  try simp only [hb2] at kh4
  refine W.sa 3 [0,1,6] ?_
  refine W.sa 3 [0] ?_
  refine W.sa 3 [] ?_
  refine W.sa 3 [4] ?_
  cases hm
  exact W.rt
 ·refine W.skip (W.seq (W.sa 4 [0,1,5,44] ?_))
  refine W.cn hm ?_ ?_ <;> clear hm <;> intro hb5 hm
  ·replace ⟨v6,h7,hm⟩:=zah hm
   refine W.sa 3 [4] ?_ (hrun:=RC (zau (w1_:=w1_) h7) [0,1])
   cases hm
   exact W.rt
  ·refine W.skip (W.seq ?_)
   replace ⟨v8,h9,hm⟩:=zah hm
   have kh9:=zeT h9
   try simp only [hb2,hb5] at kh9
   refine W.sa 4 [0,1,5,8,9] ?_
   refine W.sa 4 [0,1,5,8,54] ?_
   refine W.cn hm ?_ ?_ <;> clear hm <;> intro hb10 hm
   ·refine W.sa 3 [0] ?_
    refine W.sa 3 [] ?_
    refine W.sa 3 [4] ?_
    cases hm
    exact W.rt
   ·refine W.skip (W.seq ?_)
    replace ⟨v11,h12,hm⟩:=zah hm
    have kh12:=zdN h12
    try simp only [hb2,hb5,hb10] at kh12
    refine W.sa 4 [0,1,5,68] ?_
    refine W.cn hm ?_ ?_ <;> clear hm <;> intro hb13 hm
    ·replace ⟨v14,h15,hm⟩:=zah hm
     refine W.sa 3 [4] ?_ (hrun:=RC (zau (w1_:=w1_) h15) [0,1])
     cases hm
     exact W.rt
    ·refine W.skip ?_
     replace ⟨v16,h17,hm⟩:=zah hm
     refine W.sa 4 [0,1,5,10,11] ?_ (hrun:=RC (zew (w1_:=w1_) h17) [0,1])
     refine W.seq (W.sa 4 [0,1,5,10,80] ?_)
     refine W.cn hm ?_ ?_ <;> clear hm <;> intro hb18 hm
     ·replace ⟨v19,h20,hm⟩:=zah hm
      refine W.sa 3 [4] ?_ (hrun:=RC (zau (w1_:=w1_) h20) [0,1])
      cases hm
      exact W.rt
     ·refine W.skip (W.sa 3 [0,1,10] ?_)
      refine W.seq ?_
      replace ⟨v21,h22,hm⟩:=zah hm
      refine W.sa 3 [0,1,10,97] ?_ (hrun:=RC (zbn (w1_:=w1_) h22) [0,1])
      refine W.cn hm ?_ ?_ <;> clear hm <;> intro hb23 hm
      ·replace ⟨h24,hm⟩:=zap hm
       replace ⟨v25,h26,hm⟩:=zah hm
       refine W.saJ [11] [] [] 0 3 [4] zaI ?_ (hrun:=RC (zau (w1_:=w1_) h26) [0,1])
       cases hm
       exact W.rt
      ·refine W.skip (W.sa 3 [0,1,10] ?_)
       refine W.seq ?_
       replace ⟨v27,h28,hm⟩:=zah hm
       refine W.sa 3 [0,121] ?_ (hrun:=RC (zf7 (w1_:=w1_) h28) [0,1,2])
       refine W.cn hm ?_ ?_ <;> clear hm <;> intro hb29 hm
       ·refine W.sa 3 [4] ?_
        cases hm
        exact W.rt
       ·refine W.skip (W.seq ?_)
        replace ⟨v30,h31,hm⟩:=zah hm
        refine W.sa 3 [0,128] ?_ (hrun:=RC (zbn (w1_:=w1_) h31) [0,1])
        refine W.cn hm ?_ ?_ <;> clear hm <;> intro hb32 hm
        ·replace ⟨h33,hm⟩:=zap hm
         replace ⟨v34,h35,hm⟩:=zah hm
         refine W.saJ [11] [] [] 0 3 [4] zaI ?_ (hrun:=RC (zau (w1_:=w1_) h35) [0,1])
         cases hm
         exact W.rt
        ·refine W.skip (W.sa 3 [] ?_)
         refine W.sa 3 [4] ?_
         cases hm
         exact W.rt
theorem zfz{p0:zab}{p1:zad}{w1_:Nat}{r:Bool × zab × zad}(hm:zbM p0 p1=some r):HF Tryz.prog 103 [.ptr 0 0 0,.ptr 2 0 7] [zka p0 p0.at_ (zM 1 w1_ 8 p0.b),.rows (p0.b.map zag) 8 w1_ 109,.cells (zas p1) 0 63] (.bool r.1) [zka r.2.1 r.2.1.at_ (zM 1 w1_ 8 p0.b),.rows (p0.b.map zag) 8 w1_ 109,.cells (zas r.2.2) 0 63]:=by
 rw [zbM] at hm
 refine HF.of Tryz.func103 rfl Tryz.ntmps103 (Nat.le_of_ble_eq_true rfl) rfl ?_
 refine W.sa 3 [0,1] ?_
 replace ⟨h1,hm⟩:=zap hm
 refine W.saJ [10,11] [10,11] [0,1,2,3,4,5,6,7,8,9] 3 4 [0,1,5] zaI ?_
 refine W.seq (W.sa 4 [0,1,5,24] ?_)
 refine W.cn hm ?_ ?_ <;> clear hm <;> intro hb2 hm
 ·replace ⟨v3,h4,hm⟩:=zah hm
  have kh4:=zd9 h4
  try simp only [hb2] at kh4
  refine W.sa 3 [0,1,6] ?_
  refine W.sa 3 [0] ?_
  refine W.sa 3 [] ?_
  refine W.sa 3 [4] ?_
  cases hm
  exact W.rt
 ·refine W.skip (W.seq (W.sa 4 [0,1,5,44] ?_))
  refine W.cn hm ?_ ?_ <;> clear hm <;> intro hb5 hm
  ·replace ⟨v6,h7,hm⟩:=zah hm
   refine W.sa 3 [4] ?_ (hrun:=RC (zau (w1_:=w1_) h7) [0,1])
   cases hm
   exact W.rt
  ·refine W.skip (W.seq ?_)
   replace ⟨v8,h9,hm⟩:=zah hm
   have kh9:=zeT h9
   try simp only [hb2,hb5] at kh9
   refine W.sa 4 [0,1,5,8,9] ?_
   refine W.sa 4 [0,1,5,8,54] ?_
   refine W.cn hm ?_ ?_ <;> clear hm <;> intro hb10 hm
   ·refine W.sa 3 [0] ?_
    refine W.sa 3 [] ?_
    refine W.sa 3 [4] ?_
    cases hm
    exact W.rt
   ·refine W.skip (W.seq ?_)
    replace ⟨v11,h12,hm⟩:=zah hm
    have kh12:=zdN h12
    try simp only [hb2,hb5,hb10] at kh12
    refine W.sa 4 [0,1,5,68] ?_
    refine W.cn hm ?_ ?_ <;> clear hm <;> intro hb13 hm
    ·replace ⟨v14,h15,hm⟩:=zah hm
     refine W.sa 3 [4] ?_ (hrun:=RC (zau (w1_:=w1_) h15) [0,1])
     cases hm
     exact W.rt
    ·refine W.skip ?_
     replace ⟨v16,h17,hm⟩:=zah hm
     refine W.sa 4 [0,1,5,10,11] ?_ (hrun:=RC (zew (w1_:=w1_) h17) [0,1])
     refine W.seq (W.sa 4 [0,1,5,10,80] ?_)
     refine W.cn hm ?_ ?_ <;> clear hm <;> intro hb18 hm
     ·replace ⟨v19,h20,hm⟩:=zah hm
      refine W.sa 3 [4] ?_ (hrun:=RC (zau (w1_:=w1_) h20) [0,1])
      cases hm
      exact W.rt
     ·refine W.skip (W.sa 3 [0,1,10] ?_)
      refine W.seq ?_
      replace ⟨v21,h22,hm⟩:=zah hm
      refine W.sa 3 [0,1,10,97] ?_ (hrun:=RC (zbn (w1_:=w1_) h22) [0,1])
      refine W.cn hm ?_ ?_ <;> clear hm <;> intro hb23 hm
      ·replace ⟨h24,hm⟩:=zap hm
       replace ⟨v25,h26,hm⟩:=zah hm
       refine W.saJ [11] [] [] 0 3 [4] zaI ?_ (hrun:=RC (zau (w1_:=w1_) h26) [0,1])
       cases hm
       exact W.rt
      ·refine W.skip (W.sa 3 [0,1,10] ?_)
       refine W.seq ?_
       replace ⟨v27,h28,hm⟩:=zah hm
       refine W.sa 3 [0,121] ?_ (hrun:=RC (zf6 (w1_:=w1_) h28) [0,1,2])
       refine W.cn hm ?_ ?_ <;> clear hm <;> intro hb29 hm
       ·refine W.sa 3 [4] ?_
        cases hm
        exact W.rt
       ·refine W.skip (W.seq ?_)
        replace ⟨v30,h31,hm⟩:=zah hm
        refine W.sa 3 [0,128] ?_ (hrun:=RC (zbn (w1_:=w1_) h31) [0,1])
        refine W.cn hm ?_ ?_ <;> clear hm <;> intro hb32 hm
        ·replace ⟨h33,hm⟩:=zap hm
         replace ⟨v34,h35,hm⟩:=zah hm
         refine W.saJ [11] [] [] 0 3 [4] zaI ?_ (hrun:=RC (zau (w1_:=w1_) h35) [0,1])
         cases hm
         exact W.rt
        ·refine W.skip (W.sa 3 [] ?_)
         refine W.sa 3 [4] ?_
         cases hm
         exact W.rt
theorem zfy{p0:zab}{p1:zad}{w1_:Nat}{r:zad × Bool × zab}(hm:zbe p0 p1=some r):HF Tryz.prog 94 [.ptr 0 0 0,.agg [zi p1.Op,.bool p1.Lock,zi p1.Cond,zi p1.A.Kind,zi p1.A.Reg,zi p1.A.Sym,zi p1.A.N,zi p1.B.Kind,zi p1.B.Reg,zi p1.B.Sym,zi p1.B.N,.str p1.To,.sl (p1.zLb.map eStr)]] [zka p0 p0.at_ (zM 1 w1_ 8 p0.b),.rows (p0.b.map zag) 8 w1_ 109] (.tuple [.agg [zi r.1.Op,.bool r.1.Lock,zi r.1.Cond,zi r.1.A.Kind,zi r.1.A.Reg,zi r.1.A.Sym,zi r.1.A.N,zi r.1.B.Kind,zi r.1.B.Reg,zi r.1.B.Sym,zi r.1.B.N,.str r.1.To,.sl (r.1.zLb.map eStr)],.bool r.2.1]) [zka r.2.2 r.2.2.at_ (zM 1 w1_ 8 p0.b),.rows (p0.b.map zag) 8 w1_ 109]:=by
 rw [zbe] at hm
 refine HF.of Tryz.func94 rfl Tryz.ntmps94 (Nat.le_of_ble_eq_true rfl) rfl ?_
 refine W.sa 4 [0,3,4] ?_
 replace ⟨h1,hm⟩:=zap hm
 refine W.saJ [10,11] [10,11] [0,1,2,3,4,5,6,7,8,9] 4 5 [0,3,4,6] zaI ?_
 refine W.seq ?_
 replace ⟨v2,h3,hm⟩:=zah hm
 refine W.sa 5 [0,3,4,6,21] ?_ (hrun:=RC (zfA (w1_:=w1_) h3) [0,1,2])
 refine W.cn hm ?_ ?_ <;> clear hm <;> intro hb4 hm
 ·refine W.sa 4 [4,5] ?_
  cases hm
  exact W.rt
 ·refine W.skip (W.sq [] [(0,.ptr 0 0 0),(3,.ptr 2 0 0),(4,.ptr 3 0 0),(6,.ptr 4 0 0),(7,.bool (((v2.2.2.A.Kind==1)&&(!v2.2.2.Lock))&&(v2.2.2.Op != 8)))] [zka v2.2.1 v2.2.1.at_ (zM 1 w1_ 8 p0.b),.rows (p0.b.map zag) 8 w1_ 109,.cells (zas v2.2.2) 0 63,.cells [zi 0,.bool false,zi 0,zi 0,zi 0,zi 0,zi 0,zi 0,zi 0,zi 0,zi 0,.str (⟨#[]⟩:ByteArray),.nils] 0 63,.cells (zaj (rd p0.l p0.at_)) 0 41] ?_)
  refine W.seq ?_
  replace ⟨b5,h6,hm⟩:=zaN hm
  refine W.sqh [] [(0,.ptr 0 0 0),(3,.ptr 2 0 0),(4,.ptr 3 0 0),(6,.ptr 4 0 0),(50,.bool b5)] ?_
  clear h6
  refine W.cn hm ?_ ?_ <;> clear hm <;> intro hb7 hm
  ·replace ⟨v8,h9,hm⟩:=zah hm
   refine W.sqL [.light,.light,.light,.callh,.store,.light] [([2],[]),([],[]),([4],[]),([0,1],[0,1]),([3],[3]),([],[])] [] [(4,.ptr 3 0 0),(5,.bool v8.1)] [zka v8.2 v8.2.at_ (zM 1 w1_ 8 p0.b),.rows (p0.b.map zag) 8 w1_ 109,.dead,.cells (zas v2.2.2) 0 63] zaI ?_ (hrun:=?_)
   rotate_left
   ·try simp -implicitDefEqProofs -dsimp only [go_sem,h1,hb4,hb7]
    with_reducible refine exP.mk ⟨[],[0,1],[.ptr 0 0 0,zi 4,zqT (rd p0.l p0.at_)],[zka v2.2.1 v2.2.1.at_ (zM 1 w1_ 8 p0.b),.rows (p0.b.map zag) 8 w1_ 109],.bool v8.1,[zka v8.2 v8.2.at_ (zM 1 w1_ 8 p0.b),.rows (p0.b.map zag) 8 w1_ 109]⟩ (zjv.of (by simp -implicitDefEqProofs -dsimp only [go_sem,h1,hb4,hb7]) (zau h9)) ?_
    try simp -implicitDefEqProofs -dsimp only [go_sem,h1,hb4,hb7]
   cases hm
   exact W.rt
  ·refine W.skip (W.seq ?_)
   replace ⟨v10,h11,hm⟩:=zah hm
   refine W.sa 5 [0,3,4,6,61] ?_ (hrun:=RC (zbn (w1_:=w1_) h11) [0,1])
   refine W.cn hm ?_ ?_ <;> clear hm <;> intro hb12 hm
   ·replace ⟨h13,hm⟩:=zap hm
    replace ⟨v14,h15,hm⟩:=zah hm
    refine W.sqL [.light,.light,.light,.light,.light,.light,.light,.light,.light,.light,.light,.light,.callh,.store,.light] [([2],[]),([],[]),([],[]),([],[]),([],[]),([0],[]),([],[]),([],[]),([],[]),([0],[]),([],[]),([],[]),([0,1],[0,1]),([3],[3]),([],[])] [] [(4,.ptr 3 0 0),(5,.bool v14.1)] [zka v14.2 v14.2.at_ (zM 1 w1_ 8 p0.b),.rows (p0.b.map zag) 8 w1_ 109,.dead,.cells (zas v2.2.2) 0 63] zaI ?_ (hrun:=?_)
    rotate_left
    ·try simp -implicitDefEqProofs -dsimp only [go_sem,h1,hb4,hb7,hb12,h13]
     with_reducible refine exP.mk ⟨[],[0,1],[.ptr 0 0 0,zi 4,zqT (rd v10.2.l v10.2.at_)],[zka v10.2 v10.2.at_ (zM 1 w1_ 8 p0.b),.rows (p0.b.map zag) 8 w1_ 109],.bool v14.1,[zka v14.2 v14.2.at_ (zM 1 w1_ 8 p0.b),.rows (p0.b.map zag) 8 w1_ 109]⟩ (zjv.of (by simp -implicitDefEqProofs -dsimp only [go_sem,h1,hb4,hb7,hb12,h13]) (zau h15)) ?_
     try simp -implicitDefEqProofs -dsimp only [go_sem,h1,hb4,hb7,hb12,h13]
    cases hm
    exact W.rt
   ·refine W.skip (W.sa 5 [0,3,4,6] ?_)
    replace ⟨h16,hm⟩:=zap hm
    refine W.saJ [10] [] [] 0 5 [0,3,4,6] zaI ?_
    refine W.seq ?_
    replace ⟨v17,h18,hm⟩:=zah hm
    refine W.sa 5 [0,3,4,6,95] ?_ (hrun:=RC (zfz (w1_:=w1_) h18) [0,1,2])
    refine W.cn hm ?_ ?_ <;> clear hm <;> intro hb19 hm
    ·refine W.sa 4 [4,5] ?_
     cases hm
     exact W.rt
    ·refine W.skip (W.seq ?_)
     replace ⟨v20,h21,hm⟩:=zah hm
     have kh21:=zm4 h21
     try simp only [hb4,hb7,hb12,hb19] at kh21
     refine W.sa 5 [0,3,4,6,99] ?_
     refine W.cn hm ?_ ?_ <;> clear hm <;> intro hb22 hm
     ·replace ⟨v23,h24,hm⟩:=zah hm
      refine W.sqL [.light,.light,.light,.callh,.store,.light] [([2],[]),([],[]),([4],[]),([0,1],[0,1]),([3],[3]),([],[])] [] [(4,.ptr 3 0 0),(5,.bool v23.1)] [zka v23.2 v23.2.at_ (zM 1 w1_ 8 p0.b),.rows (p0.b.map zag) 8 w1_ 109,.dead,.cells (zas v17.2.2) 0 63] zaI ?_ (hrun:=?_)
      rotate_left
      ·try simp -implicitDefEqProofs -dsimp only [go_sem,h1,hb4,hb7,hb12,h16,hb19,hb22]
       with_reducible refine exP.mk ⟨[],[0,1],[.ptr 0 0 0,zi 4,zqT (rd v10.2.l (zw (v10.2.at_+1)))],[zka v17.2.1 v17.2.1.at_ (zM 1 w1_ 8 p0.b),.rows (p0.b.map zag) 8 w1_ 109],.bool v23.1,[zka v23.2 v23.2.at_ (zM 1 w1_ 8 p0.b),.rows (p0.b.map zag) 8 w1_ 109]⟩ (zjv.of (by simp -implicitDefEqProofs -dsimp only [go_sem,h1,hb4,hb7,hb12,h16,hb19,hb22]) (zau h24)) ?_
       try simp -implicitDefEqProofs -dsimp only [go_sem,h1,hb4,hb7,hb12,h16,hb19,hb22]
      cases hm
      exact W.rt
     ·refine W.skip (W.sa 4 [4,5] ?_)
      cases hm
      exact W.rt
theorem zeW{p0:zab}{p1:Int}{w1_:Nat}{r:zad × Bool × zab}(hm:zaZ p0 p1=some r):HF Tryz.prog 83 [.ptr 0 0 0,.eptr 1 w1_ 8 p1.toNat 0] [zka p0 p0.at_ (zM 1 w1_ 8 p0.b),.rows (p0.b.map zag) 8 w1_ 109] (.tuple [.agg [zi r.1.Op,.bool r.1.Lock,zi r.1.Cond,zi r.1.A.Kind,zi r.1.A.Reg,zi r.1.A.Sym,zi r.1.A.N,zi r.1.B.Kind,zi r.1.B.Reg,zi r.1.B.Sym,zi r.1.B.N,.str r.1.To,.sl (r.1.zLb.map eStr)],.bool r.2.1]) [zka r.2.2 r.2.2.at_ (zM 1 w1_ 8 r.2.2.b),.rows (r.2.2.b.map zag) 8 w1_ 109]:=by
 rw [zaZ] at hm
 replace ⟨he0,hm⟩:=zap hm
 refine HF.of Tryz.func83 rfl Tryz.ntmps83 (Nat.le_of_ble_eq_true rfl) rfl ?_
 refine W.sa 3 [0,1,4] ?_
 refine W.sa 4 [0,1,4,6] ?_
 replace ⟨h1,hm⟩:=zap hm
 refine W.saJ [10,11] [10,11] [0,1,2,3,4,5,6,7,8,9] 4 5 [0,1,4,6,7] zaI ?_
 refine W.seq (W.sa 5 [0,1,4,6,7,24] ?_)
 refine W.cn hm ?_ ?_ <;> clear hm <;> intro hb2 hm
 ·replace ⟨v3,h4,hm⟩:=zah hm
  refine W.sqL [.light,.light,.light,.callh,.store,.light] [([3],[]),([],[]),([4],[]),([0,1],[0,1]),([2],[2]),([],[])] [] [(4,.ptr 2 0 0),(5,.bool v3.1)] [zka v3.2 v3.2.at_ (zM 1 w1_ 8 p0.b),.rows (p0.b.map zag) 8 w1_ 109,.cells [zi 0,.bool false,zi 0,zi 0,zi 0,zi 0,zi 0,zi 0,zi 0,zi 0,zi 0,.str (⟨#[]⟩:ByteArray),.nils] 0 63] zaI ?_ (hrun:=?_)
  rotate_left
  ·try simp -implicitDefEqProofs -dsimp only [go_sem,he0,h1,hb2]
   with_reducible refine exP.mk ⟨[],[0,1],[.ptr 0 0 0,zi 4,zqT (rd p0.l p0.at_)],[zka p0 p0.at_ (zM 1 w1_ 8 p0.b),.rows (p0.b.map zag) 8 w1_ 109],.bool v3.1,[zka v3.2 v3.2.at_ (zM 1 w1_ 8 p0.b),.rows (p0.b.map zag) 8 w1_ 109]⟩ (zjv.of (by simp -implicitDefEqProofs -dsimp only [go_sem,he0,h1,hb2]) (zau h4)) ?_
   try simp -implicitDefEqProofs -dsimp only [go_sem,he0,h1,hb2]
  cases hm
  refine W.wk ⟨[],[]⟩ [(4,.ptr 2 0 0),(5,.bool v3.1)] [zka v3.2 v3.2.at_ (zM 1 w1_ 8 p0.b),.rows (p0.b.map zag) 8 w1_ 109,.cells [zi 0,.bool false,zi 0,zi 0,zi 0,zi 0,zi 0,zi 0,zi 0,zi 0,zi 0,.str (⟨#[]⟩:ByteArray),.sl (([]).map eStr)] 0 63] ?_
  exact W.rt
 ·refine W.skip ?_
  refine W.cut (fun s h=>∃(v:Int × Bool × Int × Int × Int × ByteArray) (w:Unit) (F:Gs),zaV p0 p1 v.1 v.2.1 v.2.2.1 v.2.2.2.1 v.2.2.2.2.1 v.2.2.2.2.2=some r/\AT 2 F [(0,.ptr 0 0 0),(1,.eptr 1 w1_ 8 p1.toNat 0),(4,.ptr 2 0 0),(6,.ptr 3 0 0),(7,.ptr 4 0 0)] [zka p0 v.1 (zM 1 w1_ 8 p0.b),.rows (p0.b.map zag) 8 w1_ 109,.cells [zi 0,.bool false,zi 0,zi 0,zi 0,zi 0,zi 0,zi 0,zi 0,zi 0,zi 0,.str (⟨#[]⟩:ByteArray),.nils] 0 63,.cells [zi 0,.bool v.2.1,zi 0,zi 0,zi 0,zi 0,zi 0,zi 0,zi 0,zi 0,zi 0,.str (⟨#[]⟩:ByteArray),.nils] 0 63,.cells [zi v.2.2.1,zi v.2.2.2.1,zi v.2.2.2.2.1,.str v.2.2.2.2.2] 0 41] s h) ?_ ?_
  ·refine W.sa 5 [0,1,4,6,7,31] ?_
   refine W.cn hm ?_ ?_ <;> clear hm <;> intro hb37 hm
   ·refine W.sa 5 [0,1,4,6,7] ?_
    refine W.sa 5 [0,1,4,6,7] ?_
    replace ⟨h38,hm⟩:=zap hm
    refine W.rgJ [10] [] [] 0 [] [(0,.ptr 0 0 0),(1,.eptr 1 w1_ 8 p1.toNat 0),(4,.ptr 2 0 0),(6,.ptr 3 0 0),(7,.ptr 4 0 0)] [zka p0 (zw (p0.at_+1)) (zM 1 w1_ 8 p0.b),.rows (p0.b.map zag) 8 w1_ 109,.cells [zi 0,.bool false,zi 0,zi 0,zi 0,zi 0,zi 0,zi 0,zi 0,zi 0,zi 0,.str (⟨#[]⟩:ByteArray),.nils] 0 63,.cells [zi 0,.bool true,zi 0,zi 0,zi 0,zi 0,zi 0,zi 0,zi 0,zi 0,zi 0,.str (⟨#[]⟩:ByteArray),.nils] 0 63,.cells (zaj (rd p0.l (zw (p0.at_+1)))) 0 41] zaI ?_
    exact ⟨((zw (p0.at_+1)),true,(rd p0.l (zw (p0.at_+1))).Kind,(rd p0.l (zw (p0.at_+1))).Line,(rd p0.l (zw (p0.at_+1))).Col,(rd p0.l (zw (p0.at_+1))).Text),(),⟨[],[]⟩,hm,RO⟩
   ·refine W.skip ?_
    exact ⟨(p0.at_,false,(rd p0.l p0.at_).Kind,(rd p0.l p0.at_).Line,(rd p0.l p0.at_).Col,(rd p0.l p0.at_).Text),(),⟨[],[]⟩,hm,RO⟩
  ·rintro s h ⟨⟨i5,b6,i7,i9,i10,s11⟩,_,F,hm,hat⟩
   refine W.weak F hat ?_
   show WK _ _ _ _ _ [(0,.ptr 0 0 0),(1,.eptr 1 w1_ 8 p1.toNat 0),(4,.ptr 2 0 0),(6,.ptr 3 0 0),(7,.ptr 4 0 0)] [zka p0 i5 (zM 1 w1_ 8 p0.b),.rows (p0.b.map zag) 8 w1_ 109,.cells [zi 0,.bool false,zi 0,zi 0,zi 0,zi 0,zi 0,zi 0,zi 0,zi 0,zi 0,.str (⟨#[]⟩:ByteArray),.nils] 0 63,.cells [zi 0,.bool b6,zi 0,zi 0,zi 0,zi 0,zi 0,zi 0,zi 0,zi 0,zi 0,.str (⟨#[]⟩:ByteArray),.nils] 0 63,.cells [zi i7,zi i9,zi i10,.str s11] 0 41]
   rw [zaV] at hm
   replace ⟨v12,h13,hm⟩:=zah hm
   have kh13:=zkf h13
   try simp only [hb2] at kh13
   refine W.sa 5 [0,1,4,6,7,8,9,10] ?_
   refine W.seq ?_
   replace ⟨b14,h15,hm⟩:=zaN hm
   refine W.sq [] [(0,.ptr 0 0 0),(1,.eptr 1 w1_ 8 p1.toNat 0),(4,.ptr 2 0 0),(6,.ptr 3 0 0),(7,.ptr 4 0 0),(8,zi v12.1),(9,zi v12.2.1),(83,.bool b14)] [zka p0 i5 (zM 1 w1_ 8 p0.b),.rows (p0.b.map zag) 8 w1_ 109,.cells [zi 0,.bool false,zi 0,zi 0,zi 0,zi 0,zi 0,zi 0,zi 0,zi 0,zi 0,.str (⟨#[]⟩:ByteArray),.nils] 0 63,.cells [zi 0,.bool b6,zi 0,zi 0,zi 0,zi 0,zi 0,zi 0,zi 0,zi 0,zi 0,.str (⟨#[]⟩:ByteArray),.nils] 0 63,.cells [zi i7,zi i9,zi i10,.str s11] 0 41] ?_
   clear h15
   refine W.cn hm ?_ ?_ <;> clear hm <;> intro hb16 hm
   ·replace ⟨v17,h18,hm⟩:=zah hm
    refine W.sqL [.light,.light,.light,.callh,.store,.light] [([3],[]),([],[]),([4],[]),([0,1],[0,1]),([2],[2]),([],[])] [] [(4,.ptr 2 0 0),(5,.bool v17.1)] [zka v17.2 v17.2.at_ (zM 1 w1_ 8 p0.b),.rows (p0.b.map zag) 8 w1_ 109,.cells [zi 0,.bool b6,zi 0,zi 0,zi 0,zi 0,zi 0,zi 0,zi 0,zi 0,zi 0,.str (⟨#[]⟩:ByteArray),.nils] 0 63] zaI ?_ (hrun:=?_)
    rotate_left
    ·try simp -implicitDefEqProofs -dsimp only [go_sem,he0,h1,hb2,hb16]
     with_reducible refine exP.mk ⟨[],[0,1],[.ptr 0 0 0,zi 4,zqT (zaa.mk i7 i9 i10 s11)],[zka p0 i5 (zM 1 w1_ 8 p0.b),.rows (p0.b.map zag) 8 w1_ 109],.bool v17.1,[zka v17.2 v17.2.at_ (zM 1 w1_ 8 p0.b),.rows (p0.b.map zag) 8 w1_ 109]⟩ (zjv.of (by simp -implicitDefEqProofs -dsimp only [go_sem,he0,h1,hb2,hb16]) (zau h18)) ?_
     try simp -implicitDefEqProofs -dsimp only [go_sem,he0,h1,hb2,hb16]
    cases hm
    refine W.wk ⟨[],[]⟩ [(4,.ptr 2 0 0),(5,.bool v17.1)] [zka v17.2 v17.2.at_ (zM 1 w1_ 8 p0.b),.rows (p0.b.map zag) 8 w1_ 109,.cells [zi 0,.bool b6,zi 0,zi 0,zi 0,zi 0,zi 0,zi 0,zi 0,zi 0,zi 0,.str (⟨#[]⟩:ByteArray),.sl (([]).map eStr)] 0 63] ?_
    exact W.rt
   ·refine W.skip (W.sa 4 [0,1,4,6,8] ?_)
    refine W.sa 4 [0,1,4,6,8] ?_
    refine W.seq (W.block (W.sq [] [(0,.ptr 0 0 0),(1,.eptr 1 w1_ 8 p1.toNat 0),(4,.ptr 2 0 0),(6,.ptr 3 0 0),(8,zi v12.1),(99,.bool ((v12.1==10)||(v12.1==11)))] [zka p0 (zw (i5+1)) (zM 1 w1_ 8 p0.b),.rows (p0.b.map zag) 8 w1_ 109,.cells [zi 0,.bool false,zi 0,zi 0,zi 0,zi 0,zi 0,zi 0,zi 0,zi 0,zi 0,.str (⟨#[]⟩:ByteArray),.nils] 0 63,.cells [zi v12.1,.bool b6,zi v12.2.1,zi 0,zi 0,zi 0,zi 0,zi 0,zi 0,zi 0,zi 0,.str (⟨#[]⟩:ByteArray),.nils] 0 63] ?_))
    refine W.cn hm ?_ ?_ <;> clear hm <;> intro hb19 hm
    ·replace ⟨h20,hm⟩:=zap hm
     refine W.saJ [10,11] [10,11] [0,1,2,3,4,5,6,7,8,9] 4 5 [0,1,4,6,11] zaI ?_
     refine W.seq (W.sa 5 [0,1,4,6,11,118] ?_)
     refine W.cn hm ?_ ?_ <;> clear hm <;> intro hb21 hm
     ·replace ⟨v22,h23,hm⟩:=zah hm
      refine W.sqL [.light,.light,.light,.callh,.store,.light] [([3],[]),([],[]),([4],[]),([0,1],[0,1]),([2],[2]),([],[])] [] [(4,.ptr 2 0 0),(5,.bool v22.1)] [zka v22.2 v22.2.at_ (zM 1 w1_ 8 p0.b),.rows (p0.b.map zag) 8 w1_ 109,.cells [zi v12.1,.bool b6,zi v12.2.1,zi 0,zi 0,zi 0,zi 0,zi 0,zi 0,zi 0,zi 0,.str (⟨#[]⟩:ByteArray),.nils] 0 63] zaI ?_ (hrun:=?_)
      rotate_left
      ·try simp -implicitDefEqProofs -dsimp only [go_sem,he0,h1,hb2,hb16,hb19,h20,hb21]
       with_reducible refine exP.mk ⟨[],[0,1],[.ptr 0 0 0,zi 4,zqT (rd p0.l (zw (i5+1)))],[zka p0 (zw (i5+1)) (zM 1 w1_ 8 p0.b),.rows (p0.b.map zag) 8 w1_ 109],.bool v22.1,[zka v22.2 v22.2.at_ (zM 1 w1_ 8 p0.b),.rows (p0.b.map zag) 8 w1_ 109]⟩ (zjv.of (by simp -implicitDefEqProofs -dsimp only [go_sem,he0,h1,hb2,hb16,hb19,h20,hb21]) (zau h23)) ?_
       try simp -implicitDefEqProofs -dsimp only [go_sem,he0,h1,hb2,hb16,hb19,h20,hb21]
      cases hm
      refine W.wk ⟨[],[]⟩ [(4,.ptr 2 0 0),(5,.bool v22.1)] [zka v22.2 v22.2.at_ (zM 1 w1_ 8 p0.b),.rows (p0.b.map zag) 8 w1_ 109,.cells [zi v12.1,.bool b6,zi v12.2.1,zi 0,zi 0,zi 0,zi 0,zi 0,zi 0,zi 0,zi 0,.str (⟨#[]⟩:ByteArray),.sl (([]).map eStr)] 0 63] ?_
      exact W.rt
     ·refine W.skip (W.seq ?_)
      replace ⟨v24,h25,hm⟩:=zah hm
      have kh25:=zdN h25
      try simp only [hb2,hb16,hb19,hb21] at kh25
      refine W.sa 5 [0,1,4,6,11,125] ?_
      refine W.cn hm ?_ ?_ <;> clear hm <;> intro hb26 hm
      ·replace ⟨v27,h28,hm⟩:=zah hm
       refine W.sqL [.light,.light,.light,.callh,.store,.light] [([3],[]),([],[]),([4],[]),([0,1],[0,1]),([2],[2]),([],[])] [] [(4,.ptr 2 0 0),(5,.bool v27.1)] [zka v27.2 v27.2.at_ (zM 1 w1_ 8 p0.b),.rows (p0.b.map zag) 8 w1_ 109,.cells [zi v12.1,.bool b6,zi v12.2.1,zi 0,zi 0,zi 0,zi 0,zi 0,zi 0,zi 0,zi 0,.str (⟨#[]⟩:ByteArray),.nils] 0 63] zaI ?_ (hrun:=?_)
       rotate_left
       ·try simp -implicitDefEqProofs -dsimp only [go_sem,he0,h1,hb2,hb16,hb19,h20,hb21,hb26]
        with_reducible refine exP.mk ⟨[],[0,1],[.ptr 0 0 0,zi 3,zqT (rd p0.l (zw (i5+1)))],[zka p0 (zw (i5+1)) (zM 1 w1_ 8 p0.b),.rows (p0.b.map zag) 8 w1_ 109],.bool v27.1,[zka v27.2 v27.2.at_ (zM 1 w1_ 8 p0.b),.rows (p0.b.map zag) 8 w1_ 109]⟩ (zjv.of (by simp -implicitDefEqProofs -dsimp only [go_sem,he0,h1,hb2,hb16,hb19,h20,hb21,hb26]) (zau h28)) ?_
        try simp -implicitDefEqProofs -dsimp only [go_sem,he0,h1,hb2,hb16,hb19,h20,hb21,hb26]
       cases hm
       refine W.wk ⟨[],[]⟩ [(4,.ptr 2 0 0),(5,.bool v27.1)] [zka v27.2 v27.2.at_ (zM 1 w1_ 8 p0.b),.rows (p0.b.map zag) 8 w1_ 109,.cells [zi v12.1,.bool b6,zi v12.2.1,zi 0,zi 0,zi 0,zi 0,zi 0,zi 0,zi 0,zi 0,.str (⟨#[]⟩:ByteArray),.sl (([]).map eStr)] 0 63] ?_
       exact W.rt
      ·refine W.skip (W.sa 5 [0,1,4,6,11] ?_)
       replace ⟨h29,hm⟩:=zap hm
       replace ⟨h30,hm⟩:=zap hm
       replace ⟨h31,hm⟩:=zap hm
       replace ⟨l32,h33,hm⟩:=zaN hm
       refine W.wa 6 [0,1,4,6,11] [.foc 1 p1.toNat 7] ?_
       refine W.sqJG [12] [] [] 0 [] [.fol 1 p1.toNat 7] [(0,.ptr 0 0 0),(4,.ptr 2 0 0),(6,.ptr 3 0 0)] [zka p0 (zw (i5+1)) (zM 1 w1_ 8 l32),.rows (l32.map zag) 8 w1_ 109,.cells [zi 0,.bool false,zi 0,zi 0,zi 0,zi 0,zi 0,zi 0,zi 0,zi 0,zi 0,.str (⟨#[]⟩:ByteArray),.nils] 0 63,.cells [zi v12.1,.bool b6,zi v12.2.1,zi 0,zi 0,zi 0,zi 0,zi 0,zi 0,zi 0,zi 0,.str ((rd p0.l (zw (i5+1))).Text),.nils] 0 63] zaI ?_
       clear h33
       refine W.rg [] [(4,.ptr 2 0 0),(6,.ptr 3 0 0)] [zka p0 (zw ((zw (i5+1))+1)) (zM 1 w1_ 8 l32),.rows (l32.map zag) 8 w1_ 109,.cells [zi 0,.bool false,zi 0,zi 0,zi 0,zi 0,zi 0,zi 0,zi 0,zi 0,zi 0,.str (⟨#[]⟩:ByteArray),.nils] 0 63,.cells [zi v12.1,.bool b6,zi v12.2.1,zi 0,zi 0,zi 0,zi 0,zi 0,zi 0,zi 0,zi 0,.str ((rd p0.l (zw (i5+1))).Text),.nils] 0 63] ?_
       refine W.sa 3 [4,5] ?_
       cases hm
       refine W.wk ⟨[],[]⟩ [(4,.ptr 2 0 0),(5,.bool true)] [zka p0 (zw ((zw (i5+1))+1)) (zM 1 w1_ 8 l32),.rows (l32.map zag) 8 w1_ 109,.cells [zi v12.1,.bool b6,zi v12.2.1,zi 0,zi 0,zi 0,zi 0,zi 0,zi 0,zi 0,zi 0,.str ((rd p0.l (zw (i5+1))).Text),.sl (([]).map eStr)] 0 63] ?_
       exact W.rt
    ·refine W.sa 4 [0,4,6,152] ?_
     refine W.cn hm ?_ ?_ <;> clear hm <;> intro hb34 hm
     ·replace ⟨v35,h36,hm⟩:=zah hm
      refine W.sa 3 [4,5] ?_ (hrun:=RC (zfy (w1_:=w1_) h36) [0,1])
      cases hm
      exact W.rt
     ·refine W.skip (W.sa 3 [4,5] ?_)
      cases hm
      refine W.wk ⟨[],[]⟩ [(4,.ptr 2 0 0),(5,.bool true)] [zka p0 (zw (i5+1)) (zM 1 w1_ 8 p0.b),.rows (p0.b.map zag) 8 w1_ 109,.cells [zi v12.1,.bool b6,zi v12.2.1,zi 0,zi 0,zi 0,zi 0,zi 0,zi 0,zi 0,zi 0,.str (⟨#[]⟩:ByteArray),.sl (([]).map eStr)] 0 63] ?_
      exact W.rt
theorem zhB{p0:zab}{p1:zaa}{r:Bool × zab}(hm:zca p0 p1=some r):HF Tryz.prog 58 [.ptr 0 0 0,zqT p1] [.cells (zaA p0) 0 82] (.bool r.1) [.cells (zaA r.2) 0 82]:=by
 rw [zca] at hm
 refine HF.of Tryz.func58 rfl Tryz.ntmps58 (Nat.le_of_ble_eq_true rfl) rfl ?_
 refine W.sa 2 [0,3] ?_
 refine W.seq (W.wa 3 [0,3] [.foc 0 0 4] ?_)
 refine W.sa 2 [0,3,15] ?_ [.fol 0 0 4]
 refine W.cn hm ?_ ?_ <;> clear hm <;> intro hb1 hm
 ·replace ⟨v2,h3,hm⟩:=zah hm
  refine W.sa 1 [4] ?_ (hrun:=RC (zaF h3) [0])
  cases hm
  exact W.rt
 ·refine W.skip ?_
  replace ⟨h4,hm⟩:=zap hm
  refine W.wa 3 [0,3,15] [.foc 0 0 4] ?_
  refine W.saJ [] [] [] 0 3 [0,5] zaI ?_
  refine W.seq (W.block ?_)
  replace ⟨r100,hlr100,hm⟩:=zah hm
  refine W.mono (Q:=fun e0 s0 h0=>match r100 with | .inl e=>e0=.exit 0/\∃w:Unit,s0=[(0,.ptr 0 0 0),(5,.eptr 2 1 8 ((zw ((p0.b.length:Int)-1)).toNat) 0)]/\h0=[zkc e.1 e.2.1 (zbS e.2.2.1) (zbT e.2.2.2.1) (zM 2 1 8 e.2.2.2.2.2.2.2) e.2.2.2.2.1 e.2.2.2.2.2.1 e.2.2.2.2.2.2.1,.dead,.rows (e.2.2.2.2.2.2.2.map zag) 8 1 109] | .inr q=>e0=.ret/\s0=[(4,.bool q.1)]/\h0=[.cells (zaA q.2) 0 82]) (W.loopM (step:=zbY p0) (a0:=(p0.l,p0.at_,p0.p.zSy,p0.p.zTh,p0.f.Code,p0.f.Line,p0.f.Col,p0.b)) (fun (a:(List zaa) × Int × (List zan) × (List zae) × Int × Int × Int × (List zat)) (v:Unit)=>([(0,.ptr 0 0 0),(5,.eptr 2 1 8 ((zw ((p0.b.length:Int)-1)).toNat) 0)],[zkc a.1 a.2.1 (zbS a.2.2.1) (zbT a.2.2.2.1) (zM 2 1 8 a.2.2.2.2.2.2.2) a.2.2.2.2.1 a.2.2.2.2.2.1 a.2.2.2.2.2.2.1,.dead,.rows (a.2.2.2.2.2.2.2.map zag) 8 1 109])) () hlr100 ⟨[],[]⟩ RO ?_) ?_
  ·rintro ⟨l60,i61,l62,l63,i65,i66,i67,l68⟩ _ x hm hx
   rw [zbY] at hm
   show WK _ _ _ _ _ [(0,.ptr 0 0 0),(5,.eptr 2 1 8 ((zw ((p0.b.length:Int)-1)).toNat) 0)] [zkc l60 i61 (zbS l62) (zbT l63) (zM 2 1 8 l68) i65 i66 i67,.dead,.rows (l68.map zag) 8 1 109]
   refine W.seq ?_
   replace ⟨h101,hm⟩:=zap hm
   replace ⟨v102,h103,hm⟩:=zah hm
   refine W.sqJ [19] [] [] 0 [] [(0,.ptr 0 0 0),(5,.eptr 2 1 8 ((zw ((p0.b.length:Int)-1)).toNat) 0),(50,.bool (((rd l60 i61).Kind==1)&&v102.1))] [zka v102.2 v102.2.at_ (zM 2 1 8 l68),.dead,.rows (l68.map zag) 8 1 109] zaI ?_ (hrun:=?_)
   rotate_left
   ·try simp -implicitDefEqProofs -dsimp only [go_sem,hb1,h4,h101]
    refine zcJ (fun hg104=>?_) (fun hg104=>?_)
    ·try simp -implicitDefEqProofs -dsimp only [go_sem,hb1,h4,h101,hg104]
     with_reducible refine exP.mk (.gheap [] ⟨[],[0,2],[.ptr 0 0 0,zi (zw (i61+1)),.str (⟨#[58]⟩:ByteArray)],[zkc l60 i61 (zbS l62) (zbT l63) (zM 1 1 8 l68) i65 i66 i67,.rows (l68.map zag) 8 1 109],.bool v102.1,[zka v102.2 v102.2.at_ (zM 1 1 8 l68),.rows (l68.map zag) 8 1 109]⟩ []) (callQ.ofG (by simp -implicitDefEqProofs -dsimp only [go_sem,hb1,h4,h101,hg104]) (zbn (zaW (by simp -implicitDefEqProofs -dsimp only [go_sem,hb1,h4,h101,hg104]) h103))) ?_
     try simp -implicitDefEqProofs -dsimp only [go_sem,hb1,h4,h101,hg104]
    ·obtain rfl:=Option.some.inj (zlS (by simp -implicitDefEqProofs -dsimp only [go_sem,hb1,h4,h101,hg104]) h103)
     try simp -implicitDefEqProofs -dsimp only [go_sem,hb1,h4,h101,hg104]
   refine W.cn hm ?_ ?_ <;> clear hm <;> intro hb105 hm
   ·refine W.skip (W.block ?_)
    replace ⟨h106,hm⟩:=zap hm
    refine W.saJ [10,11] [10,11] [0,1,2,3,4,5,6,7,8,9] 3 4 [0,5,6] zaI ?_
    refine W.seq ?_
    replace ⟨v107,h108,hm⟩:=zah hm
    have kh108:=zdN h108
    try simp only [hb1,hb105] at kh108
    refine W.sa 4 [0,5,6,63] ?_
    refine W.cn hm ?_ ?_ <;> clear hm <;> intro hb109 hm
    ·replace ⟨v110,h111,hm⟩:=zah hm
     refine W.sa 1 [4] ?_ (hrun:=RCG (zaF h111) [0] [] [.fol 0 0 4] [])
     cases hm
     obtain rfl:=hx _ rfl
     exact W.wk ⟨[],[]⟩ [(4,.bool v110.1)] [.cells (zaA v110.2) 0 82] (W.ret (show _/\_ from ⟨rfl,rfl,rfl⟩))
    ·refine W.skip (W.seq ?_)
     replace ⟨h112,hm⟩:=zap hm
     replace ⟨b113,h114,hm⟩:=zaN hm
     refine W.wa 5 [0,5,6,63] [.foc 2 ((zw ((p0.b.length:Int)-1)).toNat) 4] ?_
     refine W.sqJG [] [] [] 0 [] [.fol 2 ((zw ((p0.b.length:Int)-1)).toNat) 4] [(0,.ptr 0 0 0),(5,.eptr 2 1 8 ((zw ((p0.b.length:Int)-1)).toNat) 0),(6,.ptr 3 0 0),(73,.bool b113)] [zka v102.2 v102.2.at_ (zM 2 1 8 l68),.dead,.rows (l68.map zag) 8 1 109,.cells (zaj (rd v102.2.l v102.2.at_)) 0 41] zaI ?_
     clear h114
     refine W.cn hm ?_ ?_ <;> clear hm <;> intro hb115 hm
     ·replace ⟨v116,h117,hm⟩:=zah hm
      refine W.sa 1 [4] ?_ (hrun:=RCG (zaF h117) [0] [] [.fol 0 0 4] [])
      cases hm
      obtain rfl:=hx _ rfl
      exact W.wk ⟨[],[]⟩ [(4,.bool v116.1)] [.cells (zaA v116.2) 0 82] (W.ret (show _/\_ from ⟨rfl,rfl,rfl⟩))
     ·refine W.skip ?_
      replace ⟨h118,hm⟩:=zap hm
      replace ⟨l119,h120,hm⟩:=zaN hm
      refine W.wa 5 [0,5,6,73] [.foc 2 ((zw ((p0.b.length:Int)-1)).toNat) 4] ?_
      refine W.sqJG [6] [] [] 0 [] [.fol 2 ((zw ((p0.b.length:Int)-1)).toNat) 4] [(0,.ptr 0 0 0),(5,.eptr 2 1 8 ((zw ((p0.b.length:Int)-1)).toNat) 0),(6,.ptr 3 0 0)] [zka v102.2 v102.2.at_ (zM 2 1 8 l119),.dead,.rows (l119.map zag) 8 1 109,.cells (zaj (rd v102.2.l v102.2.at_)) 0 41] zaI ?_
      clear h120
      replace ⟨h121,hm⟩:=zap hm
      replace ⟨h122,hm⟩:=zap hm
      replace ⟨l123,h124,hm⟩:=zaN hm
      refine W.wa 5 [0,5,6] [.foc 2 ((zw ((p0.b.length:Int)-1)).toNat) 5] ?_
      refine W.sqLG [.light,.light,.light,.light,.light,.light,.light,.lit,.app,.light,.light,.store] [([],[]),([],[]),([],[]),([],[]),([2],[]),([],[]),([3],[]),([],[]),([4],[4]),([],[]),([],[]),([2],[2])] [] [.fol 2 ((zw ((p0.b.length:Int)-1)).toNat) 5] [(0,.ptr 0 0 0),(5,.eptr 2 1 8 ((zw ((p0.b.length:Int)-1)).toNat) 0)] [zka v102.2 v102.2.at_ (zM 2 1 8 l123),.dead,.rows (l123.map zag) 8 1 109] zaI ?_
      clear h124
      refine W.rg [] [(0,.ptr 0 0 0),(5,.eptr 2 1 8 ((zw ((p0.b.length:Int)-1)).toNat) 0)] [zka v102.2 (zw (v102.2.at_+2)) (zM 2 1 8 l123),.dead,.rows (l123.map zag) 8 1 109] ?_
      cases hm
      exact ⟨(v102.2.l,(zw (v102.2.at_+2)),v102.2.p.zSy,v102.2.p.zTh,v102.2.f.Code,v102.2.f.Line,v102.2.f.Col,l123),(),⟨[],[]⟩,rfl,RO⟩
   ·cases hm
    obtain rfl:=hx _ rfl
    exact W.wk ⟨[],[]⟩ [(0,.ptr 0 0 0),(5,.eptr 2 1 8 ((zw ((p0.b.length:Int)-1)).toNat) 0)] [zka v102.2 v102.2.at_ (zM 2 1 8 l68),.dead,.rows (l68.map zag) 8 1 109] (W.exit (show _/\_ from ⟨rfl,(),rfl,rfl⟩))
  ·intro e0 s0 h0 hq
   rcases r100 with er100 | qr100
   ·obtain ⟨rfl,_,rfl,rfl⟩:=hq
    replace hm:=zc5 hm
    show WK _ _ _ _ _ [(0,.ptr 0 0 0),(5,.eptr 2 1 8 ((zw ((p0.b.length:Int)-1)).toNat) 0)] [zkc er100.1 er100.2.1 (zbS er100.2.2.1) (zbT er100.2.2.2.1) (zM 2 1 8 er100.2.2.2.2.2.2.2) er100.2.2.2.2.1 er100.2.2.2.2.2.1 er100.2.2.2.2.2.2.1,.dead,.rows (er100.2.2.2.2.2.2.2.map zag) 8 1 109]
    refine W.seq ?_
    replace ⟨h125,hm⟩:=zap hm
    refine W.saJ [] [] [] 0 3 [0,5,112] zaI ?_
    refine W.cn hm ?_ ?_ <;> clear hm <;> intro hb126 hm
    ·replace ⟨v127,h128,hm⟩:=zah hm
     refine W.sa 1 [4] ?_ (hrun:=RCG (zd7 h128) [0] [] [.fol 0 0 4] [])
     cases hm
     exact W.rt
    ·refine W.skip ?_
     replace ⟨h129,hm⟩:=zap hm
     replace ⟨h130,hm⟩:=zap hm
     replace ⟨h131,hm⟩:=zap hm
     replace ⟨l132,h133,hm⟩:=zaN hm
     refine W.wa 4 [0,5,112] [.foc 2 ((zw ((p0.b.length:Int)-1)).toNat) 6] ?_
     refine W.sqLG [.light,.light,.light,.light,.light,.light,.light,.light,.light,.light,.light,.light,.light,.light,.light,.lit,.app,.light,.light,.store] [([],[]),([],[]),([],[]),([],[]),([2],[]),([],[]),([],[]),([],[]),([0],[]),([],[]),([],[]),([],[]),([0],[]),([],[]),([],[]),([],[]),([3],[3]),([],[]),([],[]),([2],[2])] [] [.fol 2 ((zw ((p0.b.length:Int)-1)).toNat) 6] [(0,.ptr 0 0 0),(5,.eptr 2 1 8 ((zw ((p0.b.length:Int)-1)).toNat) 0)] [zkc er100.1 er100.2.1 (zbS er100.2.2.1) (zbT er100.2.2.2.1) (zM 2 1 8 l132) er100.2.2.2.2.1 er100.2.2.2.2.2.1 er100.2.2.2.2.2.2.1,.dead,.rows (l132.map zag) 8 1 109] zaI ?_
     clear h133
     replace ⟨h134,hm⟩:=zap hm
     replace ⟨h135,hm⟩:=zap hm
     replace ⟨l136,h137,hm⟩:=zaN hm
     refine W.wa 4 [0,5] [.foc 2 ((zw ((p0.b.length:Int)-1)).toNat) 7] ?_
     refine W.sqG [] [.fol 2 ((zw ((p0.b.length:Int)-1)).toNat) 7] [(0,.ptr 0 0 0),(5,.eptr 2 1 8 ((zw ((p0.b.length:Int)-1)).toNat) 0)] [zkc er100.1 er100.2.1 (zbS er100.2.2.1) (zbT er100.2.2.2.1) (zM 2 1 8 l136) er100.2.2.2.2.1 er100.2.2.2.2.2.1 er100.2.2.2.2.2.2.1,.dead,.rows (l136.map zag) 8 1 109] ?_
     clear h137
     replace ⟨v138,h139,hm⟩:=zah hm
     refine W.sa 4 [0,5,7,8] ?_ (hrun:=RC (zeW (w1_:=1) h139) [0,2])
     refine W.seq ?_
     replace ⟨v140,h141,hm⟩:=zah hm
     refine W.sq [] [(0,.ptr 0 0 0),(5,.eptr 2 1 8 ((zw ((p0.b.length:Int)-1)).toNat) 0),(7,.ptr 3 0 0),(156,.bool ((!v138.2.1)||(!v140.1)))] [zka v140.2 v140.2.at_ (zM 2 1 8 v138.2.2.b),.dead,.rows (v138.2.2.b.map zag) 8 1 109,.cells (zas v138.1) 0 63] ?_ (hrun:=?_)
     rotate_left
     ·try simp -implicitDefEqProofs -dsimp only [go_sem,hb1,h4,h125,hb126,h129,h130,h131,h134,h135]
      refine zcJ (fun hg142=>?_) (fun hg142=>?_)
      ·try simp only [Bool.not_not] at hg142
       try simp -implicitDefEqProofs -dsimp only [go_sem,hb1,h4,h125,hb126,h129,h130,h131,h134,h135,hg142]
       with_reducible refine exP.mk (.gheap [] ⟨[],[0,2],[.ptr 0 0 0],[zka v138.2.2 v138.2.2.at_ (zM 1 1 8 v138.2.2.b),.rows (v138.2.2.b.map zag) 8 1 109],.bool v140.1,[zka v140.2 v140.2.at_ (zM 1 1 8 v138.2.2.b),.rows (v138.2.2.b.map zag) 8 1 109]⟩ []) (callQ.ofG (by simp -implicitDefEqProofs -dsimp only [go_sem,hb1,h4,h125,hb126,h129,h130,h131,h134,h135,hg142]) (zgZ (zaW (by simp -implicitDefEqProofs -dsimp only [go_sem,hb1,h4,h125,hb126,h129,h130,h131,h134,h135,hg142]) h141))) ?_
       try simp -implicitDefEqProofs -dsimp only [go_sem,hb1,h4,h125,hb126,h129,h130,h131,h134,h135,hg142]
      ·try simp only [Bool.not_not] at hg142
       obtain rfl:=Option.some.inj (zlS (by simp -implicitDefEqProofs -dsimp only [go_sem,hb1,h4,h125,hb126,h129,h130,h131,h134,h135,hg142]) h141)
       try simp -implicitDefEqProofs -dsimp only [go_sem,hb1,h4,h125,hb126,h129,h130,h131,h134,h135,hg142]
     refine W.cn hm ?_ ?_ <;> clear hm <;> intro hb143 hm
     ·refine W.sa 1 [4] ?_ [.fol 0 0 4]
      cases hm
      exact W.rt
     ·refine W.skip ?_
      replace ⟨h144,hm⟩:=zap hm
      replace ⟨l145,h146,hm⟩:=zaN hm
      replace ⟨l147,h148,hm⟩:=zaN hm
      refine W.wa 5 [0,5,7,156] [.foc 2 ((zw ((p0.b.length:Int)-1)).toNat) 5] ?_
      refine W.sqG [] [.nbx 2 ((zw ((p0.b.length:Int)-1)).toNat) 5 1 9,.fol 0 0 4] [(0,.ptr 0 0 0),(7,.ptr 3 0 0)] [zka v140.2 v140.2.at_ (zbB l147),.dead,.dead,.cells [zi v138.1.Op,.bool v138.1.Lock,zi v138.1.Cond,zi v138.1.A.Kind,zi v138.1.A.Reg,zi v138.1.A.Sym,zi v138.1.A.N,zi v138.1.B.Kind,zi v138.1.B.Reg,zi v138.1.B.Sym,zi v138.1.B.N,.str v138.1.To,zM 4 1 1 l145] 0 63,.rows (l145.map eStr) 1 1 9] ?_
      clear h146 h148
      replace ⟨h149,hm⟩:=zap hm
      refine W.wa 6 [0,7] [.foc 0 0 3] ?_
      refine W.saJ [] [] [] 0 6 [7,9] zaI ?_
      replace ⟨h150,hm⟩:=zap hm
      replace ⟨h151,hm⟩:=zap hm
      replace ⟨l152,h153,hm⟩:=zaN hm
      refine W.wk ⟨[4],[.foc 5 ((zw ((v140.2.p.zTh.length:Int)-1)).toNat) 0]⟩ [(7,.ptr 3 0 0),(9,.eptr 5 1 1 ((zw ((v140.2.p.zTh.length:Int)-1)).toNat) 0)] [zkb v140.2 v140.2.at_ (zbS v140.2.p.zSy) (zM 5 1 1 v140.2.p.zTh) (zbB l147),.dead,.dead,.cells [zi v138.1.Op,.bool v138.1.Lock,zi v138.1.Cond,zi v138.1.A.Kind,zi v138.1.A.Reg,zi v138.1.A.Sym,zi v138.1.A.N,zi v138.1.B.Kind,zi v138.1.B.Reg,zi v138.1.B.Sym,zi v138.1.B.N,.str v138.1.To,.sl (l145.map eStr)] 0 63,.dead,.rows ((v140.2.p.zTh.map zaz).set ((zw ((v140.2.p.zTh.length:Int)-1)).toNat) [.msl 6 1 0 13 (((rd v140.2.p.zTh (zw ((v140.2.p.zTh.length:Int)-1))).Ins).length) (((rd v140.2.p.zTh (zw ((v140.2.p.zTh.length:Int)-1))).Ins).length)]) 1 1 59,.rows (((rd v140.2.p.zTh (zw ((v140.2.p.zTh.length:Int)-1))).Ins).map zas) 13 1 63] ?_
      refine W.sqLG [.light,.light,.light,.light,.light,.light,.lit,.app,.light,.light,.store] [([],[]),([],[]),([],[]),([],[]),([5],[]),([3],[]),([],[]),([6],[6]),([],[]),([],[]),([5],[5])] [] [.fol 5 ((zw ((v140.2.p.zTh.length:Int)-1)).toNat) 0,.fol 0 0 3] [] [zkb v140.2 v140.2.at_ (zbS v140.2.p.zSy) (zbT l152) (zbB l147)] zaI ?_
      clear h153
      refine W.sa 1 [4] ?_
      cases hm
      exact W.rt
   ·obtain ⟨rfl,rfl,rfl⟩:=hq
    replace hm:=zc4 hm
    cases hm
    exact zkF.retW ⟨[],[]⟩ RO
theorem zhz{p0:zab}{r:Bool × zab}(hm:zcC p0=some r):HF Tryz.prog 32 [.ptr 0 0 0] [.cells (zaA p0) 0 82] (.bool r.1) [.cells (zaA r.2) 0 82]:=by
 rw [zcC] at hm
 refine HF.of Tryz.func32 rfl Tryz.ntmps32 (Nat.le_of_ble_eq_true rfl) rfl ?_
 refine W.sa 1 [0] ?_
 replace ⟨h1,hm⟩:=zap hm
 refine W.saJ [10,11] [10,11] [0,1,2,3,4,5,6,7,8,9] 1 2 [0,3] zaI ?_
 refine W.seq (W.block (W.sa 2 [0,3,14] ?_))
 refine W.cn hm ?_ ?_ <;> clear hm <;> intro hb2 hm
 ·refine W.sa 1 [] ?_
  refine W.sa 1 [2] ?_
  cases hm
  exact W.rt
 ·replace ⟨b3,h4,hm⟩:=zaN hm
  refine W.sq [] [(0,.ptr 0 0 0),(3,.ptr 1 0 0),(25,.bool b3)] [.cells (zaA p0) 0 82,.cells (zaj (rd p0.l p0.at_)) 0 41] ?_
  clear h4
  refine W.cn hm ?_ ?_ <;> clear hm <;> intro hb5 hm
  ·replace ⟨v6,h7,hm⟩:=zah hm
   refine W.sa 1 [2] ?_ (hrun:=RC (zgL h7) [0])
   cases hm
   exact W.rt
  ·replace ⟨b8,h9,hm⟩:=zaN hm
   refine W.sq [] [(0,.ptr 0 0 0),(3,.ptr 1 0 0),(37,.bool b8)] [.cells (zaA p0) 0 82,.cells (zaj (rd p0.l p0.at_)) 0 41] ?_
   clear h9
   refine W.cn hm ?_ ?_ <;> clear hm <;> intro hb10 hm
   ·refine W.seq (W.wa 3 [0,3,37] [.foc 0 0 4] ?_)
    refine W.sa 2 [0,3,51] ?_ [.fol 0 0 4]
    refine W.cn hm ?_ ?_ <;> clear hm <;> intro hb11 hm
    ·replace ⟨v12,h13,hm⟩:=zah hm
     refine W.sa 1 [2] ?_ (hrun:=RC (zaF h13) [0])
     cases hm
     exact W.rt
    ·refine W.skip (W.sa 2 [0,3] ?_)
     replace ⟨h14,hm⟩:=zap hm
     replace ⟨l15,h16,hm⟩:=zaN hm
     refine W.wa 3 [0,3] [.foc 0 0 4] ?_
     refine W.wa 5 [0,3] [.res,.res] ?_
     refine W.sqLG [.light,.light,.light,.light,.light,.light,.here 3,.light,.here 4,.app,.light,.light,.store] [([],[]),([],[]),([],[]),([],[]),([0],[]),([1],[]),([3],[3]),([],[]),([4],[4]),([2,4],[2]),([],[]),([],[]),([0],[0])] [] [.fol 2 p0.b.length 4,.nbx 2 p0.b.length 5 1 9,.nbx 2 p0.b.length 6 4 41,.nbx 2 p0.b.length 7 4 41,.fol 0 0 4] [(0,.ptr 0 0 0)] [zka p0 (zw (p0.at_+1)) (zbB l15)] zaI ?_
     clear h16
     replace ⟨h17,hm⟩:=zap hm
     replace ⟨l18,h19,hm⟩:=zaN hm
     refine W.wa 2 [0] [.foc 0 0 3] ?_
     refine W.sqG [] [.nbx 1 p0.p.zTh.length 0 13 63,.fol 0 0 3] [(0,.ptr 0 0 0)] [zkb p0 (zw (p0.at_+1)) (zbS p0.p.zSy) (zbT l18) (zbB l15)] ?_ (hrun:=by exact ROT)
     clear h19
     replace ⟨v20,h21,hm⟩:=zah hm
     refine W.sa 1 [2] ?_ (hrun:=RC (zd7 h21) [0])
     cases hm
     exact W.rt
   ·refine W.skip ?_
    replace ⟨v22,h23,hm⟩:=zah hm
    refine W.sa 1 [2] ?_ (hrun:=RC (zhB h23) [0])
    cases hm
    exact W.rt
theorem zgY{p0:zab}{p1:Int}{r:Bool × zab}(hm:zbJ p0 p1=some r):HF Tryz.prog 33 [.ptr 0 0 0,zi p1] [.cells (zaA p0) 0 82] (.bool r.1) [.cells (zaA r.2) 0 82]:=by
 rw [zbJ] at hm
 refine HF.of Tryz.func33 rfl Tryz.ntmps33 (Nat.le_of_ble_eq_true rfl) rfl ?_
 refine W.sa 1 [0,1] ?_
 replace ⟨h1,hm⟩:=zap hm
 replace ⟨h2,hm⟩:=zap hm
 replace ⟨l3,h4,hm⟩:=zaN hm
 replace ⟨l5,h6,hm⟩:=zaN hm
 replace ⟨l7,h8,hm⟩:=zaN hm
 replace ⟨l9,h10,hm⟩:=zaN hm
 replace ⟨l11,h12,hm⟩:=zaN hm
 refine W.wa 8 [0,1] [.foc 0 0 4,.foc 1 p1.toNat 4,.foc 1 p1.toNat 5,.foc 1 p1.toNat 6,.foc 1 p1.toNat 7,.foc 0 0 3,.foc 6 p1.toNat 0] ?_
 refine W.sqJ [16,17] [16,17] [0,1,2,3,4,5,6,7,8,9,10,11,12,13,14,15,18] 8 [] [(0,.ptr 0 0 0),(5,.ptr 8 0 0),(6,zM 7 1 13 l11)] [zkb p0 p0.at_ (zbS p0.p.zSy) (zM 6 1 1 p0.p.zTh) (zM 1 1 8 p0.b),.rows ((p0.b.map zag).set p1.toNat [zi ((rd p0.b p1).head.Kind),zi ((rd p0.b p1).head.Line),zi ((rd p0.b p1).head.Col),.str ((rd p0.b p1).head.Text),.map 2,zM 3 1 1 l5,zM 4 1 4 l7,zM 5 1 4 l9]) 8 1 109,.map (l3.map (eKV AV.str AV.bool)),.rows (l5.map eStr) 1 1 9,.rows (l7.map zaj) 4 1 41,.rows (l9.map zaj) 4 1 41,.rows ((p0.p.zTh.map zaz).set p1.toNat [zM 7 1 13 l11]) 1 1 59,.rows (l11.map zas) 13 1 63,.cells [zi ((rd p0.b p1).head.Kind),zi ((rd p0.b p1).head.Line),zi ((rd p0.b p1).head.Col),.str ((rd p0.b p1).head.Text),.map 2,zM 3 1 1 l5,zM 4 1 4 l7,zM 5 1 4 l9] 0 109] zaI ?_
 clear h4 h6 h8 h10 h12
 refine W.seq ?_
 replace ⟨h13,hm⟩:=zap hm
 replace ⟨h14,hm⟩:=zap hm
 replace ⟨b15,h16,hm⟩:=zaN hm
 refine W.sq [] [(0,.ptr 0 0 0),(5,.ptr 8 0 0),(6,zM 7 1 13 l11),(56,.bool b15)] [zkb p0 p0.at_ (zbS p0.p.zSy) (zM 6 1 1 p0.p.zTh) (zM 1 1 8 p0.b),.rows ((p0.b.map zag).set p1.toNat [zi ((rd p0.b p1).head.Kind),zi ((rd p0.b p1).head.Line),zi ((rd p0.b p1).head.Col),.str ((rd p0.b p1).head.Text),.map 2,zM 3 1 1 l5,zM 4 1 4 l7,zM 5 1 4 l9]) 8 1 109,.map (l3.map (eKV AV.str AV.bool)),.rows (l5.map eStr) 1 1 9,.rows (l7.map zaj) 4 1 41,.rows (l9.map zaj) 4 1 41,.rows ((p0.p.zTh.map zaz).set p1.toNat [zM 7 1 13 l11]) 1 1 59,.rows (l11.map zas) 13 1 63,.cells [zi ((rd p0.b p1).head.Kind),zi ((rd p0.b p1).head.Line),zi ((rd p0.b p1).head.Col),.str ((rd p0.b p1).head.Text),.map 2,zM 3 1 1 l5,zM 4 1 4 l7,zM 5 1 4 l9] 0 109] ?_
 clear h16
 refine W.cn hm ?_ ?_ <;> clear hm <;> intro hb17 hm
 ·replace ⟨v18,h19,hm⟩:=zah hm
  refine W.sa 1 [4] ?_ (hrun:=RCG (zaF h19) [0] [] [.fol 1 p1.toNat 4,.fol 1 p1.toNat 5,.fol 1 p1.toNat 6,.fol 1 p1.toNat 7,.fol 0 0 4,.fol 6 p1.toNat 0,.fol 0 0 3] [])
  cases hm
  exact W.rt
 ·refine W.skip (W.sa 9 [0,5,6,7] ?_)
  refine W.seq (W.sa 9 [0,5,6,7,61,62,63] ?_)
  refine W.block ?_
  replace ⟨r48,hlr48,hm⟩:=zah hm
  refine W.mono (Q:=fun e0 s0 h0=>match r48 with | .inl e=>e0=.exit 0/\∃w:Unit,s0=[(0,.ptr 0 0 0),(5,.ptr 8 0 0),(6,zM 7 1 13 l11)]/\h0=[zkb p0 p0.at_ (zbS p0.p.zSy) (zM 6 1 1 p0.p.zTh) (zM 1 1 8 p0.b),.rows ((p0.b.map zag).set p1.toNat [zi ((rd p0.b p1).head.Kind),zi ((rd p0.b p1).head.Line),zi ((rd p0.b p1).head.Col),.str ((rd p0.b p1).head.Text),.map 2,zM 3 1 1 l5,zM 4 1 4 l7,zM 5 1 4 l9]) 8 1 109,.map (l3.map (eKV AV.str AV.bool)),.rows (l5.map eStr) 1 1 9,.rows (l7.map zaj) 4 1 41,.rows (l9.map zaj) 4 1 41,.rows ((p0.p.zTh.map zaz).set p1.toNat [zM 7 1 13 l11]) 1 1 59,.rows (l11.map zas) 13 1 63,.cells [zi ((rd p0.b p1).head.Kind),zi ((rd p0.b p1).head.Line),zi ((rd p0.b p1).head.Col),.str ((rd p0.b p1).head.Text),.map 2,zM 3 1 1 l5,zM 4 1 4 l7,zM 5 1 4 l9] 0 109] | .inr q=>e0=.ret/\s0=[(4,.bool q.1)]/\h0=[.cells (zaA q.2) 0 82]) (W.loopM (step:=zbw l11 l7 p0 p1 l3 l5 l9) (a0:=(0,0)) (fun (a:Int × Int) (v:Unit)=>([(0,.ptr 0 0 0),(5,.ptr 8 0 0),(6,zM 7 1 13 l11),(7,zi a.1),(61,zM 7 1 13 l11),(62,zi (l11.length:Int)),(63,zi a.2)],[zkb p0 p0.at_ (zbS p0.p.zSy) (zM 6 1 1 p0.p.zTh) (zM 1 1 8 p0.b),.rows ((p0.b.map zag).set p1.toNat [zi ((rd p0.b p1).head.Kind),zi ((rd p0.b p1).head.Line),zi ((rd p0.b p1).head.Col),.str ((rd p0.b p1).head.Text),.map 2,zM 3 1 1 l5,zM 4 1 4 l7,zM 5 1 4 l9]) 8 1 109,.map (l3.map (eKV AV.str AV.bool)),.rows (l5.map eStr) 1 1 9,.rows (l7.map zaj) 4 1 41,.rows (l9.map zaj) 4 1 41,.rows ((p0.p.zTh.map zaz).set p1.toNat [zM 7 1 13 l11]) 1 1 59,.rows (l11.map zas) 13 1 63,.cells [zi ((rd p0.b p1).head.Kind),zi ((rd p0.b p1).head.Line),zi ((rd p0.b p1).head.Col),.str ((rd p0.b p1).head.Text),.map 2,zM 3 1 1 l5,zM 4 1 4 l7,zM 5 1 4 l9] 0 109])) () hlr48 ⟨[],[]⟩ RO ?_) ?_
  ·rintro ⟨i38,i39⟩ _ x hm hx
   rw [zbw] at hm
   show WK _ _ _ _ _ [(0,.ptr 0 0 0),(5,.ptr 8 0 0),(6,zM 7 1 13 l11),(7,zi i38),(61,zM 7 1 13 l11),(62,zi (l11.length:Int)),(63,zi i39)] [zkb p0 p0.at_ (zbS p0.p.zSy) (zM 6 1 1 p0.p.zTh) (zM 1 1 8 p0.b),.rows ((p0.b.map zag).set p1.toNat [zi ((rd p0.b p1).head.Kind),zi ((rd p0.b p1).head.Line),zi ((rd p0.b p1).head.Col),.str ((rd p0.b p1).head.Text),.map 2,zM 3 1 1 l5,zM 4 1 4 l7,zM 5 1 4 l9]) 8 1 109,.map (l3.map (eKV AV.str AV.bool)),.rows (l5.map eStr) 1 1 9,.rows (l7.map zaj) 4 1 41,.rows (l9.map zaj) 4 1 41,.rows ((p0.p.zTh.map zaz).set p1.toNat [zM 7 1 13 l11]) 1 1 59,.rows (l11.map zas) 13 1 63,.cells [zi ((rd p0.b p1).head.Kind),zi ((rd p0.b p1).head.Line),zi ((rd p0.b p1).head.Col),.str ((rd p0.b p1).head.Text),.map 2,zM 3 1 1 l5,zM 4 1 4 l7,zM 5 1 4 l9] 0 109]
   refine W.sa 9 [0,5,6,7,61,62,63,64] ?_
   refine W.seq ?_
   refine W.cn hm ?_ ?_ <;> clear hm <;> intro hb49 hm
   ·refine W.skip ?_
    refine W.cut (fun s h=>∃(v:Int) (w:Unit) (F:Gs),zbx i39 v=some x/\AT 1 F [(0,.ptr 0 0 0),(5,.ptr 8 0 0),(6,zM 7 1 13 l11),(7,zi v),(61,zM 7 1 13 l11),(62,zi (l11.length:Int)),(63,zi i39)] [zkb p0 p0.at_ (zbS p0.p.zSy) (zM 6 1 1 p0.p.zTh) (zM 1 1 8 p0.b),.rows ((p0.b.map zag).set p1.toNat [zi ((rd p0.b p1).head.Kind),zi ((rd p0.b p1).head.Line),zi ((rd p0.b p1).head.Col),.str ((rd p0.b p1).head.Text),.map 2,zM 3 1 1 l5,zM 4 1 4 l7,zM 5 1 4 l9]) 8 1 109,.map (l3.map (eKV AV.str AV.bool)),.rows (l5.map eStr) 1 1 9,.rows (l7.map zaj) 4 1 41,.rows (l9.map zaj) 4 1 41,.rows ((p0.p.zTh.map zaz).set p1.toNat [zM 7 1 13 l11]) 1 1 59,.rows (l11.map zas) 13 1 63,.cells [zi ((rd p0.b p1).head.Kind),zi ((rd p0.b p1).head.Line),zi ((rd p0.b p1).head.Col),.str ((rd p0.b p1).head.Text),.map 2,zM 3 1 1 l5,zM 4 1 4 l7,zM 5 1 4 l9] 0 109] s h) ?_ ?_
    ·refine W.block ?_
     replace ⟨h51,hm⟩:=zap hm
     refine W.sa 10 [0,5,6,7,8,9,61,62,63] ?_
     refine W.seq (W.sa 9 [0,5,6,7,8,61,62,63,70] ?_)
     refine W.cn hm ?_ ?_ <;> clear hm <;> intro hb52 hm
     ·refine W.exit ?_
      exact ⟨i38,(),⟨[],[]⟩,hm,RO⟩
     ·refine W.skip (W.seq (W.sa 9 [0,5,6,7,8,61,62,63,72] ?_))
      refine W.cn hm ?_ ?_ <;> clear hm <;> intro hb53 hm
      ·replace ⟨h54,hm⟩:=zap hm
       replace ⟨v55,h56,hm⟩:=zah hm
       refine W.sa 1 [4] ?_ (hrun:=RCG (zaF h56) [0] [] [.fol 1 p1.toNat 4,.fol 1 p1.toNat 5,.fol 1 p1.toNat 6,.fol 1 p1.toNat 7,.fol 0 0 4,.fol 6 p1.toNat 0,.fol 0 0 3] [])
       cases hm
       obtain rfl:=hx _ rfl
       exact W.wk ⟨[],[]⟩ [(4,.bool v55.1)] [.cells (zaA v55.2) 0 82] (W.ret (show _/\_ from ⟨rfl,rfl,rfl⟩))
      ·refine W.skip (W.rg [] [(0,.ptr 0 0 0),(5,.ptr 8 0 0),(6,zM 7 1 13 l11),(7,zi (zw (i38+1))),(61,zM 7 1 13 l11),(62,zi (l11.length:Int)),(63,zi i39)] [zkb p0 p0.at_ (zbS p0.p.zSy) (zM 6 1 1 p0.p.zTh) (zM 1 1 8 p0.b),.rows ((p0.b.map zag).set p1.toNat [zi ((rd p0.b p1).head.Kind),zi ((rd p0.b p1).head.Line),zi ((rd p0.b p1).head.Col),.str ((rd p0.b p1).head.Text),.map 2,zM 3 1 1 l5,zM 4 1 4 l7,zM 5 1 4 l9]) 8 1 109,.map (l3.map (eKV AV.str AV.bool)),.rows (l5.map eStr) 1 1 9,.rows (l7.map zaj) 4 1 41,.rows (l9.map zaj) 4 1 41,.rows ((p0.p.zTh.map zaz).set p1.toNat [zM 7 1 13 l11]) 1 1 59,.rows (l11.map zas) 13 1 63,.cells [zi ((rd p0.b p1).head.Kind),zi ((rd p0.b p1).head.Line),zi ((rd p0.b p1).head.Col),.str ((rd p0.b p1).head.Text),.map 2,zM 3 1 1 l5,zM 4 1 4 l7,zM 5 1 4 l9] 0 109] ?_)
       exact ⟨(zw (i38+1)),(),⟨[],[]⟩,hm,RO⟩
    ·rintro s h ⟨i50,_,F,hm,hat⟩
     refine W.weak F hat ?_
     show WK _ _ _ _ _ [(0,.ptr 0 0 0),(5,.ptr 8 0 0),(6,zM 7 1 13 l11),(7,zi i50),(61,zM 7 1 13 l11),(62,zi (l11.length:Int)),(63,zi i39)] [zkb p0 p0.at_ (zbS p0.p.zSy) (zM 6 1 1 p0.p.zTh) (zM 1 1 8 p0.b),.rows ((p0.b.map zag).set p1.toNat [zi ((rd p0.b p1).head.Kind),zi ((rd p0.b p1).head.Line),zi ((rd p0.b p1).head.Col),.str ((rd p0.b p1).head.Text),.map 2,zM 3 1 1 l5,zM 4 1 4 l7,zM 5 1 4 l9]) 8 1 109,.map (l3.map (eKV AV.str AV.bool)),.rows (l5.map eStr) 1 1 9,.rows (l7.map zaj) 4 1 41,.rows (l9.map zaj) 4 1 41,.rows ((p0.p.zTh.map zaz).set p1.toNat [zM 7 1 13 l11]) 1 1 59,.rows (l11.map zas) 13 1 63,.cells [zi ((rd p0.b p1).head.Kind),zi ((rd p0.b p1).head.Line),zi ((rd p0.b p1).head.Col),.str ((rd p0.b p1).head.Text),.map 2,zM 3 1 1 l5,zM 4 1 4 l7,zM 5 1 4 l9] 0 109]
     rw [zbx] at hm
     refine W.rg [] [(0,.ptr 0 0 0),(5,.ptr 8 0 0),(6,zM 7 1 13 l11),(7,zi i50),(61,zM 7 1 13 l11),(62,zi (l11.length:Int)),(63,zi (zw (i39+1)))] [zkb p0 p0.at_ (zbS p0.p.zSy) (zM 6 1 1 p0.p.zTh) (zM 1 1 8 p0.b),.rows ((p0.b.map zag).set p1.toNat [zi ((rd p0.b p1).head.Kind),zi ((rd p0.b p1).head.Line),zi ((rd p0.b p1).head.Col),.str ((rd p0.b p1).head.Text),.map 2,zM 3 1 1 l5,zM 4 1 4 l7,zM 5 1 4 l9]) 8 1 109,.map (l3.map (eKV AV.str AV.bool)),.rows (l5.map eStr) 1 1 9,.rows (l7.map zaj) 4 1 41,.rows (l9.map zaj) 4 1 41,.rows ((p0.p.zTh.map zaz).set p1.toNat [zM 7 1 13 l11]) 1 1 59,.rows (l11.map zas) 13 1 63,.cells [zi ((rd p0.b p1).head.Kind),zi ((rd p0.b p1).head.Line),zi ((rd p0.b p1).head.Col),.str ((rd p0.b p1).head.Text),.map 2,zM 3 1 1 l5,zM 4 1 4 l7,zM 5 1 4 l9] 0 109] ?_
     cases hm
     exact ⟨(i50,(zw (i39+1))),(),⟨[],[]⟩,rfl,RO⟩
   ·cases hm
    obtain rfl:=hx _ rfl
    exact W.wk ⟨[],[]⟩ [(0,.ptr 0 0 0),(5,.ptr 8 0 0),(6,zM 7 1 13 l11)] [zkb p0 p0.at_ (zbS p0.p.zSy) (zM 6 1 1 p0.p.zTh) (zM 1 1 8 p0.b),.rows ((p0.b.map zag).set p1.toNat [zi ((rd p0.b p1).head.Kind),zi ((rd p0.b p1).head.Line),zi ((rd p0.b p1).head.Col),.str ((rd p0.b p1).head.Text),.map 2,zM 3 1 1 l5,zM 4 1 4 l7,zM 5 1 4 l9]) 8 1 109,.map (l3.map (eKV AV.str AV.bool)),.rows (l5.map eStr) 1 1 9,.rows (l7.map zaj) 4 1 41,.rows (l9.map zaj) 4 1 41,.rows ((p0.p.zTh.map zaz).set p1.toNat [zM 7 1 13 l11]) 1 1 59,.rows (l11.map zas) 13 1 63,.cells [zi ((rd p0.b p1).head.Kind),zi ((rd p0.b p1).head.Line),zi ((rd p0.b p1).head.Col),.str ((rd p0.b p1).head.Text),.map 2,zM 3 1 1 l5,zM 4 1 4 l7,zM 5 1 4 l9] 0 109] (W.exit (show _/\_ from ⟨rfl,(),rfl,rfl⟩))
  ·intro e0 s0 h0 hq
   rcases r48 with er48 | qr48
   ·obtain ⟨rfl,_,rfl,rfl⟩:=hq
    replace hm:=zc5 hm
    show WK _ _ _ _ _ [(0,.ptr 0 0 0),(5,.ptr 8 0 0),(6,zM 7 1 13 l11)] [zkb p0 p0.at_ (zbS p0.p.zSy) (zM 6 1 1 p0.p.zTh) (zM 1 1 8 p0.b),.rows ((p0.b.map zag).set p1.toNat [zi ((rd p0.b p1).head.Kind),zi ((rd p0.b p1).head.Line),zi ((rd p0.b p1).head.Col),.str ((rd p0.b p1).head.Text),.map 2,zM 3 1 1 l5,zM 4 1 4 l7,zM 5 1 4 l9]) 8 1 109,.map (l3.map (eKV AV.str AV.bool)),.rows (l5.map eStr) 1 1 9,.rows (l7.map zaj) 4 1 41,.rows (l9.map zaj) 4 1 41,.rows ((p0.p.zTh.map zaz).set p1.toNat [zM 7 1 13 l11]) 1 1 59,.rows (l11.map zas) 13 1 63,.cells [zi ((rd p0.b p1).head.Kind),zi ((rd p0.b p1).head.Line),zi ((rd p0.b p1).head.Col),.str ((rd p0.b p1).head.Text),.map 2,zM 3 1 1 l5,zM 4 1 4 l7,zM 5 1 4 l9] 0 109]
    refine W.seq (W.sa 9 [0,5,83,84,85] ?_)
    refine W.block ?_
    replace ⟨r83,hlr83,hm⟩:=zah hm
    refine W.mono (Q:=fun e0 s0 h0=>match r83 with | .inl e=>e0=.exit 2/\∃w:Unit,s0=[]/\h0=[zkb p0 p0.at_ (zbS p0.p.zSy) (zbT (p0.p.zTh.set p1.toNat (zae.mk l11))) (zbB (p0.b.set p1.toNat (zat.mk ((rd p0.b p1).head) l3 l5 l7 l9)))] | .inr q=>e0=.ret/\s0=[(4,.bool q.1)]/\h0=[.cells (zaA q.2) 0 82]) (W.loopM (step:=zbv l11 l3 l9 p0 p1 l5 l7) (a0:=0) (fun (a:Int) (v:Unit)=>([(0,.ptr 0 0 0),(5,.ptr 8 0 0),(83,zM 7 1 13 l11),(84,zi (l11.length:Int)),(85,zi a)],[zkb p0 p0.at_ (zbS p0.p.zSy) (zM 6 1 1 p0.p.zTh) (zM 1 1 8 p0.b),.rows ((p0.b.map zag).set p1.toNat [zi ((rd p0.b p1).head.Kind),zi ((rd p0.b p1).head.Line),zi ((rd p0.b p1).head.Col),.str ((rd p0.b p1).head.Text),.map 2,zM 3 1 1 l5,zM 4 1 4 l7,zM 5 1 4 l9]) 8 1 109,.map (l3.map (eKV AV.str AV.bool)),.rows (l5.map eStr) 1 1 9,.rows (l7.map zaj) 4 1 41,.rows (l9.map zaj) 4 1 41,.rows ((p0.p.zTh.map zaz).set p1.toNat [zM 7 1 13 l11]) 1 1 59,.rows (l11.map zas) 13 1 63,.cells [zi ((rd p0.b p1).head.Kind),zi ((rd p0.b p1).head.Line),zi ((rd p0.b p1).head.Col),.str ((rd p0.b p1).head.Text),.map 2,zM 3 1 1 l5,zM 4 1 4 l7,zM 5 1 4 l9] 0 109])) () hlr83 ⟨[],[]⟩ RO ?_) ?_
    ·rintro i74 _ x hm hx
     rw [zbv] at hm
     show WK _ _ _ _ _ [(0,.ptr 0 0 0),(5,.ptr 8 0 0),(83,zM 7 1 13 l11),(84,zi (l11.length:Int)),(85,zi i74)] [zkb p0 p0.at_ (zbS p0.p.zSy) (zM 6 1 1 p0.p.zTh) (zM 1 1 8 p0.b),.rows ((p0.b.map zag).set p1.toNat [zi ((rd p0.b p1).head.Kind),zi ((rd p0.b p1).head.Line),zi ((rd p0.b p1).head.Col),.str ((rd p0.b p1).head.Text),.map 2,zM 3 1 1 l5,zM 4 1 4 l7,zM 5 1 4 l9]) 8 1 109,.map (l3.map (eKV AV.str AV.bool)),.rows (l5.map eStr) 1 1 9,.rows (l7.map zaj) 4 1 41,.rows (l9.map zaj) 4 1 41,.rows ((p0.p.zTh.map zaz).set p1.toNat [zM 7 1 13 l11]) 1 1 59,.rows (l11.map zas) 13 1 63,.cells [zi ((rd p0.b p1).head.Kind),zi ((rd p0.b p1).head.Line),zi ((rd p0.b p1).head.Col),.str ((rd p0.b p1).head.Text),.map 2,zM 3 1 1 l5,zM 4 1 4 l7,zM 5 1 4 l9] 0 109]
     refine W.sa 9 [0,5,83,84,85,86] ?_
     refine W.seq ?_
     refine W.cn hm ?_ ?_ <;> clear hm <;> intro hb84 hm
     ·refine W.skip (W.seq (W.block ?_))
      replace ⟨h85,hm⟩:=zap hm
      refine W.sa 10 [0,5,10,11,83,84,85] ?_
      replace ⟨b86,h87,hm⟩:=zaN hm
      refine W.sq [] [(0,.ptr 0 0 0),(5,.ptr 8 0 0),(10,zi i74),(83,zM 7 1 13 l11),(84,zi (l11.length:Int)),(85,zi i74),(100,.bool b86)] [zkb p0 p0.at_ (zbS p0.p.zSy) (zM 6 1 1 p0.p.zTh) (zM 1 1 8 p0.b),.rows ((p0.b.map zag).set p1.toNat [zi ((rd p0.b p1).head.Kind),zi ((rd p0.b p1).head.Line),zi ((rd p0.b p1).head.Col),.str ((rd p0.b p1).head.Text),.map 2,zM 3 1 1 l5,zM 4 1 4 l7,zM 5 1 4 l9]) 8 1 109,.map (l3.map (eKV AV.str AV.bool)),.rows (l5.map eStr) 1 1 9,.rows (l7.map zaj) 4 1 41,.rows (l9.map zaj) 4 1 41,.rows ((p0.p.zTh.map zaz).set p1.toNat [zM 7 1 13 l11]) 1 1 59,.rows (l11.map zas) 13 1 63,.cells [zi ((rd p0.b p1).head.Kind),zi ((rd p0.b p1).head.Line),zi ((rd p0.b p1).head.Col),.str ((rd p0.b p1).head.Text),.map 2,zM 3 1 1 l5,zM 4 1 4 l7,zM 5 1 4 l9] 0 109] ?_
      clear h87
      refine W.cn hm ?_ ?_ <;> clear hm <;> intro hb88 hm
      ·replace ⟨h89,hm⟩:=zap hm
       replace ⟨v90,h91,hm⟩:=zah hm
       refine W.sa 1 [4] ?_ (hrun:=RCG (zaF h91) [0] [] [.fol 1 p1.toNat 4,.fol 1 p1.toNat 5,.fol 1 p1.toNat 6,.fol 1 p1.toNat 7,.fol 0 0 4,.fol 6 p1.toNat 0,.fol 0 0 3] [])
       cases hm
       obtain rfl:=hx _ rfl
       exact W.wk ⟨[],[]⟩ [(4,.bool v90.1)] [.cells (zaA v90.2) 0 82] (W.ret (show _/\_ from ⟨rfl,rfl,rfl⟩))
      ·refine W.skip (W.rg [] [(0,.ptr 0 0 0),(5,.ptr 8 0 0),(83,zM 7 1 13 l11),(84,zi (l11.length:Int)),(85,zi (zw (i74+1)))] [zkb p0 p0.at_ (zbS p0.p.zSy) (zM 6 1 1 p0.p.zTh) (zM 1 1 8 p0.b),.rows ((p0.b.map zag).set p1.toNat [zi ((rd p0.b p1).head.Kind),zi ((rd p0.b p1).head.Line),zi ((rd p0.b p1).head.Col),.str ((rd p0.b p1).head.Text),.map 2,zM 3 1 1 l5,zM 4 1 4 l7,zM 5 1 4 l9]) 8 1 109,.map (l3.map (eKV AV.str AV.bool)),.rows (l5.map eStr) 1 1 9,.rows (l7.map zaj) 4 1 41,.rows (l9.map zaj) 4 1 41,.rows ((p0.p.zTh.map zaz).set p1.toNat [zM 7 1 13 l11]) 1 1 59,.rows (l11.map zas) 13 1 63,.cells [zi ((rd p0.b p1).head.Kind),zi ((rd p0.b p1).head.Line),zi ((rd p0.b p1).head.Col),.str ((rd p0.b p1).head.Text),.map 2,zM 3 1 1 l5,zM 4 1 4 l7,zM 5 1 4 l9] 0 109] ?_)
       cases hm
       exact ⟨(zw (i74+1)),(),⟨[],[]⟩,rfl,RO⟩
     ·cases hm
      obtain rfl:=hx _ rfl
      exact W.wk ⟨[],[.fol 1 p1.toNat 4,.fol 1 p1.toNat 5,.fol 1 p1.toNat 6,.fol 1 p1.toNat 7,.fol 0 0 4,.fol 6 p1.toNat 0,.fol 0 0 3]⟩ [] [zkb p0 p0.at_ (zbS p0.p.zSy) (zbT (p0.p.zTh.set p1.toNat (zae.mk l11))) (zbB (p0.b.set p1.toNat (zat.mk ((rd p0.b p1).head) l3 l5 l7 l9)))] (W.exit (show _/\_ from ⟨rfl,(),rfl,rfl⟩))
    ·intro e0 s0 h0 hq
     rcases r83 with er83 | qr83
     ·obtain ⟨rfl,_,rfl,rfl⟩:=hq
      replace hm:=zc5 hm
      show WK _ _ _ _ _ [] [zkb p0 p0.at_ (zbS p0.p.zSy) (zbT (p0.p.zTh.set p1.toNat (zae.mk l11))) (zbB (p0.b.set p1.toNat (zat.mk ((rd p0.b p1).head) l3 l5 l7 l9)))]
      replace ⟨l92,h93,hm⟩:=zaN hm
      replace ⟨l94,h95,hm⟩:=zaN hm
      refine W.sq [] [(4,.bool true)] [zkb p0 p0.at_ (zbS p0.p.zSy) (zbT l92) (zbB l94)] ?_
      clear h93 h95
      cases hm
      exact W.rt
     ·obtain ⟨rfl,rfl,rfl⟩:=hq
      replace hm:=zc4 hm
      cases hm
      exact zkF.retW ⟨[],[]⟩ RO
   ·obtain ⟨rfl,rfl,rfl⟩:=hq
    replace hm:=zc4 hm
    cases hm
    exact zkF.retW ⟨[],[]⟩ RO
end Go.Proofs.YtocjejladeeckaaGreatDoor
