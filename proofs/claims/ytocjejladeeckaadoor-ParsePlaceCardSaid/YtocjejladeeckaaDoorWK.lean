import Derived.Test.YtocjejladeeckaaDoorVFacts
import Derived.Test.YtocjejladeeckaaDoorVu3
import Derived.Test.YtocjejladeeckaaDoorPalK
import Derived.Test.YtocjejladeeckaaDoorWA
import Derived.Test.YtocjejladeeckaaDoorWUtf
set_option linter.all false
set_option maxRecDepth 100000
set_option maxHeartbeats 4000000
namespace Go.Proofs.YtocjejladeeckaaDoor
open Go.Vs
variable [TabU]
theorem zed{p0:(List Int)}{p1:(List Int)}{r:Bool}(hm:zbB p0 p1=some r):zaI Tryd.prog 67 [.sl (p0.map (eInt .i64)),.sl (p1.map (eInt .i64))] (.bool r):=by
 rw [zbB] at hm
 refine zaI.of Tryd.func67 rfl Tryd.ntmps67 (Nat.le_of_ble_eq_true rfl) ?_
 refine W.sa 0 [0,1] ?_
 refine W.seq (W.sa 0 [0,1,10] ?_)
 refine W.cn hm ?_ ?_ <;> clear hm <;> intro hb1 hm
 ·refine W.sa 0 [4] ?_
  cases hm
  exact W.rt
 ·refine W.skip (W.seq (W.sa 0 [0,1,5] ?_))
  refine W.block ?_
  replace ⟨r16,hlr16,hm⟩:=zai hm
  refine W.mono (Q:=fun e0 s0 h0=>match r16 with | .inl e=>e0=.exit 0/\∃w:Unit,s0=[]/\h0=[] | .inr q=>e0=.ret/\s0=[(4,.bool q)]/\h0=[]) (W.loopM (step:=zbd p0 p1) (a0:=0) (fun (a:Int) (v:Unit)=>([(0,.sl (p0.map (eInt .i64))),(1,.sl (p1.map (eInt .i64))),(5,zi a)],[])) () hlr16 ⟨[],[]⟩ RO ?_) ?_
  ·rintro i11 _ x hm hx
   rw [zbd] at hm
   show WK _ _ _ _ _ [(0,.sl (p0.map (eInt .i64))),(1,.sl (p1.map (eInt .i64))),(5,zi i11)] []
   refine W.seq (W.sa 0 [0,1,5,14] ?_)
   refine W.cn hm ?_ ?_ <;> clear hm <;> intro hb17 hm
   ·refine W.skip (W.seq (W.block ?_))
    replace ⟨h18,hm⟩:=zay hm
    replace ⟨h19,hm⟩:=zay hm
    refine W.saJ [] [] [] 0 0 [0,1,5,25] zaC ?_
    refine W.cn hm ?_ ?_ <;> clear hm <;> intro hb20 hm
    ·refine W.sa 0 [4] ?_
     cases hm
     obtain rfl:=hx _ rfl
     exact W.wk ⟨[],[]⟩ [(4,.bool false)] [] (W.ret (show _/\_ from ⟨rfl,rfl,rfl⟩))
    ·refine W.skip (W.rg [] [(0,.sl (p0.map (eInt .i64))),(1,.sl (p1.map (eInt .i64))),(5,zi (zw (i11+1)))] [] ?_)
     cases hm
     exact ⟨(zw (i11+1)),(),⟨[],[]⟩,rfl,RO⟩
   ·cases hm
    obtain rfl:=hx _ rfl
    exact W.wk ⟨[],[]⟩ [] [] (W.exit (show _/\_ from ⟨rfl,(),rfl,rfl⟩))
  ·intro e0 s0 h0 hq
   rcases r16 with er16 | qr16
   ·obtain ⟨rfl,_,rfl,rfl⟩:=hq
    replace hm:=zcJ hm
    show WK _ _ _ _ _ [] []
    refine W.sa 0 [4] ?_
    cases hm
    exact W.rt
   ·obtain ⟨rfl,rfl,rfl⟩:=hq
    replace hm:=zcI hm
    cases hm
    exact zdt.retW [] RO
theorem zdV{p0:(List ByteArray)}{p1:(List ByteArray)}{r:Bool}(hm:zbx p0 p1=some r):zaI Tryd.prog 92 [.sl (p0.map eStr),.sl (p1.map eStr)] (.bool r):=by
 rw [zbx] at hm
 refine zaI.of Tryd.func92 rfl Tryd.ntmps92 (Nat.le_of_ble_eq_true rfl) ?_
 refine W.sa 0 [0,1] ?_
 refine W.seq (W.sa 0 [0,1,10] ?_)
 refine W.cn hm ?_ ?_ <;> clear hm <;> intro hb1 hm
 ·refine W.sa 0 [4] ?_
  cases hm
  exact W.rt
 ·refine W.skip (W.seq (W.sa 0 [0,1,5] ?_))
  refine W.block ?_
  replace ⟨r16,hlr16,hm⟩:=zai hm
  refine W.mono (Q:=fun e0 s0 h0=>match r16 with | .inl e=>e0=.exit 0/\∃w:Unit,s0=[]/\h0=[] | .inr q=>e0=.ret/\s0=[(4,.bool q)]/\h0=[]) (W.loopM (step:=za6 p0 p1) (a0:=0) (fun (a:Int) (v:Unit)=>([(0,.sl (p0.map eStr)),(1,.sl (p1.map eStr)),(5,zi a)],[])) () hlr16 ⟨[],[]⟩ RO ?_) ?_
  ·rintro i11 _ x hm hx
   rw [za6] at hm
   show WK _ _ _ _ _ [(0,.sl (p0.map eStr)),(1,.sl (p1.map eStr)),(5,zi i11)] []
   refine W.seq (W.sa 0 [0,1,5,14] ?_)
   refine W.cn hm ?_ ?_ <;> clear hm <;> intro hb17 hm
   ·refine W.skip (W.seq (W.block ?_))
    replace ⟨h18,hm⟩:=zay hm
    replace ⟨h19,hm⟩:=zay hm
    refine W.saJ [] [] [] 0 0 [0,1,5,25] zaC ?_
    refine W.cn hm ?_ ?_ <;> clear hm <;> intro hb20 hm
    ·refine W.sa 0 [4] ?_
     cases hm
     obtain rfl:=hx _ rfl
     exact W.wk ⟨[],[]⟩ [(4,.bool false)] [] (W.ret (show _/\_ from ⟨rfl,rfl,rfl⟩))
    ·refine W.skip (W.rg [] [(0,.sl (p0.map eStr)),(1,.sl (p1.map eStr)),(5,zi (zw (i11+1)))] [] ?_)
     cases hm
     exact ⟨(zw (i11+1)),(),⟨[],[]⟩,rfl,RO⟩
   ·cases hm
    obtain rfl:=hx _ rfl
    exact W.wk ⟨[],[]⟩ [] [] (W.exit (show _/\_ from ⟨rfl,(),rfl,rfl⟩))
  ·intro e0 s0 h0 hq
   rcases r16 with er16 | qr16
   ·obtain ⟨rfl,_,rfl,rfl⟩:=hq
    replace hm:=zcJ hm
    show WK _ _ _ _ _ [] []
    refine W.sa 0 [4] ?_
    cases hm
    exact W.rt
   ·obtain ⟨rfl,rfl,rfl⟩:=hq
    replace hm:=zcI hm
    cases hm
    exact zdt.retW [] RO
theorem zel{p0:zaj}{p1:zaj}{r:Bool}(hm:zbK p0 p1=some r):zaI Tryd.prog 68 [.agg [zi p0.Op,.bool p0.Lock,zi p0.Cond,zi p0.A.Kind,zi p0.A.Reg,zi p0.A.Sym,zi p0.A.N,zi p0.B.Kind,zi p0.B.Reg,zi p0.B.Sym,zi p0.B.N,.str p0.To,.sl (p0.zLb.map eStr)],.agg [zi p1.Op,.bool p1.Lock,zi p1.Cond,zi p1.A.Kind,zi p1.A.Reg,zi p1.A.Sym,zi p1.A.N,zi p1.B.Kind,zi p1.B.Reg,zi p1.B.Sym,zi p1.B.N,.str p1.To,.sl (p1.zLb.map eStr)]] (.bool r):=by
 rw [zbK] at hm
 refine zaI.of Tryd.func68 rfl Tryd.ntmps68 (Nat.le_of_ble_eq_true rfl) ?_
 refine W.sa 2 [2,3] ?_
 replace ⟨v1,h2,hm⟩:=zai hm
 replace ⟨b3,h4,hm⟩:=zaR hm
 have kh2:=fun hg=>zdV (zbC hg h2)
 refine W.sq [] [(4,.bool b3)] [] ?_
 clear h4
 cases hm
 exact W.rt
theorem zee{p0:zaw}{p1:zaw}{r:Bool}(hm:zbm p0 p1=some r):zaI Tryd.prog 31 [.agg [.sl (p0.zSy.map zaf),.sl (p0.zTh.map zbb)],.agg [.sl (p1.zSy.map zaf),.sl (p1.zTh.map zbb)]] (.bool r):=by
 rw [zbm] at hm
 refine zaI.of Tryd.func31 rfl Tryd.ntmps31 (Nat.le_of_ble_eq_true rfl) ?_
 refine W.sa 2 [2,3] ?_
 refine W.seq ?_
 replace ⟨b1,h2,hm⟩:=zaR hm
 refine W.sq [] [(2,.ptr 0 0 0),(3,.ptr 1 0 0),(25,.bool b1)] [.cells (zat p0) 0 38,.cells (zat p1) 0 38] ?_
 clear h2
 refine W.cn hm ?_ ?_ <;> clear hm <;> intro hb3 hm
 ·refine W.sa 0 [4] ?_
  cases hm
  exact W.rt
 ·refine W.skip (W.seq (W.sa 2 [2,3,5] ?_))
  refine W.block ?_
  replace ⟨r43,hlr43,hm⟩:=zai hm
  refine W.mono (Q:=fun e0 s0 h0=>match r43 with | .inl e=>e0=.exit 0/\∃w:Unit,s0=[(2,.ptr 0 0 0),(3,.ptr 1 0 0)]/\h0=[.cells (zat p0) 0 38,.cells (zat p1) 0 38] | .inr q=>e0=.ret/\s0=[(4,.bool q)]/\h0=[]) (W.loopM (step:=zbg p0 p1) (a0:=0) (fun (a:Int) (v:Unit)=>([(2,.ptr 0 0 0),(3,.ptr 1 0 0),(5,zi a)],[.cells (zat p0) 0 38,.cells (zat p1) 0 38])) () hlr43 ⟨[],[]⟩ RO ?_) ?_
  ·rintro i30 _ x hm hx
   rw [zbg] at hm
   show WK _ _ _ _ _ [(2,.ptr 0 0 0),(3,.ptr 1 0 0),(5,zi i30)] [.cells (zat p0) 0 38,.cells (zat p1) 0 38]
   refine W.seq (W.sa 2 [2,3,5,30] ?_)
   refine W.cn hm ?_ ?_ <;> clear hm <;> intro hb44 hm
   ·refine W.skip (W.seq (W.block ?_))
    replace ⟨h45,hm⟩:=zay hm
    replace ⟨h46,hm⟩:=zay hm
    replace ⟨h47,hm⟩:=zay hm
    replace ⟨h48,hm⟩:=zay hm
    replace ⟨h49,hm⟩:=zay hm
    replace ⟨h50,hm⟩:=zay hm
    replace ⟨v51,h52,hm⟩:=zai hm
    replace ⟨b53,h54,hm⟩:=zaR hm
    have kh52:=fun hg=>zed (zbC hg h52)
    try simp only [hb3,hb44] at kh52
    refine W.sqJ [] [] [] 0 [] [(2,.ptr 0 0 0),(3,.ptr 1 0 0),(5,zi i30),(76,.bool b53)] [.cells (zat p0) 0 38,.cells (zat p1) 0 38] zaC ?_
    clear h54
    refine W.cn hm ?_ ?_ <;> clear hm <;> intro hb55 hm
    ·refine W.sa 0 [4] ?_
     cases hm
     obtain rfl:=hx _ rfl
     exact W.wk ⟨[],[]⟩ [(4,.bool false)] [] (W.ret (show _/\_ from ⟨rfl,rfl,rfl⟩))
    ·refine W.skip (W.rg [] [(2,.ptr 0 0 0),(3,.ptr 1 0 0),(5,zi (zw (i30+1)))] [.cells (zat p0) 0 38,.cells (zat p1) 0 38] ?_)
     cases hm
     exact ⟨(zw (i30+1)),(),⟨[],[]⟩,rfl,RO⟩
   ·cases hm
    obtain rfl:=hx _ rfl
    exact W.wk ⟨[],[]⟩ [(2,.ptr 0 0 0),(3,.ptr 1 0 0)] [.cells (zat p0) 0 38,.cells (zat p1) 0 38] (W.exit (show _/\_ from ⟨rfl,(),rfl,rfl⟩))
  ·intro e0 s0 h0 hq
   rcases r43 with er43 | qr43
   ·obtain ⟨rfl,_,rfl,rfl⟩:=hq
    replace hm:=zcJ hm
    show WK _ _ _ _ _ [(2,.ptr 0 0 0),(3,.ptr 1 0 0)] [.cells (zat p0) 0 38,.cells (zat p1) 0 38]
    refine W.seq (W.sa 2 [2,3,6] ?_)
    refine W.block ?_
    replace ⟨r133,hlr133,hm⟩:=zai hm
    refine W.mono (Q:=fun e0 s0 h0=>match r133 with | .inl e=>e0=.exit 2/\∃w:Unit,s0=[]/\h0=[] | .inr q=>e0=.ret/\s0=[(4,.bool q)]/\h0=[]) (W.loopM (step:=zbf p0 p1) (a0:=0) (fun (a:Int) (v:Unit)=>([(2,.ptr 0 0 0),(3,.ptr 1 0 0),(6,zi a)],[.cells (zat p0) 0 38,.cells (zat p1) 0 38])) () hlr133 ⟨[],[]⟩ RO ?_) ?_
    ·rintro i107 _ x hm hx
     rw [zbf] at hm
     show WK _ _ _ _ _ [(2,.ptr 0 0 0),(3,.ptr 1 0 0),(6,zi i107)] [.cells (zat p0) 0 38,.cells (zat p1) 0 38]
     refine W.seq (W.sa 2 [2,3,6,81] ?_)
     refine W.cn hm ?_ ?_ <;> clear hm <;> intro hb134 hm
     ·refine W.skip (W.seq (W.block ?_))
      replace ⟨h135,hm⟩:=zay hm
      replace ⟨h136,hm⟩:=zay hm
      refine W.saJ [] [] [] 0 2 [2,3,6,7,8] zaC ?_
      refine W.seq (W.sa 2 [2,3,6,7,8,100] ?_)
      refine W.cn hm ?_ ?_ <;> clear hm <;> intro hb137 hm
      ·refine W.sa 0 [4] ?_
       cases hm
       obtain rfl:=hx _ rfl
       exact W.wk ⟨[],[]⟩ [(4,.bool false)] [] (W.ret (show _/\_ from ⟨rfl,rfl,rfl⟩))
      ·refine W.skip (W.sa 2 [2,3,6,7,8,9] ?_)
       refine W.block ?_
       replace ⟨r158,hlr158,hm⟩:=zai hm
       refine W.mono (Q:=fun e0 s0 h0=>match r158 with | .inl e=>e0=.exit 4/\∃w:Unit,s0=[(2,.ptr 0 0 0),(3,.ptr 1 0 0),(6,zi i107)]/\h0=[.cells (zat p0) 0 38,.cells (zat p1) 0 38] | .inr q=>e0=.ret/\s0=[(4,.bool q)]/\h0=[]) (W.loopM (step:=zbe p0 i107 p1) (a0:=0) (fun (a:Int) (v:Unit)=>([(2,.ptr 0 0 0),(3,.ptr 1 0 0),(6,zi i107),(7,.sl (((rd p0.zTh i107).Ins).map zav)),(8,.sl (((rd p1.zTh i107).Ins).map zav)),(9,zi a)],[.cells (zat p0) 0 38,.cells (zat p1) 0 38])) () hlr158 ⟨[],[]⟩ RO ?_) ?_
       ·rintro i151 _ x hm hx
        rw [zbe] at hm
        show WK _ _ _ _ _ [(2,.ptr 0 0 0),(3,.ptr 1 0 0),(6,zi i107),(7,.sl (((rd p0.zTh i107).Ins).map zav)),(8,.sl (((rd p1.zTh i107).Ins).map zav)),(9,zi i151)] [.cells (zat p0) 0 38,.cells (zat p1) 0 38]
        refine W.seq (W.sa 2 [2,3,6,7,8,9,104] ?_)
        refine W.cn hm ?_ ?_ <;> clear hm <;> intro hb159 hm
        ·refine W.skip (W.seq (W.block ?_))
         replace ⟨h160,hm⟩:=zay hm
         replace ⟨h161,hm⟩:=zay hm
         replace ⟨v162,h163,hm⟩:=zai hm
         have kh163:=zel h163
         try simp only [hb3,hb134,hb137,hb159] at kh163
         refine W.saJ [] [] [] 0 2 [2,3,6,7,8,9,116] zaC ?_
         refine W.cn hm ?_ ?_ <;> clear hm <;> intro hb164 hm
         ·refine W.sa 0 [4] ?_
          cases hm
          obtain rfl:=hx _ rfl
          exact W.wk ⟨[],[]⟩ [(4,.bool false)] [] (W.ret (show _/\_ from ⟨rfl,rfl,rfl⟩))
         ·refine W.skip (W.rg [] [(2,.ptr 0 0 0),(3,.ptr 1 0 0),(6,zi i107),(7,.sl (((rd p0.zTh i107).Ins).map zav)),(8,.sl (((rd p1.zTh i107).Ins).map zav)),(9,zi (zw (i151+1)))] [.cells (zat p0) 0 38,.cells (zat p1) 0 38] ?_)
          cases hm
          exact ⟨(zw (i151+1)),(),⟨[],[]⟩,rfl,RO⟩
        ·cases hm
         obtain rfl:=hx _ rfl
         exact W.wk ⟨[],[]⟩ [(2,.ptr 0 0 0),(3,.ptr 1 0 0),(6,zi i107)] [.cells (zat p0) 0 38,.cells (zat p1) 0 38] (W.exit (show _/\_ from ⟨rfl,(),rfl,rfl⟩))
       ·intro e0 s0 h0 hq
        rcases r158 with er158 | qr158
        ·obtain ⟨rfl,_,rfl,rfl⟩:=hq
         replace hm:=zcJ hm
         show WK _ _ _ _ _ [(2,.ptr 0 0 0),(3,.ptr 1 0 0),(6,zi i107)] [.cells (zat p0) 0 38,.cells (zat p1) 0 38]
         refine W.rg [] [(2,.ptr 0 0 0),(3,.ptr 1 0 0),(6,zi (zw (i107+1)))] [.cells (zat p0) 0 38,.cells (zat p1) 0 38] ?_
         cases hm
         exact ⟨(zw (i107+1)),(),⟨[],[]⟩,rfl,RO⟩
        ·obtain ⟨rfl,rfl,rfl⟩:=hq
         replace hm:=zcI hm
         cases hm
         obtain rfl:=hx _ rfl
         first | exact (show _/\_ from ⟨rfl,rfl,rfl⟩) | exact ⟨trivial,rfl,rfl⟩
     ·cases hm
      obtain rfl:=hx _ rfl
      exact W.wk ⟨[],[]⟩ [] [] (W.exit (show _/\_ from ⟨rfl,(),rfl,rfl⟩))
    ·intro e0 s0 h0 hq
     rcases r133 with er133 | qr133
     ·obtain ⟨rfl,_,rfl,rfl⟩:=hq
      replace hm:=zcJ hm
      show WK _ _ _ _ _ [] []
      refine W.sa 0 [4] ?_
      cases hm
      exact W.rt
     ·obtain ⟨rfl,rfl,rfl⟩:=hq
      replace hm:=zcI hm
      cases hm
      exact zdt.retW [] RO
   ·obtain ⟨rfl,rfl,rfl⟩:=hq
    replace hm:=zcI hm
    cases hm
    exact zdt.retW [] RO
end Go.Proofs.YtocjejladeeckaaDoor
