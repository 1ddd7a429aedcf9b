import Derived.Test.YtocjejladeeckaaGreatDoorVFacts
import Derived.Test.YtocjejladeeckaaGreatDoorVu3
import Derived.Test.YtocjejladeeckaaGreatDoorPalJ
import Derived.Test.YtocjejladeeckaaGreatDoorWI
import Derived.Test.YtocjejladeeckaaGreatDoorWL
set_option linter.all false
set_option maxRecDepth 100000
set_option maxHeartbeats 4000000
namespace Go.Proofs.YtocjejladeeckaaGreatDoor
open Go.Vs
variable [TabX]
theorem zeN{p0:ByteArray}{r:zaf × zai}(hm:zc3 p0=some r):zaE Tryz.prog 16 [.str p0] (.tuple [.agg [.sl (r.1.zSy.map zaD),.sl (r.1.zTh.map zav)],.agg [zi r.2.Code,zi r.2.Line,zi r.2.Col]]):=by
 rw [zc3] at hm
 refine zaE.of Tryz.func16 rfl Tryz.ntmps16 (Nat.le_of_ble_eq_true rfl) ?_
 refine W.sa 2 [0,2,3] ?_ [.nbx 0 0 0 3 54,.nbx 0 0 1 1 59]
 replace ⟨v1,h2,hm⟩:=zah hm
 have kh2:=zlX h2
 refine W.sa 3 [2,3,4,5] ?_
 refine W.seq (W.sa 3 [2,3,4,5,15] ?_)
 refine W.cn hm ?_ ?_ <;> clear hm <;> intro hb3 hm
 ·refine W.saL [.light,.light,.store,.store] [([],[]),([2],[]),([0],[0]),([1],[1])] 2 [2,3] zaI ?_ [.nbx 0 0 0 3 54,.nbx 0 0 1 1 59]
  cases hm
  refine W.wk ⟨[2,3],[.foc 0 0 0,.foc 0 0 1]⟩ [(2,.ptr 0 0 0),(3,.ptr 1 0 0)] [.cells [.sl (([]:List zan).map zaD),.sl (([]:List zae).map zav)] 0 30,.cells (zce v1.2) 0 37] ?_
  exact W.rt
 ·refine W.skip (W.sa 4 [2,3,4,6] ?_ [.nbx 3 0 2 3 54,.nbx 3 0 3 1 59,.nbx 3 0 4 8 109])
  refine W.seq (W.block ?_)
  replace ⟨r40,hlr40,hm⟩:=zah hm
  refine W.mono (Q:=fun e0 s0 h0=>match r40 with | .inl e=>e0=.exit 0/\∃w:Unit,s0=[(2,.ptr 0 0 0),(3,.ptr 1 0 0),(6,.ptr 3 0 0)]/\h0=[.cells [.zBx (([]:List zan).map zaD) 3 54,.zBx (([]:List zae).map zaz) 1 59] 0 30,.cells [zi 0,zi 0,zi 0] 0 37,.dead,zkc e.1 e.2.1 (zbS e.2.2.1) (zbT e.2.2.2.1) (zbB e.2.2.2.2.1) e.2.2.2.2.2.1 e.2.2.2.2.2.2.1 e.2.2.2.2.2.2.2] | .inr q=>e0=.ret/\s0=[(2,.ptr 0 0 0),(3,.ptr 1 0 0)]/\h0=[.cells (zam q.1) 0 30,.cells (zce q.2) 0 37]) (W.loopM (step:=zcg v1) (a0:=(v1.1,0,([]:List zan),([]:List zae),([]:List zat),0,0,0)) (fun (a:(List zaa) × Int × (List zan) × (List zae) × (List zat) × Int × Int × Int) (v:Unit)=>([(2,.ptr 0 0 0),(3,.ptr 1 0 0),(4,.sl (v1.1.map zaj)),(6,.ptr 3 0 0)],[.cells [.zBx (([]:List zan).map zaD) 3 54,.zBx (([]:List zae).map zaz) 1 59] 0 30,.cells [zi 0,zi 0,zi 0] 0 37,.dead,zkc a.1 a.2.1 (zbS a.2.2.1) (zbT a.2.2.2.1) (zbB a.2.2.2.2.1) a.2.2.2.2.2.1 a.2.2.2.2.2.2.1 a.2.2.2.2.2.2.2])) () hlr40 ⟨[],[]⟩ RO ?_) ?_
  ·rintro ⟨l20,i21,l22,l23,l24,i25,i26,i27⟩ _ x hm hx
   rw [zcg] at hm
   show WK _ _ _ _ _ [(2,.ptr 0 0 0),(3,.ptr 1 0 0),(4,.sl (v1.1.map zaj)),(6,.ptr 3 0 0)] [.cells [.zBx (([]:List zan).map zaD) 3 54,.zBx (([]:List zae).map zaz) 1 59] 0 30,.cells [zi 0,zi 0,zi 0] 0 37,.dead,zkc l20 i21 (zbS l22) (zbT l23) (zbB l24) i25 i26 i27]
   refine W.seq (W.sa 4 [2,3,4,6,27] ?_)
   refine W.cn hm ?_ ?_ <;> clear hm <;> intro hb41 hm
   ·refine W.skip (W.block ?_)
    replace ⟨v42,h43,hm⟩:=zah hm
    refine W.sa 4 [2,3,4,6,30] ?_ (hrun:=RC (zhz h43) [3])
    refine W.cn hm ?_ ?_ <;> clear hm <;> intro hb44 hm
    ·refine W.saL [.light,.light,.light,.light,.light,.store,.store] [([],[]),([],[]),([],[]),([],[]),([3],[]),([0],[0]),([1],[1])] 2 [2,3] zaI ?_ [.nbx 0 0 0 3 54,.nbx 0 0 1 1 59]
     cases hm
     obtain rfl:=hx _ rfl
     refine W.wk ⟨[2,3],[.foc 0 0 0,.foc 0 0 1]⟩ [(2,.ptr 0 0 0),(3,.ptr 1 0 0)] [.cells [.sl (([]:List zan).map zaD),.sl (([]:List zae).map zav)] 0 30,.cells (zce v42.2.f) 0 37] ?_
     exact W.wk ⟨[],[]⟩ [(2,.ptr 0 0 0),(3,.ptr 1 0 0)] [.cells [.sl (([]:List zan).map zaD),.sl (([]:List zae).map zav)] 0 30,.cells (zce v42.2.f) 0 37] (W.ret (show _/\_ from ⟨rfl,rfl,rfl⟩))
    ·refine W.skip ?_
     cases hm
     exact ⟨(v42.2.l,v42.2.at_,v42.2.p.zSy,v42.2.p.zTh,v42.2.b,v42.2.f.Code,v42.2.f.Line,v42.2.f.Col),(),⟨[],[]⟩,rfl,RO⟩
   ·cases hm
    obtain rfl:=hx _ rfl
    exact W.wk ⟨[],[]⟩ [(2,.ptr 0 0 0),(3,.ptr 1 0 0),(6,.ptr 3 0 0)] [.cells [.zBx (([]:List zan).map zaD) 3 54,.zBx (([]:List zae).map zaz) 1 59] 0 30,.cells [zi 0,zi 0,zi 0] 0 37,.dead,zkc l20 i21 (zbS l22) (zbT l23) (zbB l24) i25 i26 i27] (W.exit (show _/\_ from ⟨rfl,(),rfl,rfl⟩))
  ·intro e0 s0 h0 hq
   rcases r40 with er40 | qr40
   ·obtain ⟨rfl,_,rfl,rfl⟩:=hq
    replace hm:=zc5 hm
    show WK _ _ _ _ _ [(2,.ptr 0 0 0),(3,.ptr 1 0 0),(6,.ptr 3 0 0)] [.cells [.zBx (([]:List zan).map zaD) 3 54,.zBx (([]:List zae).map zaz) 1 59] 0 30,.cells [zi 0,zi 0,zi 0] 0 37,.dead,zkc er40.1 er40.2.1 (zbS er40.2.2.1) (zbT er40.2.2.2.1) (zbB er40.2.2.2.2.1) er40.2.2.2.2.2.1 er40.2.2.2.2.2.2.1 er40.2.2.2.2.2.2.2]
    refine W.seq (W.wa 5 [2,3,6] [.foc 3 0 4] ?_)
    refine W.sa 4 [2,3,6,40,41] ?_ [.fol 3 0 4]
    refine W.block ?_
    replace ⟨r84,hlr84,hm⟩:=zah hm
    refine W.mono (Q:=fun e0 s0 h0=>match r84 with | .inl e=>e0=.exit 2/\∃w:Unit,s0=[(2,.ptr 0 0 0),(3,.ptr 1 0 0),(6,.ptr 3 0 0)]/\h0=[.cells [.zBx (([]:List zan).map zaD) 3 54,.zBx (([]:List zae).map zaz) 1 59] 0 30,.cells [zi 0,zi 0,zi 0] 0 37,.dead,zkc e.1 e.2.1 (zbS e.2.2.1) (zbT e.2.2.2.1) (zbB e.2.2.2.2.1) e.2.2.2.2.2.1 e.2.2.2.2.2.2.1 e.2.2.2.2.2.2.2] | .inr q=>e0=.ret/\s0=[(2,.ptr 0 0 0),(3,.ptr 1 0 0)]/\h0=[.cells (zam q.1) 0 30,.cells (zce q.2) 0 37]) (W.loopM (step:=zdu er40) (a0:=(0,er40.1,er40.2.1,er40.2.2.1,er40.2.2.2.1,er40.2.2.2.2.1,er40.2.2.2.2.2.1,er40.2.2.2.2.2.2.1,er40.2.2.2.2.2.2.2)) (fun (a:Int × (List zaa) × Int × (List zan) × (List zae) × (List zat) × Int × Int × Int) (v:Unit)=>([(2,.ptr 0 0 0),(3,.ptr 1 0 0),(6,.ptr 3 0 0),(40,zi (er40.2.2.2.2.1.length:Int)),(41,zi a.1)],[.cells [.zBx (([]:List zan).map zaD) 3 54,.zBx (([]:List zae).map zaz) 1 59] 0 30,.cells [zi 0,zi 0,zi 0] 0 37,.dead,zkc a.2.1 a.2.2.1 (zbS a.2.2.2.1) (zbT a.2.2.2.2.1) (zbB a.2.2.2.2.2.1) a.2.2.2.2.2.2.1 a.2.2.2.2.2.2.2.1 a.2.2.2.2.2.2.2.2])) () hlr84 ⟨[],[]⟩ RO ?_) ?_
    ·rintro ⟨i62,l63,i65,l66,l67,l68,i69,i70,i71⟩ _ x hm hx
     rw [zdu] at hm
     show WK _ _ _ _ _ [(2,.ptr 0 0 0),(3,.ptr 1 0 0),(6,.ptr 3 0 0),(40,zi (er40.2.2.2.2.1.length:Int)),(41,zi i62)] [.cells [.zBx (([]:List zan).map zaD) 3 54,.zBx (([]:List zae).map zaz) 1 59] 0 30,.cells [zi 0,zi 0,zi 0] 0 37,.dead,zkc l63 i65 (zbS l66) (zbT l67) (zbB l68) i69 i70 i71]
     refine W.sa 4 [2,3,6,40,41,42] ?_
     refine W.seq ?_
     refine W.cn hm ?_ ?_ <;> clear hm <;> intro hb85 hm
     ·refine W.skip (W.seq (W.block (W.sa 4 [2,3,6,7,40,41] ?_)))
      replace ⟨v86,h87,hm⟩:=zah hm
      refine W.sa 4 [2,3,6,40,41,47] ?_ (hrun:=RC (zgY h87) [3])
      refine W.cn hm ?_ ?_ <;> clear hm <;> intro hb88 hm
      ·refine W.saL [.light,.light,.light,.light,.light,.store,.store] [([],[]),([],[]),([],[]),([],[]),([3],[]),([0],[0]),([1],[1])] 2 [2,3] zaI ?_ [.nbx 0 0 0 3 54,.nbx 0 0 1 1 59]
       cases hm
       obtain rfl:=hx _ rfl
       refine W.wk ⟨[2,3],[.foc 0 0 0,.foc 0 0 1]⟩ [(2,.ptr 0 0 0),(3,.ptr 1 0 0)] [.cells [.sl (([]:List zan).map zaD),.sl (([]:List zae).map zav)] 0 30,.cells (zce v86.2.f) 0 37] ?_
       exact W.wk ⟨[],[]⟩ [(2,.ptr 0 0 0),(3,.ptr 1 0 0)] [.cells [.sl (([]:List zan).map zaD),.sl (([]:List zae).map zav)] 0 30,.cells (zce v86.2.f) 0 37] (W.ret (show _/\_ from ⟨rfl,rfl,rfl⟩))
      ·refine W.skip (W.rg [] [(2,.ptr 0 0 0),(3,.ptr 1 0 0),(6,.ptr 3 0 0),(40,zi (er40.2.2.2.2.1.length:Int)),(41,zi (zw (i62+1)))] [.cells [.zBx (([]:List zan).map zaD) 3 54,.zBx (([]:List zae).map zaz) 1 59] 0 30,.cells [zi 0,zi 0,zi 0] 0 37,.dead,.cells (zaA v86.2) 0 82] ?_)
       cases hm
       exact ⟨((zw (i62+1)),v86.2.l,v86.2.at_,v86.2.p.zSy,v86.2.p.zTh,v86.2.b,v86.2.f.Code,v86.2.f.Line,v86.2.f.Col),(),⟨[],[]⟩,rfl,RO⟩
     ·cases hm
      obtain rfl:=hx _ rfl
      exact W.wk ⟨[],[]⟩ [(2,.ptr 0 0 0),(3,.ptr 1 0 0),(6,.ptr 3 0 0)] [.cells [.zBx (([]:List zan).map zaD) 3 54,.zBx (([]:List zae).map zaz) 1 59] 0 30,.cells [zi 0,zi 0,zi 0] 0 37,.dead,zkc l63 i65 (zbS l66) (zbT l67) (zbB l68) i69 i70 i71] (W.exit (show _/\_ from ⟨rfl,(),rfl,rfl⟩))
    ·intro e0 s0 h0 hq
     rcases r84 with er84 | qr84
     ·obtain ⟨rfl,_,rfl,rfl⟩:=hq
      replace hm:=zc5 hm
      show WK _ _ _ _ _ [(2,.ptr 0 0 0),(3,.ptr 1 0 0),(6,.ptr 3 0 0)] [.cells [.zBx (([]:List zan).map zaD) 3 54,.zBx (([]:List zae).map zaz) 1 59] 0 30,.cells [zi 0,zi 0,zi 0] 0 37,.dead,zkc er84.1 er84.2.1 (zbS er84.2.2.1) (zbT er84.2.2.2.1) (zbB er84.2.2.2.2.1) er84.2.2.2.2.2.1 er84.2.2.2.2.2.2.1 er84.2.2.2.2.2.2.2]
      refine W.wa 6 [2,3,6] [.foc 3 0 2,.foc 3 0 3] ?_
      refine W.sa 2 [2,3] ?_ [.fol 0 0 0,.fol 0 0 1]
      cases hm
      refine W.wk ⟨[2,3],[.foc 0 0 0,.foc 0 0 1]⟩ [(2,.ptr 0 0 0),(3,.ptr 1 0 0)] [.cells [.sl (er84.2.2.1.map zaD),.sl (er84.2.2.2.1.map zav)] 0 30,.cells [zi 0,zi 0,zi 0] 0 37] ?_
      exact W.rt
     ·obtain ⟨rfl,rfl,rfl⟩:=hq
      replace hm:=zc4 hm
      cases hm
      exact zee.retW [] RO
   ·obtain ⟨rfl,rfl,rfl⟩:=hq
    replace hm:=zc4 hm
    cases hm
    exact zee.retW [] RO
end Go.Proofs.YtocjejladeeckaaGreatDoor
