import Derived.Test.YtkgpofmbegonfaaGreatDoorVFacts
import Derived.Test.YtkgpofmbegonfaaGreatDoorVu3
import Derived.Test.YtkgpofmbegonfaaGreatDoorPalJ
import Derived.Test.YtkgpofmbegonfaaGreatDoorWI
import Derived.Test.YtkgpofmbegonfaaGreatDoorWL
set_option linter.all false
set_option maxRecDepth 100000
set_option maxHeartbeats 4000000
namespace Go.Proofs.YtkgpofmbegonfaaGreatDoor
open Go.Vs
variable [TabX]
theorem zhH{p0:ByteArray}{r:zaE × zah}(hm:zdl p0=some r):zaO Tryz.prog 27 [.str p0] (.tuple [.agg [.sl (r.1.zSy.map zaf),.sl (r.1.zTh.map zaQ)],.agg [zi r.2.Code,zi r.2.Line,zi r.2.Col]]):=by
 rw [zdl] at hm
 refine zaO.of Tryz.func27 rfl Tryz.ntmps27 (Nat.le_of_ble_eq_true rfl) ?_
 refine W.sa 2 [0,2,3] ?_ [.nbx 0 0 0 3 205,.nbx 0 0 1 1 121]
 replace ⟨v1,h2,hm⟩:=zai hm
 have kh2:=ziJ h2
 refine W.sa 3 [2,3,4,5] ?_
 refine W.seq (W.sa 3 [2,3,4,5,15] ?_)
 refine W.cn hm ?_ ?_ <;> clear hm <;> intro hb3 hm
 ·refine W.saL [.light,.light,.store,.store] [([],[]),([2],[]),([0],[0]),([1],[1])] 2 [2,3] zaP ?_ [.nbx 0 0 0 3 205,.nbx 0 0 1 1 121]
  cases hm
  refine W.wk ⟨[2,3],[.foc 0 0 0,.foc 0 0 1]⟩ [(2,.ptr 0 0 0),(3,.ptr 1 0 0)] [.cells [.sl (([]:List zaz).map zaf),.sl (([]:List zaj).map zaQ)] 0 61,.cells (zaL v1.2) 0 64] ?_
  exact W.rt
 ·refine W.skip (W.sa 4 [2,3,4,6] ?_ [.nbx 3 0 2 3 205,.nbx 3 0 3 1 121,.nbx 3 0 4 8 199])
  refine W.seq (W.block ?_)
  replace ⟨r40,hlr40,hm⟩:=zai hm
  refine W.mono (Q:=fun e0 s0 h0=>match r40 with | .inl e=>e0=.exit 0/\∃w:Unit,s0=[(2,.ptr 0 0 0),(3,.ptr 1 0 0),(6,.ptr 3 0 0)]/\h0=[.cells [.zBx (([]:List zaz).map zaf) 3 205,.zBx (([]:List zaj).map zad) 1 121] 0 61,.cells [zi 0,zi 0,zi 0] 0 64,.dead,.cells [.sl (e.1.map zab),zi e.2.1,.zBx (e.2.2.1.map zaf) 3 205,.zBx (e.2.2.2.1.map zad) 1 121,.zBx (e.2.2.2.2.1.map zae) 8 199,zi e.2.2.2.2.2.1,zi e.2.2.2.2.2.2.1,zi e.2.2.2.2.2.2.2] 0 106] | .inr q=>e0=.ret/\s0=[(2,.ptr 0 0 0),(3,.ptr 1 0 0)]/\h0=[.cells (zba q.1) 0 61,.cells (zaL q.2) 0 64]) (W.loopM (step:=zbK v1) (a0:=(v1.1,0,([]:List zaz),([]:List zaj),([]:List zat),0,0,0)) (fun (a:(List zac) × Int × (List zaz) × (List zaj) × (List zat) × Int × Int × Int) (v:Unit)=>([(2,.ptr 0 0 0),(3,.ptr 1 0 0),(4,.sl (v1.1.map zab)),(6,.ptr 3 0 0)],[.cells [.zBx (([]:List zaz).map zaf) 3 205,.zBx (([]:List zaj).map zad) 1 121] 0 61,.cells [zi 0,zi 0,zi 0] 0 64,.dead,.cells [.sl (a.1.map zab),zi a.2.1,.zBx (a.2.2.1.map zaf) 3 205,.zBx (a.2.2.2.1.map zad) 1 121,.zBx (a.2.2.2.2.1.map zae) 8 199,zi a.2.2.2.2.2.1,zi a.2.2.2.2.2.2.1,zi a.2.2.2.2.2.2.2] 0 106])) () hlr40 ⟨[],[]⟩ RO ?_) ?_
  ·rintro ⟨l20,i21,l22,l23,l24,i25,i26,i27⟩ _ x hm hx
   rw [zbK] at hm
   show WK _ _ _ _ _ [(2,.ptr 0 0 0),(3,.ptr 1 0 0),(4,.sl (v1.1.map zab)),(6,.ptr 3 0 0)] [.cells [.zBx (([]:List zaz).map zaf) 3 205,.zBx (([]:List zaj).map zad) 1 121] 0 61,.cells [zi 0,zi 0,zi 0] 0 64,.dead,.cells [.sl (l20.map zab),zi i21,.zBx (l22.map zaf) 3 205,.zBx (l23.map zad) 1 121,.zBx (l24.map zae) 8 199,zi i25,zi i26,zi i27] 0 106]
   refine W.seq (W.sa 4 [2,3,4,6,27] ?_)
   refine W.cn hm ?_ ?_ <;> clear hm <;> intro hb41 hm
   ·refine W.skip (W.block ?_)
    replace ⟨v42,h43,hm⟩:=zai hm
    refine W.sa 4 [2,3,4,6,30] ?_ (hrun:=RC (zfd h43) [3])
    refine W.cn hm ?_ ?_ <;> clear hm <;> intro hb44 hm
    ·refine W.saL [.light,.light,.light,.light,.light,.store,.store] [([],[]),([],[]),([],[]),([],[]),([3],[]),([0],[0]),([1],[1])] 2 [2,3] zaP ?_ [.nbx 0 0 0 3 205,.nbx 0 0 1 1 121]
     cases hm
     obtain rfl:=hx _ rfl
     refine W.wk ⟨[2,3],[.foc 0 0 0,.foc 0 0 1]⟩ [(2,.ptr 0 0 0),(3,.ptr 1 0 0)] [.cells [.sl (([]:List zaz).map zaf),.sl (([]:List zaj).map zaQ)] 0 61,.cells (zaL v42.2.f) 0 64] ?_
     exact W.wk ⟨[],[]⟩ [(2,.ptr 0 0 0),(3,.ptr 1 0 0)] [.cells [.sl (([]:List zaz).map zaf),.sl (([]:List zaj).map zaQ)] 0 61,.cells (zaL v42.2.f) 0 64] (W.ret (show _/\_ from ⟨rfl,rfl,rfl⟩))
    ·refine W.skip ?_
     cases hm
     exact ⟨(v42.2.l,v42.2.at_,v42.2.p.zSy,v42.2.p.zTh,v42.2.b,v42.2.f.Code,v42.2.f.Line,v42.2.f.Col),(),⟨[],[]⟩,rfl,RO⟩
   ·cases hm
    obtain rfl:=hx _ rfl
    exact W.wk ⟨[],[]⟩ [(2,.ptr 0 0 0),(3,.ptr 1 0 0),(6,.ptr 3 0 0)] [.cells [.zBx (([]:List zaz).map zaf) 3 205,.zBx (([]:List zaj).map zad) 1 121] 0 61,.cells [zi 0,zi 0,zi 0] 0 64,.dead,.cells [.sl (l20.map zab),zi i21,.zBx (l22.map zaf) 3 205,.zBx (l23.map zad) 1 121,.zBx (l24.map zae) 8 199,zi i25,zi i26,zi i27] 0 106] (W.exit (show _/\_ from ⟨rfl,(),rfl,rfl⟩))
  ·intro e0 s0 h0 hq
   rcases r40 with er40 | qr40
   ·obtain ⟨rfl,_,rfl,rfl⟩:=hq
    replace hm:=zdC hm
    show WK _ _ _ _ _ [(2,.ptr 0 0 0),(3,.ptr 1 0 0),(6,.ptr 3 0 0)] [.cells [.zBx (([]:List zaz).map zaf) 3 205,.zBx (([]:List zaj).map zad) 1 121] 0 61,.cells [zi 0,zi 0,zi 0] 0 64,.dead,.cells [.sl (er40.1.map zab),zi er40.2.1,.zBx (er40.2.2.1.map zaf) 3 205,.zBx (er40.2.2.2.1.map zad) 1 121,.zBx (er40.2.2.2.2.1.map zae) 8 199,zi er40.2.2.2.2.2.1,zi er40.2.2.2.2.2.2.1,zi er40.2.2.2.2.2.2.2] 0 106]
    refine W.seq (W.wa 5 [2,3,6] [.foc 3 0 4] ?_)
    refine W.sa 4 [2,3,6,40,41] ?_ [.fol 3 0 4]
    refine W.block ?_
    replace ⟨r84,hlr84,hm⟩:=zai hm
    refine W.mono (Q:=fun e0 s0 h0=>match r84 with | .inl e=>e0=.exit 2/\∃w:Unit,s0=[(2,.ptr 0 0 0),(3,.ptr 1 0 0),(6,.ptr 3 0 0)]/\h0=[.cells [.zBx (([]:List zaz).map zaf) 3 205,.zBx (([]:List zaj).map zad) 1 121] 0 61,.cells [zi 0,zi 0,zi 0] 0 64,.dead,.cells [.sl (e.1.map zab),zi e.2.1,.zBx (e.2.2.1.map zaf) 3 205,.zBx (e.2.2.2.1.map zad) 1 121,.zBx (e.2.2.2.2.1.map zae) 8 199,zi e.2.2.2.2.2.1,zi e.2.2.2.2.2.2.1,zi e.2.2.2.2.2.2.2] 0 106] | .inr q=>e0=.ret/\s0=[(2,.ptr 0 0 0),(3,.ptr 1 0 0)]/\h0=[.cells (zba q.1) 0 61,.cells (zaL q.2) 0 64]) (W.loopM (step:=zcm er40) (a0:=(0,er40.1,er40.2.1,er40.2.2.1,er40.2.2.2.1,er40.2.2.2.2.1,er40.2.2.2.2.2.1,er40.2.2.2.2.2.2.1,er40.2.2.2.2.2.2.2)) (fun (a:Int × (List zac) × Int × (List zaz) × (List zaj) × (List zat) × Int × Int × Int) (v:Unit)=>([(2,.ptr 0 0 0),(3,.ptr 1 0 0),(6,.ptr 3 0 0),(40,zi (er40.2.2.2.2.1.length:Int)),(41,zi a.1)],[.cells [.zBx (([]:List zaz).map zaf) 3 205,.zBx (([]:List zaj).map zad) 1 121] 0 61,.cells [zi 0,zi 0,zi 0] 0 64,.dead,.cells [.sl (a.2.1.map zab),zi a.2.2.1,.zBx (a.2.2.2.1.map zaf) 3 205,.zBx (a.2.2.2.2.1.map zad) 1 121,.zBx (a.2.2.2.2.2.1.map zae) 8 199,zi a.2.2.2.2.2.2.1,zi a.2.2.2.2.2.2.2.1,zi a.2.2.2.2.2.2.2.2] 0 106])) () hlr84 ⟨[],[]⟩ RO ?_) ?_
    ·rintro ⟨i62,l63,i65,l66,l67,l68,i69,i70,i71⟩ _ x hm hx
     rw [zcm] at hm
     show WK _ _ _ _ _ [(2,.ptr 0 0 0),(3,.ptr 1 0 0),(6,.ptr 3 0 0),(40,zi (er40.2.2.2.2.1.length:Int)),(41,zi i62)] [.cells [.zBx (([]:List zaz).map zaf) 3 205,.zBx (([]:List zaj).map zad) 1 121] 0 61,.cells [zi 0,zi 0,zi 0] 0 64,.dead,.cells [.sl (l63.map zab),zi i65,.zBx (l66.map zaf) 3 205,.zBx (l67.map zad) 1 121,.zBx (l68.map zae) 8 199,zi i69,zi i70,zi i71] 0 106]
     refine W.sa 4 [2,3,6,40,41,42] ?_
     refine W.seq ?_
     refine W.cn hm ?_ ?_ <;> clear hm <;> intro hb85 hm
     ·refine W.skip (W.seq (W.block (W.sa 4 [2,3,6,7,40,41] ?_)))
      replace ⟨v86,h87,hm⟩:=zai hm
      refine W.sa 4 [2,3,6,40,41,47] ?_ (hrun:=RC (zeT h87) [3])
      refine W.cn hm ?_ ?_ <;> clear hm <;> intro hb88 hm
      ·refine W.saL [.light,.light,.light,.light,.light,.store,.store] [([],[]),([],[]),([],[]),([],[]),([3],[]),([0],[0]),([1],[1])] 2 [2,3] zaP ?_ [.nbx 0 0 0 3 205,.nbx 0 0 1 1 121]
       cases hm
       obtain rfl:=hx _ rfl
       refine W.wk ⟨[2,3],[.foc 0 0 0,.foc 0 0 1]⟩ [(2,.ptr 0 0 0),(3,.ptr 1 0 0)] [.cells [.sl (([]:List zaz).map zaf),.sl (([]:List zaj).map zaQ)] 0 61,.cells (zaL v86.2.f) 0 64] ?_
       exact W.wk ⟨[],[]⟩ [(2,.ptr 0 0 0),(3,.ptr 1 0 0)] [.cells [.sl (([]:List zaz).map zaf),.sl (([]:List zaj).map zaQ)] 0 61,.cells (zaL v86.2.f) 0 64] (W.ret (show _/\_ from ⟨rfl,rfl,rfl⟩))
      ·refine W.skip (W.rg [] [(2,.ptr 0 0 0),(3,.ptr 1 0 0),(6,.ptr 3 0 0),(40,zi (er40.2.2.2.2.1.length:Int)),(41,zi (zw (i62+1)))] [.cells [.zBx (([]:List zaz).map zaf) 3 205,.zBx (([]:List zaj).map zad) 1 121] 0 61,.cells [zi 0,zi 0,zi 0] 0 64,.dead,.cells (zas v86.2) 0 106] ?_)
       cases hm
       exact ⟨((zw (i62+1)),v86.2.l,v86.2.at_,v86.2.p.zSy,v86.2.p.zTh,v86.2.b,v86.2.f.Code,v86.2.f.Line,v86.2.f.Col),(),⟨[],[]⟩,rfl,RO⟩
     ·cases hm
      obtain rfl:=hx _ rfl
      exact W.wk ⟨[],[]⟩ [(2,.ptr 0 0 0),(3,.ptr 1 0 0),(6,.ptr 3 0 0)] [.cells [.zBx (([]:List zaz).map zaf) 3 205,.zBx (([]:List zaj).map zad) 1 121] 0 61,.cells [zi 0,zi 0,zi 0] 0 64,.dead,.cells [.sl (l63.map zab),zi i65,.zBx (l66.map zaf) 3 205,.zBx (l67.map zad) 1 121,.zBx (l68.map zae) 8 199,zi i69,zi i70,zi i71] 0 106] (W.exit (show _/\_ from ⟨rfl,(),rfl,rfl⟩))
    ·intro e0 s0 h0 hq
     rcases r84 with er84 | qr84
     ·obtain ⟨rfl,_,rfl,rfl⟩:=hq
      replace hm:=zdC hm
      show WK _ _ _ _ _ [(2,.ptr 0 0 0),(3,.ptr 1 0 0),(6,.ptr 3 0 0)] [.cells [.zBx (([]:List zaz).map zaf) 3 205,.zBx (([]:List zaj).map zad) 1 121] 0 61,.cells [zi 0,zi 0,zi 0] 0 64,.dead,.cells [.sl (er84.1.map zab),zi er84.2.1,.zBx (er84.2.2.1.map zaf) 3 205,.zBx (er84.2.2.2.1.map zad) 1 121,.zBx (er84.2.2.2.2.1.map zae) 8 199,zi er84.2.2.2.2.2.1,zi er84.2.2.2.2.2.2.1,zi er84.2.2.2.2.2.2.2] 0 106]
      refine W.wa 6 [2,3,6] [.foc 3 0 2,.foc 3 0 3] ?_
      refine W.sa 2 [2,3] ?_ [.fol 0 0 0,.fol 0 0 1]
      cases hm
      refine W.wk ⟨[2,3],[.foc 0 0 0,.foc 0 0 1]⟩ [(2,.ptr 0 0 0),(3,.ptr 1 0 0)] [.cells [.sl (er84.2.2.1.map zaf),.sl (er84.2.2.2.1.map zaQ)] 0 61,.cells [zi 0,zi 0,zi 0] 0 64] ?_
      exact W.rt
     ·obtain ⟨rfl,rfl,rfl⟩:=hq
      replace hm:=zdB hm
      cases hm
      exact zcB.retW [] RO
   ·obtain ⟨rfl,rfl,rfl⟩:=hq
    replace hm:=zdB hm
    cases hm
    exact zcB.retW [] RO
end Go.Proofs.YtkgpofmbegonfaaGreatDoor
