import Derived.Test.YtkgpofmbegonfaaGreatDoorVFacts
import Derived.Test.YtkgpofmbegonfaaGreatDoorPalJn
import Derived.Test.YtkgpofmbegonfaaGreatDoorWBld
set_option linter.all false
set_option maxRecDepth 100000
set_option maxHeartbeats 4000000
namespace Go.Proofs.YtkgpofmbegonfaaGreatDoor
open Go.Vs
variable [Tab]
theorem zg0{p0:(List ByteArray)}{p1:ByteArray}{r:ByteArray}(hm:zcu p0 p1=some r):zaO Tryz.prog 17 [.sl (p0.map eStr),.str p1] (.str r):=by
 rw [zcu] at hm
 refine zaO.of Tryz.func17 rfl Tryz.ntmps17 (Nat.le_of_ble_eq_true rfl) ?_
 have e0:argS 0 [.sl (p0.map eStr),.str p1]=[(0,.sl (p0.map eStr)),(1,.str p1)]:=rfl
 rw [e0]
 refine W.sq [] [(0,.sl (p0.map eStr)),(1,.str p1)] [] ?_
 refine W.seq ?_
 refine W.sq [] [(0,.sl (p0.map eStr)),(1,.str p1),(12,.int .i64 (p0.length:Int))] [] ?_
 refine W.block ?_
 refine W.sq [] [(0,.sl (p0.map eStr)),(1,.str p1),(12,.int .i64 (p0.length:Int)),(13,.bool ((p0.length:Int)==0))] [] ?_
 refine W.cnd ((p0.length:Int)==0) (fun hb1=>?_) (fun hb1=>?_)
 ·replace hm:=zaK hb1 hm
  refine W.sq [] [(4,.str (⟨#[]⟩:ByteArray))] [] ?_
  obtain rfl:=Option.some.inj hm
  exact W.ret (zcB.retW [] RO)
 ·replace hm:=zaV hb1 hm
  refine W.sq [] [(0,.sl (p0.map eStr)),(1,.str p1),(15,.bool ((p0.length:Int)==1))] [] ?_
  refine W.cnd ((p0.length:Int)==1) (fun hb2=>?_) (fun hb2=>?_)
  ·replace hm:=zaK hb2 hm
   replace hm:=zaA hm
   obtain ⟨h3,hm⟩:=hm
   refine W.sq [] [(4,.str (rd p0 0))] [] ?_
   obtain rfl:=Option.some.inj hm
   exact W.ret (zcB.retW [] RO)
  ·replace hm:=zaV hb2 hm
   refine W.skip ?_
   refine W.sq [] [(0,.sl (p0.map eStr)),(1,.str p1),(5,.int .i64 0)] [] ?_
   refine W.cut (fun s h=>∃(v:Int) (w:Unit) (F:Gs),zct p0 p1 v=some r/\AT 0 F [(0,.sl (p0.map eStr)),(1,.str p1),(5,.int .i64 v)] [] s h) ?_ ?_
   ·refine W.sq [] [(0,.sl (p0.map eStr)),(1,.str p1),(5,.int .i64 0),(22,.bool (decide ((p1.size:Int)>0)))] [] ?_
    refine W.cnd (decide ((p1.size:Int)>0)) (fun hb74=>?_) (fun hb74=>?_)
    ·replace hm:=zaK hb74 hm
     refine W.cut (fun s h=>∃(v:Unit) (w:Unit) (F:Gs),zc7 p1 p0=some r/\AT 0 F [(0,.sl (p0.map eStr)),(1,.str p1),(5,.int .i64 0)] [] s h) ?_ ?_
     ·replace hm:=zaA hm
      obtain ⟨h77,hm⟩:=hm
      replace hm:=zaY hm
      obtain ⟨b78,h79,hm⟩:=hm
      refine W.sq [] [(0,.sl (p0.map eStr)),(1,.str p1),(5,.int .i64 0),(29,.bool b78)] [] ?_
      clear h79
      refine W.cnd b78 (fun hb80=>?_) (fun hb80=>?_)
      ·replace hm:=zaK hb80 hm
       cases hm
      ·replace hm:=zaV hb80 hm
       refine W.skip ?_
       exact ⟨(),(),⟨[],[]⟩,hm,RO⟩
     ·rintro s h ⟨_,_,F,hm,hat⟩
      refine W.weak F hat ?_
      show WK _ _ _ _ _ [(0,.sl (p0.map eStr)),(1,.str p1),(5,.int .i64 0)] []
      rw [zc7] at hm
      replace hm:=zaY hm
      obtain ⟨n75,h76,hm⟩:=hm
      refine W.rg [] [(0,.sl (p0.map eStr)),(1,.str p1),(5,.int .i64 n75)] [] ?_
      clear h76
      exact ⟨n75,(),⟨[],[]⟩,hm,RO⟩
    ·replace hm:=zaV hb74 hm
     refine W.skip ?_
     exact ⟨0,(),⟨[],[]⟩,hm,RO⟩
   ·rintro s h ⟨i4,_,F,hm,hat⟩
    refine W.weak F hat ?_
    show WK _ _ _ _ _ [(0,.sl (p0.map eStr)),(1,.str p1),(5,.int .i64 i4)] []
    rw [zct] at hm
    refine W.seq ?_
    refine W.sq [] [(0,.sl (p0.map eStr)),(1,.str p1),(5,.int .i64 i4),(39,.sl (p0.map eStr)),(40,.int .i64 (p0.length:Int)),(41,.int .i64 0)] [] ?_
    refine W.block ?_
    replace hm:=zai hm
    obtain ⟨r20,hlr20,hm⟩:=hm
    refine W.mono (Q:=fun e0 s0 h0=>e0=.exit 1/\∃w:Unit,s0=[(0,.sl (p0.map eStr)),(1,.str p1),(5,.int .i64 r20)]/\h0=[]) (W.loopM (step:=zb1 p0) (a0:=(i4,0)) (fun (a:Int × Int) (v:Unit)=>([(0,.sl (p0.map eStr)),(1,.str p1),(5,.int .i64 a.1),(39,.sl (p0.map eStr)),(40,.int .i64 (p0.length:Int)),(41,.int .i64 a.2)],[])) () hlr20 ⟨[],[]⟩ RO ?_) ?_
    ·rintro ⟨i14,i15⟩ _ x hm hx
     rw [zb1] at hm
     show WK _ _ _ _ _ [(0,.sl (p0.map eStr)),(1,.str p1),(5,.int .i64 i14),(39,.sl (p0.map eStr)),(40,.int .i64 (p0.length:Int)),(41,.int .i64 i15)] []
     refine W.sq [] [(0,.sl (p0.map eStr)),(1,.str p1),(5,.int .i64 i14),(39,.sl (p0.map eStr)),(40,.int .i64 (p0.length:Int)),(41,.int .i64 i15),(42,.bool (decide (i15<(p0.length:Int))))] [] ?_
     refine W.seq ?_
     refine W.cnd (decide (i15<(p0.length:Int))) (fun hb21=>?_) (fun hb21=>?_)
     ·replace hm:=zaK hb21 hm
      refine W.skip ?_
      refine W.cut (fun s h=>∃(v:Unit) (w:Unit) (F:Gs),zc9 i14 p0 i15=some x/\AT 0 F [(0,.sl (p0.map eStr)),(1,.str p1),(5,.int .i64 (IntKind.wrap .i64 (i14+((rd p0 i15).size:Int)))),(39,.sl (p0.map eStr)),(40,.int .i64 (p0.length:Int)),(41,.int .i64 i15)] [] s h) ?_ ?_
      ·refine W.block ?_
       replace hm:=zaA hm
       obtain ⟨h22,hm⟩:=hm
       refine W.sq [] [(0,.sl (p0.map eStr)),(1,.str p1),(5,.int .i64 i14),(7,.str (rd p0 i15)),(39,.sl (p0.map eStr)),(40,.int .i64 (p0.length:Int)),(41,.int .i64 i15)] [] ?_
       refine W.cut (fun s h=>∃(v:Unit) (w:Unit) (F:Gs),zc8 i14 p0 i15=some x/\AT 0 F [(0,.sl (p0.map eStr)),(1,.str p1),(5,.int .i64 i14),(7,.str (rd p0 i15)),(39,.sl (p0.map eStr)),(40,.int .i64 (p0.length:Int)),(41,.int .i64 i15)] [] s h) ?_ ?_
       ·refine W.sq [] [(0,.sl (p0.map eStr)),(1,.str p1),(5,.int .i64 i14),(7,.str (rd p0 i15)),(39,.sl (p0.map eStr)),(40,.int .i64 (p0.length:Int)),(41,.int .i64 i15),(49,.bool (decide (((rd p0 i15).size:Int)>(IntKind.wrap .i64 (9223372036854775807-i14)))))] [] ?_
        refine W.cnd (decide (((rd p0 i15).size:Int)>(IntKind.wrap .i64 (9223372036854775807-i14)))) (fun hb23=>?_) (fun hb23=>?_)
        ·replace hm:=zaK hb23 hm
         cases hm
        ·replace hm:=zaV hb23 hm
         refine W.skip ?_
         exact ⟨(),(),⟨[],[]⟩,hm,RO⟩
       ·rintro s h ⟨_,_,F,hm,hat⟩
        refine W.weak F hat ?_
        show WK _ _ _ _ _ [(0,.sl (p0.map eStr)),(1,.str p1),(5,.int .i64 i14),(7,.str (rd p0 i15)),(39,.sl (p0.map eStr)),(40,.int .i64 (p0.length:Int)),(41,.int .i64 i15)] []
        rw [zc8] at hm
        refine W.rg [] [(0,.sl (p0.map eStr)),(1,.str p1),(5,.int .i64 (IntKind.wrap .i64 (i14+((rd p0 i15).size:Int)))),(39,.sl (p0.map eStr)),(40,.int .i64 (p0.length:Int)),(41,.int .i64 i15)] [] ?_
        exact ⟨(),(),⟨[],[]⟩,hm,RO⟩
      ·rintro s h ⟨_,_,F,hm,hat⟩
       refine W.weak F hat ?_
       show WK _ _ _ _ _ [(0,.sl (p0.map eStr)),(1,.str p1),(5,.int .i64 (IntKind.wrap .i64 (i14+((rd p0 i15).size:Int)))),(39,.sl (p0.map eStr)),(40,.int .i64 (p0.length:Int)),(41,.int .i64 i15)] []
       rw [zc9] at hm
       refine W.rg [] [(0,.sl (p0.map eStr)),(1,.str p1),(5,.int .i64 (IntKind.wrap .i64 (i14+((rd p0 i15).size:Int)))),(39,.sl (p0.map eStr)),(40,.int .i64 (p0.length:Int)),(41,.int .i64 (IntKind.wrap .i64 (i15+1)))] [] ?_
       obtain rfl:=Option.some.inj hm
       exact ⟨((IntKind.wrap .i64 (i14+((rd p0 i15).size:Int))),(IntKind.wrap .i64 (i15+1))),(),⟨[],[]⟩,rfl,RO⟩
     ·replace hm:=zaV hb21 hm
      obtain rfl:=Option.some.inj hm
      obtain rfl:=hx _ rfl
      exact W.weak ⟨[],[]⟩ (show AT _ ⟨[],[]⟩ [(0,.sl (p0.map eStr)),(1,.str p1),(5,.int .i64 i14)] [] _ _ from RO) (W.exit (show _/\_ from ⟨rfl,(),rfl,rfl⟩))
    ·rintro e0 s0 h0 ⟨rfl,_,rfl,rfl⟩
     show WK _ _ _ _ _ [(0,.sl (p0.map eStr)),(1,.str p1),(5,.int .i64 r20)] []
     refine W.sq [] [(0,.sl (p0.map eStr)),(1,.str p1),(5,.int .i64 r20),(8,.ptr 0 0 0)] [.cells [.optp 0,.msl 1 0 0 1 (⟨#[]⟩:ByteArray).size (⟨#[]⟩:ByteArray).size] 0 53,.rows (sB (⟨#[]⟩:ByteArray)) 1 0 5] ?_
     replace hm:=zaA hm
     obtain ⟨h24,hm⟩:=hm
     refine W.sq [] [(0,.sl (p0.map eStr)),(1,.str p1),(8,.ptr 0 0 0)] [.cells [.optp 0,.msl 1 1 0 1 (⟨#[]⟩:ByteArray).size (⟨#[]⟩:ByteArray).size] 0 53,.rows (sB (⟨#[]⟩:ByteArray)) 1 1 5] ?_ (hrun:=?_)
     rotate_left
     ·try simp -implicitDefEqProofs -dsimp only [go_sem,hb1,hb2,h24]
      with_reducible refine exP.mk (.heap ⟨[],[0,1],[.ptr 0 0 0,.int .i64 r20],[.cells [.optp 0,.msl 1 0 0 1 (⟨#[]⟩:ByteArray).size (⟨#[]⟩:ByteArray).size] 0 53,.rows (sB (⟨#[]⟩:ByteArray)) 1 0 5],.tuple [],[.cells [.optp 0,.msl 1 1 0 1 (⟨#[]⟩:ByteArray).size (⟨#[]⟩:ByteArray).size] 0 53,.rows (sB (⟨#[]⟩:ByteArray)) 1 1 5]⟩) (callQ.ofH (by simp -implicitDefEqProofs -dsimp only [go_sem,hb1,hb2,h24]) (zqz r20 (⟨#[]⟩:ByteArray) rfl h24)) ?_
      try simp -implicitDefEqProofs -dsimp only [go_sem,hb1,hb2,h24]
     replace hm:=zaA hm
     obtain ⟨h25,hm⟩:=hm
     replace hm:=zaA hm
     obtain ⟨h26,hm⟩:=hm
     replace hm:=zaY hm
     obtain ⟨s27,h28,hm⟩:=hm
     refine W.sq [] [(0,.sl (p0.map eStr)),(1,.str p1),(8,.ptr 0 0 0)] [.cells [.optp 0,.msl 1 (1+1) 0 1 s27.size s27.size] 0 53,.rows (sB s27) 1 (1+1) 5] ?_ (hrun:=?_)
     rotate_left
     ·try simp -implicitDefEqProofs -dsimp only [go_sem,hb1,hb2,h24,h25,h26,h28]
      with_reducible refine exP.mk (.heap ⟨[],[0,1],[.ptr 0 0 0,.str (rd p0 0)],[.cells [.optp 0,.msl 1 1 0 1 (⟨#[]⟩:ByteArray).size (⟨#[]⟩:ByteArray).size] 0 53,.rows (sB (⟨#[]⟩:ByteArray)) 1 1 5],.tuple [.int .i64 (rd p0 0).size,.nili],[.cells [.optp 0,.msl 1 (1+1) 0 1 ((⟨#[]⟩:ByteArray).size+(rd p0 0).size) ((⟨#[]⟩:ByteArray).size+(rd p0 0).size)] 0 53,.rows (sB ((⟨#[]⟩:ByteArray)++(rd p0 0))) 1 (1+1) 5]⟩) (callQ.ofH (by simp -implicitDefEqProofs -dsimp only [go_sem,hb1,hb2,h24,h25,h26,h28]) (zee (⟨#[]⟩:ByteArray) (rd p0 0) 1 h26)) ?_
      try simp -implicitDefEqProofs -dsimp only [go_sem,hb1,hb2,h24,h25,h26,h28]
     clear h28
     refine W.seq ?_
     replace hm:=zaA hm
     obtain ⟨h29,hm⟩:=hm
     replace hm:=zaY hm
     obtain ⟨l30,h31,hm⟩:=hm
     refine W.sq [] [(1,.str p1),(8,.ptr 0 0 0),(63,.sl (l30.map eStr)),(64,.int .i64 (((p0.take p0.length).drop (Int.toNat 1)).length:Int)),(65,.int .i64 0)] [.cells [.optp 0,.msl 1 (1+1) 0 1 s27.size s27.size] 0 53,.rows (sB s27) 1 (1+1) 5] ?_
     clear h31
     refine W.block ?_
     replace hm:=zai hm
     obtain ⟨r64,hlr64,hm⟩:=hm
     refine W.mono (Q:=fun e0 s0 h0=>e0=.exit 3/\∃w:Nat,s0=[(8,.ptr 0 0 0)]/\h0=[.cells [.optp 0,.msl 1 w 0 1 r64.size r64.size] 0 53,.rows (sB r64) 1 w 5]) (W.loopM (step:=zci p0 l30 p1) (a0:=(0,s27)) (fun (a:Int × ByteArray) (v:Nat)=>([(1,.str p1),(8,.ptr 0 0 0),(63,.sl (l30.map eStr)),(64,.int .i64 (((p0.take p0.length).drop (Int.toNat 1)).length:Int)),(65,.int .i64 a.1)],[.cells [.optp 0,.msl 1 v 0 1 a.2.size a.2.size] 0 53,.rows (sB a.2) 1 v 5])) (1+1) hlr64 ⟨[],[]⟩ RO ?_) ?_
     ·rintro ⟨i51,s52⟩ w53 x hm hx
      rw [zci] at hm
      show WK _ _ _ _ _ [(1,.str p1),(8,.ptr 0 0 0),(63,.sl (l30.map eStr)),(64,.int .i64 (((p0.take p0.length).drop (Int.toNat 1)).length:Int)),(65,.int .i64 i51)] [.cells [.optp 0,.msl 1 w53 0 1 s52.size s52.size] 0 53,.rows (sB s52) 1 w53 5]
      refine W.sq [] [(1,.str p1),(8,.ptr 0 0 0),(63,.sl (l30.map eStr)),(64,.int .i64 (((p0.take p0.length).drop (Int.toNat 1)).length:Int)),(65,.int .i64 i51),(66,.bool (decide (i51<(((p0.take p0.length).drop (Int.toNat 1)).length:Int))))] [.cells [.optp 0,.msl 1 w53 0 1 s52.size s52.size] 0 53,.rows (sB s52) 1 w53 5] ?_
      refine W.seq ?_
      refine W.cnd (decide (i51<(((p0.take p0.length).drop (Int.toNat 1)).length:Int))) (fun hb65=>?_) (fun hb65=>?_)
      ·replace hm:=zaK hb65 hm
       refine W.skip ?_
       refine W.seq ?_
       refine W.block ?_
       replace hm:=zaA hm
       obtain ⟨h66,hm⟩:=hm
       refine W.sq [] [(1,.str p1),(8,.ptr 0 0 0),(10,.str (rd l30 i51)),(63,.sl (l30.map eStr)),(64,.int .i64 (((p0.take p0.length).drop (Int.toNat 1)).length:Int)),(65,.int .i64 i51)] [.cells [.optp 0,.msl 1 w53 0 1 s52.size s52.size] 0 53,.rows (sB s52) 1 w53 5] ?_
       replace hm:=zaA hm
       obtain ⟨h67,hm⟩:=hm
       replace hm:=zaY hm
       obtain ⟨s68,h69,hm⟩:=hm
       refine W.sq [] [(1,.str p1),(8,.ptr 0 0 0),(10,.str (rd l30 i51)),(63,.sl (l30.map eStr)),(64,.int .i64 (((p0.take p0.length).drop (Int.toNat 1)).length:Int)),(65,.int .i64 i51)] [.cells [.optp 0,.msl 1 (w53+1) 0 1 s68.size s68.size] 0 53,.rows (sB s68) 1 (w53+1) 5] ?_ (hrun:=?_)
       rotate_left
       ·try simp -implicitDefEqProofs -dsimp only [go_sem,hb1,hb2,h24,h25,h26,h29,hb65,h66,h67,h69]
        with_reducible refine exP.mk (.heap ⟨[],[0,1],[.ptr 0 0 0,.str p1],[.cells [.optp 0,.msl 1 w53 0 1 s52.size s52.size] 0 53,.rows (sB s52) 1 w53 5],.tuple [.int .i64 p1.size,.nili],[.cells [.optp 0,.msl 1 (w53+1) 0 1 (s52.size+p1.size) (s52.size+p1.size)] 0 53,.rows (sB (s52++p1)) 1 (w53+1) 5]⟩) (callQ.ofH (by simp -implicitDefEqProofs -dsimp only [go_sem,hb1,hb2,h24,h25,h26,h29,hb65,h66,h67,h69]) (zee s52 p1 w53 h67)) ?_
        try simp -implicitDefEqProofs -dsimp only [go_sem,hb1,hb2,h24,h25,h26,h29,hb65,h66,h67,h69]
       clear h69
       replace hm:=zaA hm
       obtain ⟨h70,hm⟩:=hm
       replace hm:=zaY hm
       obtain ⟨s71,h72,hm⟩:=hm
       refine W.rg [] [(1,.str p1),(8,.ptr 0 0 0),(63,.sl (l30.map eStr)),(64,.int .i64 (((p0.take p0.length).drop (Int.toNat 1)).length:Int)),(65,.int .i64 i51)] [.cells [.optp 0,.msl 1 ((w53+1)+1) 0 1 s71.size s71.size] 0 53,.rows (sB s71) 1 ((w53+1)+1) 5] ?_ (hrun:=?_)
       rotate_left
       ·try simp -implicitDefEqProofs -dsimp only [go_sem,hb1,hb2,h24,h25,h26,h29,hb65,h66,h67,h70,h72]
        with_reducible refine exP.mk (.heap ⟨[],[0,1],[.ptr 0 0 0,.str (rd l30 i51)],[.cells [.optp 0,.msl 1 (w53+1) 0 1 s68.size s68.size] 0 53,.rows (sB s68) 1 (w53+1) 5],.tuple [.int .i64 (rd l30 i51).size,.nili],[.cells [.optp 0,.msl 1 ((w53+1)+1) 0 1 (s68.size+(rd l30 i51).size) (s68.size+(rd l30 i51).size)] 0 53,.rows (sB (s68++(rd l30 i51))) 1 ((w53+1)+1) 5]⟩) (callQ.ofH (by simp -implicitDefEqProofs -dsimp only [go_sem,hb1,hb2,h24,h25,h26,h29,hb65,h66,h67,h70,h72]) (zee s68 (rd l30 i51) (w53+1) h70)) ?_
        try simp -implicitDefEqProofs -dsimp only [go_sem,hb1,hb2,h24,h25,h26,h29,hb65,h66,h67,h70,h72]
       clear h72
       refine W.rg [] [(1,.str p1),(8,.ptr 0 0 0),(63,.sl (l30.map eStr)),(64,.int .i64 (((p0.take p0.length).drop (Int.toNat 1)).length:Int)),(65,.int .i64 (IntKind.wrap .i64 (i51+1)))] [.cells [.optp 0,.msl 1 ((w53+1)+1) 0 1 s71.size s71.size] 0 53,.rows (sB s71) 1 ((w53+1)+1) 5] ?_
       obtain rfl:=Option.some.inj hm
       exact ⟨((IntKind.wrap .i64 (i51+1)),s71),((w53+1)+1),⟨[],[]⟩,rfl,RO⟩
      ·replace hm:=zaV hb65 hm
       obtain rfl:=Option.some.inj hm
       obtain rfl:=hx _ rfl
       exact W.weak ⟨[],[]⟩ (show AT _ ⟨[],[]⟩ [(8,.ptr 0 0 0)] [.cells [.optp 0,.msl 1 w53 0 1 s52.size s52.size] 0 53,.rows (sB s52) 1 w53 5] _ _ from RO) (W.exit (show _/\_ from ⟨rfl,w53,rfl,rfl⟩))
     ·rintro e0 s0 h0 ⟨rfl,w63,rfl,rfl⟩
      show WK _ _ _ _ _ [(8,.ptr 0 0 0)] [.cells [.optp 0,.msl 1 w63 0 1 r64.size r64.size] 0 53,.rows (sB r64) 1 w63 5]
      replace hm:=zaA hm
      obtain ⟨h73,hm⟩:=hm
      refine W.sq [] [(4,.str r64)] [] ?_ (hrun:=?_)
      rotate_left
      ·try simp -implicitDefEqProofs -dsimp only [go_sem,hb1,hb2,h24,h25,h26,h29,h73]
       with_reducible refine exP.mk (.heap ⟨[],[0,1],[.ptr 0 0 0],[.cells [.optp 0,.msl 1 w63 0 1 r64.size r64.size] 0 53,.rows (sB r64) 1 w63 5],.str r64,[.dead,.dead]⟩) (callQ.ofH (by simp -implicitDefEqProofs -dsimp only [go_sem,hb1,hb2,h24,h25,h26,h29,h73]) (znt r64 w63 h73)) ?_
       try simp -implicitDefEqProofs -dsimp only [go_sem,hb1,hb2,h24,h25,h26,h29,h73]
      obtain rfl:=Option.some.inj hm
      exact W.ret (zcB.retW [] RO)
end Go.Proofs.YtkgpofmbegonfaaGreatDoor
