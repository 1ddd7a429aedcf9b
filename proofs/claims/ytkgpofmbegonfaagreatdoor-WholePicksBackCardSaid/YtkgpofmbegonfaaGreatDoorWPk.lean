import Derived.Test.YtkgpofmbegonfaaGreatDoorVFacts
import Derived.Test.YtkgpofmbegonfaaGreatDoorPalPk
import Derived.Test.YtkgpofmbegonfaaGreatDoorWJ
import Derived.Test.YtkgpofmbegonfaaGreatDoorWStr
import Derived.Test.YtkgpofmbegonfaaGreatDoorWJn
set_option linter.all false
set_option maxRecDepth 100000
set_option maxHeartbeats 4000000
namespace Go.Proofs.YtkgpofmbegonfaaGreatDoor
open Go.Vs
variable [TabS]
theorem zev{p0:(List zan)}{r:ByteArray}(hm:zbR p0=some r):zaO Tryz.prog 11 [.sl (p0.map zag)] (.str r):=by
 rw [zbR] at hm
 refine zaO.of Tryz.func11 rfl Tryz.ntmps11 (Nat.le_of_ble_eq_true rfl) ?_
 have e0:argS 0 [.sl (p0.map zag)]=[(0,.sl (p0.map zag))]:=rfl
 rw [e0]
 refine W.sq [] [(0,.sl (p0.map zag))] [] ?_
 refine W.sq [] [(0,.sl (p0.map zag)),(3,.str (⟨#[]⟩:ByteArray))] [] ?_
 refine W.seq ?_
 refine W.sq [] [(0,.sl (p0.map zag)),(3,.str (⟨#[]⟩:ByteArray)),(4,.int .i64 0)] [] ?_
 refine W.block ?_
 replace hm:=zai hm
 obtain ⟨r39,hlr39,hm⟩:=hm
 refine W.mono (Q:=fun e0 s0 h0=>e0=.exit 0/\∃w:Unit,s0=[(3,.str r39)]/\h0=[]) (W.loopM (step:=za7 p0) (a0:=((⟨#[]⟩:ByteArray),0)) (fun (a:ByteArray × Int) (v:Unit)=>([(0,.sl (p0.map zag)),(3,.str a.1),(4,.int .i64 a.2)],[])) () hlr39 ⟨[],[]⟩ RO ?_) ?_
 ·rintro ⟨s24,i25⟩ _ x hm hx
  rw [za7] at hm
  show WK _ _ _ _ _ [(0,.sl (p0.map zag)),(3,.str s24),(4,.int .i64 i25)] []
  refine W.seq ?_
  refine W.sq [] [(0,.sl (p0.map zag)),(3,.str s24),(4,.int .i64 i25),(8,.bool (decide (i25<(p0.length:Int))))] [] ?_
  refine W.cnd (decide (i25<(p0.length:Int))) (fun hb40=>?_) (fun hb40=>?_)
  ·replace hm:=zaK hb40 hm
   refine W.skip ?_
   refine W.cut (fun s h=>∃(v:ByteArray) (w:Unit) (F:Gs),zbs i25 v=some x/\AT 0 F [(0,.sl (p0.map zag)),(3,.str v),(4,.int .i64 i25)] [] s h) ?_ ?_
   ·refine W.block ?_
    refine W.cut (fun s h=>∃(v:ByteArray) (w:Unit) (F:Gs),za8 i25 p0 v=some x/\AT 0 F [(0,.sl (p0.map zag)),(3,.str v),(4,.int .i64 i25)] [] s h) ?_ ?_
    ·refine W.sq [] [(0,.sl (p0.map zag)),(3,.str s24),(4,.int .i64 i25),(12,.bool (decide (i25>0)))] [] ?_
     refine W.cnd (decide (i25>0)) (fun hb50=>?_) (fun hb50=>?_)
     ·replace hm:=zaK hb50 hm
      replace hm:=zaA hm
      obtain ⟨h51,hm⟩:=hm
      refine W.rg [] [(0,.sl (p0.map zag)),(3,.str (s24++(⟨#[32]⟩:ByteArray))),(4,.int .i64 i25)] [] ?_
      exact ⟨(s24++(⟨#[32]⟩:ByteArray)),(),⟨[],[]⟩,hm,RO⟩
     ·replace hm:=zaV hb50 hm
      refine W.skip ?_
      exact ⟨s24,(),⟨[],[]⟩,hm,RO⟩
    ·rintro s h ⟨s42,_,F,hm,hat⟩
     refine W.weak F hat ?_
     show WK _ _ _ _ _ [(0,.sl (p0.map zag)),(3,.str s42),(4,.int .i64 i25)] []
     rw [za8] at hm
     replace hm:=zaA hm
     obtain ⟨h43,hm⟩:=hm
     replace hm:=zai hm
     obtain ⟨v44,h45,hm⟩:=hm
     replace hm:=zaA hm
     obtain ⟨h46,hm⟩:=hm
     have kh45:=zfM h45
     try simp only [hb40] at kh45
     refine W.sq [] [(0,.sl (p0.map zag)),(3,.str (s42++v44)),(4,.int .i64 i25)] [] ?_
     replace hm:=zaA hm
     obtain ⟨h47,hm⟩:=hm
     refine W.sq [] [(0,.sl (p0.map zag)),(3,.str (s42++v44)),(4,.int .i64 i25),(27,.bool ((rd p0 i25).Flush))] [] ?_
     refine W.cnd ((rd p0 i25).Flush) (fun hb48=>?_) (fun hb48=>?_)
     ·replace hm:=zaK hb48 hm
      replace hm:=zaA hm
      obtain ⟨h49,hm⟩:=hm
      refine W.rg [] [(0,.sl (p0.map zag)),(3,.str ((s42++v44)++(⟨#[102]⟩:ByteArray))),(4,.int .i64 i25)] [] ?_
      exact ⟨((s42++v44)++(⟨#[102]⟩:ByteArray)),(),⟨[],[]⟩,hm,RO⟩
     ·replace hm:=zaV hb48 hm
      refine W.skip ?_
      exact ⟨(s42++v44),(),⟨[],[]⟩,hm,RO⟩
   ·rintro s h ⟨s41,_,F,hm,hat⟩
    refine W.weak F hat ?_
    show WK _ _ _ _ _ [(0,.sl (p0.map zag)),(3,.str s41),(4,.int .i64 i25)] []
    rw [zbs] at hm
    refine W.rg [] [(0,.sl (p0.map zag)),(3,.str s41),(4,.int .i64 (IntKind.wrap .i64 (i25+1)))] [] ?_
    obtain rfl:=Option.some.inj hm
    exact ⟨(s41,(IntKind.wrap .i64 (i25+1))),(),⟨[],[]⟩,rfl,RO⟩
  ·replace hm:=zaV hb40 hm
   obtain rfl:=Option.some.inj hm
   obtain rfl:=hx _ rfl
   exact W.weak ⟨[],[]⟩ (show AT _ ⟨[],[]⟩ [(3,.str s24)] [] _ _ from RO) (W.exit (show _/\_ from ⟨rfl,(),rfl,rfl⟩))
 ·rintro e0 s0 h0 ⟨rfl,_,rfl,rfl⟩
  show WK _ _ _ _ _ [(3,.str r39)] []
  refine W.sq [] [(2,.str r39)] [] ?_
  obtain rfl:=Option.some.inj hm
  exact W.ret (zcB.retW [] RO)
theorem zdb{p0:(List zan)}{p1:(List zan)}{r:Bool}(hm:zbx p0 p1=some r):zaO Tryz.prog 8 [.sl (p0.map zag),.sl (p1.map zag)] (.bool r):=by
 rw [zbx] at hm
 refine zaO.of Tryz.func8 rfl Tryz.ntmps8 (Nat.le_of_ble_eq_true rfl) ?_
 have e0:argS 0 [.sl (p0.map zag),.sl (p1.map zag)]=[(0,.sl (p0.map zag)),(1,.sl (p1.map zag))]:=rfl
 rw [e0]
 refine W.sq [] [(0,.sl (p0.map zag)),(1,.sl (p1.map zag))] [] ?_
 refine W.seq ?_
 refine W.sq [] [(0,.sl (p0.map zag)),(1,.sl (p1.map zag)),(10,.bool ((p0.length:Int) != (p1.length:Int)))] [] ?_
 refine W.cnd ((p0.length:Int) != (p1.length:Int)) (fun hb1=>?_) (fun hb1=>?_)
 ·replace hm:=zaK hb1 hm
  refine W.sq [] [(4,.bool false)] [] ?_
  obtain rfl:=Option.some.inj hm
  exact W.ret (zcB.retW [] RO)
 ·replace hm:=zaV hb1 hm
  refine W.skip ?_
  refine W.seq ?_
  refine W.sq [] [(0,.sl (p0.map zag)),(1,.sl (p1.map zag)),(5,.int .i64 0)] [] ?_
  refine W.block ?_
  replace hm:=zai hm
  obtain ⟨r18,hlr18,hm⟩:=hm
  refine W.mono (Q:=fun e0 s0 h0=>match r18 with | .inl e=>e0=.exit 0/\∃w:Unit,s0=[]/\h0=[] | .inr q=>e0=.ret/\s0=[(4,.bool q)]/\h0=[]) (W.loopM (step:=za9 p0 p1) (a0:=0) (fun (a:Int) (v:Unit)=>([(0,.sl (p0.map zag)),(1,.sl (p1.map zag)),(5,.int .i64 a)],[])) () hlr18 ⟨[],[]⟩ RO ?_) ?_
  ·rintro i11 _ x hm hx
   rw [za9] at hm
   show WK _ _ _ _ _ [(0,.sl (p0.map zag)),(1,.sl (p1.map zag)),(5,.int .i64 i11)] []
   refine W.seq ?_
   refine W.sq [] [(0,.sl (p0.map zag)),(1,.sl (p1.map zag)),(5,.int .i64 i11),(14,.bool (decide (i11<(p0.length:Int))))] [] ?_
   refine W.cnd (decide (i11<(p0.length:Int))) (fun hb19=>?_) (fun hb19=>?_)
   ·replace hm:=zaK hb19 hm
    refine W.skip ?_
    refine W.seq ?_
    refine W.block ?_
    replace hm:=zaA hm
    obtain ⟨h20,hm⟩:=hm
    replace hm:=zaA hm
    obtain ⟨h21,hm⟩:=hm
    replace hm:=zaY hm
    obtain ⟨b22,h23,hm⟩:=hm
    refine W.sqJ [] [] [] 0 [] [(0,.sl (p0.map zag)),(1,.sl (p1.map zag)),(5,.int .i64 i11),(25,.bool b22)] [] zaP ?_
    clear h23
    refine W.cnd b22 (fun hb24=>?_) (fun hb24=>?_)
    ·replace hm:=zaK hb24 hm
     refine W.sq [] [(4,.bool false)] [] ?_
     obtain rfl:=Option.some.inj hm
     obtain rfl:=hx _ rfl
     exact W.weak ⟨[],[]⟩ (show AT _ ⟨[],[]⟩ [(4,.bool false)] [] _ _ from RO) (W.ret (show _/\_ from ⟨rfl,rfl,rfl⟩))
    ·replace hm:=zaV hb24 hm
     refine W.skip ?_
     refine W.rg [] [(0,.sl (p0.map zag)),(1,.sl (p1.map zag)),(5,.int .i64 (IntKind.wrap .i64 (i11+1)))] [] ?_
     obtain rfl:=Option.some.inj hm
     exact ⟨(IntKind.wrap .i64 (i11+1)),(),⟨[],[]⟩,rfl,RO⟩
   ·replace hm:=zaV hb19 hm
    obtain rfl:=Option.some.inj hm
    obtain rfl:=hx _ rfl
    exact W.weak ⟨[],[]⟩ (show AT _ ⟨[],[]⟩ [] [] _ _ from RO) (W.exit (show _/\_ from ⟨rfl,(),rfl,rfl⟩))
  ·intro e0 s0 h0 hq
   rcases r18 with er18 | qr18
   ·obtain ⟨rfl,_,rfl,rfl⟩:=hq
    replace hm:=zdC hm
    show WK _ _ _ _ _ [] []
    refine W.sq [] [(4,.bool true)] [] ?_
    obtain rfl:=Option.some.inj hm
    exact W.ret (zcB.retW [] RO)
   ·obtain ⟨rfl,rfl,rfl⟩:=hq
    replace hm:=zdB hm
    obtain rfl:=Option.some.inj hm
    exact zcB.retW [] RO
theorem zdT{p0:(List zan)}{r:ByteArray}(hm:zbQ p0=some r):zaO Tryz.prog 9 [.sl (p0.map zag)] (.str r):=by
 rw [zbQ] at hm
 refine zaO.of Tryz.func9 rfl Tryz.ntmps9 (Nat.le_of_ble_eq_true rfl) ?_
 have e0:argS 0 [.sl (p0.map zag)]=[(0,.sl (p0.map zag))]:=rfl
 rw [e0]
 refine W.sq [] [(0,.sl (p0.map zag))] [] ?_
 refine W.sq [] [(0,.sl (p0.map zag)),(3,.nils)] [] ?_
 refine W.seq ?_
 refine W.sq [] [(3,.nils),(7,.sl (p0.map zag)),(8,.int .i64 (p0.length:Int)),(9,.int .i64 0)] [] ?_
 refine W.block ?_
 replace hm:=zai hm
 obtain ⟨r39,hlr39,hm⟩:=hm
 refine W.mono (Q:=fun e0 s0 h0=>e0=.exit 0/\∃w:Nat,s0=[(3,.msl 0 w 0 1 r39.length r39.length)]/\h0=[.rows (r39.map eStr) 1 w 9]) (W.loopM (step:=zbI p0) (a0:=(0,[])) (fun (a:Int × (List ByteArray)) (v:Nat)=>([(3,.msl 0 v 0 1 a.2.length a.2.length),(7,.sl (p0.map zag)),(8,.int .i64 (p0.length:Int)),(9,.int .i64 a.1)],[.rows (a.2.map eStr) 1 v 9])) 0 hlr39 ⟨[],[]⟩ RO ?_) ?_
 ·rintro ⟨i24,l25⟩ w26 x hm hx
  rw [zbI] at hm
  show WK _ _ _ _ _ [(3,.msl 0 w26 0 1 l25.length l25.length),(7,.sl (p0.map zag)),(8,.int .i64 (p0.length:Int)),(9,.int .i64 i24)] [.rows (l25.map eStr) 1 w26 9]
  refine W.sq [] [(3,.msl 0 w26 0 1 l25.length l25.length),(7,.sl (p0.map zag)),(8,.int .i64 (p0.length:Int)),(9,.int .i64 i24),(10,.bool (decide (i24<(p0.length:Int))))] [.rows (l25.map eStr) 1 w26 9] ?_
  refine W.seq ?_
  refine W.cnd (decide (i24<(p0.length:Int))) (fun hb40=>?_) (fun hb40=>?_)
  ·replace hm:=zaK hb40 hm
   refine W.skip ?_
   refine W.seq ?_
   refine W.block ?_
   replace hm:=zaA hm
   obtain ⟨h41,hm⟩:=hm
   refine W.sq [] [(3,.msl 0 w26 0 1 l25.length l25.length),(5,.ptr 1 0 0),(7,.sl (p0.map zag)),(8,.int .i64 (p0.length:Int)),(9,.int .i64 i24)] [.rows (l25.map eStr) 1 w26 9,.cells (zag (rd p0 i24)) 0 39] ?_
   replace hm:=zai hm
   obtain ⟨v42,h43,hm⟩:=hm
   have kh43:=zhg h43
   try simp only [hb40] at kh43
   refine W.sq [] [(3,.msl 0 w26 0 1 l25.length l25.length),(5,.ptr 1 0 0),(6,.str v42),(7,.sl (p0.map zag)),(8,.int .i64 (p0.length:Int)),(9,.int .i64 i24)] [.rows (l25.map eStr) 1 w26 9,.cells (zag (rd p0 i24)) 0 39] ?_
   refine W.cut (fun s h=>∃(v:ByteArray) (w:Unit) (F:Gs),zb3 l25 i24 v=some x/\AT 0 F [(3,.msl 0 w26 0 1 l25.length l25.length),(6,.str v),(7,.sl (p0.map zag)),(8,.int .i64 (p0.length:Int)),(9,.int .i64 i24)] [.rows (l25.map eStr) 1 w26 9] s h) ?_ ?_
   ·refine W.sq [] [(3,.msl 0 w26 0 1 l25.length l25.length),(6,.str v42),(7,.sl (p0.map zag)),(8,.int .i64 (p0.length:Int)),(9,.int .i64 i24),(17,.bool ((rd p0 i24).Flush))] [.rows (l25.map eStr) 1 w26 9] ?_
    refine W.cnd ((rd p0 i24).Flush) (fun hb48=>?_) (fun hb48=>?_)
    ·replace hm:=zaK hb48 hm
     replace hm:=zaA hm
     obtain ⟨h49,hm⟩:=hm
     refine W.rg [] [(3,.msl 0 w26 0 1 l25.length l25.length),(6,.str (v42++(⟨#[102]⟩:ByteArray))),(7,.sl (p0.map zag)),(8,.int .i64 (p0.length:Int)),(9,.int .i64 i24)] [.rows (l25.map eStr) 1 w26 9] ?_
     exact ⟨(v42++(⟨#[102]⟩:ByteArray)),(),⟨[],[]⟩,hm,RO⟩
    ·replace hm:=zaV hb48 hm
     refine W.skip ?_
     exact ⟨v42,(),⟨[],[]⟩,hm,RO⟩
   ·rintro s h ⟨s44,_,F,hm,hat⟩
    refine W.weak F hat ?_
    show WK _ _ _ _ _ [(3,.msl 0 w26 0 1 l25.length l25.length),(6,.str s44),(7,.sl (p0.map zag)),(8,.int .i64 (p0.length:Int)),(9,.int .i64 i24)] [.rows (l25.map eStr) 1 w26 9]
    rw [zb3] at hm
    replace hm:=zaA hm
    obtain ⟨h45,hm⟩:=hm
    replace hm:=zaY hm
    obtain ⟨l46,h47,hm⟩:=hm
    refine W.rg [] [(3,.msl 0 (w26+1) 0 1 l46.length l46.length),(7,.sl (p0.map zag)),(8,.int .i64 (p0.length:Int)),(9,.int .i64 i24)] [.rows (l46.map eStr) 1 (w26+1) 9] ?_
    clear h47
    refine W.rg [] [(3,.msl 0 (w26+1) 0 1 l46.length l46.length),(7,.sl (p0.map zag)),(8,.int .i64 (p0.length:Int)),(9,.int .i64 (IntKind.wrap .i64 (i24+1)))] [.rows (l46.map eStr) 1 (w26+1) 9] ?_
    obtain rfl:=Option.some.inj hm
    exact ⟨((IntKind.wrap .i64 (i24+1)),l46),(w26+1),⟨[],[]⟩,rfl,RO⟩
  ·replace hm:=zaV hb40 hm
   obtain rfl:=Option.some.inj hm
   obtain rfl:=hx _ rfl
   exact W.weak ⟨[],[]⟩ (show AT _ ⟨[],[]⟩ [(3,.msl 0 w26 0 1 l25.length l25.length)] [.rows (l25.map eStr) 1 w26 9] _ _ from RO) (W.exit (show _/\_ from ⟨rfl,w26,rfl,rfl⟩))
 ·rintro e0 s0 h0 ⟨rfl,w38,rfl,rfl⟩
  show WK _ _ _ _ _ [(3,.msl 0 w38 0 1 r39.length r39.length)] [.rows (r39.map eStr) 1 w38 9]
  replace hm:=zai hm
  obtain ⟨v50,h51,hm⟩:=hm
  refine W.sq [] [(2,.str v50)] [] ?_ (hrun:=?_)
  rotate_left
  ·try simp -implicitDefEqProofs -dsimp only [go_sem]
   with_reducible refine exP.mk (.pure ⟨[0],true,[.sl (r39.map eStr),.str (⟨#[32]⟩:ByteArray)],.str v50⟩) (callQ.of (by simp -implicitDefEqProofs -dsimp only [go_sem]) (by simp -implicitDefEqProofs -dsimp only [go_sem]) (by simp -implicitDefEqProofs -dsimp only [go_sem]) (fun _=>by simp -implicitDefEqProofs -dsimp only [go_sem]) (zg0 h51)) ?_
   try simp -implicitDefEqProofs -dsimp only [go_sem]
  obtain rfl:=Option.some.inj hm
  exact W.ret (zcB.retW [] RO)
theorem zdc{p0:ByteArray}{r:(List zan) × Bool}(hm:zbW p0=some r):zaO Tryz.prog 6 [.str p0] (.tuple [.sl (r.1.map zag),.bool r.2]):=by
 rw [zbW] at hm
 refine zaO.of Tryz.func6 rfl Tryz.ntmps6 (Nat.le_of_ble_eq_true rfl) ?_
 have e0:argS 0 [.str p0]=[(0,.str p0)]:=rfl
 rw [e0]
 refine W.sq [] [(0,.str p0)] [] ?_
 refine W.seq ?_
 refine W.sq [] [(0,.str p0),(12,.bool (decide (p0=(⟨#[]⟩:ByteArray))))] [] ?_
 refine W.cnd (decide (p0=(⟨#[]⟩:ByteArray))) (fun hb1=>?_) (fun hb1=>?_)
 ·replace hm:=zaK hb1 hm
  refine W.sq [] [(2,.nils),(3,.bool true)] [] ?_
  obtain rfl:=Option.some.inj hm
  exact W.ret (zcB.retW [] RO)
 ·replace hm:=zaV hb1 hm
  refine W.skip ?_
  refine W.sq [] [(0,.str p0),(4,.nils)] [] ?_
  refine W.seq ?_
  replace hm:=zai hm
  obtain ⟨v2,h3,hm⟩:=hm
  have kh3:=zgA h3
  try simp only [hb1] at kh3
  refine W.sq [] [(4,.nils),(14,.sl (v2.map eStr)),(15,.int .i64 (v2.length:Int)),(16,.int .i64 0)] [] ?_
  refine W.block ?_
  replace hm:=zai hm
  obtain ⟨r42,hlr42,hm⟩:=hm
  refine W.mono (Q:=fun e0 s0 h0=>match r42 with | .inl e=>e0=.exit 0/\∃w:Nat,s0=[(4,.msl 0 w 0 2 e.length e.length)]/\h0=[.rows (e.map zag) 2 w 39] | .inr q=>e0=.ret/\s0=[(2,.sl (q.1.map zag)),(3,.bool q.2)]/\h0=[]) (W.loopM (step:=zb2 v2) (a0:=(0,[])) (fun (a:Int × (List zan)) (v:Nat)=>([(4,.msl 0 v 0 2 a.2.length a.2.length),(14,.sl (v2.map eStr)),(15,.int .i64 (v2.length:Int)),(16,.int .i64 a.1)],[.rows (a.2.map zag) 2 v 39])) 0 hlr42 ⟨[],[]⟩ RO ?_) ?_
  ·rintro ⟨i27,l28⟩ w29 x hm hx
   rw [zb2] at hm
   show WK _ _ _ _ _ [(4,.msl 0 w29 0 2 l28.length l28.length),(14,.sl (v2.map eStr)),(15,.int .i64 (v2.length:Int)),(16,.int .i64 i27)] [.rows (l28.map zag) 2 w29 39]
   refine W.sq [] [(4,.msl 0 w29 0 2 l28.length l28.length),(14,.sl (v2.map eStr)),(15,.int .i64 (v2.length:Int)),(16,.int .i64 i27),(17,.bool (decide (i27<(v2.length:Int))))] [.rows (l28.map zag) 2 w29 39] ?_
   refine W.seq ?_
   refine W.cnd (decide (i27<(v2.length:Int))) (fun hb43=>?_) (fun hb43=>?_)
   ·replace hm:=zaK hb43 hm
    refine W.skip ?_
    refine W.seq ?_
    refine W.block ?_
    replace hm:=zaA hm
    obtain ⟨h44,hm⟩:=hm
    refine W.sq [] [(4,.msl 0 w29 0 2 l28.length l28.length),(6,.str (rd v2 i27)),(14,.sl (v2.map eStr)),(15,.int .i64 (v2.length:Int)),(16,.int .i64 i27)] [.rows (l28.map zag) 2 w29 39] ?_
    replace hm:=zai hm
    obtain ⟨v45,h46,hm⟩:=hm
    have kh46:=zfb h46
    try simp only [hb1,hb43] at kh46
    refine W.sq [] [(4,.msl 0 w29 0 2 l28.length l28.length),(7,.str v45.1),(8,.bool v45.2),(14,.sl (v2.map eStr)),(15,.int .i64 (v2.length:Int)),(16,.int .i64 i27)] [.rows (l28.map zag) 2 w29 39] ?_
    replace hm:=zai hm
    obtain ⟨v47,h48,hm⟩:=hm
    have kh48:=zcx h48
    try simp only [hb1,hb43] at kh48
    refine W.sq [] [(4,.msl 0 w29 0 2 l28.length l28.length),(8,.bool v45.2),(9,.int .i64 v47.1),(10,.bool v47.2),(14,.sl (v2.map eStr)),(15,.int .i64 (v2.length:Int)),(16,.int .i64 i27)] [.rows (l28.map zag) 2 w29 39] ?_
    refine W.seq ?_
    refine W.sq [] [(4,.msl 0 w29 0 2 l28.length l28.length),(8,.bool v45.2),(9,.int .i64 v47.1),(14,.sl (v2.map eStr)),(15,.int .i64 (v2.length:Int)),(16,.int .i64 i27),(31,.bool (!v47.2))] [.rows (l28.map zag) 2 w29 39] ?_
    refine W.cnd (!v47.2) (fun hb49=>?_) (fun hb49=>?_)
    ·replace hm:=zaK hb49 hm
     refine W.sq [] [(2,.nils),(3,.bool false)] [] ?_
     obtain rfl:=Option.some.inj hm
     obtain rfl:=hx _ rfl
     exact W.weak ⟨[],[]⟩ (show AT _ ⟨[],[]⟩ [(2,.sl (([]).map zag)),(3,.bool false)] [] _ _ from RO) (W.ret (show _/\_ from ⟨rfl,rfl,rfl⟩))
    ·replace hm:=zaV hb49 hm
     refine W.skip ?_
     replace hm:=zaA hm
     obtain ⟨h50,hm⟩:=hm
     replace hm:=zaY hm
     obtain ⟨l51,h52,hm⟩:=hm
     refine W.rg [] [(4,.msl 0 (w29+1) 0 2 l51.length l51.length),(14,.sl (v2.map eStr)),(15,.int .i64 (v2.length:Int)),(16,.int .i64 i27)] [.rows (l51.map zag) 2 (w29+1) 39] ?_
     clear h52
     refine W.rg [] [(4,.msl 0 (w29+1) 0 2 l51.length l51.length),(14,.sl (v2.map eStr)),(15,.int .i64 (v2.length:Int)),(16,.int .i64 (IntKind.wrap .i64 (i27+1)))] [.rows (l51.map zag) 2 (w29+1) 39] ?_
     obtain rfl:=Option.some.inj hm
     exact ⟨((IntKind.wrap .i64 (i27+1)),l51),(w29+1),⟨[],[]⟩,rfl,RO⟩
   ·replace hm:=zaV hb43 hm
    obtain rfl:=Option.some.inj hm
    obtain rfl:=hx _ rfl
    exact W.weak ⟨[],[]⟩ (show AT _ ⟨[],[]⟩ [(4,.msl 0 w29 0 2 l28.length l28.length)] [.rows (l28.map zag) 2 w29 39] _ _ from RO) (W.exit (show _/\_ from ⟨rfl,w29,rfl,rfl⟩))
  ·intro e0 s0 h0 hq
   rcases r42 with er42 | qr42
   ·obtain ⟨rfl,w41,rfl,rfl⟩:=hq
    replace hm:=zdC hm
    show WK _ _ _ _ _ [(4,.msl 0 w41 0 2 er42.length er42.length)] [.rows (er42.map zag) 2 w41 39]
    refine W.sq [] [(2,.msl 0 w41 0 2 er42.length er42.length),(3,.bool true)] [.rows (er42.map zag) 2 w41 39] ?_
    obtain rfl:=Option.some.inj hm
    exact W.ret (zcB.retW [0] RO)
   ·obtain ⟨rfl,rfl,rfl⟩:=hq
    replace hm:=zdB hm
    obtain rfl:=Option.some.inj hm
    exact zcB.retW [] RO
theorem zfP{p0:ByteArray}{p1:(List Int)}{r:ByteArray}(hm:zdG p0 p1=some r):zaO Tryz.prog 28 [.str p0,.sl (p1.map (eInt .i64))] (.str r):=by
 rw [zdG] at hm
 refine zaO.of Tryz.func28 rfl Tryz.ntmps28 (Nat.le_of_ble_eq_true rfl) ?_
 have e0:argS 0 [.str p0,.sl (p1.map (eInt .i64))]=[(0,.str p0),(1,.sl (p1.map (eInt .i64)))]:=rfl
 rw [e0]
 refine W.sq [] [(0,.str p0),(1,.sl (p1.map (eInt .i64)))] [] ?_
 refine W.seq ?_
 refine W.sq [] [(0,.str p0),(7,.sl (p1.map (eInt .i64))),(8,.int .i64 (p1.length:Int)),(9,.int .i64 0)] [] ?_
 refine W.block ?_
 replace hm:=zai hm
 obtain ⟨r25,hlr25,hm⟩:=hm
 refine W.mono (Q:=fun e0 s0 h0=>e0=.exit 0/\∃w:Unit,s0=[(0,.str r25)]/\h0=[]) (W.loopM (step:=zcF p1) (a0:=(p0,0)) (fun (a:ByteArray × Int) (v:Unit)=>([(0,.str a.1),(7,.sl (p1.map (eInt .i64))),(8,.int .i64 (p1.length:Int)),(9,.int .i64 a.2)],[])) () hlr25 ⟨[],[]⟩ RO ?_) ?_
 ·rintro ⟨s16,i17⟩ _ x hm hx
  rw [zcF] at hm
  show WK _ _ _ _ _ [(0,.str s16),(7,.sl (p1.map (eInt .i64))),(8,.int .i64 (p1.length:Int)),(9,.int .i64 i17)] []
  refine W.sq [] [(0,.str s16),(7,.sl (p1.map (eInt .i64))),(8,.int .i64 (p1.length:Int)),(9,.int .i64 i17),(10,.bool (decide (i17<(p1.length:Int))))] [] ?_
  refine W.seq ?_
  refine W.cnd (decide (i17<(p1.length:Int))) (fun hb26=>?_) (fun hb26=>?_)
  ·replace hm:=zaK hb26 hm
   refine W.skip ?_
   refine W.seq ?_
   refine W.block ?_
   replace hm:=zaA hm
   obtain ⟨h27,hm⟩:=hm
   refine W.sq [] [(0,.str s16),(6,.int .i64 (rd p1 i17)),(7,.sl (p1.map (eInt .i64))),(8,.int .i64 (p1.length:Int)),(9,.int .i64 i17)] [] ?_
   replace hm:=zai hm
   obtain ⟨v28,h29,hm⟩:=hm
   replace hm:=zaA hm
   obtain ⟨h30,hm⟩:=hm
   replace hm:=zaA hm
   obtain ⟨h31,hm⟩:=hm
   have kh29:=zhg h29
   try simp only [hb26] at kh29
   refine W.rg [] [(0,.str (s16++((⟨#[32]⟩:ByteArray)++v28))),(7,.sl (p1.map (eInt .i64))),(8,.int .i64 (p1.length:Int)),(9,.int .i64 i17)] [] ?_
   refine W.rg [] [(0,.str (s16++((⟨#[32]⟩:ByteArray)++v28))),(7,.sl (p1.map (eInt .i64))),(8,.int .i64 (p1.length:Int)),(9,.int .i64 (IntKind.wrap .i64 (i17+1)))] [] ?_
   obtain rfl:=Option.some.inj hm
   exact ⟨((s16++((⟨#[32]⟩:ByteArray)++v28)),(IntKind.wrap .i64 (i17+1))),(),⟨[],[]⟩,rfl,RO⟩
  ·replace hm:=zaV hb26 hm
   obtain rfl:=Option.some.inj hm
   obtain rfl:=hx _ rfl
   exact W.weak ⟨[],[]⟩ (show AT _ ⟨[],[]⟩ [(0,.str s16)] [] _ _ from RO) (W.exit (show _/\_ from ⟨rfl,(),rfl,rfl⟩))
 ·rintro e0 s0 h0 ⟨rfl,_,rfl,rfl⟩
  show WK _ _ _ _ _ [(0,.str r25)] []
  replace hm:=zaA hm
  obtain ⟨h32,hm⟩:=hm
  refine W.sq [] [(4,.str (r25++(⟨#[10]⟩:ByteArray)))] [] ?_
  obtain rfl:=Option.some.inj hm
  exact W.ret (zcB.retW [] RO)
theorem zeI{p0:ByteArray}{p1:ByteArray}{r:ByteArray}(hm:zb9 p0 p1=some r):zaO Tryz.prog 18 [.str p0,.str p1] (.str r):=by
 rw [zb9] at hm
 refine zaO.of Tryz.func18 rfl Tryz.ntmps18 (Nat.le_of_ble_eq_true rfl) ?_
 have e0:argS 0 [.str p0,.str p1]=[(0,.str p0),(1,.str p1)]:=rfl
 rw [e0]
 refine W.sq [] [(0,.str p0),(1,.str p1)] [] ?_
 replace hm:=zai hm
 obtain ⟨v1,h2,hm⟩:=hm
 have kh2:=zhH h2
 refine W.sq [] [(0,.str p0),(1,.str p1),(5,.ptr 0 0 0),(6,.ptr 1 0 0)] [.cells (zba v1.1) 0 61,.cells (zaL v1.2) 0 64] ?_
 refine W.seq ?_
 refine W.sq [] [(0,.str p0),(1,.str p1),(5,.ptr 0 0 0),(6,.ptr 1 0 0),(32,.bool (v1.2.Code != 0))] [.cells (zba v1.1) 0 61,.cells (zaL v1.2) 0 64] ?_
 refine W.cnd (v1.2.Code != 0) (fun hb3=>?_) (fun hb3=>?_)
 ·replace hm:=zaK hb3 hm
  replace hm:=zai hm
  obtain ⟨v4,h5,hm⟩:=hm
  have kh5:=zfP h5
  try simp only [hb3] at kh5
  try simp only [List.map_cons,List.map_nil,eStr,eInt] at kh5
  refine W.sq [] [(4,.str v4)] [] ?_
  obtain rfl:=Option.some.inj hm
  exact W.ret (zcB.retW [] RO)
 ·replace hm:=zaV hb3 hm
  refine W.skip ?_
  replace hm:=zai hm
  obtain ⟨v6,h7,hm⟩:=hm
  have kh7:=zdc h7
  try simp only [hb3] at kh7
  refine W.sq [] [(0,.str p0),(5,.ptr 0 0 0),(7,.sl (v6.1.map zag)),(8,.bool v6.2)] [.cells (zba v1.1) 0 61] ?_
  refine W.seq ?_
  refine W.sq [] [(0,.str p0),(5,.ptr 0 0 0),(7,.sl (v6.1.map zag)),(47,.bool (!v6.2))] [.cells (zba v1.1) 0 61] ?_
  refine W.cnd (!v6.2) (fun hb8=>?_) (fun hb8=>?_)
  ·replace hm:=zaK hb8 hm
   replace hm:=zai hm
   obtain ⟨v9,h10,hm⟩:=hm
   refine W.sq [] [(4,.str v9)] [] ?_ (hrun:=?_)
   rotate_left
   ·try simp -implicitDefEqProofs -dsimp only [go_sem,hb3,hb8]
    with_reducible refine exP.mk (.pure ⟨[],true,[.str (⟨#[112,105,99,107,115]⟩:ByteArray),.sl (([]).map (eInt .i64))],.str v9⟩) (callQ.of (by simp -implicitDefEqProofs -dsimp only [go_sem,hb3,hb8]) (by simp -implicitDefEqProofs -dsimp only [go_sem,hb3,hb8]) (by simp -implicitDefEqProofs -dsimp only [go_sem,hb3,hb8]) (fun _=>by simp -implicitDefEqProofs -dsimp only [go_sem,hb3,hb8]) (zfP h10)) ?_
    try simp -implicitDefEqProofs -dsimp only [go_sem,hb3,hb8]
   obtain rfl:=Option.some.inj hm
   exact W.ret (zcB.retW [] RO)
  ·replace hm:=zaV hb8 hm
   refine W.skip ?_
   cases hm
theorem zdA{r:Bool}(hm:zbZ =some r):zaO Tryz.prog 10 [] (.bool r):=by
 rw [zbZ] at hm
 refine zaO.of Tryz.func10 rfl Tryz.ntmps10 (Nat.le_of_ble_eq_true rfl) ?_
 have e0:argS 0 []=[]:=rfl
 rw [e0]
 refine W.sq [] [] [] ?_
 replace hm:=zai hm
 obtain ⟨v1,h2,hm⟩:=hm
 have kh2:=zdc h2
 refine W.sq [] [(1,.sl (v1.1.map zag)),(2,.bool v1.2)] [] ?_
 replace hm:=zai hm
 obtain ⟨v3,h4,hm⟩:=hm
 have kh4:=zdc h4
 refine W.sq [] [(1,.sl (v1.1.map zag)),(2,.bool v1.2),(4,.bool v3.2)] [] ?_
 replace hm:=zai hm
 obtain ⟨v5,h6,hm⟩:=hm
 replace hm:=zai hm
 obtain ⟨v7,h8,hm⟩:=hm
 replace hm:=zai hm
 obtain ⟨v9,h10,hm⟩:=hm
 replace hm:=zai hm
 obtain ⟨v11,h12,hm⟩:=hm
 replace hm:=zaY hm
 obtain ⟨b13,h14,hm⟩:=hm
 refine W.sq [] [(0,.bool b13)] [] ?_ (hrun:=?_)
 rotate_left
 ·try simp -implicitDefEqProofs -dsimp only [go_sem,h14]
  with_reducible refine exB false ?_
  try simp -implicitDefEqProofs -dsimp only [go_sem,h14]
  with_reducible refine exP.mk _ (callQ.plain (by simp -implicitDefEqProofs -dsimp only [go_sem,h14]) (by have hk:=zdb h6; (try simp only [] at hk); (try simp only [List.map_cons,List.map_nil,eStr,eInt,zag] at hk); exact hk)) ?_
  try simp -implicitDefEqProofs -dsimp only [go_sem,h14]
  refine zcl (fun hg15=>?_) (fun hg15=>?_)
  ·try simp -implicitDefEqProofs -dsimp only [go_sem,hg15,h14]
   refine zcl (fun hg16=>?_) (fun hg16=>?_)
   ·try simp -implicitDefEqProofs -dsimp only [go_sem,hg15,hg16,h14]
    refine zdI (fun hg17=>?_) (fun hg17=>?_)
    ·try simp only [Bool.not_not] at hg17
     try simp -implicitDefEqProofs -dsimp only [go_sem,hg15,hg16,hg17,h14]
     with_reducible refine exP.mk _ (callQ.plain (by simp -implicitDefEqProofs -dsimp only [go_sem,hg15,hg16,hg17,h14]) (zdT (zaK (by simp -implicitDefEqProofs -dsimp only [go_sem,hg15,hg16,hg17,h14]) h8))) ?_
     try simp -implicitDefEqProofs -dsimp only [go_sem,hg15,hg16,hg17,h14]
     refine zcl (fun hg18=>?_) (fun hg18=>?_)
     ·try simp only [Bool.not_not] at hg18
      try simp -implicitDefEqProofs -dsimp only [go_sem,hg15,hg16,hg17,hg18,h14]
      with_reducible refine exP.mk _ (callQ.plain (by simp -implicitDefEqProofs -dsimp only [go_sem,hg15,hg16,hg17,hg18,h14]) (zeI (zaK (by simp -implicitDefEqProofs -dsimp only [go_sem,hg15,hg16,hg17,hg18,h14]) h10))) ?_
      try simp -implicitDefEqProofs -dsimp only [go_sem,hg15,hg16,hg17,hg18,h14]
      refine zcl (fun hg19=>?_) (fun hg19=>?_)
      ·try simp only [Bool.not_not] at hg19
       try simp -implicitDefEqProofs -dsimp only [go_sem,hg15,hg16,hg17,hg18,hg19,h14]
       with_reducible refine exP.mk _ (callQ.plain (by simp -implicitDefEqProofs -dsimp only [go_sem,hg15,hg16,hg17,hg18,hg19,h14]) (zeI (zaK (by simp -implicitDefEqProofs -dsimp only [go_sem,hg15,hg16,hg17,hg18,hg19,h14]) h12))) ?_
       try simp -implicitDefEqProofs -dsimp only [go_sem,hg15,hg16,hg17,hg18,hg19,h14]
      ·try simp only [Bool.not_not] at hg19
       try simp -implicitDefEqProofs -dsimp only [go_sem,hg15,hg16,hg17,hg18,hg19,h14]
     ·try simp only [Bool.not_not] at hg18
      try simp -implicitDefEqProofs -dsimp only [go_sem,hg15,hg16,hg17,hg18,h14]
    ·try simp only [Bool.not_not] at hg17
     try simp -implicitDefEqProofs -dsimp only [go_sem,hg15,hg16,hg17,h14]
   ·try simp -implicitDefEqProofs -dsimp only [go_sem,hg15,hg16,h14]
  ·try simp -implicitDefEqProofs -dsimp only [go_sem,hg15,h14]
 clear h14
 obtain rfl:=Option.some.inj hm
 exact W.ret (zcB.retW [] RO)
theorem zdx{p0:(List zan)}{r:Bool}(hm:zbz p0=some r):zaO Tryz.prog 4 [.sl (p0.map zag)] (.bool r):=by
 rw [zbz] at hm
 refine zaO.of Tryz.func4 rfl Tryz.ntmps4 (Nat.le_of_ble_eq_true rfl) ?_
 have e0:argS 0 [.sl (p0.map zag)]=[(0,.sl (p0.map zag))]:=rfl
 rw [e0]
 refine W.sq [] [(0,.sl (p0.map zag))] [] ?_
 refine W.seq ?_
 refine W.sq [] [(0,.sl (p0.map zag)),(8,.bool (decide ((p0.length:Int)>40)))] [] ?_
 refine W.cnd (decide ((p0.length:Int)>40)) (fun hb1=>?_) (fun hb1=>?_)
 ·replace hm:=zaK hb1 hm
  replace hm:=zai hm
  obtain ⟨v2,h3,hm⟩:=hm
  have kh3:=zdA h3
  try simp only [hb1] at kh3
  refine W.sq [] [(2,.bool v2)] [] ?_
  obtain rfl:=Option.some.inj hm
  exact W.ret (zcB.retW [] RO)
 ·replace hm:=zaV hb1 hm
  refine W.skip ?_
  replace hm:=zai hm
  obtain ⟨v4,h5,hm⟩:=hm
  have kh5:=zdT h5
  try simp only [hb1] at kh5
  refine W.sq [] [(0,.sl (p0.map zag)),(3,.str v4)] [] ?_
  replace hm:=zai hm
  obtain ⟨v6,h7,hm⟩:=hm
  have kh7:=zdc h7
  try simp only [hb1] at kh7
  refine W.sq [] [(0,.sl (p0.map zag)),(3,.str v4),(4,.sl (v6.1.map zag)),(5,.bool v6.2)] [] ?_
  replace hm:=zai hm
  obtain ⟨v8,h9,hm⟩:=hm
  replace hm:=zai hm
  obtain ⟨v10,h11,hm⟩:=hm
  replace hm:=zai hm
  obtain ⟨v12,h13,hm⟩:=hm
  have kh9:=zev h9
  try simp only [hb1] at kh9
  have kh11:=fun hg=>zdb (zaK hg h11)
  try simp only [hb1] at kh11
  have kh13:=fun hg=>zdA (zaK hg h13)
  try simp only [hb1] at kh13
  refine W.sq [] [(2,.bool (((decide (v4=v8)&&v6.2)&&v10)&&v12))] [] ?_
  obtain rfl:=Option.some.inj hm
  exact W.ret (zcB.retW [] RO)
end Go.Proofs.YtkgpofmbegonfaaGreatDoor
