import Derived.Test.YtkgpofmbegonfaaGreatDoorVFacts
import Derived.Test.YtkgpofmbegonfaaGreatDoorPalPk
import Derived.Test.YtkgpofmbegonfaaGreatDoorWJ
import Derived.Test.YtkgpofmbegonfaaGreatDoorWStr
import Derived.Test.YtkgpofmbegonfaaGreatDoorWJn
set_option linter.all false
set_option maxRecDepth 100000
set_option maxHeartbeats 4000000
namespace Go.Proofs.YtkgpofmbegonfaaGreatDoor
open Go.Vs
variable [TabS]
theorem zfn{p0:ByteArray}{r:(List zaj) × Bool}(hm:zca p0=some r):zaF Tryz.prog 7 [.str p0] (.tuple [.sl (r.1.map zah),.bool r.2]):=by
 rw [zca] at hm
 refine zaF.of Tryz.func7 rfl Tryz.ntmps7 (Nat.le_of_ble_eq_true rfl) ?_
 have e0:argS 0 [.str p0]=[(0,.str p0)]:=rfl
 rw [e0]
 refine W.sq [] [(0,.str p0)] [] ?_
 refine W.seq ?_
 refine W.sq [] [(0,.str p0),(12,.bool (decide (p0=(⟨#[]⟩:ByteArray))))] [] ?_
 refine W.cnd (decide (p0=(⟨#[]⟩:ByteArray))) (fun hb1=>?_) (fun hb1=>?_)
 ·replace hm:=zaB hb1 hm
  refine W.sq [] [(2,.nils),(3,.bool true)] [] ?_
  obtain rfl:=Option.some.inj hm
  exact W.ret (zcj.retW [] RO)
 ·replace hm:=zaI hb1 hm
  refine W.skip ?_
  refine W.sq [] [(0,.str p0),(4,.nils)] [] ?_
  refine W.sq [] [(0,.str p0),(4,.nils),(5,.int .i64 0)] [] ?_
  refine W.seq ?_
  refine W.sq [] [(0,.str p0),(4,.nils),(5,.int .i64 0),(6,.int .i64 0)] [] ?_
  refine W.block ?_
  replace hm:=zag hm
  obtain ⟨r78,hlr78,hm⟩:=hm
  refine W.mono (Q:=fun e0 s0 h0=>match r78 with | .inl e=>e0=.exit 0/\∃w:Nat,s0=[(4,.msl 1 w 0 2 e.length e.length)]/\h0=[.dead,.rows (e.map zah) 2 w 39] | .inr q=>e0=.ret/\s0=[(2,.sl (q.1.map zah)),(3,.bool q.2)]/\h0=[]) (W.loopM (step:=zaJ p0) (a0:=(0,0,[])) (fun (a:Int × Int × (List zaj)) (v:Nat)=>([(0,.str p0),(4,.msl 1 v 0 2 a.2.2.length a.2.2.length),(5,.int .i64 a.1),(6,.int .i64 a.2.1)],[.dead,.rows (a.2.2.map zah) 2 v 39])) 0 hlr78 ⟨[],[]⟩ RO ?_) ?_
  ·rintro ⟨i50,i51,l52⟩ w53 x hm hx
   rw [zaJ] at hm
   show WK _ _ _ _ _ [(0,.str p0),(4,.msl 1 w53 0 2 l52.length l52.length),(5,.int .i64 i50),(6,.int .i64 i51)] [.dead,.rows (l52.map zah) 2 w53 39]
   refine W.seq ?_
   refine W.sq [] [(0,.str p0),(4,.msl 1 w53 0 2 l52.length l52.length),(5,.int .i64 i50),(6,.int .i64 i51),(16,.bool (decide (i51<=(p0.size:Int))))] [.dead,.rows (l52.map zah) 2 w53 39] ?_
   refine W.cnd (decide (i51<=(p0.size:Int))) (fun hb79=>?_) (fun hb79=>?_)
   ·replace hm:=zaB hb79 hm
    refine W.skip ?_
    refine W.cut (fun s h=>∃(v:Int × (List zaj)) (w:Nat) (F:Gs),zbm i51 v.1 v.2=some x/\AT 0 F [(0,.str p0),(4,.msl 1 w 0 2 v.2.length v.2.length),(5,.int .i64 v.1),(6,.int .i64 i51)] [.dead,.rows (v.2.map zah) 2 w 39] s h) ?_ ?_
    ·refine W.block ?_
     refine W.seq ?_
     replace hm:=zau hm
     obtain ⟨h83,hm⟩:=hm
     refine W.sq [] [(0,.str p0),(4,.msl 1 w53 0 2 l52.length l52.length),(5,.int .i64 i50),(6,.int .i64 i51),(28,.bool (decide (i51<(p0.size:Int))&&((bt p0 i51) != 32)))] [.dead,.rows (l52.map zah) 2 w53 39] ?_
     refine W.cnd (decide (i51<(p0.size:Int))&&((bt p0 i51) != 32)) (fun hb84=>?_) (fun hb84=>?_)
     ·replace hm:=zaB hb84 hm
      refine W.exit ?_
      exact ⟨(i50,l52),w53,⟨[],[]⟩,hm,RO⟩
     ·replace hm:=zaI hb84 hm
      refine W.skip ?_
      replace hm:=zau hm
      obtain ⟨h85,hm⟩:=hm
      replace hm:=zau hm
      obtain ⟨h86,hm⟩:=hm
      refine W.sq [] [(0,.str p0),(4,.msl 1 w53 0 2 l52.length l52.length),(6,.int .i64 i51),(7,.str (p0.extract i50.toNat i51.toNat))] [.dead,.rows (l52.map zah) 2 w53 39] ?_
      refine W.sq [] [(0,.str p0),(4,.msl 1 w53 0 2 l52.length l52.length),(5,.int .i64 (IntKind.wrap .i64 (i51+1))),(6,.int .i64 i51),(7,.str (p0.extract i50.toNat i51.toNat))] [.dead,.rows (l52.map zah) 2 w53 39] ?_
      replace hm:=zau hm
      obtain ⟨h87,hm⟩:=hm
      replace hm:=zaN hm
      obtain ⟨b88,h89,hm⟩:=hm
      refine W.sq [] [(0,.str p0),(4,.msl 1 w53 0 2 l52.length l52.length),(5,.int .i64 (IntKind.wrap .i64 (i51+1))),(6,.int .i64 i51),(7,.str (p0.extract i50.toNat i51.toNat)),(8,.ptr 2 0 0)] [.dead,.rows (l52.map zah) 2 w53 39,.cells [.int .i64 0,.bool b88] 0 39] ?_
      clear h89
      refine W.cut (fun s h=>∃(v:ByteArray) (w:Unit) (F:Gs),zbl l52 b88 i51 v=some x/\AT 0 F [(0,.str p0),(4,.msl 1 w53 0 2 l52.length l52.length),(5,.int .i64 (IntKind.wrap .i64 (i51+1))),(6,.int .i64 i51),(7,.str v),(8,.ptr 2 0 0)] [.dead,.rows (l52.map zah) 2 w53 39,.cells [.int .i64 0,.bool b88] 0 39] s h) ?_ ?_
      ·refine W.sq [] [(0,.str p0),(4,.msl 1 w53 0 2 l52.length l52.length),(5,.int .i64 (IntKind.wrap .i64 (i51+1))),(6,.int .i64 i51),(7,.str (p0.extract i50.toNat i51.toNat)),(8,.ptr 2 0 0),(48,.bool b88)] [.dead,.rows (l52.map zah) 2 w53 39,.cells [.int .i64 0,.bool b88] 0 39] ?_
       refine W.cnd b88 (fun hb97=>?_) (fun hb97=>?_)
       ·replace hm:=zaB hb97 hm
        replace hm:=zau hm
        obtain ⟨h98,hm⟩:=hm
        replace hm:=zaN hm
        obtain ⟨s99,h100,hm⟩:=hm
        refine W.rg [] [(0,.str p0),(4,.msl 1 w53 0 2 l52.length l52.length),(5,.int .i64 (IntKind.wrap .i64 (i51+1))),(6,.int .i64 i51),(7,.str s99),(8,.ptr 2 0 0)] [.dead,.rows (l52.map zah) 2 w53 39,.cells [.int .i64 0,.bool b88] 0 39] ?_
        clear h100
        exact ⟨s99,(),⟨[],[]⟩,hm,RO⟩
       ·replace hm:=zaI hb97 hm
        refine W.skip ?_
        exact ⟨(p0.extract i50.toNat i51.toNat),(),⟨[],[]⟩,hm,RO⟩
      ·rintro s h ⟨s90,_,F,hm,hat⟩
       refine W.weak F hat ?_
       show WK _ _ _ _ _ [(0,.str p0),(4,.msl 1 w53 0 2 l52.length l52.length),(5,.int .i64 (IntKind.wrap .i64 (i51+1))),(6,.int .i64 i51),(7,.str s90),(8,.ptr 2 0 0)] [.dead,.rows (l52.map zah) 2 w53 39,.cells [.int .i64 0,.bool b88] 0 39]
       rw [zbl] at hm
       replace hm:=zag hm
       obtain ⟨v91,h92,hm⟩:=hm
       have kh92:=zfG h92
       try simp only [hb1,hb79,hb84] at kh92
       refine W.sq [] [(0,.str p0),(4,.msl 1 w53 0 2 l52.length l52.length),(5,.int .i64 (IntKind.wrap .i64 (i51+1))),(6,.int .i64 i51),(8,.ptr 2 0 0),(9,.int .i64 v91.1),(10,.bool v91.2)] [.dead,.rows (l52.map zah) 2 w53 39,.cells [.int .i64 0,.bool b88] 0 39] ?_
       refine W.seq ?_
       refine W.sq [] [(0,.str p0),(4,.msl 1 w53 0 2 l52.length l52.length),(5,.int .i64 (IntKind.wrap .i64 (i51+1))),(6,.int .i64 i51),(8,.ptr 2 0 0),(9,.int .i64 v91.1),(60,.bool (!v91.2))] [.dead,.rows (l52.map zah) 2 w53 39,.cells [.int .i64 0,.bool b88] 0 39] ?_
       refine W.cnd (!v91.2) (fun hb93=>?_) (fun hb93=>?_)
       ·replace hm:=zaB hb93 hm
        refine W.sq [] [(2,.nils),(3,.bool false)] [] ?_
        obtain rfl:=Option.some.inj hm
        obtain rfl:=hx _ rfl
        exact W.weak ⟨[],[]⟩ (show AT _ ⟨[],[]⟩ [(2,.sl (([]).map zah)),(3,.bool false)] [] _ _ from RO) (W.ret (show _/\_ from ⟨rfl,rfl,rfl⟩))
       ·replace hm:=zaI hb93 hm
        refine W.skip ?_
        refine W.sq [] [(0,.str p0),(4,.msl 1 w53 0 2 l52.length l52.length),(5,.int .i64 (IntKind.wrap .i64 (i51+1))),(6,.int .i64 i51),(8,.ptr 2 0 0)] [.dead,.rows (l52.map zah) 2 w53 39,.cells [.int .i64 v91.1,.bool b88] 0 39] ?_
        replace hm:=zau hm
        obtain ⟨h94,hm⟩:=hm
        replace hm:=zaN hm
        obtain ⟨l95,h96,hm⟩:=hm
        refine W.rg [] [(0,.str p0),(4,.msl 1 (w53+1) 0 2 l95.length l95.length),(5,.int .i64 (IntKind.wrap .i64 (i51+1))),(6,.int .i64 i51)] [.dead,.rows (l95.map zah) 2 (w53+1) 39] ?_
        clear h96
        exact ⟨((IntKind.wrap .i64 (i51+1)),l95),(w53+1),⟨[],[]⟩,hm,RO⟩
    ·rintro s h ⟨⟨i80,l81⟩,w82,F,hm,hat⟩
     refine W.weak F hat ?_
     show WK _ _ _ _ _ [(0,.str p0),(4,.msl 1 w82 0 2 l81.length l81.length),(5,.int .i64 i80),(6,.int .i64 i51)] [.dead,.rows (l81.map zah) 2 w82 39]
     rw [zbm] at hm
     refine W.rg [] [(0,.str p0),(4,.msl 1 w82 0 2 l81.length l81.length),(5,.int .i64 i80),(6,.int .i64 (IntKind.wrap .i64 (i51+1)))] [.dead,.rows (l81.map zah) 2 w82 39] ?_
     obtain rfl:=Option.some.inj hm
     exact ⟨(i80,(IntKind.wrap .i64 (i51+1)),l81),w82,⟨[],[]⟩,rfl,RO⟩
   ·replace hm:=zaI hb79 hm
    obtain rfl:=Option.some.inj hm
    obtain rfl:=hx _ rfl
    exact W.weak ⟨[],[]⟩ (show AT _ ⟨[],[]⟩ [(4,.msl 1 w53 0 2 l52.length l52.length)] [.dead,.rows (l52.map zah) 2 w53 39] _ _ from RO) (W.exit (show _/\_ from ⟨rfl,w53,rfl,rfl⟩))
  ·intro e0 s0 h0 hq
   rcases r78 with er78 | qr78
   ·obtain ⟨rfl,w77,rfl,rfl⟩:=hq
    replace hm:=zc9 hm
    show WK _ _ _ _ _ [(4,.msl 1 w77 0 2 er78.length er78.length)] [.dead,.rows (er78.map zah) 2 w77 39]
    refine W.sq [] [(2,.msl 1 w77 0 2 er78.length er78.length),(3,.bool true)] [.dead,.rows (er78.map zah) 2 w77 39] ?_
    obtain rfl:=Option.some.inj hm
    exact W.ret (zcj.retW [1] RO)
   ·obtain ⟨rfl,rfl,rfl⟩:=hq
    replace hm:=zc8 hm
    obtain rfl:=Option.some.inj hm
    exact zcj.retW [] RO
theorem zcX{p0:(List zaj)}{p1:(List zaj)}{r:Bool}(hm:zbc p0 p1=some r):zaF Tryz.prog 8 [.sl (p0.map zah),.sl (p1.map zah)] (.bool r):=by
 rw [zbc] at hm
 refine zaF.of Tryz.func8 rfl Tryz.ntmps8 (Nat.le_of_ble_eq_true rfl) ?_
 have e0:argS 0 [.sl (p0.map zah),.sl (p1.map zah)]=[(0,.sl (p0.map zah)),(1,.sl (p1.map zah))]:=rfl
 rw [e0]
 refine W.sq [] [(0,.sl (p0.map zah)),(1,.sl (p1.map zah))] [] ?_
 refine W.seq ?_
 refine W.sq [] [(0,.sl (p0.map zah)),(1,.sl (p1.map zah)),(10,.bool ((p0.length:Int) != (p1.length:Int)))] [] ?_
 refine W.cnd ((p0.length:Int) != (p1.length:Int)) (fun hb1=>?_) (fun hb1=>?_)
 ·replace hm:=zaB hb1 hm
  refine W.sq [] [(4,.bool false)] [] ?_
  obtain rfl:=Option.some.inj hm
  exact W.ret (zcj.retW [] RO)
 ·replace hm:=zaI hb1 hm
  refine W.skip ?_
  refine W.seq ?_
  refine W.sq [] [(0,.sl (p0.map zah)),(1,.sl (p1.map zah)),(5,.int .i64 0)] [] ?_
  refine W.block ?_
  replace hm:=zag hm
  obtain ⟨r18,hlr18,hm⟩:=hm
  refine W.mono (Q:=fun e0 s0 h0=>match r18 with | .inl e=>e0=.exit 0/\∃w:Unit,s0=[]/\h0=[] | .inr q=>e0=.ret/\s0=[(4,.bool q)]/\h0=[]) (W.loopM (step:=zaW p0 p1) (a0:=0) (fun (a:Int) (v:Unit)=>([(0,.sl (p0.map zah)),(1,.sl (p1.map zah)),(5,.int .i64 a)],[])) () hlr18 ⟨[],[]⟩ RO ?_) ?_
  ·rintro i11 _ x hm hx
   rw [zaW] at hm
   show WK _ _ _ _ _ [(0,.sl (p0.map zah)),(1,.sl (p1.map zah)),(5,.int .i64 i11)] []
   refine W.seq ?_
   refine W.sq [] [(0,.sl (p0.map zah)),(1,.sl (p1.map zah)),(5,.int .i64 i11),(14,.bool (decide (i11<(p0.length:Int))))] [] ?_
   refine W.cnd (decide (i11<(p0.length:Int))) (fun hb19=>?_) (fun hb19=>?_)
   ·replace hm:=zaB hb19 hm
    refine W.skip ?_
    refine W.seq ?_
    refine W.block ?_
    replace hm:=zau hm
    obtain ⟨h20,hm⟩:=hm
    replace hm:=zau hm
    obtain ⟨h21,hm⟩:=hm
    replace hm:=zaN hm
    obtain ⟨b22,h23,hm⟩:=hm
    refine W.sqJ [] [] [] 0 [] [(0,.sl (p0.map zah)),(1,.sl (p1.map zah)),(5,.int .i64 i11),(25,.bool b22)] [] zaG ?_
    clear h23
    refine W.cnd b22 (fun hb24=>?_) (fun hb24=>?_)
    ·replace hm:=zaB hb24 hm
     refine W.sq [] [(4,.bool false)] [] ?_
     obtain rfl:=Option.some.inj hm
     obtain rfl:=hx _ rfl
     exact W.weak ⟨[],[]⟩ (show AT _ ⟨[],[]⟩ [(4,.bool false)] [] _ _ from RO) (W.ret (show _/\_ from ⟨rfl,rfl,rfl⟩))
    ·replace hm:=zaI hb24 hm
     refine W.skip ?_
     refine W.rg [] [(0,.sl (p0.map zah)),(1,.sl (p1.map zah)),(5,.int .i64 (IntKind.wrap .i64 (i11+1)))] [] ?_
     obtain rfl:=Option.some.inj hm
     exact ⟨(IntKind.wrap .i64 (i11+1)),(),⟨[],[]⟩,rfl,RO⟩
   ·replace hm:=zaI hb19 hm
    obtain rfl:=Option.some.inj hm
    obtain rfl:=hx _ rfl
    exact W.weak ⟨[],[]⟩ (show AT _ ⟨[],[]⟩ [] [] _ _ from RO) (W.exit (show _/\_ from ⟨rfl,(),rfl,rfl⟩))
  ·intro e0 s0 h0 hq
   rcases r18 with er18 | qr18
   ·obtain ⟨rfl,_,rfl,rfl⟩:=hq
    replace hm:=zc9 hm
    show WK _ _ _ _ _ [] []
    refine W.sq [] [(4,.bool true)] [] ?_
    obtain rfl:=Option.some.inj hm
    exact W.ret (zcj.retW [] RO)
   ·obtain ⟨rfl,rfl,rfl⟩:=hq
    replace hm:=zc8 hm
    obtain rfl:=Option.some.inj hm
    exact zcj.retW [] RO
theorem zdH{p0:(List zaj)}{r:ByteArray}(hm:zbx p0=some r):zaF Tryz.prog 9 [.sl (p0.map zah)] (.str r):=by
 rw [zbx] at hm
 refine zaF.of Tryz.func9 rfl Tryz.ntmps9 (Nat.le_of_ble_eq_true rfl) ?_
 have e0:argS 0 [.sl (p0.map zah)]=[(0,.sl (p0.map zah))]:=rfl
 rw [e0]
 refine W.sq [] [(0,.sl (p0.map zah))] [] ?_
 refine W.sq [] [(0,.sl (p0.map zah)),(3,.nils)] [] ?_
 refine W.seq ?_
 refine W.sq [] [(3,.nils),(7,.sl (p0.map zah)),(8,.int .i64 (p0.length:Int)),(9,.int .i64 0)] [] ?_
 refine W.block ?_
 replace hm:=zag hm
 obtain ⟨r39,hlr39,hm⟩:=hm
 refine W.mono (Q:=fun e0 s0 h0=>e0=.exit 0/\∃w:Nat,s0=[(3,.msl 0 w 0 1 r39.length r39.length)]/\h0=[.rows (r39.map eStr) 1 w 9]) (W.loopM (step:=zbn p0) (a0:=(0,[])) (fun (a:Int × (List ByteArray)) (v:Nat)=>([(3,.msl 0 v 0 1 a.2.length a.2.length),(7,.sl (p0.map zah)),(8,.int .i64 (p0.length:Int)),(9,.int .i64 a.1)],[.rows (a.2.map eStr) 1 v 9])) 0 hlr39 ⟨[],[]⟩ RO ?_) ?_
 ·rintro ⟨i24,l25⟩ w26 x hm hx
  rw [zbn] at hm
  show WK _ _ _ _ _ [(3,.msl 0 w26 0 1 l25.length l25.length),(7,.sl (p0.map zah)),(8,.int .i64 (p0.length:Int)),(9,.int .i64 i24)] [.rows (l25.map eStr) 1 w26 9]
  refine W.sq [] [(3,.msl 0 w26 0 1 l25.length l25.length),(7,.sl (p0.map zah)),(8,.int .i64 (p0.length:Int)),(9,.int .i64 i24),(10,.bool (decide (i24<(p0.length:Int))))] [.rows (l25.map eStr) 1 w26 9] ?_
  refine W.seq ?_
  refine W.cnd (decide (i24<(p0.length:Int))) (fun hb40=>?_) (fun hb40=>?_)
  ·replace hm:=zaB hb40 hm
   refine W.skip ?_
   refine W.seq ?_
   refine W.block ?_
   replace hm:=zau hm
   obtain ⟨h41,hm⟩:=hm
   refine W.sq [] [(3,.msl 0 w26 0 1 l25.length l25.length),(5,.ptr 1 0 0),(7,.sl (p0.map zah)),(8,.int .i64 (p0.length:Int)),(9,.int .i64 i24)] [.rows (l25.map eStr) 1 w26 9,.cells (zah (rd p0 i24)) 0 39] ?_
   replace hm:=zag hm
   obtain ⟨v42,h43,hm⟩:=hm
   have kh43:=zg5 h43
   try simp only [hb40] at kh43
   refine W.sq [] [(3,.msl 0 w26 0 1 l25.length l25.length),(5,.ptr 1 0 0),(6,.str v42),(7,.sl (p0.map zah)),(8,.int .i64 (p0.length:Int)),(9,.int .i64 i24)] [.rows (l25.map eStr) 1 w26 9,.cells (zah (rd p0 i24)) 0 39] ?_
   refine W.cut (fun s h=>∃(v:ByteArray) (w:Unit) (F:Gs),zbN l25 i24 v=some x/\AT 0 F [(3,.msl 0 w26 0 1 l25.length l25.length),(6,.str v),(7,.sl (p0.map zah)),(8,.int .i64 (p0.length:Int)),(9,.int .i64 i24)] [.rows (l25.map eStr) 1 w26 9] s h) ?_ ?_
   ·refine W.sq [] [(3,.msl 0 w26 0 1 l25.length l25.length),(6,.str v42),(7,.sl (p0.map zah)),(8,.int .i64 (p0.length:Int)),(9,.int .i64 i24),(17,.bool ((rd p0 i24).Flush))] [.rows (l25.map eStr) 1 w26 9] ?_
    refine W.cnd ((rd p0 i24).Flush) (fun hb48=>?_) (fun hb48=>?_)
    ·replace hm:=zaB hb48 hm
     replace hm:=zau hm
     obtain ⟨h49,hm⟩:=hm
     refine W.rg [] [(3,.msl 0 w26 0 1 l25.length l25.length),(6,.str (v42++(⟨#[102]⟩:ByteArray))),(7,.sl (p0.map zah)),(8,.int .i64 (p0.length:Int)),(9,.int .i64 i24)] [.rows (l25.map eStr) 1 w26 9] ?_
     exact ⟨(v42++(⟨#[102]⟩:ByteArray)),(),⟨[],[]⟩,hm,RO⟩
    ·replace hm:=zaI hb48 hm
     refine W.skip ?_
     exact ⟨v42,(),⟨[],[]⟩,hm,RO⟩
   ·rintro s h ⟨s44,_,F,hm,hat⟩
    refine W.weak F hat ?_
    show WK _ _ _ _ _ [(3,.msl 0 w26 0 1 l25.length l25.length),(6,.str s44),(7,.sl (p0.map zah)),(8,.int .i64 (p0.length:Int)),(9,.int .i64 i24)] [.rows (l25.map eStr) 1 w26 9]
    rw [zbN] at hm
    replace hm:=zau hm
    obtain ⟨h45,hm⟩:=hm
    replace hm:=zaN hm
    obtain ⟨l46,h47,hm⟩:=hm
    refine W.rg [] [(3,.msl 0 (w26+1) 0 1 l46.length l46.length),(7,.sl (p0.map zah)),(8,.int .i64 (p0.length:Int)),(9,.int .i64 i24)] [.rows (l46.map eStr) 1 (w26+1) 9] ?_
    clear h47
    refine W.rg [] [(3,.msl 0 (w26+1) 0 1 l46.length l46.length),(7,.sl (p0.map zah)),(8,.int .i64 (p0.length:Int)),(9,.int .i64 (IntKind.wrap .i64 (i24+1)))] [.rows (l46.map eStr) 1 (w26+1) 9] ?_
    obtain rfl:=Option.some.inj hm
    exact ⟨((IntKind.wrap .i64 (i24+1)),l46),(w26+1),⟨[],[]⟩,rfl,RO⟩
  ·replace hm:=zaI hb40 hm
   obtain rfl:=Option.some.inj hm
   obtain rfl:=hx _ rfl
   exact W.weak ⟨[],[]⟩ (show AT _ ⟨[],[]⟩ [(3,.msl 0 w26 0 1 l25.length l25.length)] [.rows (l25.map eStr) 1 w26 9] _ _ from RO) (W.exit (show _/\_ from ⟨rfl,w26,rfl,rfl⟩))
 ·rintro e0 s0 h0 ⟨rfl,w38,rfl,rfl⟩
  show WK _ _ _ _ _ [(3,.msl 0 w38 0 1 r39.length r39.length)] [.rows (r39.map eStr) 1 w38 9]
  replace hm:=zag hm
  obtain ⟨v50,h51,hm⟩:=hm
  refine W.sq [] [(2,.str v50)] [] ?_ (hrun:=?_)
  rotate_left
  ·try simp -implicitDefEqProofs -dsimp only [go_sem]
   with_reducible refine exP.mk (.pure ⟨[0],true,[.sl (r39.map eStr),.str (⟨#[32]⟩:ByteArray)],.str v50⟩) (callQ.of (by simp -implicitDefEqProofs -dsimp only [go_sem]) (by simp -implicitDefEqProofs -dsimp only [go_sem]) (by simp -implicitDefEqProofs -dsimp only [go_sem]) (fun _=>by simp -implicitDefEqProofs -dsimp only [go_sem]) (zgQ h51)) ?_
   try simp -implicitDefEqProofs -dsimp only [go_sem]
  obtain rfl:=Option.some.inj hm
  exact W.ret (zcj.retW [] RO)
theorem zcY{p0:ByteArray}{r:(List zaj) × Bool}(hm:zbD p0=some r):zaF Tryz.prog 6 [.str p0] (.tuple [.sl (r.1.map zah),.bool r.2]):=by
 rw [zbD] at hm
 refine zaF.of Tryz.func6 rfl Tryz.ntmps6 (Nat.le_of_ble_eq_true rfl) ?_
 have e0:argS 0 [.str p0]=[(0,.str p0)]:=rfl
 rw [e0]
 refine W.sq [] [(0,.str p0)] [] ?_
 refine W.seq ?_
 refine W.sq [] [(0,.str p0),(12,.bool (decide (p0=(⟨#[]⟩:ByteArray))))] [] ?_
 refine W.cnd (decide (p0=(⟨#[]⟩:ByteArray))) (fun hb1=>?_) (fun hb1=>?_)
 ·replace hm:=zaB hb1 hm
  refine W.sq [] [(2,.nils),(3,.bool true)] [] ?_
  obtain rfl:=Option.some.inj hm
  exact W.ret (zcj.retW [] RO)
 ·replace hm:=zaI hb1 hm
  refine W.skip ?_
  refine W.sq [] [(0,.str p0),(4,.nils)] [] ?_
  refine W.seq ?_
  replace hm:=zag hm
  obtain ⟨v2,h3,hm⟩:=hm
  have kh3:=zgt h3
  try simp only [hb1] at kh3
  refine W.sq [] [(4,.nils),(14,.sl (v2.map eStr)),(15,.int .i64 (v2.length:Int)),(16,.int .i64 0)] [] ?_
  refine W.block ?_
  replace hm:=zag hm
  obtain ⟨r42,hlr42,hm⟩:=hm
  refine W.mono (Q:=fun e0 s0 h0=>match r42 with | .inl e=>e0=.exit 0/\∃w:Nat,s0=[(4,.msl 0 w 0 2 e.length e.length)]/\h0=[.rows (e.map zah) 2 w 39] | .inr q=>e0=.ret/\s0=[(2,.sl (q.1.map zah)),(3,.bool q.2)]/\h0=[]) (W.loopM (step:=zbM v2) (a0:=(0,[])) (fun (a:Int × (List zaj)) (v:Nat)=>([(4,.msl 0 v 0 2 a.2.length a.2.length),(14,.sl (v2.map eStr)),(15,.int .i64 (v2.length:Int)),(16,.int .i64 a.1)],[.rows (a.2.map zah) 2 v 39])) 0 hlr42 ⟨[],[]⟩ RO ?_) ?_
  ·rintro ⟨i27,l28⟩ w29 x hm hx
   rw [zbM] at hm
   show WK _ _ _ _ _ [(4,.msl 0 w29 0 2 l28.length l28.length),(14,.sl (v2.map eStr)),(15,.int .i64 (v2.length:Int)),(16,.int .i64 i27)] [.rows (l28.map zah) 2 w29 39]
   refine W.sq [] [(4,.msl 0 w29 0 2 l28.length l28.length),(14,.sl (v2.map eStr)),(15,.int .i64 (v2.length:Int)),(16,.int .i64 i27),(17,.bool (decide (i27<(v2.length:Int))))] [.rows (l28.map zah) 2 w29 39] ?_
   refine W.seq ?_
   refine W.cnd (decide (i27<(v2.length:Int))) (fun hb43=>?_) (fun hb43=>?_)
   ·replace hm:=zaB hb43 hm
    refine W.skip ?_
    refine W.seq ?_
    refine W.block ?_
    replace hm:=zau hm
    obtain ⟨h44,hm⟩:=hm
    refine W.sq [] [(4,.msl 0 w29 0 2 l28.length l28.length),(6,.str (rd v2 i27)),(14,.sl (v2.map eStr)),(15,.int .i64 (v2.length:Int)),(16,.int .i64 i27)] [.rows (l28.map zah) 2 w29 39] ?_
    replace hm:=zag hm
    obtain ⟨v45,h46,hm⟩:=hm
    have kh46:=ze2 h46
    try simp only [hb1,hb43] at kh46
    refine W.sq [] [(4,.msl 0 w29 0 2 l28.length l28.length),(7,.str v45.1),(8,.bool v45.2),(14,.sl (v2.map eStr)),(15,.int .i64 (v2.length:Int)),(16,.int .i64 i27)] [.rows (l28.map zah) 2 w29 39] ?_
    replace hm:=zag hm
    obtain ⟨v47,h48,hm⟩:=hm
    have kh48:=zco h48
    try simp only [hb1,hb43] at kh48
    refine W.sq [] [(4,.msl 0 w29 0 2 l28.length l28.length),(8,.bool v45.2),(9,.int .i64 v47.1),(10,.bool v47.2),(14,.sl (v2.map eStr)),(15,.int .i64 (v2.length:Int)),(16,.int .i64 i27)] [.rows (l28.map zah) 2 w29 39] ?_
    refine W.seq ?_
    refine W.sq [] [(4,.msl 0 w29 0 2 l28.length l28.length),(8,.bool v45.2),(9,.int .i64 v47.1),(14,.sl (v2.map eStr)),(15,.int .i64 (v2.length:Int)),(16,.int .i64 i27),(31,.bool (!v47.2))] [.rows (l28.map zah) 2 w29 39] ?_
    refine W.cnd (!v47.2) (fun hb49=>?_) (fun hb49=>?_)
    ·replace hm:=zaB hb49 hm
     refine W.sq [] [(2,.nils),(3,.bool false)] [] ?_
     obtain rfl:=Option.some.inj hm
     obtain rfl:=hx _ rfl
     exact W.weak ⟨[],[]⟩ (show AT _ ⟨[],[]⟩ [(2,.sl (([]).map zah)),(3,.bool false)] [] _ _ from RO) (W.ret (show _/\_ from ⟨rfl,rfl,rfl⟩))
    ·replace hm:=zaI hb49 hm
     refine W.skip ?_
     replace hm:=zau hm
     obtain ⟨h50,hm⟩:=hm
     replace hm:=zaN hm
     obtain ⟨l51,h52,hm⟩:=hm
     refine W.rg [] [(4,.msl 0 (w29+1) 0 2 l51.length l51.length),(14,.sl (v2.map eStr)),(15,.int .i64 (v2.length:Int)),(16,.int .i64 i27)] [.rows (l51.map zah) 2 (w29+1) 39] ?_
     clear h52
     refine W.rg [] [(4,.msl 0 (w29+1) 0 2 l51.length l51.length),(14,.sl (v2.map eStr)),(15,.int .i64 (v2.length:Int)),(16,.int .i64 (IntKind.wrap .i64 (i27+1)))] [.rows (l51.map zah) 2 (w29+1) 39] ?_
     obtain rfl:=Option.some.inj hm
     exact ⟨((IntKind.wrap .i64 (i27+1)),l51),(w29+1),⟨[],[]⟩,rfl,RO⟩
   ·replace hm:=zaI hb43 hm
    obtain rfl:=Option.some.inj hm
    obtain rfl:=hx _ rfl
    exact W.weak ⟨[],[]⟩ (show AT _ ⟨[],[]⟩ [(4,.msl 0 w29 0 2 l28.length l28.length)] [.rows (l28.map zah) 2 w29 39] _ _ from RO) (W.exit (show _/\_ from ⟨rfl,w29,rfl,rfl⟩))
  ·intro e0 s0 h0 hq
   rcases r42 with er42 | qr42
   ·obtain ⟨rfl,w41,rfl,rfl⟩:=hq
    replace hm:=zc9 hm
    show WK _ _ _ _ _ [(4,.msl 0 w41 0 2 er42.length er42.length)] [.rows (er42.map zah) 2 w41 39]
    refine W.sq [] [(2,.msl 0 w41 0 2 er42.length er42.length),(3,.bool true)] [.rows (er42.map zah) 2 w41 39] ?_
    obtain rfl:=Option.some.inj hm
    exact W.ret (zcj.retW [0] RO)
   ·obtain ⟨rfl,rfl,rfl⟩:=hq
    replace hm:=zc8 hm
    obtain rfl:=Option.some.inj hm
    exact zcj.retW [] RO
theorem zfH{p0:ByteArray}{p1:(List Int)}{r:ByteArray}(hm:zdt p0 p1=some r):zaF Tryz.prog 28 [.str p0,.sl (p1.map (eInt .i64))] (.str r):=by
 rw [zdt] at hm
 refine zaF.of Tryz.func28 rfl Tryz.ntmps28 (Nat.le_of_ble_eq_true rfl) ?_
 have e0:argS 0 [.str p0,.sl (p1.map (eInt .i64))]=[(0,.str p0),(1,.sl (p1.map (eInt .i64)))]:=rfl
 rw [e0]
 refine W.sq [] [(0,.str p0),(1,.sl (p1.map (eInt .i64)))] [] ?_
 refine W.seq ?_
 refine W.sq [] [(0,.str p0),(7,.sl (p1.map (eInt .i64))),(8,.int .i64 (p1.length:Int)),(9,.int .i64 0)] [] ?_
 refine W.block ?_
 replace hm:=zag hm
 obtain ⟨r25,hlr25,hm⟩:=hm
 refine W.mono (Q:=fun e0 s0 h0=>e0=.exit 0/\∃w:Unit,s0=[(0,.str r25)]/\h0=[]) (W.loopM (step:=zcv p1) (a0:=(p0,0)) (fun (a:ByteArray × Int) (v:Unit)=>([(0,.str a.1),(7,.sl (p1.map (eInt .i64))),(8,.int .i64 (p1.length:Int)),(9,.int .i64 a.2)],[])) () hlr25 ⟨[],[]⟩ RO ?_) ?_
 ·rintro ⟨s16,i17⟩ _ x hm hx
  rw [zcv] at hm
  show WK _ _ _ _ _ [(0,.str s16),(7,.sl (p1.map (eInt .i64))),(8,.int .i64 (p1.length:Int)),(9,.int .i64 i17)] []
  refine W.sq [] [(0,.str s16),(7,.sl (p1.map (eInt .i64))),(8,.int .i64 (p1.length:Int)),(9,.int .i64 i17),(10,.bool (decide (i17<(p1.length:Int))))] [] ?_
  refine W.seq ?_
  refine W.cnd (decide (i17<(p1.length:Int))) (fun hb26=>?_) (fun hb26=>?_)
  ·replace hm:=zaB hb26 hm
   refine W.skip ?_
   refine W.seq ?_
   refine W.block ?_
   replace hm:=zau hm
   obtain ⟨h27,hm⟩:=hm
   refine W.sq [] [(0,.str s16),(6,.int .i64 (rd p1 i17)),(7,.sl (p1.map (eInt .i64))),(8,.int .i64 (p1.length:Int)),(9,.int .i64 i17)] [] ?_
   replace hm:=zag hm
   obtain ⟨v28,h29,hm⟩:=hm
   replace hm:=zau hm
   obtain ⟨h30,hm⟩:=hm
   replace hm:=zau hm
   obtain ⟨h31,hm⟩:=hm
   have kh29:=zg5 h29
   try simp only [hb26] at kh29
   refine W.rg [] [(0,.str (s16++((⟨#[32]⟩:ByteArray)++v28))),(7,.sl (p1.map (eInt .i64))),(8,.int .i64 (p1.length:Int)),(9,.int .i64 i17)] [] ?_
   refine W.rg [] [(0,.str (s16++((⟨#[32]⟩:ByteArray)++v28))),(7,.sl (p1.map (eInt .i64))),(8,.int .i64 (p1.length:Int)),(9,.int .i64 (IntKind.wrap .i64 (i17+1)))] [] ?_
   obtain rfl:=Option.some.inj hm
   exact ⟨((s16++((⟨#[32]⟩:ByteArray)++v28)),(IntKind.wrap .i64 (i17+1))),(),⟨[],[]⟩,rfl,RO⟩
  ·replace hm:=zaI hb26 hm
   obtain rfl:=Option.some.inj hm
   obtain rfl:=hx _ rfl
   exact W.weak ⟨[],[]⟩ (show AT _ ⟨[],[]⟩ [(0,.str s16)] [] _ _ from RO) (W.exit (show _/\_ from ⟨rfl,(),rfl,rfl⟩))
 ·rintro e0 s0 h0 ⟨rfl,_,rfl,rfl⟩
  show WK _ _ _ _ _ [(0,.str r25)] []
  replace hm:=zau hm
  obtain ⟨h32,hm⟩:=hm
  refine W.sq [] [(4,.str (r25++(⟨#[10]⟩:ByteArray)))] [] ?_
  obtain rfl:=Option.some.inj hm
  exact W.ret (zcj.retW [] RO)
theorem zeB{p0:ByteArray}{p1:ByteArray}{r:ByteArray}(hm:zbV p0 p1=some r):zaF Tryz.prog 18 [.str p0,.str p1] (.str r):=by
 rw [zbV] at hm
 refine zaF.of Tryz.func18 rfl Tryz.ntmps18 (Nat.le_of_ble_eq_true rfl) ?_
 have e0:argS 0 [.str p0,.str p1]=[(0,.str p0),(1,.str p1)]:=rfl
 rw [e0]
 refine W.sq [] [(0,.str p0),(1,.str p1)] [] ?_
 replace hm:=zag hm
 obtain ⟨v1,h2,hm⟩:=hm
 have kh2:=zht h2
 refine W.sq [] [(0,.str p0),(1,.str p1),(5,.ptr 0 0 0),(6,.ptr 1 0 0)] [.cells (zdA v1.1) 0 61,.cells (zaZ v1.2) 0 64] ?_
 refine W.seq ?_
 refine W.sq [] [(0,.str p0),(1,.str p1),(5,.ptr 0 0 0),(6,.ptr 1 0 0),(32,.bool (v1.2.Code != 0))] [.cells (zdA v1.1) 0 61,.cells (zaZ v1.2) 0 64] ?_
 refine W.cnd (v1.2.Code != 0) (fun hb3=>?_) (fun hb3=>?_)
 ·replace hm:=zaB hb3 hm
  replace hm:=zag hm
  obtain ⟨v4,h5,hm⟩:=hm
  have kh5:=zfH h5
  try simp only [hb3] at kh5
  try simp only [List.map_cons,List.map_nil,eStr,eInt] at kh5
  refine W.sq [] [(4,.str v4)] [] ?_
  obtain rfl:=Option.some.inj hm
  exact W.ret (zcj.retW [] RO)
 ·replace hm:=zaI hb3 hm
  refine W.skip ?_
  replace hm:=zag hm
  obtain ⟨v6,h7,hm⟩:=hm
  have kh7:=zcY h7
  try simp only [hb3] at kh7
  refine W.sq [] [(0,.str p0),(5,.ptr 0 0 0),(7,.sl (v6.1.map zah)),(8,.bool v6.2)] [.cells (zdA v1.1) 0 61] ?_
  refine W.seq ?_
  refine W.sq [] [(0,.str p0),(5,.ptr 0 0 0),(7,.sl (v6.1.map zah)),(47,.bool (!v6.2))] [.cells (zdA v1.1) 0 61] ?_
  refine W.cnd (!v6.2) (fun hb8=>?_) (fun hb8=>?_)
  ·replace hm:=zaB hb8 hm
   replace hm:=zag hm
   obtain ⟨v9,h10,hm⟩:=hm
   refine W.sq [] [(4,.str v9)] [] ?_ (hrun:=?_)
   rotate_left
   ·try simp -implicitDefEqProofs -dsimp only [go_sem,hb3,hb8]
    with_reducible refine exP.mk (.pure ⟨[],true,[.str (⟨#[112,105,99,107,115]⟩:ByteArray),.sl (([]).map (eInt .i64))],.str v9⟩) (callQ.of (by simp -implicitDefEqProofs -dsimp only [go_sem,hb3,hb8]) (by simp -implicitDefEqProofs -dsimp only [go_sem,hb3,hb8]) (by simp -implicitDefEqProofs -dsimp only [go_sem,hb3,hb8]) (fun _=>by simp -implicitDefEqProofs -dsimp only [go_sem,hb3,hb8]) (zfH h10)) ?_
    try simp -implicitDefEqProofs -dsimp only [go_sem,hb3,hb8]
   obtain rfl:=Option.some.inj hm
   exact W.ret (zcj.retW [] RO)
  ·replace hm:=zaI hb8 hm
   refine W.skip ?_
   cases hm
theorem ze7{r:Bool}(hm:zb6 =some r):zaF Tryz.prog 10 [] (.bool r):=by
 rw [zb6] at hm
 refine zaF.of Tryz.func10 rfl Tryz.ntmps10 (Nat.le_of_ble_eq_true rfl) ?_
 have e0:argS 0 []=[]:=rfl
 rw [e0]
 refine W.sq [] [] [] ?_
 replace hm:=zag hm
 obtain ⟨v1,h2,hm⟩:=hm
 have kh2:=zcY h2
 refine W.sq [] [(1,.sl (v1.1.map zah)),(2,.bool v1.2)] [] ?_
 replace hm:=zag hm
 obtain ⟨v3,h4,hm⟩:=hm
 have kh4:=zcY h4
 refine W.sq [] [(1,.sl (v1.1.map zah)),(2,.bool v1.2),(4,.bool v3.2)] [] ?_
 replace hm:=zag hm
 obtain ⟨v5,h6,hm⟩:=hm
 replace hm:=zag hm
 obtain ⟨v7,h8,hm⟩:=hm
 replace hm:=zag hm
 obtain ⟨v9,h10,hm⟩:=hm
 replace hm:=zag hm
 obtain ⟨v11,h12,hm⟩:=hm
 replace hm:=zaN hm
 obtain ⟨b13,h14,hm⟩:=hm
 refine W.sq [] [(0,.bool b13)] [] ?_ (hrun:=?_)
 rotate_left
 ·try simp -implicitDefEqProofs -dsimp only [go_sem,h14]
  with_reducible refine exB false ?_
  try simp -implicitDefEqProofs -dsimp only [go_sem,h14]
  with_reducible refine exP.mk _ (callQ.plain (by simp -implicitDefEqProofs -dsimp only [go_sem,h14]) (by have hk:=zcX h6; (try simp only [] at hk); (try simp only [List.map_cons,List.map_nil,eStr,eInt,zah] at hk); exact hk)) ?_
  try simp -implicitDefEqProofs -dsimp only [go_sem,h14]
  refine zcc (fun hg15=>?_) (fun hg15=>?_)
  ·try simp -implicitDefEqProofs -dsimp only [go_sem,hg15,h14]
   refine zcc (fun hg16=>?_) (fun hg16=>?_)
   ·try simp -implicitDefEqProofs -dsimp only [go_sem,hg15,hg16,h14]
    refine zdv (fun hg17=>?_) (fun hg17=>?_)
    ·try simp only [Bool.not_not] at hg17
     try simp -implicitDefEqProofs -dsimp only [go_sem,hg15,hg16,hg17,h14]
     with_reducible refine exP.mk _ (callQ.plain (by simp -implicitDefEqProofs -dsimp only [go_sem,hg15,hg16,hg17,h14]) (zdH (zaB (by simp -implicitDefEqProofs -dsimp only [go_sem,hg15,hg16,hg17,h14]) h8))) ?_
     try simp -implicitDefEqProofs -dsimp only [go_sem,hg15,hg16,hg17,h14]
     refine zcc (fun hg18=>?_) (fun hg18=>?_)
     ·try simp only [Bool.not_not] at hg18
      try simp -implicitDefEqProofs -dsimp only [go_sem,hg15,hg16,hg17,hg18,h14]
      with_reducible refine exP.mk _ (callQ.plain (by simp -implicitDefEqProofs -dsimp only [go_sem,hg15,hg16,hg17,hg18,h14]) (zeB (zaB (by simp -implicitDefEqProofs -dsimp only [go_sem,hg15,hg16,hg17,hg18,h14]) h10))) ?_
      try simp -implicitDefEqProofs -dsimp only [go_sem,hg15,hg16,hg17,hg18,h14]
      refine zcc (fun hg19=>?_) (fun hg19=>?_)
      ·try simp only [Bool.not_not] at hg19
       try simp -implicitDefEqProofs -dsimp only [go_sem,hg15,hg16,hg17,hg18,hg19,h14]
       with_reducible refine exP.mk _ (callQ.plain (by simp -implicitDefEqProofs -dsimp only [go_sem,hg15,hg16,hg17,hg18,hg19,h14]) (zeB (zaB (by simp -implicitDefEqProofs -dsimp only [go_sem,hg15,hg16,hg17,hg18,hg19,h14]) h12))) ?_
       try simp -implicitDefEqProofs -dsimp only [go_sem,hg15,hg16,hg17,hg18,hg19,h14]
      ·try simp only [Bool.not_not] at hg19
       try simp -implicitDefEqProofs -dsimp only [go_sem,hg15,hg16,hg17,hg18,hg19,h14]
     ·try simp only [Bool.not_not] at hg18
      try simp -implicitDefEqProofs -dsimp only [go_sem,hg15,hg16,hg17,hg18,h14]
    ·try simp only [Bool.not_not] at hg17
     try simp -implicitDefEqProofs -dsimp only [go_sem,hg15,hg16,hg17,h14]
   ·try simp -implicitDefEqProofs -dsimp only [go_sem,hg15,hg16,h14]
  ·try simp -implicitDefEqProofs -dsimp only [go_sem,hg15,h14]
 clear h14
 obtain rfl:=Option.some.inj hm
 exact W.ret (zcj.retW [] RO)
theorem zd3{p0:ByteArray}{r:Bool}(hm:zbP p0=some r):zaF Tryz.prog 3 [.str p0] (.bool r):=by
 rw [zbP] at hm
 refine zaF.of Tryz.func3 rfl Tryz.ntmps3 (Nat.le_of_ble_eq_true rfl) ?_
 have e0:argS 0 [.str p0]=[(0,.str p0)]:=rfl
 rw [e0]
 refine W.sq [] [(0,.str p0)] [] ?_
 replace hm:=zag hm
 obtain ⟨v1,h2,hm⟩:=hm
 have kh2:=zfo h2
 refine W.sq [] [(0,.str v1)] [] ?_
 replace hm:=zag hm
 obtain ⟨v3,h4,hm⟩:=hm
 have kh4:=zcY h4
 refine W.sq [] [(0,.str v1),(3,.sl (v3.1.map zah)),(4,.bool v3.2)] [] ?_
 replace hm:=zag hm
 obtain ⟨v5,h6,hm⟩:=hm
 have kh6:=zfn h6
 refine W.sq [] [(0,.str v1),(3,.sl (v3.1.map zah)),(4,.bool v3.2),(5,.sl (v5.1.map zah)),(6,.bool v5.2)] [] ?_
 replace hm:=zag hm
 obtain ⟨v7,h8,hm⟩:=hm
 replace hm:=zag hm
 obtain ⟨v9,h10,hm⟩:=hm
 replace hm:=zag hm
 obtain ⟨v11,h12,hm⟩:=hm
 have kh8:=zcX h8
 have kh10:=fun hg=>zdH (zaB hg h10)
 have kh12:=fun hg=>ze7 (zaB hg h12)
 refine W.sq [] [(2,.bool (((v7&&(v3.2==v5.2))&&((!v3.2)||decide (v9=v1)))&&v11))] [] ?_
 obtain rfl:=Option.some.inj hm
 exact W.ret (zcj.retW [] RO)
end Go.Proofs.YtkgpofmbegonfaaGreatDoor
