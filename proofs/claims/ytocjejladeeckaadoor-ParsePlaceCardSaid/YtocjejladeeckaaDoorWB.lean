import Derived.Test.YtocjejladeeckaaDoorVFacts
import Derived.Test.YtocjejladeeckaaDoorVu3
import Derived.Test.YtocjejladeeckaaDoorPalB
import Derived.Test.YtocjejladeeckaaDoorWA
import Derived.Test.YtocjejladeeckaaDoorWUtf
set_option linter.all false
set_option maxRecDepth 100000
set_option maxHeartbeats 4000000
namespace Go.Proofs.YtocjejladeeckaaDoor
open Go.Vs
variable [TabU]
theorem zeP{p0:ByteArray}{r:(List zah)}(hm:zcW p0=some r):zaI Tryd.prog 35 [.str p0] (.sl (r.map zap)):=by
 rw [zcW] at hm
 refine zaI.of Tryd.func35 rfl Tryd.ntmps35 (Nat.le_of_ble_eq_true rfl) ?_
 refine W.sa 0 [0] ?_
 refine W.sa 0 [0,3] ?_
 refine W.sa 0 [0,3,4,5] ?_
 refine W.seq (W.sa 1 [0,3,4,5,10] ?_)
 refine W.block ?_
 replace ⟨r56,hlr56,hm⟩:=zai hm
 refine W.mono (Q:=fun e0 s0 h0=>e0=.exit 0/\∃w:Nat,s0=[(3,zM 2 w 6 r56)]/\h0=[.dead,.dead,.rows (r56.map zap) 6 w 74]) (W.loopM (step:=zby p0) (a0:=(1,1,0,[])) (fun (a:Int × Int × Nat × (List zah)) (v:Nat)=>([(0,.str p0),(3,zM 2 v 6 a.2.2.2),(4,zi a.1),(5,zi a.2.1),(10,.ptr 0 0 0)],[.siter p0 a.2.2.1,.dead,.rows (a.2.2.2.map zap) 6 v 74])) 0 hlr56 ⟨[],[]⟩ RO ?_) ?_
 ·rintro ⟨i35,i36,n37,l38⟩ w39 x hm hx
  rw [zby] at hm
  show WK _ _ _ _ _ [(0,.str p0),(3,zM 2 w39 6 l38),(4,zi i35),(5,zi i36),(10,.ptr 0 0 0)] [.siter p0 n37,.dead,.rows (l38.map zap) 6 w39 74]
  by_cases hb57:n37<p0.size
  ·rw [if_pos hb57] at hm
   refine W.sa 3 [0,3,4,5,10,11,12] ?_
   refine W.seq (W.cnd true (fun _=>?_) (fun hx=>by cases hx))
   refine W.skip (W.block (W.sa 3 [0,3,4,5,6,7,10] ?_))
   refine W.sa 4 [0,3,4,5,6,7,8,10] ?_
   refine W.cut (fun s h=>∃(v:Int × Bool) (w:Unit) (F:Gs),zb7 l38 p0 n37 i35 i36 v.1 v.2=some x/\AT 0 F [(0,.str p0),(3,zM 2 w39 6 l38),(4,zi i35),(5,zi i36),(7,.int .i32 ((Utf8.decode p0 n37).1:Int)),(8,.ptr 3 0 0),(10,.ptr 0 0 0)] [.siter p0 (n37+(Utf8.decode p0 n37).2),.dead,.rows (l38.map zap) 6 w39 74,.cells [.int .i32 ((Utf8.decode p0 n37).1:Int),zi (n37:Int),zi v.1,zi i35,zi i36,.bool v.2] 0 74] s h) ?_ ?_
   ·refine W.sa 4 [0,3,4,5,6,7,8,10,21] ?_
    refine W.cn hm ?_ ?_ <;> clear hm <;> intro hb65 hm
    ·replace ⟨h66,hm⟩:=zay hm
     replace ⟨v67,h68,hm⟩:=zai hm
     have kh68:=zcC h68
     try simp only [hb57,hb65] at kh68
     refine W.sa 4 [0,3,4,5,7,8,10] ?_
     refine W.rg [] [(0,.str p0),(3,zM 2 w39 6 l38),(4,zi i35),(5,zi i36),(7,.int .i32 ((Utf8.decode p0 n37).1:Int)),(8,.ptr 3 0 0),(10,.ptr 0 0 0)] [.siter p0 (n37+(Utf8.decode p0 n37).2),.dead,.rows (l38.map zap) 6 w39 74,.cells [.int .i32 ((Utf8.decode p0 n37).1:Int),zi (n37:Int),zi v67.2,zi i35,zi i36,.bool (v67.2==1)] 0 74] ?_
     exact ⟨(v67.2,(v67.2==1)),(),⟨[],[]⟩,hm,RO⟩
    ·replace ⟨v69,h70,hm⟩:=zai hm
     have kh70:=zdT h70
     try simp only [hb57,hb65] at kh70
     refine W.rg [] [(0,.str p0),(3,zM 2 w39 6 l38),(4,zi i35),(5,zi i36),(7,.int .i32 ((Utf8.decode p0 n37).1:Int)),(8,.ptr 3 0 0),(10,.ptr 0 0 0)] [.siter p0 (n37+(Utf8.decode p0 n37).2),.dead,.rows (l38.map zap) 6 w39 74,.cells [.int .i32 ((Utf8.decode p0 n37).1:Int),zi (n37:Int),zi v69,zi i35,zi i36,.bool false] 0 74] ?_
     exact ⟨(v69,false),(),⟨[],[]⟩,hm,RO⟩
   ·rintro s h ⟨⟨i58,b59⟩,_,F,hm,hat⟩
    refine W.weak F hat ?_
    show WK _ _ _ _ _ [(0,.str p0),(3,zM 2 w39 6 l38),(4,zi i35),(5,zi i36),(7,.int .i32 ((Utf8.decode p0 n37).1:Int)),(8,.ptr 3 0 0),(10,.ptr 0 0 0)] [.siter p0 (n37+(Utf8.decode p0 n37).2),.dead,.rows (l38.map zap) 6 w39 74,.cells [.int .i32 ((Utf8.decode p0 n37).1:Int),zi (n37:Int),zi i58,zi i35,zi i36,.bool b59] 0 74]
    rw [zb7] at hm
    replace ⟨h60,hm⟩:=zay hm
    replace ⟨l61,h62,hm⟩:=zaR hm
    refine W.sq [] [(0,.str p0),(3,.msl 2 (w39+1) 0 6 l61.length l61.length),(4,zi i35),(5,zi i36),(7,.int .i32 ((Utf8.decode p0 n37).1:Int)),(10,.ptr 0 0 0)] [.siter p0 (n37+(Utf8.decode p0 n37).2),.dead,.rows (l61.map zap) 6 (w39+1) 74] ?_
    clear h62
    replace ⟨v63,h64,hm⟩:=zai hm
    have kh64:=zfq h64
    try simp only [hb57] at kh64
    refine W.rg [] [(0,.str p0),(3,.msl 2 (w39+1) 0 6 l61.length l61.length),(4,zi v63.1),(5,zi v63.2),(10,.ptr 0 0 0)] [.siter p0 (n37+(Utf8.decode p0 n37).2),.dead,.rows (l61.map zap) 6 (w39+1) 74] ?_
    cases hm
    exact ⟨(v63.1,v63.2,(n37+(Utf8.decode p0 n37).2),l61),(w39+1),⟨[],[]⟩,rfl,RO⟩
  ·rw [if_neg hb57] at hm
   refine W.sa 3 [0,3,4,5,10,11,12] ?_
   refine W.seq (W.cnd false (fun hx=>by cases hx) (fun _=>?_))
   cases hm
   obtain rfl:=hx _ rfl
   exact W.wk ⟨[],[]⟩ [(3,zM 2 w39 6 l38)] [.dead,.dead,.rows (l38.map zap) 6 w39 74] (W.exit (show _/\_ from ⟨rfl,w39,rfl,rfl⟩))
 ·rintro e0 s0 h0 ⟨rfl,w55,rfl,rfl⟩
  show WK _ _ _ _ _ [(3,zM 2 w55 6 r56)] [.dead,.dead,.rows (r56.map zap) 6 w55 74]
  refine W.sa 3 [2] ?_
  cases hm
  exact W.ret (zdt.retW [2] RO)
theorem zhG{r:(List ByteArray)}(hm:zeB =some r):zaI Tryd.prog 136 [] (.sl (r.map eStr)):=by
 rw [zeB] at hm
 refine zaI.of Tryd.func136 rfl Tryd.ntmps136 (Nat.le_of_ble_eq_true rfl) ?_
 refine W.sa 0 [] ?_
 replace ⟨l1,h2,hm⟩:=zaR hm
 refine W.sq [] [(0,.sl (l1.map eStr))] [] ?_
 clear h2
 cases hm
 exact W.rt
theorem zc2{p0:ByteArray}{r:Int × Bool}(hm:zcK p0=some r):zaI Tryd.prog 122 [.str p0] (.tuple [zi r.1,.bool r.2]):=by
 rw [zcK] at hm
 refine zaI.of Tryd.func122 rfl Tryd.ntmps122 (Nat.le_of_ble_eq_true rfl) ?_
 refine W.sa 0 [0] ?_
 refine W.seq ?_
 replace ⟨v1,h2,hm⟩:=zai hm
 have kh2:=zhG h2
 refine W.sa 0 [0,6,7,8] ?_
 refine W.block ?_
 replace ⟨r14,hlr14,hm⟩:=zai hm
 refine W.mono (Q:=fun e0 s0 h0=>match r14 with | .inl e=>e0=.exit 0/\∃w:Unit,s0=[]/\h0=[] | .inr q=>e0=.ret/\s0=[(2,zi q.1),(3,.bool q.2)]/\h0=[]) (W.loopM (step:=zdz v1 p0) (a0:=0) (fun (a:Int) (v:Unit)=>([(0,.str p0),(6,.sl (v1.map eStr)),(7,zi (v1.length:Int)),(8,zi a)],[])) () hlr14 ⟨[],[]⟩ RO ?_) ?_
 ·rintro i10 _ x hm hx
  rw [zdz] at hm
  show WK _ _ _ _ _ [(0,.str p0),(6,.sl (v1.map eStr)),(7,zi (v1.length:Int)),(8,zi i10)] []
  refine W.sa 0 [0,6,7,8,9] ?_
  refine W.seq ?_
  refine W.cn hm ?_ ?_ <;> clear hm <;> intro hb15 hm
  ·refine W.skip (W.seq (W.block ?_))
   replace ⟨h16,hm⟩:=zay hm
   refine W.sa 0 [0,4,5,6,7,8] ?_
   refine W.sa 0 [0,4,6,7,8,15] ?_
   refine W.cn hm ?_ ?_ <;> clear hm <;> intro hb17 hm
   ·refine W.sa 0 [2,3] ?_
    cases hm
    obtain rfl:=hx _ rfl
    exact W.wk ⟨[],[]⟩ [(2,zi i10),(3,.bool true)] [] (W.ret (show _/\_ from ⟨rfl,rfl,rfl⟩))
   ·refine W.skip (W.rg [] [(0,.str p0),(6,.sl (v1.map eStr)),(7,zi (v1.length:Int)),(8,zi (zw (i10+1)))] [] ?_)
    cases hm
    exact ⟨(zw (i10+1)),(),⟨[],[]⟩,rfl,RO⟩
  ·cases hm
   obtain rfl:=hx _ rfl
   exact W.wk ⟨[],[]⟩ [] [] (W.exit (show _/\_ from ⟨rfl,(),rfl,rfl⟩))
 ·intro e0 s0 h0 hq
  rcases r14 with er14 | qr14
  ·obtain ⟨rfl,_,rfl,rfl⟩:=hq
   replace hm:=zcJ hm
   show WK _ _ _ _ _ [] []
   refine W.sa 0 [2,3] ?_
   cases hm
   exact W.rt
  ·obtain ⟨rfl,rfl,rfl⟩:=hq
   replace hm:=zcI hm
   cases hm
   exact zdt.retW [] RO
theorem zih{r:(List ByteArray)}(hm:zfj =some r):zaI Tryd.prog 85 [] (.sl (r.map eStr)):=by
 rw [zfj] at hm
 refine zaI.of Tryd.func85 rfl Tryd.ntmps85 (Nat.le_of_ble_eq_true rfl) ?_
 refine W.sa 0 [] ?_
 replace ⟨l1,h2,hm⟩:=zaR hm
 refine W.sq [] [(0,.sl (l1.map eStr))] [] ?_
 clear h2
 cases hm
 exact W.rt
theorem zgU{r:(List ByteArray)}(hm:zdX =some r):zaI Tryd.prog 84 [] (.sl (r.map eStr)):=by
 rw [zdX] at hm
 refine zaI.of Tryd.func84 rfl Tryd.ntmps84 (Nat.le_of_ble_eq_true rfl) ?_
 refine W.sa 0 [] ?_
 replace ⟨l1,h2,hm⟩:=zaR hm
 refine W.sq [] [(0,.sl (l1.map eStr))] [] ?_
 clear h2
 cases hm
 exact W.rt
theorem zgt{p0:ByteArray}{r:Int × Int × Bool}(hm:zd0 p0=some r):zaI Tryd.prog 123 [.str p0] (.tuple [zi r.1,zi r.2.1,.bool r.2.2]):=by
 rw [zd0] at hm
 refine zaI.of Tryd.func123 rfl Tryd.ntmps123 (Nat.le_of_ble_eq_true rfl) ?_
 refine W.sa 0 [0] ?_
 refine W.seq (W.sa 0 [0,10] ?_)
 refine W.cn hm ?_ ?_ <;> clear hm <;> intro hb1 hm
 ·refine W.sa 0 [2,3,4] ?_
  cases hm
  exact W.rt
 ·refine W.skip (W.seq ?_)
  replace ⟨v2,h3,hm⟩:=zai hm
  have kh3:=zih h3
  try simp only [hb1] at kh3
  refine W.sa 0 [0,11,12,13] ?_
  refine W.block ?_
  replace ⟨r15,hlr15,hm⟩:=zai hm
  refine W.mono (Q:=fun e0 s0 h0=>match r15 with | .inl e=>e0=.exit 0/\∃w:Unit,s0=[(0,.str p0)]/\h0=[] | .inr q=>e0=.ret/\s0=[(2,zi q.1),(3,zi q.2.1),(4,.bool q.2.2)]/\h0=[]) (W.loopM (step:=zdZ v2 p0) (a0:=0) (fun (a:Int) (v:Unit)=>([(0,.str p0),(11,.sl (v2.map eStr)),(12,zi (v2.length:Int)),(13,zi a)],[])) () hlr15 ⟨[],[]⟩ RO ?_) ?_
  ·rintro i11 _ x hm hx
   rw [zdZ] at hm
   show WK _ _ _ _ _ [(0,.str p0),(11,.sl (v2.map eStr)),(12,zi (v2.length:Int)),(13,zi i11)] []
   refine W.sa 0 [0,11,12,13,14] ?_
   refine W.seq ?_
   refine W.cn hm ?_ ?_ <;> clear hm <;> intro hb16 hm
   ·refine W.skip (W.seq (W.block ?_))
    replace ⟨h17,hm⟩:=zay hm
    refine W.sa 0 [0,5,6,11,12,13] ?_
    refine W.sa 0 [0,5,11,12,13,20] ?_
    refine W.cn hm ?_ ?_ <;> clear hm <;> intro hb18 hm
    ·refine W.sa 0 [2,3,4] ?_
     cases hm
     obtain rfl:=hx _ rfl
     exact W.wk ⟨[],[]⟩ [(2,zi (zw (i11+1))),(3,zi 0),(4,.bool true)] [] (W.ret (show _/\_ from ⟨rfl,rfl,rfl⟩))
    ·refine W.skip (W.rg [] [(0,.str p0),(11,.sl (v2.map eStr)),(12,zi (v2.length:Int)),(13,zi (zw (i11+1)))] [] ?_)
     cases hm
     exact ⟨(zw (i11+1)),(),⟨[],[]⟩,rfl,RO⟩
   ·cases hm
    obtain rfl:=hx _ rfl
    exact W.wk ⟨[],[]⟩ [(0,.str p0)] [] (W.exit (show _/\_ from ⟨rfl,(),rfl,rfl⟩))
  ·intro e0 s0 h0 hq
   rcases r15 with er15 | qr15
   ·obtain ⟨rfl,_,rfl,rfl⟩:=hq
    replace hm:=zcJ hm
    show WK _ _ _ _ _ [(0,.str p0)] []
    refine W.seq ?_
    replace ⟨v19,h20,hm⟩:=zai hm
    have kh20:=zgU h20
    try simp only [hb1] at kh20
    refine W.sa 0 [0,24,25,26] ?_
    refine W.block ?_
    replace ⟨r32,hlr32,hm⟩:=zai hm
    refine W.mono (Q:=fun e0 s0 h0=>match r32 with | .inl e=>e0=.exit 2/\∃w:Unit,s0=[]/\h0=[] | .inr q=>e0=.ret/\s0=[(2,zi q.1),(3,zi q.2.1),(4,.bool q.2.2)]/\h0=[]) (W.loopM (step:=zdY v19 p0) (a0:=0) (fun (a:Int) (v:Unit)=>([(0,.str p0),(24,.sl (v19.map eStr)),(25,zi (v19.length:Int)),(26,zi a)],[])) () hlr32 ⟨[],[]⟩ RO ?_) ?_
    ·rintro i28 _ x hm hx
     rw [zdY] at hm
     show WK _ _ _ _ _ [(0,.str p0),(24,.sl (v19.map eStr)),(25,zi (v19.length:Int)),(26,zi i28)] []
     refine W.sa 0 [0,24,25,26,27] ?_
     refine W.seq ?_
     refine W.cn hm ?_ ?_ <;> clear hm <;> intro hb33 hm
     ·refine W.skip (W.seq (W.block ?_))
      replace ⟨h34,hm⟩:=zay hm
      refine W.sa 0 [0,7,8,24,25,26] ?_
      refine W.sa 0 [0,7,24,25,26,33] ?_
      refine W.cn hm ?_ ?_ <;> clear hm <;> intro hb35 hm
      ·refine W.sa 0 [2,3,4] ?_
       cases hm
       obtain rfl:=hx _ rfl
       exact W.wk ⟨[],[]⟩ [(2,zi 11),(3,zi (zw (i28+1))),(4,.bool true)] [] (W.ret (show _/\_ from ⟨rfl,rfl,rfl⟩))
      ·refine W.skip (W.rg [] [(0,.str p0),(24,.sl (v19.map eStr)),(25,zi (v19.length:Int)),(26,zi (zw (i28+1)))] [] ?_)
       cases hm
       exact ⟨(zw (i28+1)),(),⟨[],[]⟩,rfl,RO⟩
     ·cases hm
      obtain rfl:=hx _ rfl
      exact W.wk ⟨[],[]⟩ [] [] (W.exit (show _/\_ from ⟨rfl,(),rfl,rfl⟩))
    ·intro e0 s0 h0 hq
     rcases r32 with er32 | qr32
     ·obtain ⟨rfl,_,rfl,rfl⟩:=hq
      replace hm:=zcJ hm
      show WK _ _ _ _ _ [] []
      refine W.sa 0 [2,3,4] ?_
      cases hm
      exact W.rt
     ·obtain ⟨rfl,rfl,rfl⟩:=hq
      replace hm:=zcI hm
      cases hm
      exact zdt.retW [] RO
   ·obtain ⟨rfl,rfl,rfl⟩:=hq
    replace hm:=zcI hm
    cases hm
    exact zdt.retW [] RO
theorem zch{p0:ByteArray}{r:Bool}(hm:zb5 p0=some r):zaI Tryd.prog 104 [.str p0] (.bool r):=by
 rw [zb5] at hm
 refine zaI.of Tryd.func104 rfl Tryd.ntmps104 (Nat.le_of_ble_eq_true rfl) ?_
 refine W.sa 0 [0] ?_
 refine W.seq ?_
 replace ⟨b1,h2,hm⟩:=zaR hm
 refine W.sq [] [(0,.str p0),(17,.bool b1)] [] ?_
 clear h2
 refine W.cn hm ?_ ?_ <;> clear hm <;> intro hb3 hm
 ·refine W.sa 0 [2] ?_
  cases hm
  exact W.rt
 ·refine W.skip (W.seq ?_)
  replace ⟨v4,h5,hm⟩:=zai hm
  have kh5:=zc2 h5
  try simp only [hb3] at kh5
  refine W.sa 0 [0,4] ?_
  refine W.sa 0 [0,23] ?_
  refine W.cn hm ?_ ?_ <;> clear hm <;> intro hb6 hm
  ·refine W.sa 0 [2] ?_
   cases hm
   exact W.rt
  ·refine W.skip ?_
   replace ⟨v7,h8,hm⟩:=zai hm
   have kh8:=zgt h8
   try simp only [hb3,hb6] at kh8
   refine W.sa 0 [7] ?_
   refine W.sa 0 [2] ?_
   cases hm
   exact W.rt
theorem zgV{p0:ByteArray}{r:Bool}(hm:zdh p0=some r):zaI Tryd.prog 79 [.str p0] (.bool r):=by
 rw [zdh] at hm
 refine zaI.of Tryd.func79 rfl Tryd.ntmps79 (Nat.le_of_ble_eq_true rfl) ?_
 refine W.sa 0 [0] ?_
 refine W.sa 0 [0,3] ?_
 refine W.seq ?_
 replace ⟨v1,h2,hm⟩:=zai hm
 have kh2:=zeP h2
 refine W.sa 0 [0,3,7,8,9] ?_
 refine W.block ?_
 replace ⟨r29,hlr29,hm⟩:=zai hm
 refine W.mono (Q:=fun e0 s0 h0=>match r29 with | .inl e=>e0=.exit 0/\∃w:Unit,s0=[(0,.str p0),(3,zi e)]/\h0=[] | .inr q=>e0=.ret/\s0=[(2,.bool q)]/\h0=[]) (W.loopM (step:=zb6 v1) (a0:=(0,0)) (fun (a:Int × Int) (v:Unit)=>([(0,.str p0),(3,zi a.1),(7,.sl (v1.map zap)),(8,zi (v1.length:Int)),(9,zi a.2)],[])) () hlr29 ⟨[],[]⟩ RO ?_) ?_
 ·rintro ⟨i19,i20⟩ _ x hm hx
  rw [zb6] at hm
  show WK _ _ _ _ _ [(0,.str p0),(3,zi i19),(7,.sl (v1.map zap)),(8,zi (v1.length:Int)),(9,zi i20)] []
  refine W.sa 0 [0,3,7,8,9,10] ?_
  refine W.seq ?_
  refine W.cn hm ?_ ?_ <;> clear hm <;> intro hb30 hm
  ·refine W.skip (W.seq (W.block ?_))
   replace ⟨h31,hm⟩:=zay hm
   refine W.sa 1 [0,3,5,7,8,9] ?_
   refine W.seq ?_
   replace ⟨v32,h33,hm⟩:=zai hm
   replace ⟨v34,h35,hm⟩:=zai hm
   have kh33:=fun hg=>zdj (zbC hg h33)
   try simp only [hb30] at kh33
   have kh35:=fun hg=>zdD (zbC hg h35)
   try simp only [hb30] at kh35
   refine W.sq [] [(0,.str p0),(3,zi i19),(7,.sl (v1.map zap)),(8,zi (v1.length:Int)),(9,zi i20),(30,.bool ((rd v1 i20).Bad||((!v32)&&((i19==0)||(!v34)))))] [] ?_
   refine W.cn hm ?_ ?_ <;> clear hm <;> intro hb36 hm
   ·refine W.sa 0 [2] ?_
    cases hm
    obtain rfl:=hx _ rfl
    exact W.wk ⟨[],[]⟩ [(2,.bool false)] [] (W.ret (show _/\_ from ⟨rfl,rfl,rfl⟩))
   ·refine W.skip (W.rg [] [(0,.str p0),(3,zi (zw (i19+1))),(7,.sl (v1.map zap)),(8,zi (v1.length:Int)),(9,zi i20)] [] ?_)
    refine W.rg [] [(0,.str p0),(3,zi (zw (i19+1))),(7,.sl (v1.map zap)),(8,zi (v1.length:Int)),(9,zi (zw (i20+1)))] [] ?_
    cases hm
    exact ⟨((zw (i19+1)),(zw (i20+1))),(),⟨[],[]⟩,rfl,RO⟩
  ·cases hm
   obtain rfl:=hx _ rfl
   exact W.wk ⟨[],[]⟩ [(0,.str p0),(3,zi i19)] [] (W.exit (show _/\_ from ⟨rfl,(),rfl,rfl⟩))
 ·intro e0 s0 h0 hq
  rcases r29 with er29 | qr29
  ·obtain ⟨rfl,_,rfl,rfl⟩:=hq
   replace hm:=zcJ hm
   show WK _ _ _ _ _ [(0,.str p0),(3,zi er29)] []
   replace ⟨v37,h38,hm⟩:=zai hm
   have kh38:=fun hg=>zch (zbC hg h38)
   refine W.sqh [] [(2,.bool ((decide (er29≥1)&&decide (er29<=16))&&(!v37)))] ?_
   cases hm
   exact W.rt
  ·obtain ⟨rfl,rfl,rfl⟩:=hq
   replace hm:=zcI hm
   cases hm
   exact zdt.retW [] RO
theorem zd8{p0:Int}{r:Bool}(hm:zcH p0=some r):zaI Tryd.prog 129 [zi p0] (.bool r):=by
 rw [zcH] at hm
 refine zaI.of Tryd.func129 rfl Tryd.ntmps129 (Nat.le_of_ble_eq_true rfl) ?_
 refine W.sa 0 [0] ?_
 refine W.sq [] [(2,.bool (decide (p0≥0)&&decide (p0<=7)))] [] ?_
 cases hm
 exact W.rt
theorem zfh{p0:zau}{r:Bool}(hm:zc9 p0=some r):zaI Tryd.prog 113 [.agg [zi p0.Kind,zi p0.Reg,zi p0.Sym,zi p0.N]] (.bool r):=by
 rw [zc9] at hm
 refine zaI.of Tryd.func113 rfl Tryd.ntmps113 (Nat.le_of_ble_eq_true rfl) ?_
 refine W.sa 1 [1] ?_
 refine W.seq (W.sa 1 [1,4] ?_)
 refine W.block (W.sa 1 [1,4,5] ?_)
 refine W.cn hm ?_ ?_ <;> clear hm <;> intro hb1 hm
 ·replace ⟨v2,h3,hm⟩:=zai hm
  have kh3:=zd8 h3
  try simp only [hb1] at kh3
  refine W.sq [] [(2,.bool ((v2&&(p0.Sym==0))&&(p0.N==0)))] [] ?_
  cases hm
  exact W.rt
 ·refine W.sa 1 [1,4,20] ?_
  refine W.cn hm ?_ ?_ <;> clear hm <;> intro hb4 hm
  ·refine W.sq [] [(2,.bool ((p0.Reg==0)&&(p0.Sym==0)))] [] ?_
   cases hm
   exact W.rt
  ·refine W.sa 1 [1,4,30] ?_
   refine W.cn hm ?_ ?_ <;> clear hm <;> intro hb5 hm
   ·refine W.sq [] [(2,.bool ((decide (p0.Sym≥0)&&decide (p0.N≥0))&&(p0.Reg==0)))] [] ?_
    cases hm
    exact W.rt
   ·refine W.sa 1 [1,45] ?_
    refine W.cn hm ?_ ?_ <;> clear hm <;> intro hb6 hm
    ·replace ⟨v7,h8,hm⟩:=zai hm
     have kh8:=fun hg=>zd8 (zbC hg h8)
     try simp only [hb1,hb4,hb5,hb6] at kh8
     refine W.sq [] [(2,.bool ((decide (p0.Sym≥0)&&v7)&&(p0.N==0)))] [] ?_
     cases hm
     exact W.rt
    ·refine W.skip (W.sa 0 [2] ?_)
     cases hm
     exact W.rt
theorem zhb{p0:zau}{r:zbo × Bool}(hm:zfD p0=some r):zaI Tryd.prog 86 [.agg [zi p0.Kind,zi p0.Reg,zi p0.Sym,zi p0.N]] (.tuple [zbN r.1,.bool r.2]):=by
 rw [zfD] at hm
 refine zaI.of Tryd.func86 rfl Tryd.ntmps86 (Nat.le_of_ble_eq_true rfl) ?_
 refine W.sa 1 [1] ?_
 refine W.seq ?_
 replace ⟨v1,h2,hm⟩:=zai hm
 have kh2:=zfh h2
 refine W.sa 1 [1,6] ?_
 refine W.cn hm ?_ ?_ <;> clear hm <;> intro hb3 hm
 ·refine W.sa 0 [2,3] ?_
  cases hm
  exact W.rt
 ·refine W.skip (W.seq (W.sa 1 [1,8] ?_))
  refine W.block (W.sa 1 [1,8,9] ?_)
  refine W.cn hm ?_ ?_ <;> clear hm <;> intro hb4 hm
  ·refine W.sa 0 [2,3] ?_
   cases hm
   exact W.rt
  ·refine W.sa 1 [1,8,15] ?_
   refine W.cn hm ?_ ?_ <;> clear hm <;> intro hb5 hm
   ·refine W.sa 0 [2,3] ?_
    cases hm
    exact W.rt
   ·refine W.sa 1 [1,21] ?_
    refine W.cn hm ?_ ?_ <;> clear hm <;> intro hb6 hm
    ·refine W.sa 0 [2,3] ?_
     cases hm
     exact W.rt
    ·refine W.skip (W.sa 0 [2,3] ?_)
     cases hm
     exact W.rt
theorem zeo{p0:zau}{r:Bool}(hm:zcB p0=some r):zaI Tryd.prog 109 [.agg [zi p0.Kind,zi p0.Reg,zi p0.Sym,zi p0.N]] (.bool r):=by
 rw [zcB] at hm
 refine zaI.of Tryd.func109 rfl Tryd.ntmps109 (Nat.le_of_ble_eq_true rfl) ?_
 refine W.sa 1 [1] ?_
 replace ⟨v1,h2,hm⟩:=zai hm
 have kh2:=zhb h2
 try simp only [zc7,zco,zcp,zcx,zcw] at kh2
 refine W.sa 0 [3,4] ?_
 refine W.seq (W.sa 0 [3,13] ?_)
 refine W.cn hm ?_ ?_ <;> clear hm <;> intro hb3 hm
 ·refine W.sa 0 [2] ?_
  cases hm
  exact W.rt
 ·refine W.skip ?_
  replace ⟨z4,h5,hm⟩:=zaR hm
  rw [← h5]
  clear h5
  cases z4 with
  | nil =>
   dsimp only at hm
   show WK _ _ _ _ _ [(3,.nili),(13,.bool (!v1.2))] []
   refine W.sa 0 [6] ?_
   refine W.sa 0 [2] ?_
   cases hm
   exact W.rt
  | RegPart x6 =>
   dsimp only at hm
   show WK _ _ _ _ _ [(3,.iface 145 (.agg [zi x6.Reg])),(13,.bool (!v1.2))] []
   refine W.sa 0 [6] ?_
   refine W.sa 0 [2] ?_
   cases hm
   exact W.rt
  | NumPart x7 =>
   dsimp only at hm
   show WK _ _ _ _ _ [(3,.iface 147 (.agg [zi x7.N])),(13,.bool (!v1.2))] []
   refine W.sa 0 [6] ?_
   refine W.sa 0 [2] ?_
   cases hm
   exact W.rt
  | AtPart x8 =>
   dsimp only at hm
   show WK _ _ _ _ _ [(3,.iface 149 (.agg [zi x8.Sym,zi x8.N])),(13,.bool (!v1.2))] []
   refine W.sa 0 [6] ?_
   refine W.sa 0 [2] ?_
   cases hm
   exact W.rt
  | ByPart x9 =>
   dsimp only at hm
   show WK _ _ _ _ _ [(3,.iface 151 (.agg [zi x9.Sym,zi x9.Reg])),(13,.bool (!v1.2))] []
   refine W.sa 0 [6] ?_
   refine W.sa 0 [2] ?_
   cases hm
   exact W.rt
theorem zgR{p0:zbo}{r:Int × Bool}(hm:zdW p0=some r):zaI Tryd.prog 128 [zbN p0] (.tuple [zi r.1,.bool r.2]):=by
 rw [zdW.eq_def] at hm
 refine zaI.of Tryd.func128 rfl Tryd.ntmps128 (Nat.le_of_ble_eq_true rfl) ?_
 refine W.sa 0 [0] ?_
 refine W.seq ?_
 cases p0 with
 | nil =>
  dsimp only at hm
  show WK _ _ _ _ _ [(0,.nili)] []
  refine W.sa 1 [0,4,5] ?_
  refine W.sa 1 [0,4,13] ?_
  refine W.cnd false (fun hx=>by cases hx) (fun _=>?_)
  refine W.skip (W.sa 2 [6,7] ?_)
  refine W.sa 0 [2,3] ?_
  cases hm
  exact W.rt
 | RegPart x1 =>
  dsimp only at hm
  show WK _ _ _ _ _ [(0,.iface 145 (.agg [zi x1.Reg]))] []
  refine W.sa 1 [0,4,5] ?_
  refine W.sa 1 [0,4,13] ?_
  refine W.cnd false (fun hx=>by cases hx) (fun _=>?_)
  refine W.skip (W.sa 2 [6,7] ?_)
  refine W.sa 0 [2,3] ?_
  cases hm
  exact W.rt
 | NumPart x2 =>
  dsimp only at hm
  show WK _ _ _ _ _ [(0,.iface 147 (.agg [zi x2.N]))] []
  refine W.sa 1 [0,4,5] ?_
  refine W.sa 1 [0,4,13] ?_
  refine W.cnd false (fun hx=>by cases hx) (fun _=>?_)
  refine W.skip (W.sa 2 [6,7] ?_)
  refine W.sa 0 [2,3] ?_
  cases hm
  exact W.rt
 | AtPart x3 =>
  dsimp only at hm
  show WK _ _ _ _ _ [(0,.iface 149 (.agg [zi x3.Sym,zi x3.N]))] []
  refine W.sa 1 [0,4,5] ?_
  refine W.sa 1 [0,4,13] ?_
  refine W.cnd true (fun _=>?_) (fun hx=>by cases hx)
  refine W.sa 0 [2,3] ?_
  cases hm
  exact W.rt
 | ByPart x4 =>
  dsimp only at hm
  show WK _ _ _ _ _ [(0,.iface 151 (.agg [zi x4.Sym,zi x4.Reg]))] []
  refine W.sa 1 [0,4,5] ?_
  refine W.sa 1 [0,4,13] ?_
  refine W.cnd false (fun hx=>by cases hx) (fun _=>?_)
  refine W.skip (W.sa 2 [6,7] ?_)
  refine W.sa 0 [2,3] ?_
  cases hm
  exact W.rt
theorem zcj{p0:zau}{r:Bool}(hm:zck p0=some r):zaI Tryd.prog 111 [.agg [zi p0.Kind,zi p0.Reg,zi p0.Sym,zi p0.N]] (.bool r):=by
 rw [zck] at hm
 refine zaI.of Tryd.func111 rfl Tryd.ntmps111 (Nat.le_of_ble_eq_true rfl) ?_
 refine W.sa 1 [1] ?_
 replace ⟨v1,h2,hm⟩:=zai hm
 have kh2:=zhb h2
 try simp only [zc7,zco,zcp,zcx,zcw] at kh2
 refine W.sa 0 [3,4] ?_
 refine W.seq (W.sa 0 [3,13] ?_)
 refine W.cn hm ?_ ?_ <;> clear hm <;> intro hb3 hm
 ·refine W.sa 0 [2] ?_
  cases hm
  exact W.rt
 ·refine W.skip ?_
  replace ⟨v4,h5,hm⟩:=zai hm
  have kh5:=zgR h5
  try simp only [hb3] at kh5
  try simp only [zc7,zco,zcp,zcx,zcw] at kh5
  refine W.sa 0 [6] ?_
  refine W.sa 0 [2] ?_
  cases hm
  exact W.rt
theorem zep{p0:zau}{r:Bool}(hm:zdQ p0=some r):zaI Tryd.prog 110 [.agg [zi p0.Kind,zi p0.Reg,zi p0.Sym,zi p0.N]] (.bool r):=by
 rw [zdQ] at hm
 refine zaI.of Tryd.func110 rfl Tryd.ntmps110 (Nat.le_of_ble_eq_true rfl) ?_
 refine W.sa 1 [1] ?_
 replace ⟨v1,h2,hm⟩:=zai hm
 replace ⟨v3,h4,hm⟩:=zai hm
 have kh2:=zfh h2
 have kh4:=fun hg=>zcj (zbC hg h4)
 refine W.sq [] [(2,.bool (v1&&(!v3)))] [] ?_
 cases hm
 exact W.rt
theorem zgX{p0:Int}{r:Bool}(hm:zd1 p0=some r):zaI Tryd.prog 112 [zi p0] (.bool r):=by
 rw [zd1] at hm
 refine zaI.of Tryd.func112 rfl Tryd.ntmps112 (Nat.le_of_ble_eq_true rfl) ?_
 refine W.sa 0 [0] ?_
 refine W.sq [] [(2,.bool (decide (p0≥2)&&decide (p0<=6)))] [] ?_
 cases hm
 exact W.rt
theorem ziU{p0:zaj}{r:Bool}(hm:zfp p0=some r):zaI Tryd.prog 83 [.agg [zi p0.Op,.bool p0.Lock,zi p0.Cond,zi p0.A.Kind,zi p0.A.Reg,zi p0.A.Sym,zi p0.A.N,zi p0.B.Kind,zi p0.B.Reg,zi p0.B.Sym,zi p0.B.N,.str p0.To,.sl (p0.zLb.map eStr)]] (.bool r):=by
 rw [zfp] at hm
 refine zaI.of Tryd.func83 rfl Tryd.ntmps83 (Nat.le_of_ble_eq_true rfl) ?_
 refine W.sa 1 [1] ?_
 refine W.cut (fun s h=>∃(v:Unit) (w:Unit) (F:Gs),zcV p0=some r/\AT 0 F [(1,.ptr 0 0 0)] [.cells (zav p0) 0 55] s h) ?_ ?_
 ·refine W.sa 1 [1,6] ?_
  refine W.cn hm ?_ ?_ <;> clear hm <;> intro hb30 hm
  ·refine W.sq [] [(1,.ptr 0 0 0),(14,.bool (decide (p0.Cond<1)||decide (p0.Cond>10)))] [.cells (zav p0) 0 55] ?_
   refine W.cn hm ?_ ?_ <;> clear hm <;> intro hb31 hm
   ·refine W.sa 0 [2] ?_
    cases hm
    exact W.rt
   ·refine W.skip ?_
    exact ⟨(),(),⟨[],[]⟩,hm,RO⟩
  ·refine W.sa 1 [1,17] ?_
   refine W.cn hm ?_ ?_ <;> clear hm <;> intro hb32 hm
   ·refine W.sa 0 [2] ?_
    cases hm
    exact W.rt
   ·refine W.skip ?_
    exact ⟨(),(),⟨[],[]⟩,hm,RO⟩
 ·rintro s h ⟨_,_,F,hm,hat⟩
  refine W.weak F hat ?_
  show WK _ _ _ _ _ [(1,.ptr 0 0 0)] [.cells (zav p0) 0 55]
  rw [zcV] at hm
  replace ⟨v1,h2,hm⟩:=zai hm
  replace ⟨v3,h4,hm⟩:=zai hm
  replace ⟨v5,h6,hm⟩:=zai hm
  replace ⟨v7,h8,hm⟩:=zai hm
  replace ⟨v9,h10,hm⟩:=zai hm
  refine W.sqh [] [(1,.ptr 0 0 0),(3,.bool ((v1&&(v3||v5))||(v7&&v9)))] ?_ (hrun:=?_)
  rotate_left
  ·try simp -implicitDefEqProofs -dsimp only [go_sem]
   with_reducible refine exP.mk _ (callQ.plain (by simp -implicitDefEqProofs -dsimp only [go_sem]) (zeo h2)) ?_
   try simp -implicitDefEqProofs -dsimp only [go_sem]
   refine zc1 (fun hg11=>?_) (fun hg11=>?_)
   ·try simp -implicitDefEqProofs -dsimp only [go_sem,hg11]
    with_reducible refine exP.mk _ (callQ.plain (by simp -implicitDefEqProofs -dsimp only [go_sem,hg11]) (zep (zbC (by simp -implicitDefEqProofs -dsimp only [go_sem,hg11]) h4))) ?_
    try simp -implicitDefEqProofs -dsimp only [go_sem,hg11]
    refine zdM (fun hg12=>?_) (fun hg12=>?_)
    ·try simp only [Bool.not_not] at hg12
     try simp -implicitDefEqProofs -dsimp only [go_sem,hg11,hg12]
     with_reducible refine exP.mk _ (callQ.plain (by simp -implicitDefEqProofs -dsimp only [go_sem,hg11,hg12]) (zcj (zbC (by simp -implicitDefEqProofs -dsimp only [go_sem,hg11,hg12]) h6))) ?_
     try simp -implicitDefEqProofs -dsimp only [go_sem,hg11,hg12]
     refine zdM (fun hg13=>?_) (fun hg13=>?_)
     ·try simp only [Bool.not_not] at hg13
      try simp -implicitDefEqProofs -dsimp only [go_sem,hg11,hg12,hg13]
      with_reducible refine exP.mk _ (callQ.plain (by simp -implicitDefEqProofs -dsimp only [go_sem,hg11,hg12,hg13]) (zcj (zbC (by simp -implicitDefEqProofs -dsimp only [go_sem,hg11,hg12,hg13]) h8))) ?_
      try simp -implicitDefEqProofs -dsimp only [go_sem,hg11,hg12,hg13]
      refine zc1 (fun hg14=>?_) (fun hg14=>?_)
      ·try simp only [Bool.not_not] at hg14
       try simp -implicitDefEqProofs -dsimp only [go_sem,hg11,hg12,hg13,hg14]
       with_reducible refine exP.mk _ (callQ.plain (by simp -implicitDefEqProofs -dsimp only [go_sem,hg11,hg12,hg13,hg14]) (zep (zbC (by simp -implicitDefEqProofs -dsimp only [go_sem,hg11,hg12,hg13,hg14]) h10))) ?_
       try simp -implicitDefEqProofs -dsimp only [go_sem,hg11,hg12,hg13,hg14]
      ·try simp only [Bool.not_not] at hg14
       try simp -implicitDefEqProofs -dsimp only [go_sem,hg11,hg12,hg13,hg14]
     ·try simp only [Bool.not_not] at hg13
      try simp -implicitDefEqProofs -dsimp only [go_sem,hg11,hg12,hg13]
    ·try simp only [Bool.not_not] at hg12
     try simp -implicitDefEqProofs -dsimp only [go_sem,hg11,hg12]
   ·try simp -implicitDefEqProofs -dsimp only [go_sem,hg11]
    with_reducible refine exP.mk _ (callQ.plain (by simp -implicitDefEqProofs -dsimp only [go_sem,hg11]) (zcj (zbC (by simp -implicitDefEqProofs -dsimp only [go_sem,hg11]) h8))) ?_
    try simp -implicitDefEqProofs -dsimp only [go_sem,hg11]
    refine zc1 (fun hg15=>?_) (fun hg15=>?_)
    ·try simp only [Bool.not_not] at hg15
     try simp -implicitDefEqProofs -dsimp only [go_sem,hg11,hg15]
     with_reducible refine exP.mk _ (callQ.plain (by simp -implicitDefEqProofs -dsimp only [go_sem,hg11,hg15]) (zep (zbC (by simp -implicitDefEqProofs -dsimp only [go_sem,hg11,hg15]) h10))) ?_
     try simp -implicitDefEqProofs -dsimp only [go_sem,hg11,hg15]
    ·try simp only [Bool.not_not] at hg15
     try simp -implicitDefEqProofs -dsimp only [go_sem,hg11,hg15]
  refine W.seq (W.block (W.sq [] [(1,.ptr 0 0 0),(3,.bool ((v1&&(v3||v5))||(v7&&v9))),(41,.bool ((p0.Op==1)||(p0.Op==7)))] [.cells (zav p0) 0 55] ?_))
  refine W.cn hm ?_ ?_ <;> clear hm <;> intro hb16 hm
  ·refine W.sq [] [(2,.bool (((v1&&(v3||v5))||(v7&&v9))&&(!p0.Lock)))] [] ?_
   cases hm
   exact W.rt
  ·replace ⟨v17,h18,hm⟩:=zai hm
   have kh18:=zgX h18
   try simp only [hb16] at kh18
   refine W.sa 1 [1,3,56] ?_
   refine W.cn hm ?_ ?_ <;> clear hm <;> intro hb19 hm
   ·replace ⟨v20,h21,hm⟩:=zai hm
    have kh21:=fun hg=>zcj (zbC hg h21)
    try simp only [hb16,hb19] at kh21
    refine W.sq [] [(2,.bool (((v1&&(v3||v5))||(v7&&v9))&&((!p0.Lock)||v20)))] [] ?_
    cases hm
    exact W.rt
   ·refine W.sq [] [(1,.ptr 0 0 0),(71,.bool ((p0.Op==8)||(p0.Op==9)))] [.cells (zav p0) 0 55] ?_
    refine W.cn hm ?_ ?_ <;> clear hm <;> intro hb22 hm
    ·replace ⟨v23,h24,hm⟩:=zai hm
     replace ⟨v25,h26,hm⟩:=zai hm
     have kh24:=zcj h24
     try simp only [hb16,hb19,hb22] at kh24
     have kh26:=fun hg=>zeo (zbC hg h26)
     try simp only [hb16,hb19,hb22] at kh26
     refine W.sq [] [(2,.bool ((v23&&v25)&&(p0.Lock==(p0.Op==9))))] [] ?_
     cases hm
     exact W.rt
    ·refine W.sq [] [(1,.ptr 0 0 0),(96,.bool (decide (p0.Op≥10)&&decide (p0.Op<=14)))] [.cells (zav p0) 0 55] ?_
     refine W.cn hm ?_ ?_ <;> clear hm <;> intro hb27 hm
     ·replace ⟨b28,h29,hm⟩:=zaR hm
      refine W.sq [] [(2,.bool b28)] [] ?_
      clear h29
      cases hm
      exact W.rt
     ·refine W.skip (W.sa 0 [2] ?_)
      cases hm
      exact W.rt
theorem zis{p0:zaj}{r:Int}(hm:zeq p0=some r):zaI Tryd.prog 57 [.agg [zi p0.Op,.bool p0.Lock,zi p0.Cond,zi p0.A.Kind,zi p0.A.Reg,zi p0.A.Sym,zi p0.A.N,zi p0.B.Kind,zi p0.B.Reg,zi p0.B.Sym,zi p0.B.N,.str p0.To,.sl (p0.zLb.map eStr)]] (zi r):=by
 rw [zeq] at hm
 refine zaI.of Tryd.func57 rfl Tryd.ntmps57 (Nat.le_of_ble_eq_true rfl) ?_
 refine W.sa 1 [1] ?_
 refine W.sq [] [(1,.ptr 0 0 0),(3,.bool ((p0.Op==10)||(p0.Op==11)))] [.cells (zav p0) 0 55] ?_
 refine W.seq ?_
 replace ⟨v1,h2,hm⟩:=zai hm
 replace ⟨b3,h4,hm⟩:=zaR hm
 have kh2:=ziU h2
 refine W.sqh [] [(1,.ptr 0 0 0),(3,.bool ((p0.Op==10)||(p0.Op==11))),(23,.bool b3)] ?_
 clear h4
 refine W.cn hm ?_ ?_ <;> clear hm <;> intro hb5 hm
 ·refine W.sa 0 [2] ?_
  cases hm
  exact W.rt
 ·refine W.skip (W.seq ?_)
  replace ⟨v6,h7,hm⟩:=zai hm
  have kh7:=fun hg=>zgV (zbC hg h7)
  try simp only [hb5] at kh7
  refine W.sq [] [(30,.bool (((p0.Op==10)||(p0.Op==11))&&(!v6)))] [] ?_
  refine W.cn hm ?_ ?_ <;> clear hm <;> intro hb8 hm
  ·refine W.sa 0 [2] ?_
   cases hm
   exact W.rt
  ·refine W.skip (W.sa 0 [2] ?_)
   cases hm
   exact W.rt
end Go.Proofs.YtocjejladeeckaaDoor
