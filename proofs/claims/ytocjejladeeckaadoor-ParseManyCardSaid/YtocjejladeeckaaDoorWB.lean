import Derived.Test.YtocjejladeeckaaDoorVFacts
import Derived.Test.YtocjejladeeckaaDoorVu3
import Derived.Test.YtocjejladeeckaaDoorPalB
import Derived.Test.YtocjejladeeckaaDoorWA
import Derived.Test.YtocjejladeeckaaDoorWUtf
set_option linter.all false
set_option maxRecDepth 100000
set_option maxHeartbeats 4000000
namespace Go.Proofs.YtocjejladeeckaaDoor
open Go.Vs
variable [TabU]
theorem zfb{p0:ByteArray}{r:(List zah)}(hm:zc4 p0=some r):zaT Tryd.prog 35 [.str p0] (.sl (r.map zal)):=by
 rw [zc4] at hm
 refine zaT.of Tryd.func35 rfl Tryd.ntmps35 (Nat.le_of_ble_eq_true rfl) ?_
 refine W.sa 0 [0] ?_
 refine W.sa 0 [0,3] ?_
 refine W.sa 0 [0,3,4,5] ?_
 refine W.seq (W.sa 1 [0,3,4,5,10] ?_)
 refine W.block ?_
 replace ⟨r56,hlr56,hm⟩:=zai hm
 refine W.mono (Q:=fun e0 s0 h0=>e0=.exit 0/\∃w:Nat,s0=[(3,zM 2 w 6 r56)]/\h0=[.dead,.dead,.rows (r56.map zal) 6 w 74]) (W.loopM (step:=zbN p0) (a0:=(1,1,0,[])) (fun (a:Int × Int × Nat × (List zah)) (v:Nat)=>([(0,.str p0),(3,zM 2 v 6 a.2.2.2),(4,zi a.1),(5,zi a.2.1),(10,.ptr 0 0 0)],[.siter p0 a.2.2.1,.dead,.rows (a.2.2.2.map zal) 6 v 74])) 0 hlr56 ⟨[],[]⟩ RO ?_) ?_
 ·rintro ⟨i35,i36,n37,l38⟩ w39 x hm hx
  rw [zbN] at hm
  show WK _ _ _ _ _ [(0,.str p0),(3,zM 2 w39 6 l38),(4,zi i35),(5,zi i36),(10,.ptr 0 0 0)] [.siter p0 n37,.dead,.rows (l38.map zal) 6 w39 74]
  by_cases hb57:n37<p0.size
  ·rw [if_pos hb57] at hm
   refine W.sa 3 [0,3,4,5,10,11,12] ?_
   refine W.seq (W.cnd true (fun _=>?_) (fun hx=>by cases hx))
   refine W.skip (W.block (W.sa 3 [0,3,4,5,6,7,10] ?_))
   refine W.sa 4 [0,3,4,5,6,7,8,10] ?_
   refine W.cut (fun s h=>∃(v:Int × Bool) (w:Unit) (F:Gs),zch l38 p0 n37 i35 i36 v.1 v.2=some x/\AT 0 F [(0,.str p0),(3,zM 2 w39 6 l38),(4,zi i35),(5,zi i36),(7,.int .i32 ((Utf8.decode p0 n37).1:Int)),(8,.ptr 3 0 0),(10,.ptr 0 0 0)] [.siter p0 (n37+(Utf8.decode p0 n37).2),.dead,.rows (l38.map zal) 6 w39 74,.cells [.int .i32 ((Utf8.decode p0 n37).1:Int),zi (n37:Int),zi v.1,zi i35,zi i36,.bool v.2] 0 74] s h) ?_ ?_
   ·refine W.sa 4 [0,3,4,5,6,7,8,10,21] ?_
    refine W.cn hm ?_ ?_ <;> clear hm <;> intro hb65 hm
    ·replace ⟨h66,hm⟩:=zaA hm
     replace ⟨v67,h68,hm⟩:=zai hm
     have kh68:=zcN h68
     try simp only [hb57,hb65] at kh68
     refine W.sa 4 [0,3,4,5,7,8,10] ?_
     refine W.rg [] [(0,.str p0),(3,zM 2 w39 6 l38),(4,zi i35),(5,zi i36),(7,.int .i32 ((Utf8.decode p0 n37).1:Int)),(8,.ptr 3 0 0),(10,.ptr 0 0 0)] [.siter p0 (n37+(Utf8.decode p0 n37).2),.dead,.rows (l38.map zal) 6 w39 74,.cells [.int .i32 ((Utf8.decode p0 n37).1:Int),zi (n37:Int),zi v67.2,zi i35,zi i36,.bool (v67.2==1)] 0 74] ?_
     exact ⟨(v67.2,(v67.2==1)),(),⟨[],[]⟩,hm,RO⟩
    ·replace ⟨v69,h70,hm⟩:=zai hm
     have kh70:=zeb h70
     try simp only [hb57,hb65] at kh70
     refine W.rg [] [(0,.str p0),(3,zM 2 w39 6 l38),(4,zi i35),(5,zi i36),(7,.int .i32 ((Utf8.decode p0 n37).1:Int)),(8,.ptr 3 0 0),(10,.ptr 0 0 0)] [.siter p0 (n37+(Utf8.decode p0 n37).2),.dead,.rows (l38.map zal) 6 w39 74,.cells [.int .i32 ((Utf8.decode p0 n37).1:Int),zi (n37:Int),zi v69,zi i35,zi i36,.bool false] 0 74] ?_
     exact ⟨(v69,false),(),⟨[],[]⟩,hm,RO⟩
   ·rintro s h ⟨⟨i58,b59⟩,_,F,hm,hat⟩
    refine W.weak F hat ?_
    show WK _ _ _ _ _ [(0,.str p0),(3,zM 2 w39 6 l38),(4,zi i35),(5,zi i36),(7,.int .i32 ((Utf8.decode p0 n37).1:Int)),(8,.ptr 3 0 0),(10,.ptr 0 0 0)] [.siter p0 (n37+(Utf8.decode p0 n37).2),.dead,.rows (l38.map zal) 6 w39 74,.cells [.int .i32 ((Utf8.decode p0 n37).1:Int),zi (n37:Int),zi i58,zi i35,zi i36,.bool b59] 0 74]
    rw [zch] at hm
    replace ⟨h60,hm⟩:=zaA hm
    replace ⟨l61,h62,hm⟩:=za8 hm
    refine W.sq [] [(0,.str p0),(3,.msl 2 (w39+1) 0 6 l61.length l61.length),(4,zi i35),(5,zi i36),(7,.int .i32 ((Utf8.decode p0 n37).1:Int)),(10,.ptr 0 0 0)] [.siter p0 (n37+(Utf8.decode p0 n37).2),.dead,.rows (l61.map zal) 6 (w39+1) 74] ?_
    clear h62
    replace ⟨v63,h64,hm⟩:=zai hm
    have kh64:=zfP h64
    try simp only [hb57] at kh64
    refine W.rg [] [(0,.str p0),(3,.msl 2 (w39+1) 0 6 l61.length l61.length),(4,zi v63.1),(5,zi v63.2),(10,.ptr 0 0 0)] [.siter p0 (n37+(Utf8.decode p0 n37).2),.dead,.rows (l61.map zal) 6 (w39+1) 74] ?_
    cases hm
    exact ⟨(v63.1,v63.2,(n37+(Utf8.decode p0 n37).2),l61),(w39+1),⟨[],[]⟩,rfl,RO⟩
  ·rw [if_neg hb57] at hm
   refine W.sa 3 [0,3,4,5,10,11,12] ?_
   refine W.seq (W.cnd false (fun hx=>by cases hx) (fun _=>?_))
   cases hm
   obtain rfl:=hx _ rfl
   exact W.wk ⟨[],[]⟩ [(3,zM 2 w39 6 l38)] [.dead,.dead,.rows (l38.map zal) 6 w39 74] (W.exit (show _/\_ from ⟨rfl,w39,rfl,rfl⟩))
 ·rintro e0 s0 h0 ⟨rfl,w55,rfl,rfl⟩
  show WK _ _ _ _ _ [(3,zM 2 w55 6 r56)] [.dead,.dead,.rows (r56.map zal) 6 w55 74]
  refine W.sa 3 [2] ?_
  cases hm
  exact W.ret (zeB.retW [2] RO)
theorem zie{r:(List ByteArray)}(hm:zeY =some r):zaT Tryd.prog 136 [] (.sl (r.map eStr)):=by
 rw [zeY] at hm
 refine zaT.of Tryd.func136 rfl Tryd.ntmps136 (Nat.le_of_ble_eq_true rfl) ?_
 refine W.sa 0 [] ?_
 replace ⟨l1,h2,hm⟩:=za8 hm
 refine W.sq [] [(0,.sl (l1.map eStr))] [] ?_
 clear h2
 cases hm
 exact W.rt
theorem zc8{p0:ByteArray}{r:Int × Bool}(hm:zcR p0=some r):zaT Tryd.prog 122 [.str p0] (.tuple [zi r.1,.bool r.2]):=by
 rw [zcR] at hm
 refine zaT.of Tryd.func122 rfl Tryd.ntmps122 (Nat.le_of_ble_eq_true rfl) ?_
 refine W.sa 0 [0] ?_
 refine W.seq ?_
 replace ⟨v1,h2,hm⟩:=zai hm
 have kh2:=zie h2
 refine W.sa 0 [0,6,7,8] ?_
 refine W.block ?_
 replace ⟨r14,hlr14,hm⟩:=zai hm
 refine W.mono (Q:=fun e0 s0 h0=>match r14 with | .inl e=>e0=.exit 0/\∃w:Unit,s0=[]/\h0=[] | .inr q=>e0=.ret/\s0=[(2,zi q.1),(3,.bool q.2)]/\h0=[]) (W.loopM (step:=zdL v1 p0) (a0:=0) (fun (a:Int) (v:Unit)=>([(0,.str p0),(6,.sl (v1.map eStr)),(7,zi (v1.length:Int)),(8,zi a)],[])) () hlr14 ⟨[],[]⟩ RO ?_) ?_
 ·rintro i10 _ x hm hx
  rw [zdL] at hm
  show WK _ _ _ _ _ [(0,.str p0),(6,.sl (v1.map eStr)),(7,zi (v1.length:Int)),(8,zi i10)] []
  refine W.sa 0 [0,6,7,8,9] ?_
  refine W.seq ?_
  refine W.cn hm ?_ ?_ <;> clear hm <;> intro hb15 hm
  ·refine W.skip (W.seq (W.block ?_))
   replace ⟨h16,hm⟩:=zaA hm
   refine W.sa 0 [0,4,5,6,7,8] ?_
   refine W.sa 0 [0,4,6,7,8,15] ?_
   refine W.cn hm ?_ ?_ <;> clear hm <;> intro hb17 hm
   ·refine W.sa 0 [2,3] ?_
    cases hm
    obtain rfl:=hx _ rfl
    exact W.wk ⟨[],[]⟩ [(2,zi i10),(3,.bool true)] [] (W.ret (show _/\_ from ⟨rfl,rfl,rfl⟩))
   ·refine W.skip (W.rg [] [(0,.str p0),(6,.sl (v1.map eStr)),(7,zi (v1.length:Int)),(8,zi (zw (i10+1)))] [] ?_)
    cases hm
    exact ⟨(zw (i10+1)),(),⟨[],[]⟩,rfl,RO⟩
  ·cases hm
   obtain rfl:=hx _ rfl
   exact W.wk ⟨[],[]⟩ [] [] (W.exit (show _/\_ from ⟨rfl,(),rfl,rfl⟩))
 ·intro e0 s0 h0 hq
  rcases r14 with er14 | qr14
  ·obtain ⟨rfl,_,rfl,rfl⟩:=hq
   replace hm:=zdK hm
   show WK _ _ _ _ _ [] []
   refine W.sa 0 [2,3] ?_
   cases hm
   exact W.rt
  ·obtain ⟨rfl,rfl,rfl⟩:=hq
   replace hm:=zdJ hm
   cases hm
   exact zeB.retW [] RO
theorem ziZ{r:(List ByteArray)}(hm:zfH =some r):zaT Tryd.prog 85 [] (.sl (r.map eStr)):=by
 rw [zfH] at hm
 refine zaT.of Tryd.func85 rfl Tryd.ntmps85 (Nat.le_of_ble_eq_true rfl) ?_
 refine W.sa 0 [] ?_
 replace ⟨l1,h2,hm⟩:=za8 hm
 refine W.sq [] [(0,.sl (l1.map eStr))] [] ?_
 clear h2
 cases hm
 exact W.rt
theorem zhn{r:(List ByteArray)}(hm:zeg =some r):zaT Tryd.prog 84 [] (.sl (r.map eStr)):=by
 rw [zeg] at hm
 refine zaT.of Tryd.func84 rfl Tryd.ntmps84 (Nat.le_of_ble_eq_true rfl) ?_
 refine W.sa 0 [] ?_
 replace ⟨l1,h2,hm⟩:=za8 hm
 refine W.sq [] [(0,.sl (l1.map eStr))] [] ?_
 clear h2
 cases hm
 exact W.rt
theorem zgT{p0:ByteArray}{r:Int × Int × Bool}(hm:zej p0=some r):zaT Tryd.prog 123 [.str p0] (.tuple [zi r.1,zi r.2.1,.bool r.2.2]):=by
 rw [zej] at hm
 refine zaT.of Tryd.func123 rfl Tryd.ntmps123 (Nat.le_of_ble_eq_true rfl) ?_
 refine W.sa 0 [0] ?_
 refine W.seq (W.sa 0 [0,10] ?_)
 refine W.cn hm ?_ ?_ <;> clear hm <;> intro hb1 hm
 ·refine W.sa 0 [2,3,4] ?_
  cases hm
  exact W.rt
 ·refine W.skip (W.seq ?_)
  replace ⟨v2,h3,hm⟩:=zai hm
  have kh3:=ziZ h3
  try simp only [hb1] at kh3
  refine W.sa 0 [0,11,12,13] ?_
  refine W.block ?_
  replace ⟨r15,hlr15,hm⟩:=zai hm
  refine W.mono (Q:=fun e0 s0 h0=>match r15 with | .inl e=>e0=.exit 0/\∃w:Unit,s0=[(0,.str p0)]/\h0=[] | .inr q=>e0=.ret/\s0=[(2,zi q.1),(3,zi q.2.1),(4,.bool q.2.2)]/\h0=[]) (W.loopM (step:=zei v2 p0) (a0:=0) (fun (a:Int) (v:Unit)=>([(0,.str p0),(11,.sl (v2.map eStr)),(12,zi (v2.length:Int)),(13,zi a)],[])) () hlr15 ⟨[],[]⟩ RO ?_) ?_
  ·rintro i11 _ x hm hx
   rw [zei] at hm
   show WK _ _ _ _ _ [(0,.str p0),(11,.sl (v2.map eStr)),(12,zi (v2.length:Int)),(13,zi i11)] []
   refine W.sa 0 [0,11,12,13,14] ?_
   refine W.seq ?_
   refine W.cn hm ?_ ?_ <;> clear hm <;> intro hb16 hm
   ·refine W.skip (W.seq (W.block ?_))
    replace ⟨h17,hm⟩:=zaA hm
    refine W.sa 0 [0,5,6,11,12,13] ?_
    refine W.sa 0 [0,5,11,12,13,20] ?_
    refine W.cn hm ?_ ?_ <;> clear hm <;> intro hb18 hm
    ·refine W.sa 0 [2,3,4] ?_
     cases hm
     obtain rfl:=hx _ rfl
     exact W.wk ⟨[],[]⟩ [(2,zi (zw (i11+1))),(3,zi 0),(4,.bool true)] [] (W.ret (show _/\_ from ⟨rfl,rfl,rfl⟩))
    ·refine W.skip (W.rg [] [(0,.str p0),(11,.sl (v2.map eStr)),(12,zi (v2.length:Int)),(13,zi (zw (i11+1)))] [] ?_)
     cases hm
     exact ⟨(zw (i11+1)),(),⟨[],[]⟩,rfl,RO⟩
   ·cases hm
    obtain rfl:=hx _ rfl
    exact W.wk ⟨[],[]⟩ [(0,.str p0)] [] (W.exit (show _/\_ from ⟨rfl,(),rfl,rfl⟩))
  ·intro e0 s0 h0 hq
   rcases r15 with er15 | qr15
   ·obtain ⟨rfl,_,rfl,rfl⟩:=hq
    replace hm:=zdK hm
    show WK _ _ _ _ _ [(0,.str p0)] []
    refine W.seq ?_
    replace ⟨v19,h20,hm⟩:=zai hm
    have kh20:=zhn h20
    try simp only [hb1] at kh20
    refine W.sa 0 [0,24,25,26] ?_
    refine W.block ?_
    replace ⟨r32,hlr32,hm⟩:=zai hm
    refine W.mono (Q:=fun e0 s0 h0=>match r32 with | .inl e=>e0=.exit 2/\∃w:Unit,s0=[]/\h0=[] | .inr q=>e0=.ret/\s0=[(2,zi q.1),(3,zi q.2.1),(4,.bool q.2.2)]/\h0=[]) (W.loopM (step:=zeh v19 p0) (a0:=0) (fun (a:Int) (v:Unit)=>([(0,.str p0),(24,.sl (v19.map eStr)),(25,zi (v19.length:Int)),(26,zi a)],[])) () hlr32 ⟨[],[]⟩ RO ?_) ?_
    ·rintro i28 _ x hm hx
     rw [zeh] at hm
     show WK _ _ _ _ _ [(0,.str p0),(24,.sl (v19.map eStr)),(25,zi (v19.length:Int)),(26,zi i28)] []
     refine W.sa 0 [0,24,25,26,27] ?_
     refine W.seq ?_
     refine W.cn hm ?_ ?_ <;> clear hm <;> intro hb33 hm
     ·refine W.skip (W.seq (W.block ?_))
      replace ⟨h34,hm⟩:=zaA hm
      refine W.sa 0 [0,7,8,24,25,26] ?_
      refine W.sa 0 [0,7,24,25,26,33] ?_
      refine W.cn hm ?_ ?_ <;> clear hm <;> intro hb35 hm
      ·refine W.sa 0 [2,3,4] ?_
       cases hm
       obtain rfl:=hx _ rfl
       exact W.wk ⟨[],[]⟩ [(2,zi 11),(3,zi (zw (i28+1))),(4,.bool true)] [] (W.ret (show _/\_ from ⟨rfl,rfl,rfl⟩))
      ·refine W.skip (W.rg [] [(0,.str p0),(24,.sl (v19.map eStr)),(25,zi (v19.length:Int)),(26,zi (zw (i28+1)))] [] ?_)
       cases hm
       exact ⟨(zw (i28+1)),(),⟨[],[]⟩,rfl,RO⟩
     ·cases hm
      obtain rfl:=hx _ rfl
      exact W.wk ⟨[],[]⟩ [] [] (W.exit (show _/\_ from ⟨rfl,(),rfl,rfl⟩))
    ·intro e0 s0 h0 hq
     rcases r32 with er32 | qr32
     ·obtain ⟨rfl,_,rfl,rfl⟩:=hq
      replace hm:=zdK hm
      show WK _ _ _ _ _ [] []
      refine W.sa 0 [2,3,4] ?_
      cases hm
      exact W.rt
     ·obtain ⟨rfl,rfl,rfl⟩:=hq
      replace hm:=zdJ hm
      cases hm
      exact zeB.retW [] RO
   ·obtain ⟨rfl,rfl,rfl⟩:=hq
    replace hm:=zdJ hm
    cases hm
    exact zeB.retW [] RO
theorem zcs{p0:ByteArray}{r:Bool}(hm:zcf p0=some r):zaT Tryd.prog 104 [.str p0] (.bool r):=by
 rw [zcf] at hm
 refine zaT.of Tryd.func104 rfl Tryd.ntmps104 (Nat.le_of_ble_eq_true rfl) ?_
 refine W.sa 0 [0] ?_
 refine W.seq ?_
 replace ⟨b1,h2,hm⟩:=za8 hm
 refine W.sq [] [(0,.str p0),(17,.bool b1)] [] ?_
 clear h2
 refine W.cn hm ?_ ?_ <;> clear hm <;> intro hb3 hm
 ·refine W.sa 0 [2] ?_
  cases hm
  exact W.rt
 ·refine W.skip (W.seq ?_)
  replace ⟨v4,h5,hm⟩:=zai hm
  have kh5:=zc8 h5
  try simp only [hb3] at kh5
  refine W.sa 0 [0,4] ?_
  refine W.sa 0 [0,23] ?_
  refine W.cn hm ?_ ?_ <;> clear hm <;> intro hb6 hm
  ·refine W.sa 0 [2] ?_
   cases hm
   exact W.rt
  ·refine W.skip ?_
   replace ⟨v7,h8,hm⟩:=zai hm
   have kh8:=zgT h8
   try simp only [hb3,hb6] at kh8
   refine W.sa 0 [7] ?_
   refine W.sa 0 [2] ?_
   cases hm
   exact W.rt
theorem zho{p0:ByteArray}{r:Bool}(hm:zdt p0=some r):zaT Tryd.prog 79 [.str p0] (.bool r):=by
 rw [zdt] at hm
 refine zaT.of Tryd.func79 rfl Tryd.ntmps79 (Nat.le_of_ble_eq_true rfl) ?_
 refine W.sa 0 [0] ?_
 refine W.sa 0 [0,3] ?_
 refine W.seq ?_
 replace ⟨v1,h2,hm⟩:=zai hm
 have kh2:=zfb h2
 refine W.sa 0 [0,3,7,8,9] ?_
 refine W.block ?_
 replace ⟨r29,hlr29,hm⟩:=zai hm
 refine W.mono (Q:=fun e0 s0 h0=>match r29 with | .inl e=>e0=.exit 0/\∃w:Unit,s0=[(0,.str p0),(3,zi e)]/\h0=[] | .inr q=>e0=.ret/\s0=[(2,.bool q)]/\h0=[]) (W.loopM (step:=zcg v1) (a0:=(0,0)) (fun (a:Int × Int) (v:Unit)=>([(0,.str p0),(3,zi a.1),(7,.sl (v1.map zal)),(8,zi (v1.length:Int)),(9,zi a.2)],[])) () hlr29 ⟨[],[]⟩ RO ?_) ?_
 ·rintro ⟨i19,i20⟩ _ x hm hx
  rw [zcg] at hm
  show WK _ _ _ _ _ [(0,.str p0),(3,zi i19),(7,.sl (v1.map zal)),(8,zi (v1.length:Int)),(9,zi i20)] []
  refine W.sa 0 [0,3,7,8,9,10] ?_
  refine W.seq ?_
  refine W.cn hm ?_ ?_ <;> clear hm <;> intro hb30 hm
  ·refine W.skip (W.seq (W.block ?_))
   replace ⟨h31,hm⟩:=zaA hm
   refine W.sa 1 [0,3,5,7,8,9] ?_
   refine W.seq ?_
   replace ⟨v32,h33,hm⟩:=zai hm
   replace ⟨v34,h35,hm⟩:=zai hm
   have kh33:=fun hg=>zdv (zb9 hg h33)
   try simp only [hb30] at kh33
   have kh35:=fun hg=>zdS (zb9 hg h35)
   try simp only [hb30] at kh35
   refine W.sq [] [(0,.str p0),(3,zi i19),(7,.sl (v1.map zal)),(8,zi (v1.length:Int)),(9,zi i20),(30,.bool ((rd v1 i20).Bad||((!v32)&&((i19==0)||(!v34)))))] [] ?_
   refine W.cn hm ?_ ?_ <;> clear hm <;> intro hb36 hm
   ·refine W.sa 0 [2] ?_
    cases hm
    obtain rfl:=hx _ rfl
    exact W.wk ⟨[],[]⟩ [(2,.bool false)] [] (W.ret (show _/\_ from ⟨rfl,rfl,rfl⟩))
   ·refine W.skip (W.rg [] [(0,.str p0),(3,zi (zw (i19+1))),(7,.sl (v1.map zal)),(8,zi (v1.length:Int)),(9,zi i20)] [] ?_)
    refine W.rg [] [(0,.str p0),(3,zi (zw (i19+1))),(7,.sl (v1.map zal)),(8,zi (v1.length:Int)),(9,zi (zw (i20+1)))] [] ?_
    cases hm
    exact ⟨((zw (i19+1)),(zw (i20+1))),(),⟨[],[]⟩,rfl,RO⟩
  ·cases hm
   obtain rfl:=hx _ rfl
   exact W.wk ⟨[],[]⟩ [(0,.str p0),(3,zi i19)] [] (W.exit (show _/\_ from ⟨rfl,(),rfl,rfl⟩))
 ·intro e0 s0 h0 hq
  rcases r29 with er29 | qr29
  ·obtain ⟨rfl,_,rfl,rfl⟩:=hq
   replace hm:=zdK hm
   show WK _ _ _ _ _ [(0,.str p0),(3,zi er29)] []
   replace ⟨v37,h38,hm⟩:=zai hm
   have kh38:=fun hg=>zcs (zb9 hg h38)
   refine W.sqh [] [(2,.bool ((decide (er29≥1)&&decide (er29<=16))&&(!v37)))] ?_
   cases hm
   exact W.rt
  ·obtain ⟨rfl,rfl,rfl⟩:=hq
   replace hm:=zdJ hm
   cases hm
   exact zeB.retW [] RO
theorem zer{p0:Int}{r:Bool}(hm:zcQ p0=some r):zaT Tryd.prog 129 [zi p0] (.bool r):=by
 rw [zcQ] at hm
 refine zaT.of Tryd.func129 rfl Tryd.ntmps129 (Nat.le_of_ble_eq_true rfl) ?_
 refine W.sa 0 [0] ?_
 refine W.sq [] [(2,.bool (decide (p0≥0)&&decide (p0<=7)))] [] ?_
 cases hm
 exact W.rt
theorem zfF{p0:zav}{r:Bool}(hm:zdk p0=some r):zaT Tryd.prog 113 [.agg [zi p0.Kind,zi p0.Reg,zi p0.Sym,zi p0.N]] (.bool r):=by
 rw [zdk] at hm
 refine zaT.of Tryd.func113 rfl Tryd.ntmps113 (Nat.le_of_ble_eq_true rfl) ?_
 refine W.sa 1 [1] ?_
 refine W.seq (W.sa 1 [1,4] ?_)
 refine W.block (W.sa 1 [1,4,5] ?_)
 refine W.cn hm ?_ ?_ <;> clear hm <;> intro hb1 hm
 ·replace ⟨v2,h3,hm⟩:=zai hm
  have kh3:=zer h3
  try simp only [hb1] at kh3
  refine W.sq [] [(2,.bool ((v2&&(p0.Sym==0))&&(p0.N==0)))] [] ?_
  cases hm
  exact W.rt
 ·refine W.sa 1 [1,4,20] ?_
  refine W.cn hm ?_ ?_ <;> clear hm <;> intro hb4 hm
  ·refine W.sq [] [(2,.bool ((p0.Reg==0)&&(p0.Sym==0)))] [] ?_
   cases hm
   exact W.rt
  ·refine W.sa 1 [1,4,30] ?_
   refine W.cn hm ?_ ?_ <;> clear hm <;> intro hb5 hm
   ·refine W.sq [] [(2,.bool ((decide (p0.Sym≥0)&&decide (p0.N≥0))&&(p0.Reg==0)))] [] ?_
    cases hm
    exact W.rt
   ·refine W.sa 1 [1,45] ?_
    refine W.cn hm ?_ ?_ <;> clear hm <;> intro hb6 hm
    ·replace ⟨v7,h8,hm⟩:=zai hm
     have kh8:=fun hg=>zer (zb9 hg h8)
     try simp only [hb1,hb4,hb5,hb6] at kh8
     refine W.sq [] [(2,.bool ((decide (p0.Sym≥0)&&v7)&&(p0.N==0)))] [] ?_
     cases hm
     exact W.rt
    ·refine W.skip (W.sa 0 [2] ?_)
     cases hm
     exact W.rt
theorem zhF{p0:zav}{r:za9 × Bool}(hm:zf2 p0=some r):zaT Tryd.prog 86 [.agg [zi p0.Kind,zi p0.Reg,zi p0.Sym,zi p0.N]] (.tuple [zbn r.1,.bool r.2]):=by
 rw [zf2] at hm
 refine zaT.of Tryd.func86 rfl Tryd.ntmps86 (Nat.le_of_ble_eq_true rfl) ?_
 refine W.sa 1 [1] ?_
 refine W.seq ?_
 replace ⟨v1,h2,hm⟩:=zai hm
 have kh2:=zfF h2
 refine W.sa 1 [1,6] ?_
 refine W.cn hm ?_ ?_ <;> clear hm <;> intro hb3 hm
 ·refine W.sa 0 [2,3] ?_
  cases hm
  exact W.rt
 ·refine W.skip (W.seq (W.sa 1 [1,8] ?_))
  refine W.block (W.sa 1 [1,8,9] ?_)
  refine W.cn hm ?_ ?_ <;> clear hm <;> intro hb4 hm
  ·refine W.sa 0 [2,3] ?_
   cases hm
   exact W.rt
  ·refine W.sa 1 [1,8,15] ?_
   refine W.cn hm ?_ ?_ <;> clear hm <;> intro hb5 hm
   ·refine W.sa 0 [2,3] ?_
    cases hm
    exact W.rt
   ·refine W.sa 1 [1,21] ?_
    refine W.cn hm ?_ ?_ <;> clear hm <;> intro hb6 hm
    ·refine W.sa 0 [2,3] ?_
     cases hm
     exact W.rt
    ·refine W.skip (W.sa 0 [2,3] ?_)
     cases hm
     exact W.rt
theorem zeM{p0:zav}{r:Bool}(hm:zcM p0=some r):zaT Tryd.prog 109 [.agg [zi p0.Kind,zi p0.Reg,zi p0.Sym,zi p0.N]] (.bool r):=by
 rw [zcM] at hm
 refine zaT.of Tryd.func109 rfl Tryd.ntmps109 (Nat.le_of_ble_eq_true rfl) ?_
 refine W.sa 1 [1] ?_
 replace ⟨v1,h2,hm⟩:=zai hm
 have kh2:=zhF h2
 try simp only [zde,zcA,zcB,zcK,zcJ] at kh2
 refine W.sa 0 [3,4] ?_
 refine W.seq (W.sa 0 [3,13] ?_)
 refine W.cn hm ?_ ?_ <;> clear hm <;> intro hb3 hm
 ·refine W.sa 0 [2] ?_
  cases hm
  exact W.rt
 ·refine W.skip ?_
  replace ⟨z4,h5,hm⟩:=za8 hm
  rw [← h5]
  clear h5
  cases z4 with
  | nil =>
   dsimp only at hm
   show WK _ _ _ _ _ [(3,.nili),(13,.bool (!v1.2))] []
   refine W.sa 0 [6] ?_
   refine W.sa 0 [2] ?_
   cases hm
   exact W.rt
  | RegPart x6 =>
   dsimp only at hm
   show WK _ _ _ _ _ [(3,.iface 145 (.agg [zi x6.Reg])),(13,.bool (!v1.2))] []
   refine W.sa 0 [6] ?_
   refine W.sa 0 [2] ?_
   cases hm
   exact W.rt
  | NumPart x7 =>
   dsimp only at hm
   show WK _ _ _ _ _ [(3,.iface 147 (.agg [zi x7.N])),(13,.bool (!v1.2))] []
   refine W.sa 0 [6] ?_
   refine W.sa 0 [2] ?_
   cases hm
   exact W.rt
  | AtPart x8 =>
   dsimp only at hm
   show WK _ _ _ _ _ [(3,.iface 149 (.agg [zi x8.Sym,zi x8.N])),(13,.bool (!v1.2))] []
   refine W.sa 0 [6] ?_
   refine W.sa 0 [2] ?_
   cases hm
   exact W.rt
  | ByPart x9 =>
   dsimp only at hm
   show WK _ _ _ _ _ [(3,.iface 151 (.agg [zi x9.Sym,zi x9.Reg])),(13,.bool (!v1.2))] []
   refine W.sa 0 [6] ?_
   refine W.sa 0 [2] ?_
   cases hm
   exact W.rt
theorem zhk{p0:za9}{r:Int × Bool}(hm:zef p0=some r):zaT Tryd.prog 128 [zbn p0] (.tuple [zi r.1,.bool r.2]):=by
 rw [zef.eq_def] at hm
 refine zaT.of Tryd.func128 rfl Tryd.ntmps128 (Nat.le_of_ble_eq_true rfl) ?_
 refine W.sa 0 [0] ?_
 refine W.seq ?_
 cases p0 with
 | nil =>
  dsimp only at hm
  show WK _ _ _ _ _ [(0,.nili)] []
  refine W.sa 1 [0,4,5] ?_
  refine W.sa 1 [0,4,13] ?_
  refine W.cnd false (fun hx=>by cases hx) (fun _=>?_)
  refine W.skip (W.sa 2 [6,7] ?_)
  refine W.sa 0 [2,3] ?_
  cases hm
  exact W.rt
 | RegPart x1 =>
  dsimp only at hm
  show WK _ _ _ _ _ [(0,.iface 145 (.agg [zi x1.Reg]))] []
  refine W.sa 1 [0,4,5] ?_
  refine W.sa 1 [0,4,13] ?_
  refine W.cnd false (fun hx=>by cases hx) (fun _=>?_)
  refine W.skip (W.sa 2 [6,7] ?_)
  refine W.sa 0 [2,3] ?_
  cases hm
  exact W.rt
 | NumPart x2 =>
  dsimp only at hm
  show WK _ _ _ _ _ [(0,.iface 147 (.agg [zi x2.N]))] []
  refine W.sa 1 [0,4,5] ?_
  refine W.sa 1 [0,4,13] ?_
  refine W.cnd false (fun hx=>by cases hx) (fun _=>?_)
  refine W.skip (W.sa 2 [6,7] ?_)
  refine W.sa 0 [2,3] ?_
  cases hm
  exact W.rt
 | AtPart x3 =>
  dsimp only at hm
  show WK _ _ _ _ _ [(0,.iface 149 (.agg [zi x3.Sym,zi x3.N]))] []
  refine W.sa 1 [0,4,5] ?_
  refine W.sa 1 [0,4,13] ?_
  refine W.cnd true (fun _=>?_) (fun hx=>by cases hx)
  refine W.sa 0 [2,3] ?_
  cases hm
  exact W.rt
 | ByPart x4 =>
  dsimp only at hm
  show WK _ _ _ _ _ [(0,.iface 151 (.agg [zi x4.Sym,zi x4.Reg]))] []
  refine W.sa 1 [0,4,5] ?_
  refine W.sa 1 [0,4,13] ?_
  refine W.cnd false (fun hx=>by cases hx) (fun _=>?_)
  refine W.skip (W.sa 2 [6,7] ?_)
  refine W.sa 0 [2,3] ?_
  cases hm
  exact W.rt
theorem zcu{p0:zav}{r:Bool}(hm:zcv p0=some r):zaT Tryd.prog 111 [.agg [zi p0.Kind,zi p0.Reg,zi p0.Sym,zi p0.N]] (.bool r):=by
 rw [zcv] at hm
 refine zaT.of Tryd.func111 rfl Tryd.ntmps111 (Nat.le_of_ble_eq_true rfl) ?_
 refine W.sa 1 [1] ?_
 replace ⟨v1,h2,hm⟩:=zai hm
 have kh2:=zhF h2
 try simp only [zde,zcA,zcB,zcK,zcJ] at kh2
 refine W.sa 0 [3,4] ?_
 refine W.seq (W.sa 0 [3,13] ?_)
 refine W.cn hm ?_ ?_ <;> clear hm <;> intro hb3 hm
 ·refine W.sa 0 [2] ?_
  cases hm
  exact W.rt
 ·refine W.skip ?_
  replace ⟨v4,h5,hm⟩:=zai hm
  have kh5:=zhk h5
  try simp only [hb3] at kh5
  try simp only [zde,zcA,zcB,zcK,zcJ] at kh5
  refine W.sa 0 [6] ?_
  refine W.sa 0 [2] ?_
  cases hm
  exact W.rt
theorem zeN{p0:zav}{r:Bool}(hm:zd6 p0=some r):zaT Tryd.prog 110 [.agg [zi p0.Kind,zi p0.Reg,zi p0.Sym,zi p0.N]] (.bool r):=by
 rw [zd6] at hm
 refine zaT.of Tryd.func110 rfl Tryd.ntmps110 (Nat.le_of_ble_eq_true rfl) ?_
 refine W.sa 1 [1] ?_
 replace ⟨v1,h2,hm⟩:=zai hm
 replace ⟨v3,h4,hm⟩:=zai hm
 have kh2:=zfF h2
 have kh4:=fun hg=>zcu (zb9 hg h4)
 refine W.sq [] [(2,.bool (v1&&(!v3)))] [] ?_
 cases hm
 exact W.rt
theorem zhr{p0:Int}{r:Bool}(hm:zel p0=some r):zaT Tryd.prog 112 [zi p0] (.bool r):=by
 rw [zel] at hm
 refine zaT.of Tryd.func112 rfl Tryd.ntmps112 (Nat.le_of_ble_eq_true rfl) ?_
 refine W.sa 0 [0] ?_
 refine W.sq [] [(2,.bool (decide (p0≥2)&&decide (p0<=6)))] [] ?_
 cases hm
 exact W.rt
theorem zjJ{p0:zak}{r:Bool}(hm:zfO p0=some r):zaT Tryd.prog 83 [.agg [zi p0.Op,.bool p0.Lock,zi p0.Cond,zi p0.A.Kind,zi p0.A.Reg,zi p0.A.Sym,zi p0.A.N,zi p0.B.Kind,zi p0.B.Reg,zi p0.B.Sym,zi p0.B.N,.str p0.To,.sl (p0.zLb.map eStr)]] (.bool r):=by
 rw [zfO] at hm
 refine zaT.of Tryd.func83 rfl Tryd.ntmps83 (Nat.le_of_ble_eq_true rfl) ?_
 refine W.sa 1 [1] ?_
 refine W.cut (fun s h=>∃(v:Unit) (w:Unit) (F:Gs),zc3 p0=some r/\AT 0 F [(1,.ptr 0 0 0)] [.cells (zax p0) 0 55] s h) ?_ ?_
 ·refine W.sa 1 [1,6] ?_
  refine W.cn hm ?_ ?_ <;> clear hm <;> intro hb30 hm
  ·refine W.sq [] [(1,.ptr 0 0 0),(14,.bool (decide (p0.Cond<1)||decide (p0.Cond>10)))] [.cells (zax p0) 0 55] ?_
   refine W.cn hm ?_ ?_ <;> clear hm <;> intro hb31 hm
   ·refine W.sa 0 [2] ?_
    cases hm
    exact W.rt
   ·refine W.skip ?_
    exact ⟨(),(),⟨[],[]⟩,hm,RO⟩
  ·refine W.sa 1 [1,17] ?_
   refine W.cn hm ?_ ?_ <;> clear hm <;> intro hb32 hm
   ·refine W.sa 0 [2] ?_
    cases hm
    exact W.rt
   ·refine W.skip ?_
    exact ⟨(),(),⟨[],[]⟩,hm,RO⟩
 ·rintro s h ⟨_,_,F,hm,hat⟩
  refine W.weak F hat ?_
  show WK _ _ _ _ _ [(1,.ptr 0 0 0)] [.cells (zax p0) 0 55]
  rw [zc3] at hm
  replace ⟨v1,h2,hm⟩:=zai hm
  replace ⟨v3,h4,hm⟩:=zai hm
  replace ⟨v5,h6,hm⟩:=zai hm
  replace ⟨v7,h8,hm⟩:=zai hm
  replace ⟨v9,h10,hm⟩:=zai hm
  refine W.sqh [] [(1,.ptr 0 0 0),(3,.bool ((v1&&(v3||v5))||(v7&&v9)))] ?_ (hrun:=?_)
  rotate_left
  ·try simp -implicitDefEqProofs -dsimp only [go_sem]
   with_reducible refine exP.mk _ (callQ.plain (by simp -implicitDefEqProofs -dsimp only [go_sem]) (zeM h2)) ?_
   try simp -implicitDefEqProofs -dsimp only [go_sem]
   refine zc7 (fun hg11=>?_) (fun hg11=>?_)
   ·try simp -implicitDefEqProofs -dsimp only [go_sem,hg11]
    with_reducible refine exP.mk _ (callQ.plain (by simp -implicitDefEqProofs -dsimp only [go_sem,hg11]) (zeN (zb9 (by simp -implicitDefEqProofs -dsimp only [go_sem,hg11]) h4))) ?_
    try simp -implicitDefEqProofs -dsimp only [go_sem,hg11]
    refine zd0 (fun hg12=>?_) (fun hg12=>?_)
    ·try simp only [Bool.not_not] at hg12
     try simp -implicitDefEqProofs -dsimp only [go_sem,hg11,hg12]
     with_reducible refine exP.mk _ (callQ.plain (by simp -implicitDefEqProofs -dsimp only [go_sem,hg11,hg12]) (zcu (zb9 (by simp -implicitDefEqProofs -dsimp only [go_sem,hg11,hg12]) h6))) ?_
     try simp -implicitDefEqProofs -dsimp only [go_sem,hg11,hg12]
     refine zd0 (fun hg13=>?_) (fun hg13=>?_)
     ·try simp only [Bool.not_not] at hg13
      try simp -implicitDefEqProofs -dsimp only [go_sem,hg11,hg12,hg13]
      with_reducible refine exP.mk _ (callQ.plain (by simp -implicitDefEqProofs -dsimp only [go_sem,hg11,hg12,hg13]) (zcu (zb9 (by simp -implicitDefEqProofs -dsimp only [go_sem,hg11,hg12,hg13]) h8))) ?_
      try simp -implicitDefEqProofs -dsimp only [go_sem,hg11,hg12,hg13]
      refine zc7 (fun hg14=>?_) (fun hg14=>?_)
      ·try simp only [Bool.not_not] at hg14
       try simp -implicitDefEqProofs -dsimp only [go_sem,hg11,hg12,hg13,hg14]
       with_reducible refine exP.mk _ (callQ.plain (by simp -implicitDefEqProofs -dsimp only [go_sem,hg11,hg12,hg13,hg14]) (zeN (zb9 (by simp -implicitDefEqProofs -dsimp only [go_sem,hg11,hg12,hg13,hg14]) h10))) ?_
       try simp -implicitDefEqProofs -dsimp only [go_sem,hg11,hg12,hg13,hg14]
      ·try simp only [Bool.not_not] at hg14
       try simp -implicitDefEqProofs -dsimp only [go_sem,hg11,hg12,hg13,hg14]
     ·try simp only [Bool.not_not] at hg13
      try simp -implicitDefEqProofs -dsimp only [go_sem,hg11,hg12,hg13]
    ·try simp only [Bool.not_not] at hg12
     try simp -implicitDefEqProofs -dsimp only [go_sem,hg11,hg12]
   ·try simp -implicitDefEqProofs -dsimp only [go_sem,hg11]
    with_reducible refine exP.mk _ (callQ.plain (by simp -implicitDefEqProofs -dsimp only [go_sem,hg11]) (zcu (zb9 (by simp -implicitDefEqProofs -dsimp only [go_sem,hg11]) h8))) ?_
    try simp -implicitDefEqProofs -dsimp only [go_sem,hg11]
    refine zc7 (fun hg15=>?_) (fun hg15=>?_)
    ·try simp only [Bool.not_not] at hg15
     try simp -implicitDefEqProofs -dsimp only [go_sem,hg11,hg15]
     with_reducible refine exP.mk _ (callQ.plain (by simp -implicitDefEqProofs -dsimp only [go_sem,hg11,hg15]) (zeN (zb9 (by simp -implicitDefEqProofs -dsimp only [go_sem,hg11,hg15]) h10))) ?_
     try simp -implicitDefEqProofs -dsimp only [go_sem,hg11,hg15]
    ·try simp only [Bool.not_not] at hg15
     try simp -implicitDefEqProofs -dsimp only [go_sem,hg11,hg15]
  refine W.seq (W.block (W.sq [] [(1,.ptr 0 0 0),(3,.bool ((v1&&(v3||v5))||(v7&&v9))),(41,.bool ((p0.Op==1)||(p0.Op==7)))] [.cells (zax p0) 0 55] ?_))
  refine W.cn hm ?_ ?_ <;> clear hm <;> intro hb16 hm
  ·refine W.sq [] [(2,.bool (((v1&&(v3||v5))||(v7&&v9))&&(!p0.Lock)))] [] ?_
   cases hm
   exact W.rt
  ·replace ⟨v17,h18,hm⟩:=zai hm
   have kh18:=zhr h18
   try simp only [hb16] at kh18
   refine W.sa 1 [1,3,56] ?_
   refine W.cn hm ?_ ?_ <;> clear hm <;> intro hb19 hm
   ·replace ⟨v20,h21,hm⟩:=zai hm
    have kh21:=fun hg=>zcu (zb9 hg h21)
    try simp only [hb16,hb19] at kh21
    refine W.sq [] [(2,.bool (((v1&&(v3||v5))||(v7&&v9))&&((!p0.Lock)||v20)))] [] ?_
    cases hm
    exact W.rt
   ·refine W.sq [] [(1,.ptr 0 0 0),(71,.bool ((p0.Op==8)||(p0.Op==9)))] [.cells (zax p0) 0 55] ?_
    refine W.cn hm ?_ ?_ <;> clear hm <;> intro hb22 hm
    ·replace ⟨v23,h24,hm⟩:=zai hm
     replace ⟨v25,h26,hm⟩:=zai hm
     have kh24:=zcu h24
     try simp only [hb16,hb19,hb22] at kh24
     have kh26:=fun hg=>zeM (zb9 hg h26)
     try simp only [hb16,hb19,hb22] at kh26
     refine W.sq [] [(2,.bool ((v23&&v25)&&(p0.Lock==(p0.Op==9))))] [] ?_
     cases hm
     exact W.rt
    ·refine W.sq [] [(1,.ptr 0 0 0),(96,.bool (decide (p0.Op≥10)&&decide (p0.Op<=14)))] [.cells (zax p0) 0 55] ?_
     refine W.cn hm ?_ ?_ <;> clear hm <;> intro hb27 hm
     ·replace ⟨b28,h29,hm⟩:=za8 hm
      refine W.sq [] [(2,.bool b28)] [] ?_
      clear h29
      cases hm
      exact W.rt
     ·refine W.skip (W.sa 0 [2] ?_)
      cases hm
      exact W.rt
theorem zi9{p0:zak}{r:Int}(hm:zeO p0=some r):zaT Tryd.prog 57 [.agg [zi p0.Op,.bool p0.Lock,zi p0.Cond,zi p0.A.Kind,zi p0.A.Reg,zi p0.A.Sym,zi p0.A.N,zi p0.B.Kind,zi p0.B.Reg,zi p0.B.Sym,zi p0.B.N,.str p0.To,.sl (p0.zLb.map eStr)]] (zi r):=by
 rw [zeO] at hm
 refine zaT.of Tryd.func57 rfl Tryd.ntmps57 (Nat.le_of_ble_eq_true rfl) ?_
 refine W.sa 1 [1] ?_
 refine W.sq [] [(1,.ptr 0 0 0),(3,.bool ((p0.Op==10)||(p0.Op==11)))] [.cells (zax p0) 0 55] ?_
 refine W.seq ?_
 replace ⟨v1,h2,hm⟩:=zai hm
 replace ⟨b3,h4,hm⟩:=za8 hm
 have kh2:=zjJ h2
 refine W.sqh [] [(1,.ptr 0 0 0),(3,.bool ((p0.Op==10)||(p0.Op==11))),(23,.bool b3)] ?_
 clear h4
 refine W.cn hm ?_ ?_ <;> clear hm <;> intro hb5 hm
 ·refine W.sa 0 [2] ?_
  cases hm
  exact W.rt
 ·refine W.skip (W.seq ?_)
  replace ⟨v6,h7,hm⟩:=zai hm
  have kh7:=fun hg=>zho (zb9 hg h7)
  try simp only [hb5] at kh7
  refine W.sq [] [(30,.bool (((p0.Op==10)||(p0.Op==11))&&(!v6)))] [] ?_
  refine W.cn hm ?_ ?_ <;> clear hm <;> intro hb8 hm
  ·refine W.sa 0 [2] ?_
   cases hm
   exact W.rt
  ·refine W.skip (W.sa 0 [2] ?_)
   cases hm
   exact W.rt
end Go.Proofs.YtocjejladeeckaaDoor
