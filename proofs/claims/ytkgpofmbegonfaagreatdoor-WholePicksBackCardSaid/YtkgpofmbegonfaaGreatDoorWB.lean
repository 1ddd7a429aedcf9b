import Derived.Test.YtkgpofmbegonfaaGreatDoorVFacts
import Derived.Test.YtkgpofmbegonfaaGreatDoorVu3
import Derived.Test.YtkgpofmbegonfaaGreatDoorPalB
import Derived.Test.YtkgpofmbegonfaaGreatDoorWA
import Derived.Test.YtkgpofmbegonfaaGreatDoorWUtf
set_option linter.all false
set_option maxRecDepth 100000
set_option maxHeartbeats 4000000
namespace Go.Proofs.YtkgpofmbegonfaaGreatDoor
open Go.Vs
variable [TabU]
theorem zfm{p0:ByteArray}{r:(List zam)}(hm:zdq p0=some r):zaO Tryz.prog 99 [.str p0] (.sl (r.map zal)):=by
 rw [zdq] at hm
 refine zaO.of Tryz.func99 rfl Tryz.ntmps99 (Nat.le_of_ble_eq_true rfl) ?_
 refine W.sa 0 [0] ?_
 refine W.sa 0 [0,3] ?_
 refine W.sa 0 [0,3,4,5] ?_
 refine W.seq (W.sa 1 [0,3,4,5,10] ?_)
 refine W.block ?_
 replace ⟨r56,hlr56,hm⟩:=zai hm
 refine W.mono (Q:=fun e0 s0 h0=>e0=.exit 0/\∃w:Nat,s0=[(3,zM 2 w 6 r56)]/\h0=[.dead,.dead,.rows (r56.map zal) 6 w 186]) (W.loopM (step:=zbX p0) (a0:=(1,1,0,[])) (fun (a:Int × Int × Nat × (List zam)) (v:Nat)=>([(0,.str p0),(3,zM 2 v 6 a.2.2.2),(4,zi a.1),(5,zi a.2.1),(10,.ptr 0 0 0)],[.siter p0 a.2.2.1,.dead,.rows (a.2.2.2.map zal) 6 v 186])) 0 hlr56 ⟨[],[]⟩ RO ?_) ?_
 ·rintro ⟨i35,i36,n37,l38⟩ w39 x hm hx
  rw [zbX] at hm
  show WK _ _ _ _ _ [(0,.str p0),(3,zM 2 w39 6 l38),(4,zi i35),(5,zi i36),(10,.ptr 0 0 0)] [.siter p0 n37,.dead,.rows (l38.map zal) 6 w39 186]
  by_cases hb57:n37<p0.size
  ·rw [if_pos hb57] at hm
   refine W.sa 3 [0,3,4,5,10,11,12] ?_
   refine W.seq (W.cnd true (fun _=>?_) (fun hx=>by cases hx))
   refine W.skip (W.block (W.sa 3 [0,3,4,5,6,7,10] ?_))
   refine W.sa 4 [0,3,4,5,6,7,8,10] ?_
   refine W.cut (fun s h=>∃(v:Int × Bool) (w:Unit) (F:Gs),zcp l38 p0 n37 i35 i36 v.1 v.2=some x/\AT 0 F [(0,.str p0),(3,zM 2 w39 6 l38),(4,zi i35),(5,zi i36),(7,.int .i32 ((Utf8.decode p0 n37).1:Int)),(8,.ptr 3 0 0),(10,.ptr 0 0 0)] [.siter p0 (n37+(Utf8.decode p0 n37).2),.dead,.rows (l38.map zal) 6 w39 186,.cells [.int .i32 ((Utf8.decode p0 n37).1:Int),zi (n37:Int),zi v.1,zi i35,zi i36,.bool v.2] 0 186] s h) ?_ ?_
   ·refine W.sa 4 [0,3,4,5,6,7,8,10,21] ?_
    refine W.cn hm ?_ ?_ <;> clear hm <;> intro hb65 hm
    ·replace ⟨h66,hm⟩:=zaA hm
     replace ⟨v67,h68,hm⟩:=zai hm
     have kh68:=zc5 h68
     try simp only [hb57,hb65] at kh68
     refine W.sa 4 [0,3,4,5,7,8,10] ?_
     refine W.rg [] [(0,.str p0),(3,zM 2 w39 6 l38),(4,zi i35),(5,zi i36),(7,.int .i32 ((Utf8.decode p0 n37).1:Int)),(8,.ptr 3 0 0),(10,.ptr 0 0 0)] [.siter p0 (n37+(Utf8.decode p0 n37).2),.dead,.rows (l38.map zal) 6 w39 186,.cells [.int .i32 ((Utf8.decode p0 n37).1:Int),zi (n37:Int),zi v67.2,zi i35,zi i36,.bool (v67.2==1)] 0 186] ?_
     exact ⟨(v67.2,(v67.2==1)),(),⟨[],[]⟩,hm,RO⟩
    ·replace ⟨v69,h70,hm⟩:=zai hm
     have kh70:=zes h70
     try simp only [hb57,hb65] at kh70
     refine W.rg [] [(0,.str p0),(3,zM 2 w39 6 l38),(4,zi i35),(5,zi i36),(7,.int .i32 ((Utf8.decode p0 n37).1:Int)),(8,.ptr 3 0 0),(10,.ptr 0 0 0)] [.siter p0 (n37+(Utf8.decode p0 n37).2),.dead,.rows (l38.map zal) 6 w39 186,.cells [.int .i32 ((Utf8.decode p0 n37).1:Int),zi (n37:Int),zi v69,zi i35,zi i36,.bool false] 0 186] ?_
     exact ⟨(v69,false),(),⟨[],[]⟩,hm,RO⟩
   ·rintro s h ⟨⟨i58,b59⟩,_,F,hm,hat⟩
    refine W.weak F hat ?_
    show WK _ _ _ _ _ [(0,.str p0),(3,zM 2 w39 6 l38),(4,zi i35),(5,zi i36),(7,.int .i32 ((Utf8.decode p0 n37).1:Int)),(8,.ptr 3 0 0),(10,.ptr 0 0 0)] [.siter p0 (n37+(Utf8.decode p0 n37).2),.dead,.rows (l38.map zal) 6 w39 186,.cells [.int .i32 ((Utf8.decode p0 n37).1:Int),zi (n37:Int),zi i58,zi i35,zi i36,.bool b59] 0 186]
    rw [zcp] at hm
    replace ⟨h60,hm⟩:=zaA hm
    replace ⟨l61,h62,hm⟩:=zaY hm
    refine W.sq [] [(0,.str p0),(3,.msl 2 (w39+1) 0 6 l61.length l61.length),(4,zi i35),(5,zi i36),(7,.int .i32 ((Utf8.decode p0 n37).1:Int)),(10,.ptr 0 0 0)] [.siter p0 (n37+(Utf8.decode p0 n37).2),.dead,.rows (l61.map zal) 6 (w39+1) 186] ?_
    clear h62
    replace ⟨v63,h64,hm⟩:=zai hm
    have kh64:=zf0 h64
    try simp only [hb57] at kh64
    refine W.rg [] [(0,.str p0),(3,.msl 2 (w39+1) 0 6 l61.length l61.length),(4,zi v63.1),(5,zi v63.2),(10,.ptr 0 0 0)] [.siter p0 (n37+(Utf8.decode p0 n37).2),.dead,.rows (l61.map zal) 6 (w39+1) 186] ?_
    cases hm
    exact ⟨(v63.1,v63.2,(n37+(Utf8.decode p0 n37).2),l61),(w39+1),⟨[],[]⟩,rfl,RO⟩
  ·rw [if_neg hb57] at hm
   refine W.sa 3 [0,3,4,5,10,11,12] ?_
   refine W.seq (W.cnd false (fun hx=>by cases hx) (fun _=>?_))
   cases hm
   obtain rfl:=hx _ rfl
   exact W.wk ⟨[],[]⟩ [(3,zM 2 w39 6 l38)] [.dead,.dead,.rows (l38.map zal) 6 w39 186] (W.exit (show _/\_ from ⟨rfl,w39,rfl,rfl⟩))
 ·rintro e0 s0 h0 ⟨rfl,w55,rfl,rfl⟩
  show WK _ _ _ _ _ [(3,zM 2 w55 6 r56)] [.dead,.dead,.rows (r56.map zal) 6 w55 186]
  refine W.sa 3 [2] ?_
  cases hm
  exact W.ret (zcB.retW [2] RO)
theorem ziH{r:(List ByteArray)}(hm:ze7 =some r):zaO Tryz.prog 232 [] (.sl (r.map eStr)):=by
 rw [ze7] at hm
 refine zaO.of Tryz.func232 rfl Tryz.ntmps232 (Nat.le_of_ble_eq_true rfl) ?_
 refine W.sa 0 [] ?_
 replace ⟨l1,h2,hm⟩:=zaY hm
 refine W.sq [] [(0,.sl (l1.map eStr))] [] ?_
 clear h2
 cases hm
 exact W.rt
theorem zdt{p0:ByteArray}{r:Int × Bool}(hm:zde p0=some r):zaO Tryz.prog 209 [.str p0] (.tuple [zi r.1,.bool r.2]):=by
 rw [zde] at hm
 refine zaO.of Tryz.func209 rfl Tryz.ntmps209 (Nat.le_of_ble_eq_true rfl) ?_
 refine W.sa 0 [0] ?_
 refine W.seq ?_
 replace ⟨v1,h2,hm⟩:=zai hm
 have kh2:=ziH h2
 refine W.sa 0 [0,6,7,8] ?_
 refine W.block ?_
 replace ⟨r14,hlr14,hm⟩:=zai hm
 refine W.mono (Q:=fun e0 s0 h0=>match r14 with | .inl e=>e0=.exit 0/\∃w:Unit,s0=[]/\h0=[] | .inr q=>e0=.ret/\s0=[(2,zi q.1),(3,.bool q.2)]/\h0=[]) (W.loopM (step:=zd9 v1 p0) (a0:=0) (fun (a:Int) (v:Unit)=>([(0,.str p0),(6,.sl (v1.map eStr)),(7,zi (v1.length:Int)),(8,zi a)],[])) () hlr14 ⟨[],[]⟩ RO ?_) ?_
 ·rintro i10 _ x hm hx
  rw [zd9] at hm
  show WK _ _ _ _ _ [(0,.str p0),(6,.sl (v1.map eStr)),(7,zi (v1.length:Int)),(8,zi i10)] []
  refine W.sa 0 [0,6,7,8,9] ?_
  refine W.seq ?_
  refine W.cn hm ?_ ?_ <;> clear hm <;> intro hb15 hm
  ·refine W.skip (W.seq (W.block ?_))
   replace ⟨h16,hm⟩:=zaA hm
   refine W.sa 0 [0,4,5,6,7,8] ?_
   refine W.sa 0 [0,4,6,7,8,15] ?_
   refine W.cn hm ?_ ?_ <;> clear hm <;> intro hb17 hm
   ·refine W.sa 0 [2,3] ?_
    cases hm
    obtain rfl:=hx _ rfl
    exact W.wk ⟨[],[]⟩ [(2,zi i10),(3,.bool true)] [] (W.ret (show _/\_ from ⟨rfl,rfl,rfl⟩))
   ·refine W.skip (W.rg [] [(0,.str p0),(6,.sl (v1.map eStr)),(7,zi (v1.length:Int)),(8,zi (zw (i10+1)))] [] ?_)
    cases hm
    exact ⟨(zw (i10+1)),(),⟨[],[]⟩,rfl,RO⟩
  ·cases hm
   obtain rfl:=hx _ rfl
   exact W.wk ⟨[],[]⟩ [] [] (W.exit (show _/\_ from ⟨rfl,(),rfl,rfl⟩))
 ·intro e0 s0 h0 hq
  rcases r14 with er14 | qr14
  ·obtain ⟨rfl,_,rfl,rfl⟩:=hq
   replace hm:=zdC hm
   show WK _ _ _ _ _ [] []
   refine W.sa 0 [2,3] ?_
   cases hm
   exact W.rt
  ·obtain ⟨rfl,rfl,rfl⟩:=hq
   replace hm:=zdB hm
   cases hm
   exact zcB.retW [] RO
theorem zjg{r:(List ByteArray)}(hm:zfU =some r):zaO Tryz.prog 215 [] (.sl (r.map eStr)):=by
 rw [zfU] at hm
 refine zaO.of Tryz.func215 rfl Tryz.ntmps215 (Nat.le_of_ble_eq_true rfl) ?_
 refine W.sa 0 [] ?_
 replace ⟨l1,h2,hm⟩:=zaY hm
 refine W.sq [] [(0,.sl (l1.map eStr))] [] ?_
 clear h2
 cases hm
 exact W.rt
theorem zhL{r:(List ByteArray)}(hm:zex =some r):zaO Tryz.prog 214 [] (.sl (r.map eStr)):=by
 rw [zex] at hm
 refine zaO.of Tryz.func214 rfl Tryz.ntmps214 (Nat.le_of_ble_eq_true rfl) ?_
 refine W.sa 0 [] ?_
 replace ⟨l1,h2,hm⟩:=zaY hm
 refine W.sq [] [(0,.sl (l1.map eStr))] [] ?_
 clear h2
 cases hm
 exact W.rt
theorem zhh{p0:ByteArray}{r:Int × Int × Bool}(hm:zeA p0=some r):zaO Tryz.prog 210 [.str p0] (.tuple [zi r.1,zi r.2.1,.bool r.2.2]):=by
 rw [zeA] at hm
 refine zaO.of Tryz.func210 rfl Tryz.ntmps210 (Nat.le_of_ble_eq_true rfl) ?_
 refine W.sa 0 [0] ?_
 refine W.seq (W.sa 0 [0,10] ?_)
 refine W.cn hm ?_ ?_ <;> clear hm <;> intro hb1 hm
 ·refine W.sa 0 [2,3,4] ?_
  cases hm
  exact W.rt
 ·refine W.skip (W.seq ?_)
  replace ⟨v2,h3,hm⟩:=zai hm
  have kh3:=zjg h3
  try simp only [hb1] at kh3
  refine W.sa 0 [0,11,12,13] ?_
  refine W.block ?_
  replace ⟨r15,hlr15,hm⟩:=zai hm
  refine W.mono (Q:=fun e0 s0 h0=>match r15 with | .inl e=>e0=.exit 0/\∃w:Unit,s0=[(0,.str p0)]/\h0=[] | .inr q=>e0=.ret/\s0=[(2,zi q.1),(3,zi q.2.1),(4,.bool q.2.2)]/\h0=[]) (W.loopM (step:=zez v2 p0) (a0:=0) (fun (a:Int) (v:Unit)=>([(0,.str p0),(11,.sl (v2.map eStr)),(12,zi (v2.length:Int)),(13,zi a)],[])) () hlr15 ⟨[],[]⟩ RO ?_) ?_
  ·rintro i11 _ x hm hx
   rw [zez] at hm
   show WK _ _ _ _ _ [(0,.str p0),(11,.sl (v2.map eStr)),(12,zi (v2.length:Int)),(13,zi i11)] []
   refine W.sa 0 [0,11,12,13,14] ?_
   refine W.seq ?_
   refine W.cn hm ?_ ?_ <;> clear hm <;> intro hb16 hm
   ·refine W.skip (W.seq (W.block ?_))
    replace ⟨h17,hm⟩:=zaA hm
    refine W.sa 0 [0,5,6,11,12,13] ?_
    refine W.sa 0 [0,5,11,12,13,20] ?_
    refine W.cn hm ?_ ?_ <;> clear hm <;> intro hb18 hm
    ·refine W.sa 0 [2,3,4] ?_
     cases hm
     obtain rfl:=hx _ rfl
     exact W.wk ⟨[],[]⟩ [(2,zi (zw (i11+1))),(3,zi 0),(4,.bool true)] [] (W.ret (show _/\_ from ⟨rfl,rfl,rfl⟩))
    ·refine W.skip (W.rg [] [(0,.str p0),(11,.sl (v2.map eStr)),(12,zi (v2.length:Int)),(13,zi (zw (i11+1)))] [] ?_)
     cases hm
     exact ⟨(zw (i11+1)),(),⟨[],[]⟩,rfl,RO⟩
   ·cases hm
    obtain rfl:=hx _ rfl
    exact W.wk ⟨[],[]⟩ [(0,.str p0)] [] (W.exit (show _/\_ from ⟨rfl,(),rfl,rfl⟩))
  ·intro e0 s0 h0 hq
   rcases r15 with er15 | qr15
   ·obtain ⟨rfl,_,rfl,rfl⟩:=hq
    replace hm:=zdC hm
    show WK _ _ _ _ _ [(0,.str p0)] []
    refine W.seq ?_
    replace ⟨v19,h20,hm⟩:=zai hm
    have kh20:=zhL h20
    try simp only [hb1] at kh20
    refine W.sa 0 [0,24,25,26] ?_
    refine W.block ?_
    replace ⟨r32,hlr32,hm⟩:=zai hm
    refine W.mono (Q:=fun e0 s0 h0=>match r32 with | .inl e=>e0=.exit 2/\∃w:Unit,s0=[]/\h0=[] | .inr q=>e0=.ret/\s0=[(2,zi q.1),(3,zi q.2.1),(4,.bool q.2.2)]/\h0=[]) (W.loopM (step:=zey v19 p0) (a0:=0) (fun (a:Int) (v:Unit)=>([(0,.str p0),(24,.sl (v19.map eStr)),(25,zi (v19.length:Int)),(26,zi a)],[])) () hlr32 ⟨[],[]⟩ RO ?_) ?_
    ·rintro i28 _ x hm hx
     rw [zey] at hm
     show WK _ _ _ _ _ [(0,.str p0),(24,.sl (v19.map eStr)),(25,zi (v19.length:Int)),(26,zi i28)] []
     refine W.sa 0 [0,24,25,26,27] ?_
     refine W.seq ?_
     refine W.cn hm ?_ ?_ <;> clear hm <;> intro hb33 hm
     ·refine W.skip (W.seq (W.block ?_))
      replace ⟨h34,hm⟩:=zaA hm
      refine W.sa 0 [0,7,8,24,25,26] ?_
      refine W.sa 0 [0,7,24,25,26,33] ?_
      refine W.cn hm ?_ ?_ <;> clear hm <;> intro hb35 hm
      ·refine W.sa 0 [2,3,4] ?_
       cases hm
       obtain rfl:=hx _ rfl
       exact W.wk ⟨[],[]⟩ [(2,zi 11),(3,zi (zw (i28+1))),(4,.bool true)] [] (W.ret (show _/\_ from ⟨rfl,rfl,rfl⟩))
      ·refine W.skip (W.rg [] [(0,.str p0),(24,.sl (v19.map eStr)),(25,zi (v19.length:Int)),(26,zi (zw (i28+1)))] [] ?_)
       cases hm
       exact ⟨(zw (i28+1)),(),⟨[],[]⟩,rfl,RO⟩
     ·cases hm
      obtain rfl:=hx _ rfl
      exact W.wk ⟨[],[]⟩ [] [] (W.exit (show _/\_ from ⟨rfl,(),rfl,rfl⟩))
    ·intro e0 s0 h0 hq
     rcases r32 with er32 | qr32
     ·obtain ⟨rfl,_,rfl,rfl⟩:=hq
      replace hm:=zdC hm
      show WK _ _ _ _ _ [] []
      refine W.sa 0 [2,3,4] ?_
      cases hm
      exact W.rt
     ·obtain ⟨rfl,rfl,rfl⟩:=hq
      replace hm:=zdB hm
      cases hm
      exact zcB.retW [] RO
   ·obtain ⟨rfl,rfl,rfl⟩:=hq
    replace hm:=zdB hm
    cases hm
    exact zcB.retW [] RO
theorem zcI{p0:ByteArray}{r:Bool}(hm:zcn p0=some r):zaO Tryz.prog 167 [.str p0] (.bool r):=by
 rw [zcn] at hm
 refine zaO.of Tryz.func167 rfl Tryz.ntmps167 (Nat.le_of_ble_eq_true rfl) ?_
 refine W.sa 0 [0] ?_
 refine W.seq ?_
 replace ⟨b1,h2,hm⟩:=zaY hm
 refine W.sq [] [(0,.str p0),(17,.bool b1)] [] ?_
 clear h2
 refine W.cn hm ?_ ?_ <;> clear hm <;> intro hb3 hm
 ·refine W.sa 0 [2] ?_
  cases hm
  exact W.rt
 ·refine W.skip (W.seq ?_)
  replace ⟨v4,h5,hm⟩:=zai hm
  have kh5:=zdt h5
  try simp only [hb3] at kh5
  refine W.sa 0 [0,4] ?_
  refine W.sa 0 [0,23] ?_
  refine W.cn hm ?_ ?_ <;> clear hm <;> intro hb6 hm
  ·refine W.sa 0 [2] ?_
   cases hm
   exact W.rt
  ·refine W.skip ?_
   replace ⟨v7,h8,hm⟩:=zai hm
   have kh8:=zhh h8
   try simp only [hb3,hb6] at kh8
   refine W.sa 0 [7] ?_
   refine W.sa 0 [2] ?_
   cases hm
   exact W.rt
theorem zhM{p0:ByteArray}{r:Bool}(hm:zdU p0=some r):zaO Tryz.prog 109 [.str p0] (.bool r):=by
 rw [zdU] at hm
 refine zaO.of Tryz.func109 rfl Tryz.ntmps109 (Nat.le_of_ble_eq_true rfl) ?_
 refine W.sa 0 [0] ?_
 refine W.sa 0 [0,3] ?_
 refine W.seq ?_
 replace ⟨v1,h2,hm⟩:=zai hm
 have kh2:=zfm h2
 refine W.sa 0 [0,3,7,8,9] ?_
 refine W.block ?_
 replace ⟨r29,hlr29,hm⟩:=zai hm
 refine W.mono (Q:=fun e0 s0 h0=>match r29 with | .inl e=>e0=.exit 0/\∃w:Unit,s0=[(0,.str p0),(3,zi e)]/\h0=[] | .inr q=>e0=.ret/\s0=[(2,.bool q)]/\h0=[]) (W.loopM (step:=zco v1) (a0:=(0,0)) (fun (a:Int × Int) (v:Unit)=>([(0,.str p0),(3,zi a.1),(7,.sl (v1.map zal)),(8,zi (v1.length:Int)),(9,zi a.2)],[])) () hlr29 ⟨[],[]⟩ RO ?_) ?_
 ·rintro ⟨i19,i20⟩ _ x hm hx
  rw [zco] at hm
  show WK _ _ _ _ _ [(0,.str p0),(3,zi i19),(7,.sl (v1.map zal)),(8,zi (v1.length:Int)),(9,zi i20)] []
  refine W.sa 0 [0,3,7,8,9,10] ?_
  refine W.seq ?_
  refine W.cn hm ?_ ?_ <;> clear hm <;> intro hb30 hm
  ·refine W.skip (W.seq (W.block ?_))
   replace ⟨h31,hm⟩:=zaA hm
   refine W.sa 1 [0,3,5,7,8,9] ?_
   refine W.seq ?_
   replace ⟨v32,h33,hm⟩:=zai hm
   replace ⟨v34,h35,hm⟩:=zai hm
   have kh33:=fun hg=>zdW (zaK hg h33)
   try simp only [hb30] at kh33
   have kh35:=fun hg=>zec (zaK hg h35)
   try simp only [hb30] at kh35
   refine W.sq [] [(0,.str p0),(3,zi i19),(7,.sl (v1.map zal)),(8,zi (v1.length:Int)),(9,zi i20),(30,.bool ((rd v1 i20).Bad||((!v32)&&((i19==0)||(!v34)))))] [] ?_
   refine W.cn hm ?_ ?_ <;> clear hm <;> intro hb36 hm
   ·refine W.sa 0 [2] ?_
    cases hm
    obtain rfl:=hx _ rfl
    exact W.wk ⟨[],[]⟩ [(2,.bool false)] [] (W.ret (show _/\_ from ⟨rfl,rfl,rfl⟩))
   ·refine W.skip (W.rg [] [(0,.str p0),(3,zi (zw (i19+1))),(7,.sl (v1.map zal)),(8,zi (v1.length:Int)),(9,zi i20)] [] ?_)
    refine W.rg [] [(0,.str p0),(3,zi (zw (i19+1))),(7,.sl (v1.map zal)),(8,zi (v1.length:Int)),(9,zi (zw (i20+1)))] [] ?_
    cases hm
    exact ⟨((zw (i19+1)),(zw (i20+1))),(),⟨[],[]⟩,rfl,RO⟩
  ·cases hm
   obtain rfl:=hx _ rfl
   exact W.wk ⟨[],[]⟩ [(0,.str p0),(3,zi i19)] [] (W.exit (show _/\_ from ⟨rfl,(),rfl,rfl⟩))
 ·intro e0 s0 h0 hq
  rcases r29 with er29 | qr29
  ·obtain ⟨rfl,_,rfl,rfl⟩:=hq
   replace hm:=zdC hm
   show WK _ _ _ _ _ [(0,.str p0),(3,zi er29)] []
   replace ⟨v37,h38,hm⟩:=zai hm
   have kh38:=fun hg=>zcI (zaK hg h38)
   refine W.sqh [] [(2,.bool ((decide (er29≥1)&&decide (er29<=16))&&(!v37)))] ?_
   cases hm
   exact W.rt
  ·obtain ⟨rfl,rfl,rfl⟩:=hq
   replace hm:=zdB hm
   cases hm
   exact zcB.retW [] RO
theorem zeJ{p0:Int}{r:Bool}(hm:zdd p0=some r):zaO Tryz.prog 255 [zi p0] (.bool r):=by
 rw [zdd] at hm
 refine zaO.of Tryz.func255 rfl Tryz.ntmps255 (Nat.le_of_ble_eq_true rfl) ?_
 refine W.sa 0 [0] ?_
 refine W.sq [] [(2,.bool (decide (p0≥0)&&decide (p0<=7)))] [] ?_
 cases hm
 exact W.rt
theorem zfQ{p0:zax}{r:Bool}(hm:zdH p0=some r):zaO Tryz.prog 237 [.agg [zi p0.Kind,zi p0.Reg,zi p0.Sym,zi p0.N]] (.bool r):=by
 rw [zdH] at hm
 refine zaO.of Tryz.func237 rfl Tryz.ntmps237 (Nat.le_of_ble_eq_true rfl) ?_
 refine W.sa 1 [1] ?_
 refine W.seq (W.sa 1 [1,4] ?_)
 refine W.block (W.sa 1 [1,4,5] ?_)
 refine W.cn hm ?_ ?_ <;> clear hm <;> intro hb1 hm
 ·replace ⟨v2,h3,hm⟩:=zai hm
  have kh3:=zeJ h3
  try simp only [hb1] at kh3
  refine W.sq [] [(2,.bool ((v2&&(p0.Sym==0))&&(p0.N==0)))] [] ?_
  cases hm
  exact W.rt
 ·refine W.sa 1 [1,4,20] ?_
  refine W.cn hm ?_ ?_ <;> clear hm <;> intro hb4 hm
  ·refine W.sq [] [(2,.bool ((p0.Reg==0)&&(p0.Sym==0)))] [] ?_
   cases hm
   exact W.rt
  ·refine W.sa 1 [1,4,30] ?_
   refine W.cn hm ?_ ?_ <;> clear hm <;> intro hb5 hm
   ·refine W.sq [] [(2,.bool ((decide (p0.Sym≥0)&&decide (p0.N≥0))&&(p0.Reg==0)))] [] ?_
    cases hm
    exact W.rt
   ·refine W.sa 1 [1,45] ?_
    refine W.cn hm ?_ ?_ <;> clear hm <;> intro hb6 hm
    ·replace ⟨v7,h8,hm⟩:=zai hm
     have kh8:=fun hg=>zeJ (zaK hg h8)
     try simp only [hb1,hb4,hb5,hb6] at kh8
     refine W.sq [] [(2,.bool ((decide (p0.Sym≥0)&&v7)&&(p0.N==0)))] [] ?_
     cases hm
     exact W.rt
    ·refine W.skip (W.sa 0 [2] ?_)
     cases hm
     exact W.rt
theorem zh6{p0:zax}{r:zbb × Bool}(hm:zgd p0=some r):zaO Tryz.prog 216 [.agg [zi p0.Kind,zi p0.Reg,zi p0.Sym,zi p0.N]] (.tuple [zbo r.1,.bool r.2]):=by
 rw [zgd] at hm
 refine zaO.of Tryz.func216 rfl Tryz.ntmps216 (Nat.le_of_ble_eq_true rfl) ?_
 refine W.sa 1 [1] ?_
 refine W.seq ?_
 replace ⟨v1,h2,hm⟩:=zai hm
 have kh2:=zfQ h2
 refine W.sa 1 [1,6] ?_
 refine W.cn hm ?_ ?_ <;> clear hm <;> intro hb3 hm
 ·refine W.sa 0 [2,3] ?_
  cases hm
  exact W.rt
 ·refine W.skip (W.seq (W.sa 1 [1,8] ?_))
  refine W.block (W.sa 1 [1,8,9] ?_)
  refine W.cn hm ?_ ?_ <;> clear hm <;> intro hb4 hm
  ·refine W.sa 0 [2,3] ?_
   cases hm
   exact W.rt
  ·refine W.sa 1 [1,8,15] ?_
   refine W.cn hm ?_ ?_ <;> clear hm <;> intro hb5 hm
   ·refine W.sa 0 [2,3] ?_
    cases hm
    exact W.rt
   ·refine W.sa 1 [1,21] ?_
    refine W.cn hm ?_ ?_ <;> clear hm <;> intro hb6 hm
    ·refine W.sa 0 [2,3] ?_
     cases hm
     exact W.rt
    ·refine W.skip (W.sa 0 [2,3] ?_)
     cases hm
     exact W.rt
theorem zeV{p0:zax}{r:Bool}(hm:zc4 p0=some r):zaO Tryz.prog 234 [.agg [zi p0.Kind,zi p0.Reg,zi p0.Sym,zi p0.N]] (.bool r):=by
 rw [zc4] at hm
 refine zaO.of Tryz.func234 rfl Tryz.ntmps234 (Nat.le_of_ble_eq_true rfl) ?_
 refine W.sa 1 [1] ?_
 replace ⟨v1,h2,hm⟩:=zai hm
 have kh2:=zh6 h2
 try simp only [zdy,zcR,zcS,zc2,zc1] at kh2
 refine W.sa 0 [3,4] ?_
 refine W.seq (W.sa 0 [3,13] ?_)
 refine W.cn hm ?_ ?_ <;> clear hm <;> intro hb3 hm
 ·refine W.sa 0 [2] ?_
  cases hm
  exact W.rt
 ·refine W.skip ?_
  replace ⟨z4,h5,hm⟩:=zaY hm
  rw [← h5]
  clear h5
  cases z4 with
  | nil =>
   dsimp only at hm
   show WK _ _ _ _ _ [(3,.nili),(13,.bool (!v1.2))] []
   refine W.sa 0 [6] ?_
   refine W.sa 0 [2] ?_
   cases hm
   exact W.rt
  | RegPart x6 =>
   dsimp only at hm
   show WK _ _ _ _ _ [(3,.iface 343 (.agg [zi x6.Reg])),(13,.bool (!v1.2))] []
   refine W.sa 0 [6] ?_
   refine W.sa 0 [2] ?_
   cases hm
   exact W.rt
  | NumPart x7 =>
   dsimp only at hm
   show WK _ _ _ _ _ [(3,.iface 345 (.agg [zi x7.N])),(13,.bool (!v1.2))] []
   refine W.sa 0 [6] ?_
   refine W.sa 0 [2] ?_
   cases hm
   exact W.rt
  | AtPart x8 =>
   dsimp only at hm
   show WK _ _ _ _ _ [(3,.iface 347 (.agg [zi x8.Sym,zi x8.N])),(13,.bool (!v1.2))] []
   refine W.sa 0 [6] ?_
   refine W.sa 0 [2] ?_
   cases hm
   exact W.rt
  | ByPart x9 =>
   dsimp only at hm
   show WK _ _ _ _ _ [(3,.iface 349 (.agg [zi x9.Sym,zi x9.Reg])),(13,.bool (!v1.2))] []
   refine W.sa 0 [6] ?_
   refine W.sa 0 [2] ?_
   cases hm
   exact W.rt
theorem zhJ{p0:zbb}{r:Int × Bool}(hm:zew p0=some r):zaO Tryz.prog 217 [zbo p0] (.tuple [zi r.1,.bool r.2]):=by
 rw [zew.eq_def] at hm
 refine zaO.of Tryz.func217 rfl Tryz.ntmps217 (Nat.le_of_ble_eq_true rfl) ?_
 refine W.sa 0 [0] ?_
 refine W.seq ?_
 cases p0 with
 | nil =>
  dsimp only at hm
  show WK _ _ _ _ _ [(0,.nili)] []
  refine W.sa 1 [0,4,5] ?_
  refine W.sa 1 [0,4,13] ?_
  refine W.cnd false (fun hx=>by cases hx) (fun _=>?_)
  refine W.skip (W.sa 2 [6,7] ?_)
  refine W.sa 0 [2,3] ?_
  cases hm
  exact W.rt
 | RegPart x1 =>
  dsimp only at hm
  show WK _ _ _ _ _ [(0,.iface 343 (.agg [zi x1.Reg]))] []
  refine W.sa 1 [0,4,5] ?_
  refine W.sa 1 [0,4,13] ?_
  refine W.cnd false (fun hx=>by cases hx) (fun _=>?_)
  refine W.skip (W.sa 2 [6,7] ?_)
  refine W.sa 0 [2,3] ?_
  cases hm
  exact W.rt
 | NumPart x2 =>
  dsimp only at hm
  show WK _ _ _ _ _ [(0,.iface 345 (.agg [zi x2.N]))] []
  refine W.sa 1 [0,4,5] ?_
  refine W.sa 1 [0,4,13] ?_
  refine W.cnd false (fun hx=>by cases hx) (fun _=>?_)
  refine W.skip (W.sa 2 [6,7] ?_)
  refine W.sa 0 [2,3] ?_
  cases hm
  exact W.rt
 | AtPart x3 =>
  dsimp only at hm
  show WK _ _ _ _ _ [(0,.iface 347 (.agg [zi x3.Sym,zi x3.N]))] []
  refine W.sa 1 [0,4,5] ?_
  refine W.sa 1 [0,4,13] ?_
  refine W.cnd true (fun _=>?_) (fun hx=>by cases hx)
  refine W.sa 0 [2,3] ?_
  cases hm
  exact W.rt
 | ByPart x4 =>
  dsimp only at hm
  show WK _ _ _ _ _ [(0,.iface 349 (.agg [zi x4.Sym,zi x4.Reg]))] []
  refine W.sa 1 [0,4,5] ?_
  refine W.sa 1 [0,4,13] ?_
  refine W.cnd false (fun hx=>by cases hx) (fun _=>?_)
  refine W.skip (W.sa 2 [6,7] ?_)
  refine W.sa 0 [2,3] ?_
  cases hm
  exact W.rt
theorem zcK{p0:zax}{r:Bool}(hm:zcL p0=some r):zaO Tryz.prog 182 [.agg [zi p0.Kind,zi p0.Reg,zi p0.Sym,zi p0.N]] (.bool r):=by
 rw [zcL] at hm
 refine zaO.of Tryz.func182 rfl Tryz.ntmps182 (Nat.le_of_ble_eq_true rfl) ?_
 refine W.sa 1 [1] ?_
 replace ⟨v1,h2,hm⟩:=zai hm
 have kh2:=zh6 h2
 try simp only [zdy,zcR,zcS,zc2,zc1] at kh2
 refine W.sa 0 [3,4] ?_
 refine W.seq (W.sa 0 [3,13] ?_)
 refine W.cn hm ?_ ?_ <;> clear hm <;> intro hb3 hm
 ·refine W.sa 0 [2] ?_
  cases hm
  exact W.rt
 ·refine W.skip ?_
  replace ⟨v4,h5,hm⟩:=zai hm
  have kh5:=zhJ h5
  try simp only [hb3] at kh5
  try simp only [zdy,zcR,zcS,zc2,zc1] at kh5
  refine W.sa 0 [6] ?_
  refine W.sa 0 [2] ?_
  cases hm
  exact W.rt
theorem zeW{p0:zax}{r:Bool}(hm:zen p0=some r):zaO Tryz.prog 235 [.agg [zi p0.Kind,zi p0.Reg,zi p0.Sym,zi p0.N]] (.bool r):=by
 rw [zen] at hm
 refine zaO.of Tryz.func235 rfl Tryz.ntmps235 (Nat.le_of_ble_eq_true rfl) ?_
 refine W.sa 1 [1] ?_
 replace ⟨v1,h2,hm⟩:=zai hm
 replace ⟨v3,h4,hm⟩:=zai hm
 have kh2:=zfQ h2
 have kh4:=fun hg=>zcK (zaK hg h4)
 refine W.sq [] [(2,.bool (v1&&(!v3)))] [] ?_
 cases hm
 exact W.rt
theorem zhP{p0:Int}{r:Bool}(hm:zeC p0=some r):zaO Tryz.prog 236 [zi p0] (.bool r):=by
 rw [zeC] at hm
 refine zaO.of Tryz.func236 rfl Tryz.ntmps236 (Nat.le_of_ble_eq_true rfl) ?_
 refine W.sa 0 [0] ?_
 refine W.sq [] [(2,.bool (decide (p0≥2)&&decide (p0<=6)))] [] ?_
 cases hm
 exact W.rt
theorem zjU{p0:zao}{r:Bool}(hm:zfZ p0=some r):zaO Tryz.prog 212 [.agg [zi p0.Op,.bool p0.Lock,zi p0.Cond,zi p0.A.Kind,zi p0.A.Reg,zi p0.A.Sym,zi p0.A.N,zi p0.B.Kind,zi p0.B.Reg,zi p0.B.Sym,zi p0.B.N,.str p0.To,.sl (p0.zLb.map eStr)]] (.bool r):=by
 rw [zfZ] at hm
 refine zaO.of Tryz.func212 rfl Tryz.ntmps212 (Nat.le_of_ble_eq_true rfl) ?_
 refine W.sa 1 [1] ?_
 refine W.cut (fun s h=>∃(v:Unit) (w:Unit) (F:Gs),zdp p0=some r/\AT 0 F [(1,.ptr 0 0 0)] [.cells (zaD p0) 0 203] s h) ?_ ?_
 ·refine W.sa 1 [1,6] ?_
  refine W.cn hm ?_ ?_ <;> clear hm <;> intro hb30 hm
  ·refine W.sq [] [(1,.ptr 0 0 0),(14,.bool (decide (p0.Cond<1)||decide (p0.Cond>10)))] [.cells (zaD p0) 0 203] ?_
   refine W.cn hm ?_ ?_ <;> clear hm <;> intro hb31 hm
   ·refine W.sa 0 [2] ?_
    cases hm
    exact W.rt
   ·refine W.skip ?_
    exact ⟨(),(),⟨[],[]⟩,hm,RO⟩
  ·refine W.sa 1 [1,17] ?_
   refine W.cn hm ?_ ?_ <;> clear hm <;> intro hb32 hm
   ·refine W.sa 0 [2] ?_
    cases hm
    exact W.rt
   ·refine W.skip ?_
    exact ⟨(),(),⟨[],[]⟩,hm,RO⟩
 ·rintro s h ⟨_,_,F,hm,hat⟩
  refine W.weak F hat ?_
  show WK _ _ _ _ _ [(1,.ptr 0 0 0)] [.cells (zaD p0) 0 203]
  rw [zdp] at hm
  replace ⟨v1,h2,hm⟩:=zai hm
  replace ⟨v3,h4,hm⟩:=zai hm
  replace ⟨v5,h6,hm⟩:=zai hm
  replace ⟨v7,h8,hm⟩:=zai hm
  replace ⟨v9,h10,hm⟩:=zai hm
  refine W.sqh [] [(1,.ptr 0 0 0),(3,.bool ((v1&&(v3||v5))||(v7&&v9)))] ?_ (hrun:=?_)
  rotate_left
  ·try simp -implicitDefEqProofs -dsimp only [go_sem]
   with_reducible refine exP.mk _ (callQ.plain (by simp -implicitDefEqProofs -dsimp only [go_sem]) (zeV h2)) ?_
   try simp -implicitDefEqProofs -dsimp only [go_sem]
   refine zcl (fun hg11=>?_) (fun hg11=>?_)
   ·try simp -implicitDefEqProofs -dsimp only [go_sem,hg11]
    with_reducible refine exP.mk _ (callQ.plain (by simp -implicitDefEqProofs -dsimp only [go_sem,hg11]) (zeW (zaK (by simp -implicitDefEqProofs -dsimp only [go_sem,hg11]) h4))) ?_
    try simp -implicitDefEqProofs -dsimp only [go_sem,hg11]
    refine zdI (fun hg12=>?_) (fun hg12=>?_)
    ·try simp only [Bool.not_not] at hg12
     try simp -implicitDefEqProofs -dsimp only [go_sem,hg11,hg12]
     with_reducible refine exP.mk _ (callQ.plain (by simp -implicitDefEqProofs -dsimp only [go_sem,hg11,hg12]) (zcK (zaK (by simp -implicitDefEqProofs -dsimp only [go_sem,hg11,hg12]) h6))) ?_
     try simp -implicitDefEqProofs -dsimp only [go_sem,hg11,hg12]
     refine zdI (fun hg13=>?_) (fun hg13=>?_)
     ·try simp only [Bool.not_not] at hg13
      try simp -implicitDefEqProofs -dsimp only [go_sem,hg11,hg12,hg13]
      with_reducible refine exP.mk _ (callQ.plain (by simp -implicitDefEqProofs -dsimp only [go_sem,hg11,hg12,hg13]) (zcK (zaK (by simp -implicitDefEqProofs -dsimp only [go_sem,hg11,hg12,hg13]) h8))) ?_
      try simp -implicitDefEqProofs -dsimp only [go_sem,hg11,hg12,hg13]
      refine zcl (fun hg14=>?_) (fun hg14=>?_)
      ·try simp only [Bool.not_not] at hg14
       try simp -implicitDefEqProofs -dsimp only [go_sem,hg11,hg12,hg13,hg14]
       with_reducible refine exP.mk _ (callQ.plain (by simp -implicitDefEqProofs -dsimp only [go_sem,hg11,hg12,hg13,hg14]) (zeW (zaK (by simp -implicitDefEqProofs -dsimp only [go_sem,hg11,hg12,hg13,hg14]) h10))) ?_
       try simp -implicitDefEqProofs -dsimp only [go_sem,hg11,hg12,hg13,hg14]
      ·try simp only [Bool.not_not] at hg14
       try simp -implicitDefEqProofs -dsimp only [go_sem,hg11,hg12,hg13,hg14]
     ·try simp only [Bool.not_not] at hg13
      try simp -implicitDefEqProofs -dsimp only [go_sem,hg11,hg12,hg13]
    ·try simp only [Bool.not_not] at hg12
     try simp -implicitDefEqProofs -dsimp only [go_sem,hg11,hg12]
   ·try simp -implicitDefEqProofs -dsimp only [go_sem,hg11]
    with_reducible refine exP.mk _ (callQ.plain (by simp -implicitDefEqProofs -dsimp only [go_sem,hg11]) (zcK (zaK (by simp -implicitDefEqProofs -dsimp only [go_sem,hg11]) h8))) ?_
    try simp -implicitDefEqProofs -dsimp only [go_sem,hg11]
    refine zcl (fun hg15=>?_) (fun hg15=>?_)
    ·try simp only [Bool.not_not] at hg15
     try simp -implicitDefEqProofs -dsimp only [go_sem,hg11,hg15]
     with_reducible refine exP.mk _ (callQ.plain (by simp -implicitDefEqProofs -dsimp only [go_sem,hg11,hg15]) (zeW (zaK (by simp -implicitDefEqProofs -dsimp only [go_sem,hg11,hg15]) h10))) ?_
     try simp -implicitDefEqProofs -dsimp only [go_sem,hg11,hg15]
    ·try simp only [Bool.not_not] at hg15
     try simp -implicitDefEqProofs -dsimp only [go_sem,hg11,hg15]
  refine W.seq (W.block (W.sq [] [(1,.ptr 0 0 0),(3,.bool ((v1&&(v3||v5))||(v7&&v9))),(41,.bool ((p0.Op==1)||(p0.Op==7)))] [.cells (zaD p0) 0 203] ?_))
  refine W.cn hm ?_ ?_ <;> clear hm <;> intro hb16 hm
  ·refine W.sq [] [(2,.bool (((v1&&(v3||v5))||(v7&&v9))&&(!p0.Lock)))] [] ?_
   cases hm
   exact W.rt
  ·replace ⟨v17,h18,hm⟩:=zai hm
   have kh18:=zhP h18
   try simp only [hb16] at kh18
   refine W.sa 1 [1,3,56] ?_
   refine W.cn hm ?_ ?_ <;> clear hm <;> intro hb19 hm
   ·replace ⟨v20,h21,hm⟩:=zai hm
    have kh21:=fun hg=>zcK (zaK hg h21)
    try simp only [hb16,hb19] at kh21
    refine W.sq [] [(2,.bool (((v1&&(v3||v5))||(v7&&v9))&&((!p0.Lock)||v20)))] [] ?_
    cases hm
    exact W.rt
   ·refine W.sq [] [(1,.ptr 0 0 0),(71,.bool ((p0.Op==8)||(p0.Op==9)))] [.cells (zaD p0) 0 203] ?_
    refine W.cn hm ?_ ?_ <;> clear hm <;> intro hb22 hm
    ·replace ⟨v23,h24,hm⟩:=zai hm
     replace ⟨v25,h26,hm⟩:=zai hm
     have kh24:=zcK h24
     try simp only [hb16,hb19,hb22] at kh24
     have kh26:=fun hg=>zeV (zaK hg h26)
     try simp only [hb16,hb19,hb22] at kh26
     refine W.sq [] [(2,.bool ((v23&&v25)&&(p0.Lock==(p0.Op==9))))] [] ?_
     cases hm
     exact W.rt
    ·refine W.sq [] [(1,.ptr 0 0 0),(96,.bool (decide (p0.Op≥10)&&decide (p0.Op<=14)))] [.cells (zaD p0) 0 203] ?_
     refine W.cn hm ?_ ?_ <;> clear hm <;> intro hb27 hm
     ·replace ⟨b28,h29,hm⟩:=zaY hm
      refine W.sq [] [(2,.bool b28)] [] ?_
      clear h29
      cases hm
      exact W.rt
     ·refine W.skip (W.sa 0 [2] ?_)
      cases hm
      exact W.rt
theorem zjs{p0:zao}{r:Int}(hm:zeX p0=some r):zaO Tryz.prog 172 [.agg [zi p0.Op,.bool p0.Lock,zi p0.Cond,zi p0.A.Kind,zi p0.A.Reg,zi p0.A.Sym,zi p0.A.N,zi p0.B.Kind,zi p0.B.Reg,zi p0.B.Sym,zi p0.B.N,.str p0.To,.sl (p0.zLb.map eStr)]] (zi r):=by
 rw [zeX] at hm
 refine zaO.of Tryz.func172 rfl Tryz.ntmps172 (Nat.le_of_ble_eq_true rfl) ?_
 refine W.sa 1 [1] ?_
 refine W.sq [] [(1,.ptr 0 0 0),(3,.bool ((p0.Op==10)||(p0.Op==11)))] [.cells (zaD p0) 0 203] ?_
 refine W.seq ?_
 replace ⟨v1,h2,hm⟩:=zai hm
 replace ⟨b3,h4,hm⟩:=zaY hm
 have kh2:=zjU h2
 refine W.sqh [] [(1,.ptr 0 0 0),(3,.bool ((p0.Op==10)||(p0.Op==11))),(23,.bool b3)] ?_
 clear h4
 refine W.cn hm ?_ ?_ <;> clear hm <;> intro hb5 hm
 ·refine W.sa 0 [2] ?_
  cases hm
  exact W.rt
 ·refine W.skip (W.seq ?_)
  replace ⟨v6,h7,hm⟩:=zai hm
  have kh7:=fun hg=>zhM (zaK hg h7)
  try simp only [hb5] at kh7
  refine W.sq [] [(30,.bool (((p0.Op==10)||(p0.Op==11))&&(!v6)))] [] ?_
  refine W.cn hm ?_ ?_ <;> clear hm <;> intro hb8 hm
  ·refine W.sa 0 [2] ?_
   cases hm
   exact W.rt
  ·refine W.skip (W.sa 0 [2] ?_)
   cases hm
   exact W.rt
end Go.Proofs.YtkgpofmbegonfaaGreatDoor
