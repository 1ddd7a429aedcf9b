import Derived.Test.YtocjejladeeckaaGreatDoorVFacts
import Derived.Test.YtocjejladeeckaaGreatDoorVu3
import Derived.Test.YtocjejladeeckaaGreatDoorPalC
import Derived.Test.YtocjejladeeckaaGreatDoorWB
import Derived.Test.YtocjejladeeckaaGreatDoorWNum
set_option linter.all false
set_option maxRecDepth 100000
set_option maxHeartbeats 4000000
namespace Go.Proofs.YtocjejladeeckaaGreatDoor
open Go.Vs
variable [TabU]
theorem zhW{p0:ByteArray}{r:(List zao)}(hm:zct p0=some r):zaE Tryz.prog 25 [.str p0] (.sl (r.map zar)):=by
 rw [zct] at hm
 refine zaE.of Tryz.func25 rfl Tryz.ntmps25 (Nat.le_of_ble_eq_true rfl) ?_
 refine W.sa 0 [0] ?_
 refine W.sa 0 [0,3] ?_
 refine W.sa 0 [0,3,4,5] ?_
 refine W.seq (W.sa 1 [0,3,4,5,10] ?_)
 refine W.block ?_
 replace ⟨r40,hlr40,hm⟩:=zah hm
 refine W.mono (Q:=fun e0 s0 h0=>e0=.exit 0/\∃w:Nat,s0=[(0,.str p0),(3,zM 1 w 6 r40)]/\h0=[.dead,.rows (r40.map zar) 6 w 73]) (W.loopM (step:=zaQ p0) (a0:=(1,1,0,[])) (fun (a:Int × Int × Nat × (List zao)) (v:Nat)=>([(0,.str p0),(3,zM 1 v 6 a.2.2.2),(4,zi a.1),(5,zi a.2.1),(10,.ptr 0 0 0)],[.siter p0 a.2.2.1,.rows (a.2.2.2.map zar) 6 v 73])) 0 hlr40 ⟨[],[]⟩ RO ?_) ?_
 ·rintro ⟨i22,i23,n24,l25⟩ w26 x hm hx
  rw [zaQ] at hm
  show WK _ _ _ _ _ [(0,.str p0),(3,zM 1 w26 6 l25),(4,zi i22),(5,zi i23),(10,.ptr 0 0 0)] [.siter p0 n24,.rows (l25.map zar) 6 w26 73]
  by_cases hb41:n24<p0.size
  ·rw [if_pos hb41] at hm
   refine W.sa 2 [0,3,4,5,10,11,12] ?_
   refine W.seq (W.cnd true (fun _=>?_) (fun hx=>by cases hx))
   refine W.skip (W.block (W.sa 2 [0,3,4,5,6,7,10] ?_))
   refine W.cut (fun s h=>∃(v:(List zao)) (w:Unit) (F:Gs),za9 p0 n24 i22 i23 v=some x/\AT 0 F [(0,.str p0),(3,zM 1 w26 6 v),(4,zi i22),(5,zi i23),(6,zi (n24:Int)),(7,.int .i32 ((Utf8.decode p0 n24).1:Int)),(10,.ptr 0 0 0)] [.siter p0 (n24+(Utf8.decode p0 n24).2),.rows (v.map zar) 6 w26 73] s h) ?_ ?_
   ·refine W.sa 2 [0,3,4,5,6,7,10,17] ?_
    refine W.cn hm ?_ ?_ <;> clear hm <;> intro hb47 hm
    ·replace ⟨h48,hm⟩:=zap hm
     replace ⟨h49,hm⟩:=zap hm
     replace ⟨l50,h51,hm⟩:=zaN hm
     refine W.rg [] [(0,.str p0),(3,zM 1 w26 6 l50),(4,zi i22),(5,zi i23),(6,zi (n24:Int)),(7,.int .i32 ((Utf8.decode p0 n24).1:Int)),(10,.ptr 0 0 0)] [.siter p0 (n24+(Utf8.decode p0 n24).2),.rows (l50.map zar) 6 w26 73] ?_
     clear h51
     exact ⟨l50,(),⟨[],[]⟩,hm,RO⟩
    ·refine W.skip ?_
     exact ⟨l25,(),⟨[],[]⟩,hm,RO⟩
   ·rintro s h ⟨l42,_,F,hm,hat⟩
    refine W.weak F hat ?_
    show WK _ _ _ _ _ [(0,.str p0),(3,zM 1 w26 6 l42),(4,zi i22),(5,zi i23),(6,zi (n24:Int)),(7,.int .i32 ((Utf8.decode p0 n24).1:Int)),(10,.ptr 0 0 0)] [.siter p0 (n24+(Utf8.decode p0 n24).2),.rows (l42.map zar) 6 w26 73]
    rw [za9] at hm
    replace ⟨h43,hm⟩:=zap hm
    replace ⟨l44,h45,hm⟩:=zaN hm
    refine W.sq [] [(0,.str p0),(3,.msl 1 (w26+1) 0 6 l44.length l44.length),(4,zi i22),(5,zi i23),(7,.int .i32 ((Utf8.decode p0 n24).1:Int)),(10,.ptr 0 0 0)] [.siter p0 (n24+(Utf8.decode p0 n24).2),.rows (l44.map zar) 6 (w26+1) 73] ?_
    clear h45
    refine W.sa 2 [0,3,4,5,7,10] ?_
    refine W.sa 2 [0,3,4,5,10,44] ?_
    refine W.cn hm ?_ ?_ <;> clear hm <;> intro hb46 hm
    ·refine W.rg [] [(0,.str p0),(3,.msl 1 (w26+1) 0 6 l44.length l44.length),(4,zi (zw (i22+1))),(5,zi 1),(10,.ptr 0 0 0)] [.siter p0 (n24+(Utf8.decode p0 n24).2),.rows (l44.map zar) 6 (w26+1) 73] ?_
     cases hm
     exact ⟨((zw (i22+1)),1,(n24+(Utf8.decode p0 n24).2),l44),(w26+1),⟨[],[]⟩,rfl,RO⟩
    ·refine W.skip ?_
     cases hm
     exact ⟨(i22,(zw (i23+1)),(n24+(Utf8.decode p0 n24).2),l44),(w26+1),⟨[],[]⟩,rfl,RO⟩
  ·rw [if_neg hb41] at hm
   refine W.sa 2 [0,3,4,5,10,11,12] ?_
   refine W.seq (W.cnd false (fun hx=>by cases hx) (fun _=>?_))
   cases hm
   obtain rfl:=hx _ rfl
   exact W.wk ⟨[],[]⟩ [(0,.str p0),(3,zM 1 w26 6 l25)] [.dead,.rows (l25.map zar) 6 w26 73] (W.exit (show _/\_ from ⟨rfl,w26,rfl,rfl⟩))
 ·rintro e0 s0 h0 ⟨rfl,w39,rfl,rfl⟩
  show WK _ _ _ _ _ [(0,.str p0),(3,zM 1 w39 6 r40)] [.dead,.rows (r40.map zar) 6 w39 73]
  refine W.cut (fun s h=>∃(v:(List zao)) (w:Unit) (F:Gs),zcb v=some r/\AT 0 F [(3,zM 1 w39 6 v)] [.dead,.rows (v.map zar) 6 w39 73] s h) ?_ ?_
  ·refine W.sa 2 [0,3,49] ?_
   refine W.cn hm ?_ ?_ <;> clear hm <;> intro hb83 hm
   ·replace ⟨h84,hm⟩:=zap hm
    replace ⟨h85,hm⟩:=zap hm
    replace ⟨l86,h87,hm⟩:=zaN hm
    refine W.rg [] [(3,zM 1 w39 6 l86)] [.dead,.rows (l86.map zar) 6 w39 73] ?_
    clear h87
    exact ⟨l86,(),⟨[],[]⟩,hm,RO⟩
   ·refine W.skip ?_
    exact ⟨r40,(),⟨[],[]⟩,hm,RO⟩
  ·rintro s h ⟨l52,_,F,hm,hat⟩
   refine W.weak F hat ?_
   show WK _ _ _ _ _ [(3,zM 1 w39 6 l52)] [.dead,.rows (l52.map zar) 6 w39 73]
   rw [zcb] at hm
   refine W.seq (W.sa 2 [3,8] ?_)
   refine W.block ?_
   replace ⟨r76,hlr76,hm⟩:=zah hm
   refine W.mono (Q:=fun e0 s0 h0=>e0=.exit 2/\∃w:Unit,s0=[(3,zM 1 w39 6 r76)]/\h0=[.dead,.rows (r76.map zar) 6 w39 73]) (W.loopM (step:=za8) (a0:=(0,l52)) (fun (a:Int × (List zao)) (v:Unit)=>([(3,zM 1 w39 6 a.2),(8,zi a.1)],[.dead,.rows (a.2.map zar) 6 w39 73])) () hlr76 ⟨[],[]⟩ RO ?_) ?_
   ·rintro ⟨i67,l68⟩ _ x hm hx
    rw [za8] at hm
    show WK _ _ _ _ _ [(3,zM 1 w39 6 l68),(8,zi i67)] [.dead,.rows (l68.map zar) 6 w39 73]
    refine W.seq (W.sa 2 [3,8,69] ?_)
    refine W.cn hm ?_ ?_ <;> clear hm <;> intro hb77 hm
    ·refine W.skip (W.seq (W.block ?_))
     replace ⟨h78,hm⟩:=zap hm
     replace ⟨h79,hm⟩:=zap hm
     replace ⟨h80,hm⟩:=zap hm
     replace ⟨l81,h82,hm⟩:=zaN hm
     refine W.rg [] [(3,zM 1 w39 6 l81),(8,zi i67)] [.dead,.rows (l81.map zar) 6 w39 73] ?_
     clear h82
     refine W.rg [] [(3,zM 1 w39 6 l81),(8,zi (zw (i67+1)))] [.dead,.rows (l81.map zar) 6 w39 73] ?_
     cases hm
     exact ⟨((zw (i67+1)),l81),(),⟨[],[]⟩,rfl,RO⟩
    ·cases hm
     obtain rfl:=hx _ rfl
     exact W.wk ⟨[],[]⟩ [(3,zM 1 w39 6 l68)] [.dead,.rows (l68.map zar) 6 w39 73] (W.exit (show _/\_ from ⟨rfl,(),rfl,rfl⟩))
   ·rintro e0 s0 h0 ⟨rfl,_,rfl,rfl⟩
    show WK _ _ _ _ _ [(3,zM 1 w39 6 r76)] [.dead,.rows (r76.map zar) 6 w39 73]
    refine W.sa 2 [2] ?_
    cases hm
    exact W.ret (zee.retW [1] RO)
theorem zfH{r:(List ByteArray)}(hm:zde =some r):zaE Tryz.prog 84 [] (.sl (r.map eStr)):=by
 rw [zde] at hm
 refine zaE.of Tryz.func84 rfl Tryz.ntmps84 (Nat.le_of_ble_eq_true rfl) ?_
 refine W.sa 0 [] ?_
 replace ⟨l1,h2,hm⟩:=zaN hm
 refine W.sq [] [(0,.sl (l1.map eStr))] [] ?_
 clear h2
 cases hm
 exact W.rt
theorem zcF{p0:(List ByteArray)}{p1:ByteArray}{r:Int}(hm:zaP p0 p1=some r):zaE Tryz.prog 62 [.sl (p0.map eStr),.str p1] (zi r):=by
 rw [zaP] at hm
 refine zaE.of Tryz.func62 rfl Tryz.ntmps62 (Nat.le_of_ble_eq_true rfl) ?_
 refine W.sa 0 [0,1] ?_
 refine W.seq (W.sa 0 [0,1,5] ?_)
 refine W.block ?_
 replace ⟨r13,hlr13,hm⟩:=zah hm
 refine W.mono (Q:=fun e0 s0 h0=>match r13 with | .inl e=>e0=.exit 0/\∃w:Unit,s0=[]/\h0=[] | .inr q=>e0=.ret/\s0=[(4,zi q)]/\h0=[]) (W.loopM (step:=zdn p0 p1) (a0:=0) (fun (a:Int) (v:Unit)=>([(0,.sl (p0.map eStr)),(1,.str p1),(5,zi a)],[])) () hlr13 ⟨[],[]⟩ RO ?_) ?_
 ·rintro i9 _ x hm hx
  rw [zdn] at hm
  show WK _ _ _ _ _ [(0,.sl (p0.map eStr)),(1,.str p1),(5,zi i9)] []
  refine W.seq (W.sa 0 [0,1,5,9] ?_)
  refine W.cn hm ?_ ?_ <;> clear hm <;> intro hb14 hm
  ·refine W.skip (W.seq (W.block ?_))
   replace ⟨h15,hm⟩:=zap hm
   refine W.sa 0 [0,1,5,17] ?_
   refine W.cn hm ?_ ?_ <;> clear hm <;> intro hb16 hm
   ·refine W.sa 0 [4] ?_
    cases hm
    obtain rfl:=hx _ rfl
    exact W.wk ⟨[],[]⟩ [(4,zi i9)] [] (W.ret (show _/\_ from ⟨rfl,rfl,rfl⟩))
   ·refine W.skip (W.rg [] [(0,.sl (p0.map eStr)),(1,.str p1),(5,zi (zw (i9+1)))] [] ?_)
    cases hm
    exact ⟨(zw (i9+1)),(),⟨[],[]⟩,rfl,RO⟩
  ·cases hm
   obtain rfl:=hx _ rfl
   exact W.wk ⟨[],[]⟩ [] [] (W.exit (show _/\_ from ⟨rfl,(),rfl,rfl⟩))
 ·intro e0 s0 h0 hq
  rcases r13 with er13 | qr13
  ·obtain ⟨rfl,_,rfl,rfl⟩:=hq
   replace hm:=zc5 hm
   show WK _ _ _ _ _ [] []
   refine W.sa 0 [4] ?_
   cases hm
   exact W.rt
  ·obtain ⟨rfl,rfl,rfl⟩:=hq
   replace hm:=zc4 hm
   cases hm
   exact zee.retW [] RO
theorem zgb{r:(List ByteArray)}(hm:zdw =some r):zaE Tryz.prog 71 [] (.sl (r.map eStr)):=by
 rw [zdw] at hm
 refine zaE.of Tryz.func71 rfl Tryz.ntmps71 (Nat.le_of_ble_eq_true rfl) ?_
 refine W.sa 0 [] ?_
 replace ⟨l1,h2,hm⟩:=zaN hm
 refine W.sq [] [(0,.sl (l1.map eStr))] [] ?_
 clear h2
 cases hm
 exact W.rt
theorem zfm{r:(List ByteArray)}(hm:zcR =some r):zaE Tryz.prog 70 [] (.sl (r.map eStr)):=by
 rw [zcR] at hm
 refine zaE.of Tryz.func70 rfl Tryz.ntmps70 (Nat.le_of_ble_eq_true rfl) ?_
 refine W.sa 0 [] ?_
 replace ⟨l1,h2,hm⟩:=zaN hm
 refine W.sq [] [(0,.sl (l1.map eStr))] [] ?_
 clear h2
 cases hm
 exact W.rt
theorem zil{p0:ByteArray}{r:Bool}(hm:zcG p0=some r):zaE Tryz.prog 60 [.str p0] (.bool r):=by
 rw [zcG] at hm
 refine zaE.of Tryz.func60 rfl Tryz.ntmps60 (Nat.le_of_ble_eq_true rfl) ?_
 refine W.sa 0 [0] ?_
 replace ⟨v1,h2,hm⟩:=zah hm
 replace ⟨v3,h4,hm⟩:=zah hm
 replace ⟨v5,h6,hm⟩:=zah hm
 replace ⟨v7,h8,hm⟩:=zah hm
 replace ⟨v9,h10,hm⟩:=zah hm
 replace ⟨v11,h12,hm⟩:=zah hm
 replace ⟨b13,h14,hm⟩:=zaN hm
 refine W.sq [] [(2,.bool b13)] [] ?_ (hrun:=?_)
 rotate_left
 ·try simp -implicitDefEqProofs -dsimp only [go_sem,h14]
  refine zcU (fun hg15=>?_) (fun hg15=>?_)
  ·try simp only [Bool.not_not] at hg15
   try simp -implicitDefEqProofs -dsimp only [go_sem,hg15,h14]
   refine zcU (fun hg16=>?_) (fun hg16=>?_)
   ·try simp only [Bool.not_not] at hg16
    try simp -implicitDefEqProofs -dsimp only [go_sem,hg15,hg16,h14]
    refine zcU (fun hg17=>?_) (fun hg17=>?_)
    ·try simp only [Bool.not_not] at hg17
     try simp -implicitDefEqProofs -dsimp only [go_sem,hg15,hg16,hg17,h14]
     refine zcU (fun hg18=>?_) (fun hg18=>?_)
     ·try simp only [Bool.not_not] at hg18
      try simp -implicitDefEqProofs -dsimp only [go_sem,hg15,hg16,hg17,hg18,h14]
      with_reducible refine exP.mk _ (callQ.plain (by simp -implicitDefEqProofs -dsimp only [go_sem,hg15,hg16,hg17,hg18,h14]) (zfH (zaW (by simp -implicitDefEqProofs -dsimp only [go_sem,hg15,hg16,hg17,hg18,h14]) h2))) ?_
      try simp -implicitDefEqProofs -dsimp only [go_sem,hg15,hg16,hg17,hg18,h14]
      with_reducible refine exP.mk _ (callQ.plain (by simp -implicitDefEqProofs -dsimp only [go_sem,hg15,hg16,hg17,hg18,h14]) (zcF (zaW (by simp -implicitDefEqProofs -dsimp only [go_sem,hg15,hg16,hg17,hg18,h14]) h4))) ?_
      try simp -implicitDefEqProofs -dsimp only [go_sem,hg15,hg16,hg17,hg18,h14]
      refine zcU (fun hg19=>?_) (fun hg19=>?_)
      ·try simp only [Bool.not_not] at hg19
       try simp -implicitDefEqProofs -dsimp only [go_sem,hg15,hg16,hg17,hg18,hg19,h14]
       with_reducible refine exP.mk _ (callQ.plain (by simp -implicitDefEqProofs -dsimp only [go_sem,hg15,hg16,hg17,hg18,hg19,h14]) (zgb (zaW (by simp -implicitDefEqProofs -dsimp only [go_sem,hg15,hg16,hg17,hg18,hg19,h14]) h6))) ?_
       try simp -implicitDefEqProofs -dsimp only [go_sem,hg15,hg16,hg17,hg18,hg19,h14]
       with_reducible refine exP.mk _ (callQ.plain (by simp -implicitDefEqProofs -dsimp only [go_sem,hg15,hg16,hg17,hg18,hg19,h14]) (zcF (zaW (by simp -implicitDefEqProofs -dsimp only [go_sem,hg15,hg16,hg17,hg18,hg19,h14]) h8))) ?_
       try simp -implicitDefEqProofs -dsimp only [go_sem,hg15,hg16,hg17,hg18,hg19,h14]
       refine zcU (fun hg20=>?_) (fun hg20=>?_)
       ·try simp only [Bool.not_not] at hg20
        try simp -implicitDefEqProofs -dsimp only [go_sem,hg15,hg16,hg17,hg18,hg19,hg20,h14]
        with_reducible refine exP.mk _ (callQ.plain (by simp -implicitDefEqProofs -dsimp only [go_sem,hg15,hg16,hg17,hg18,hg19,hg20,h14]) (zfm (zaW (by simp -implicitDefEqProofs -dsimp only [go_sem,hg15,hg16,hg17,hg18,hg19,hg20,h14]) h10))) ?_
        try simp -implicitDefEqProofs -dsimp only [go_sem,hg15,hg16,hg17,hg18,hg19,hg20,h14]
        with_reducible refine exP.mk _ (callQ.plain (by simp -implicitDefEqProofs -dsimp only [go_sem,hg15,hg16,hg17,hg18,hg19,hg20,h14]) (zcF (zaW (by simp -implicitDefEqProofs -dsimp only [go_sem,hg15,hg16,hg17,hg18,hg19,hg20,h14]) h12))) ?_
        try simp -implicitDefEqProofs -dsimp only [go_sem,hg15,hg16,hg17,hg18,hg19,hg20,h14]
       ·try simp only [Bool.not_not] at hg20
        try simp -implicitDefEqProofs -dsimp only [go_sem,hg15,hg16,hg17,hg18,hg19,hg20,h14]
      ·try simp only [Bool.not_not] at hg19
       try simp -implicitDefEqProofs -dsimp only [go_sem,hg15,hg16,hg17,hg18,hg19,h14]
     ·try simp only [Bool.not_not] at hg18
      try simp -implicitDefEqProofs -dsimp only [go_sem,hg15,hg16,hg17,hg18,h14]
    ·try simp only [Bool.not_not] at hg17
     try simp -implicitDefEqProofs -dsimp only [go_sem,hg15,hg16,hg17,h14]
   ·try simp only [Bool.not_not] at hg16
    try simp -implicitDefEqProofs -dsimp only [go_sem,hg15,hg16,h14]
  ·try simp only [Bool.not_not] at hg15
   try simp -implicitDefEqProofs -dsimp only [go_sem,hg15,h14]
 clear h14
 cases hm
 exact W.rt
theorem zd8{p0:ByteArray}{r:Bool}(hm:zcu p0=some r):zaE Tryz.prog 36 [.str p0] (.bool r):=by
 rw [zcu] at hm
 refine zaE.of Tryz.func36 rfl Tryz.ntmps36 (Nat.le_of_ble_eq_true rfl) ?_
 refine W.sa 0 [0] ?_
 replace ⟨v1,h2,hm⟩:=zah hm
 have kh2:=zhW h2
 refine W.sa 0 [0,3] ?_
 refine W.seq ?_
 replace ⟨v3,h4,hm⟩:=zah hm
 have kh4:=fun hg=>zil (zaW hg h4)
 refine W.sq [] [(3,.sl (v1.map zar)),(18,.bool ((decide ((v1.length:Int)<1)||decide ((v1.length:Int)>16))||v3))] [] ?_
 refine W.cn hm ?_ ?_ <;> clear hm <;> intro hb5 hm
 ·refine W.sa 0 [2] ?_
  cases hm
  exact W.rt
 ·refine W.skip (W.seq (W.sa 0 [3,4] ?_))
  refine W.block ?_
  replace ⟨r35,hlr35,hm⟩:=zah hm
  refine W.mono (Q:=fun e0 s0 h0=>match r35 with | .inl e=>e0=.exit 0/\∃w:Unit,s0=[]/\h0=[] | .inr q=>e0=.ret/\s0=[(2,.bool q)]/\h0=[]) (W.loopM (step:=zbr v1) (a0:=0) (fun (a:Int) (v:Unit)=>([(3,.sl (v1.map zar)),(4,zi a)],[])) () hlr35 ⟨[],[]⟩ RO ?_) ?_
  ·rintro i25 _ x hm hx
   rw [zbr] at hm
   show WK _ _ _ _ _ [(3,.sl (v1.map zar)),(4,zi i25)] []
   refine W.seq (W.sa 0 [3,4,22] ?_)
   refine W.cn hm ?_ ?_ <;> clear hm <;> intro hb36 hm
   ·refine W.skip (W.seq (W.block ?_))
    replace ⟨h37,hm⟩:=zap hm
    replace ⟨h38,hm⟩:=zap hm
    replace ⟨v39,h40,hm⟩:=zah hm
    replace ⟨h41,hm⟩:=zap hm
    replace ⟨v42,h43,hm⟩:=zah hm
    have kh40:=fun hg=>zhE (zaW hg h40)
    try simp only [hb5,hb36] at kh40
    have kh43:=fun hg=>zhZ (zaW hg h43)
    try simp only [hb5,hb36] at kh43
    refine W.sq [] [(3,.sl (v1.map zar)),(4,zi i25),(51,.bool ((rd v1 i25).Bad||((!v39)&&((i25==0)||(!v42)))))] [] ?_
    refine W.cn hm ?_ ?_ <;> clear hm <;> intro hb44 hm
    ·refine W.sa 0 [2] ?_
     cases hm
     obtain rfl:=hx _ rfl
     exact W.wk ⟨[],[]⟩ [(2,.bool false)] [] (W.ret (show _/\_ from ⟨rfl,rfl,rfl⟩))
    ·refine W.skip (W.rg [] [(3,.sl (v1.map zar)),(4,zi (zw (i25+1)))] [] ?_)
     cases hm
     exact ⟨(zw (i25+1)),(),⟨[],[]⟩,rfl,RO⟩
   ·cases hm
    obtain rfl:=hx _ rfl
    exact W.wk ⟨[],[]⟩ [] [] (W.exit (show _/\_ from ⟨rfl,(),rfl,rfl⟩))
  ·intro e0 s0 h0 hq
   rcases r35 with er35 | qr35
   ·obtain ⟨rfl,_,rfl,rfl⟩:=hq
    replace hm:=zc5 hm
    show WK _ _ _ _ _ [] []
    refine W.sa 0 [2] ?_
    cases hm
    exact W.rt
   ·obtain ⟨rfl,rfl,rfl⟩:=hq
    replace hm:=zc4 hm
    cases hm
    exact zee.retW [] RO
theorem zh0{p0:zae}{r:Int}(hm:zdr p0=some r):zaE Tryz.prog 61 [.agg [.sl (p0.Ins.map zas)]] (zi r):=by
 rw [zdr] at hm
 refine zaE.of Tryz.func61 rfl Tryz.ntmps61 (Nat.le_of_ble_eq_true rfl) ?_
 refine W.sa 1 [1] ?_
 refine W.sa 1 [1,3] ?_
 refine W.seq (W.sa 1 [1,3,4] ?_)
 refine W.block ?_
 replace ⟨r15,hlr15,hm⟩:=zah hm
 refine W.mono (Q:=fun e0 s0 h0=>e0=.exit 0/\∃w:Unit,s0=[(3,zi r15)]/\h0=[]) (W.loopM (step:=zdp p0) (a0:=(0,0)) (fun (a:Int × Int) (v:Unit)=>([(1,.ptr 0 0 0),(3,zi a.1),(4,zi a.2)],[.cells (zav p0) 0 59])) () hlr15 ⟨[],[]⟩ RO ?_) ?_
 ·rintro ⟨i9,i10⟩ _ x hm hx
  rw [zdp] at hm
  show WK _ _ _ _ _ [(1,.ptr 0 0 0),(3,zi i9),(4,zi i10)] [.cells (zav p0) 0 59]
  refine W.seq (W.sa 1 [1,3,4,9] ?_)
  refine W.cn hm ?_ ?_ <;> clear hm <;> intro hb16 hm
  ·refine W.skip (W.seq (W.block ?_))
   replace ⟨h17,hm⟩:=zap hm
   refine W.sa 1 [1,3,4,18] ?_
   refine W.cn hm ?_ ?_ <;> clear hm <;> intro hb18 hm
   ·refine W.rg [] [(1,.ptr 0 0 0),(3,zi (zw (i9+1))),(4,zi i10)] [.cells (zav p0) 0 59] ?_
    refine W.rg [] [(1,.ptr 0 0 0),(3,zi (zw (i9+1))),(4,zi (zw (i10+1)))] [.cells (zav p0) 0 59] ?_
    cases hm
    exact ⟨((zw (i9+1)),(zw (i10+1))),(),⟨[],[]⟩,rfl,RO⟩
   ·refine W.skip (W.rg [] [(1,.ptr 0 0 0),(3,zi i9),(4,zi (zw (i10+1)))] [.cells (zav p0) 0 59] ?_)
    cases hm
    exact ⟨(i9,(zw (i10+1))),(),⟨[],[]⟩,rfl,RO⟩
  ·cases hm
   obtain rfl:=hx _ rfl
   exact W.wk ⟨[],[]⟩ [(3,zi i9)] [] (W.exit (show _/\_ from ⟨rfl,(),rfl,rfl⟩))
 ·rintro e0 s0 h0 ⟨rfl,_,rfl,rfl⟩
  show WK _ _ _ _ _ [(3,zi r15)] []
  refine W.sa 0 [2] ?_
  cases hm
  exact W.rt
theorem zdB{p0:zak}{r:Bool}(hm:zbs p0=some r):zaE Tryz.prog 72 [.agg [zi p0.Kind,zi p0.Reg,zi p0.Sym,zi p0.N]] (.bool r):=by
 rw [zbs] at hm
 refine zaE.of Tryz.func72 rfl Tryz.ntmps72 (Nat.le_of_ble_eq_true rfl) ?_
 refine W.sa 1 [1] ?_
 refine W.seq (W.sa 1 [1,4] ?_)
 refine W.block (W.sa 1 [1,4,5] ?_)
 refine W.cn hm ?_ ?_ <;> clear hm <;> intro hb1 hm
 ·refine W.sq [] [(2,.bool (((decide (p0.Reg≥0)&&decide (p0.Reg<=7))&&(p0.Sym==0))&&(p0.N==0)))] [] ?_
  cases hm
  exact W.rt
 ·refine W.sa 1 [1,4,25] ?_
  refine W.cn hm ?_ ?_ <;> clear hm <;> intro hb2 hm
  ·refine W.sq [] [(2,.bool ((p0.Reg==0)&&(p0.Sym==0)))] [] ?_
   cases hm
   exact W.rt
  ·refine W.sa 1 [1,4,35] ?_
   refine W.cn hm ?_ ?_ <;> clear hm <;> intro hb3 hm
   ·refine W.sq [] [(2,.bool ((decide (p0.Sym≥0)&&decide (p0.N≥0))&&(p0.Reg==0)))] [] ?_
    cases hm
    exact W.rt
   ·refine W.sa 1 [1,50] ?_
    refine W.cn hm ?_ ?_ <;> clear hm <;> intro hb4 hm
    ·refine W.sq [] [(2,.bool (((decide (p0.Sym≥0)&&decide (p0.Reg≥0))&&decide (p0.Reg<=7))&&(p0.N==0)))] [] ?_
     cases hm
     exact W.rt
    ·refine W.skip (W.sa 0 [2] ?_)
     cases hm
     exact W.rt
theorem za5{p0:zak}{r:Bool}(hm:zaR p0=some r):zaE Tryz.prog 44 [.agg [zi p0.Kind,zi p0.Reg,zi p0.Sym,zi p0.N]] (.bool r):=by
 rw [zaR] at hm
 refine zaE.of Tryz.func44 rfl Tryz.ntmps44 (Nat.le_of_ble_eq_true rfl) ?_
 refine W.sa 1 [1] ?_
 refine W.sq [] [(2,.bool ((p0.Kind==3)||(p0.Kind==4)))] [] ?_
 cases hm
 exact W.rt
theorem zfl{p0:zak}{r:Bool}(hm:zcQ p0=some r):zaE Tryz.prog 87 [.agg [zi p0.Kind,zi p0.Reg,zi p0.Sym,zi p0.N]] (.bool r):=by
 rw [zcQ] at hm
 refine zaE.of Tryz.func87 rfl Tryz.ntmps87 (Nat.le_of_ble_eq_true rfl) ?_
 refine W.sa 1 [1] ?_
 refine W.sq [] [(2,.bool ((p0.Kind==1)||(p0.Kind==2)))] [] ?_
 cases hm
 exact W.rt
theorem zg5{p0:Int}{r:Bool}(hm:zcY p0=some r):zaE Tryz.prog 88 [zi p0] (.bool r):=by
 rw [zcY] at hm
 refine zaE.of Tryz.func88 rfl Tryz.ntmps88 (Nat.le_of_ble_eq_true rfl) ?_
 refine W.sa 0 [0] ?_
 refine W.sq [] [(2,.bool (decide (p0≥2)&&decide (p0<=6)))] [] ?_
 cases hm
 exact W.rt
theorem ziV{p0:zad}{r:Bool}(hm:zdv p0=some r):zaE Tryz.prog 69 [.agg [zi p0.Op,.bool p0.Lock,zi p0.Cond,zi p0.A.Kind,zi p0.A.Reg,zi p0.A.Sym,zi p0.A.N,zi p0.B.Kind,zi p0.B.Reg,zi p0.B.Sym,zi p0.B.N,.str p0.To,.sl (p0.zLb.map eStr)]] (.bool r):=by
 rw [zdv] at hm
 refine zaE.of Tryz.func69 rfl Tryz.ntmps69 (Nat.le_of_ble_eq_true rfl) ?_
 refine W.sa 1 [1] ?_
 refine W.wa 3 [1] [.res,.res] ?_
 refine W.saL [.light,.light,.light,.light,.here 1,.here 2,.store,.store] [([],[]),([0],[]),([],[]),([0],[]),([1],[1]),([2],[2]),([1],[1]),([2],[2])] 3 [1,3,4] zaI ?_
 refine W.seq (W.sq [] [(1,.ptr 0 0 0),(3,.ptr 1 0 0),(4,.ptr 2 0 0),(16,.bool (decide (p0.Op<1)||decide (p0.Op>9)))] [.cells (zas p0) 0 63,.cells (ziF p0.A) 0 61,.cells (ziF p0.B) 0 61] ?_)
 refine W.cn hm ?_ ?_ <;> clear hm <;> intro hb1 hm
 ·replace ⟨b2,h3,hm⟩:=zaN hm
  refine W.sq [] [(2,.bool b2)] [] ?_
  clear h3
  cases hm
  exact W.rt
 ·refine W.skip (W.seq ?_)
  replace ⟨v4,h5,hm⟩:=zah hm
  replace ⟨v6,h7,hm⟩:=zah hm
  refine W.sq [] [(1,.ptr 0 0 0),(3,.ptr 1 0 0),(4,.ptr 2 0 0),(37,.bool ((!v4)||(!v6)))] [.cells (zas p0) 0 63,.cells (ziF p0.A) 0 61,.cells (ziF p0.B) 0 61] ?_ (hrun:=?_)
  rotate_left
  ·try simp -implicitDefEqProofs -dsimp only [go_sem,hb1]
   with_reducible refine exP.mk _ (callQ.plain (by simp -implicitDefEqProofs -dsimp only [go_sem,hb1]) (by have hk:=zdB h5; (try simp only [hb1] at hk); (try simp only [List.map_cons,List.map_nil,eStr,eInt] at hk); exact hk)) ?_
   try simp -implicitDefEqProofs -dsimp only [go_sem,hb1]
   refine zcJ (fun hg8=>?_) (fun hg8=>?_)
   ·try simp only [Bool.not_not] at hg8
    try simp -implicitDefEqProofs -dsimp only [go_sem,hb1,hg8]
    with_reducible refine exP.mk _ (callQ.plain (by simp -implicitDefEqProofs -dsimp only [go_sem,hb1,hg8]) (by have hk:=zdB (zaW (by simp -implicitDefEqProofs -dsimp only [go_sem,hb1,hg8]) h7); (try simp only [hb1] at hk); (try simp only [List.map_cons,List.map_nil,eStr,eInt] at hk); exact hk)) ?_
    try simp -implicitDefEqProofs -dsimp only [go_sem,hb1,hg8]
   ·try simp only [Bool.not_not] at hg8
    try simp -implicitDefEqProofs -dsimp only [go_sem,hb1,hg8]
  refine W.cn hm ?_ ?_ <;> clear hm <;> intro hb9 hm
  ·refine W.sa 0 [2] ?_
   cases hm
   exact W.rt
  ·refine W.skip (W.seq (W.block (W.sa 3 [1,3,4,38] ?_)))
   refine W.cn hm ?_ ?_ <;> clear hm <;> intro hb10 hm
   ·replace ⟨v11,h12,hm⟩:=zah hm
    have kh12:=za5 h12
    try simp only [hb1,hb9,hb10] at kh12
    refine W.sq [] [(2,.bool ((v11&&(p0.B.Kind==1))&&(!p0.Lock)))] [] ?_
    cases hm
    exact W.rt
   ·refine W.sa 3 [1,3,4,54] ?_
    refine W.cn hm ?_ ?_ <;> clear hm <;> intro hb13 hm
    ·replace ⟨v14,h15,hm⟩:=zah hm
     have kh15:=za5 h15
     try simp only [hb1,hb9,hb10,hb13] at kh15
     refine W.sq [] [(2,.bool ((v14&&(p0.B.Kind==1))&&p0.Lock))] [] ?_
     cases hm
     exact W.rt
    ·refine W.sa 3 [1,3,4,69] ?_
     refine W.cn hm ?_ ?_ <;> clear hm <;> intro hb16 hm
     ·replace ⟨v17,h18,hm⟩:=zah hm
      replace ⟨v19,h20,hm⟩:=zah hm
      have kh18:=zfl h18
      try simp only [hb1,hb9,hb10,hb13,hb16] at kh18
      have kh20:=fun hg=>za5 (zaW hg h20)
      try simp only [hb1,hb9,hb10,hb13,hb16] at kh20
      refine W.sq [] [(2,.bool ((v17||v19)&&(!p0.Lock)))] [] ?_
      cases hm
      exact W.rt
     ·refine W.skip ?_
      replace ⟨v21,h22,hm⟩:=zah hm
      replace ⟨v23,h24,hm⟩:=zah hm
      replace ⟨v25,h26,hm⟩:=zah hm
      have kh22:=za5 h22
      try simp only [hb1,hb9,hb10,hb13,hb16] at kh22
      have kh24:=fun hg=>zfl (zaW hg h24)
      try simp only [hb1,hb9,hb10,hb13,hb16] at kh24
      have kh26:=fun hg=>zg5 (zaW hg h26)
      try simp only [hb1,hb9,hb10,hb13,hb16] at kh26
      refine W.sqh [] [(2,.bool ((v21&&v23)&&((!p0.Lock)||v25)))] ?_
      cases hm
      exact W.rt
theorem zdo{p0:Int}{r:Bool}(hm:za1 p0=some r):zaE Tryz.prog 43 [zi p0] (.bool r):=by
 rw [za1] at hm
 refine zaE.of Tryz.func43 rfl Tryz.ntmps43 (Nat.le_of_ble_eq_true rfl) ?_
 refine W.sa 0 [0] ?_
 refine W.sq [] [(2,.bool ((p0==10)||(p0==11)))] [] ?_
 cases hm
 exact W.rt
theorem zeA{p0:zad}{r:Int}(hm:zcc p0=some r):zaE Tryz.prog 41 [.agg [zi p0.Op,.bool p0.Lock,zi p0.Cond,zi p0.A.Kind,zi p0.A.Reg,zi p0.A.Sym,zi p0.A.N,zi p0.B.Kind,zi p0.B.Reg,zi p0.B.Sym,zi p0.B.N,.str p0.To,.sl (p0.zLb.map eStr)]] (zi r):=by
 rw [zcc] at hm
 refine zaE.of Tryz.func41 rfl Tryz.ntmps41 (Nat.le_of_ble_eq_true rfl) ?_
 refine W.sa 1 [1] ?_
 refine W.seq ?_
 replace ⟨v1,h2,hm⟩:=zah hm
 replace ⟨v3,h4,hm⟩:=zah hm
 replace ⟨b5,h6,hm⟩:=zaN hm
 have kh2:=fun hg=>ziV (zaW hg h2)
 have kh4:=fun hg=>zdo (zaW hg h4)
 refine W.sq [] [(1,.ptr 0 0 0),(26,.bool b5)] [.cells (zas p0) 0 63] ?_
 clear h6
 refine W.cn hm ?_ ?_ <;> clear hm <;> intro hb7 hm
 ·refine W.sa 0 [2] ?_
  cases hm
  exact W.rt
 ·refine W.skip (W.seq ?_)
  replace ⟨b8,h9,hm⟩:=zaN hm
  refine W.sq [] [(1,.ptr 0 0 0),(49,.bool b8)] [.cells (zas p0) 0 63] ?_
  clear h9
  refine W.cn hm ?_ ?_ <;> clear hm <;> intro hb10 hm
  ·refine W.sa 0 [2] ?_
   cases hm
   exact W.rt
  ·refine W.skip (W.seq ?_)
   replace ⟨v11,h12,hm⟩:=zah hm
   replace ⟨v13,h14,hm⟩:=zah hm
   have kh12:=zdo h12
   try simp only [hb7,hb10] at kh12
   have kh14:=fun hg=>zd8 (zaW hg h14)
   try simp only [hb7,hb10] at kh14
   refine W.sq [] [(58,.bool (v11&&(!v13)))] [] ?_
   refine W.cn hm ?_ ?_ <;> clear hm <;> intro hb15 hm
   ·refine W.sa 0 [2] ?_
    cases hm
    exact W.rt
   ·refine W.skip (W.sa 0 [2] ?_)
    cases hm
    exact W.rt
theorem zeP{p0:zaf}{p1:zak}{r:Int}(hm:zcm p0 p1=some r):zaE Tryz.prog 63 [.agg [.sl (p0.zSy.map zaD),.sl (p0.zTh.map zav)],.agg [zi p1.Kind,zi p1.Reg,zi p1.Sym,zi p1.N]] (zi r):=by
 rw [zcm] at hm
 refine zaE.of Tryz.func63 rfl Tryz.ntmps63 (Nat.le_of_ble_eq_true rfl) ?_
 refine W.sa 2 [2,3] ?_
 refine W.seq (W.block ?_)
 replace ⟨v1,h2,hm⟩:=zah hm
 have kh2:=za5 h2
 refine W.sa 2 [2,3,5] ?_
 refine W.cn hm ?_ ?_ <;> clear hm <;> intro hb3 hm
 ·refine W.sa 0 [4] ?_
  cases hm
  exact W.rt
 ·refine W.sa 2 [2,3,9] ?_
  refine W.cn hm ?_ ?_ <;> clear hm <;> intro hb4 hm
  ·refine W.sa 0 [4] ?_
   cases hm
   exact W.rt
  ·replace ⟨h5,hm⟩:=zap hm
   refine W.sqJ [] [] [] 0 [] [(16,.bool ((p1.Kind==3)&&decide (p1.N≥(rd p0.zSy p1.Sym).Size)))] [] zaI ?_
   refine W.cn hm ?_ ?_ <;> clear hm <;> intro hb6 hm
   ·refine W.sa 0 [4] ?_
    cases hm
    exact W.rt
   ·refine W.skip (W.sa 0 [4] ?_)
    cases hm
    exact W.rt
theorem zio{p0:zae}{p1:ByteArray}{r:Int}(hm:zdg p0 p1=some r):zaE Tryz.prog 64 [.agg [.sl (p0.Ins.map zas)],.str p1] (zi r):=by
 rw [zdg] at hm
 refine zaE.of Tryz.func64 rfl Tryz.ntmps64 (Nat.le_of_ble_eq_true rfl) ?_
 refine W.sa 1 [1,2] ?_
 refine W.seq (W.sa 1 [1,2,5] ?_)
 refine W.block ?_
 replace ⟨r18,hlr18,hm⟩:=zah hm
 refine W.mono (Q:=fun e0 s0 h0=>match r18 with | .inl e=>e0=.exit 0/\∃w:Unit,s0=[]/\h0=[] | .inr q=>e0=.ret/\s0=[(4,zi q)]/\h0=[]) (W.loopM (step:=zcr p0 p1) (a0:=0) (fun (a:Int) (v:Unit)=>([(1,.str p1),(2,.ptr 0 0 0),(5,zi a)],[.cells (zav p0) 0 59])) () hlr18 ⟨[],[]⟩ RO ?_) ?_
 ·rintro i12 _ x hm hx
  rw [zcr] at hm
  show WK _ _ _ _ _ [(1,.str p1),(2,.ptr 0 0 0),(5,zi i12)] [.cells (zav p0) 0 59]
  refine W.seq (W.sa 1 [1,2,5,10] ?_)
  refine W.cn hm ?_ ?_ <;> clear hm <;> intro hb19 hm
  ·refine W.skip (W.seq (W.block ?_))
   replace ⟨h20,hm⟩:=zap hm
   replace ⟨v21,h22,hm⟩:=zah hm
   have kh22:=zcF h22
   try simp only [hb19] at kh22
   refine W.sa 1 [1,2,5,21] ?_
   refine W.cn hm ?_ ?_ <;> clear hm <;> intro hb23 hm
   ·refine W.sa 0 [4] ?_
    cases hm
    obtain rfl:=hx _ rfl
    exact W.wk ⟨[],[]⟩ [(4,zi i12)] [] (W.ret (show _/\_ from ⟨rfl,rfl,rfl⟩))
   ·refine W.skip (W.rg [] [(1,.str p1),(2,.ptr 0 0 0),(5,zi (zw (i12+1)))] [.cells (zav p0) 0 59] ?_)
    cases hm
    exact ⟨(zw (i12+1)),(),⟨[],[]⟩,rfl,RO⟩
  ·cases hm
   obtain rfl:=hx _ rfl
   exact W.wk ⟨[],[]⟩ [] [] (W.exit (show _/\_ from ⟨rfl,(),rfl,rfl⟩))
 ·intro e0 s0 h0 hq
  rcases r18 with er18 | qr18
  ·obtain ⟨rfl,_,rfl,rfl⟩:=hq
   replace hm:=zc5 hm
   show WK _ _ _ _ _ [] []
   refine W.sa 0 [4] ?_
   cases hm
   exact W.rt
  ·obtain ⟨rfl,rfl,rfl⟩:=hq
   replace hm:=zc4 hm
   cases hm
   exact zee.retW [] RO
theorem zhC{p0:zaf}{p1:zae}{r:Int}(hm:zdb p0 p1=some r):zaE Tryz.prog 37 [.agg [.sl (p0.zSy.map zaD),.sl (p0.zTh.map zav)],.agg [.sl (p1.Ins.map zas)]] (zi r):=by
 rw [zdb] at hm
 refine zaE.of Tryz.func37 rfl Tryz.ntmps37 (Nat.le_of_ble_eq_true rfl) ?_
 refine W.sa 2 [2,3] ?_
 refine W.seq ?_
 replace ⟨v1,h2,hm⟩:=zah hm
 have kh2:=zh0 h2
 refine W.sa 2 [2,3,16] ?_
 refine W.cn hm ?_ ?_ <;> clear hm <;> intro hb3 hm
 ·refine W.sa 0 [4] ?_
  cases hm
  exact W.rt
 ·refine W.skip (W.sa 2 [2,3,5] ?_)
  refine W.seq (W.sa 2 [2,3,5,6] ?_)
  refine W.block ?_
  replace ⟨r187,hlr187,hm⟩:=zah hm
  refine W.mono (Q:=fun e0 s0 h0=>match r187 with | .inl e=>e0=.exit 0/\∃w:Unit,s0=[(3,.ptr 1 0 0)]/\h0=[.dead,.cells (zav p1) 0 59] | .inr q=>e0=.ret/\s0=[(4,zi q)]/\h0=[]) (W.loopM (step:=zbk p1 p0) (a0:=(0,[])) (fun (a:Int × (List ByteArray)) (v:Nat)=>([(2,.ptr 0 0 0),(3,.ptr 1 0 0),(5,zM 3 v 1 a.2),(6,zi a.1)],[.cells (zam p0) 0 30,.cells (zav p1) 0 59,.dead,.rows (a.2.map eStr) 1 v 9])) 0 hlr187 ⟨[],[]⟩ RO ?_) ?_
  ·rintro ⟨i125,l126⟩ w127 x hm hx
   rw [zbk] at hm
   show WK _ _ _ _ _ [(2,.ptr 0 0 0),(3,.ptr 1 0 0),(5,zM 3 w127 1 l126),(6,zi i125)] [.cells (zam p0) 0 30,.cells (zav p1) 0 59,.dead,.rows (l126.map eStr) 1 w127 9]
   refine W.seq (W.sa 4 [2,3,5,6,21] ?_)
   refine W.cn hm ?_ ?_ <;> clear hm <;> intro hb188 hm
   ·refine W.skip (W.seq (W.block ?_))
    replace ⟨h189,hm⟩:=zap hm
    refine W.sa 5 [2,3,5,6,7] ?_
    refine W.seq (W.sa 5 [2,3,5,6,7,8] ?_)
    refine W.block ?_
    replace ⟨r237,hlr237,hm⟩:=zah hm
    refine W.mono (Q:=fun e0 s0 h0=>match r237 with | .inl e=>e0=.exit 2/\∃w:Nat,s0=[(2,.ptr 0 0 0),(3,.ptr 1 0 0),(5,zM 3 w 1 e),(6,zi i125),(7,.ptr 4 0 0)]/\h0=[.cells (zam p0) 0 30,.cells (zav p1) 0 59,.dead,.rows (e.map eStr) 1 w 9,.cells (zas (rd p1.Ins i125)) 0 63] | .inr q=>e0=.ret/\s0=[(4,zi q)]/\h0=[]) (W.loopM (step:=zbj p1 i125) (a0:=(0,l126)) (fun (a:Int × (List ByteArray)) (v:Nat)=>([(2,.ptr 0 0 0),(3,.ptr 1 0 0),(5,zM 3 v 1 a.2),(6,zi i125),(7,.ptr 4 0 0),(8,zi a.1)],[.cells (zam p0) 0 30,.cells (zav p1) 0 59,.dead,.rows (a.2.map eStr) 1 v 9,.cells (zas (rd p1.Ins i125)) 0 63])) w127 hlr237 ⟨[],[]⟩ RO ?_) ?_
    ·rintro ⟨i219,l220⟩ w221 x hm hx
     rw [zbj] at hm
     show WK _ _ _ _ _ [(2,.ptr 0 0 0),(3,.ptr 1 0 0),(5,zM 3 w221 1 l220),(6,zi i125),(7,.ptr 4 0 0),(8,zi i219)] [.cells (zam p0) 0 30,.cells (zav p1) 0 59,.dead,.rows (l220.map eStr) 1 w221 9,.cells (zas (rd p1.Ins i125)) 0 63]
     refine W.seq (W.sa 5 [2,3,5,6,7,8,33] ?_)
     refine W.cn hm ?_ ?_ <;> clear hm <;> intro hb238 hm
     ·refine W.skip (W.seq (W.block (W.seq ?_)))
      replace ⟨h239,hm⟩:=zap hm
      replace ⟨v240,h241,hm⟩:=zah hm
      have kh241:=zd8 h241
      try simp only [hb3,hb188,hb238] at kh241
      refine W.sa 5 [2,3,5,6,7,8,42] ?_
      refine W.cn hm ?_ ?_ <;> clear hm <;> intro hb242 hm
      ·refine W.sa 0 [4] ?_
       cases hm
       obtain rfl:=hx _ rfl
       exact W.wk ⟨[],[]⟩ [(4,zi 3)] [] (W.ret (show _/\_ from ⟨rfl,rfl,rfl⟩))
      ·refine W.skip (W.seq ?_)
       replace ⟨h243,hm⟩:=zap hm
       replace ⟨v244,h245,hm⟩:=zah hm
       refine W.sq [] [(2,.ptr 0 0 0),(3,.ptr 1 0 0),(5,zM 3 w221 1 l220),(6,zi i125),(7,.ptr 4 0 0),(8,zi i219),(50,.bool (decide (v244≥0)))] [.cells (zam p0) 0 30,.cells (zav p1) 0 59,.dead,.rows (l220.map eStr) 1 w221 9,.cells (zas (rd p1.Ins i125)) 0 63] ?_ (hrun:=?_)
       rotate_left
       ·try simp -implicitDefEqProofs -dsimp only [go_sem,hb3,hb188,h189,hb238,h239,hb242,h243]
        with_reducible refine exP.mk (.pure ⟨[3],true,[.sl (l220.map eStr),.str (rd ((rd p1.Ins i125).zLb) i219)],zi v244⟩) (callQ.of (by simp -implicitDefEqProofs -dsimp only [go_sem,hb3,hb188,h189,hb238,h239,hb242,h243]) (by simp -implicitDefEqProofs -dsimp only [go_sem,hb3,hb188,h189,hb238,h239,hb242,h243]) (by simp -implicitDefEqProofs -dsimp only [go_sem,hb3,hb188,h189,hb238,h239,hb242,h243]) (fun _=>by simp -implicitDefEqProofs -dsimp only [go_sem,hb3,hb188,h189,hb238,h239,hb242,h243]) (zcF h245)) ?_
        try simp -implicitDefEqProofs -dsimp only [go_sem,hb3,hb188,h189,hb238,h239,hb242,h243]
       refine W.cn hm ?_ ?_ <;> clear hm <;> intro hb246 hm
       ·refine W.sa 0 [4] ?_
        cases hm
        obtain rfl:=hx _ rfl
        exact W.wk ⟨[],[]⟩ [(4,zi 6)] [] (W.ret (show _/\_ from ⟨rfl,rfl,rfl⟩))
       ·refine W.skip ?_
        replace ⟨h247,hm⟩:=zap hm
        replace ⟨h248,hm⟩:=zap hm
        replace ⟨l249,h250,hm⟩:=zaN hm
        refine W.rg [] [(2,.ptr 0 0 0),(3,.ptr 1 0 0),(5,.msl 3 (w221+1) 0 1 l249.length l249.length),(6,zi i125),(7,.ptr 4 0 0),(8,zi i219)] [.cells (zam p0) 0 30,.cells (zav p1) 0 59,.dead,.rows (l249.map eStr) 1 (w221+1) 9,.cells (zas (rd p1.Ins i125)) 0 63] ?_
        clear h250
        refine W.rg [] [(2,.ptr 0 0 0),(3,.ptr 1 0 0),(5,.msl 3 (w221+1) 0 1 l249.length l249.length),(6,zi i125),(7,.ptr 4 0 0),(8,zi (zw (i219+1)))] [.cells (zam p0) 0 30,.cells (zav p1) 0 59,.dead,.rows (l249.map eStr) 1 (w221+1) 9,.cells (zas (rd p1.Ins i125)) 0 63] ?_
        cases hm
        exact ⟨((zw (i219+1)),l249),(w221+1),⟨[],[]⟩,rfl,RO⟩
     ·cases hm
      obtain rfl:=hx _ rfl
      exact W.wk ⟨[],[]⟩ [(2,.ptr 0 0 0),(3,.ptr 1 0 0),(5,zM 3 w221 1 l220),(6,zi i125),(7,.ptr 4 0 0)] [.cells (zam p0) 0 30,.cells (zav p1) 0 59,.dead,.rows (l220.map eStr) 1 w221 9,.cells (zas (rd p1.Ins i125)) 0 63] (W.exit (show _/\_ from ⟨rfl,w221,rfl,rfl⟩))
    ·intro e0 s0 h0 hq
     rcases r237 with er237 | qr237
     ·obtain ⟨rfl,w236,rfl,rfl⟩:=hq
      replace hm:=zc5 hm
      show WK _ _ _ _ _ [(2,.ptr 0 0 0),(3,.ptr 1 0 0),(5,zM 3 w236 1 er237),(6,zi i125),(7,.ptr 4 0 0)] [.cells (zam p0) 0 30,.cells (zav p1) 0 59,.dead,.rows (er237.map eStr) 1 w236 9,.cells (zas (rd p1.Ins i125)) 0 63]
      refine W.seq ?_
      replace ⟨v251,h252,hm⟩:=zah hm
      have kh252:=zeA h252
      try simp only [hb3,hb188] at kh252
      refine W.sa 5 [2,3,5,6,7,9] ?_
      refine W.sa 5 [2,3,5,6,7,9,62] ?_
      refine W.cn hm ?_ ?_ <;> clear hm <;> intro hb253 hm
      ·refine W.sa 0 [4] ?_
       cases hm
       obtain rfl:=hx _ rfl
       exact W.wk ⟨[],[]⟩ [(4,zi v251)] [] (W.ret (show _/\_ from ⟨rfl,rfl,rfl⟩))
      ·refine W.skip (W.seq ?_)
       replace ⟨v254,h255,hm⟩:=zah hm
       have kh255:=zeP h255
       try simp only [hb3,hb188,hb253] at kh255
       refine W.sa 5 [2,3,5,6,7,10] ?_
       refine W.sa 5 [2,3,5,6,7,10,69] ?_
       refine W.cn hm ?_ ?_ <;> clear hm <;> intro hb256 hm
       ·refine W.sa 0 [4] ?_
        cases hm
        obtain rfl:=hx _ rfl
        exact W.wk ⟨[],[]⟩ [(4,zi v254)] [] (W.ret (show _/\_ from ⟨rfl,rfl,rfl⟩))
       ·refine W.skip ?_
        replace ⟨v257,h258,hm⟩:=zah hm
        have kh258:=zeP h258
        try simp only [hb3,hb188,hb253,hb256] at kh258
        refine W.sa 4 [2,3,5,6,11] ?_
        refine W.sa 4 [2,3,5,6,11,76] ?_
        refine W.cn hm ?_ ?_ <;> clear hm <;> intro hb259 hm
        ·refine W.sa 0 [4] ?_
         cases hm
         obtain rfl:=hx _ rfl
         exact W.wk ⟨[],[]⟩ [(4,zi v257)] [] (W.ret (show _/\_ from ⟨rfl,rfl,rfl⟩))
        ·refine W.skip (W.rg [] [(2,.ptr 0 0 0),(3,.ptr 1 0 0),(5,zM 3 w236 1 er237),(6,zi (zw (i125+1)))] [.cells (zam p0) 0 30,.cells (zav p1) 0 59,.dead,.rows (er237.map eStr) 1 w236 9] ?_)
         cases hm
         exact ⟨((zw (i125+1)),er237),w236,⟨[],[]⟩,rfl,RO⟩
     ·obtain ⟨rfl,rfl,rfl⟩:=hq
      replace hm:=zc4 hm
      cases hm
      obtain rfl:=hx _ rfl
      first | exact (show _/\_ from ⟨rfl,rfl,rfl⟩) | exact ⟨trivial,rfl,rfl⟩
   ·cases hm
    obtain rfl:=hx _ rfl
    exact W.wk ⟨[],[]⟩ [(3,.ptr 1 0 0)] [.dead,.cells (zav p1) 0 59] (W.exit (show _/\_ from ⟨rfl,(),rfl,rfl⟩))
  ·intro e0 s0 h0 hq
   rcases r187 with er187 | qr187
   ·obtain ⟨rfl,_,rfl,rfl⟩:=hq
    replace hm:=zc5 hm
    show WK _ _ _ _ _ [(3,.ptr 1 0 0)] [.dead,.cells (zav p1) 0 59]
    refine W.seq (W.sa 2 [3,81] ?_)
    refine W.cn hm ?_ ?_ <;> clear hm <;> intro hb260 hm
    ·refine W.sa 0 [4] ?_
     cases hm
     exact W.rt
    ·refine W.skip (W.seq ?_)
     replace ⟨h261,hm⟩:=zap hm
     replace ⟨n262,h263,hm⟩:=zaN hm
     refine W.sq [] [(3,.ptr 1 0 0),(12,zi n262)] [.dead,.cells (zav p1) 0 59] ?_
     clear h263
     refine W.sq [] [(3,.ptr 1 0 0),(96,.bool ((n262 != 10)&&(n262 != 14)))] [.dead,.cells (zav p1) 0 59] ?_
     refine W.cn hm ?_ ?_ <;> clear hm <;> intro hb264 hm
     ·refine W.sa 0 [4] ?_
      cases hm
      exact W.rt
     ·refine W.skip (W.seq (W.sa 2 [3,13] ?_))
      refine W.block ?_
      replace ⟨r291,hlr291,hm⟩:=zah hm
      refine W.mono (Q:=fun e0 s0 h0=>match r291 with | .inl e=>e0=.exit 4/\∃w:Unit,s0=[]/\h0=[] | .inr q=>e0=.ret/\s0=[(4,zi q)]/\h0=[]) (W.loopM (step:=zbi p1) (a0:=0) (fun (a:Int) (v:Unit)=>([(3,.ptr 1 0 0),(13,zi a)],[.dead,.cells (zav p1) 0 59])) () hlr291 ⟨[],[]⟩ RO ?_) ?_
      ·rintro i282 _ x hm hx
       rw [zbi] at hm
       show WK _ _ _ _ _ [(3,.ptr 1 0 0),(13,zi i282)] [.dead,.cells (zav p1) 0 59]
       refine W.seq (W.sa 2 [3,13,101] ?_)
       refine W.cn hm ?_ ?_ <;> clear hm <;> intro hb292 hm
       ·refine W.skip (W.seq (W.block ?_))
        replace ⟨h293,hm⟩:=zap hm
        replace ⟨v294,h295,hm⟩:=zah hm
        replace ⟨h296,hm⟩:=zap hm
        replace ⟨v297,h298,hm⟩:=zah hm
        have kh295:=zdo h295
        try simp only [hb3,hb260,hb264,hb292] at kh295
        have kh298:=fun hg=>zio (zaW hg h298)
        try simp only [hb3,hb260,hb264,hb292] at kh298
        refine W.sqJ [] [] [] 0 [] [(3,.ptr 1 0 0),(13,zi i282),(121,.bool (v294&&decide (v297<0)))] [.dead,.cells (zav p1) 0 59] zaI ?_
        refine W.cn hm ?_ ?_ <;> clear hm <;> intro hb299 hm
        ·refine W.sa 0 [4] ?_
         cases hm
         obtain rfl:=hx _ rfl
         exact W.wk ⟨[],[]⟩ [(4,zi 7)] [] (W.ret (show _/\_ from ⟨rfl,rfl,rfl⟩))
        ·refine W.skip (W.rg [] [(3,.ptr 1 0 0),(13,zi (zw (i282+1)))] [.dead,.cells (zav p1) 0 59] ?_)
         cases hm
         exact ⟨(zw (i282+1)),(),⟨[],[]⟩,rfl,RO⟩
       ·cases hm
        obtain rfl:=hx _ rfl
        exact W.wk ⟨[],[]⟩ [] [] (W.exit (show _/\_ from ⟨rfl,(),rfl,rfl⟩))
      ·intro e0 s0 h0 hq
       rcases r291 with er291 | qr291
       ·obtain ⟨rfl,_,rfl,rfl⟩:=hq
        replace hm:=zc5 hm
        show WK _ _ _ _ _ [] []
        refine W.sa 0 [4] ?_
        cases hm
        exact W.rt
       ·obtain ⟨rfl,rfl,rfl⟩:=hq
        replace hm:=zc4 hm
        cases hm
        exact zee.retW [] RO
   ·obtain ⟨rfl,rfl,rfl⟩:=hq
    replace hm:=zc4 hm
    cases hm
    exact zee.retW [] RO
theorem zfn{p0:zaf}{r:Int}(hm:zcS p0=some r):zaE Tryz.prog 18 [.agg [.sl (p0.zSy.map zaD),.sl (p0.zTh.map zav)]] (zi r):=by
 rw [zcS] at hm
 refine zaE.of Tryz.func18 rfl Tryz.ntmps18 (Nat.le_of_ble_eq_true rfl) ?_
 refine W.sa 1 [1] ?_
 refine W.seq (W.sq [] [(1,.ptr 0 0 0),(17,.bool (decide ((p0.zSy.length:Int)>64)||decide ((p0.zTh.length:Int)>64)))] [.cells (zam p0) 0 30] ?_)
 refine W.cn hm ?_ ?_ <;> clear hm <;> intro hb1 hm
 ·refine W.sa 0 [2] ?_
  cases hm
  exact W.rt
 ·refine W.skip (W.seq (W.sa 1 [1,3] ?_))
  refine W.block ?_
  replace ⟨r54,hlr54,hm⟩:=zah hm
  refine W.mono (Q:=fun e0 s0 h0=>match r54 with | .inl e=>e0=.exit 0/\∃w:Unit,s0=[(1,.ptr 0 0 0)]/\h0=[.cells (zam p0) 0 30] | .inr q=>e0=.ret/\s0=[(2,zi q)]/\h0=[]) (W.loopM (step:=zbb p0) (a0:=0) (fun (a:Int) (v:Unit)=>([(1,.ptr 0 0 0),(3,zi a)],[.cells (zam p0) 0 30])) () hlr54 ⟨[],[]⟩ RO ?_) ?_
  ·rintro i33 _ x hm hx
   rw [zbb] at hm
   show WK _ _ _ _ _ [(1,.ptr 0 0 0),(3,zi i33)] [.cells (zam p0) 0 30]
   refine W.seq (W.sa 1 [1,3,22] ?_)
   refine W.cn hm ?_ ?_ <;> clear hm <;> intro hb55 hm
   ·refine W.skip (W.seq (W.block ?_))
    replace ⟨h56,hm⟩:=zap hm
    refine W.sa 2 [1,3,4] ?_
    refine W.seq ?_
    replace ⟨v57,h58,hm⟩:=zah hm
    have kh58:=zd8 h58
    try simp only [hb1,hb55] at kh58
    refine W.sa 2 [1,3,4,33] ?_
    refine W.cn hm ?_ ?_ <;> clear hm <;> intro hb59 hm
    ·refine W.sa 0 [2] ?_
     cases hm
     obtain rfl:=hx _ rfl
     exact W.wk ⟨[],[]⟩ [(2,zi 3)] [] (W.ret (show _/\_ from ⟨rfl,rfl,rfl⟩))
    ·refine W.skip (W.seq (W.sa 2 [1,3,4,5] ?_))
     refine W.block ?_
     replace ⟨r71,hlr71,hm⟩:=zah hm
     refine W.mono (Q:=fun e0 s0 h0=>match r71 with | .inl e=>e0=.exit 2/\∃w:Unit,s0=[(1,.ptr 0 0 0),(3,zi i33),(4,.ptr 1 0 0)]/\h0=[.cells (zam p0) 0 30,.cells (zaD (rd p0.zSy i33)) 0 54] | .inr q=>e0=.ret/\s0=[(2,zi q)]/\h0=[]) (W.loopM (step:=zbt i33 p0) (a0:=0) (fun (a:Int) (v:Unit)=>([(1,.ptr 0 0 0),(3,zi i33),(4,.ptr 1 0 0),(5,zi a)],[.cells (zam p0) 0 30,.cells (zaD (rd p0.zSy i33)) 0 54])) () hlr71 ⟨[],[]⟩ RO ?_) ?_
     ·rintro i67 _ x hm hx
      rw [zbt] at hm
      show WK _ _ _ _ _ [(1,.ptr 0 0 0),(3,zi i33),(4,.ptr 1 0 0),(5,zi i67)] [.cells (zam p0) 0 30,.cells (zaD (rd p0.zSy i33)) 0 54]
      refine W.seq (W.sa 2 [1,3,4,5,36] ?_)
      refine W.cn hm ?_ ?_ <;> clear hm <;> intro hb72 hm
      ·refine W.skip (W.seq (W.block ?_))
       replace ⟨h73,hm⟩:=zap hm
       refine W.saJ [] [] [] 0 2 [1,3,4,5,47] zaI ?_
       refine W.cn hm ?_ ?_ <;> clear hm <;> intro hb74 hm
       ·refine W.sa 0 [2] ?_
        cases hm
        obtain rfl:=hx _ rfl
        exact W.wk ⟨[],[]⟩ [(2,zi 6)] [] (W.ret (show _/\_ from ⟨rfl,rfl,rfl⟩))
       ·refine W.skip (W.rg [] [(1,.ptr 0 0 0),(3,zi i33),(4,.ptr 1 0 0),(5,zi (zw (i67+1)))] [.cells (zam p0) 0 30,.cells (zaD (rd p0.zSy i33)) 0 54] ?_)
        cases hm
        exact ⟨(zw (i67+1)),(),⟨[],[]⟩,rfl,RO⟩
      ·cases hm
       obtain rfl:=hx _ rfl
       exact W.wk ⟨[],[]⟩ [(1,.ptr 0 0 0),(3,zi i33),(4,.ptr 1 0 0)] [.cells (zam p0) 0 30,.cells (zaD (rd p0.zSy i33)) 0 54] (W.exit (show _/\_ from ⟨rfl,(),rfl,rfl⟩))
     ·intro e0 s0 h0 hq
      rcases r71 with er71 | qr71
      ·obtain ⟨rfl,_,rfl,rfl⟩:=hq
       replace hm:=zc5 hm
       show WK _ _ _ _ _ [(1,.ptr 0 0 0),(3,zi i33),(4,.ptr 1 0 0)] [.cells (zam p0) 0 30,.cells (zaD (rd p0.zSy i33)) 0 54]
       replace ⟨b75,h76,hm⟩:=zaN hm
       refine W.sq [] [(1,.ptr 0 0 0),(3,zi i33),(63,.bool b75)] [.cells (zam p0) 0 30] ?_
       clear h76
       refine W.cn hm ?_ ?_ <;> clear hm <;> intro hb77 hm
       ·refine W.sa 0 [2] ?_
        cases hm
        obtain rfl:=hx _ rfl
        exact W.wk ⟨[],[]⟩ [(2,zi 5)] [] (W.ret (show _/\_ from ⟨rfl,rfl,rfl⟩))
       ·refine W.skip (W.rg [] [(1,.ptr 0 0 0),(3,zi (zw (i33+1)))] [.cells (zam p0) 0 30] ?_)
        cases hm
        exact ⟨(zw (i33+1)),(),⟨[],[]⟩,rfl,RO⟩
      ·obtain ⟨rfl,rfl,rfl⟩:=hq
       replace hm:=zc4 hm
       cases hm
       obtain rfl:=hx _ rfl
       first | exact (show _/\_ from ⟨rfl,rfl,rfl⟩) | exact ⟨trivial,rfl,rfl⟩
   ·cases hm
    obtain rfl:=hx _ rfl
    exact W.wk ⟨[],[]⟩ [(1,.ptr 0 0 0)] [.cells (zam p0) 0 30] (W.exit (show _/\_ from ⟨rfl,(),rfl,rfl⟩))
  ·intro e0 s0 h0 hq
   rcases r54 with er54 | qr54
   ·obtain ⟨rfl,_,rfl,rfl⟩:=hq
    replace hm:=zc5 hm
    show WK _ _ _ _ _ [(1,.ptr 0 0 0)] [.cells (zam p0) 0 30]
    refine W.seq (W.sa 1 [1,6] ?_)
    refine W.block ?_
    replace ⟨r95,hlr95,hm⟩:=zah hm
    refine W.mono (Q:=fun e0 s0 h0=>match r95 with | .inl e=>e0=.exit 4/\∃w:Unit,s0=[]/\h0=[] | .inr q=>e0=.ret/\s0=[(2,zi q)]/\h0=[]) (W.loopM (step:=zcd p0) (a0:=0) (fun (a:Int) (v:Unit)=>([(1,.ptr 0 0 0),(6,zi a)],[.cells (zam p0) 0 30])) () hlr95 ⟨[],[]⟩ RO ?_) ?_
    ·rintro i89 _ x hm hx
     rw [zcd] at hm
     show WK _ _ _ _ _ [(1,.ptr 0 0 0),(6,zi i89)] [.cells (zam p0) 0 30]
     refine W.seq (W.sa 1 [1,6,68] ?_)
     refine W.cn hm ?_ ?_ <;> clear hm <;> intro hb96 hm
     ·refine W.skip (W.seq (W.block ?_))
      replace ⟨h97,hm⟩:=zap hm
      replace ⟨v98,h99,hm⟩:=zah hm
      have kh99:=zhC h99
      try simp only [hb1,hb96] at kh99
      refine W.saJ [] [] [] 0 1 [1,6,7] zaI ?_
      refine W.sa 1 [1,6,7,79] ?_
      refine W.cn hm ?_ ?_ <;> clear hm <;> intro hb100 hm
      ·refine W.sa 0 [2] ?_
       cases hm
       obtain rfl:=hx _ rfl
       exact W.wk ⟨[],[]⟩ [(2,zi v98)] [] (W.ret (show _/\_ from ⟨rfl,rfl,rfl⟩))
      ·refine W.skip (W.rg [] [(1,.ptr 0 0 0),(6,zi (zw (i89+1)))] [.cells (zam p0) 0 30] ?_)
       cases hm
       exact ⟨(zw (i89+1)),(),⟨[],[]⟩,rfl,RO⟩
     ·cases hm
      obtain rfl:=hx _ rfl
      exact W.wk ⟨[],[]⟩ [] [] (W.exit (show _/\_ from ⟨rfl,(),rfl,rfl⟩))
    ·intro e0 s0 h0 hq
     rcases r95 with er95 | qr95
     ·obtain ⟨rfl,_,rfl,rfl⟩:=hq
      replace hm:=zc5 hm
      show WK _ _ _ _ _ [] []
      refine W.sa 0 [2] ?_
      cases hm
      exact W.rt
     ·obtain ⟨rfl,rfl,rfl⟩:=hq
      replace hm:=zc4 hm
      cases hm
      exact zee.retW [] RO
   ·obtain ⟨rfl,rfl,rfl⟩:=hq
    replace hm:=zc4 hm
    cases hm
    exact zee.retW [] RO
theorem zgQ{p0:zaf}{r:(List ByteArray)}(hm:zcH p0=some r):zaE Tryz.prog 21 [.agg [.sl (p0.zSy.map zaD),.sl (p0.zTh.map zav)]] (.sl (r.map eStr)):=by
 rw [zcH] at hm
 refine zaE.of Tryz.func21 rfl Tryz.ntmps21 (Nat.le_of_ble_eq_true rfl) ?_
 refine W.sa 1 [1] ?_
 refine W.sa 1 [1,3] ?_
 refine W.seq (W.sa 1 [1,3,4] ?_)
 refine W.block ?_
 replace ⟨r24,hlr24,hm⟩:=zah hm
 refine W.mono (Q:=fun e0 s0 h0=>e0=.exit 0/\∃w:Nat,s0=[(3,zM 1 w 1 r24)]/\h0=[.dead,.rows (r24.map eStr) 1 w 9]) (W.loopM (step:=zbo p0) (a0:=(0,[])) (fun (a:Int × (List ByteArray)) (v:Nat)=>([(1,.ptr 0 0 0),(3,zM 1 v 1 a.2),(4,zi a.1)],[.cells (zam p0) 0 30,.rows (a.2.map eStr) 1 v 9])) 0 hlr24 ⟨[],[]⟩ RO ?_) ?_
 ·rintro ⟨i14,l15⟩ w16 x hm hx
  rw [zbo] at hm
  show WK _ _ _ _ _ [(1,.ptr 0 0 0),(3,zM 1 w16 1 l15),(4,zi i14)] [.cells (zam p0) 0 30,.rows (l15.map eStr) 1 w16 9]
  refine W.seq (W.sa 2 [1,3,4,9] ?_)
  refine W.cn hm ?_ ?_ <;> clear hm <;> intro hb25 hm
  ·refine W.skip (W.seq (W.block ?_))
   replace ⟨h26,hm⟩:=zap hm
   replace ⟨h27,hm⟩:=zap hm
   replace ⟨l28,h29,hm⟩:=zaN hm
   refine W.rg [] [(1,.ptr 0 0 0),(3,.msl 1 (w16+1) 0 1 l28.length l28.length),(4,zi i14)] [.cells (zam p0) 0 30,.rows (l28.map eStr) 1 (w16+1) 9] ?_
   clear h29
   refine W.rg [] [(1,.ptr 0 0 0),(3,.msl 1 (w16+1) 0 1 l28.length l28.length),(4,zi (zw (i14+1)))] [.cells (zam p0) 0 30,.rows (l28.map eStr) 1 (w16+1) 9] ?_
   cases hm
   exact ⟨((zw (i14+1)),l28),(w16+1),⟨[],[]⟩,rfl,RO⟩
  ·cases hm
   obtain rfl:=hx _ rfl
   exact W.wk ⟨[],[]⟩ [(3,zM 1 w16 1 l15)] [.dead,.rows (l15.map eStr) 1 w16 9] (W.exit (show _/\_ from ⟨rfl,w16,rfl,rfl⟩))
 ·rintro e0 s0 h0 ⟨rfl,w23,rfl,rfl⟩
  show WK _ _ _ _ _ [(3,zM 1 w23 1 r24)] [.dead,.rows (r24.map eStr) 1 w23 9]
  refine W.sa 2 [2] ?_
  cases hm
  exact W.ret (zee.retW [1] RO)
theorem zhD{p0:Int}{p1:Int}{r:ByteArray}(hm:zdf p0 p1=some r):zaE Tryz.prog 42 [zi p0,zi p1] (.str r):=by
 rw [zdf] at hm
 refine zaE.of Tryz.func42 rfl Tryz.ntmps42 (Nat.le_of_ble_eq_true rfl) ?_
 refine W.sa 0 [0,1] ?_
 refine W.seq (W.block (W.sq [] [(0,zi p0),(1,zi p1),(5,.bool (((p0==11)&&decide (p1≥1))&&decide (p1<=10)))] [] ?_))
 refine W.cn hm ?_ ?_ <;> clear hm <;> intro hb1 hm
 ·replace ⟨v2,h3,hm⟩:=zah hm
  replace ⟨h4,hm⟩:=zap hm
  have kh3:=zfm h3
  try simp only [hb1] at kh3
  refine W.sa 0 [4] ?_
  cases hm
  exact W.rt
 ·refine W.sq [] [(0,zi p0),(20,.bool ((decide (p0≥1)&&decide (p0<=14))&&(p1==0)))] [] ?_
  refine W.cn hm ?_ ?_ <;> clear hm <;> intro hb5 hm
  ·replace ⟨v6,h7,hm⟩:=zah hm
   replace ⟨h8,hm⟩:=zap hm
   have kh7:=zgb h7
   try simp only [hb1,hb5] at kh7
   refine W.sa 0 [4] ?_
   cases hm
   exact W.rt
  ·refine W.skip (W.sa 0 [4] ?_)
   cases hm
   exact W.rt
theorem zeR{p0:Int}{r:ByteArray}(hm:zcp p0=some r):zaE Tryz.prog 73 [zi p0] (.str r):=by
 rw [zcp] at hm
 refine zaE.of Tryz.func73 rfl Tryz.ntmps73 (Nat.le_of_ble_eq_true rfl) ?_
 refine W.sa 0 [0] ?_
 refine W.seq (W.sq [] [(0,zi p0),(8,.bool (decide (p0<0)||decide (p0>7)))] [] ?_)
 refine W.cn hm ?_ ?_ <;> clear hm <;> intro hb1 hm
 ·refine W.sa 0 [2] ?_
  cases hm
  exact W.rt
 ·refine W.skip ?_
  replace ⟨v2,h3,hm⟩:=zah hm
  replace ⟨h4,hm⟩:=zap hm
  have kh3:=zfH h3
  try simp only [hb1] at kh3
  refine W.sa 0 [2] ?_
  cases hm
  exact W.rt
theorem zeS{p0:zak}{p1:(List ByteArray)}{r:ByteArray}(hm:zcq p0 p1=some r):zaE Tryz.prog 45 [.agg [zi p0.Kind,zi p0.Reg,zi p0.Sym,zi p0.N],.sl (p1.map eStr)] (.str r):=by
 rw [zcq] at hm
 refine zaE.of Tryz.func45 rfl Tryz.ntmps45 (Nat.le_of_ble_eq_true rfl) ?_
 refine W.sa 1 [1,2] ?_
 refine W.seq ?_
 replace ⟨v1,h2,hm⟩:=zah hm
 have kh2:=zdB h2
 refine W.sa 1 [1,2,7] ?_
 refine W.cn hm ?_ ?_ <;> clear hm <;> intro hb3 hm
 ·refine W.sa 0 [4] ?_
  cases hm
  exact W.rt
 ·refine W.skip (W.seq (W.sa 1 [1,2,9] ?_))
  refine W.block (W.sa 1 [1,2,9,10] ?_)
  refine W.cn hm ?_ ?_ <;> clear hm <;> intro hb4 hm
  ·replace ⟨v5,h6,hm⟩:=zah hm
   have kh6:=zeR h6
   try simp only [hb3,hb4] at kh6
   refine W.sa 0 [4] ?_
   cases hm
   exact W.rt
  ·refine W.sa 1 [1,2,15] ?_
   refine W.cn hm ?_ ?_ <;> clear hm <;> intro hb7 hm
   ·replace ⟨v8,h9,hm⟩:=zah hm
    have kh9:=zdD h9
    try simp only [hb3,hb4,hb7] at kh9
    refine W.sa 0 [4] ?_
    cases hm
    exact W.rt
   ·refine W.skip (W.seq (W.sa 1 [1,2,24] ?_))
    refine W.cn hm ?_ ?_ <;> clear hm <;> intro hb10 hm
    ·refine W.sa 0 [4] ?_
     cases hm
     exact W.rt
    ·refine W.skip (W.seq (W.sa 1 [1,2,27] ?_))
     refine W.cn hm ?_ ?_ <;> clear hm <;> intro hb11 hm
     ·replace ⟨h12,hm⟩:=zap hm
      replace ⟨h13,hm⟩:=zap hm
      replace ⟨v14,h15,hm⟩:=zah hm
      replace ⟨h16,hm⟩:=zap hm
      replace ⟨h17,hm⟩:=zap hm
      replace ⟨s18,h19,hm⟩:=zaN hm
      have kh15:=zdD h15
      try simp only [hb3,hb4,hb7,hb10,hb11] at kh15
      refine W.sqJ [] [] [] 0 [] [(4,.str s18)] [] zaI ?_
      clear h19
      cases hm
      exact W.rt
     ·refine W.skip ?_
      replace ⟨h20,hm⟩:=zap hm
      replace ⟨h21,hm⟩:=zap hm
      replace ⟨v22,h23,hm⟩:=zah hm
      replace ⟨h24,hm⟩:=zap hm
      replace ⟨h25,hm⟩:=zap hm
      replace ⟨s26,h27,hm⟩:=zaN hm
      have kh23:=zeR h23
      try simp only [hb3,hb4,hb7,hb10,hb11] at kh23
      refine W.sqJ [] [] [] 0 [] [(4,.str s26)] [] zaI ?_
      clear h27
      cases hm
      exact W.rt
theorem zg3{p0:zad}{p1:(List ByteArray)}{r:ByteArray}(hm:zcW p0 p1=some r):zaE Tryz.prog 22 [.agg [zi p0.Op,.bool p0.Lock,zi p0.Cond,zi p0.A.Kind,zi p0.A.Reg,zi p0.A.Sym,zi p0.A.N,zi p0.B.Kind,zi p0.B.Reg,zi p0.B.Sym,zi p0.B.N,.str p0.To,.sl (p0.zLb.map eStr)],.sl (p1.map eStr)] (.str r):=by
 rw [zcW] at hm
 refine zaE.of Tryz.func22 rfl Tryz.ntmps22 (Nat.le_of_ble_eq_true rfl) ?_
 refine W.sa 1 [1,2] ?_
 refine W.seq ?_
 replace ⟨v1,h2,hm⟩:=zah hm
 have kh2:=zeA h2
 refine W.sa 1 [1,2,8] ?_
 refine W.cn hm ?_ ?_ <;> clear hm <;> intro hb3 hm
 ·refine W.sa 0 [4] ?_
  cases hm
  exact W.rt
 ·refine W.skip (W.sa 1 [1,2,5] ?_)
  refine W.cut (fun s h=>∃(v:ByteArray) (w:Unit) (F:Gs),zby p0 p1 v=some r/\AT 0 F [(1,.sl (p1.map eStr)),(2,.ptr 0 0 0),(5,.str v)] [.cells (zas p0) 0 63] s h) ?_ ?_
  ·refine W.sa 1 [1,2,5,10] ?_
   refine W.cn hm ?_ ?_ <;> clear hm <;> intro hb35 hm
   ·refine W.rg [] [(1,.sl (p1.map eStr)),(2,.ptr 0 0 0),(5,.str (⟨#[108,111,99,107,32]⟩:ByteArray))] [.cells (zas p0) 0 63] ?_
    exact ⟨(⟨#[108,111,99,107,32]⟩:ByteArray),(),⟨[],[]⟩,hm,RO⟩
   ·refine W.skip ?_
    exact ⟨(⟨#[]⟩:ByteArray),(),⟨[],[]⟩,hm,RO⟩
  ·rintro s h ⟨s4,_,F,hm,hat⟩
   refine W.weak F hat ?_
   show WK _ _ _ _ _ [(1,.sl (p1.map eStr)),(2,.ptr 0 0 0),(5,.str s4)] [.cells (zas p0) 0 63]
   rw [zby] at hm
   replace ⟨v5,h6,hm⟩:=zah hm
   replace ⟨h7,hm⟩:=zap hm
   have kh6:=zhD h6
   try simp only [hb3] at kh6
   refine W.sa 1 [1,2,5] ?_
   refine W.seq ?_
   replace ⟨v8,h9,hm⟩:=zah hm
   have kh9:=zdo h9
   try simp only [hb3] at kh9
   refine W.sa 1 [1,2,5,20] ?_
   refine W.cn hm ?_ ?_ <;> clear hm <;> intro hb10 hm
   ·replace ⟨h11,hm⟩:=zap hm
    replace ⟨h12,hm⟩:=zap hm
    refine W.sa 0 [4] ?_
    cases hm
    exact W.rt
   ·refine W.skip (W.seq (W.sa 1 [1,2,5,28] ?_))
    refine W.cn hm ?_ ?_ <;> clear hm <;> intro hb13 hm
    ·refine W.sa 0 [4] ?_
     cases hm
     exact W.rt
    ·refine W.skip (W.seq ?_)
     replace ⟨v14,h15,hm⟩:=zah hm
     replace ⟨v16,h17,hm⟩:=zah hm
     replace ⟨b18,h19,hm⟩:=zaN hm
     refine W.sq [] [(1,.sl (p1.map eStr)),(2,.ptr 0 0 0),(5,.str (s4++v5)),(53,.bool b18)] [.cells (zas p0) 0 63] ?_ (hrun:=?_)
     rotate_left
     ·try simp -implicitDefEqProofs -dsimp only [go_sem,hb3,h7,hb10,hb13,h19]
      with_reducible refine exP.mk _ (callQ.plain (by simp -implicitDefEqProofs -dsimp only [go_sem,hb3,h7,hb10,hb13,h19]) (by have hk:=za5 h15; (try simp only [hb3,hb10,hb13] at hk); (try simp only [List.map_cons,List.map_nil,eStr,eInt] at hk); exact hk)) ?_
      try simp -implicitDefEqProofs -dsimp only [go_sem,hb3,h7,hb10,hb13,h19]
      refine zcJ (fun hg20=>?_) (fun hg20=>?_)
      ·try simp -implicitDefEqProofs -dsimp only [go_sem,hb3,h7,hb10,hb13,hg20,h19]
       refine zcU (fun hg21=>?_) (fun hg21=>?_)
       ·try simp only [Bool.not_not] at hg21
        try simp -implicitDefEqProofs -dsimp only [go_sem,hb3,h7,hb10,hb13,hg20,hg21,h19]
        with_reducible refine exP.mk _ (callQ.plain (by simp -implicitDefEqProofs -dsimp only [go_sem,hb3,h7,hb10,hb13,hg20,hg21,h19]) (by have hk:=za5 (zaW (by simp -implicitDefEqProofs -dsimp only [go_sem,hb3,h7,hb10,hb13,hg20,hg21,h19]) h17); (try simp only [hb3,hb10,hb13] at hk); (try simp only [List.map_cons,List.map_nil,eStr,eInt] at hk); exact hk)) ?_
        try simp -implicitDefEqProofs -dsimp only [go_sem,hb3,h7,hb10,hb13,hg20,hg21,h19]
        refine zcJ (fun hg22=>?_) (fun hg22=>?_)
        ·try simp only [Bool.not_not] at hg22
         try simp -implicitDefEqProofs -dsimp only [go_sem,hb3,h7,hb10,hb13,hg20,hg21,hg22,h19]
        ·try simp only [Bool.not_not] at hg22
         try simp -implicitDefEqProofs -dsimp only [go_sem,hb3,h7,hb10,hb13,hg20,hg21,hg22,h19]
       ·try simp only [Bool.not_not] at hg21
        try simp -implicitDefEqProofs -dsimp only [go_sem,hb3,h7,hb10,hb13,hg20,hg21,h19]
      ·try simp -implicitDefEqProofs -dsimp only [go_sem,hb3,h7,hb10,hb13,hg20,h19]
       with_reducible refine exP.mk _ (callQ.plain (by simp -implicitDefEqProofs -dsimp only [go_sem,hb3,h7,hb10,hb13,hg20,h19]) (by have hk:=za5 (zaW (by simp -implicitDefEqProofs -dsimp only [go_sem,hb3,h7,hb10,hb13,hg20,h19]) h17); (try simp only [hb3,hb10,hb13] at hk); (try simp only [List.map_cons,List.map_nil,eStr,eInt] at hk); exact hk)) ?_
       try simp -implicitDefEqProofs -dsimp only [go_sem,hb3,h7,hb10,hb13,hg20,h19]
       refine zcJ (fun hg23=>?_) (fun hg23=>?_)
       ·try simp only [Bool.not_not] at hg23
        try simp -implicitDefEqProofs -dsimp only [go_sem,hb3,h7,hb10,hb13,hg20,hg23,h19]
       ·try simp only [Bool.not_not] at hg23
        try simp -implicitDefEqProofs -dsimp only [go_sem,hb3,h7,hb10,hb13,hg20,hg23,h19]
     clear h19
     refine W.cn hm ?_ ?_ <;> clear hm <;> intro hb24 hm
     ·refine W.sa 0 [4] ?_
      cases hm
      exact W.rt
     ·refine W.skip ?_
      replace ⟨h25,hm⟩:=zap hm
      replace ⟨v26,h27,hm⟩:=zah hm
      replace ⟨h28,hm⟩:=zap hm
      replace ⟨h29,hm⟩:=zap hm
      replace ⟨v30,h31,hm⟩:=zah hm
      replace ⟨h32,hm⟩:=zap hm
      replace ⟨s33,h34,hm⟩:=zaN hm
      have kh27:=zeS h27
      try simp only [hb3,hb10,hb13,hb24] at kh27
      have kh31:=zeS h31
      try simp only [hb3,hb10,hb13,hb24] at kh31
      refine W.sqJ [] [] [] 0 [] [(4,.str s33)] [] zaI ?_
      clear h34
      cases hm
      exact W.rt
theorem zim{p0:zaf}{r:ByteArray}(hm:zdd p0=some r):zaE Tryz.prog 12 [.agg [.sl (p0.zSy.map zaD),.sl (p0.zTh.map zav)]] (.str r):=by
 rw [zdd] at hm
 refine zaE.of Tryz.func12 rfl Tryz.ntmps12 (Nat.le_of_ble_eq_true rfl) ?_
 refine W.sa 1 [1] ?_
 refine W.seq ?_
 replace ⟨v1,h2,hm⟩:=zah hm
 have kh2:=zfn h2
 refine W.sa 1 [1,13] ?_
 refine W.cn hm ?_ ?_ <;> clear hm <;> intro hb3 hm
 ·refine W.sa 0 [2] ?_
  cases hm
  exact W.rt
 ·refine W.skip (W.sa 1 [1,3] ?_)
  refine W.seq (W.sa 1 [1,3,4] ?_)
  refine W.block ?_
  replace ⟨r135,hlr135,hm⟩:=zah hm
  refine W.mono (Q:=fun e0 s0 h0=>e0=.exit 0/\∃w:Unit,s0=[(1,.ptr 0 0 0),(3,.str r135)]/\h0=[.cells (zam p0) 0 30]) (W.loopM (step:=zbR p0) (a0:=((⟨#[]⟩:ByteArray),0)) (fun (a:ByteArray × Int) (v:Unit)=>([(1,.ptr 0 0 0),(3,.str a.1),(4,zi a.2)],[.cells (zam p0) 0 30])) () hlr135 ⟨[],[]⟩ RO ?_) ?_
  ·rintro ⟨s90,i91⟩ _ x hm hx
   rw [zbR] at hm
   show WK _ _ _ _ _ [(1,.ptr 0 0 0),(3,.str s90),(4,zi i91)] [.cells (zam p0) 0 30]
   refine W.seq (W.sa 1 [1,3,4,18] ?_)
   refine W.cn hm ?_ ?_ <;> clear hm <;> intro hb136 hm
   ·refine W.skip (W.seq (W.block ?_))
    replace ⟨h137,hm⟩:=zap hm
    replace ⟨h138,hm⟩:=zap hm
    replace ⟨h139,hm⟩:=zap hm
    replace ⟨h140,hm⟩:=zap hm
    replace ⟨v141,h142,hm⟩:=zah hm
    replace ⟨h143,hm⟩:=zap hm
    replace ⟨h144,hm⟩:=zap hm
    replace ⟨s145,h146,hm⟩:=zaN hm
    have kh142:=zdD h142
    try simp only [hb3,hb136] at kh142
    refine W.sqJ [] [] [] 0 [] [(1,.ptr 0 0 0),(3,.str s145),(4,zi i91)] [.cells (zam p0) 0 30] zaI ?_
    clear h146
    refine W.seq (W.sa 1 [1,3,4,5] ?_)
    refine W.block ?_
    replace ⟨r176,hlr176,hm⟩:=zah hm
    refine W.mono (Q:=fun e0 s0 h0=>e0=.exit 2/\∃w:Unit,s0=[(1,.ptr 0 0 0),(3,.str r176),(4,zi i91)]/\h0=[.cells (zam p0) 0 30]) (W.loopM (step:=zbQ i91 p0) (a0:=(s145,0)) (fun (a:ByteArray × Int) (v:Unit)=>([(1,.ptr 0 0 0),(3,.str a.1),(4,zi i91),(5,zi a.2)],[.cells (zam p0) 0 30])) () hlr176 ⟨[],[]⟩ RO ?_) ?_
    ·rintro ⟨s165,i166⟩ _ x hm hx
     rw [zbQ] at hm
     show WK _ _ _ _ _ [(1,.ptr 0 0 0),(3,.str s165),(4,zi i91),(5,zi i166)] [.cells (zam p0) 0 30]
     refine W.seq ?_
     replace ⟨h177,hm⟩:=zap hm
     refine W.sa 1 [1,3,4,5,47] ?_
     refine W.cn hm ?_ ?_ <;> clear hm <;> intro hb178 hm
     ·refine W.skip (W.seq (W.block ?_))
      replace ⟨h179,hm⟩:=zap hm
      replace ⟨h180,hm⟩:=zap hm
      replace ⟨v181,h182,hm⟩:=zah hm
      replace ⟨h183,hm⟩:=zap hm
      replace ⟨h184,hm⟩:=zap hm
      have kh182:=zdD h182
      try simp only [hb3,hb136,hb178] at kh182
      refine W.rg [] [(1,.ptr 0 0 0),(3,.str (s165++((⟨#[32]⟩:ByteArray)++v181))),(4,zi i91),(5,zi i166)] [.cells (zam p0) 0 30] ?_
      refine W.rg [] [(1,.ptr 0 0 0),(3,.str (s165++((⟨#[32]⟩:ByteArray)++v181))),(4,zi i91),(5,zi (zw (i166+1)))] [.cells (zam p0) 0 30] ?_
      cases hm
      exact ⟨((s165++((⟨#[32]⟩:ByteArray)++v181)),(zw (i166+1))),(),⟨[],[]⟩,rfl,RO⟩
     ·cases hm
      obtain rfl:=hx _ rfl
      exact W.wk ⟨[],[]⟩ [(1,.ptr 0 0 0),(3,.str s165),(4,zi i91)] [.cells (zam p0) 0 30] (W.exit (show _/\_ from ⟨rfl,(),rfl,rfl⟩))
    ·rintro e0 s0 h0 ⟨rfl,_,rfl,rfl⟩
     show WK _ _ _ _ _ [(1,.ptr 0 0 0),(3,.str r176),(4,zi i91)] [.cells (zam p0) 0 30]
     replace ⟨h185,hm⟩:=zap hm
     refine W.rg [] [(1,.ptr 0 0 0),(3,.str (r176++(⟨#[10]⟩:ByteArray))),(4,zi i91)] [.cells (zam p0) 0 30] ?_
     refine W.rg [] [(1,.ptr 0 0 0),(3,.str (r176++(⟨#[10]⟩:ByteArray))),(4,zi (zw (i91+1)))] [.cells (zam p0) 0 30] ?_
     cases hm
     exact ⟨((r176++(⟨#[10]⟩:ByteArray)),(zw (i91+1))),(),⟨[],[]⟩,rfl,RO⟩
   ·cases hm
    obtain rfl:=hx _ rfl
    exact W.wk ⟨[],[]⟩ [(1,.ptr 0 0 0),(3,.str s90)] [.cells (zam p0) 0 30] (W.exit (show _/\_ from ⟨rfl,(),rfl,rfl⟩))
  ·rintro e0 s0 h0 ⟨rfl,_,rfl,rfl⟩
   show WK _ _ _ _ _ [(1,.ptr 0 0 0),(3,.str r135)] [.cells (zam p0) 0 30]
   replace ⟨v186,h187,hm⟩:=zah hm
   have kh187:=zgQ h187
   try simp only [hb3] at kh187
   refine W.sa 1 [1,3,6] ?_
   refine W.seq (W.sa 1 [1,3,6,7] ?_)
   refine W.block ?_
   replace ⟨r502,hlr502,hm⟩:=zah hm
   refine W.mono (Q:=fun e0 s0 h0=>e0=.exit 4/\∃w:Unit,s0=[(3,.str r502)]/\h0=[]) (W.loopM (step:=zco p0 v186) (a0:=(r135,0)) (fun (a:ByteArray × Int) (v:Unit)=>([(1,.ptr 0 0 0),(3,.str a.1),(6,.sl (v186.map eStr)),(7,zi a.2)],[.cells (zam p0) 0 30])) () hlr502 ⟨[],[]⟩ RO ?_) ?_
   ·rintro ⟨s396,i397⟩ _ x hm hx
    rw [zco] at hm
    show WK _ _ _ _ _ [(1,.ptr 0 0 0),(3,.str s396),(6,.sl (v186.map eStr)),(7,zi i397)] [.cells (zam p0) 0 30]
    refine W.seq (W.sa 1 [1,3,6,7,71] ?_)
    refine W.cn hm ?_ ?_ <;> clear hm <;> intro hb503 hm
    ·refine W.skip (W.seq (W.block ?_))
     replace ⟨h504,hm⟩:=zap hm
     refine W.sa 1 [1,3,6,7] ?_
     refine W.sa 1 [1,3,6,7,8] ?_
     refine W.block ?_
     replace ⟨r605,hlr605,hm⟩:=zah hm
     refine W.mono (Q:=fun e0 s0 h0=>e0=.exit 6/\∃w:Unit,s0=[(1,.ptr 0 0 0),(3,.str r605),(6,.sl (v186.map eStr)),(7,zi i397)]/\h0=[.cells (zam p0) 0 30]) (W.loopM (step:=zbP i397 p0 v186) (a0:=((s396++(⟨#[116,104,114,101,97,100,10]⟩:ByteArray)),0)) (fun (a:ByteArray × Int) (v:Unit)=>([(1,.ptr 0 0 0),(3,.str a.1),(6,.sl (v186.map eStr)),(7,zi i397),(8,zi a.2)],[.cells (zam p0) 0 30])) () hlr605 ⟨[],[]⟩ RO ?_) ?_
     ·rintro ⟨s571,i572⟩ _ x hm hx
      rw [zbP] at hm
      show WK _ _ _ _ _ [(1,.ptr 0 0 0),(3,.str s571),(6,.sl (v186.map eStr)),(7,zi i397),(8,zi i572)] [.cells (zam p0) 0 30]
      refine W.seq ?_
      replace ⟨h606,hm⟩:=zap hm
      refine W.sa 1 [1,3,6,7,8,84] ?_
      refine W.cn hm ?_ ?_ <;> clear hm <;> intro hb607 hm
      ·refine W.skip (W.seq (W.block ?_))
       replace ⟨h608,hm⟩:=zap hm
       replace ⟨h609,hm⟩:=zap hm
       replace ⟨l610,h611,hm⟩:=zaN hm
       refine W.sq [] [(1,.ptr 0 0 0),(3,.str s571),(6,.sl (v186.map eStr)),(7,zi i397),(8,zi i572),(9,.ptr 1 0 0)] [.cells (zam p0) 0 30,.cells [zi ((rd ((rd p0.zTh i397).Ins) i572).Op),.bool ((rd ((rd p0.zTh i397).Ins) i572).Lock),zi ((rd ((rd p0.zTh i397).Ins) i572).Cond),zi ((rd ((rd p0.zTh i397).Ins) i572).A.Kind),zi ((rd ((rd p0.zTh i397).Ins) i572).A.Reg),zi ((rd ((rd p0.zTh i397).Ins) i572).A.Sym),zi ((rd ((rd p0.zTh i397).Ins) i572).A.N),zi ((rd ((rd p0.zTh i397).Ins) i572).B.Kind),zi ((rd ((rd p0.zTh i397).Ins) i572).B.Reg),zi ((rd ((rd p0.zTh i397).Ins) i572).B.Sym),zi ((rd ((rd p0.zTh i397).Ins) i572).B.N),.str ((rd ((rd p0.zTh i397).Ins) i572).To),.sl (l610.map eStr)] 0 63] ?_
       clear h611
       refine W.seq (W.sa 2 [1,3,6,7,8,9,10] ?_)
       refine W.block ?_
       replace ⟨r629,hlr629,hm⟩:=zah hm
       refine W.mono (Q:=fun e0 s0 h0=>e0=.exit 8/\∃w:Unit,s0=[(1,.ptr 0 0 0),(3,.str r629),(6,.sl (v186.map eStr)),(7,zi i397),(8,zi i572),(9,.ptr 1 0 0)]/\h0=[.cells (zam p0) 0 30,.cells [zi ((rd ((rd p0.zTh i397).Ins) i572).Op),.bool ((rd ((rd p0.zTh i397).Ins) i572).Lock),zi ((rd ((rd p0.zTh i397).Ins) i572).Cond),zi ((rd ((rd p0.zTh i397).Ins) i572).A.Kind),zi ((rd ((rd p0.zTh i397).Ins) i572).A.Reg),zi ((rd ((rd p0.zTh i397).Ins) i572).A.Sym),zi ((rd ((rd p0.zTh i397).Ins) i572).A.N),zi ((rd ((rd p0.zTh i397).Ins) i572).B.Kind),zi ((rd ((rd p0.zTh i397).Ins) i572).B.Reg),zi ((rd ((rd p0.zTh i397).Ins) i572).B.Sym),zi ((rd ((rd p0.zTh i397).Ins) i572).B.N),.str ((rd ((rd p0.zTh i397).Ins) i572).To),.sl (l610.map eStr)] 0 63]) (W.loopM (step:=zbO l610) (a0:=(s571,0)) (fun (a:ByteArray × Int) (v:Unit)=>([(1,.ptr 0 0 0),(3,.str a.1),(6,.sl (v186.map eStr)),(7,zi i397),(8,zi i572),(9,.ptr 1 0 0),(10,zi a.2)],[.cells (zam p0) 0 30,.cells [zi ((rd ((rd p0.zTh i397).Ins) i572).Op),.bool ((rd ((rd p0.zTh i397).Ins) i572).Lock),zi ((rd ((rd p0.zTh i397).Ins) i572).Cond),zi ((rd ((rd p0.zTh i397).Ins) i572).A.Kind),zi ((rd ((rd p0.zTh i397).Ins) i572).A.Reg),zi ((rd ((rd p0.zTh i397).Ins) i572).A.Sym),zi ((rd ((rd p0.zTh i397).Ins) i572).A.N),zi ((rd ((rd p0.zTh i397).Ins) i572).B.Kind),zi ((rd ((rd p0.zTh i397).Ins) i572).B.Reg),zi ((rd ((rd p0.zTh i397).Ins) i572).B.Sym),zi ((rd ((rd p0.zTh i397).Ins) i572).B.N),.str ((rd ((rd p0.zTh i397).Ins) i572).To),.sl (l610.map eStr)] 0 63])) () hlr629 ⟨[],[]⟩ RO ?_) ?_
       ·rintro ⟨s622,i623⟩ _ x hm hx
        rw [zbO] at hm
        show WK _ _ _ _ _ [(1,.ptr 0 0 0),(3,.str s622),(6,.sl (v186.map eStr)),(7,zi i397),(8,zi i572),(9,.ptr 1 0 0),(10,zi i623)] [.cells (zam p0) 0 30,.cells [zi ((rd ((rd p0.zTh i397).Ins) i572).Op),.bool ((rd ((rd p0.zTh i397).Ins) i572).Lock),zi ((rd ((rd p0.zTh i397).Ins) i572).Cond),zi ((rd ((rd p0.zTh i397).Ins) i572).A.Kind),zi ((rd ((rd p0.zTh i397).Ins) i572).A.Reg),zi ((rd ((rd p0.zTh i397).Ins) i572).A.Sym),zi ((rd ((rd p0.zTh i397).Ins) i572).A.N),zi ((rd ((rd p0.zTh i397).Ins) i572).B.Kind),zi ((rd ((rd p0.zTh i397).Ins) i572).B.Reg),zi ((rd ((rd p0.zTh i397).Ins) i572).B.Sym),zi ((rd ((rd p0.zTh i397).Ins) i572).B.N),.str ((rd ((rd p0.zTh i397).Ins) i572).To),.sl (l610.map eStr)] 0 63]
        refine W.seq (W.sa 2 [1,3,6,7,8,9,10,100] ?_)
        refine W.cn hm ?_ ?_ <;> clear hm <;> intro hb630 hm
        ·refine W.skip (W.seq (W.block ?_))
         replace ⟨h631,hm⟩:=zap hm
         replace ⟨h632,hm⟩:=zap hm
         replace ⟨h633,hm⟩:=zap hm
         refine W.rg [] [(1,.ptr 0 0 0),(3,.str (s622++((rd l610 i623)++(⟨#[58,10]⟩:ByteArray)))),(6,.sl (v186.map eStr)),(7,zi i397),(8,zi i572),(9,.ptr 1 0 0),(10,zi i623)] [.cells (zam p0) 0 30,.cells [zi ((rd ((rd p0.zTh i397).Ins) i572).Op),.bool ((rd ((rd p0.zTh i397).Ins) i572).Lock),zi ((rd ((rd p0.zTh i397).Ins) i572).Cond),zi ((rd ((rd p0.zTh i397).Ins) i572).A.Kind),zi ((rd ((rd p0.zTh i397).Ins) i572).A.Reg),zi ((rd ((rd p0.zTh i397).Ins) i572).A.Sym),zi ((rd ((rd p0.zTh i397).Ins) i572).A.N),zi ((rd ((rd p0.zTh i397).Ins) i572).B.Kind),zi ((rd ((rd p0.zTh i397).Ins) i572).B.Reg),zi ((rd ((rd p0.zTh i397).Ins) i572).B.Sym),zi ((rd ((rd p0.zTh i397).Ins) i572).B.N),.str ((rd ((rd p0.zTh i397).Ins) i572).To),.sl (l610.map eStr)] 0 63] ?_
         refine W.rg [] [(1,.ptr 0 0 0),(3,.str (s622++((rd l610 i623)++(⟨#[58,10]⟩:ByteArray)))),(6,.sl (v186.map eStr)),(7,zi i397),(8,zi i572),(9,.ptr 1 0 0),(10,zi (zw (i623+1)))] [.cells (zam p0) 0 30,.cells [zi ((rd ((rd p0.zTh i397).Ins) i572).Op),.bool ((rd ((rd p0.zTh i397).Ins) i572).Lock),zi ((rd ((rd p0.zTh i397).Ins) i572).Cond),zi ((rd ((rd p0.zTh i397).Ins) i572).A.Kind),zi ((rd ((rd p0.zTh i397).Ins) i572).A.Reg),zi ((rd ((rd p0.zTh i397).Ins) i572).A.Sym),zi ((rd ((rd p0.zTh i397).Ins) i572).A.N),zi ((rd ((rd p0.zTh i397).Ins) i572).B.Kind),zi ((rd ((rd p0.zTh i397).Ins) i572).B.Reg),zi ((rd ((rd p0.zTh i397).Ins) i572).B.Sym),zi ((rd ((rd p0.zTh i397).Ins) i572).B.N),.str ((rd ((rd p0.zTh i397).Ins) i572).To),.sl (l610.map eStr)] 0 63] ?_
         cases hm
         exact ⟨((s622++((rd l610 i623)++(⟨#[58,10]⟩:ByteArray))),(zw (i623+1))),(),⟨[],[]⟩,rfl,RO⟩
        ·cases hm
         obtain rfl:=hx _ rfl
         exact W.wk ⟨[],[]⟩ [(1,.ptr 0 0 0),(3,.str s622),(6,.sl (v186.map eStr)),(7,zi i397),(8,zi i572),(9,.ptr 1 0 0)] [.cells (zam p0) 0 30,.cells [zi ((rd ((rd p0.zTh i397).Ins) i572).Op),.bool ((rd ((rd p0.zTh i397).Ins) i572).Lock),zi ((rd ((rd p0.zTh i397).Ins) i572).Cond),zi ((rd ((rd p0.zTh i397).Ins) i572).A.Kind),zi ((rd ((rd p0.zTh i397).Ins) i572).A.Reg),zi ((rd ((rd p0.zTh i397).Ins) i572).A.Sym),zi ((rd ((rd p0.zTh i397).Ins) i572).A.N),zi ((rd ((rd p0.zTh i397).Ins) i572).B.Kind),zi ((rd ((rd p0.zTh i397).Ins) i572).B.Reg),zi ((rd ((rd p0.zTh i397).Ins) i572).B.Sym),zi ((rd ((rd p0.zTh i397).Ins) i572).B.N),.str ((rd ((rd p0.zTh i397).Ins) i572).To),.sl (l610.map eStr)] 0 63] (W.exit (show _/\_ from ⟨rfl,(),rfl,rfl⟩))
       ·rintro e0 s0 h0 ⟨rfl,_,rfl,rfl⟩
        show WK _ _ _ _ _ [(1,.ptr 0 0 0),(3,.str r629),(6,.sl (v186.map eStr)),(7,zi i397),(8,zi i572),(9,.ptr 1 0 0)] [.cells (zam p0) 0 30,.cells [zi ((rd ((rd p0.zTh i397).Ins) i572).Op),.bool ((rd ((rd p0.zTh i397).Ins) i572).Lock),zi ((rd ((rd p0.zTh i397).Ins) i572).Cond),zi ((rd ((rd p0.zTh i397).Ins) i572).A.Kind),zi ((rd ((rd p0.zTh i397).Ins) i572).A.Reg),zi ((rd ((rd p0.zTh i397).Ins) i572).A.Sym),zi ((rd ((rd p0.zTh i397).Ins) i572).A.N),zi ((rd ((rd p0.zTh i397).Ins) i572).B.Kind),zi ((rd ((rd p0.zTh i397).Ins) i572).B.Reg),zi ((rd ((rd p0.zTh i397).Ins) i572).B.Sym),zi ((rd ((rd p0.zTh i397).Ins) i572).B.N),.str ((rd ((rd p0.zTh i397).Ins) i572).To),.sl (l610.map eStr)] 0 63]
        replace ⟨v634,h635,hm⟩:=zah hm
        replace ⟨h636,hm⟩:=zap hm
        replace ⟨h637,hm⟩:=zap hm
        replace ⟨h638,hm⟩:=zap hm
        replace ⟨s639,h640,hm⟩:=zaN hm
        have kh635:=zg3 h635
        try simp only [hb3,hb503,hb607] at kh635
        refine W.rg [] [(1,.ptr 0 0 0),(3,.str s639),(6,.sl (v186.map eStr)),(7,zi i397),(8,zi i572)] [.cells (zam p0) 0 30] ?_
        clear h640
        refine W.rg [] [(1,.ptr 0 0 0),(3,.str s639),(6,.sl (v186.map eStr)),(7,zi i397),(8,zi (zw (i572+1)))] [.cells (zam p0) 0 30] ?_
        cases hm
        exact ⟨(s639,(zw (i572+1))),(),⟨[],[]⟩,rfl,RO⟩
      ·cases hm
       obtain rfl:=hx _ rfl
       exact W.wk ⟨[],[]⟩ [(1,.ptr 0 0 0),(3,.str s571),(6,.sl (v186.map eStr)),(7,zi i397)] [.cells (zam p0) 0 30] (W.exit (show _/\_ from ⟨rfl,(),rfl,rfl⟩))
     ·rintro e0 s0 h0 ⟨rfl,_,rfl,rfl⟩
      show WK _ _ _ _ _ [(1,.ptr 0 0 0),(3,.str r605),(6,.sl (v186.map eStr)),(7,zi i397)] [.cells (zam p0) 0 30]
      refine W.rg [] [(1,.ptr 0 0 0),(3,.str r605),(6,.sl (v186.map eStr)),(7,zi (zw (i397+1)))] [.cells (zam p0) 0 30] ?_
      cases hm
      exact ⟨(r605,(zw (i397+1))),(),⟨[],[]⟩,rfl,RO⟩
    ·cases hm
     obtain rfl:=hx _ rfl
     exact W.wk ⟨[],[]⟩ [(3,.str s396)] [] (W.exit (show _/\_ from ⟨rfl,(),rfl,rfl⟩))
   ·rintro e0 s0 h0 ⟨rfl,_,rfl,rfl⟩
    show WK _ _ _ _ _ [(3,.str r502)] []
    refine W.sa 0 [2] ?_
    cases hm
    exact W.rt
end Go.Proofs.YtocjejladeeckaaGreatDoor
