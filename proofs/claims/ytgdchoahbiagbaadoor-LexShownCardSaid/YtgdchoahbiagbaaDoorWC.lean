import Derived.Test.YtgdchoahbiagbaaDoorVFacts
import Derived.Test.YtgdchoahbiagbaaDoorPalC
import Derived.Test.YtgdchoahbiagbaaDoorWB
import Derived.Test.YtgdchoahbiagbaaDoorWNum
set_option maxRecDepth 100000
set_option maxHeartbeats 4000000
set_option linter.unusedSimpArgs false
set_option linter.unusedVariables false
set_option linter.unusedSectionVars false
namespace Go.Proofs.YtgdchoahbiagbaaDoor
open Go.Vs
variable [TabU]
theorem palingref1_Spots_ok{p0:ByteArray}{r:(List T_palingref1_Spot)}(hm:palingref1_Spots p0=some r):PureF Tryd.prog 23 [.str p0] (.sl (r.map e_palingref1_Spot)):=by
  rw [palingref1_Spots] at hm
  refine PureF.of Tryd.func23 rfl Tryd.ntmps23 (Nat.le_of_ble_eq_true rfl) ?_
  have e0:argS 0 [.str p0]=[(0,.str p0)]:=rfl
  rw [e0]
  refine W.sq [] [(0,.str p0)] [] ?_
  refine W.sq [] [(0,.str p0),(3,.nils)] [] ?_
  refine W.sq [] [(0,.str p0),(3,.nils),(4,.int .i64 1),(5,.int .i64 1)] [] ?_
  refine W.seq ?_
  refine W.sq [] [(0,.str p0),(3,.nils),(4,.int .i64 1),(5,.int .i64 1),(10,.ptr 0 0 0)] [.siter p0 0] ?_
  refine W.block ?_
  replace hm:=of_bind hm
  obtain ⟨r40,hlr40,hm⟩:=hm
  refine W.mono (Q:=fun e0 s0 h0=>e0=.exit 0 ∧ ∃w:Nat,s0=[(0,.str p0),(3,.msl 1 w 0 6 r40.length r40.length)] ∧ h0=[.dead,.rows (r40.map e_palingref1_Spot) 6 w 74]) (W.loopM (step:=palingref1_Spots_s1 p0) (a0:=(1,1,0,[])) (fun (a:Int × Int × Nat × (List T_palingref1_Spot)) (v:Nat)=>([(0,.str p0),(3,.msl 1 v 0 6 a.2.2.2.length a.2.2.2.length),(4,.int .i64 a.1),(5,.int .i64 a.2.1),(10,.ptr 0 0 0)],[.siter p0 a.2.2.1,.rows (a.2.2.2.map e_palingref1_Spot) 6 v 74])) 0 hlr40 ⟨[],[]⟩ RO ?_) ?_
  · rintro ⟨i22,i23,n24,l25⟩ w26 x hm hx
    rw [palingref1_Spots_s1] at hm
    show WK _ _ _ _ _ [(0,.str p0),(3,.msl 1 w26 0 6 l25.length l25.length),(4,.int .i64 i22),(5,.int .i64 i23),(10,.ptr 0 0 0)] [.siter p0 n24,.rows (l25.map e_palingref1_Spot) 6 w26 74]
    by_cases hb41:n24<p0.size
    · rw [if_pos hb41] at hm
      refine W.sq [] [(0,.str p0),(3,.msl 1 w26 0 6 l25.length l25.length),(4,.int .i64 i22),(5,.int .i64 i23),(10,.ptr 0 0 0),(11,.tuple [.bool true,.int .i64 (n24:Int),.int .i32 ((Utf8.decode p0 n24).1:Int)]),(12,.bool true)] [.siter p0 (n24+(Utf8.decode p0 n24).2),.rows (l25.map e_palingref1_Spot) 6 w26 74] ?_
      refine W.seq ?_
      refine W.cnd true (fun _=>?_) (fun hx=>by cases hx)
      refine W.skip ?_
      refine W.block ?_
      refine W.sq [] [(0,.str p0),(3,.msl 1 w26 0 6 l25.length l25.length),(4,.int .i64 i22),(5,.int .i64 i23),(6,.int .i64 (n24:Int)),(7,.int .i32 ((Utf8.decode p0 n24).1:Int)),(10,.ptr 0 0 0)] [.siter p0 (n24+(Utf8.decode p0 n24).2),.rows (l25.map e_palingref1_Spot) 6 w26 74] ?_
      refine W.cut (fun s h=>∃(v:(List T_palingref1_Spot)) (w:Unit) (F:Gs),palingref1_Spots_j1 p0 n24 i22 i23 v=some x ∧ AT 0 F [(0,.str p0),(3,.msl 1 w26 0 6 v.length v.length),(4,.int .i64 i22),(5,.int .i64 i23),(6,.int .i64 (n24:Int)),(7,.int .i32 ((Utf8.decode p0 n24).1:Int)),(10,.ptr 0 0 0)] [.siter p0 (n24+(Utf8.decode p0 n24).2),.rows (v.map e_palingref1_Spot) 6 w26 74] s h) ?_ ?_
      · refine W.sq [] [(0,.str p0),(3,.msl 1 w26 0 6 l25.length l25.length),(4,.int .i64 i22),(5,.int .i64 i23),(6,.int .i64 (n24:Int)),(7,.int .i32 ((Utf8.decode p0 n24).1:Int)),(10,.ptr 0 0 0),(17,.bool (decide ((l25.length:Int)>0)))] [.siter p0 (n24+(Utf8.decode p0 n24).2),.rows (l25.map e_palingref1_Spot) 6 w26 74] ?_
        refine W.cnd (decide ((l25.length:Int)>0)) (fun hb47=>?_) (fun hb47=>?_)
        · replace hm:=of_true hb47 hm
          replace hm:=of_ite hm
          obtain ⟨h48,hm⟩:=hm
          replace hm:=of_ite hm
          obtain ⟨h49,hm⟩:=hm
          replace hm:=of_let hm
          obtain ⟨l50,h51,hm⟩:=hm
          refine W.rg [] [(0,.str p0),(3,.msl 1 w26 0 6 l50.length l50.length),(4,.int .i64 i22),(5,.int .i64 i23),(6,.int .i64 (n24:Int)),(7,.int .i32 ((Utf8.decode p0 n24).1:Int)),(10,.ptr 0 0 0)] [.siter p0 (n24+(Utf8.decode p0 n24).2),.rows (l50.map e_palingref1_Spot) 6 w26 74] ?_
          clear h51
          exact ⟨l50,(),⟨[],[]⟩,hm,RO⟩
        · replace hm:=of_false hb47 hm
          refine W.skip ?_
          exact ⟨l25,(),⟨[],[]⟩,hm,RO⟩
      · rintro s h ⟨l42,_,F,hm,hat⟩
        refine W.weak F hat ?_
        show WK _ _ _ _ _ [(0,.str p0),(3,.msl 1 w26 0 6 l42.length l42.length),(4,.int .i64 i22),(5,.int .i64 i23),(6,.int .i64 (n24:Int)),(7,.int .i32 ((Utf8.decode p0 n24).1:Int)),(10,.ptr 0 0 0)] [.siter p0 (n24+(Utf8.decode p0 n24).2),.rows (l42.map e_palingref1_Spot) 6 w26 74]
        rw [palingref1_Spots_j1] at hm
        replace hm:=of_ite hm
        obtain ⟨h43,hm⟩:=hm
        replace hm:=of_let hm
        obtain ⟨l44,h45,hm⟩:=hm
        refine W.sq [] [(0,.str p0),(3,.msl 1 (w26+1) 0 6 l44.length l44.length),(4,.int .i64 i22),(5,.int .i64 i23),(7,.int .i32 ((Utf8.decode p0 n24).1:Int)),(10,.ptr 0 0 0)] [.siter p0 (n24+(Utf8.decode p0 n24).2),.rows (l44.map e_palingref1_Spot) 6 (w26+1) 74] ?_
        clear h45
        refine W.sq [] [(0,.str p0),(3,.msl 1 (w26+1) 0 6 l44.length l44.length),(4,.int .i64 i22),(5,.int .i64 (IntKind.wrap .i64 (i23+1))),(7,.int .i32 ((Utf8.decode p0 n24).1:Int)),(10,.ptr 0 0 0)] [.siter p0 (n24+(Utf8.decode p0 n24).2),.rows (l44.map e_palingref1_Spot) 6 (w26+1) 74] ?_
        refine W.sq [] [(0,.str p0),(3,.msl 1 (w26+1) 0 6 l44.length l44.length),(4,.int .i64 i22),(5,.int .i64 (IntKind.wrap .i64 (i23+1))),(10,.ptr 0 0 0),(44,.bool (((Utf8.decode p0 n24).1:Int)==10))] [.siter p0 (n24+(Utf8.decode p0 n24).2),.rows (l44.map e_palingref1_Spot) 6 (w26+1) 74] ?_
        refine W.cnd (((Utf8.decode p0 n24).1:Int)==10) (fun hb46=>?_) (fun hb46=>?_)
        · replace hm:=of_true hb46 hm
          refine W.rg [] [(0,.str p0),(3,.msl 1 (w26+1) 0 6 l44.length l44.length),(4,.int .i64 (IntKind.wrap .i64 (i22+1))),(5,.int .i64 1),(10,.ptr 0 0 0)] [.siter p0 (n24+(Utf8.decode p0 n24).2),.rows (l44.map e_palingref1_Spot) 6 (w26+1) 74] ?_
          obtain rfl:=Option.some.inj hm
          exact ⟨((IntKind.wrap .i64 (i22+1)),1,(n24+(Utf8.decode p0 n24).2),l44),(w26+1),⟨[],[]⟩,rfl,RO⟩
        · replace hm:=of_false hb46 hm
          refine W.skip ?_
          obtain rfl:=Option.some.inj hm
          exact ⟨(i22,(IntKind.wrap .i64 (i23+1)),(n24+(Utf8.decode p0 n24).2),l44),(w26+1),⟨[],[]⟩,rfl,RO⟩
    · rw [if_neg hb41] at hm
      refine W.sq [] [(0,.str p0),(3,.msl 1 w26 0 6 l25.length l25.length),(4,.int .i64 i22),(5,.int .i64 i23),(10,.ptr 0 0 0),(11,.tuple [.bool false]),(12,.bool false)] [.siter p0 n24,.rows (l25.map e_palingref1_Spot) 6 w26 74] ?_
      refine W.seq ?_
      refine W.cnd false (fun hx=>by cases hx) (fun _=>?_)
      obtain rfl:=Option.some.inj hm
      obtain rfl:=hx _ rfl
      exact W.weak ⟨[],[]⟩ (show AT _ ⟨[],[]⟩ [(0,.str p0),(3,.msl 1 w26 0 6 l25.length l25.length)] [.dead,.rows (l25.map e_palingref1_Spot) 6 w26 74] _ _ from RO) (W.exit (show _ ∧ _ from ⟨rfl,w26,rfl,rfl⟩))
  · rintro e0 s0 h0 ⟨rfl,w39,rfl,rfl⟩
    show WK _ _ _ _ _ [(0,.str p0),(3,.msl 1 w39 0 6 r40.length r40.length)] [.dead,.rows (r40.map e_palingref1_Spot) 6 w39 74]
    refine W.cut (fun s h=>∃(v:(List T_palingref1_Spot)) (w:Unit) (F:Gs),palingref1_Spots_j2 v=some r ∧ AT 0 F [(3,.msl 1 w39 0 6 v.length v.length)] [.dead,.rows (v.map e_palingref1_Spot) 6 w39 74] s h) ?_ ?_
    · refine W.sq [] [(0,.str p0),(3,.msl 1 w39 0 6 r40.length r40.length),(49,.bool (decide ((r40.length:Int)>0)))] [.dead,.rows (r40.map e_palingref1_Spot) 6 w39 74] ?_
      refine W.cnd (decide ((r40.length:Int)>0)) (fun hb83=>?_) (fun hb83=>?_)
      · replace hm:=of_true hb83 hm
        replace hm:=of_ite hm
        obtain ⟨h84,hm⟩:=hm
        replace hm:=of_ite hm
        obtain ⟨h85,hm⟩:=hm
        replace hm:=of_let hm
        obtain ⟨l86,h87,hm⟩:=hm
        refine W.rg [] [(3,.msl 1 w39 0 6 l86.length l86.length)] [.dead,.rows (l86.map e_palingref1_Spot) 6 w39 74] ?_
        clear h87
        exact ⟨l86,(),⟨[],[]⟩,hm,RO⟩
      · replace hm:=of_false hb83 hm
        refine W.skip ?_
        exact ⟨r40,(),⟨[],[]⟩,hm,RO⟩
    · rintro s h ⟨l52,_,F,hm,hat⟩
      refine W.weak F hat ?_
      show WK _ _ _ _ _ [(3,.msl 1 w39 0 6 l52.length l52.length)] [.dead,.rows (l52.map e_palingref1_Spot) 6 w39 74]
      rw [palingref1_Spots_j2] at hm
      refine W.seq ?_
      refine W.sq [] [(3,.msl 1 w39 0 6 l52.length l52.length),(8,.int .i64 0)] [.dead,.rows (l52.map e_palingref1_Spot) 6 w39 74] ?_
      refine W.block ?_
      replace hm:=of_bind hm
      obtain ⟨r76,hlr76,hm⟩:=hm
      refine W.mono (Q:=fun e0 s0 h0=>e0=.exit 2 ∧ ∃w:Unit,s0=[(3,.msl 1 w39 0 6 r76.length r76.length)] ∧ h0=[.dead,.rows (r76.map e_palingref1_Spot) 6 w39 74]) (W.loopM (step:=palingref1_Spots_s2) (a0:=(0,l52)) (fun (a:Int × (List T_palingref1_Spot)) (v:Unit)=>([(3,.msl 1 w39 0 6 a.2.length a.2.length),(8,.int .i64 a.1)],[.dead,.rows (a.2.map e_palingref1_Spot) 6 w39 74])) () hlr76 ⟨[],[]⟩ RO ?_) ?_
      · rintro ⟨i67,l68⟩ _ x hm hx
        rw [palingref1_Spots_s2] at hm
        show WK _ _ _ _ _ [(3,.msl 1 w39 0 6 l68.length l68.length),(8,.int .i64 i67)] [.dead,.rows (l68.map e_palingref1_Spot) 6 w39 74]
        refine W.seq ?_
        refine W.sq [] [(3,.msl 1 w39 0 6 l68.length l68.length),(8,.int .i64 i67),(69,.bool (decide (i67<(l68.length:Int))))] [.dead,.rows (l68.map e_palingref1_Spot) 6 w39 74] ?_
        refine W.cnd (decide (i67<(l68.length:Int))) (fun hb77=>?_) (fun hb77=>?_)
        · replace hm:=of_true hb77 hm
          refine W.skip ?_
          refine W.seq ?_
          refine W.block ?_
          replace hm:=of_ite hm
          obtain ⟨h78,hm⟩:=hm
          replace hm:=of_ite hm
          obtain ⟨h79,hm⟩:=hm
          replace hm:=of_ite hm
          obtain ⟨h80,hm⟩:=hm
          replace hm:=of_let hm
          obtain ⟨l81,h82,hm⟩:=hm
          refine W.rg [] [(3,.msl 1 w39 0 6 l81.length l81.length),(8,.int .i64 i67)] [.dead,.rows (l81.map e_palingref1_Spot) 6 w39 74] ?_
          clear h82
          refine W.rg [] [(3,.msl 1 w39 0 6 l81.length l81.length),(8,.int .i64 (IntKind.wrap .i64 (i67+1)))] [.dead,.rows (l81.map e_palingref1_Spot) 6 w39 74] ?_
          obtain rfl:=Option.some.inj hm
          exact ⟨((IntKind.wrap .i64 (i67+1)),l81),(),⟨[],[]⟩,rfl,RO⟩
        · replace hm:=of_false hb77 hm
          obtain rfl:=Option.some.inj hm
          obtain rfl:=hx _ rfl
          exact W.weak ⟨[],[]⟩ (show AT _ ⟨[],[]⟩ [(3,.msl 1 w39 0 6 l68.length l68.length)] [.dead,.rows (l68.map e_palingref1_Spot) 6 w39 74] _ _ from RO) (W.exit (show _ ∧ _ from ⟨rfl,(),rfl,rfl⟩))
      · rintro e0 s0 h0 ⟨rfl,_,rfl,rfl⟩
        show WK _ _ _ _ _ [(3,.msl 1 w39 0 6 r76.length r76.length)] [.dead,.rows (r76.map e_palingref1_Spot) 6 w39 74]
        refine W.sq [] [(2,.msl 1 w39 0 6 r76.length r76.length)] [.dead,.rows (r76.map e_palingref1_Spot) 6 w39 74] ?_
        obtain rfl:=Option.some.inj hm
        exact W.ret (EndsF.retW [1] RO)

theorem palingref1_Regs_ok{r:(List ByteArray)}(hm:palingref1_Regs =some r):PureF Tryd.prog 58 [] (.sl (r.map eStr)):=by
  rw [palingref1_Regs] at hm
  refine PureF.of Tryd.func58 rfl Tryd.ntmps58 (Nat.le_of_ble_eq_true rfl) ?_
  have e0:argS 0 []=[]:=rfl
  rw [e0]
  refine W.sq [] [] [] ?_
  replace hm:=of_let hm
  obtain ⟨l1,h2,hm⟩:=hm
  refine W.sq [] [(0,.sl (l1.map eStr))] [] ?_
  clear h2
  obtain rfl:=Option.some.inj hm
  exact W.ret (EndsF.retW [] RO)

theorem palingref1_index_ok{p0:(List ByteArray)}{p1:ByteArray}{r:Int}(hm:palingref1_index p0 p1=some r):PureF Tryd.prog 47 [.sl (p0.map eStr),.str p1] (.int .i64 r):=by
  rw [palingref1_index] at hm
  refine PureF.of Tryd.func47 rfl Tryd.ntmps47 (Nat.le_of_ble_eq_true rfl) ?_
  have e0:argS 0 [.sl (p0.map eStr),.str p1]=[(0,.sl (p0.map eStr)),(1,.str p1)]:=rfl
  rw [e0]
  refine W.sq [] [(0,.sl (p0.map eStr)),(1,.str p1)] [] ?_
  refine W.seq ?_
  refine W.sq [] [(0,.sl (p0.map eStr)),(1,.str p1),(5,.int .i64 0)] [] ?_
  refine W.block ?_
  replace hm:=of_bind hm
  obtain ⟨r13,hlr13,hm⟩:=hm
  refine W.mono (Q:=fun e0 s0 h0=>match r13 with | .inl e=>e0=.exit 0 ∧ ∃w:Unit,s0=[] ∧ h0=[] | .inr q=>e0=.ret ∧ s0=[(4,.int .i64 q)] ∧ h0=[]) (W.loopM (step:=palingref1_index_s1 p0 p1) (a0:=0) (fun (a:Int) (v:Unit)=>([(0,.sl (p0.map eStr)),(1,.str p1),(5,.int .i64 a)],[])) () hlr13 ⟨[],[]⟩ RO ?_) ?_
  · rintro i9 _ x hm hx
    rw [palingref1_index_s1] at hm
    show WK _ _ _ _ _ [(0,.sl (p0.map eStr)),(1,.str p1),(5,.int .i64 i9)] []
    refine W.seq ?_
    refine W.sq [] [(0,.sl (p0.map eStr)),(1,.str p1),(5,.int .i64 i9),(9,.bool (decide (i9<(p0.length:Int))))] [] ?_
    refine W.cnd (decide (i9<(p0.length:Int))) (fun hb14=>?_) (fun hb14=>?_)
    · replace hm:=of_true hb14 hm
      refine W.skip ?_
      refine W.seq ?_
      refine W.block ?_
      replace hm:=of_ite hm
      obtain ⟨h15,hm⟩:=hm
      refine W.sq [] [(0,.sl (p0.map eStr)),(1,.str p1),(5,.int .i64 i9),(17,.bool (decide ((rd p0 i9)=p1)))] [] ?_
      refine W.cnd (decide ((rd p0 i9)=p1)) (fun hb16=>?_) (fun hb16=>?_)
      · replace hm:=of_true hb16 hm
        refine W.sq [] [(4,.int .i64 i9)] [] ?_
        obtain rfl:=Option.some.inj hm
        obtain rfl:=hx _ rfl
        exact W.weak ⟨[],[]⟩ (show AT _ ⟨[],[]⟩ [(4,.int .i64 i9)] [] _ _ from RO) (W.ret (show _ ∧ _ from ⟨rfl,rfl,rfl⟩))
      · replace hm:=of_false hb16 hm
        refine W.skip ?_
        refine W.rg [] [(0,.sl (p0.map eStr)),(1,.str p1),(5,.int .i64 (IntKind.wrap .i64 (i9+1)))] [] ?_
        obtain rfl:=Option.some.inj hm
        exact ⟨(IntKind.wrap .i64 (i9+1)),(),⟨[],[]⟩,rfl,RO⟩
    · replace hm:=of_false hb14 hm
      obtain rfl:=Option.some.inj hm
      obtain rfl:=hx _ rfl
      exact W.weak ⟨[],[]⟩ (show AT _ ⟨[],[]⟩ [] [] _ _ from RO) (W.exit (show _ ∧ _ from ⟨rfl,(),rfl,rfl⟩))
  · intro e0 s0 h0 hq
    rcases r13 with er13 | qr13
    · obtain ⟨rfl,_,rfl,rfl⟩:=hq
      replace hm:=of_inl hm
      show WK _ _ _ _ _ [] []
      refine W.sq [] [(4,.int .i64 (-1))] [] ?_
      obtain rfl:=Option.some.inj hm
      exact W.ret (EndsF.retW [] RO)
    · obtain ⟨rfl,rfl,rfl⟩:=hq
      replace hm:=of_inr hm
      obtain rfl:=Option.some.inj hm
      exact EndsF.retW [] RO

theorem palingref1_ops_ok{r:(List ByteArray)}(hm:palingref1_ops =some r):PureF Tryd.prog 52 [] (.sl (r.map eStr)):=by
  rw [palingref1_ops] at hm
  refine PureF.of Tryd.func52 rfl Tryd.ntmps52 (Nat.le_of_ble_eq_true rfl) ?_
  have e0:argS 0 []=[]:=rfl
  rw [e0]
  refine W.sq [] [] [] ?_
  replace hm:=of_let hm
  obtain ⟨l1,h2,hm⟩:=hm
  refine W.sq [] [(0,.sl (l1.map eStr))] [] ?_
  clear h2
  obtain rfl:=Option.some.inj hm
  exact W.ret (EndsF.retW [] RO)

theorem palingref1_conds_ok{r:(List ByteArray)}(hm:palingref1_conds =some r):PureF Tryd.prog 51 [] (.sl (r.map eStr)):=by
  rw [palingref1_conds] at hm
  refine PureF.of Tryd.func51 rfl Tryd.ntmps51 (Nat.le_of_ble_eq_true rfl) ?_
  have e0:argS 0 []=[]:=rfl
  rw [e0]
  refine W.sq [] [] [] ?_
  replace hm:=of_let hm
  obtain ⟨l1,h2,hm⟩:=hm
  refine W.sq [] [(0,.sl (l1.map eStr))] [] ?_
  clear h2
  obtain rfl:=Option.some.inj hm
  exact W.ret (EndsF.retW [] RO)

theorem palingref1_Word_ok{p0:ByteArray}{r:Bool}(hm:palingref1_Word p0=some r):PureF Tryd.prog 45 [.str p0] (.bool r):=by
  rw [palingref1_Word] at hm
  refine PureF.of Tryd.func45 rfl Tryd.ntmps45 (Nat.le_of_ble_eq_true rfl) ?_
  have e0:argS 0 [.str p0]=[(0,.str p0)]:=rfl
  rw [e0]
  refine W.sq [] [(0,.str p0)] [] ?_
  replace hm:=of_bind hm
  obtain ⟨v1,h2,hm⟩:=hm
  replace hm:=of_bind hm
  obtain ⟨v3,h4,hm⟩:=hm
  replace hm:=of_bind hm
  obtain ⟨v5,h6,hm⟩:=hm
  replace hm:=of_bind hm
  obtain ⟨v7,h8,hm⟩:=hm
  replace hm:=of_bind hm
  obtain ⟨v9,h10,hm⟩:=hm
  replace hm:=of_bind hm
  obtain ⟨v11,h12,hm⟩:=hm
  replace hm:=of_let hm
  obtain ⟨b13,h14,hm⟩:=hm
  refine W.sq [] [(2,.bool b13)] [] ?_ (hrun:=?_)
  rotate_left
  · try simp -implicitDefEqProofs -dsimp only [go_sem,↓reduceIte,Nat.reduceAdd,Nat.reduceMul,Nat.reduceSub,Nat.reduceEqDiff,Nat.reduceLeDiff,Nat.reduceLT,Nat.reduceBEq,Int.reduceEq,reduceCtorEq,h14]
    refine onG_splitN (fun hg15=>?_) (fun hg15=>?_)
    · try simp only [Bool.not_not] at hg15
      try simp -implicitDefEqProofs -dsimp only [go_sem,↓reduceIte,Nat.reduceAdd,Nat.reduceMul,Nat.reduceSub,Nat.reduceEqDiff,Nat.reduceLeDiff,Nat.reduceLT,Nat.reduceBEq,Int.reduceEq,reduceCtorEq,hg15,h14]
      refine onG_splitN (fun hg16=>?_) (fun hg16=>?_)
      · try simp only [Bool.not_not] at hg16
        try simp -implicitDefEqProofs -dsimp only [go_sem,↓reduceIte,Nat.reduceAdd,Nat.reduceMul,Nat.reduceSub,Nat.reduceEqDiff,Nat.reduceLeDiff,Nat.reduceLT,Nat.reduceBEq,Int.reduceEq,reduceCtorEq,hg15,hg16,h14]
        refine onG_splitN (fun hg17=>?_) (fun hg17=>?_)
        · try simp only [Bool.not_not] at hg17
          try simp -implicitDefEqProofs -dsimp only [go_sem,↓reduceIte,Nat.reduceAdd,Nat.reduceMul,Nat.reduceSub,Nat.reduceEqDiff,Nat.reduceLeDiff,Nat.reduceLT,Nat.reduceBEq,Int.reduceEq,reduceCtorEq,hg15,hg16,hg17,h14]
          refine onG_splitN (fun hg18=>?_) (fun hg18=>?_)
          · try simp only [Bool.not_not] at hg18
            try simp -implicitDefEqProofs -dsimp only [go_sem,↓reduceIte,Nat.reduceAdd,Nat.reduceMul,Nat.reduceSub,Nat.reduceEqDiff,Nat.reduceLeDiff,Nat.reduceLT,Nat.reduceBEq,Int.reduceEq,reduceCtorEq,hg15,hg16,hg17,hg18,h14]
            with_reducible refine exP.mk _ (callQ.plain (by simp -implicitDefEqProofs -dsimp only [go_sem,↓reduceIte,Nat.reduceAdd,Nat.reduceMul,Nat.reduceSub,Nat.reduceEqDiff,Nat.reduceLeDiff,Nat.reduceLT,Nat.reduceBEq,Int.reduceEq,reduceCtorEq,hg15,hg16,hg17,hg18,h14]) (palingref1_Regs_ok (of_true (by simp -implicitDefEqProofs -dsimp only [go_sem,↓reduceIte,Nat.reduceAdd,Nat.reduceMul,Nat.reduceSub,Nat.reduceEqDiff,Nat.reduceLeDiff,Nat.reduceLT,Nat.reduceBEq,Int.reduceEq,reduceCtorEq,hg15,hg16,hg17,hg18,h14]) h2))) ?_
            try simp -implicitDefEqProofs -dsimp only [go_sem,↓reduceIte,Nat.reduceAdd,Nat.reduceMul,Nat.reduceSub,Nat.reduceEqDiff,Nat.reduceLeDiff,Nat.reduceLT,Nat.reduceBEq,Int.reduceEq,reduceCtorEq,hg15,hg16,hg17,hg18,h14]
            with_reducible refine exP.mk _ (callQ.plain (by simp -implicitDefEqProofs -dsimp only [go_sem,↓reduceIte,Nat.reduceAdd,Nat.reduceMul,Nat.reduceSub,Nat.reduceEqDiff,Nat.reduceLeDiff,Nat.reduceLT,Nat.reduceBEq,Int.reduceEq,reduceCtorEq,hg15,hg16,hg17,hg18,h14]) (palingref1_index_ok (of_true (by simp -implicitDefEqProofs -dsimp only [go_sem,↓reduceIte,Nat.reduceAdd,Nat.reduceMul,Nat.reduceSub,Nat.reduceEqDiff,Nat.reduceLeDiff,Nat.reduceLT,Nat.reduceBEq,Int.reduceEq,reduceCtorEq,hg15,hg16,hg17,hg18,h14]) h4))) ?_
            try simp -implicitDefEqProofs -dsimp only [go_sem,↓reduceIte,Nat.reduceAdd,Nat.reduceMul,Nat.reduceSub,Nat.reduceEqDiff,Nat.reduceLeDiff,Nat.reduceLT,Nat.reduceBEq,Int.reduceEq,reduceCtorEq,hg15,hg16,hg17,hg18,h14]
            refine onG_splitN (fun hg19=>?_) (fun hg19=>?_)
            · try simp only [Bool.not_not] at hg19
              try simp -implicitDefEqProofs -dsimp only [go_sem,↓reduceIte,Nat.reduceAdd,Nat.reduceMul,Nat.reduceSub,Nat.reduceEqDiff,Nat.reduceLeDiff,Nat.reduceLT,Nat.reduceBEq,Int.reduceEq,reduceCtorEq,hg15,hg16,hg17,hg18,hg19,h14]
              with_reducible refine exP.mk _ (callQ.plain (by simp -implicitDefEqProofs -dsimp only [go_sem,↓reduceIte,Nat.reduceAdd,Nat.reduceMul,Nat.reduceSub,Nat.reduceEqDiff,Nat.reduceLeDiff,Nat.reduceLT,Nat.reduceBEq,Int.reduceEq,reduceCtorEq,hg15,hg16,hg17,hg18,hg19,h14]) (palingref1_ops_ok (of_true (by simp -implicitDefEqProofs -dsimp only [go_sem,↓reduceIte,Nat.reduceAdd,Nat.reduceMul,Nat.reduceSub,Nat.reduceEqDiff,Nat.reduceLeDiff,Nat.reduceLT,Nat.reduceBEq,Int.reduceEq,reduceCtorEq,hg15,hg16,hg17,hg18,hg19,h14]) h6))) ?_
              try simp -implicitDefEqProofs -dsimp only [go_sem,↓reduceIte,Nat.reduceAdd,Nat.reduceMul,Nat.reduceSub,Nat.reduceEqDiff,Nat.reduceLeDiff,Nat.reduceLT,Nat.reduceBEq,Int.reduceEq,reduceCtorEq,hg15,hg16,hg17,hg18,hg19,h14]
              with_reducible refine exP.mk _ (callQ.plain (by simp -implicitDefEqProofs -dsimp only [go_sem,↓reduceIte,Nat.reduceAdd,Nat.reduceMul,Nat.reduceSub,Nat.reduceEqDiff,Nat.reduceLeDiff,Nat.reduceLT,Nat.reduceBEq,Int.reduceEq,reduceCtorEq,hg15,hg16,hg17,hg18,hg19,h14]) (palingref1_index_ok (of_true (by simp -implicitDefEqProofs -dsimp only [go_sem,↓reduceIte,Nat.reduceAdd,Nat.reduceMul,Nat.reduceSub,Nat.reduceEqDiff,Nat.reduceLeDiff,Nat.reduceLT,Nat.reduceBEq,Int.reduceEq,reduceCtorEq,hg15,hg16,hg17,hg18,hg19,h14]) h8))) ?_
              try simp -implicitDefEqProofs -dsimp only [go_sem,↓reduceIte,Nat.reduceAdd,Nat.reduceMul,Nat.reduceSub,Nat.reduceEqDiff,Nat.reduceLeDiff,Nat.reduceLT,Nat.reduceBEq,Int.reduceEq,reduceCtorEq,hg15,hg16,hg17,hg18,hg19,h14]
              refine onG_splitN (fun hg20=>?_) (fun hg20=>?_)
              · try simp only [Bool.not_not] at hg20
                try simp -implicitDefEqProofs -dsimp only [go_sem,↓reduceIte,Nat.reduceAdd,Nat.reduceMul,Nat.reduceSub,Nat.reduceEqDiff,Nat.reduceLeDiff,Nat.reduceLT,Nat.reduceBEq,Int.reduceEq,reduceCtorEq,hg15,hg16,hg17,hg18,hg19,hg20,h14]
                with_reducible refine exP.mk _ (callQ.plain (by simp -implicitDefEqProofs -dsimp only [go_sem,↓reduceIte,Nat.reduceAdd,Nat.reduceMul,Nat.reduceSub,Nat.reduceEqDiff,Nat.reduceLeDiff,Nat.reduceLT,Nat.reduceBEq,Int.reduceEq,reduceCtorEq,hg15,hg16,hg17,hg18,hg19,hg20,h14]) (palingref1_conds_ok (of_true (by simp -implicitDefEqProofs -dsimp only [go_sem,↓reduceIte,Nat.reduceAdd,Nat.reduceMul,Nat.reduceSub,Nat.reduceEqDiff,Nat.reduceLeDiff,Nat.reduceLT,Nat.reduceBEq,Int.reduceEq,reduceCtorEq,hg15,hg16,hg17,hg18,hg19,hg20,h14]) h10))) ?_
                try simp -implicitDefEqProofs -dsimp only [go_sem,↓reduceIte,Nat.reduceAdd,Nat.reduceMul,Nat.reduceSub,Nat.reduceEqDiff,Nat.reduceLeDiff,Nat.reduceLT,Nat.reduceBEq,Int.reduceEq,reduceCtorEq,hg15,hg16,hg17,hg18,hg19,hg20,h14]
                with_reducible refine exP.mk _ (callQ.plain (by simp -implicitDefEqProofs -dsimp only [go_sem,↓reduceIte,Nat.reduceAdd,Nat.reduceMul,Nat.reduceSub,Nat.reduceEqDiff,Nat.reduceLeDiff,Nat.reduceLT,Nat.reduceBEq,Int.reduceEq,reduceCtorEq,hg15,hg16,hg17,hg18,hg19,hg20,h14]) (palingref1_index_ok (of_true (by simp -implicitDefEqProofs -dsimp only [go_sem,↓reduceIte,Nat.reduceAdd,Nat.reduceMul,Nat.reduceSub,Nat.reduceEqDiff,Nat.reduceLeDiff,Nat.reduceLT,Nat.reduceBEq,Int.reduceEq,reduceCtorEq,hg15,hg16,hg17,hg18,hg19,hg20,h14]) h12))) ?_
                try simp -implicitDefEqProofs -dsimp only [go_sem,↓reduceIte,Nat.reduceAdd,Nat.reduceMul,Nat.reduceSub,Nat.reduceEqDiff,Nat.reduceLeDiff,Nat.reduceLT,Nat.reduceBEq,Int.reduceEq,reduceCtorEq,hg15,hg16,hg17,hg18,hg19,hg20,h14]
              · try simp only [Bool.not_not] at hg20
                try simp -implicitDefEqProofs -dsimp only [go_sem,↓reduceIte,Nat.reduceAdd,Nat.reduceMul,Nat.reduceSub,Nat.reduceEqDiff,Nat.reduceLeDiff,Nat.reduceLT,Nat.reduceBEq,Int.reduceEq,reduceCtorEq,hg15,hg16,hg17,hg18,hg19,hg20,h14]
            · try simp only [Bool.not_not] at hg19
              try simp -implicitDefEqProofs -dsimp only [go_sem,↓reduceIte,Nat.reduceAdd,Nat.reduceMul,Nat.reduceSub,Nat.reduceEqDiff,Nat.reduceLeDiff,Nat.reduceLT,Nat.reduceBEq,Int.reduceEq,reduceCtorEq,hg15,hg16,hg17,hg18,hg19,h14]
          · try simp only [Bool.not_not] at hg18
            try simp -implicitDefEqProofs -dsimp only [go_sem,↓reduceIte,Nat.reduceAdd,Nat.reduceMul,Nat.reduceSub,Nat.reduceEqDiff,Nat.reduceLeDiff,Nat.reduceLT,Nat.reduceBEq,Int.reduceEq,reduceCtorEq,hg15,hg16,hg17,hg18,h14]
        · try simp only [Bool.not_not] at hg17
          try simp -implicitDefEqProofs -dsimp only [go_sem,↓reduceIte,Nat.reduceAdd,Nat.reduceMul,Nat.reduceSub,Nat.reduceEqDiff,Nat.reduceLeDiff,Nat.reduceLT,Nat.reduceBEq,Int.reduceEq,reduceCtorEq,hg15,hg16,hg17,h14]
      · try simp only [Bool.not_not] at hg16
        try simp -implicitDefEqProofs -dsimp only [go_sem,↓reduceIte,Nat.reduceAdd,Nat.reduceMul,Nat.reduceSub,Nat.reduceEqDiff,Nat.reduceLeDiff,Nat.reduceLT,Nat.reduceBEq,Int.reduceEq,reduceCtorEq,hg15,hg16,h14]
    · try simp only [Bool.not_not] at hg15
      try simp -implicitDefEqProofs -dsimp only [go_sem,↓reduceIte,Nat.reduceAdd,Nat.reduceMul,Nat.reduceSub,Nat.reduceEqDiff,Nat.reduceLeDiff,Nat.reduceLT,Nat.reduceBEq,Int.reduceEq,reduceCtorEq,hg15,h14]
  clear h14
  obtain rfl:=Option.some.inj hm
  exact W.ret (EndsF.retW [] RO)

theorem palingref1_Right_ok{p0:ByteArray}{r:Bool}(hm:palingref1_Right p0=some r):PureF Tryd.prog 29 [.str p0] (.bool r):=by
  rw [palingref1_Right] at hm
  refine PureF.of Tryd.func29 rfl Tryd.ntmps29 (Nat.le_of_ble_eq_true rfl) ?_
  have e0:argS 0 [.str p0]=[(0,.str p0)]:=rfl
  rw [e0]
  refine W.sq [] [(0,.str p0)] [] ?_
  replace hm:=of_bind hm
  obtain ⟨v1,h2,hm⟩:=hm
  have kh2:=palingref1_Spots_ok h2
  refine W.sq [] [(0,.str p0),(3,.sl (v1.map e_palingref1_Spot))] [] ?_
  refine W.seq ?_
  replace hm:=of_bind hm
  obtain ⟨v3,h4,hm⟩:=hm
  have kh4:=fun hg=>palingref1_Word_ok (of_true hg h4)
  refine W.sq [] [(3,.sl (v1.map e_palingref1_Spot)),(18,.bool ((decide ((v1.length:Int)<1)||decide ((v1.length:Int)>16))||v3))] [] ?_
  refine W.cnd ((decide ((v1.length:Int)<1)||decide ((v1.length:Int)>16))||v3) (fun hb5=>?_) (fun hb5=>?_)
  · replace hm:=of_true hb5 hm
    refine W.sq [] [(2,.bool false)] [] ?_
    obtain rfl:=Option.some.inj hm
    exact W.ret (EndsF.retW [] RO)
  · replace hm:=of_false hb5 hm
    refine W.skip ?_
    refine W.seq ?_
    refine W.sq [] [(3,.sl (v1.map e_palingref1_Spot)),(4,.int .i64 0)] [] ?_
    refine W.block ?_
    replace hm:=of_bind hm
    obtain ⟨r35,hlr35,hm⟩:=hm
    refine W.mono (Q:=fun e0 s0 h0=>match r35 with | .inl e=>e0=.exit 0 ∧ ∃w:Unit,s0=[] ∧ h0=[] | .inr q=>e0=.ret ∧ s0=[(2,.bool q)] ∧ h0=[]) (W.loopM (step:=palingref1_Right_s1 v1) (a0:=0) (fun (a:Int) (v:Unit)=>([(3,.sl (v1.map e_palingref1_Spot)),(4,.int .i64 a)],[])) () hlr35 ⟨[],[]⟩ RO ?_) ?_
    · rintro i25 _ x hm hx
      rw [palingref1_Right_s1] at hm
      show WK _ _ _ _ _ [(3,.sl (v1.map e_palingref1_Spot)),(4,.int .i64 i25)] []
      refine W.seq ?_
      refine W.sq [] [(3,.sl (v1.map e_palingref1_Spot)),(4,.int .i64 i25),(22,.bool (decide (i25<(v1.length:Int))))] [] ?_
      refine W.cnd (decide (i25<(v1.length:Int))) (fun hb36=>?_) (fun hb36=>?_)
      · replace hm:=of_true hb36 hm
        refine W.skip ?_
        refine W.seq ?_
        refine W.block ?_
        replace hm:=of_ite hm
        obtain ⟨h37,hm⟩:=hm
        replace hm:=of_ite hm
        obtain ⟨h38,hm⟩:=hm
        replace hm:=of_bind hm
        obtain ⟨v39,h40,hm⟩:=hm
        replace hm:=of_ite hm
        obtain ⟨h41,hm⟩:=hm
        replace hm:=of_bind hm
        obtain ⟨v42,h43,hm⟩:=hm
        have kh40:=fun hg=>palingref1_Letter_ok (of_true hg h40)
        try simp only [hb5,hb36] at kh40
        have kh43:=fun hg=>palingref1_Digit_ok (of_true hg h43)
        try simp only [hb5,hb36] at kh43
        refine W.sq [] [(3,.sl (v1.map e_palingref1_Spot)),(4,.int .i64 i25),(51,.bool ((rd v1 i25).Bad||((!v39)&&((i25==0)||(!v42)))))] [] ?_
        refine W.cnd ((rd v1 i25).Bad||((!v39)&&((i25==0)||(!v42)))) (fun hb44=>?_) (fun hb44=>?_)
        · replace hm:=of_true hb44 hm
          refine W.sq [] [(2,.bool false)] [] ?_
          obtain rfl:=Option.some.inj hm
          obtain rfl:=hx _ rfl
          exact W.weak ⟨[],[]⟩ (show AT _ ⟨[],[]⟩ [(2,.bool false)] [] _ _ from RO) (W.ret (show _ ∧ _ from ⟨rfl,rfl,rfl⟩))
        · replace hm:=of_false hb44 hm
          refine W.skip ?_
          refine W.rg [] [(3,.sl (v1.map e_palingref1_Spot)),(4,.int .i64 (IntKind.wrap .i64 (i25+1)))] [] ?_
          obtain rfl:=Option.some.inj hm
          exact ⟨(IntKind.wrap .i64 (i25+1)),(),⟨[],[]⟩,rfl,RO⟩
      · replace hm:=of_false hb36 hm
        obtain rfl:=Option.some.inj hm
        obtain rfl:=hx _ rfl
        exact W.weak ⟨[],[]⟩ (show AT _ ⟨[],[]⟩ [] [] _ _ from RO) (W.exit (show _ ∧ _ from ⟨rfl,(),rfl,rfl⟩))
    · intro e0 s0 h0 hq
      rcases r35 with er35 | qr35
      · obtain ⟨rfl,_,rfl,rfl⟩:=hq
        replace hm:=of_inl hm
        show WK _ _ _ _ _ [] []
        refine W.sq [] [(2,.bool true)] [] ?_
        obtain rfl:=Option.some.inj hm
        exact W.ret (EndsF.retW [] RO)
      · obtain ⟨rfl,rfl,rfl⟩:=hq
        replace hm:=of_inr hm
        obtain rfl:=Option.some.inj hm
        exact EndsF.retW [] RO

theorem palingref1_Count_ok{p0:T_api_Thread}{r:Int}(hm:palingref1_Count p0=some r):PureF Tryd.prog 46 [.agg [.sl (p0.Ins.map e_api_Ins)]] (.int .i64 r):=by
  rw [palingref1_Count] at hm
  refine PureF.of Tryd.func46 rfl Tryd.ntmps46 (Nat.le_of_ble_eq_true rfl) ?_
  have e0:argS 0 [.agg [.sl (p0.Ins.map e_api_Ins)]]=[(0,.agg [.sl (p0.Ins.map e_api_Ins)])]:=rfl
  rw [e0]
  refine W.sq [] [(1,.ptr 0 0 0)] [.cells (e_api_Thread p0) 0 49] ?_
  refine W.sq [] [(1,.ptr 0 0 0),(3,.int .i64 0)] [.cells (e_api_Thread p0) 0 49] ?_
  refine W.seq ?_
  refine W.sq [] [(1,.ptr 0 0 0),(3,.int .i64 0),(4,.int .i64 0)] [.cells (e_api_Thread p0) 0 49] ?_
  refine W.block ?_
  replace hm:=of_bind hm
  obtain ⟨r15,hlr15,hm⟩:=hm
  refine W.mono (Q:=fun e0 s0 h0=>e0=.exit 0 ∧ ∃w:Unit,s0=[(3,.int .i64 r15)] ∧ h0=[]) (W.loopM (step:=palingref1_Count_s1 p0) (a0:=(0,0)) (fun (a:Int × Int) (v:Unit)=>([(1,.ptr 0 0 0),(3,.int .i64 a.1),(4,.int .i64 a.2)],[.cells (e_api_Thread p0) 0 49])) () hlr15 ⟨[],[]⟩ RO ?_) ?_
  · rintro ⟨i9,i10⟩ _ x hm hx
    rw [palingref1_Count_s1] at hm
    show WK _ _ _ _ _ [(1,.ptr 0 0 0),(3,.int .i64 i9),(4,.int .i64 i10)] [.cells (e_api_Thread p0) 0 49]
    refine W.seq ?_
    refine W.sq [] [(1,.ptr 0 0 0),(3,.int .i64 i9),(4,.int .i64 i10),(9,.bool (decide (i10<(p0.Ins.length:Int))))] [.cells (e_api_Thread p0) 0 49] ?_
    refine W.cnd (decide (i10<(p0.Ins.length:Int))) (fun hb16=>?_) (fun hb16=>?_)
    · replace hm:=of_true hb16 hm
      refine W.skip ?_
      refine W.seq ?_
      refine W.block ?_
      replace hm:=of_ite hm
      obtain ⟨h17,hm⟩:=hm
      refine W.sq [] [(1,.ptr 0 0 0),(3,.int .i64 i9),(4,.int .i64 i10),(18,.bool ((rd p0.Ins i10).Op != 12))] [.cells (e_api_Thread p0) 0 49] ?_
      refine W.cnd ((rd p0.Ins i10).Op != 12) (fun hb18=>?_) (fun hb18=>?_)
      · replace hm:=of_true hb18 hm
        refine W.rg [] [(1,.ptr 0 0 0),(3,.int .i64 (IntKind.wrap .i64 (i9+1))),(4,.int .i64 i10)] [.cells (e_api_Thread p0) 0 49] ?_
        refine W.rg [] [(1,.ptr 0 0 0),(3,.int .i64 (IntKind.wrap .i64 (i9+1))),(4,.int .i64 (IntKind.wrap .i64 (i10+1)))] [.cells (e_api_Thread p0) 0 49] ?_
        obtain rfl:=Option.some.inj hm
        exact ⟨((IntKind.wrap .i64 (i9+1)),(IntKind.wrap .i64 (i10+1))),(),⟨[],[]⟩,rfl,RO⟩
      · replace hm:=of_false hb18 hm
        refine W.skip ?_
        refine W.rg [] [(1,.ptr 0 0 0),(3,.int .i64 i9),(4,.int .i64 (IntKind.wrap .i64 (i10+1)))] [.cells (e_api_Thread p0) 0 49] ?_
        obtain rfl:=Option.some.inj hm
        exact ⟨(i9,(IntKind.wrap .i64 (i10+1))),(),⟨[],[]⟩,rfl,RO⟩
    · replace hm:=of_false hb16 hm
      obtain rfl:=Option.some.inj hm
      obtain rfl:=hx _ rfl
      exact W.weak ⟨[],[]⟩ (show AT _ ⟨[],[]⟩ [(3,.int .i64 i9)] [] _ _ from RO) (W.exit (show _ ∧ _ from ⟨rfl,(),rfl,rfl⟩))
  · rintro e0 s0 h0 ⟨rfl,_,rfl,rfl⟩
    show WK _ _ _ _ _ [(3,.int .i64 r15)] []
    refine W.sq [] [(2,.int .i64 r15)] [] ?_
    obtain rfl:=Option.some.inj hm
    exact W.ret (EndsF.retW [] RO)

theorem palingref1_OpdRight_ok{p0:T_api_Opd}{r:Bool}(hm:palingref1_OpdRight p0=some r):PureF Tryd.prog 53 [.agg [.int .i64 p0.Kind,.int .i64 p0.Reg,.int .i64 p0.Sym,.int .i64 p0.N]] (.bool r):=by
  rw [palingref1_OpdRight] at hm
  refine PureF.of Tryd.func53 rfl Tryd.ntmps53 (Nat.le_of_ble_eq_true rfl) ?_
  have e0:argS 0 [.agg [.int .i64 p0.Kind,.int .i64 p0.Reg,.int .i64 p0.Sym,.int .i64 p0.N]]=[(0,.agg [.int .i64 p0.Kind,.int .i64 p0.Reg,.int .i64 p0.Sym,.int .i64 p0.N])]:=rfl
  rw [e0]
  refine W.sq [] [(1,.ptr 0 0 0)] [.cells (e_api_Opd p0) 0 51] ?_
  refine W.seq ?_
  refine W.sq [] [(1,.ptr 0 0 0),(4,.int .i64 p0.Kind)] [.cells (e_api_Opd p0) 0 51] ?_
  refine W.block ?_
  refine W.sq [] [(1,.ptr 0 0 0),(4,.int .i64 p0.Kind),(5,.bool (p0.Kind==1))] [.cells (e_api_Opd p0) 0 51] ?_
  refine W.cnd (p0.Kind==1) (fun hb1=>?_) (fun hb1=>?_)
  · replace hm:=of_true hb1 hm
    refine W.sq [] [(2,.bool (((decide (p0.Reg≥0)&&decide (p0.Reg ≤ 7))&&(p0.Sym==0))&&(p0.N==0)))] [] ?_
    obtain rfl:=Option.some.inj hm
    exact W.ret (EndsF.retW [] RO)
  · replace hm:=of_false hb1 hm
    refine W.sq [] [(1,.ptr 0 0 0),(4,.int .i64 p0.Kind),(25,.bool (p0.Kind==2))] [.cells (e_api_Opd p0) 0 51] ?_
    refine W.cnd (p0.Kind==2) (fun hb2=>?_) (fun hb2=>?_)
    · replace hm:=of_true hb2 hm
      refine W.sq [] [(2,.bool ((p0.Reg==0)&&(p0.Sym==0)))] [] ?_
      obtain rfl:=Option.some.inj hm
      exact W.ret (EndsF.retW [] RO)
    · replace hm:=of_false hb2 hm
      refine W.sq [] [(1,.ptr 0 0 0),(4,.int .i64 p0.Kind),(35,.bool (p0.Kind==3))] [.cells (e_api_Opd p0) 0 51] ?_
      refine W.cnd (p0.Kind==3) (fun hb3=>?_) (fun hb3=>?_)
      · replace hm:=of_true hb3 hm
        refine W.sq [] [(2,.bool ((decide (p0.Sym≥0)&&decide (p0.N≥0))&&(p0.Reg==0)))] [] ?_
        obtain rfl:=Option.some.inj hm
        exact W.ret (EndsF.retW [] RO)
      · replace hm:=of_false hb3 hm
        refine W.sq [] [(1,.ptr 0 0 0),(50,.bool (p0.Kind==4))] [.cells (e_api_Opd p0) 0 51] ?_
        refine W.cnd (p0.Kind==4) (fun hb4=>?_) (fun hb4=>?_)
        · replace hm:=of_true hb4 hm
          refine W.sq [] [(2,.bool (((decide (p0.Sym≥0)&&decide (p0.Reg≥0))&&decide (p0.Reg ≤ 7))&&(p0.N==0)))] [] ?_
          obtain rfl:=Option.some.inj hm
          exact W.ret (EndsF.retW [] RO)
        · replace hm:=of_false hb4 hm
          refine W.skip ?_
          refine W.sq [] [(2,.bool false)] [] ?_
          obtain rfl:=Option.some.inj hm
          exact W.ret (EndsF.retW [] RO)

theorem palingref1_Memory_ok{p0:T_api_Opd}{r:Bool}(hm:palingref1_Memory p0=some r):PureF Tryd.prog 34 [.agg [.int .i64 p0.Kind,.int .i64 p0.Reg,.int .i64 p0.Sym,.int .i64 p0.N]] (.bool r):=by
  rw [palingref1_Memory] at hm
  refine PureF.of Tryd.func34 rfl Tryd.ntmps34 (Nat.le_of_ble_eq_true rfl) ?_
  have e0:argS 0 [.agg [.int .i64 p0.Kind,.int .i64 p0.Reg,.int .i64 p0.Sym,.int .i64 p0.N]]=[(0,.agg [.int .i64 p0.Kind,.int .i64 p0.Reg,.int .i64 p0.Sym,.int .i64 p0.N])]:=rfl
  rw [e0]
  refine W.sq [] [(1,.ptr 0 0 0)] [.cells (e_api_Opd p0) 0 51] ?_
  refine W.sq [] [(2,.bool ((p0.Kind==3)||(p0.Kind==4)))] [] ?_
  obtain rfl:=Option.some.inj hm
  exact W.ret (EndsF.retW [] RO)

theorem palingref1_plain_ok{p0:T_api_Opd}{r:Bool}(hm:palingref1_plain p0=some r):PureF Tryd.prog 59 [.agg [.int .i64 p0.Kind,.int .i64 p0.Reg,.int .i64 p0.Sym,.int .i64 p0.N]] (.bool r):=by
  rw [palingref1_plain] at hm
  refine PureF.of Tryd.func59 rfl Tryd.ntmps59 (Nat.le_of_ble_eq_true rfl) ?_
  have e0:argS 0 [.agg [.int .i64 p0.Kind,.int .i64 p0.Reg,.int .i64 p0.Sym,.int .i64 p0.N]]=[(0,.agg [.int .i64 p0.Kind,.int .i64 p0.Reg,.int .i64 p0.Sym,.int .i64 p0.N])]:=rfl
  rw [e0]
  refine W.sq [] [(1,.ptr 0 0 0)] [.cells (e_api_Opd p0) 0 51] ?_
  refine W.sq [] [(2,.bool ((p0.Kind==1)||(p0.Kind==2)))] [] ?_
  obtain rfl:=Option.some.inj hm
  exact W.ret (EndsF.retW [] RO)

theorem palingref1_Reckons_ok{p0:Int}{r:Bool}(hm:palingref1_Reckons p0=some r):PureF Tryd.prog 60 [.int .i64 p0] (.bool r):=by
  rw [palingref1_Reckons] at hm
  refine PureF.of Tryd.func60 rfl Tryd.ntmps60 (Nat.le_of_ble_eq_true rfl) ?_
  have e0:argS 0 [.int .i64 p0]=[(0,.int .i64 p0)]:=rfl
  rw [e0]
  refine W.sq [] [(0,.int .i64 p0)] [] ?_
  refine W.sq [] [(2,.bool (decide (p0≥2)&&decide (p0 ≤ 6)))] [] ?_
  obtain rfl:=Option.some.inj hm
  exact W.ret (EndsF.retW [] RO)

theorem palingref1_row_ok{p0:T_api_Ins}{r:Bool}(hm:palingref1_row p0=some r):PureF Tryd.prog 50 [.agg [.int .i64 p0.Op,.bool p0.Lock,.int .i64 p0.Cond,.int .i64 p0.A.Kind,.int .i64 p0.A.Reg,.int .i64 p0.A.Sym,.int .i64 p0.A.N,.int .i64 p0.B.Kind,.int .i64 p0.B.Reg,.int .i64 p0.B.Sym,.int .i64 p0.B.N,.str p0.To,.sl (p0.Labels.map eStr)]] (.bool r):=by
  rw [palingref1_row] at hm
  refine PureF.of Tryd.func50 rfl Tryd.ntmps50 (Nat.le_of_ble_eq_true rfl) ?_
  have e0:argS 0 [.agg [.int .i64 p0.Op,.bool p0.Lock,.int .i64 p0.Cond,.int .i64 p0.A.Kind,.int .i64 p0.A.Reg,.int .i64 p0.A.Sym,.int .i64 p0.A.N,.int .i64 p0.B.Kind,.int .i64 p0.B.Reg,.int .i64 p0.B.Sym,.int .i64 p0.B.N,.str p0.To,.sl (p0.Labels.map eStr)]]=[(0,.agg [.int .i64 p0.Op,.bool p0.Lock,.int .i64 p0.Cond,.int .i64 p0.A.Kind,.int .i64 p0.A.Reg,.int .i64 p0.A.Sym,.int .i64 p0.A.N,.int .i64 p0.B.Kind,.int .i64 p0.B.Reg,.int .i64 p0.B.Sym,.int .i64 p0.B.N,.str p0.To,.sl (p0.Labels.map eStr)])]:=rfl
  rw [e0]
  refine W.sq [] [(1,.ptr 0 0 0)] [.cells (e_api_Ins p0) 0 53] ?_
  refine W.weak ⟨[],[.res,.res]⟩ (show AT _ ⟨[],[.res,.res]⟩ [(1,.ptr 0 0 0)] [.cells (e_api_Ins p0) 0 53,.hole,.hole] _ _ from RO) ?_
  refine W.sqL [.light,.light,.light,.light,.here 1,.here 2,.store,.store] [([],[]),([0],[]),([],[]),([0],[]),([1],[1]),([2],[2]),([1],[1]),([2],[2])] [] [(1,.ptr 0 0 0),(3,.ptr 1 0 0),(4,.ptr 2 0 0)] [.cells (e_api_Ins p0) 0 53,.cells (e_api_Opd p0.A) 0 51,.cells (e_api_Opd p0.B) 0 51] v_mixed ?_
  refine W.seq ?_
  refine W.sq [] [(1,.ptr 0 0 0),(3,.ptr 1 0 0),(4,.ptr 2 0 0),(16,.bool (decide (p0.Op<1)||decide (p0.Op>9)))] [.cells (e_api_Ins p0) 0 53,.cells (e_api_Opd p0.A) 0 51,.cells (e_api_Opd p0.B) 0 51] ?_
  refine W.cnd (decide (p0.Op<1)||decide (p0.Op>9)) (fun hb1=>?_) (fun hb1=>?_)
  · replace hm:=of_true hb1 hm
    replace hm:=of_let hm
    obtain ⟨b2,h3,hm⟩:=hm
    refine W.sq [] [(2,.bool b2)] [] ?_
    clear h3
    obtain rfl:=Option.some.inj hm
    exact W.ret (EndsF.retW [] RO)
  · replace hm:=of_false hb1 hm
    refine W.skip ?_
    refine W.seq ?_
    replace hm:=of_bind hm
    obtain ⟨v4,h5,hm⟩:=hm
    replace hm:=of_bind hm
    obtain ⟨v6,h7,hm⟩:=hm
    refine W.sq [] [(1,.ptr 0 0 0),(3,.ptr 1 0 0),(4,.ptr 2 0 0),(37,.bool ((!v4)||(!v6)))] [.cells (e_api_Ins p0) 0 53,.cells (e_api_Opd p0.A) 0 51,.cells (e_api_Opd p0.B) 0 51] ?_ (hrun:=?_)
    rotate_left
    · try simp -implicitDefEqProofs -dsimp only [go_sem,↓reduceIte,Nat.reduceAdd,Nat.reduceMul,Nat.reduceSub,Nat.reduceEqDiff,Nat.reduceLeDiff,Nat.reduceLT,Nat.reduceBEq,Int.reduceEq,reduceCtorEq,hb1]
      with_reducible refine exP.mk _ (callQ.plain (by simp -implicitDefEqProofs -dsimp only [go_sem,↓reduceIte,Nat.reduceAdd,Nat.reduceMul,Nat.reduceSub,Nat.reduceEqDiff,Nat.reduceLeDiff,Nat.reduceLT,Nat.reduceBEq,Int.reduceEq,reduceCtorEq,hb1]) (by have hk:=palingref1_OpdRight_ok h5; (try simp only [hb1] at hk); (try simp only [List.map_cons,List.map_nil,eStr,eInt] at hk); exact hk)) ?_
      try simp -implicitDefEqProofs -dsimp only [go_sem,↓reduceIte,Nat.reduceAdd,Nat.reduceMul,Nat.reduceSub,Nat.reduceEqDiff,Nat.reduceLeDiff,Nat.reduceLT,Nat.reduceBEq,Int.reduceEq,reduceCtorEq,hb1]
      refine onG_split (fun hg8=>?_) (fun hg8=>?_)
      · try simp only [Bool.not_not] at hg8
        try simp -implicitDefEqProofs -dsimp only [go_sem,↓reduceIte,Nat.reduceAdd,Nat.reduceMul,Nat.reduceSub,Nat.reduceEqDiff,Nat.reduceLeDiff,Nat.reduceLT,Nat.reduceBEq,Int.reduceEq,reduceCtorEq,hb1,hg8]
        with_reducible refine exP.mk _ (callQ.plain (by simp -implicitDefEqProofs -dsimp only [go_sem,↓reduceIte,Nat.reduceAdd,Nat.reduceMul,Nat.reduceSub,Nat.reduceEqDiff,Nat.reduceLeDiff,Nat.reduceLT,Nat.reduceBEq,Int.reduceEq,reduceCtorEq,hb1,hg8]) (by have hk:=palingref1_OpdRight_ok (of_true (by simp -implicitDefEqProofs -dsimp only [go_sem,↓reduceIte,Nat.reduceAdd,Nat.reduceMul,Nat.reduceSub,Nat.reduceEqDiff,Nat.reduceLeDiff,Nat.reduceLT,Nat.reduceBEq,Int.reduceEq,reduceCtorEq,hb1,hg8]) h7); (try simp only [hb1] at hk); (try simp only [List.map_cons,List.map_nil,eStr,eInt] at hk); exact hk)) ?_
        try simp -implicitDefEqProofs -dsimp only [go_sem,↓reduceIte,Nat.reduceAdd,Nat.reduceMul,Nat.reduceSub,Nat.reduceEqDiff,Nat.reduceLeDiff,Nat.reduceLT,Nat.reduceBEq,Int.reduceEq,reduceCtorEq,hb1,hg8]
      · try simp only [Bool.not_not] at hg8
        try simp -implicitDefEqProofs -dsimp only [go_sem,↓reduceIte,Nat.reduceAdd,Nat.reduceMul,Nat.reduceSub,Nat.reduceEqDiff,Nat.reduceLeDiff,Nat.reduceLT,Nat.reduceBEq,Int.reduceEq,reduceCtorEq,hb1,hg8]
    refine W.cnd ((!v4)||(!v6)) (fun hb9=>?_) (fun hb9=>?_)
    · replace hm:=of_true hb9 hm
      refine W.sq [] [(2,.bool false)] [] ?_
      obtain rfl:=Option.some.inj hm
      exact W.ret (EndsF.retW [] RO)
    · replace hm:=of_false hb9 hm
      refine W.skip ?_
      refine W.seq ?_
      refine W.block ?_
      refine W.sq [] [(1,.ptr 0 0 0),(3,.ptr 1 0 0),(4,.ptr 2 0 0),(38,.bool (p0.Op==8))] [.cells (e_api_Ins p0) 0 53,.cells (e_api_Opd p0.A) 0 51,.cells (e_api_Opd p0.B) 0 51] ?_
      refine W.cnd (p0.Op==8) (fun hb10=>?_) (fun hb10=>?_)
      · replace hm:=of_true hb10 hm
        replace hm:=of_bind hm
        obtain ⟨v11,h12,hm⟩:=hm
        have kh12:=palingref1_Memory_ok h12
        try simp only [hb1,hb9,hb10] at kh12
        refine W.sq [] [(2,.bool ((v11&&(p0.B.Kind==1))&&(!p0.Lock)))] [] ?_
        obtain rfl:=Option.some.inj hm
        exact W.ret (EndsF.retW [] RO)
      · replace hm:=of_false hb10 hm
        refine W.sq [] [(1,.ptr 0 0 0),(3,.ptr 1 0 0),(4,.ptr 2 0 0),(54,.bool (p0.Op==9))] [.cells (e_api_Ins p0) 0 53,.cells (e_api_Opd p0.A) 0 51,.cells (e_api_Opd p0.B) 0 51] ?_
        refine W.cnd (p0.Op==9) (fun hb13=>?_) (fun hb13=>?_)
        · replace hm:=of_true hb13 hm
          replace hm:=of_bind hm
          obtain ⟨v14,h15,hm⟩:=hm
          have kh15:=palingref1_Memory_ok h15
          try simp only [hb1,hb9,hb10,hb13] at kh15
          refine W.sq [] [(2,.bool ((v14&&(p0.B.Kind==1))&&p0.Lock))] [] ?_
          obtain rfl:=Option.some.inj hm
          exact W.ret (EndsF.retW [] RO)
        · replace hm:=of_false hb13 hm
          refine W.sq [] [(1,.ptr 0 0 0),(3,.ptr 1 0 0),(4,.ptr 2 0 0),(69,.bool (p0.A.Kind==1))] [.cells (e_api_Ins p0) 0 53,.cells (e_api_Opd p0.A) 0 51,.cells (e_api_Opd p0.B) 0 51] ?_
          refine W.cnd (p0.A.Kind==1) (fun hb16=>?_) (fun hb16=>?_)
          · replace hm:=of_true hb16 hm
            replace hm:=of_bind hm
            obtain ⟨v17,h18,hm⟩:=hm
            replace hm:=of_bind hm
            obtain ⟨v19,h20,hm⟩:=hm
            have kh18:=palingref1_plain_ok h18
            try simp only [hb1,hb9,hb10,hb13,hb16] at kh18
            have kh20:=fun hg=>palingref1_Memory_ok (of_true hg h20)
            try simp only [hb1,hb9,hb10,hb13,hb16] at kh20
            refine W.sq [] [(2,.bool ((v17||v19)&&(!p0.Lock)))] [] ?_
            obtain rfl:=Option.some.inj hm
            exact W.ret (EndsF.retW [] RO)
          · replace hm:=of_false hb16 hm
            refine W.skip ?_
            replace hm:=of_bind hm
            obtain ⟨v21,h22,hm⟩:=hm
            replace hm:=of_bind hm
            obtain ⟨v23,h24,hm⟩:=hm
            replace hm:=of_bind hm
            obtain ⟨v25,h26,hm⟩:=hm
            have kh22:=palingref1_Memory_ok h22
            try simp only [hb1,hb9,hb10,hb13,hb16] at kh22
            have kh24:=fun hg=>palingref1_plain_ok (of_true hg h24)
            try simp only [hb1,hb9,hb10,hb13,hb16] at kh24
            have kh26:=fun hg=>palingref1_Reckons_ok (of_true hg h26)
            try simp only [hb1,hb9,hb10,hb13,hb16] at kh26
            refine W.sq [] [(2,.bool ((v21&&v23)&&((!p0.Lock)||v25)))] [] ?_
            obtain rfl:=Option.some.inj hm
            exact W.ret (EndsF.retW [] RO)

theorem palingref1_Jumps_ok{p0:Int}{r:Bool}(hm:palingref1_Jumps p0=some r):PureF Tryd.prog 33 [.int .i64 p0] (.bool r):=by
  rw [palingref1_Jumps] at hm
  refine PureF.of Tryd.func33 rfl Tryd.ntmps33 (Nat.le_of_ble_eq_true rfl) ?_
  have e0:argS 0 [.int .i64 p0]=[(0,.int .i64 p0)]:=rfl
  rw [e0]
  refine W.sq [] [(0,.int .i64 p0)] [] ?_
  refine W.sq [] [(2,.bool ((p0==10)||(p0==11)))] [] ?_
  obtain rfl:=Option.some.inj hm
  exact W.ret (EndsF.retW [] RO)

theorem palingref1_InsRight_ok{p0:T_api_Ins}{r:Int}(hm:palingref1_InsRight p0=some r):PureF Tryd.prog 31 [.agg [.int .i64 p0.Op,.bool p0.Lock,.int .i64 p0.Cond,.int .i64 p0.A.Kind,.int .i64 p0.A.Reg,.int .i64 p0.A.Sym,.int .i64 p0.A.N,.int .i64 p0.B.Kind,.int .i64 p0.B.Reg,.int .i64 p0.B.Sym,.int .i64 p0.B.N,.str p0.To,.sl (p0.Labels.map eStr)]] (.int .i64 r):=by
  rw [palingref1_InsRight] at hm
  refine PureF.of Tryd.func31 rfl Tryd.ntmps31 (Nat.le_of_ble_eq_true rfl) ?_
  have e0:argS 0 [.agg [.int .i64 p0.Op,.bool p0.Lock,.int .i64 p0.Cond,.int .i64 p0.A.Kind,.int .i64 p0.A.Reg,.int .i64 p0.A.Sym,.int .i64 p0.A.N,.int .i64 p0.B.Kind,.int .i64 p0.B.Reg,.int .i64 p0.B.Sym,.int .i64 p0.B.N,.str p0.To,.sl (p0.Labels.map eStr)]]=[(0,.agg [.int .i64 p0.Op,.bool p0.Lock,.int .i64 p0.Cond,.int .i64 p0.A.Kind,.int .i64 p0.A.Reg,.int .i64 p0.A.Sym,.int .i64 p0.A.N,.int .i64 p0.B.Kind,.int .i64 p0.B.Reg,.int .i64 p0.B.Sym,.int .i64 p0.B.N,.str p0.To,.sl (p0.Labels.map eStr)])]:=rfl
  rw [e0]
  refine W.sq [] [(1,.ptr 0 0 0)] [.cells (e_api_Ins p0) 0 53] ?_
  refine W.seq ?_
  replace hm:=of_bind hm
  obtain ⟨v1,h2,hm⟩:=hm
  replace hm:=of_bind hm
  obtain ⟨v3,h4,hm⟩:=hm
  replace hm:=of_let hm
  obtain ⟨b5,h6,hm⟩:=hm
  have kh2:=fun hg=>palingref1_row_ok (of_true hg h2)
  have kh4:=fun hg=>palingref1_Jumps_ok (of_true hg h4)
  refine W.sq [] [(1,.ptr 0 0 0),(26,.bool b5)] [.cells (e_api_Ins p0) 0 53] ?_
  clear h6
  refine W.cnd b5 (fun hb7=>?_) (fun hb7=>?_)
  · replace hm:=of_true hb7 hm
    refine W.sq [] [(2,.int .i64 4)] [] ?_
    obtain rfl:=Option.some.inj hm
    exact W.ret (EndsF.retW [] RO)
  · replace hm:=of_false hb7 hm
    refine W.skip ?_
    refine W.seq ?_
    replace hm:=of_let hm
    obtain ⟨b8,h9,hm⟩:=hm
    refine W.sq [] [(1,.ptr 0 0 0),(49,.bool b8)] [.cells (e_api_Ins p0) 0 53] ?_
    clear h9
    refine W.cnd b8 (fun hb10=>?_) (fun hb10=>?_)
    · replace hm:=of_true hb10 hm
      refine W.sq [] [(2,.int .i64 4)] [] ?_
      obtain rfl:=Option.some.inj hm
      exact W.ret (EndsF.retW [] RO)
    · replace hm:=of_false hb10 hm
      refine W.skip ?_
      refine W.seq ?_
      replace hm:=of_bind hm
      obtain ⟨v11,h12,hm⟩:=hm
      replace hm:=of_bind hm
      obtain ⟨v13,h14,hm⟩:=hm
      have kh12:=palingref1_Jumps_ok h12
      try simp only [hb7,hb10] at kh12
      have kh14:=fun hg=>palingref1_Right_ok (of_true hg h14)
      try simp only [hb7,hb10] at kh14
      refine W.sq [] [(58,.bool (v11&&(!v13)))] [] ?_
      refine W.cnd (v11&&(!v13)) (fun hb15=>?_) (fun hb15=>?_)
      · replace hm:=of_true hb15 hm
        refine W.sq [] [(2,.int .i64 3)] [] ?_
        obtain rfl:=Option.some.inj hm
        exact W.ret (EndsF.retW [] RO)
      · replace hm:=of_false hb15 hm
        refine W.skip ?_
        refine W.sq [] [(2,.int .i64 0)] [] ?_
        obtain rfl:=Option.some.inj hm
        exact W.ret (EndsF.retW [] RO)

theorem palingref1_operand_ok{p0:T_api_Prog}{p1:T_api_Opd}{r:Int}(hm:palingref1_operand p0 p1=some r):PureF Tryd.prog 48 [.agg [.sl (p0.Syms.map e_api_Sym),.sl (p0.Threads.map e_api_Thread)],.agg [.int .i64 p1.Kind,.int .i64 p1.Reg,.int .i64 p1.Sym,.int .i64 p1.N]] (.int .i64 r):=by
  rw [palingref1_operand] at hm
  refine PureF.of Tryd.func48 rfl Tryd.ntmps48 (Nat.le_of_ble_eq_true rfl) ?_
  have e0:argS 0 [.agg [.sl (p0.Syms.map e_api_Sym),.sl (p0.Threads.map e_api_Thread)],.agg [.int .i64 p1.Kind,.int .i64 p1.Reg,.int .i64 p1.Sym,.int .i64 p1.N]]=[(0,.agg [.sl (p0.Syms.map e_api_Sym),.sl (p0.Threads.map e_api_Thread)]),(1,.agg [.int .i64 p1.Kind,.int .i64 p1.Reg,.int .i64 p1.Sym,.int .i64 p1.N])]:=rfl
  rw [e0]
  refine W.sq [] [(2,.ptr 0 0 0),(3,.ptr 1 0 0)] [.cells (e_api_Prog p0) 0 28,.cells (e_api_Opd p1) 0 51] ?_
  refine W.seq ?_
  refine W.block ?_
  replace hm:=of_bind hm
  obtain ⟨v1,h2,hm⟩:=hm
  have kh2:=palingref1_Memory_ok h2
  refine W.sq [] [(2,.ptr 0 0 0),(3,.ptr 1 0 0),(5,.bool (!v1))] [.cells (e_api_Prog p0) 0 28,.cells (e_api_Opd p1) 0 51] ?_
  refine W.cnd (!v1) (fun hb3=>?_) (fun hb3=>?_)
  · replace hm:=of_true hb3 hm
    refine W.sq [] [(4,.int .i64 0)] [] ?_
    obtain rfl:=Option.some.inj hm
    exact W.ret (EndsF.retW [] RO)
  · replace hm:=of_false hb3 hm
    refine W.sq [] [(2,.ptr 0 0 0),(3,.ptr 1 0 0),(9,.bool (decide (p1.Sym≥(p0.Syms.length:Int))))] [.cells (e_api_Prog p0) 0 28,.cells (e_api_Opd p1) 0 51] ?_
    refine W.cnd (decide (p1.Sym≥(p0.Syms.length:Int))) (fun hb4=>?_) (fun hb4=>?_)
    · replace hm:=of_true hb4 hm
      refine W.sq [] [(4,.int .i64 7)] [] ?_
      obtain rfl:=Option.some.inj hm
      exact W.ret (EndsF.retW [] RO)
    · replace hm:=of_false hb4 hm
      replace hm:=of_ite hm
      obtain ⟨h5,hm⟩:=hm
      refine W.sqJ [] [] [] 0 [] [(16,.bool ((p1.Kind==3)&&decide (p1.N≥(rd p0.Syms p1.Sym).Size)))] [] v_mixed ?_
      refine W.cnd ((p1.Kind==3)&&decide (p1.N≥(rd p0.Syms p1.Sym).Size)) (fun hb6=>?_) (fun hb6=>?_)
      · replace hm:=of_true hb6 hm
        refine W.sq [] [(4,.int .i64 8)] [] ?_
        obtain rfl:=Option.some.inj hm
        exact W.ret (EndsF.retW [] RO)
      · replace hm:=of_false hb6 hm
        refine W.skip ?_
        refine W.sq [] [(4,.int .i64 0)] [] ?_
        obtain rfl:=Option.some.inj hm
        exact W.ret (EndsF.retW [] RO)

theorem palingref1_Find_ok{p0:T_api_Thread}{p1:ByteArray}{r:Int}(hm:palingref1_Find p0 p1=some r):PureF Tryd.prog 49 [.agg [.sl (p0.Ins.map e_api_Ins)],.str p1] (.int .i64 r):=by
  rw [palingref1_Find] at hm
  refine PureF.of Tryd.func49 rfl Tryd.ntmps49 (Nat.le_of_ble_eq_true rfl) ?_
  have e0:argS 0 [.agg [.sl (p0.Ins.map e_api_Ins)],.str p1]=[(0,.agg [.sl (p0.Ins.map e_api_Ins)]),(1,.str p1)]:=rfl
  rw [e0]
  refine W.sq [] [(1,.str p1),(2,.ptr 0 0 0)] [.cells (e_api_Thread p0) 0 49] ?_
  refine W.seq ?_
  refine W.sq [] [(1,.str p1),(2,.ptr 0 0 0),(5,.int .i64 0)] [.cells (e_api_Thread p0) 0 49] ?_
  refine W.block ?_
  replace hm:=of_bind hm
  obtain ⟨r18,hlr18,hm⟩:=hm
  refine W.mono (Q:=fun e0 s0 h0=>match r18 with | .inl e=>e0=.exit 0 ∧ ∃w:Unit,s0=[] ∧ h0=[] | .inr q=>e0=.ret ∧ s0=[(4,.int .i64 q)] ∧ h0=[]) (W.loopM (step:=palingref1_Find_s1 p0 p1) (a0:=0) (fun (a:Int) (v:Unit)=>([(1,.str p1),(2,.ptr 0 0 0),(5,.int .i64 a)],[.cells (e_api_Thread p0) 0 49])) () hlr18 ⟨[],[]⟩ RO ?_) ?_
  · rintro i12 _ x hm hx
    rw [palingref1_Find_s1] at hm
    show WK _ _ _ _ _ [(1,.str p1),(2,.ptr 0 0 0),(5,.int .i64 i12)] [.cells (e_api_Thread p0) 0 49]
    refine W.seq ?_
    refine W.sq [] [(1,.str p1),(2,.ptr 0 0 0),(5,.int .i64 i12),(10,.bool (decide (i12<(p0.Ins.length:Int))))] [.cells (e_api_Thread p0) 0 49] ?_
    refine W.cnd (decide (i12<(p0.Ins.length:Int))) (fun hb19=>?_) (fun hb19=>?_)
    · replace hm:=of_true hb19 hm
      refine W.skip ?_
      refine W.seq ?_
      refine W.block ?_
      replace hm:=of_ite hm
      obtain ⟨h20,hm⟩:=hm
      replace hm:=of_bind hm
      obtain ⟨v21,h22,hm⟩:=hm
      have kh22:=palingref1_index_ok h22
      try simp only [hb19] at kh22
      refine W.sq [] [(1,.str p1),(2,.ptr 0 0 0),(5,.int .i64 i12),(21,.bool (decide (v21≥0)))] [.cells (e_api_Thread p0) 0 49] ?_
      refine W.cnd (decide (v21≥0)) (fun hb23=>?_) (fun hb23=>?_)
      · replace hm:=of_true hb23 hm
        refine W.sq [] [(4,.int .i64 i12)] [] ?_
        obtain rfl:=Option.some.inj hm
        obtain rfl:=hx _ rfl
        exact W.weak ⟨[],[]⟩ (show AT _ ⟨[],[]⟩ [(4,.int .i64 i12)] [] _ _ from RO) (W.ret (show _ ∧ _ from ⟨rfl,rfl,rfl⟩))
      · replace hm:=of_false hb23 hm
        refine W.skip ?_
        refine W.rg [] [(1,.str p1),(2,.ptr 0 0 0),(5,.int .i64 (IntKind.wrap .i64 (i12+1)))] [.cells (e_api_Thread p0) 0 49] ?_
        obtain rfl:=Option.some.inj hm
        exact ⟨(IntKind.wrap .i64 (i12+1)),(),⟨[],[]⟩,rfl,RO⟩
    · replace hm:=of_false hb19 hm
      obtain rfl:=Option.some.inj hm
      obtain rfl:=hx _ rfl
      exact W.weak ⟨[],[]⟩ (show AT _ ⟨[],[]⟩ [] [] _ _ from RO) (W.exit (show _ ∧ _ from ⟨rfl,(),rfl,rfl⟩))
  · intro e0 s0 h0 hq
    rcases r18 with er18 | qr18
    · obtain ⟨rfl,_,rfl,rfl⟩:=hq
      replace hm:=of_inl hm
      show WK _ _ _ _ _ [] []
      refine W.sq [] [(4,.int .i64 (-1))] [] ?_
      obtain rfl:=Option.some.inj hm
      exact W.ret (EndsF.retW [] RO)
    · obtain ⟨rfl,rfl,rfl⟩:=hq
      replace hm:=of_inr hm
      obtain rfl:=Option.some.inj hm
      exact EndsF.retW [] RO

theorem palingref1_thread_ok{p0:T_api_Prog}{p1:T_api_Thread}{r:Int}(hm:palingref1_thread p0 p1=some r):PureF Tryd.prog 30 [.agg [.sl (p0.Syms.map e_api_Sym),.sl (p0.Threads.map e_api_Thread)],.agg [.sl (p1.Ins.map e_api_Ins)]] (.int .i64 r):=by
  rw [palingref1_thread] at hm
  refine PureF.of Tryd.func30 rfl Tryd.ntmps30 (Nat.le_of_ble_eq_true rfl) ?_
  have e0:argS 0 [.agg [.sl (p0.Syms.map e_api_Sym),.sl (p0.Threads.map e_api_Thread)],.agg [.sl (p1.Ins.map e_api_Ins)]]=[(0,.agg [.sl (p0.Syms.map e_api_Sym),.sl (p0.Threads.map e_api_Thread)]),(1,.agg [.sl (p1.Ins.map e_api_Ins)])]:=rfl
  rw [e0]
  refine W.sq [] [(2,.ptr 0 0 0),(3,.ptr 1 0 0)] [.cells (e_api_Prog p0) 0 28,.cells (e_api_Thread p1) 0 49] ?_
  refine W.seq ?_
  replace hm:=of_bind hm
  obtain ⟨v1,h2,hm⟩:=hm
  have kh2:=palingref1_Count_ok h2
  refine W.sq [] [(2,.ptr 0 0 0),(3,.ptr 1 0 0),(16,.bool (decide (v1>4096)))] [.cells (e_api_Prog p0) 0 28,.cells (e_api_Thread p1) 0 49] ?_
  refine W.cnd (decide (v1>4096)) (fun hb3=>?_) (fun hb3=>?_)
  · replace hm:=of_true hb3 hm
    refine W.sq [] [(4,.int .i64 10)] [] ?_
    obtain rfl:=Option.some.inj hm
    exact W.ret (EndsF.retW [] RO)
  · replace hm:=of_false hb3 hm
    refine W.skip ?_
    refine W.sq [] [(2,.ptr 0 0 0),(3,.ptr 1 0 0),(5,.nils)] [.cells (e_api_Prog p0) 0 28,.cells (e_api_Thread p1) 0 49] ?_
    refine W.seq ?_
    refine W.sq [] [(2,.ptr 0 0 0),(3,.ptr 1 0 0),(5,.nils),(6,.int .i64 0)] [.cells (e_api_Prog p0) 0 28,.cells (e_api_Thread p1) 0 49] ?_
    refine W.block ?_
    replace hm:=of_bind hm
    obtain ⟨r187,hlr187,hm⟩:=hm
    refine W.mono (Q:=fun e0 s0 h0=>match r187 with | .inl e=>e0=.exit 0 ∧ ∃w:Unit,s0=[(3,.ptr 1 0 0)] ∧ h0=[.dead,.cells (e_api_Thread p1) 0 49] | .inr q=>e0=.ret ∧ s0=[(4,.int .i64 q)] ∧ h0=[]) (W.loopM (step:=palingref1_thread_s1 p1 p0) (a0:=(0,[])) (fun (a:Int × (List ByteArray)) (v:Nat)=>([(2,.ptr 0 0 0),(3,.ptr 1 0 0),(5,.msl 3 v 0 1 a.2.length a.2.length),(6,.int .i64 a.1)],[.cells (e_api_Prog p0) 0 28,.cells (e_api_Thread p1) 0 49,.dead,.rows (a.2.map eStr) 1 v 9])) 0 hlr187 ⟨[],[]⟩ RO ?_) ?_
    · rintro ⟨i125,l126⟩ w127 x hm hx
      rw [palingref1_thread_s1] at hm
      show WK _ _ _ _ _ [(2,.ptr 0 0 0),(3,.ptr 1 0 0),(5,.msl 3 w127 0 1 l126.length l126.length),(6,.int .i64 i125)] [.cells (e_api_Prog p0) 0 28,.cells (e_api_Thread p1) 0 49,.dead,.rows (l126.map eStr) 1 w127 9]
      refine W.seq ?_
      refine W.sq [] [(2,.ptr 0 0 0),(3,.ptr 1 0 0),(5,.msl 3 w127 0 1 l126.length l126.length),(6,.int .i64 i125),(21,.bool (decide (i125<(p1.Ins.length:Int))))] [.cells (e_api_Prog p0) 0 28,.cells (e_api_Thread p1) 0 49,.dead,.rows (l126.map eStr) 1 w127 9] ?_
      refine W.cnd (decide (i125<(p1.Ins.length:Int))) (fun hb188=>?_) (fun hb188=>?_)
      · replace hm:=of_true hb188 hm
        refine W.skip ?_
        refine W.seq ?_
        refine W.block ?_
        replace hm:=of_ite hm
        obtain ⟨h189,hm⟩:=hm
        refine W.sq [] [(2,.ptr 0 0 0),(3,.ptr 1 0 0),(5,.msl 3 w127 0 1 l126.length l126.length),(6,.int .i64 i125),(7,.ptr 4 0 0)] [.cells (e_api_Prog p0) 0 28,.cells (e_api_Thread p1) 0 49,.dead,.rows (l126.map eStr) 1 w127 9,.cells (e_api_Ins (rd p1.Ins i125)) 0 53] ?_
        refine W.seq ?_
        refine W.sq [] [(2,.ptr 0 0 0),(3,.ptr 1 0 0),(5,.msl 3 w127 0 1 l126.length l126.length),(6,.int .i64 i125),(7,.ptr 4 0 0),(8,.int .i64 0)] [.cells (e_api_Prog p0) 0 28,.cells (e_api_Thread p1) 0 49,.dead,.rows (l126.map eStr) 1 w127 9,.cells (e_api_Ins (rd p1.Ins i125)) 0 53] ?_
        refine W.block ?_
        replace hm:=of_bind hm
        obtain ⟨r237,hlr237,hm⟩:=hm
        refine W.mono (Q:=fun e0 s0 h0=>match r237 with | .inl e=>e0=.exit 2 ∧ ∃w:Nat,s0=[(2,.ptr 0 0 0),(3,.ptr 1 0 0),(5,.msl 3 w 0 1 e.length e.length),(6,.int .i64 i125),(7,.ptr 4 0 0)] ∧ h0=[.cells (e_api_Prog p0) 0 28,.cells (e_api_Thread p1) 0 49,.dead,.rows (e.map eStr) 1 w 9,.cells (e_api_Ins (rd p1.Ins i125)) 0 53] | .inr q=>e0=.ret ∧ s0=[(4,.int .i64 q)] ∧ h0=[]) (W.loopM (step:=palingref1_thread_s2 p1 i125) (a0:=(0,l126)) (fun (a:Int × (List ByteArray)) (v:Nat)=>([(2,.ptr 0 0 0),(3,.ptr 1 0 0),(5,.msl 3 v 0 1 a.2.length a.2.length),(6,.int .i64 i125),(7,.ptr 4 0 0),(8,.int .i64 a.1)],[.cells (e_api_Prog p0) 0 28,.cells (e_api_Thread p1) 0 49,.dead,.rows (a.2.map eStr) 1 v 9,.cells (e_api_Ins (rd p1.Ins i125)) 0 53])) w127 hlr237 ⟨[],[]⟩ RO ?_) ?_
        · rintro ⟨i219,l220⟩ w221 x hm hx
          rw [palingref1_thread_s2] at hm
          show WK _ _ _ _ _ [(2,.ptr 0 0 0),(3,.ptr 1 0 0),(5,.msl 3 w221 0 1 l220.length l220.length),(6,.int .i64 i125),(7,.ptr 4 0 0),(8,.int .i64 i219)] [.cells (e_api_Prog p0) 0 28,.cells (e_api_Thread p1) 0 49,.dead,.rows (l220.map eStr) 1 w221 9,.cells (e_api_Ins (rd p1.Ins i125)) 0 53]
          refine W.seq ?_
          refine W.sq [] [(2,.ptr 0 0 0),(3,.ptr 1 0 0),(5,.msl 3 w221 0 1 l220.length l220.length),(6,.int .i64 i125),(7,.ptr 4 0 0),(8,.int .i64 i219),(33,.bool (decide (i219<(((rd p1.Ins i125).Labels).length:Int))))] [.cells (e_api_Prog p0) 0 28,.cells (e_api_Thread p1) 0 49,.dead,.rows (l220.map eStr) 1 w221 9,.cells (e_api_Ins (rd p1.Ins i125)) 0 53] ?_
          refine W.cnd (decide (i219<(((rd p1.Ins i125).Labels).length:Int))) (fun hb238=>?_) (fun hb238=>?_)
          · replace hm:=of_true hb238 hm
            refine W.skip ?_
            refine W.seq ?_
            refine W.block ?_
            refine W.seq ?_
            replace hm:=of_ite hm
            obtain ⟨h239,hm⟩:=hm
            replace hm:=of_bind hm
            obtain ⟨v240,h241,hm⟩:=hm
            have kh241:=palingref1_Right_ok h241
            try simp only [hb3,hb188,hb238] at kh241
            refine W.sq [] [(2,.ptr 0 0 0),(3,.ptr 1 0 0),(5,.msl 3 w221 0 1 l220.length l220.length),(6,.int .i64 i125),(7,.ptr 4 0 0),(8,.int .i64 i219),(42,.bool (!v240))] [.cells (e_api_Prog p0) 0 28,.cells (e_api_Thread p1) 0 49,.dead,.rows (l220.map eStr) 1 w221 9,.cells (e_api_Ins (rd p1.Ins i125)) 0 53] ?_
            refine W.cnd (!v240) (fun hb242=>?_) (fun hb242=>?_)
            · replace hm:=of_true hb242 hm
              refine W.sq [] [(4,.int .i64 3)] [] ?_
              obtain rfl:=Option.some.inj hm
              obtain rfl:=hx _ rfl
              exact W.weak ⟨[],[]⟩ (show AT _ ⟨[],[]⟩ [(4,.int .i64 3)] [] _ _ from RO) (W.ret (show _ ∧ _ from ⟨rfl,rfl,rfl⟩))
            · replace hm:=of_false hb242 hm
              refine W.skip ?_
              refine W.seq ?_
              replace hm:=of_ite hm
              obtain ⟨h243,hm⟩:=hm
              replace hm:=of_bind hm
              obtain ⟨v244,h245,hm⟩:=hm
              refine W.sq [] [(2,.ptr 0 0 0),(3,.ptr 1 0 0),(5,.msl 3 w221 0 1 l220.length l220.length),(6,.int .i64 i125),(7,.ptr 4 0 0),(8,.int .i64 i219),(50,.bool (decide (v244≥0)))] [.cells (e_api_Prog p0) 0 28,.cells (e_api_Thread p1) 0 49,.dead,.rows (l220.map eStr) 1 w221 9,.cells (e_api_Ins (rd p1.Ins i125)) 0 53] ?_ (hrun:=?_)
              rotate_left
              · try simp -implicitDefEqProofs -dsimp only [go_sem,↓reduceIte,Nat.reduceAdd,Nat.reduceMul,Nat.reduceSub,Nat.reduceEqDiff,Nat.reduceLeDiff,Nat.reduceLT,Nat.reduceBEq,Int.reduceEq,reduceCtorEq,hb3,hb188,h189,hb238,h239,hb242,h243]
                with_reducible refine exP.mk (.pure ⟨[3],true,[.sl (l220.map eStr),.str (rd ((rd p1.Ins i125).Labels) i219)],.int .i64 v244⟩) (callQ.of (by simp -implicitDefEqProofs -dsimp only [go_sem,↓reduceIte,Nat.reduceAdd,Nat.reduceMul,Nat.reduceSub,Nat.reduceEqDiff,Nat.reduceLeDiff,Nat.reduceLT,Nat.reduceBEq,Int.reduceEq,reduceCtorEq,hb3,hb188,h189,hb238,h239,hb242,h243]) (by simp -implicitDefEqProofs -dsimp only [go_sem,↓reduceIte,Nat.reduceAdd,Nat.reduceMul,Nat.reduceSub,Nat.reduceEqDiff,Nat.reduceLeDiff,Nat.reduceLT,Nat.reduceBEq,Int.reduceEq,reduceCtorEq,hb3,hb188,h189,hb238,h239,hb242,h243]) (by simp -implicitDefEqProofs -dsimp only [go_sem,↓reduceIte,Nat.reduceAdd,Nat.reduceMul,Nat.reduceSub,Nat.reduceEqDiff,Nat.reduceLeDiff,Nat.reduceLT,Nat.reduceBEq,Int.reduceEq,reduceCtorEq,hb3,hb188,h189,hb238,h239,hb242,h243]) (fun _=>by simp -implicitDefEqProofs -dsimp only [go_sem,↓reduceIte,Nat.reduceAdd,Nat.reduceMul,Nat.reduceSub,Nat.reduceEqDiff,Nat.reduceLeDiff,Nat.reduceLT,Nat.reduceBEq,Int.reduceEq,reduceCtorEq,hb3,hb188,h189,hb238,h239,hb242,h243]) (palingref1_index_ok h245)) ?_
                try simp -implicitDefEqProofs -dsimp only [go_sem,↓reduceIte,Nat.reduceAdd,Nat.reduceMul,Nat.reduceSub,Nat.reduceEqDiff,Nat.reduceLeDiff,Nat.reduceLT,Nat.reduceBEq,Int.reduceEq,reduceCtorEq,hb3,hb188,h189,hb238,h239,hb242,h243]
              refine W.cnd (decide (v244≥0)) (fun hb246=>?_) (fun hb246=>?_)
              · replace hm:=of_true hb246 hm
                refine W.sq [] [(4,.int .i64 6)] [] ?_
                obtain rfl:=Option.some.inj hm
                obtain rfl:=hx _ rfl
                exact W.weak ⟨[],[]⟩ (show AT _ ⟨[],[]⟩ [(4,.int .i64 6)] [] _ _ from RO) (W.ret (show _ ∧ _ from ⟨rfl,rfl,rfl⟩))
              · replace hm:=of_false hb246 hm
                refine W.skip ?_
                replace hm:=of_ite hm
                obtain ⟨h247,hm⟩:=hm
                replace hm:=of_ite hm
                obtain ⟨h248,hm⟩:=hm
                replace hm:=of_let hm
                obtain ⟨l249,h250,hm⟩:=hm
                refine W.rg [] [(2,.ptr 0 0 0),(3,.ptr 1 0 0),(5,.msl 3 (w221+1) 0 1 l249.length l249.length),(6,.int .i64 i125),(7,.ptr 4 0 0),(8,.int .i64 i219)] [.cells (e_api_Prog p0) 0 28,.cells (e_api_Thread p1) 0 49,.dead,.rows (l249.map eStr) 1 (w221+1) 9,.cells (e_api_Ins (rd p1.Ins i125)) 0 53] ?_
                clear h250
                refine W.rg [] [(2,.ptr 0 0 0),(3,.ptr 1 0 0),(5,.msl 3 (w221+1) 0 1 l249.length l249.length),(6,.int .i64 i125),(7,.ptr 4 0 0),(8,.int .i64 (IntKind.wrap .i64 (i219+1)))] [.cells (e_api_Prog p0) 0 28,.cells (e_api_Thread p1) 0 49,.dead,.rows (l249.map eStr) 1 (w221+1) 9,.cells (e_api_Ins (rd p1.Ins i125)) 0 53] ?_
                obtain rfl:=Option.some.inj hm
                exact ⟨((IntKind.wrap .i64 (i219+1)),l249),(w221+1),⟨[],[]⟩,rfl,RO⟩
          · replace hm:=of_false hb238 hm
            obtain rfl:=Option.some.inj hm
            obtain rfl:=hx _ rfl
            exact W.weak ⟨[],[]⟩ (show AT _ ⟨[],[]⟩ [(2,.ptr 0 0 0),(3,.ptr 1 0 0),(5,.msl 3 w221 0 1 l220.length l220.length),(6,.int .i64 i125),(7,.ptr 4 0 0)] [.cells (e_api_Prog p0) 0 28,.cells (e_api_Thread p1) 0 49,.dead,.rows (l220.map eStr) 1 w221 9,.cells (e_api_Ins (rd p1.Ins i125)) 0 53] _ _ from RO) (W.exit (show _ ∧ _ from ⟨rfl,w221,rfl,rfl⟩))
        · intro e0 s0 h0 hq
          rcases r237 with er237 | qr237
          · obtain ⟨rfl,w236,rfl,rfl⟩:=hq
            replace hm:=of_inl hm
            show WK _ _ _ _ _ [(2,.ptr 0 0 0),(3,.ptr 1 0 0),(5,.msl 3 w236 0 1 er237.length er237.length),(6,.int .i64 i125),(7,.ptr 4 0 0)] [.cells (e_api_Prog p0) 0 28,.cells (e_api_Thread p1) 0 49,.dead,.rows (er237.map eStr) 1 w236 9,.cells (e_api_Ins (rd p1.Ins i125)) 0 53]
            refine W.seq ?_
            replace hm:=of_bind hm
            obtain ⟨v251,h252,hm⟩:=hm
            have kh252:=palingref1_InsRight_ok h252
            try simp only [hb3,hb188] at kh252
            refine W.sq [] [(2,.ptr 0 0 0),(3,.ptr 1 0 0),(5,.msl 3 w236 0 1 er237.length er237.length),(6,.int .i64 i125),(7,.ptr 4 0 0),(9,.int .i64 v251)] [.cells (e_api_Prog p0) 0 28,.cells (e_api_Thread p1) 0 49,.dead,.rows (er237.map eStr) 1 w236 9,.cells (e_api_Ins (rd p1.Ins i125)) 0 53] ?_
            refine W.sq [] [(2,.ptr 0 0 0),(3,.ptr 1 0 0),(5,.msl 3 w236 0 1 er237.length er237.length),(6,.int .i64 i125),(7,.ptr 4 0 0),(9,.int .i64 v251),(62,.bool (v251 != 0))] [.cells (e_api_Prog p0) 0 28,.cells (e_api_Thread p1) 0 49,.dead,.rows (er237.map eStr) 1 w236 9,.cells (e_api_Ins (rd p1.Ins i125)) 0 53] ?_
            refine W.cnd (v251 != 0) (fun hb253=>?_) (fun hb253=>?_)
            · replace hm:=of_true hb253 hm
              refine W.sq [] [(4,.int .i64 v251)] [] ?_
              obtain rfl:=Option.some.inj hm
              obtain rfl:=hx _ rfl
              exact W.weak ⟨[],[]⟩ (show AT _ ⟨[],[]⟩ [(4,.int .i64 v251)] [] _ _ from RO) (W.ret (show _ ∧ _ from ⟨rfl,rfl,rfl⟩))
            · replace hm:=of_false hb253 hm
              refine W.skip ?_
              refine W.seq ?_
              replace hm:=of_bind hm
              obtain ⟨v254,h255,hm⟩:=hm
              have kh255:=palingref1_operand_ok h255
              try simp only [hb3,hb188,hb253] at kh255
              refine W.sq [] [(2,.ptr 0 0 0),(3,.ptr 1 0 0),(5,.msl 3 w236 0 1 er237.length er237.length),(6,.int .i64 i125),(7,.ptr 4 0 0),(10,.int .i64 v254)] [.cells (e_api_Prog p0) 0 28,.cells (e_api_Thread p1) 0 49,.dead,.rows (er237.map eStr) 1 w236 9,.cells (e_api_Ins (rd p1.Ins i125)) 0 53] ?_
              refine W.sq [] [(2,.ptr 0 0 0),(3,.ptr 1 0 0),(5,.msl 3 w236 0 1 er237.length er237.length),(6,.int .i64 i125),(7,.ptr 4 0 0),(10,.int .i64 v254),(69,.bool (v254 != 0))] [.cells (e_api_Prog p0) 0 28,.cells (e_api_Thread p1) 0 49,.dead,.rows (er237.map eStr) 1 w236 9,.cells (e_api_Ins (rd p1.Ins i125)) 0 53] ?_
              refine W.cnd (v254 != 0) (fun hb256=>?_) (fun hb256=>?_)
              · replace hm:=of_true hb256 hm
                refine W.sq [] [(4,.int .i64 v254)] [] ?_
                obtain rfl:=Option.some.inj hm
                obtain rfl:=hx _ rfl
                exact W.weak ⟨[],[]⟩ (show AT _ ⟨[],[]⟩ [(4,.int .i64 v254)] [] _ _ from RO) (W.ret (show _ ∧ _ from ⟨rfl,rfl,rfl⟩))
              · replace hm:=of_false hb256 hm
                refine W.skip ?_
                replace hm:=of_bind hm
                obtain ⟨v257,h258,hm⟩:=hm
                have kh258:=palingref1_operand_ok h258
                try simp only [hb3,hb188,hb253,hb256] at kh258
                refine W.sq [] [(2,.ptr 0 0 0),(3,.ptr 1 0 0),(5,.msl 3 w236 0 1 er237.length er237.length),(6,.int .i64 i125),(11,.int .i64 v257)] [.cells (e_api_Prog p0) 0 28,.cells (e_api_Thread p1) 0 49,.dead,.rows (er237.map eStr) 1 w236 9] ?_
                refine W.sq [] [(2,.ptr 0 0 0),(3,.ptr 1 0 0),(5,.msl 3 w236 0 1 er237.length er237.length),(6,.int .i64 i125),(11,.int .i64 v257),(76,.bool (v257 != 0))] [.cells (e_api_Prog p0) 0 28,.cells (e_api_Thread p1) 0 49,.dead,.rows (er237.map eStr) 1 w236 9] ?_
                refine W.cnd (v257 != 0) (fun hb259=>?_) (fun hb259=>?_)
                · replace hm:=of_true hb259 hm
                  refine W.sq [] [(4,.int .i64 v257)] [] ?_
                  obtain rfl:=Option.some.inj hm
                  obtain rfl:=hx _ rfl
                  exact W.weak ⟨[],[]⟩ (show AT _ ⟨[],[]⟩ [(4,.int .i64 v257)] [] _ _ from RO) (W.ret (show _ ∧ _ from ⟨rfl,rfl,rfl⟩))
                · replace hm:=of_false hb259 hm
                  refine W.skip ?_
                  refine W.rg [] [(2,.ptr 0 0 0),(3,.ptr 1 0 0),(5,.msl 3 w236 0 1 er237.length er237.length),(6,.int .i64 (IntKind.wrap .i64 (i125+1)))] [.cells (e_api_Prog p0) 0 28,.cells (e_api_Thread p1) 0 49,.dead,.rows (er237.map eStr) 1 w236 9] ?_
                  obtain rfl:=Option.some.inj hm
                  exact ⟨((IntKind.wrap .i64 (i125+1)),er237),w236,⟨[],[]⟩,rfl,RO⟩
          · obtain ⟨rfl,rfl,rfl⟩:=hq
            replace hm:=of_inr hm
            obtain rfl:=Option.some.inj hm
            obtain rfl:=hx _ rfl
            first | exact (show _ ∧ _ from ⟨rfl,rfl,rfl⟩) | exact ⟨trivial,rfl,rfl⟩
      · replace hm:=of_false hb188 hm
        obtain rfl:=Option.some.inj hm
        obtain rfl:=hx _ rfl
        exact W.weak ⟨[],[]⟩ (show AT _ ⟨[],[]⟩ [(3,.ptr 1 0 0)] [.dead,.cells (e_api_Thread p1) 0 49] _ _ from RO) (W.exit (show _ ∧ _ from ⟨rfl,(),rfl,rfl⟩))
    · intro e0 s0 h0 hq
      rcases r187 with er187 | qr187
      · obtain ⟨rfl,_,rfl,rfl⟩:=hq
        replace hm:=of_inl hm
        show WK _ _ _ _ _ [(3,.ptr 1 0 0)] [.dead,.cells (e_api_Thread p1) 0 49]
        refine W.seq ?_
        refine W.sq [] [(3,.ptr 1 0 0),(81,.bool ((p1.Ins.length:Int)==0))] [.dead,.cells (e_api_Thread p1) 0 49] ?_
        refine W.cnd ((p1.Ins.length:Int)==0) (fun hb260=>?_) (fun hb260=>?_)
        · replace hm:=of_true hb260 hm
          refine W.sq [] [(4,.int .i64 9)] [] ?_
          obtain rfl:=Option.some.inj hm
          exact W.ret (EndsF.retW [] RO)
        · replace hm:=of_false hb260 hm
          refine W.skip ?_
          refine W.seq ?_
          replace hm:=of_ite hm
          obtain ⟨h261,hm⟩:=hm
          replace hm:=of_let hm
          obtain ⟨n262,h263,hm⟩:=hm
          refine W.sq [] [(3,.ptr 1 0 0),(12,.int .i64 n262)] [.dead,.cells (e_api_Thread p1) 0 49] ?_
          clear h263
          refine W.sq [] [(3,.ptr 1 0 0),(96,.bool ((n262 != 10)&&(n262 != 14)))] [.dead,.cells (e_api_Thread p1) 0 49] ?_
          refine W.cnd ((n262 != 10)&&(n262 != 14)) (fun hb264=>?_) (fun hb264=>?_)
          · replace hm:=of_true hb264 hm
            refine W.sq [] [(4,.int .i64 9)] [] ?_
            obtain rfl:=Option.some.inj hm
            exact W.ret (EndsF.retW [] RO)
          · replace hm:=of_false hb264 hm
            refine W.skip ?_
            refine W.seq ?_
            refine W.sq [] [(3,.ptr 1 0 0),(13,.int .i64 0)] [.dead,.cells (e_api_Thread p1) 0 49] ?_
            refine W.block ?_
            replace hm:=of_bind hm
            obtain ⟨r291,hlr291,hm⟩:=hm
            refine W.mono (Q:=fun e0 s0 h0=>match r291 with | .inl e=>e0=.exit 4 ∧ ∃w:Unit,s0=[] ∧ h0=[] | .inr q=>e0=.ret ∧ s0=[(4,.int .i64 q)] ∧ h0=[]) (W.loopM (step:=palingref1_thread_s3 p1) (a0:=0) (fun (a:Int) (v:Unit)=>([(3,.ptr 1 0 0),(13,.int .i64 a)],[.dead,.cells (e_api_Thread p1) 0 49])) () hlr291 ⟨[],[]⟩ RO ?_) ?_
            · rintro i282 _ x hm hx
              rw [palingref1_thread_s3] at hm
              show WK _ _ _ _ _ [(3,.ptr 1 0 0),(13,.int .i64 i282)] [.dead,.cells (e_api_Thread p1) 0 49]
              refine W.seq ?_
              refine W.sq [] [(3,.ptr 1 0 0),(13,.int .i64 i282),(101,.bool (decide (i282<(p1.Ins.length:Int))))] [.dead,.cells (e_api_Thread p1) 0 49] ?_
              refine W.cnd (decide (i282<(p1.Ins.length:Int))) (fun hb292=>?_) (fun hb292=>?_)
              · replace hm:=of_true hb292 hm
                refine W.skip ?_
                refine W.seq ?_
                refine W.block ?_
                replace hm:=of_ite hm
                obtain ⟨h293,hm⟩:=hm
                replace hm:=of_bind hm
                obtain ⟨v294,h295,hm⟩:=hm
                replace hm:=of_ite hm
                obtain ⟨h296,hm⟩:=hm
                replace hm:=of_bind hm
                obtain ⟨v297,h298,hm⟩:=hm
                have kh295:=palingref1_Jumps_ok h295
                try simp only [hb3,hb260,hb264,hb292] at kh295
                have kh298:=fun hg=>palingref1_Find_ok (of_true hg h298)
                try simp only [hb3,hb260,hb264,hb292] at kh298
                refine W.sqJ [] [] [] 0 [] [(3,.ptr 1 0 0),(13,.int .i64 i282),(121,.bool (v294&&decide (v297<0)))] [.dead,.cells (e_api_Thread p1) 0 49] v_mixed ?_ (hd:=drawOk_of [[],[0],[],[0,1,2],[0,1,2,3],[0,1,2,3,4],[0,1,2,3,4,5],[0,1,2,3,4,5,6],[0,1,2,3,4,5,6,7],[0,1,2,3,4,5,6,7],[0,1,2,3,4,5,6,7,9],[0,1,2,3,4,5,6,7],[0,1,2,3,4,5,6,7,9,10,11],[0,1,2,3,4,5,6,7,9,10,11,12],[0,1,2,3,4,5,6,7,9,10,11,12,13],[0,1,2,3,4,5,6,7,8,9,10,11,12,13,14],[0,1,2,3,4,5,6,7,8,9,10,11,12,13,14,15],[0,1,2,3,4,5,6,7,8,9,10,11,12,13,14,15,16]] (by kernel_rfl) (by kernel_rfl) (by kernel_rfl))
                refine W.cnd (v294&&decide (v297<0)) (fun hb299=>?_) (fun hb299=>?_)
                · replace hm:=of_true hb299 hm
                  refine W.sq [] [(4,.int .i64 7)] [] ?_
                  obtain rfl:=Option.some.inj hm
                  obtain rfl:=hx _ rfl
                  exact W.weak ⟨[],[]⟩ (show AT _ ⟨[],[]⟩ [(4,.int .i64 7)] [] _ _ from RO) (W.ret (show _ ∧ _ from ⟨rfl,rfl,rfl⟩))
                · replace hm:=of_false hb299 hm
                  refine W.skip ?_
                  refine W.rg [] [(3,.ptr 1 0 0),(13,.int .i64 (IntKind.wrap .i64 (i282+1)))] [.dead,.cells (e_api_Thread p1) 0 49] ?_
                  obtain rfl:=Option.some.inj hm
                  exact ⟨(IntKind.wrap .i64 (i282+1)),(),⟨[],[]⟩,rfl,RO⟩
              · replace hm:=of_false hb292 hm
                obtain rfl:=Option.some.inj hm
                obtain rfl:=hx _ rfl
                exact W.weak ⟨[],[]⟩ (show AT _ ⟨[],[]⟩ [] [] _ _ from RO) (W.exit (show _ ∧ _ from ⟨rfl,(),rfl,rfl⟩))
            · intro e0 s0 h0 hq
              rcases r291 with er291 | qr291
              · obtain ⟨rfl,_,rfl,rfl⟩:=hq
                replace hm:=of_inl hm
                show WK _ _ _ _ _ [] []
                refine W.sq [] [(4,.int .i64 0)] [] ?_
                obtain rfl:=Option.some.inj hm
                exact W.ret (EndsF.retW [] RO)
              · obtain ⟨rfl,rfl,rfl⟩:=hq
                replace hm:=of_inr hm
                obtain rfl:=Option.some.inj hm
                exact EndsF.retW [] RO
      · obtain ⟨rfl,rfl,rfl⟩:=hq
        replace hm:=of_inr hm
        obtain rfl:=Option.some.inj hm
        exact EndsF.retW [] RO

theorem palingref1_Check_ok{p0:T_api_Prog}{r:Int}(hm:palingref1_Check p0=some r):PureF Tryd.prog 11 [.agg [.sl (p0.Syms.map e_api_Sym),.sl (p0.Threads.map e_api_Thread)]] (.int .i64 r):=by
  rw [palingref1_Check] at hm
  refine PureF.of Tryd.func11 rfl Tryd.ntmps11 (Nat.le_of_ble_eq_true rfl) ?_
  have e0:argS 0 [.agg [.sl (p0.Syms.map e_api_Sym),.sl (p0.Threads.map e_api_Thread)]]=[(0,.agg [.sl (p0.Syms.map e_api_Sym),.sl (p0.Threads.map e_api_Thread)])]:=rfl
  rw [e0]
  refine W.sq [] [(1,.ptr 0 0 0)] [.cells (e_api_Prog p0) 0 28] ?_
  refine W.seq ?_
  refine W.sq [] [(1,.ptr 0 0 0),(17,.bool (decide ((p0.Syms.length:Int)>64)||decide ((p0.Threads.length:Int)>64)))] [.cells (e_api_Prog p0) 0 28] ?_
  refine W.cnd (decide ((p0.Syms.length:Int)>64)||decide ((p0.Threads.length:Int)>64)) (fun hb1=>?_) (fun hb1=>?_)
  · replace hm:=of_true hb1 hm
    refine W.sq [] [(2,.int .i64 10)] [] ?_
    obtain rfl:=Option.some.inj hm
    exact W.ret (EndsF.retW [] RO)
  · replace hm:=of_false hb1 hm
    refine W.skip ?_
    refine W.seq ?_
    refine W.sq [] [(1,.ptr 0 0 0),(3,.int .i64 0)] [.cells (e_api_Prog p0) 0 28] ?_
    refine W.block ?_
    replace hm:=of_bind hm
    obtain ⟨r54,hlr54,hm⟩:=hm
    refine W.mono (Q:=fun e0 s0 h0=>match r54 with | .inl e=>e0=.exit 0 ∧ ∃w:Unit,s0=[(1,.ptr 0 0 0)] ∧ h0=[.cells (e_api_Prog p0) 0 28] | .inr q=>e0=.ret ∧ s0=[(2,.int .i64 q)] ∧ h0=[]) (W.loopM (step:=palingref1_Check_s1 p0) (a0:=0) (fun (a:Int) (v:Unit)=>([(1,.ptr 0 0 0),(3,.int .i64 a)],[.cells (e_api_Prog p0) 0 28])) () hlr54 ⟨[],[]⟩ RO ?_) ?_
    · rintro i33 _ x hm hx
      rw [palingref1_Check_s1] at hm
      show WK _ _ _ _ _ [(1,.ptr 0 0 0),(3,.int .i64 i33)] [.cells (e_api_Prog p0) 0 28]
      refine W.seq ?_
      refine W.sq [] [(1,.ptr 0 0 0),(3,.int .i64 i33),(22,.bool (decide (i33<(p0.Syms.length:Int))))] [.cells (e_api_Prog p0) 0 28] ?_
      refine W.cnd (decide (i33<(p0.Syms.length:Int))) (fun hb55=>?_) (fun hb55=>?_)
      · replace hm:=of_true hb55 hm
        refine W.skip ?_
        refine W.seq ?_
        refine W.block ?_
        replace hm:=of_ite hm
        obtain ⟨h56,hm⟩:=hm
        refine W.sq [] [(1,.ptr 0 0 0),(3,.int .i64 i33),(4,.ptr 1 0 0)] [.cells (e_api_Prog p0) 0 28,.cells (e_api_Sym (rd p0.Syms i33)) 0 43] ?_
        refine W.seq ?_
        replace hm:=of_bind hm
        obtain ⟨v57,h58,hm⟩:=hm
        have kh58:=palingref1_Right_ok h58
        try simp only [hb1,hb55] at kh58
        refine W.sq [] [(1,.ptr 0 0 0),(3,.int .i64 i33),(4,.ptr 1 0 0),(33,.bool (!v57))] [.cells (e_api_Prog p0) 0 28,.cells (e_api_Sym (rd p0.Syms i33)) 0 43] ?_
        refine W.cnd (!v57) (fun hb59=>?_) (fun hb59=>?_)
        · replace hm:=of_true hb59 hm
          refine W.sq [] [(2,.int .i64 3)] [] ?_
          obtain rfl:=Option.some.inj hm
          obtain rfl:=hx _ rfl
          exact W.weak ⟨[],[]⟩ (show AT _ ⟨[],[]⟩ [(2,.int .i64 3)] [] _ _ from RO) (W.ret (show _ ∧ _ from ⟨rfl,rfl,rfl⟩))
        · replace hm:=of_false hb59 hm
          refine W.skip ?_
          refine W.seq ?_
          refine W.sq [] [(1,.ptr 0 0 0),(3,.int .i64 i33),(4,.ptr 1 0 0),(5,.int .i64 0)] [.cells (e_api_Prog p0) 0 28,.cells (e_api_Sym (rd p0.Syms i33)) 0 43] ?_
          refine W.block ?_
          replace hm:=of_bind hm
          obtain ⟨r71,hlr71,hm⟩:=hm
          refine W.mono (Q:=fun e0 s0 h0=>match r71 with | .inl e=>e0=.exit 2 ∧ ∃w:Unit,s0=[(1,.ptr 0 0 0),(3,.int .i64 i33),(4,.ptr 1 0 0)] ∧ h0=[.cells (e_api_Prog p0) 0 28,.cells (e_api_Sym (rd p0.Syms i33)) 0 43] | .inr q=>e0=.ret ∧ s0=[(2,.int .i64 q)] ∧ h0=[]) (W.loopM (step:=palingref1_Check_s2 i33 p0) (a0:=0) (fun (a:Int) (v:Unit)=>([(1,.ptr 0 0 0),(3,.int .i64 i33),(4,.ptr 1 0 0),(5,.int .i64 a)],[.cells (e_api_Prog p0) 0 28,.cells (e_api_Sym (rd p0.Syms i33)) 0 43])) () hlr71 ⟨[],[]⟩ RO ?_) ?_
          · rintro i67 _ x hm hx
            rw [palingref1_Check_s2] at hm
            show WK _ _ _ _ _ [(1,.ptr 0 0 0),(3,.int .i64 i33),(4,.ptr 1 0 0),(5,.int .i64 i67)] [.cells (e_api_Prog p0) 0 28,.cells (e_api_Sym (rd p0.Syms i33)) 0 43]
            refine W.seq ?_
            refine W.sq [] [(1,.ptr 0 0 0),(3,.int .i64 i33),(4,.ptr 1 0 0),(5,.int .i64 i67),(36,.bool (decide (i67<i33)))] [.cells (e_api_Prog p0) 0 28,.cells (e_api_Sym (rd p0.Syms i33)) 0 43] ?_
            refine W.cnd (decide (i67<i33)) (fun hb72=>?_) (fun hb72=>?_)
            · replace hm:=of_true hb72 hm
              refine W.skip ?_
              refine W.seq ?_
              refine W.block ?_
              replace hm:=of_ite hm
              obtain ⟨h73,hm⟩:=hm
              refine W.sqJ [] [] [] 0 [] [(1,.ptr 0 0 0),(3,.int .i64 i33),(4,.ptr 1 0 0),(5,.int .i64 i67),(47,.bool (decide ((rd p0.Syms i67).Name=(rd p0.Syms i33).Name)))] [.cells (e_api_Prog p0) 0 28,.cells (e_api_Sym (rd p0.Syms i33)) 0 43] v_mixed ?_
              refine W.cnd (decide ((rd p0.Syms i67).Name=(rd p0.Syms i33).Name)) (fun hb74=>?_) (fun hb74=>?_)
              · replace hm:=of_true hb74 hm
                refine W.sq [] [(2,.int .i64 6)] [] ?_
                obtain rfl:=Option.some.inj hm
                obtain rfl:=hx _ rfl
                exact W.weak ⟨[],[]⟩ (show AT _ ⟨[],[]⟩ [(2,.int .i64 6)] [] _ _ from RO) (W.ret (show _ ∧ _ from ⟨rfl,rfl,rfl⟩))
              · replace hm:=of_false hb74 hm
                refine W.skip ?_
                refine W.rg [] [(1,.ptr 0 0 0),(3,.int .i64 i33),(4,.ptr 1 0 0),(5,.int .i64 (IntKind.wrap .i64 (i67+1)))] [.cells (e_api_Prog p0) 0 28,.cells (e_api_Sym (rd p0.Syms i33)) 0 43] ?_
                obtain rfl:=Option.some.inj hm
                exact ⟨(IntKind.wrap .i64 (i67+1)),(),⟨[],[]⟩,rfl,RO⟩
            · replace hm:=of_false hb72 hm
              obtain rfl:=Option.some.inj hm
              obtain rfl:=hx _ rfl
              exact W.weak ⟨[],[]⟩ (show AT _ ⟨[],[]⟩ [(1,.ptr 0 0 0),(3,.int .i64 i33),(4,.ptr 1 0 0)] [.cells (e_api_Prog p0) 0 28,.cells (e_api_Sym (rd p0.Syms i33)) 0 43] _ _ from RO) (W.exit (show _ ∧ _ from ⟨rfl,(),rfl,rfl⟩))
          · intro e0 s0 h0 hq
            rcases r71 with er71 | qr71
            · obtain ⟨rfl,_,rfl,rfl⟩:=hq
              replace hm:=of_inl hm
              show WK _ _ _ _ _ [(1,.ptr 0 0 0),(3,.int .i64 i33),(4,.ptr 1 0 0)] [.cells (e_api_Prog p0) 0 28,.cells (e_api_Sym (rd p0.Syms i33)) 0 43]
              replace hm:=of_let hm
              obtain ⟨b75,h76,hm⟩:=hm
              refine W.sq [] [(1,.ptr 0 0 0),(3,.int .i64 i33),(63,.bool b75)] [.cells (e_api_Prog p0) 0 28] ?_
              clear h76
              refine W.cnd b75 (fun hb77=>?_) (fun hb77=>?_)
              · replace hm:=of_true hb77 hm
                refine W.sq [] [(2,.int .i64 5)] [] ?_
                obtain rfl:=Option.some.inj hm
                obtain rfl:=hx _ rfl
                exact W.weak ⟨[],[]⟩ (show AT _ ⟨[],[]⟩ [(2,.int .i64 5)] [] _ _ from RO) (W.ret (show _ ∧ _ from ⟨rfl,rfl,rfl⟩))
              · replace hm:=of_false hb77 hm
                refine W.skip ?_
                refine W.rg [] [(1,.ptr 0 0 0),(3,.int .i64 (IntKind.wrap .i64 (i33+1)))] [.cells (e_api_Prog p0) 0 28] ?_
                obtain rfl:=Option.some.inj hm
                exact ⟨(IntKind.wrap .i64 (i33+1)),(),⟨[],[]⟩,rfl,RO⟩
            · obtain ⟨rfl,rfl,rfl⟩:=hq
              replace hm:=of_inr hm
              obtain rfl:=Option.some.inj hm
              obtain rfl:=hx _ rfl
              first | exact (show _ ∧ _ from ⟨rfl,rfl,rfl⟩) | exact ⟨trivial,rfl,rfl⟩
      · replace hm:=of_false hb55 hm
        obtain rfl:=Option.some.inj hm
        obtain rfl:=hx _ rfl
        exact W.weak ⟨[],[]⟩ (show AT _ ⟨[],[]⟩ [(1,.ptr 0 0 0)] [.cells (e_api_Prog p0) 0 28] _ _ from RO) (W.exit (show _ ∧ _ from ⟨rfl,(),rfl,rfl⟩))
    · intro e0 s0 h0 hq
      rcases r54 with er54 | qr54
      · obtain ⟨rfl,_,rfl,rfl⟩:=hq
        replace hm:=of_inl hm
        show WK _ _ _ _ _ [(1,.ptr 0 0 0)] [.cells (e_api_Prog p0) 0 28]
        refine W.seq ?_
        refine W.sq [] [(1,.ptr 0 0 0),(6,.int .i64 0)] [.cells (e_api_Prog p0) 0 28] ?_
        refine W.block ?_
        replace hm:=of_bind hm
        obtain ⟨r95,hlr95,hm⟩:=hm
        refine W.mono (Q:=fun e0 s0 h0=>match r95 with | .inl e=>e0=.exit 4 ∧ ∃w:Unit,s0=[] ∧ h0=[] | .inr q=>e0=.ret ∧ s0=[(2,.int .i64 q)] ∧ h0=[]) (W.loopM (step:=palingref1_Check_s3 p0) (a0:=0) (fun (a:Int) (v:Unit)=>([(1,.ptr 0 0 0),(6,.int .i64 a)],[.cells (e_api_Prog p0) 0 28])) () hlr95 ⟨[],[]⟩ RO ?_) ?_
        · rintro i89 _ x hm hx
          rw [palingref1_Check_s3] at hm
          show WK _ _ _ _ _ [(1,.ptr 0 0 0),(6,.int .i64 i89)] [.cells (e_api_Prog p0) 0 28]
          refine W.seq ?_
          refine W.sq [] [(1,.ptr 0 0 0),(6,.int .i64 i89),(68,.bool (decide (i89<(p0.Threads.length:Int))))] [.cells (e_api_Prog p0) 0 28] ?_
          refine W.cnd (decide (i89<(p0.Threads.length:Int))) (fun hb96=>?_) (fun hb96=>?_)
          · replace hm:=of_true hb96 hm
            refine W.skip ?_
            refine W.seq ?_
            refine W.block ?_
            replace hm:=of_ite hm
            obtain ⟨h97,hm⟩:=hm
            replace hm:=of_bind hm
            obtain ⟨v98,h99,hm⟩:=hm
            have kh99:=palingref1_thread_ok h99
            try simp only [hb1,hb96] at kh99
            refine W.sqJ [] [] [] 0 [] [(1,.ptr 0 0 0),(6,.int .i64 i89),(7,.int .i64 v98)] [.cells (e_api_Prog p0) 0 28] v_mixed ?_
            refine W.sq [] [(1,.ptr 0 0 0),(6,.int .i64 i89),(7,.int .i64 v98),(79,.bool (v98 != 0))] [.cells (e_api_Prog p0) 0 28] ?_
            refine W.cnd (v98 != 0) (fun hb100=>?_) (fun hb100=>?_)
            · replace hm:=of_true hb100 hm
              refine W.sq [] [(2,.int .i64 v98)] [] ?_
              obtain rfl:=Option.some.inj hm
              obtain rfl:=hx _ rfl
              exact W.weak ⟨[],[]⟩ (show AT _ ⟨[],[]⟩ [(2,.int .i64 v98)] [] _ _ from RO) (W.ret (show _ ∧ _ from ⟨rfl,rfl,rfl⟩))
            · replace hm:=of_false hb100 hm
              refine W.skip ?_
              refine W.rg [] [(1,.ptr 0 0 0),(6,.int .i64 (IntKind.wrap .i64 (i89+1)))] [.cells (e_api_Prog p0) 0 28] ?_
              obtain rfl:=Option.some.inj hm
              exact ⟨(IntKind.wrap .i64 (i89+1)),(),⟨[],[]⟩,rfl,RO⟩
          · replace hm:=of_false hb96 hm
            obtain rfl:=Option.some.inj hm
            obtain rfl:=hx _ rfl
            exact W.weak ⟨[],[]⟩ (show AT _ ⟨[],[]⟩ [] [] _ _ from RO) (W.exit (show _ ∧ _ from ⟨rfl,(),rfl,rfl⟩))
        · intro e0 s0 h0 hq
          rcases r95 with er95 | qr95
          · obtain ⟨rfl,_,rfl,rfl⟩:=hq
            replace hm:=of_inl hm
            show WK _ _ _ _ _ [] []
            refine W.sq [] [(2,.int .i64 0)] [] ?_
            obtain rfl:=Option.some.inj hm
            exact W.ret (EndsF.retW [] RO)
          · obtain ⟨rfl,rfl,rfl⟩:=hq
            replace hm:=of_inr hm
            obtain rfl:=Option.some.inj hm
            exact EndsF.retW [] RO
      · obtain ⟨rfl,rfl,rfl⟩:=hq
        replace hm:=of_inr hm
        obtain rfl:=Option.some.inj hm
        exact EndsF.retW [] RO

theorem palingref1_SymNames_ok{p0:T_api_Prog}{r:(List ByteArray)}(hm:palingref1_SymNames p0=some r):PureF Tryd.prog 13 [.agg [.sl (p0.Syms.map e_api_Sym),.sl (p0.Threads.map e_api_Thread)]] (.sl (r.map eStr)):=by
  rw [palingref1_SymNames] at hm
  refine PureF.of Tryd.func13 rfl Tryd.ntmps13 (Nat.le_of_ble_eq_true rfl) ?_
  have e0:argS 0 [.agg [.sl (p0.Syms.map e_api_Sym),.sl (p0.Threads.map e_api_Thread)]]=[(0,.agg [.sl (p0.Syms.map e_api_Sym),.sl (p0.Threads.map e_api_Thread)])]:=rfl
  rw [e0]
  refine W.sq [] [(1,.ptr 0 0 0)] [.cells (e_api_Prog p0) 0 28] ?_
  refine W.sq [] [(1,.ptr 0 0 0),(3,.nils)] [.cells (e_api_Prog p0) 0 28] ?_
  refine W.seq ?_
  refine W.sq [] [(1,.ptr 0 0 0),(3,.nils),(4,.int .i64 0)] [.cells (e_api_Prog p0) 0 28] ?_
  refine W.block ?_
  replace hm:=of_bind hm
  obtain ⟨r24,hlr24,hm⟩:=hm
  refine W.mono (Q:=fun e0 s0 h0=>e0=.exit 0 ∧ ∃w:Nat,s0=[(3,.msl 1 w 0 1 r24.length r24.length)] ∧ h0=[.dead,.rows (r24.map eStr) 1 w 9]) (W.loopM (step:=palingref1_SymNames_s1 p0) (a0:=(0,[])) (fun (a:Int × (List ByteArray)) (v:Nat)=>([(1,.ptr 0 0 0),(3,.msl 1 v 0 1 a.2.length a.2.length),(4,.int .i64 a.1)],[.cells (e_api_Prog p0) 0 28,.rows (a.2.map eStr) 1 v 9])) 0 hlr24 ⟨[],[]⟩ RO ?_) ?_
  · rintro ⟨i14,l15⟩ w16 x hm hx
    rw [palingref1_SymNames_s1] at hm
    show WK _ _ _ _ _ [(1,.ptr 0 0 0),(3,.msl 1 w16 0 1 l15.length l15.length),(4,.int .i64 i14)] [.cells (e_api_Prog p0) 0 28,.rows (l15.map eStr) 1 w16 9]
    refine W.seq ?_
    refine W.sq [] [(1,.ptr 0 0 0),(3,.msl 1 w16 0 1 l15.length l15.length),(4,.int .i64 i14),(9,.bool (decide (i14<(p0.Syms.length:Int))))] [.cells (e_api_Prog p0) 0 28,.rows (l15.map eStr) 1 w16 9] ?_
    refine W.cnd (decide (i14<(p0.Syms.length:Int))) (fun hb25=>?_) (fun hb25=>?_)
    · replace hm:=of_true hb25 hm
      refine W.skip ?_
      refine W.seq ?_
      refine W.block ?_
      replace hm:=of_ite hm
      obtain ⟨h26,hm⟩:=hm
      replace hm:=of_ite hm
      obtain ⟨h27,hm⟩:=hm
      replace hm:=of_let hm
      obtain ⟨l28,h29,hm⟩:=hm
      refine W.rg [] [(1,.ptr 0 0 0),(3,.msl 1 (w16+1) 0 1 l28.length l28.length),(4,.int .i64 i14)] [.cells (e_api_Prog p0) 0 28,.rows (l28.map eStr) 1 (w16+1) 9] ?_
      clear h29
      refine W.rg [] [(1,.ptr 0 0 0),(3,.msl 1 (w16+1) 0 1 l28.length l28.length),(4,.int .i64 (IntKind.wrap .i64 (i14+1)))] [.cells (e_api_Prog p0) 0 28,.rows (l28.map eStr) 1 (w16+1) 9] ?_
      obtain rfl:=Option.some.inj hm
      exact ⟨((IntKind.wrap .i64 (i14+1)),l28),(w16+1),⟨[],[]⟩,rfl,RO⟩
    · replace hm:=of_false hb25 hm
      obtain rfl:=Option.some.inj hm
      obtain rfl:=hx _ rfl
      exact W.weak ⟨[],[]⟩ (show AT _ ⟨[],[]⟩ [(3,.msl 1 w16 0 1 l15.length l15.length)] [.dead,.rows (l15.map eStr) 1 w16 9] _ _ from RO) (W.exit (show _ ∧ _ from ⟨rfl,w16,rfl,rfl⟩))
  · rintro e0 s0 h0 ⟨rfl,w23,rfl,rfl⟩
    show WK _ _ _ _ _ [(3,.msl 1 w23 0 1 r24.length r24.length)] [.dead,.rows (r24.map eStr) 1 w23 9]
    refine W.sq [] [(2,.msl 1 w23 0 1 r24.length r24.length)] [.dead,.rows (r24.map eStr) 1 w23 9] ?_
    obtain rfl:=Option.some.inj hm
    exact W.ret (EndsF.retW [1] RO)

theorem palingref1_OpText_ok{p0:Int}{p1:Int}{r:ByteArray}(hm:palingref1_OpText p0 p1=some r):PureF Tryd.prog 32 [.int .i64 p0,.int .i64 p1] (.str r):=by
  rw [palingref1_OpText] at hm
  refine PureF.of Tryd.func32 rfl Tryd.ntmps32 (Nat.le_of_ble_eq_true rfl) ?_
  have e0:argS 0 [.int .i64 p0,.int .i64 p1]=[(0,.int .i64 p0),(1,.int .i64 p1)]:=rfl
  rw [e0]
  refine W.sq [] [(0,.int .i64 p0),(1,.int .i64 p1)] [] ?_
  refine W.seq ?_
  refine W.block ?_
  refine W.sq [] [(0,.int .i64 p0),(1,.int .i64 p1),(5,.bool (((p0==11)&&decide (p1≥1))&&decide (p1 ≤ 10)))] [] ?_
  refine W.cnd (((p0==11)&&decide (p1≥1))&&decide (p1 ≤ 10)) (fun hb1=>?_) (fun hb1=>?_)
  · replace hm:=of_true hb1 hm
    replace hm:=of_bind hm
    obtain ⟨v2,h3,hm⟩:=hm
    replace hm:=of_ite hm
    obtain ⟨h4,hm⟩:=hm
    have kh3:=palingref1_conds_ok h3
    try simp only [hb1] at kh3
    refine W.sq [] [(4,.str (rd v2 p1))] [] ?_
    obtain rfl:=Option.some.inj hm
    exact W.ret (EndsF.retW [] RO)
  · replace hm:=of_false hb1 hm
    refine W.sq [] [(0,.int .i64 p0),(20,.bool ((decide (p0≥1)&&decide (p0 ≤ 14))&&(p1==0)))] [] ?_
    refine W.cnd ((decide (p0≥1)&&decide (p0 ≤ 14))&&(p1==0)) (fun hb5=>?_) (fun hb5=>?_)
    · replace hm:=of_true hb5 hm
      replace hm:=of_bind hm
      obtain ⟨v6,h7,hm⟩:=hm
      replace hm:=of_ite hm
      obtain ⟨h8,hm⟩:=hm
      have kh7:=palingref1_ops_ok h7
      try simp only [hb1,hb5] at kh7
      refine W.sq [] [(4,.str (rd v6 p0))] [] ?_
      obtain rfl:=Option.some.inj hm
      exact W.ret (EndsF.retW [] RO)
    · replace hm:=of_false hb5 hm
      refine W.skip ?_
      refine W.sq [] [(4,.str (⟨#[]⟩:ByteArray))] [] ?_
      obtain rfl:=Option.some.inj hm
      exact W.ret (EndsF.retW [] RO)

theorem palingref1_RegText_ok{p0:Int}{r:ByteArray}(hm:palingref1_RegText p0=some r):PureF Tryd.prog 54 [.int .i64 p0] (.str r):=by
  rw [palingref1_RegText] at hm
  refine PureF.of Tryd.func54 rfl Tryd.ntmps54 (Nat.le_of_ble_eq_true rfl) ?_
  have e0:argS 0 [.int .i64 p0]=[(0,.int .i64 p0)]:=rfl
  rw [e0]
  refine W.sq [] [(0,.int .i64 p0)] [] ?_
  refine W.seq ?_
  refine W.sq [] [(0,.int .i64 p0),(8,.bool (decide (p0<0)||decide (p0>7)))] [] ?_
  refine W.cnd (decide (p0<0)||decide (p0>7)) (fun hb1=>?_) (fun hb1=>?_)
  · replace hm:=of_true hb1 hm
    refine W.sq [] [(2,.str (⟨#[]⟩:ByteArray))] [] ?_
    obtain rfl:=Option.some.inj hm
    exact W.ret (EndsF.retW [] RO)
  · replace hm:=of_false hb1 hm
    refine W.skip ?_
    replace hm:=of_bind hm
    obtain ⟨v2,h3,hm⟩:=hm
    replace hm:=of_ite hm
    obtain ⟨h4,hm⟩:=hm
    have kh3:=palingref1_Regs_ok h3
    try simp only [hb1] at kh3
    refine W.sq [] [(2,.str (rd v2 p0))] [] ?_
    obtain rfl:=Option.some.inj hm
    exact W.ret (EndsF.retW [] RO)

theorem palingref1_OpdText_ok{p0:T_api_Opd}{p1:(List ByteArray)}{r:ByteArray}(hm:palingref1_OpdText p0 p1=some r):PureF Tryd.prog 35 [.agg [.int .i64 p0.Kind,.int .i64 p0.Reg,.int .i64 p0.Sym,.int .i64 p0.N],.sl (p1.map eStr)] (.str r):=by
  rw [palingref1_OpdText] at hm
  refine PureF.of Tryd.func35 rfl Tryd.ntmps35 (Nat.le_of_ble_eq_true rfl) ?_
  have e0:argS 0 [.agg [.int .i64 p0.Kind,.int .i64 p0.Reg,.int .i64 p0.Sym,.int .i64 p0.N],.sl (p1.map eStr)]=[(0,.agg [.int .i64 p0.Kind,.int .i64 p0.Reg,.int .i64 p0.Sym,.int .i64 p0.N]),(1,.sl (p1.map eStr))]:=rfl
  rw [e0]
  refine W.sq [] [(1,.sl (p1.map eStr)),(2,.ptr 0 0 0)] [.cells (e_api_Opd p0) 0 51] ?_
  refine W.seq ?_
  replace hm:=of_bind hm
  obtain ⟨v1,h2,hm⟩:=hm
  have kh2:=palingref1_OpdRight_ok h2
  refine W.sq [] [(1,.sl (p1.map eStr)),(2,.ptr 0 0 0),(7,.bool (!v1))] [.cells (e_api_Opd p0) 0 51] ?_
  refine W.cnd (!v1) (fun hb3=>?_) (fun hb3=>?_)
  · replace hm:=of_true hb3 hm
    refine W.sq [] [(4,.str (⟨#[]⟩:ByteArray))] [] ?_
    obtain rfl:=Option.some.inj hm
    exact W.ret (EndsF.retW [] RO)
  · replace hm:=of_false hb3 hm
    refine W.skip ?_
    refine W.seq ?_
    refine W.sq [] [(1,.sl (p1.map eStr)),(2,.ptr 0 0 0),(9,.int .i64 p0.Kind)] [.cells (e_api_Opd p0) 0 51] ?_
    refine W.block ?_
    refine W.sq [] [(1,.sl (p1.map eStr)),(2,.ptr 0 0 0),(9,.int .i64 p0.Kind),(10,.bool (p0.Kind==1))] [.cells (e_api_Opd p0) 0 51] ?_
    refine W.cnd (p0.Kind==1) (fun hb4=>?_) (fun hb4=>?_)
    · replace hm:=of_true hb4 hm
      replace hm:=of_bind hm
      obtain ⟨v5,h6,hm⟩:=hm
      have kh6:=palingref1_RegText_ok h6
      try simp only [hb3,hb4] at kh6
      refine W.sq [] [(4,.str v5)] [] ?_
      obtain rfl:=Option.some.inj hm
      exact W.ret (EndsF.retW [] RO)
    · replace hm:=of_false hb4 hm
      refine W.sq [] [(1,.sl (p1.map eStr)),(2,.ptr 0 0 0),(15,.bool (p0.Kind==2))] [.cells (e_api_Opd p0) 0 51] ?_
      refine W.cnd (p0.Kind==2) (fun hb7=>?_) (fun hb7=>?_)
      · replace hm:=of_true hb7 hm
        replace hm:=of_bind hm
        obtain ⟨v8,h9,hm⟩:=hm
        have kh9:=palingref1_Text_ok h9
        try simp only [hb3,hb4,hb7] at kh9
        refine W.sq [] [(4,.str v8)] [] ?_
        obtain rfl:=Option.some.inj hm
        exact W.ret (EndsF.retW [] RO)
      · replace hm:=of_false hb7 hm
        refine W.skip ?_
        refine W.seq ?_
        refine W.sq [] [(1,.sl (p1.map eStr)),(2,.ptr 0 0 0),(24,.bool (decide (p0.Sym≥(p1.length:Int))))] [.cells (e_api_Opd p0) 0 51] ?_
        refine W.cnd (decide (p0.Sym≥(p1.length:Int))) (fun hb10=>?_) (fun hb10=>?_)
        · replace hm:=of_true hb10 hm
          refine W.sq [] [(4,.str (⟨#[]⟩:ByteArray))] [] ?_
          obtain rfl:=Option.some.inj hm
          exact W.ret (EndsF.retW [] RO)
        · replace hm:=of_false hb10 hm
          refine W.skip ?_
          refine W.seq ?_
          refine W.sq [] [(1,.sl (p1.map eStr)),(2,.ptr 0 0 0),(27,.bool (p0.Kind==3))] [.cells (e_api_Opd p0) 0 51] ?_
          refine W.cnd (p0.Kind==3) (fun hb11=>?_) (fun hb11=>?_)
          · replace hm:=of_true hb11 hm
            replace hm:=of_ite hm
            obtain ⟨h12,hm⟩:=hm
            replace hm:=of_ite hm
            obtain ⟨h13,hm⟩:=hm
            replace hm:=of_bind hm
            obtain ⟨v14,h15,hm⟩:=hm
            replace hm:=of_ite hm
            obtain ⟨h16,hm⟩:=hm
            replace hm:=of_ite hm
            obtain ⟨h17,hm⟩:=hm
            replace hm:=of_let hm
            obtain ⟨s18,h19,hm⟩:=hm
            have kh15:=palingref1_Text_ok h15
            try simp only [hb3,hb4,hb7,hb10,hb11] at kh15
            refine W.sqJ [] [] [] 0 [] [(4,.str s18)] [] v_mixed ?_
            clear h19
            obtain rfl:=Option.some.inj hm
            exact W.ret (EndsF.retW [] RO)
          · replace hm:=of_false hb11 hm
            refine W.skip ?_
            replace hm:=of_ite hm
            obtain ⟨h20,hm⟩:=hm
            replace hm:=of_ite hm
            obtain ⟨h21,hm⟩:=hm
            replace hm:=of_bind hm
            obtain ⟨v22,h23,hm⟩:=hm
            replace hm:=of_ite hm
            obtain ⟨h24,hm⟩:=hm
            replace hm:=of_ite hm
            obtain ⟨h25,hm⟩:=hm
            replace hm:=of_let hm
            obtain ⟨s26,h27,hm⟩:=hm
            have kh23:=palingref1_RegText_ok h23
            try simp only [hb3,hb4,hb7,hb10,hb11] at kh23
            refine W.sqJ [] [] [] 0 [] [(4,.str s26)] [] v_mixed ?_
            clear h27
            obtain rfl:=Option.some.inj hm
            exact W.ret (EndsF.retW [] RO)

theorem palingref1_ShowIns_ok{p0:T_api_Ins}{p1:(List ByteArray)}{r:ByteArray}(hm:palingref1_ShowIns p0 p1=some r):PureF Tryd.prog 14 [.agg [.int .i64 p0.Op,.bool p0.Lock,.int .i64 p0.Cond,.int .i64 p0.A.Kind,.int .i64 p0.A.Reg,.int .i64 p0.A.Sym,.int .i64 p0.A.N,.int .i64 p0.B.Kind,.int .i64 p0.B.Reg,.int .i64 p0.B.Sym,.int .i64 p0.B.N,.str p0.To,.sl (p0.Labels.map eStr)],.sl (p1.map eStr)] (.str r):=by
  rw [palingref1_ShowIns] at hm
  refine PureF.of Tryd.func14 rfl Tryd.ntmps14 (Nat.le_of_ble_eq_true rfl) ?_
  have e0:argS 0 [.agg [.int .i64 p0.Op,.bool p0.Lock,.int .i64 p0.Cond,.int .i64 p0.A.Kind,.int .i64 p0.A.Reg,.int .i64 p0.A.Sym,.int .i64 p0.A.N,.int .i64 p0.B.Kind,.int .i64 p0.B.Reg,.int .i64 p0.B.Sym,.int .i64 p0.B.N,.str p0.To,.sl (p0.Labels.map eStr)],.sl (p1.map eStr)]=[(0,.agg [.int .i64 p0.Op,.bool p0.Lock,.int .i64 p0.Cond,.int .i64 p0.A.Kind,.int .i64 p0.A.Reg,.int .i64 p0.A.Sym,.int .i64 p0.A.N,.int .i64 p0.B.Kind,.int .i64 p0.B.Reg,.int .i64 p0.B.Sym,.int .i64 p0.B.N,.str p0.To,.sl (p0.Labels.map eStr)]),(1,.sl (p1.map eStr))]:=rfl
  rw [e0]
  refine W.sq [] [(1,.sl (p1.map eStr)),(2,.ptr 0 0 0)] [.cells (e_api_Ins p0) 0 53] ?_
  refine W.seq ?_
  replace hm:=of_bind hm
  obtain ⟨v1,h2,hm⟩:=hm
  have kh2:=palingref1_InsRight_ok h2
  refine W.sq [] [(1,.sl (p1.map eStr)),(2,.ptr 0 0 0),(8,.bool (v1 != 0))] [.cells (e_api_Ins p0) 0 53] ?_
  refine W.cnd (v1 != 0) (fun hb3=>?_) (fun hb3=>?_)
  · replace hm:=of_true hb3 hm
    refine W.sq [] [(4,.str (⟨#[]⟩:ByteArray))] [] ?_
    obtain rfl:=Option.some.inj hm
    exact W.ret (EndsF.retW [] RO)
  · replace hm:=of_false hb3 hm
    refine W.skip ?_
    refine W.sq [] [(1,.sl (p1.map eStr)),(2,.ptr 0 0 0),(5,.str (⟨#[]⟩:ByteArray))] [.cells (e_api_Ins p0) 0 53] ?_
    refine W.cut (fun s h=>∃(v:ByteArray) (w:Unit) (F:Gs),palingref1_ShowIns_j1 p0 p1 v=some r ∧ AT 0 F [(1,.sl (p1.map eStr)),(2,.ptr 0 0 0),(5,.str v)] [.cells (e_api_Ins p0) 0 53] s h) ?_ ?_
    · refine W.sq [] [(1,.sl (p1.map eStr)),(2,.ptr 0 0 0),(5,.str (⟨#[]⟩:ByteArray)),(10,.bool p0.Lock)] [.cells (e_api_Ins p0) 0 53] ?_
      refine W.cnd p0.Lock (fun hb35=>?_) (fun hb35=>?_)
      · replace hm:=of_true hb35 hm
        refine W.rg [] [(1,.sl (p1.map eStr)),(2,.ptr 0 0 0),(5,.str (⟨#[108,111,99,107,32]⟩:ByteArray))] [.cells (e_api_Ins p0) 0 53] ?_
        exact ⟨(⟨#[108,111,99,107,32]⟩:ByteArray),(),⟨[],[]⟩,hm,RO⟩
      · replace hm:=of_false hb35 hm
        refine W.skip ?_
        exact ⟨(⟨#[]⟩:ByteArray),(),⟨[],[]⟩,hm,RO⟩
    · rintro s h ⟨s4,_,F,hm,hat⟩
      refine W.weak F hat ?_
      show WK _ _ _ _ _ [(1,.sl (p1.map eStr)),(2,.ptr 0 0 0),(5,.str s4)] [.cells (e_api_Ins p0) 0 53]
      rw [palingref1_ShowIns_j1] at hm
      replace hm:=of_bind hm
      obtain ⟨v5,h6,hm⟩:=hm
      replace hm:=of_ite hm
      obtain ⟨h7,hm⟩:=hm
      have kh6:=palingref1_OpText_ok h6
      try simp only [hb3] at kh6
      refine W.sq [] [(1,.sl (p1.map eStr)),(2,.ptr 0 0 0),(5,.str (s4++v5))] [.cells (e_api_Ins p0) 0 53] ?_
      refine W.seq ?_
      replace hm:=of_bind hm
      obtain ⟨v8,h9,hm⟩:=hm
      have kh9:=palingref1_Jumps_ok h9
      try simp only [hb3] at kh9
      refine W.sq [] [(1,.sl (p1.map eStr)),(2,.ptr 0 0 0),(5,.str (s4++v5)),(20,.bool v8)] [.cells (e_api_Ins p0) 0 53] ?_
      refine W.cnd v8 (fun hb10=>?_) (fun hb10=>?_)
      · replace hm:=of_true hb10 hm
        replace hm:=of_ite hm
        obtain ⟨h11,hm⟩:=hm
        replace hm:=of_ite hm
        obtain ⟨h12,hm⟩:=hm
        refine W.sq [] [(4,.str (((s4++v5)++(⟨#[32]⟩:ByteArray))++p0.To))] [] ?_
        obtain rfl:=Option.some.inj hm
        exact W.ret (EndsF.retW [] RO)
      · replace hm:=of_false hb10 hm
        refine W.skip ?_
        refine W.seq ?_
        refine W.sq [] [(1,.sl (p1.map eStr)),(2,.ptr 0 0 0),(5,.str (s4++v5)),(28,.bool (decide (p0.Op>9)))] [.cells (e_api_Ins p0) 0 53] ?_
        refine W.cnd (decide (p0.Op>9)) (fun hb13=>?_) (fun hb13=>?_)
        · replace hm:=of_true hb13 hm
          refine W.sq [] [(4,.str (s4++v5))] [] ?_
          obtain rfl:=Option.some.inj hm
          exact W.ret (EndsF.retW [] RO)
        · replace hm:=of_false hb13 hm
          refine W.skip ?_
          refine W.seq ?_
          replace hm:=of_bind hm
          obtain ⟨v14,h15,hm⟩:=hm
          replace hm:=of_bind hm
          obtain ⟨v16,h17,hm⟩:=hm
          replace hm:=of_let hm
          obtain ⟨b18,h19,hm⟩:=hm
          refine W.sq [] [(1,.sl (p1.map eStr)),(2,.ptr 0 0 0),(5,.str (s4++v5)),(53,.bool b18)] [.cells (e_api_Ins p0) 0 53] ?_ (hrun:=?_)
          rotate_left
          · try simp -implicitDefEqProofs -dsimp only [go_sem,↓reduceIte,Nat.reduceAdd,Nat.reduceMul,Nat.reduceSub,Nat.reduceEqDiff,Nat.reduceLeDiff,Nat.reduceLT,Nat.reduceBEq,Int.reduceEq,reduceCtorEq,hb3,h7,hb10,hb13,h19]
            with_reducible refine exP.mk _ (callQ.plain (by simp -implicitDefEqProofs -dsimp only [go_sem,↓reduceIte,Nat.reduceAdd,Nat.reduceMul,Nat.reduceSub,Nat.reduceEqDiff,Nat.reduceLeDiff,Nat.reduceLT,Nat.reduceBEq,Int.reduceEq,reduceCtorEq,hb3,h7,hb10,hb13,h19]) (by have hk:=palingref1_Memory_ok h15; (try simp only [hb3,hb10,hb13] at hk); (try simp only [List.map_cons,List.map_nil,eStr,eInt] at hk); exact hk)) ?_
            try simp -implicitDefEqProofs -dsimp only [go_sem,↓reduceIte,Nat.reduceAdd,Nat.reduceMul,Nat.reduceSub,Nat.reduceEqDiff,Nat.reduceLeDiff,Nat.reduceLT,Nat.reduceBEq,Int.reduceEq,reduceCtorEq,hb3,h7,hb10,hb13,h19]
            refine onG_split (fun hg20=>?_) (fun hg20=>?_)
            · try simp -implicitDefEqProofs -dsimp only [go_sem,↓reduceIte,Nat.reduceAdd,Nat.reduceMul,Nat.reduceSub,Nat.reduceEqDiff,Nat.reduceLeDiff,Nat.reduceLT,Nat.reduceBEq,Int.reduceEq,reduceCtorEq,hb3,h7,hb10,hb13,hg20,h19]
              refine onG_splitN (fun hg21=>?_) (fun hg21=>?_)
              · try simp only [Bool.not_not] at hg21
                try simp -implicitDefEqProofs -dsimp only [go_sem,↓reduceIte,Nat.reduceAdd,Nat.reduceMul,Nat.reduceSub,Nat.reduceEqDiff,Nat.reduceLeDiff,Nat.reduceLT,Nat.reduceBEq,Int.reduceEq,reduceCtorEq,hb3,h7,hb10,hb13,hg20,hg21,h19]
                with_reducible refine exP.mk _ (callQ.plain (by simp -implicitDefEqProofs -dsimp only [go_sem,↓reduceIte,Nat.reduceAdd,Nat.reduceMul,Nat.reduceSub,Nat.reduceEqDiff,Nat.reduceLeDiff,Nat.reduceLT,Nat.reduceBEq,Int.reduceEq,reduceCtorEq,hb3,h7,hb10,hb13,hg20,hg21,h19]) (by have hk:=palingref1_Memory_ok (of_true (by simp -implicitDefEqProofs -dsimp only [go_sem,↓reduceIte,Nat.reduceAdd,Nat.reduceMul,Nat.reduceSub,Nat.reduceEqDiff,Nat.reduceLeDiff,Nat.reduceLT,Nat.reduceBEq,Int.reduceEq,reduceCtorEq,hb3,h7,hb10,hb13,hg20,hg21,h19]) h17); (try simp only [hb3,hb10,hb13] at hk); (try simp only [List.map_cons,List.map_nil,eStr,eInt] at hk); exact hk)) ?_
                try simp -implicitDefEqProofs -dsimp only [go_sem,↓reduceIte,Nat.reduceAdd,Nat.reduceMul,Nat.reduceSub,Nat.reduceEqDiff,Nat.reduceLeDiff,Nat.reduceLT,Nat.reduceBEq,Int.reduceEq,reduceCtorEq,hb3,h7,hb10,hb13,hg20,hg21,h19]
                refine onG_split (fun hg22=>?_) (fun hg22=>?_)
                · try simp only [Bool.not_not] at hg22
                  try simp -implicitDefEqProofs -dsimp only [go_sem,↓reduceIte,Nat.reduceAdd,Nat.reduceMul,Nat.reduceSub,Nat.reduceEqDiff,Nat.reduceLeDiff,Nat.reduceLT,Nat.reduceBEq,Int.reduceEq,reduceCtorEq,hb3,h7,hb10,hb13,hg20,hg21,hg22,h19]
                · try simp only [Bool.not_not] at hg22
                  try simp -implicitDefEqProofs -dsimp only [go_sem,↓reduceIte,Nat.reduceAdd,Nat.reduceMul,Nat.reduceSub,Nat.reduceEqDiff,Nat.reduceLeDiff,Nat.reduceLT,Nat.reduceBEq,Int.reduceEq,reduceCtorEq,hb3,h7,hb10,hb13,hg20,hg21,hg22,h19]
              · try simp only [Bool.not_not] at hg21
                try simp -implicitDefEqProofs -dsimp only [go_sem,↓reduceIte,Nat.reduceAdd,Nat.reduceMul,Nat.reduceSub,Nat.reduceEqDiff,Nat.reduceLeDiff,Nat.reduceLT,Nat.reduceBEq,Int.reduceEq,reduceCtorEq,hb3,h7,hb10,hb13,hg20,hg21,h19]
            · try simp -implicitDefEqProofs -dsimp only [go_sem,↓reduceIte,Nat.reduceAdd,Nat.reduceMul,Nat.reduceSub,Nat.reduceEqDiff,Nat.reduceLeDiff,Nat.reduceLT,Nat.reduceBEq,Int.reduceEq,reduceCtorEq,hb3,h7,hb10,hb13,hg20,h19]
              with_reducible refine exP.mk _ (callQ.plain (by simp -implicitDefEqProofs -dsimp only [go_sem,↓reduceIte,Nat.reduceAdd,Nat.reduceMul,Nat.reduceSub,Nat.reduceEqDiff,Nat.reduceLeDiff,Nat.reduceLT,Nat.reduceBEq,Int.reduceEq,reduceCtorEq,hb3,h7,hb10,hb13,hg20,h19]) (by have hk:=palingref1_Memory_ok (of_true (by simp -implicitDefEqProofs -dsimp only [go_sem,↓reduceIte,Nat.reduceAdd,Nat.reduceMul,Nat.reduceSub,Nat.reduceEqDiff,Nat.reduceLeDiff,Nat.reduceLT,Nat.reduceBEq,Int.reduceEq,reduceCtorEq,hb3,h7,hb10,hb13,hg20,h19]) h17); (try simp only [hb3,hb10,hb13] at hk); (try simp only [List.map_cons,List.map_nil,eStr,eInt] at hk); exact hk)) ?_
              try simp -implicitDefEqProofs -dsimp only [go_sem,↓reduceIte,Nat.reduceAdd,Nat.reduceMul,Nat.reduceSub,Nat.reduceEqDiff,Nat.reduceLeDiff,Nat.reduceLT,Nat.reduceBEq,Int.reduceEq,reduceCtorEq,hb3,h7,hb10,hb13,hg20,h19]
              refine onG_split (fun hg23=>?_) (fun hg23=>?_)
              · try simp only [Bool.not_not] at hg23
                try simp -implicitDefEqProofs -dsimp only [go_sem,↓reduceIte,Nat.reduceAdd,Nat.reduceMul,Nat.reduceSub,Nat.reduceEqDiff,Nat.reduceLeDiff,Nat.reduceLT,Nat.reduceBEq,Int.reduceEq,reduceCtorEq,hb3,h7,hb10,hb13,hg20,hg23,h19]
              · try simp only [Bool.not_not] at hg23
                try simp -implicitDefEqProofs -dsimp only [go_sem,↓reduceIte,Nat.reduceAdd,Nat.reduceMul,Nat.reduceSub,Nat.reduceEqDiff,Nat.reduceLeDiff,Nat.reduceLT,Nat.reduceBEq,Int.reduceEq,reduceCtorEq,hb3,h7,hb10,hb13,hg20,hg23,h19]
          clear h19
          refine W.cnd b18 (fun hb24=>?_) (fun hb24=>?_)
          · replace hm:=of_true hb24 hm
            refine W.sq [] [(4,.str (⟨#[]⟩:ByteArray))] [] ?_
            obtain rfl:=Option.some.inj hm
            exact W.ret (EndsF.retW [] RO)
          · replace hm:=of_false hb24 hm
            refine W.skip ?_
            replace hm:=of_ite hm
            obtain ⟨h25,hm⟩:=hm
            replace hm:=of_bind hm
            obtain ⟨v26,h27,hm⟩:=hm
            replace hm:=of_ite hm
            obtain ⟨h28,hm⟩:=hm
            replace hm:=of_ite hm
            obtain ⟨h29,hm⟩:=hm
            replace hm:=of_bind hm
            obtain ⟨v30,h31,hm⟩:=hm
            replace hm:=of_ite hm
            obtain ⟨h32,hm⟩:=hm
            replace hm:=of_let hm
            obtain ⟨s33,h34,hm⟩:=hm
            have kh27:=palingref1_OpdText_ok h27
            try simp only [hb3,hb10,hb13,hb24] at kh27
            have kh31:=palingref1_OpdText_ok h31
            try simp only [hb3,hb10,hb13,hb24] at kh31
            refine W.sqJ [] [] [] 0 [] [(4,.str s33)] [] v_mixed ?_
            clear h34
            obtain rfl:=Option.some.inj hm
            exact W.ret (EndsF.retW [] RO)

theorem palingref1_Show_ok{p0:T_api_Prog}{r:ByteArray}(hm:palingref1_Show p0=some r):PureF Tryd.prog 4 [.agg [.sl (p0.Syms.map e_api_Sym),.sl (p0.Threads.map e_api_Thread)]] (.str r):=by
  rw [palingref1_Show] at hm
  refine PureF.of Tryd.func4 rfl Tryd.ntmps4 (Nat.le_of_ble_eq_true rfl) ?_
  have e0:argS 0 [.agg [.sl (p0.Syms.map e_api_Sym),.sl (p0.Threads.map e_api_Thread)]]=[(0,.agg [.sl (p0.Syms.map e_api_Sym),.sl (p0.Threads.map e_api_Thread)])]:=rfl
  rw [e0]
  refine W.sq [] [(1,.ptr 0 0 0)] [.cells (e_api_Prog p0) 0 28] ?_
  refine W.seq ?_
  replace hm:=of_bind hm
  obtain ⟨v1,h2,hm⟩:=hm
  have kh2:=palingref1_Check_ok h2
  refine W.sq [] [(1,.ptr 0 0 0),(13,.bool (v1 != 0))] [.cells (e_api_Prog p0) 0 28] ?_
  refine W.cnd (v1 != 0) (fun hb3=>?_) (fun hb3=>?_)
  · replace hm:=of_true hb3 hm
    refine W.sq [] [(2,.str (⟨#[]⟩:ByteArray))] [] ?_
    obtain rfl:=Option.some.inj hm
    exact W.ret (EndsF.retW [] RO)
  · replace hm:=of_false hb3 hm
    refine W.skip ?_
    refine W.sq [] [(1,.ptr 0 0 0),(3,.str (⟨#[]⟩:ByteArray))] [.cells (e_api_Prog p0) 0 28] ?_
    refine W.seq ?_
    refine W.sq [] [(1,.ptr 0 0 0),(3,.str (⟨#[]⟩:ByteArray)),(4,.int .i64 0)] [.cells (e_api_Prog p0) 0 28] ?_
    refine W.block ?_
    replace hm:=of_bind hm
    obtain ⟨r135,hlr135,hm⟩:=hm
    refine W.mono (Q:=fun e0 s0 h0=>e0=.exit 0 ∧ ∃w:Unit,s0=[(1,.ptr 0 0 0),(3,.str r135)] ∧ h0=[.cells (e_api_Prog p0) 0 28]) (W.loopM (step:=palingref1_Show_s1 p0) (a0:=((⟨#[]⟩:ByteArray),0)) (fun (a:ByteArray × Int) (v:Unit)=>([(1,.ptr 0 0 0),(3,.str a.1),(4,.int .i64 a.2)],[.cells (e_api_Prog p0) 0 28])) () hlr135 ⟨[],[]⟩ RO ?_) ?_
    · rintro ⟨s90,i91⟩ _ x hm hx
      rw [palingref1_Show_s1] at hm
      show WK _ _ _ _ _ [(1,.ptr 0 0 0),(3,.str s90),(4,.int .i64 i91)] [.cells (e_api_Prog p0) 0 28]
      refine W.seq ?_
      refine W.sq [] [(1,.ptr 0 0 0),(3,.str s90),(4,.int .i64 i91),(18,.bool (decide (i91<(p0.Syms.length:Int))))] [.cells (e_api_Prog p0) 0 28] ?_
      refine W.cnd (decide (i91<(p0.Syms.length:Int))) (fun hb136=>?_) (fun hb136=>?_)
      · replace hm:=of_true hb136 hm
        refine W.skip ?_
        refine W.seq ?_
        refine W.block ?_
        replace hm:=of_ite hm
        obtain ⟨h137,hm⟩:=hm
        replace hm:=of_ite hm
        obtain ⟨h138,hm⟩:=hm
        replace hm:=of_ite hm
        obtain ⟨h139,hm⟩:=hm
        replace hm:=of_ite hm
        obtain ⟨h140,hm⟩:=hm
        replace hm:=of_bind hm
        obtain ⟨v141,h142,hm⟩:=hm
        replace hm:=of_ite hm
        obtain ⟨h143,hm⟩:=hm
        replace hm:=of_ite hm
        obtain ⟨h144,hm⟩:=hm
        replace hm:=of_let hm
        obtain ⟨s145,h146,hm⟩:=hm
        have kh142:=palingref1_Text_ok h142
        try simp only [hb3,hb136] at kh142
        refine W.sqJ [] [] [] 0 [] [(1,.ptr 0 0 0),(3,.str s145),(4,.int .i64 i91)] [.cells (e_api_Prog p0) 0 28] v_mixed ?_ (hd:=drawOk_of [[],[],[1],[],[1,2,3],[1,2,3,4],[1,2,3,4,5],[1,2,3,4,5,6],[1,2,3,4,5,6,7],[],[9],[],[9,10,11],[9,10,11,12],[9,10,11,12,13],[9,10,11,12,13,14],[1,2,3,4,5,6,7,8,9,10,11,12,13,14,15],[0,1,2,3,4,5,6,7,8,9,10,11,12,13,14,15,16],[0,1,2,3,4,5,6,7,8,9,10,11,12,13,14,15,16,17]] (by kernel_rfl) (by kernel_rfl) (by kernel_rfl))
        clear h146
        refine W.seq ?_
        refine W.sq [] [(1,.ptr 0 0 0),(3,.str s145),(4,.int .i64 i91),(5,.int .i64 0)] [.cells (e_api_Prog p0) 0 28] ?_
        refine W.block ?_
        replace hm:=of_bind hm
        obtain ⟨r176,hlr176,hm⟩:=hm
        refine W.mono (Q:=fun e0 s0 h0=>e0=.exit 2 ∧ ∃w:Unit,s0=[(1,.ptr 0 0 0),(3,.str r176),(4,.int .i64 i91)] ∧ h0=[.cells (e_api_Prog p0) 0 28]) (W.loopM (step:=palingref1_Show_s2 i91 p0) (a0:=(s145,0)) (fun (a:ByteArray × Int) (v:Unit)=>([(1,.ptr 0 0 0),(3,.str a.1),(4,.int .i64 i91),(5,.int .i64 a.2)],[.cells (e_api_Prog p0) 0 28])) () hlr176 ⟨[],[]⟩ RO ?_) ?_
        · rintro ⟨s165,i166⟩ _ x hm hx
          rw [palingref1_Show_s2] at hm
          show WK _ _ _ _ _ [(1,.ptr 0 0 0),(3,.str s165),(4,.int .i64 i91),(5,.int .i64 i166)] [.cells (e_api_Prog p0) 0 28]
          refine W.seq ?_
          replace hm:=of_ite hm
          obtain ⟨h177,hm⟩:=hm
          refine W.sq [] [(1,.ptr 0 0 0),(3,.str s165),(4,.int .i64 i91),(5,.int .i64 i166),(47,.bool (decide (i166<(((rd p0.Syms i91).Init).length:Int))))] [.cells (e_api_Prog p0) 0 28] ?_
          refine W.cnd (decide (i166<(((rd p0.Syms i91).Init).length:Int))) (fun hb178=>?_) (fun hb178=>?_)
          · replace hm:=of_true hb178 hm
            refine W.skip ?_
            refine W.seq ?_
            refine W.block ?_
            replace hm:=of_ite hm
            obtain ⟨h179,hm⟩:=hm
            replace hm:=of_ite hm
            obtain ⟨h180,hm⟩:=hm
            replace hm:=of_bind hm
            obtain ⟨v181,h182,hm⟩:=hm
            replace hm:=of_ite hm
            obtain ⟨h183,hm⟩:=hm
            replace hm:=of_ite hm
            obtain ⟨h184,hm⟩:=hm
            have kh182:=palingref1_Text_ok h182
            try simp only [hb3,hb136,hb178] at kh182
            refine W.rg [] [(1,.ptr 0 0 0),(3,.str (s165++((⟨#[32]⟩:ByteArray)++v181))),(4,.int .i64 i91),(5,.int .i64 i166)] [.cells (e_api_Prog p0) 0 28] ?_
            refine W.rg [] [(1,.ptr 0 0 0),(3,.str (s165++((⟨#[32]⟩:ByteArray)++v181))),(4,.int .i64 i91),(5,.int .i64 (IntKind.wrap .i64 (i166+1)))] [.cells (e_api_Prog p0) 0 28] ?_
            obtain rfl:=Option.some.inj hm
            exact ⟨((s165++((⟨#[32]⟩:ByteArray)++v181)),(IntKind.wrap .i64 (i166+1))),(),⟨[],[]⟩,rfl,RO⟩
          · replace hm:=of_false hb178 hm
            obtain rfl:=Option.some.inj hm
            obtain rfl:=hx _ rfl
            exact W.weak ⟨[],[]⟩ (show AT _ ⟨[],[]⟩ [(1,.ptr 0 0 0),(3,.str s165),(4,.int .i64 i91)] [.cells (e_api_Prog p0) 0 28] _ _ from RO) (W.exit (show _ ∧ _ from ⟨rfl,(),rfl,rfl⟩))
        · rintro e0 s0 h0 ⟨rfl,_,rfl,rfl⟩
          show WK _ _ _ _ _ [(1,.ptr 0 0 0),(3,.str r176),(4,.int .i64 i91)] [.cells (e_api_Prog p0) 0 28]
          replace hm:=of_ite hm
          obtain ⟨h185,hm⟩:=hm
          refine W.rg [] [(1,.ptr 0 0 0),(3,.str (r176++(⟨#[10]⟩:ByteArray))),(4,.int .i64 i91)] [.cells (e_api_Prog p0) 0 28] ?_
          refine W.rg [] [(1,.ptr 0 0 0),(3,.str (r176++(⟨#[10]⟩:ByteArray))),(4,.int .i64 (IntKind.wrap .i64 (i91+1)))] [.cells (e_api_Prog p0) 0 28] ?_
          obtain rfl:=Option.some.inj hm
          exact ⟨((r176++(⟨#[10]⟩:ByteArray)),(IntKind.wrap .i64 (i91+1))),(),⟨[],[]⟩,rfl,RO⟩
      · replace hm:=of_false hb136 hm
        obtain rfl:=Option.some.inj hm
        obtain rfl:=hx _ rfl
        exact W.weak ⟨[],[]⟩ (show AT _ ⟨[],[]⟩ [(1,.ptr 0 0 0),(3,.str s90)] [.cells (e_api_Prog p0) 0 28] _ _ from RO) (W.exit (show _ ∧ _ from ⟨rfl,(),rfl,rfl⟩))
    · rintro e0 s0 h0 ⟨rfl,_,rfl,rfl⟩
      show WK _ _ _ _ _ [(1,.ptr 0 0 0),(3,.str r135)] [.cells (e_api_Prog p0) 0 28]
      replace hm:=of_bind hm
      obtain ⟨v186,h187,hm⟩:=hm
      have kh187:=palingref1_SymNames_ok h187
      try simp only [hb3] at kh187
      refine W.sq [] [(1,.ptr 0 0 0),(3,.str r135),(6,.sl (v186.map eStr))] [.cells (e_api_Prog p0) 0 28] ?_
      refine W.seq ?_
      refine W.sq [] [(1,.ptr 0 0 0),(3,.str r135),(6,.sl (v186.map eStr)),(7,.int .i64 0)] [.cells (e_api_Prog p0) 0 28] ?_
      refine W.block ?_
      replace hm:=of_bind hm
      obtain ⟨r502,hlr502,hm⟩:=hm
      refine W.mono (Q:=fun e0 s0 h0=>e0=.exit 4 ∧ ∃w:Unit,s0=[(3,.str r502)] ∧ h0=[]) (W.loopM (step:=palingref1_Show_s3 p0 v186) (a0:=(r135,0)) (fun (a:ByteArray × Int) (v:Unit)=>([(1,.ptr 0 0 0),(3,.str a.1),(6,.sl (v186.map eStr)),(7,.int .i64 a.2)],[.cells (e_api_Prog p0) 0 28])) () hlr502 ⟨[],[]⟩ RO ?_) ?_
      · rintro ⟨s396,i397⟩ _ x hm hx
        rw [palingref1_Show_s3] at hm
        show WK _ _ _ _ _ [(1,.ptr 0 0 0),(3,.str s396),(6,.sl (v186.map eStr)),(7,.int .i64 i397)] [.cells (e_api_Prog p0) 0 28]
        refine W.seq ?_
        refine W.sq [] [(1,.ptr 0 0 0),(3,.str s396),(6,.sl (v186.map eStr)),(7,.int .i64 i397),(71,.bool (decide (i397<(p0.Threads.length:Int))))] [.cells (e_api_Prog p0) 0 28] ?_
        refine W.cnd (decide (i397<(p0.Threads.length:Int))) (fun hb503=>?_) (fun hb503=>?_)
        · replace hm:=of_true hb503 hm
          refine W.skip ?_
          refine W.seq ?_
          refine W.block ?_
          replace hm:=of_ite hm
          obtain ⟨h504,hm⟩:=hm
          refine W.sq [] [(1,.ptr 0 0 0),(3,.str (s396++(⟨#[116,104,114,101,97,100,10]⟩:ByteArray))),(6,.sl (v186.map eStr)),(7,.int .i64 i397)] [.cells (e_api_Prog p0) 0 28] ?_
          refine W.sq [] [(1,.ptr 0 0 0),(3,.str (s396++(⟨#[116,104,114,101,97,100,10]⟩:ByteArray))),(6,.sl (v186.map eStr)),(7,.int .i64 i397),(8,.int .i64 0)] [.cells (e_api_Prog p0) 0 28] ?_
          refine W.block ?_
          replace hm:=of_bind hm
          obtain ⟨r605,hlr605,hm⟩:=hm
          refine W.mono (Q:=fun e0 s0 h0=>e0=.exit 6 ∧ ∃w:Unit,s0=[(1,.ptr 0 0 0),(3,.str r605),(6,.sl (v186.map eStr)),(7,.int .i64 i397)] ∧ h0=[.cells (e_api_Prog p0) 0 28]) (W.loopM (step:=palingref1_Show_s4 i397 p0 v186) (a0:=((s396++(⟨#[116,104,114,101,97,100,10]⟩:ByteArray)),0)) (fun (a:ByteArray × Int) (v:Unit)=>([(1,.ptr 0 0 0),(3,.str a.1),(6,.sl (v186.map eStr)),(7,.int .i64 i397),(8,.int .i64 a.2)],[.cells (e_api_Prog p0) 0 28])) () hlr605 ⟨[],[]⟩ RO ?_) ?_
          · rintro ⟨s571,i572⟩ _ x hm hx
            rw [palingref1_Show_s4] at hm
            show WK _ _ _ _ _ [(1,.ptr 0 0 0),(3,.str s571),(6,.sl (v186.map eStr)),(7,.int .i64 i397),(8,.int .i64 i572)] [.cells (e_api_Prog p0) 0 28]
            refine W.seq ?_
            replace hm:=of_ite hm
            obtain ⟨h606,hm⟩:=hm
            refine W.sq [] [(1,.ptr 0 0 0),(3,.str s571),(6,.sl (v186.map eStr)),(7,.int .i64 i397),(8,.int .i64 i572),(84,.bool (decide (i572<(((rd p0.Threads i397).Ins).length:Int))))] [.cells (e_api_Prog p0) 0 28] ?_
            refine W.cnd (decide (i572<(((rd p0.Threads i397).Ins).length:Int))) (fun hb607=>?_) (fun hb607=>?_)
            · replace hm:=of_true hb607 hm
              refine W.skip ?_
              refine W.seq ?_
              refine W.block ?_
              replace hm:=of_ite hm
              obtain ⟨h608,hm⟩:=hm
              replace hm:=of_ite hm
              obtain ⟨h609,hm⟩:=hm
              replace hm:=of_let hm
              obtain ⟨l610,h611,hm⟩:=hm
              refine W.sq [] [(1,.ptr 0 0 0),(3,.str s571),(6,.sl (v186.map eStr)),(7,.int .i64 i397),(8,.int .i64 i572),(9,.ptr 1 0 0)] [.cells (e_api_Prog p0) 0 28,.cells [.int .i64 ((rd ((rd p0.Threads i397).Ins) i572).Op),.bool ((rd ((rd p0.Threads i397).Ins) i572).Lock),.int .i64 ((rd ((rd p0.Threads i397).Ins) i572).Cond),.int .i64 ((rd ((rd p0.Threads i397).Ins) i572).A.Kind),.int .i64 ((rd ((rd p0.Threads i397).Ins) i572).A.Reg),.int .i64 ((rd ((rd p0.Threads i397).Ins) i572).A.Sym),.int .i64 ((rd ((rd p0.Threads i397).Ins) i572).A.N),.int .i64 ((rd ((rd p0.Threads i397).Ins) i572).B.Kind),.int .i64 ((rd ((rd p0.Threads i397).Ins) i572).B.Reg),.int .i64 ((rd ((rd p0.Threads i397).Ins) i572).B.Sym),.int .i64 ((rd ((rd p0.Threads i397).Ins) i572).B.N),.str ((rd ((rd p0.Threads i397).Ins) i572).To),.sl (l610.map eStr)] 0 53] ?_
              clear h611
              refine W.seq ?_
              refine W.sq [] [(1,.ptr 0 0 0),(3,.str s571),(6,.sl (v186.map eStr)),(7,.int .i64 i397),(8,.int .i64 i572),(9,.ptr 1 0 0),(10,.int .i64 0)] [.cells (e_api_Prog p0) 0 28,.cells [.int .i64 ((rd ((rd p0.Threads i397).Ins) i572).Op),.bool ((rd ((rd p0.Threads i397).Ins) i572).Lock),.int .i64 ((rd ((rd p0.Threads i397).Ins) i572).Cond),.int .i64 ((rd ((rd p0.Threads i397).Ins) i572).A.Kind),.int .i64 ((rd ((rd p0.Threads i397).Ins) i572).A.Reg),.int .i64 ((rd ((rd p0.Threads i397).Ins) i572).A.Sym),.int .i64 ((rd ((rd p0.Threads i397).Ins) i572).A.N),.int .i64 ((rd ((rd p0.Threads i397).Ins) i572).B.Kind),.int .i64 ((rd ((rd p0.Threads i397).Ins) i572).B.Reg),.int .i64 ((rd ((rd p0.Threads i397).Ins) i572).B.Sym),.int .i64 ((rd ((rd p0.Threads i397).Ins) i572).B.N),.str ((rd ((rd p0.Threads i397).Ins) i572).To),.sl (l610.map eStr)] 0 53] ?_
              refine W.block ?_
              replace hm:=of_bind hm
              obtain ⟨r629,hlr629,hm⟩:=hm
              refine W.mono (Q:=fun e0 s0 h0=>e0=.exit 8 ∧ ∃w:Unit,s0=[(1,.ptr 0 0 0),(3,.str r629),(6,.sl (v186.map eStr)),(7,.int .i64 i397),(8,.int .i64 i572),(9,.ptr 1 0 0)] ∧ h0=[.cells (e_api_Prog p0) 0 28,.cells [.int .i64 ((rd ((rd p0.Threads i397).Ins) i572).Op),.bool ((rd ((rd p0.Threads i397).Ins) i572).Lock),.int .i64 ((rd ((rd p0.Threads i397).Ins) i572).Cond),.int .i64 ((rd ((rd p0.Threads i397).Ins) i572).A.Kind),.int .i64 ((rd ((rd p0.Threads i397).Ins) i572).A.Reg),.int .i64 ((rd ((rd p0.Threads i397).Ins) i572).A.Sym),.int .i64 ((rd ((rd p0.Threads i397).Ins) i572).A.N),.int .i64 ((rd ((rd p0.Threads i397).Ins) i572).B.Kind),.int .i64 ((rd ((rd p0.Threads i397).Ins) i572).B.Reg),.int .i64 ((rd ((rd p0.Threads i397).Ins) i572).B.Sym),.int .i64 ((rd ((rd p0.Threads i397).Ins) i572).B.N),.str ((rd ((rd p0.Threads i397).Ins) i572).To),.sl (l610.map eStr)] 0 53]) (W.loopM (step:=palingref1_Show_s5 l610) (a0:=(s571,0)) (fun (a:ByteArray × Int) (v:Unit)=>([(1,.ptr 0 0 0),(3,.str a.1),(6,.sl (v186.map eStr)),(7,.int .i64 i397),(8,.int .i64 i572),(9,.ptr 1 0 0),(10,.int .i64 a.2)],[.cells (e_api_Prog p0) 0 28,.cells [.int .i64 ((rd ((rd p0.Threads i397).Ins) i572).Op),.bool ((rd ((rd p0.Threads i397).Ins) i572).Lock),.int .i64 ((rd ((rd p0.Threads i397).Ins) i572).Cond),.int .i64 ((rd ((rd p0.Threads i397).Ins) i572).A.Kind),.int .i64 ((rd ((rd p0.Threads i397).Ins) i572).A.Reg),.int .i64 ((rd ((rd p0.Threads i397).Ins) i572).A.Sym),.int .i64 ((rd ((rd p0.Threads i397).Ins) i572).A.N),.int .i64 ((rd ((rd p0.Threads i397).Ins) i572).B.Kind),.int .i64 ((rd ((rd p0.Threads i397).Ins) i572).B.Reg),.int .i64 ((rd ((rd p0.Threads i397).Ins) i572).B.Sym),.int .i64 ((rd ((rd p0.Threads i397).Ins) i572).B.N),.str ((rd ((rd p0.Threads i397).Ins) i572).To),.sl (l610.map eStr)] 0 53])) () hlr629 ⟨[],[]⟩ RO ?_) ?_
              · rintro ⟨s622,i623⟩ _ x hm hx
                rw [palingref1_Show_s5] at hm
                show WK _ _ _ _ _ [(1,.ptr 0 0 0),(3,.str s622),(6,.sl (v186.map eStr)),(7,.int .i64 i397),(8,.int .i64 i572),(9,.ptr 1 0 0),(10,.int .i64 i623)] [.cells (e_api_Prog p0) 0 28,.cells [.int .i64 ((rd ((rd p0.Threads i397).Ins) i572).Op),.bool ((rd ((rd p0.Threads i397).Ins) i572).Lock),.int .i64 ((rd ((rd p0.Threads i397).Ins) i572).Cond),.int .i64 ((rd ((rd p0.Threads i397).Ins) i572).A.Kind),.int .i64 ((rd ((rd p0.Threads i397).Ins) i572).A.Reg),.int .i64 ((rd ((rd p0.Threads i397).Ins) i572).A.Sym),.int .i64 ((rd ((rd p0.Threads i397).Ins) i572).A.N),.int .i64 ((rd ((rd p0.Threads i397).Ins) i572).B.Kind),.int .i64 ((rd ((rd p0.Threads i397).Ins) i572).B.Reg),.int .i64 ((rd ((rd p0.Threads i397).Ins) i572).B.Sym),.int .i64 ((rd ((rd p0.Threads i397).Ins) i572).B.N),.str ((rd ((rd p0.Threads i397).Ins) i572).To),.sl (l610.map eStr)] 0 53]
                refine W.seq ?_
                refine W.sq [] [(1,.ptr 0 0 0),(3,.str s622),(6,.sl (v186.map eStr)),(7,.int .i64 i397),(8,.int .i64 i572),(9,.ptr 1 0 0),(10,.int .i64 i623),(100,.bool (decide (i623<(l610.length:Int))))] [.cells (e_api_Prog p0) 0 28,.cells [.int .i64 ((rd ((rd p0.Threads i397).Ins) i572).Op),.bool ((rd ((rd p0.Threads i397).Ins) i572).Lock),.int .i64 ((rd ((rd p0.Threads i397).Ins) i572).Cond),.int .i64 ((rd ((rd p0.Threads i397).Ins) i572).A.Kind),.int .i64 ((rd ((rd p0.Threads i397).Ins) i572).A.Reg),.int .i64 ((rd ((rd p0.Threads i397).Ins) i572).A.Sym),.int .i64 ((rd ((rd p0.Threads i397).Ins) i572).A.N),.int .i64 ((rd ((rd p0.Threads i397).Ins) i572).B.Kind),.int .i64 ((rd ((rd p0.Threads i397).Ins) i572).B.Reg),.int .i64 ((rd ((rd p0.Threads i397).Ins) i572).B.Sym),.int .i64 ((rd ((rd p0.Threads i397).Ins) i572).B.N),.str ((rd ((rd p0.Threads i397).Ins) i572).To),.sl (l610.map eStr)] 0 53] ?_
                refine W.cnd (decide (i623<(l610.length:Int))) (fun hb630=>?_) (fun hb630=>?_)
                · replace hm:=of_true hb630 hm
                  refine W.skip ?_
                  refine W.seq ?_
                  refine W.block ?_
                  replace hm:=of_ite hm
                  obtain ⟨h631,hm⟩:=hm
                  replace hm:=of_ite hm
                  obtain ⟨h632,hm⟩:=hm
                  replace hm:=of_ite hm
                  obtain ⟨h633,hm⟩:=hm
                  refine W.rg [] [(1,.ptr 0 0 0),(3,.str (s622++((rd l610 i623)++(⟨#[58,10]⟩:ByteArray)))),(6,.sl (v186.map eStr)),(7,.int .i64 i397),(8,.int .i64 i572),(9,.ptr 1 0 0),(10,.int .i64 i623)] [.cells (e_api_Prog p0) 0 28,.cells [.int .i64 ((rd ((rd p0.Threads i397).Ins) i572).Op),.bool ((rd ((rd p0.Threads i397).Ins) i572).Lock),.int .i64 ((rd ((rd p0.Threads i397).Ins) i572).Cond),.int .i64 ((rd ((rd p0.Threads i397).Ins) i572).A.Kind),.int .i64 ((rd ((rd p0.Threads i397).Ins) i572).A.Reg),.int .i64 ((rd ((rd p0.Threads i397).Ins) i572).A.Sym),.int .i64 ((rd ((rd p0.Threads i397).Ins) i572).A.N),.int .i64 ((rd ((rd p0.Threads i397).Ins) i572).B.Kind),.int .i64 ((rd ((rd p0.Threads i397).Ins) i572).B.Reg),.int .i64 ((rd ((rd p0.Threads i397).Ins) i572).B.Sym),.int .i64 ((rd ((rd p0.Threads i397).Ins) i572).B.N),.str ((rd ((rd p0.Threads i397).Ins) i572).To),.sl (l610.map eStr)] 0 53] ?_
                  refine W.rg [] [(1,.ptr 0 0 0),(3,.str (s622++((rd l610 i623)++(⟨#[58,10]⟩:ByteArray)))),(6,.sl (v186.map eStr)),(7,.int .i64 i397),(8,.int .i64 i572),(9,.ptr 1 0 0),(10,.int .i64 (IntKind.wrap .i64 (i623+1)))] [.cells (e_api_Prog p0) 0 28,.cells [.int .i64 ((rd ((rd p0.Threads i397).Ins) i572).Op),.bool ((rd ((rd p0.Threads i397).Ins) i572).Lock),.int .i64 ((rd ((rd p0.Threads i397).Ins) i572).Cond),.int .i64 ((rd ((rd p0.Threads i397).Ins) i572).A.Kind),.int .i64 ((rd ((rd p0.Threads i397).Ins) i572).A.Reg),.int .i64 ((rd ((rd p0.Threads i397).Ins) i572).A.Sym),.int .i64 ((rd ((rd p0.Threads i397).Ins) i572).A.N),.int .i64 ((rd ((rd p0.Threads i397).Ins) i572).B.Kind),.int .i64 ((rd ((rd p0.Threads i397).Ins) i572).B.Reg),.int .i64 ((rd ((rd p0.Threads i397).Ins) i572).B.Sym),.int .i64 ((rd ((rd p0.Threads i397).Ins) i572).B.N),.str ((rd ((rd p0.Threads i397).Ins) i572).To),.sl (l610.map eStr)] 0 53] ?_
                  obtain rfl:=Option.some.inj hm
                  exact ⟨((s622++((rd l610 i623)++(⟨#[58,10]⟩:ByteArray))),(IntKind.wrap .i64 (i623+1))),(),⟨[],[]⟩,rfl,RO⟩
                · replace hm:=of_false hb630 hm
                  obtain rfl:=Option.some.inj hm
                  obtain rfl:=hx _ rfl
                  exact W.weak ⟨[],[]⟩ (show AT _ ⟨[],[]⟩ [(1,.ptr 0 0 0),(3,.str s622),(6,.sl (v186.map eStr)),(7,.int .i64 i397),(8,.int .i64 i572),(9,.ptr 1 0 0)] [.cells (e_api_Prog p0) 0 28,.cells [.int .i64 ((rd ((rd p0.Threads i397).Ins) i572).Op),.bool ((rd ((rd p0.Threads i397).Ins) i572).Lock),.int .i64 ((rd ((rd p0.Threads i397).Ins) i572).Cond),.int .i64 ((rd ((rd p0.Threads i397).Ins) i572).A.Kind),.int .i64 ((rd ((rd p0.Threads i397).Ins) i572).A.Reg),.int .i64 ((rd ((rd p0.Threads i397).Ins) i572).A.Sym),.int .i64 ((rd ((rd p0.Threads i397).Ins) i572).A.N),.int .i64 ((rd ((rd p0.Threads i397).Ins) i572).B.Kind),.int .i64 ((rd ((rd p0.Threads i397).Ins) i572).B.Reg),.int .i64 ((rd ((rd p0.Threads i397).Ins) i572).B.Sym),.int .i64 ((rd ((rd p0.Threads i397).Ins) i572).B.N),.str ((rd ((rd p0.Threads i397).Ins) i572).To),.sl (l610.map eStr)] 0 53] _ _ from RO) (W.exit (show _ ∧ _ from ⟨rfl,(),rfl,rfl⟩))
              · rintro e0 s0 h0 ⟨rfl,_,rfl,rfl⟩
                show WK _ _ _ _ _ [(1,.ptr 0 0 0),(3,.str r629),(6,.sl (v186.map eStr)),(7,.int .i64 i397),(8,.int .i64 i572),(9,.ptr 1 0 0)] [.cells (e_api_Prog p0) 0 28,.cells [.int .i64 ((rd ((rd p0.Threads i397).Ins) i572).Op),.bool ((rd ((rd p0.Threads i397).Ins) i572).Lock),.int .i64 ((rd ((rd p0.Threads i397).Ins) i572).Cond),.int .i64 ((rd ((rd p0.Threads i397).Ins) i572).A.Kind),.int .i64 ((rd ((rd p0.Threads i397).Ins) i572).A.Reg),.int .i64 ((rd ((rd p0.Threads i397).Ins) i572).A.Sym),.int .i64 ((rd ((rd p0.Threads i397).Ins) i572).A.N),.int .i64 ((rd ((rd p0.Threads i397).Ins) i572).B.Kind),.int .i64 ((rd ((rd p0.Threads i397).Ins) i572).B.Reg),.int .i64 ((rd ((rd p0.Threads i397).Ins) i572).B.Sym),.int .i64 ((rd ((rd p0.Threads i397).Ins) i572).B.N),.str ((rd ((rd p0.Threads i397).Ins) i572).To),.sl (l610.map eStr)] 0 53]
                replace hm:=of_bind hm
                obtain ⟨v634,h635,hm⟩:=hm
                replace hm:=of_ite hm
                obtain ⟨h636,hm⟩:=hm
                replace hm:=of_ite hm
                obtain ⟨h637,hm⟩:=hm
                replace hm:=of_ite hm
                obtain ⟨h638,hm⟩:=hm
                replace hm:=of_let hm
                obtain ⟨s639,h640,hm⟩:=hm
                have kh635:=palingref1_ShowIns_ok h635
                try simp only [hb3,hb503,hb607] at kh635
                refine W.rg [] [(1,.ptr 0 0 0),(3,.str s639),(6,.sl (v186.map eStr)),(7,.int .i64 i397),(8,.int .i64 i572)] [.cells (e_api_Prog p0) 0 28] ?_
                clear h640
                refine W.rg [] [(1,.ptr 0 0 0),(3,.str s639),(6,.sl (v186.map eStr)),(7,.int .i64 i397),(8,.int .i64 (IntKind.wrap .i64 (i572+1)))] [.cells (e_api_Prog p0) 0 28] ?_
                obtain rfl:=Option.some.inj hm
                exact ⟨(s639,(IntKind.wrap .i64 (i572+1))),(),⟨[],[]⟩,rfl,RO⟩
            · replace hm:=of_false hb607 hm
              obtain rfl:=Option.some.inj hm
              obtain rfl:=hx _ rfl
              exact W.weak ⟨[],[]⟩ (show AT _ ⟨[],[]⟩ [(1,.ptr 0 0 0),(3,.str s571),(6,.sl (v186.map eStr)),(7,.int .i64 i397)] [.cells (e_api_Prog p0) 0 28] _ _ from RO) (W.exit (show _ ∧ _ from ⟨rfl,(),rfl,rfl⟩))
          · rintro e0 s0 h0 ⟨rfl,_,rfl,rfl⟩
            show WK _ _ _ _ _ [(1,.ptr 0 0 0),(3,.str r605),(6,.sl (v186.map eStr)),(7,.int .i64 i397)] [.cells (e_api_Prog p0) 0 28]
            refine W.rg [] [(1,.ptr 0 0 0),(3,.str r605),(6,.sl (v186.map eStr)),(7,.int .i64 (IntKind.wrap .i64 (i397+1)))] [.cells (e_api_Prog p0) 0 28] ?_
            obtain rfl:=Option.some.inj hm
            exact ⟨(r605,(IntKind.wrap .i64 (i397+1))),(),⟨[],[]⟩,rfl,RO⟩
        · replace hm:=of_false hb503 hm
          obtain rfl:=Option.some.inj hm
          obtain rfl:=hx _ rfl
          exact W.weak ⟨[],[]⟩ (show AT _ ⟨[],[]⟩ [(3,.str s396)] [] _ _ from RO) (W.exit (show _ ∧ _ from ⟨rfl,(),rfl,rfl⟩))
      · rintro e0 s0 h0 ⟨rfl,_,rfl,rfl⟩
        show WK _ _ _ _ _ [(3,.str r502)] []
        refine W.sq [] [(2,.str r502)] [] ?_
        obtain rfl:=Option.some.inj hm
        exact W.ret (EndsF.retW [] RO)


end Go.Proofs.YtgdchoahbiagbaaDoor
