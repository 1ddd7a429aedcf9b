import Derived.Test.YtgdchoahbiagbaaDoorVFacts
import Derived.Test.YtgdchoahbiagbaaDoorPalL
import Derived.Test.YtgdchoahbiagbaaDoorWB
import Derived.Test.YtgdchoahbiagbaaDoorWC
import Derived.Test.YtgdchoahbiagbaaDoorWX
set_option maxRecDepth 100000
set_option maxHeartbeats 4000000
set_option linter.unusedSimpArgs false
set_option linter.unusedVariables false
set_option linter.unusedSectionVars false
namespace Go.Proofs.YtgdchoahbiagbaaDoor
open Go.Vs
variable [TabX]
theorem palingbook_SameTokens_ok{p0:(List T_api_Token)}{p1:(List T_api_Token)}{r:Bool}(hm:palingbook_SameTokens p0 p1=some r):PureF Tryd.prog 9 [.sl (p0.map e_api_Token),.sl (p1.map e_api_Token)] (.bool r):=by
  rw [palingbook_SameTokens] at hm
  refine PureF.of Tryd.func9 rfl Tryd.ntmps9 (Nat.le_of_ble_eq_true rfl) ?_
  have e0:argS 0 [.sl (p0.map e_api_Token),.sl (p1.map e_api_Token)]=[(0,.sl (p0.map e_api_Token)),(1,.sl (p1.map e_api_Token))]:=rfl
  rw [e0]
  refine W.sq [] [(0,.sl (p0.map e_api_Token)),(1,.sl (p1.map e_api_Token))] [] ?_
  refine W.seq ?_
  refine W.sq [] [(0,.sl (p0.map e_api_Token)),(1,.sl (p1.map e_api_Token)),(10,.bool ((p0.length:Int) != (p1.length:Int)))] [] ?_
  refine W.cnd ((p0.length:Int) != (p1.length:Int)) (fun hb1=>?_) (fun hb1=>?_)
  · replace hm:=of_true hb1 hm
    refine W.sq [] [(4,.bool false)] [] ?_
    obtain rfl:=Option.some.inj hm
    exact W.ret (EndsF.retW [] RO)
  · replace hm:=of_false hb1 hm
    refine W.skip ?_
    refine W.seq ?_
    refine W.sq [] [(0,.sl (p0.map e_api_Token)),(1,.sl (p1.map e_api_Token)),(5,.int .i64 0)] [] ?_
    refine W.block ?_
    replace hm:=of_bind hm
    obtain ⟨r24,hlr24,hm⟩:=hm
    refine W.mono (Q:=fun e0 s0 h0=>match r24 with | .inl e=>e0=.exit 0 ∧ ∃w:Unit,s0=[] ∧ h0=[] | .inr q=>e0=.ret ∧ s0=[(4,.bool q)] ∧ h0=[]) (W.loopM (step:=palingbook_SameTokens_s1 p0 p1) (a0:=0) (fun (a:Int) (v:Unit)=>([(0,.sl (p0.map e_api_Token)),(1,.sl (p1.map e_api_Token)),(5,.int .i64 a)],[])) () hlr24 ⟨[],[]⟩ RO ?_) ?_
    · rintro i17 _ x hm hx
      rw [palingbook_SameTokens_s1] at hm
      show WK _ _ _ _ _ [(0,.sl (p0.map e_api_Token)),(1,.sl (p1.map e_api_Token)),(5,.int .i64 i17)] []
      refine W.seq ?_
      refine W.sq [] [(0,.sl (p0.map e_api_Token)),(1,.sl (p1.map e_api_Token)),(5,.int .i64 i17),(14,.bool (decide (i17<(p0.length:Int))))] [] ?_
      refine W.cnd (decide (i17<(p0.length:Int))) (fun hb25=>?_) (fun hb25=>?_)
      · replace hm:=of_true hb25 hm
        refine W.skip ?_
        refine W.seq ?_
        refine W.block ?_
        replace hm:=of_ite hm
        obtain ⟨h26,hm⟩:=hm
        replace hm:=of_ite hm
        obtain ⟨h27,hm⟩:=hm
        replace hm:=of_let hm
        obtain ⟨b28,h29,hm⟩:=hm
        refine W.sqJ [] [] [] 0 [] [(0,.sl (p0.map e_api_Token)),(1,.sl (p1.map e_api_Token)),(5,.int .i64 i17),(25,.bool b28)] [] v_mixed ?_
        clear h29
        refine W.cnd b28 (fun hb30=>?_) (fun hb30=>?_)
        · replace hm:=of_true hb30 hm
          refine W.sq [] [(4,.bool false)] [] ?_
          obtain rfl:=Option.some.inj hm
          obtain rfl:=hx _ rfl
          exact W.weak ⟨[],[]⟩ (show AT _ ⟨[],[]⟩ [(4,.bool false)] [] _ _ from RO) (W.ret (show _ ∧ _ from ⟨rfl,rfl,rfl⟩))
        · replace hm:=of_false hb30 hm
          refine W.skip ?_
          refine W.rg [] [(0,.sl (p0.map e_api_Token)),(1,.sl (p1.map e_api_Token)),(5,.int .i64 (IntKind.wrap .i64 (i17+1)))] [] ?_
          obtain rfl:=Option.some.inj hm
          exact ⟨(IntKind.wrap .i64 (i17+1)),(),⟨[],[]⟩,rfl,RO⟩
      · replace hm:=of_false hb25 hm
        obtain rfl:=Option.some.inj hm
        obtain rfl:=hx _ rfl
        exact W.weak ⟨[],[]⟩ (show AT _ ⟨[],[]⟩ [] [] _ _ from RO) (W.exit (show _ ∧ _ from ⟨rfl,(),rfl,rfl⟩))
    · intro e0 s0 h0 hq
      rcases r24 with er24 | qr24
      · obtain ⟨rfl,_,rfl,rfl⟩:=hq
        replace hm:=of_inl hm
        show WK _ _ _ _ _ [] []
        refine W.sq [] [(4,.bool true)] [] ?_
        obtain rfl:=Option.some.inj hm
        exact W.ret (EndsF.retW [] RO)
      · obtain ⟨rfl,rfl,rfl⟩:=hq
        replace hm:=of_inr hm
        obtain rfl:=Option.some.inj hm
        exact EndsF.retW [] RO

theorem lex_wrong_ok{p0:T_api_Token}{p1:Int}{r:Int}(hm:lex_wrong p0 p1=some r):PureF Tryd.prog 21 [.agg [.int .i64 p0.Kind,.int .i64 p0.Line,.int .i64 p0.Col,.str p0.Text],.int .i64 p1] (.int .i64 r):=by
  rw [lex_wrong] at hm
  refine PureF.of Tryd.func21 rfl Tryd.ntmps21 (Nat.le_of_ble_eq_true rfl) ?_
  have e0:argS 0 [.agg [.int .i64 p0.Kind,.int .i64 p0.Line,.int .i64 p0.Col,.str p0.Text],.int .i64 p1]=[(0,.agg [.int .i64 p0.Kind,.int .i64 p0.Line,.int .i64 p0.Col,.str p0.Text]),(1,.int .i64 p1)]:=rfl
  rw [e0]
  refine W.sq [] [(1,.int .i64 p1),(2,.ptr 0 0 0)] [.cells (e_api_Token p0) 0 69] ?_
  refine W.seq ?_
  refine W.sq [] [(2,.ptr 0 0 0),(13,.bool ((p0.Kind==1)&&decide (p1>16)))] [.cells (e_api_Token p0) 0 69] ?_
  refine W.cnd ((p0.Kind==1)&&decide (p1>16)) (fun hb1=>?_) (fun hb1=>?_)
  · replace hm:=of_true hb1 hm
    refine W.sq [] [(4,.int .i64 3)] [] ?_
    obtain rfl:=Option.some.inj hm
    exact W.ret (EndsF.retW [] RO)
  · replace hm:=of_false hb1 hm
    refine W.skip ?_
    refine W.seq ?_
    refine W.sq [] [(2,.ptr 0 0 0),(16,.bool (p0.Kind==2))] [.cells (e_api_Token p0) 0 69] ?_
    refine W.cnd (p0.Kind==2) (fun hb2=>?_) (fun hb2=>?_)
    · replace hm:=of_true hb2 hm
      replace hm:=of_bind hm
      obtain ⟨v3,h4,hm⟩:=hm
      have kh4:=num_Read_ok h4
      try simp only [hb1,hb2] at kh4
      refine W.sq [] [(6,.bool v3.2)] [] ?_
      refine W.sq [] [(24,.bool (!v3.2))] [] ?_
      refine W.cnd (!v3.2) (fun hb5=>?_) (fun hb5=>?_)
      · replace hm:=of_true hb5 hm
        refine W.sq [] [(4,.int .i64 2)] [] ?_
        obtain rfl:=Option.some.inj hm
        exact W.ret (EndsF.retW [] RO)
      · replace hm:=of_false hb5 hm
        refine W.skip ?_
        refine W.sq [] [(4,.int .i64 0)] [] ?_
        obtain rfl:=Option.some.inj hm
        exact W.ret (EndsF.retW [] RO)
    · replace hm:=of_false hb2 hm
      refine W.skip ?_
      refine W.sq [] [(4,.int .i64 0)] [] ?_
      obtain rfl:=Option.some.inj hm
      exact W.ret (EndsF.retW [] RO)

theorem palingref1_End_ok{p0:ByteArray}{r:Int × Int}(hm:palingref1_End p0=some r):PureF Tryd.prog 28 [.str p0] (.tuple [.int .i64 r.1,.int .i64 r.2]):=by
  rw [palingref1_End] at hm
  refine PureF.of Tryd.func28 rfl Tryd.ntmps28 (Nat.le_of_ble_eq_true rfl) ?_
  have e0:argS 0 [.str p0]=[(0,.str p0)]:=rfl
  rw [e0]
  refine W.sq [] [(0,.str p0)] [] ?_
  replace hm:=of_bind hm
  obtain ⟨v1,h2,hm⟩:=hm
  have kh2:=palingref1_Spots_ok h2
  refine W.sq [] [(4,.sl (v1.map e_palingref1_Spot))] [] ?_
  refine W.seq ?_
  refine W.sq [] [(4,.sl (v1.map e_palingref1_Spot)),(10,.bool ((v1.length:Int)==0))] [] ?_
  refine W.cnd ((v1.length:Int)==0) (fun hb3=>?_) (fun hb3=>?_)
  · replace hm:=of_true hb3 hm
    refine W.sq [] [(2,.int .i64 1),(3,.int .i64 1)] [] ?_
    obtain rfl:=Option.some.inj hm
    exact W.ret (EndsF.retW [] RO)
  · replace hm:=of_false hb3 hm
    refine W.skip ?_
    replace hm:=of_ite hm
    obtain ⟨h4,hm⟩:=hm
    refine W.sq [] [(5,.ptr 0 0 0)] [.cells (e_palingref1_Spot (rd v1 (IntKind.wrap .i64 ((v1.length:Int)-1)))) 0 74] ?_
    refine W.seq ?_
    refine W.sq [] [(5,.ptr 0 0 0),(19,.bool ((rd v1 (IntKind.wrap .i64 ((v1.length:Int)-1))).Rune==10))] [.cells (e_palingref1_Spot (rd v1 (IntKind.wrap .i64 ((v1.length:Int)-1)))) 0 74] ?_
    refine W.cnd ((rd v1 (IntKind.wrap .i64 ((v1.length:Int)-1))).Rune==10) (fun hb5=>?_) (fun hb5=>?_)
    · replace hm:=of_true hb5 hm
      replace hm:=of_let hm
      obtain ⟨n6,h7,hm⟩:=hm
      refine W.sq [] [(2,.int .i64 n6),(3,.int .i64 1)] [] ?_
      clear h7
      obtain rfl:=Option.some.inj hm
      exact W.ret (EndsF.retW [] RO)
    · replace hm:=of_false hb5 hm
      refine W.skip ?_
      replace hm:=of_let hm
      obtain ⟨n8,h9,hm⟩:=hm
      refine W.sqJ [] [] [] 0 [] [(2,.int .i64 ((rd v1 (IntKind.wrap .i64 ((v1.length:Int)-1))).Line)),(3,.int .i64 n8)] [] v_mixed ?_
      clear h9
      obtain rfl:=Option.some.inj hm
      exact W.ret (EndsF.retW [] RO)

theorem lex_Tokens_ok{p0:ByteArray}{r:(List T_api_Token) × T_api_Fault}(hm:lex_Tokens p0=some r):PureF Tryd.prog 7 [.str p0] (.tuple [.sl (r.1.map e_api_Token),.agg [.int .i64 r.2.Code,.int .i64 r.2.Line,.int .i64 r.2.Col]]):=by
  rw [lex_Tokens] at hm
  refine PureF.of Tryd.func7 rfl Tryd.ntmps7 (Nat.le_of_ble_eq_true rfl) ?_
  have e0:argS 0 [.str p0]=[(0,.str p0)]:=rfl
  rw [e0]
  refine W.sq [] [(0,.str p0),(3,.ptr 0 0 0)] [.cells [.int .i64 0,.int .i64 0,.int .i64 0] 0 34] ?_
  replace hm:=of_bind hm
  obtain ⟨v1,h2,hm⟩:=hm
  have kh2:=glyph_Spots_ok h2
  refine W.sq [] [(0,.str p0),(3,.ptr 0 0 0),(4,.sl (v1.map e_glyph_Spot))] [.cells [.int .i64 0,.int .i64 0,.int .i64 0] 0 34] ?_
  refine W.sq [] [(0,.str p0),(3,.ptr 0 0 0),(4,.sl (v1.map e_glyph_Spot)),(5,.nils)] [.cells [.int .i64 0,.int .i64 0,.int .i64 0] 0 34] ?_
  refine W.seq ?_
  refine W.sq [] [(0,.str p0),(3,.ptr 0 0 0),(4,.sl (v1.map e_glyph_Spot)),(5,.nils),(6,.int .i64 0)] [.cells [.int .i64 0,.int .i64 0,.int .i64 0] 0 34] ?_
  refine W.block ?_
  replace hm:=of_bind hm
  obtain ⟨r170,hlr170,hm⟩:=hm
  refine W.mono (Q:=fun e0 s0 h0=>match r170 with | .inl e=>e0=.exit 0 ∧ ∃w:Nat,s0=[(0,.str p0),(3,.ptr 0 0 0),(5,.msl 3 w 0 4 e.length e.length)] ∧ h0=[.cells [.int .i64 0,.int .i64 0,.int .i64 0] 0 34,.dead,.dead,.rows (e.map e_api_Token) 4 w 69] | .inr q=>e0=.ret ∧ s0=[(2,.sl (q.1.map e_api_Token)),(3,.ptr 0 0 0)] ∧ h0=[.cells (e_api_Fault q.2) 0 34]) (W.loopM (step:=lex_Tokens_s1 v1 p0) (a0:=(0,[])) (fun (a:Int × (List T_api_Token)) (v:Nat)=>([(0,.str p0),(3,.ptr 0 0 0),(4,.sl (v1.map e_glyph_Spot)),(5,.msl 3 v 0 4 a.2.length a.2.length),(6,.int .i64 a.1)],[.cells [.int .i64 0,.int .i64 0,.int .i64 0] 0 34,.dead,.dead,.rows (a.2.map e_api_Token) 4 v 69])) 0 hlr170 ⟨[],[]⟩ RO ?_) ?_
  · rintro ⟨i112,l113⟩ w114 x hm hx
    rw [lex_Tokens_s1] at hm
    show WK _ _ _ _ _ [(0,.str p0),(3,.ptr 0 0 0),(4,.sl (v1.map e_glyph_Spot)),(5,.msl 3 w114 0 4 l113.length l113.length),(6,.int .i64 i112)] [.cells [.int .i64 0,.int .i64 0,.int .i64 0] 0 34,.dead,.dead,.rows (l113.map e_api_Token) 4 w114 69]
    refine W.seq ?_
    refine W.sq [] [(0,.str p0),(3,.ptr 0 0 0),(4,.sl (v1.map e_glyph_Spot)),(5,.msl 3 w114 0 4 l113.length l113.length),(6,.int .i64 i112),(19,.bool (decide (i112<(v1.length:Int))))] [.cells [.int .i64 0,.int .i64 0,.int .i64 0] 0 34,.dead,.dead,.rows (l113.map e_api_Token) 4 w114 69] ?_
    refine W.cnd (decide (i112<(v1.length:Int))) (fun hb171=>?_) (fun hb171=>?_)
    · replace hm:=of_true hb171 hm
      refine W.skip ?_
      refine W.block ?_
      replace hm:=of_ite hm
      obtain ⟨h172,hm⟩:=hm
      refine W.sq [] [(0,.str p0),(3,.ptr 0 0 0),(4,.sl (v1.map e_glyph_Spot)),(5,.msl 3 w114 0 4 l113.length l113.length),(6,.int .i64 i112),(7,.ptr 4 0 0)] [.cells [.int .i64 0,.int .i64 0,.int .i64 0] 0 34,.dead,.dead,.rows (l113.map e_api_Token) 4 w114 69,.cells (e_glyph_Spot (rd v1 i112)) 0 63] ?_
      refine W.block ?_
      refine W.sq [] [(0,.str p0),(3,.ptr 0 0 0),(4,.sl (v1.map e_glyph_Spot)),(5,.msl 3 w114 0 4 l113.length l113.length),(6,.int .i64 i112),(7,.ptr 4 0 0),(72,.bool ((rd v1 i112).Bad))] [.cells [.int .i64 0,.int .i64 0,.int .i64 0] 0 34,.dead,.dead,.rows (l113.map e_api_Token) 4 w114 69,.cells (e_glyph_Spot (rd v1 i112)) 0 63] ?_
      refine W.cnd ((rd v1 i112).Bad) (fun hb173=>?_) (fun hb173=>?_)
      · replace hm:=of_true hb173 hm
        replace hm:=of_bind hm
        obtain ⟨v174,h175,hm⟩:=hm
        have kh175:=lex_fault_ok h175
        try simp only [hb171,hb173] at kh175
        refine W.sq [] [(2,.nils),(3,.ptr 0 0 0)] [.cells (e_api_Fault v174) 0 34] ?_
        obtain rfl:=Option.some.inj hm
        obtain rfl:=hx _ rfl
        exact W.weak ⟨[],[]⟩ (show AT _ ⟨[],[]⟩ [(2,.sl (([]).map e_api_Token)),(3,.ptr 0 0 0)] [.cells (e_api_Fault v174) 0 34] _ _ from RO) (W.ret (show _ ∧ _ from ⟨rfl,rfl,rfl⟩))
      · replace hm:=of_false hb173 hm
        replace hm:=of_bind hm
        obtain ⟨v176,h177,hm⟩:=hm
        have kh177:=glyph_Blank_ok h177
        try simp only [hb171,hb173] at kh177
        refine W.sq [] [(0,.str p0),(3,.ptr 0 0 0),(4,.sl (v1.map e_glyph_Spot)),(5,.msl 3 w114 0 4 l113.length l113.length),(6,.int .i64 i112),(7,.ptr 4 0 0),(77,.bool v176)] [.cells [.int .i64 0,.int .i64 0,.int .i64 0] 0 34,.dead,.dead,.rows (l113.map e_api_Token) 4 w114 69,.cells (e_glyph_Spot (rd v1 i112)) 0 63] ?_
        refine W.cnd v176 (fun hb178=>?_) (fun hb178=>?_)
        · replace hm:=of_true hb178 hm
          refine W.rg [] [(0,.str p0),(3,.ptr 0 0 0),(4,.sl (v1.map e_glyph_Spot)),(5,.msl 3 w114 0 4 l113.length l113.length),(6,.int .i64 (IntKind.wrap .i64 (i112+1)))] [.cells [.int .i64 0,.int .i64 0,.int .i64 0] 0 34,.dead,.dead,.rows (l113.map e_api_Token) 4 w114 69] ?_
          obtain rfl:=Option.some.inj hm
          exact ⟨((IntKind.wrap .i64 (i112+1)),l113),w114,⟨[],[]⟩,rfl,RO⟩
        · replace hm:=of_false hb178 hm
          refine W.sq [] [(0,.str p0),(3,.ptr 0 0 0),(4,.sl (v1.map e_glyph_Spot)),(5,.msl 3 w114 0 4 l113.length l113.length),(6,.int .i64 i112),(7,.ptr 4 0 0),(83,.bool ((rd v1 i112).Rune==59))] [.cells [.int .i64 0,.int .i64 0,.int .i64 0] 0 34,.dead,.dead,.rows (l113.map e_api_Token) 4 w114 69,.cells (e_glyph_Spot (rd v1 i112)) 0 63] ?_
          refine W.cnd ((rd v1 i112).Rune==59) (fun hb179=>?_) (fun hb179=>?_)
          · replace hm:=of_true hb179 hm
            refine W.block ?_
            replace hm:=of_bind hm
            obtain ⟨r204,hlr204,hm⟩:=hm
            refine W.mono (Q:=fun e0 s0 h0=>match r204 with | .inl e=>e0=.exit 3 ∧ ∃w:Unit,s0=[(0,.str p0),(3,.ptr 0 0 0),(4,.sl (v1.map e_glyph_Spot)),(5,.msl 3 w114 0 4 l113.length l113.length),(6,.int .i64 e)] ∧ h0=[.cells [.int .i64 0,.int .i64 0,.int .i64 0] 0 34,.dead,.dead,.rows (l113.map e_api_Token) 4 w114 69] | .inr q=>e0=.ret ∧ s0=[(2,.sl (q.1.map e_api_Token)),(3,.ptr 0 0 0)] ∧ h0=[.cells (e_api_Fault q.2) 0 34]) (W.loopM (step:=lex_Tokens_s2 v1) (a0:=i112) (fun (a:Int) (v:Unit)=>([(0,.str p0),(3,.ptr 0 0 0),(4,.sl (v1.map e_glyph_Spot)),(5,.msl 3 w114 0 4 l113.length l113.length),(6,.int .i64 a)],[.cells [.int .i64 0,.int .i64 0,.int .i64 0] 0 34,.dead,.dead,.rows (l113.map e_api_Token) 4 w114 69])) () hlr204 ⟨[],[]⟩ RO ?_) ?_
            · rintro i195 _ x hm hx
              rw [lex_Tokens_s2] at hm
              show WK _ _ _ _ _ [(0,.str p0),(3,.ptr 0 0 0),(4,.sl (v1.map e_glyph_Spot)),(5,.msl 3 w114 0 4 l113.length l113.length),(6,.int .i64 i195)] [.cells [.int .i64 0,.int .i64 0,.int .i64 0] 0 34,.dead,.dead,.rows (l113.map e_api_Token) 4 w114 69]
              refine W.seq ?_
              replace hm:=of_ite hm
              obtain ⟨h205,hm⟩:=hm
              refine W.sq [] [(0,.str p0),(3,.ptr 0 0 0),(4,.sl (v1.map e_glyph_Spot)),(5,.msl 3 w114 0 4 l113.length l113.length),(6,.int .i64 i195),(98,.bool (decide (i195<(v1.length:Int))&&((rd v1 i195).Rune != 10)))] [.cells [.int .i64 0,.int .i64 0,.int .i64 0] 0 34,.dead,.dead,.rows (l113.map e_api_Token) 4 w114 69] ?_
              refine W.cnd (decide (i195<(v1.length:Int))&&((rd v1 i195).Rune != 10)) (fun hb206=>?_) (fun hb206=>?_)
              · replace hm:=of_true hb206 hm
                refine W.skip ?_
                refine W.block ?_
                refine W.seq ?_
                replace hm:=of_ite hm
                obtain ⟨h207,hm⟩:=hm
                refine W.sq [] [(0,.str p0),(3,.ptr 0 0 0),(4,.sl (v1.map e_glyph_Spot)),(5,.msl 3 w114 0 4 l113.length l113.length),(6,.int .i64 i195),(103,.bool ((rd v1 i195).Bad))] [.cells [.int .i64 0,.int .i64 0,.int .i64 0] 0 34,.dead,.dead,.rows (l113.map e_api_Token) 4 w114 69] ?_
                refine W.cnd ((rd v1 i195).Bad) (fun hb208=>?_) (fun hb208=>?_)
                · replace hm:=of_true hb208 hm
                  replace hm:=of_ite hm
                  obtain ⟨h209,hm⟩:=hm
                  replace hm:=of_bind hm
                  obtain ⟨v210,h211,hm⟩:=hm
                  have kh211:=lex_fault_ok h211
                  try simp only [hb171,hb173,hb178,hb179,hb206,hb208] at kh211
                  refine W.sq [] [(2,.nils),(3,.ptr 0 0 0)] [.cells (e_api_Fault v210) 0 34] ?_
                  obtain rfl:=Option.some.inj hm
                  obtain rfl:=hx _ rfl
                  exact W.weak ⟨[],[]⟩ (show AT _ ⟨[],[]⟩ [(2,.sl (([]).map e_api_Token)),(3,.ptr 0 0 0)] [.cells (e_api_Fault v210) 0 34] _ _ from RO) (W.ret (show _ ∧ _ from ⟨rfl,rfl,rfl⟩))
                · replace hm:=of_false hb208 hm
                  refine W.skip ?_
                  refine W.rg [] [(0,.str p0),(3,.ptr 0 0 0),(4,.sl (v1.map e_glyph_Spot)),(5,.msl 3 w114 0 4 l113.length l113.length),(6,.int .i64 (IntKind.wrap .i64 (i195+1)))] [.cells [.int .i64 0,.int .i64 0,.int .i64 0] 0 34,.dead,.dead,.rows (l113.map e_api_Token) 4 w114 69] ?_
                  obtain rfl:=Option.some.inj hm
                  exact ⟨(IntKind.wrap .i64 (i195+1)),(),⟨[],[]⟩,rfl,RO⟩
              · replace hm:=of_false hb206 hm
                obtain rfl:=Option.some.inj hm
                obtain rfl:=hx _ rfl
                exact W.weak ⟨[],[]⟩ (show AT _ ⟨[],[]⟩ [(0,.str p0),(3,.ptr 0 0 0),(4,.sl (v1.map e_glyph_Spot)),(5,.msl 3 w114 0 4 l113.length l113.length),(6,.int .i64 i195)] [.cells [.int .i64 0,.int .i64 0,.int .i64 0] 0 34,.dead,.dead,.rows (l113.map e_api_Token) 4 w114 69] _ _ from RO) (W.exit (show _ ∧ _ from ⟨rfl,(),rfl,rfl⟩))
            · intro e0 s0 h0 hq
              rcases r204 with er204 | qr204
              · obtain ⟨rfl,_,rfl,rfl⟩:=hq
                replace hm:=of_inl hm
                obtain rfl:=Option.some.inj hm
                exact ⟨(er204,l113),w114,⟨[],[]⟩,rfl,RO⟩
              · obtain ⟨rfl,rfl,rfl⟩:=hq
                replace hm:=of_inr hm
                obtain rfl:=Option.some.inj hm
                obtain rfl:=hx _ rfl
                first | exact (show _ ∧ _ from ⟨rfl,rfl,rfl⟩) | exact ⟨trivial,rfl,rfl⟩
          · replace hm:=of_false hb179 hm
            replace hm:=of_bind hm
            obtain ⟨v212,h213,hm⟩:=hm
            have kh213:=lex_run_ok h213
            try simp only [hb171,hb173,hb178,hb179] at kh213
            refine W.sq [] [(0,.str p0),(3,.ptr 0 0 0),(4,.sl (v1.map e_glyph_Spot)),(5,.msl 3 w114 0 4 l113.length l113.length),(6,.int .i64 i112),(7,.ptr 4 0 0),(8,.int .i64 v212.1),(9,.int .i64 v212.2)] [.cells [.int .i64 0,.int .i64 0,.int .i64 0] 0 34,.dead,.dead,.rows (l113.map e_api_Token) 4 w114 69,.cells (e_glyph_Spot (rd v1 i112)) 0 63] ?_
            refine W.seq ?_
            refine W.sq [] [(0,.str p0),(3,.ptr 0 0 0),(4,.sl (v1.map e_glyph_Spot)),(5,.msl 3 w114 0 4 l113.length l113.length),(6,.int .i64 i112),(7,.ptr 4 0 0),(8,.int .i64 v212.1),(9,.int .i64 v212.2),(31,.bool (v212.2==0))] [.cells [.int .i64 0,.int .i64 0,.int .i64 0] 0 34,.dead,.dead,.rows (l113.map e_api_Token) 4 w114 69,.cells (e_glyph_Spot (rd v1 i112)) 0 63] ?_
            refine W.cnd (v212.2==0) (fun hb214=>?_) (fun hb214=>?_)
            · replace hm:=of_true hb214 hm
              replace hm:=of_bind hm
              obtain ⟨v215,h216,hm⟩:=hm
              have kh216:=lex_fault_ok h216
              try simp only [hb171,hb173,hb178,hb179,hb214] at kh216
              refine W.sq [] [(2,.nils),(3,.ptr 0 0 0)] [.cells (e_api_Fault v215) 0 34] ?_
              obtain rfl:=Option.some.inj hm
              obtain rfl:=hx _ rfl
              exact W.weak ⟨[],[]⟩ (show AT _ ⟨[],[]⟩ [(2,.sl (([]).map e_api_Token)),(3,.ptr 0 0 0)] [.cells (e_api_Fault v215) 0 34] _ _ from RO) (W.ret (show _ ∧ _ from ⟨rfl,rfl,rfl⟩))
            · replace hm:=of_false hb214 hm
              refine W.skip ?_
              replace hm:=of_ite hm
              obtain ⟨h217,hm⟩:=hm
              replace hm:=of_ite hm
              obtain ⟨h218,hm⟩:=hm
              replace hm:=of_ite hm
              obtain ⟨h219,hm⟩:=hm
              replace hm:=of_ite hm
              obtain ⟨h220,hm⟩:=hm
              replace hm:=of_let hm
              obtain ⟨s221,h222,hm⟩:=hm
              refine W.sqJ [23,24] [23,24] [0,1,2,3,4,5,6,7,8,9,10,11,12,13,14,15,16,17,18,19,20,21,22] 5 [] [(0,.str p0),(3,.ptr 0 0 0),(4,.sl (v1.map e_glyph_Spot)),(5,.msl 3 w114 0 4 l113.length l113.length),(6,.int .i64 i112),(7,.ptr 4 0 0),(8,.int .i64 v212.1),(10,.ptr 5 0 0)] [.cells [.int .i64 0,.int .i64 0,.int .i64 0] 0 34,.dead,.dead,.rows (l113.map e_api_Token) 4 w114 69,.cells (e_glyph_Spot (rd v1 i112)) 0 63,.cells [.int .i64 v212.2,.int .i64 ((rd v1 i112).Line),.int .i64 ((rd v1 i112).Col),.str s221] 0 69] v_mixed ?_ (hd:=drawOk_of [[],[],[1],[],[3],[],[],[6],[],[],[9],[8,9,10],[8,9,10,11],[8,9,10,11,12],[],[],[15],[14,15,16],[14,15,16,17],[14,15,16,17,18],[8,9,10,11,12,13,14,15,16,17,18,19],[5,6,7,8,9,10,11,12,13,14,15,16,17,18,19,20],[0,1,2,3,4,5,6,7,8,9,10,11,12,13,14,15,16,17,18,19,20,21],[],[0,1,2,3,4,5,6,7,8,9,10,11,12,13,14,15,16,17,18,19,20,21,22,23]] (by kernel_rfl) (by kernel_rfl) (by kernel_rfl))
              clear h222
              refine W.seq ?_
              replace hm:=of_bind hm
              obtain ⟨v223,h224,hm⟩:=hm
              have kh224:=lex_wrong_ok h224
              try simp only [hb171,hb173,hb178,hb179,hb214] at kh224
              refine W.sq [] [(0,.str p0),(3,.ptr 0 0 0),(4,.sl (v1.map e_glyph_Spot)),(5,.msl 3 w114 0 4 l113.length l113.length),(7,.ptr 4 0 0),(8,.int .i64 v212.1),(10,.ptr 5 0 0),(11,.int .i64 v223)] [.cells [.int .i64 0,.int .i64 0,.int .i64 0] 0 34,.dead,.dead,.rows (l113.map e_api_Token) 4 w114 69,.cells (e_glyph_Spot (rd v1 i112)) 0 63,.cells [.int .i64 v212.2,.int .i64 ((rd v1 i112).Line),.int .i64 ((rd v1 i112).Col),.str s221] 0 69] ?_
              refine W.sq [] [(0,.str p0),(3,.ptr 0 0 0),(4,.sl (v1.map e_glyph_Spot)),(5,.msl 3 w114 0 4 l113.length l113.length),(7,.ptr 4 0 0),(8,.int .i64 v212.1),(10,.ptr 5 0 0),(11,.int .i64 v223),(63,.bool (v223 != 0))] [.cells [.int .i64 0,.int .i64 0,.int .i64 0] 0 34,.dead,.dead,.rows (l113.map e_api_Token) 4 w114 69,.cells (e_glyph_Spot (rd v1 i112)) 0 63,.cells [.int .i64 v212.2,.int .i64 ((rd v1 i112).Line),.int .i64 ((rd v1 i112).Col),.str s221] 0 69] ?_
              refine W.cnd (v223 != 0) (fun hb225=>?_) (fun hb225=>?_)
              · replace hm:=of_true hb225 hm
                replace hm:=of_bind hm
                obtain ⟨v226,h227,hm⟩:=hm
                have kh227:=lex_fault_ok h227
                try simp only [hb171,hb173,hb178,hb179,hb214,hb225] at kh227
                refine W.sq [] [(2,.nils),(3,.ptr 0 0 0)] [.cells (e_api_Fault v226) 0 34] ?_
                obtain rfl:=Option.some.inj hm
                obtain rfl:=hx _ rfl
                exact W.weak ⟨[],[]⟩ (show AT _ ⟨[],[]⟩ [(2,.sl (([]).map e_api_Token)),(3,.ptr 0 0 0)] [.cells (e_api_Fault v226) 0 34] _ _ from RO) (W.ret (show _ ∧ _ from ⟨rfl,rfl,rfl⟩))
              · replace hm:=of_false hb225 hm
                refine W.skip ?_
                replace hm:=of_ite hm
                obtain ⟨h228,hm⟩:=hm
                replace hm:=of_let hm
                obtain ⟨l229,h230,hm⟩:=hm
                refine W.sq [] [(0,.str p0),(3,.ptr 0 0 0),(4,.sl (v1.map e_glyph_Spot)),(5,.msl 3 (w114+1) 0 4 l229.length l229.length),(8,.int .i64 v212.1)] [.cells [.int .i64 0,.int .i64 0,.int .i64 0] 0 34,.dead,.dead,.rows (l229.map e_api_Token) 4 (w114+1) 69] ?_
                clear h230
                refine W.rg [] [(0,.str p0),(3,.ptr 0 0 0),(4,.sl (v1.map e_glyph_Spot)),(5,.msl 3 (w114+1) 0 4 l229.length l229.length),(6,.int .i64 v212.1)] [.cells [.int .i64 0,.int .i64 0,.int .i64 0] 0 34,.dead,.dead,.rows (l229.map e_api_Token) 4 (w114+1) 69] ?_
                obtain rfl:=Option.some.inj hm
                exact ⟨(v212.1,l229),(w114+1),⟨[],[]⟩,rfl,RO⟩
    · replace hm:=of_false hb171 hm
      obtain rfl:=Option.some.inj hm
      obtain rfl:=hx _ rfl
      exact W.weak ⟨[],[]⟩ (show AT _ ⟨[],[]⟩ [(0,.str p0),(3,.ptr 0 0 0),(5,.msl 3 w114 0 4 l113.length l113.length)] [.cells [.int .i64 0,.int .i64 0,.int .i64 0] 0 34,.dead,.dead,.rows (l113.map e_api_Token) 4 w114 69] _ _ from RO) (W.exit (show _ ∧ _ from ⟨rfl,w114,rfl,rfl⟩))
  · intro e0 s0 h0 hq
    rcases r170 with er170 | qr170
    · obtain ⟨rfl,w169,rfl,rfl⟩:=hq
      replace hm:=of_inl hm
      show WK _ _ _ _ _ [(0,.str p0),(3,.ptr 0 0 0),(5,.msl 3 w169 0 4 er170.length er170.length)] [.cells [.int .i64 0,.int .i64 0,.int .i64 0] 0 34,.dead,.dead,.rows (er170.map e_api_Token) 4 w169 69]
      replace hm:=of_bind hm
      obtain ⟨v231,h232,hm⟩:=hm
      have kh232:=glyph_End_ok h232
      refine W.sq [] [(3,.ptr 0 0 0),(5,.msl 3 w169 0 4 er170.length er170.length),(12,.int .i64 v231.1),(13,.int .i64 v231.2)] [.cells [.int .i64 0,.int .i64 0,.int .i64 0] 0 34,.dead,.dead,.rows (er170.map e_api_Token) 4 w169 69] ?_
      replace hm:=of_ite hm
      obtain ⟨h233,hm⟩:=hm
      replace hm:=of_let hm
      obtain ⟨l234,h235,hm⟩:=hm
      refine W.sq [] [(2,.msl 3 (w169+1) 0 4 l234.length l234.length),(3,.ptr 0 0 0)] [.cells [.int .i64 0,.int .i64 0,.int .i64 0] 0 34,.dead,.dead,.rows (l234.map e_api_Token) 4 (w169+1) 69] ?_
      clear h235
      obtain rfl:=Option.some.inj hm
      exact W.ret (EndsF.retW [3] RO)
    · obtain ⟨rfl,rfl,rfl⟩:=hq
      replace hm:=of_inr hm
      obtain rfl:=Option.some.inj hm
      exact EndsF.retW [] RO

theorem palingref1_Tokens_ok{p0:ByteArray}{r:(List T_api_Token) × T_api_Fault}(hm:palingref1_Tokens p0=some r):PureF Tryd.prog 8 [.str p0] (.tuple [.sl (r.1.map e_api_Token),.agg [.int .i64 r.2.Code,.int .i64 r.2.Line,.int .i64 r.2.Col]]):=by
  rw [palingref1_Tokens] at hm
  refine PureF.of Tryd.func8 rfl Tryd.ntmps8 (Nat.le_of_ble_eq_true rfl) ?_
  have e0:argS 0 [.str p0]=[(0,.str p0)]:=rfl
  rw [e0]
  refine W.sq [] [(0,.str p0),(3,.ptr 0 0 0)] [.cells [.int .i64 0,.int .i64 0,.int .i64 0] 0 34] ?_
  replace hm:=of_bind hm
  obtain ⟨v1,h2,hm⟩:=hm
  have kh2:=palingref1_Spots_ok h2
  refine W.sq [] [(0,.str p0),(3,.ptr 0 0 0),(4,.sl (v1.map e_palingref1_Spot))] [.cells [.int .i64 0,.int .i64 0,.int .i64 0] 0 34] ?_
  refine W.sq [] [(0,.str p0),(3,.ptr 0 0 0),(4,.sl (v1.map e_palingref1_Spot)),(5,.nils)] [.cells [.int .i64 0,.int .i64 0,.int .i64 0] 0 34] ?_
  refine W.seq ?_
  refine W.sq [] [(0,.str p0),(3,.ptr 0 0 0),(4,.sl (v1.map e_palingref1_Spot)),(5,.nils),(6,.int .i64 0)] [.cells [.int .i64 0,.int .i64 0,.int .i64 0] 0 34] ?_
  refine W.block ?_
  replace hm:=of_bind hm
  obtain ⟨r288,hlr288,hm⟩:=hm
  refine W.mono (Q:=fun e0 s0 h0=>match r288 with | .inl e=>e0=.exit 0 ∧ ∃w:Nat,s0=[(0,.str p0),(3,.ptr 0 0 0),(5,.msl 2 w 0 4 e.length e.length)] ∧ h0=[.cells [.int .i64 0,.int .i64 0,.int .i64 0] 0 34,.dead,.rows (e.map e_api_Token) 4 w 69] | .inr q=>e0=.ret ∧ s0=[(2,.sl (q.1.map e_api_Token)),(3,.ptr 0 0 0)] ∧ h0=[.cells (e_api_Fault q.2) 0 34]) (W.loopM (step:=palingref1_Tokens_s1 v1 p0) (a0:=(0,[])) (fun (a:Int × (List T_api_Token)) (v:Nat)=>([(0,.str p0),(3,.ptr 0 0 0),(4,.sl (v1.map e_palingref1_Spot)),(5,.msl 2 v 0 4 a.2.length a.2.length),(6,.int .i64 a.1)],[.cells [.int .i64 0,.int .i64 0,.int .i64 0] 0 34,.dead,.rows (a.2.map e_api_Token) 4 v 69])) 0 hlr288 ⟨[],[]⟩ RO ?_) ?_
  · rintro ⟨i191,l192⟩ w193 x hm hx
    rw [palingref1_Tokens_s1] at hm
    show WK _ _ _ _ _ [(0,.str p0),(3,.ptr 0 0 0),(4,.sl (v1.map e_palingref1_Spot)),(5,.msl 2 w193 0 4 l192.length l192.length),(6,.int .i64 i191)] [.cells [.int .i64 0,.int .i64 0,.int .i64 0] 0 34,.dead,.rows (l192.map e_api_Token) 4 w193 69]
    refine W.seq ?_
    refine W.sq [] [(0,.str p0),(3,.ptr 0 0 0),(4,.sl (v1.map e_palingref1_Spot)),(5,.msl 2 w193 0 4 l192.length l192.length),(6,.int .i64 i191),(20,.bool (decide (i191<(v1.length:Int))))] [.cells [.int .i64 0,.int .i64 0,.int .i64 0] 0 34,.dead,.rows (l192.map e_api_Token) 4 w193 69] ?_
    refine W.cnd (decide (i191<(v1.length:Int))) (fun hb289=>?_) (fun hb289=>?_)
    · replace hm:=of_true hb289 hm
      refine W.skip ?_
      refine W.block ?_
      replace hm:=of_ite hm
      obtain ⟨h290,hm⟩:=hm
      refine W.sq [] [(0,.str p0),(3,.ptr 0 0 0),(4,.sl (v1.map e_palingref1_Spot)),(5,.msl 2 w193 0 4 l192.length l192.length),(6,.int .i64 i191),(7,.ptr 3 0 0)] [.cells [.int .i64 0,.int .i64 0,.int .i64 0] 0 34,.dead,.rows (l192.map e_api_Token) 4 w193 69,.cells (e_palingref1_Spot (rd v1 i191)) 0 74] ?_
      refine W.sq [] [(0,.str p0),(3,.ptr 0 0 0),(4,.sl (v1.map e_palingref1_Spot)),(5,.msl 2 w193 0 4 l192.length l192.length),(6,.int .i64 i191),(7,.ptr 3 0 0),(8,.int .i64 (IntKind.wrap .i64 (i191+1)))] [.cells [.int .i64 0,.int .i64 0,.int .i64 0] 0 34,.dead,.rows (l192.map e_api_Token) 4 w193 69,.cells (e_palingref1_Spot (rd v1 i191)) 0 74] ?_
      refine W.sq [] [(0,.str p0),(3,.ptr 0 0 0),(4,.sl (v1.map e_palingref1_Spot)),(5,.msl 2 w193 0 4 l192.length l192.length),(6,.int .i64 i191),(7,.ptr 3 0 0),(8,.int .i64 (IntKind.wrap .i64 (i191+1))),(9,.int .i64 0)] [.cells [.int .i64 0,.int .i64 0,.int .i64 0] 0 34,.dead,.rows (l192.map e_api_Token) 4 w193 69,.cells (e_palingref1_Spot (rd v1 i191)) 0 74] ?_
      refine W.cut (fun s h=>∃(v:Int × Int) (w:Unit) (F:Gs),palingref1_Tokens_j1 v1 p0 i191 l192 v.1 v.2=some x ∧ AT 0 F [(0,.str p0),(3,.ptr 0 0 0),(4,.sl (v1.map e_palingref1_Spot)),(5,.msl 2 w193 0 4 l192.length l192.length),(6,.int .i64 i191),(7,.ptr 3 0 0),(8,.int .i64 v.1),(9,.int .i64 v.2)] [.cells [.int .i64 0,.int .i64 0,.int .i64 0] 0 34,.dead,.rows (l192.map e_api_Token) 4 w193 69,.cells (e_palingref1_Spot (rd v1 i191)) 0 74] s h) ?_ ?_
      · refine W.block ?_
        refine W.sq [] [(0,.str p0),(3,.ptr 0 0 0),(4,.sl (v1.map e_palingref1_Spot)),(5,.msl 2 w193 0 4 l192.length l192.length),(6,.int .i64 i191),(7,.ptr 3 0 0),(8,.int .i64 (IntKind.wrap .i64 (i191+1))),(9,.int .i64 0),(32,.bool ((rd v1 i191).Bad))] [.cells [.int .i64 0,.int .i64 0,.int .i64 0] 0 34,.dead,.rows (l192.map e_api_Token) 4 w193 69,.cells (e_palingref1_Spot (rd v1 i191)) 0 74] ?_
        refine W.cnd ((rd v1 i191).Bad) (fun hb310=>?_) (fun hb310=>?_)
        · replace hm:=of_true hb310 hm
          refine W.sqJ [6] [] [] 0 [] [(2,.nils),(3,.ptr 0 0 0)] [.cells [.int .i64 1,.int .i64 ((rd v1 i191).Line),.int .i64 ((rd v1 i191).Col)] 0 34] v_mixed ?_
          obtain rfl:=Option.some.inj hm
          obtain rfl:=hx _ rfl
          exact W.weak ⟨[],[]⟩ (show AT _ ⟨[],[]⟩ [(2,.sl (([]).map e_api_Token)),(3,.ptr 0 0 0)] [.cells [.int .i64 1,.int .i64 ((rd v1 i191).Line),.int .i64 ((rd v1 i191).Col)] 0 34] _ _ from RO) (W.ret (show _ ∧ _ from ⟨rfl,rfl,rfl⟩))
        · replace hm:=of_false hb310 hm
          replace hm:=of_bind hm
          obtain ⟨v311,h312,hm⟩:=hm
          have kh312:=palingref1_Blank_ok h312
          try simp only [hb289,hb310] at kh312
          refine W.sq [] [(0,.str p0),(3,.ptr 0 0 0),(4,.sl (v1.map e_palingref1_Spot)),(5,.msl 2 w193 0 4 l192.length l192.length),(6,.int .i64 i191),(7,.ptr 3 0 0),(8,.int .i64 (IntKind.wrap .i64 (i191+1))),(9,.int .i64 0),(40,.bool v311)] [.cells [.int .i64 0,.int .i64 0,.int .i64 0] 0 34,.dead,.rows (l192.map e_api_Token) 4 w193 69,.cells (e_palingref1_Spot (rd v1 i191)) 0 74] ?_
          refine W.cnd v311 (fun hb313=>?_) (fun hb313=>?_)
          · replace hm:=of_true hb313 hm
            refine W.skip ?_
            exact ⟨((IntKind.wrap .i64 (i191+1)),0),(),⟨[],[]⟩,hm,RO⟩
          · replace hm:=of_false hb313 hm
            refine W.sq [] [(0,.str p0),(3,.ptr 0 0 0),(4,.sl (v1.map e_palingref1_Spot)),(5,.msl 2 w193 0 4 l192.length l192.length),(6,.int .i64 i191),(7,.ptr 3 0 0),(8,.int .i64 (IntKind.wrap .i64 (i191+1))),(9,.int .i64 0),(44,.bool ((rd v1 i191).Rune==59))] [.cells [.int .i64 0,.int .i64 0,.int .i64 0] 0 34,.dead,.rows (l192.map e_api_Token) 4 w193 69,.cells (e_palingref1_Spot (rd v1 i191)) 0 74] ?_
            refine W.cnd ((rd v1 i191).Rune==59) (fun hb314=>?_) (fun hb314=>?_)
            · replace hm:=of_true hb314 hm
              refine W.block ?_
              replace hm:=of_bind hm
              obtain ⟨r338,hlr338,hm⟩:=hm
              refine W.mono (Q:=fun e0 s0 h0=>match r338 with | .inl e=>e0=.exit 3 ∧ ∃w:Unit,s0=[(0,.str p0),(3,.ptr 0 0 0),(4,.sl (v1.map e_palingref1_Spot)),(5,.msl 2 w193 0 4 l192.length l192.length),(6,.int .i64 i191),(7,.ptr 3 0 0),(8,.int .i64 e),(9,.int .i64 0)] ∧ h0=[.cells [.int .i64 0,.int .i64 0,.int .i64 0] 0 34,.dead,.rows (l192.map e_api_Token) 4 w193 69,.cells (e_palingref1_Spot (rd v1 i191)) 0 74] | .inr q=>e0=.ret ∧ s0=[(2,.sl (q.1.map e_api_Token)),(3,.ptr 0 0 0)] ∧ h0=[.cells (e_api_Fault q.2) 0 34]) (W.loopM (step:=palingref1_Tokens_s2 v1) (a0:=(IntKind.wrap .i64 (i191+1))) (fun (a:Int) (v:Unit)=>([(0,.str p0),(3,.ptr 0 0 0),(4,.sl (v1.map e_palingref1_Spot)),(5,.msl 2 w193 0 4 l192.length l192.length),(6,.int .i64 i191),(7,.ptr 3 0 0),(8,.int .i64 a),(9,.int .i64 0)],[.cells [.int .i64 0,.int .i64 0,.int .i64 0] 0 34,.dead,.rows (l192.map e_api_Token) 4 w193 69,.cells (e_palingref1_Spot (rd v1 i191)) 0 74])) () hlr338 ⟨[],[]⟩ RO ?_) ?_
              · rintro i330 _ x hm hx
                rw [palingref1_Tokens_s2] at hm
                show WK _ _ _ _ _ [(0,.str p0),(3,.ptr 0 0 0),(4,.sl (v1.map e_palingref1_Spot)),(5,.msl 2 w193 0 4 l192.length l192.length),(6,.int .i64 i191),(7,.ptr 3 0 0),(8,.int .i64 i330),(9,.int .i64 0)] [.cells [.int .i64 0,.int .i64 0,.int .i64 0] 0 34,.dead,.rows (l192.map e_api_Token) 4 w193 69,.cells (e_palingref1_Spot (rd v1 i191)) 0 74]
                refine W.seq ?_
                replace hm:=of_ite hm
                obtain ⟨h339,hm⟩:=hm
                refine W.sq [] [(0,.str p0),(3,.ptr 0 0 0),(4,.sl (v1.map e_palingref1_Spot)),(5,.msl 2 w193 0 4 l192.length l192.length),(6,.int .i64 i191),(7,.ptr 3 0 0),(8,.int .i64 i330),(9,.int .i64 0),(59,.bool (decide (i330<(v1.length:Int))&&((rd v1 i330).Rune != 10)))] [.cells [.int .i64 0,.int .i64 0,.int .i64 0] 0 34,.dead,.rows (l192.map e_api_Token) 4 w193 69,.cells (e_palingref1_Spot (rd v1 i191)) 0 74] ?_
                refine W.cnd (decide (i330<(v1.length:Int))&&((rd v1 i330).Rune != 10)) (fun hb340=>?_) (fun hb340=>?_)
                · replace hm:=of_true hb340 hm
                  refine W.skip ?_
                  refine W.block ?_
                  refine W.seq ?_
                  replace hm:=of_ite hm
                  obtain ⟨h341,hm⟩:=hm
                  refine W.sq [] [(0,.str p0),(3,.ptr 0 0 0),(4,.sl (v1.map e_palingref1_Spot)),(5,.msl 2 w193 0 4 l192.length l192.length),(6,.int .i64 i191),(7,.ptr 3 0 0),(8,.int .i64 i330),(9,.int .i64 0),(64,.bool ((rd v1 i330).Bad))] [.cells [.int .i64 0,.int .i64 0,.int .i64 0] 0 34,.dead,.rows (l192.map e_api_Token) 4 w193 69,.cells (e_palingref1_Spot (rd v1 i191)) 0 74] ?_
                  refine W.cnd ((rd v1 i330).Bad) (fun hb342=>?_) (fun hb342=>?_)
                  · replace hm:=of_true hb342 hm
                    replace hm:=of_ite hm
                    obtain ⟨h343,hm⟩:=hm
                    replace hm:=of_ite hm
                    obtain ⟨h344,hm⟩:=hm
                    refine W.sqJ [12] [] [] 0 [] [(2,.nils),(3,.ptr 0 0 0)] [.cells [.int .i64 1,.int .i64 ((rd v1 i330).Line),.int .i64 ((rd v1 i330).Col)] 0 34] v_mixed ?_
                    obtain rfl:=Option.some.inj hm
                    obtain rfl:=hx _ rfl
                    exact W.weak ⟨[],[]⟩ (show AT _ ⟨[],[]⟩ [(2,.sl (([]).map e_api_Token)),(3,.ptr 0 0 0)] [.cells [.int .i64 1,.int .i64 ((rd v1 i330).Line),.int .i64 ((rd v1 i330).Col)] 0 34] _ _ from RO) (W.ret (show _ ∧ _ from ⟨rfl,rfl,rfl⟩))
                  · replace hm:=of_false hb342 hm
                    refine W.skip ?_
                    refine W.rg [] [(0,.str p0),(3,.ptr 0 0 0),(4,.sl (v1.map e_palingref1_Spot)),(5,.msl 2 w193 0 4 l192.length l192.length),(6,.int .i64 i191),(7,.ptr 3 0 0),(8,.int .i64 (IntKind.wrap .i64 (i330+1))),(9,.int .i64 0)] [.cells [.int .i64 0,.int .i64 0,.int .i64 0] 0 34,.dead,.rows (l192.map e_api_Token) 4 w193 69,.cells (e_palingref1_Spot (rd v1 i191)) 0 74] ?_
                    obtain rfl:=Option.some.inj hm
                    exact ⟨(IntKind.wrap .i64 (i330+1)),(),⟨[],[]⟩,rfl,RO⟩
                · replace hm:=of_false hb340 hm
                  obtain rfl:=Option.some.inj hm
                  obtain rfl:=hx _ rfl
                  exact W.weak ⟨[],[]⟩ (show AT _ ⟨[],[]⟩ [(0,.str p0),(3,.ptr 0 0 0),(4,.sl (v1.map e_palingref1_Spot)),(5,.msl 2 w193 0 4 l192.length l192.length),(6,.int .i64 i191),(7,.ptr 3 0 0),(8,.int .i64 i330),(9,.int .i64 0)] [.cells [.int .i64 0,.int .i64 0,.int .i64 0] 0 34,.dead,.rows (l192.map e_api_Token) 4 w193 69,.cells (e_palingref1_Spot (rd v1 i191)) 0 74] _ _ from RO) (W.exit (show _ ∧ _ from ⟨rfl,(),rfl,rfl⟩))
              · intro e0 s0 h0 hq
                rcases r338 with er338 | qr338
                · obtain ⟨rfl,_,rfl,rfl⟩:=hq
                  replace hm:=of_inl hm
                  exact ⟨(er338,0),(),⟨[],[]⟩,hm,RO⟩
                · obtain ⟨rfl,rfl,rfl⟩:=hq
                  replace hm:=of_inr hm
                  obtain rfl:=Option.some.inj hm
                  obtain rfl:=hx _ rfl
                  first | exact (show _ ∧ _ from ⟨rfl,rfl,rfl⟩) | exact ⟨trivial,rfl,rfl⟩
            · replace hm:=of_false hb314 hm
              refine W.sq [] [(0,.str p0),(3,.ptr 0 0 0),(4,.sl (v1.map e_palingref1_Spot)),(5,.msl 2 w193 0 4 l192.length l192.length),(6,.int .i64 i191),(7,.ptr 3 0 0),(8,.int .i64 (IntKind.wrap .i64 (i191+1))),(78,.bool ((rd v1 i191).Rune==10))] [.cells [.int .i64 0,.int .i64 0,.int .i64 0] 0 34,.dead,.rows (l192.map e_api_Token) 4 w193 69,.cells (e_palingref1_Spot (rd v1 i191)) 0 74] ?_
              refine W.cnd ((rd v1 i191).Rune==10) (fun hb345=>?_) (fun hb345=>?_)
              · replace hm:=of_true hb345 hm
                refine W.rg [] [(0,.str p0),(3,.ptr 0 0 0),(4,.sl (v1.map e_palingref1_Spot)),(5,.msl 2 w193 0 4 l192.length l192.length),(6,.int .i64 i191),(7,.ptr 3 0 0),(8,.int .i64 (IntKind.wrap .i64 (i191+1))),(9,.int .i64 4)] [.cells [.int .i64 0,.int .i64 0,.int .i64 0] 0 34,.dead,.rows (l192.map e_api_Token) 4 w193 69,.cells (e_palingref1_Spot (rd v1 i191)) 0 74] ?_
                exact ⟨((IntKind.wrap .i64 (i191+1)),4),(),⟨[],[]⟩,hm,RO⟩
              · replace hm:=of_false hb345 hm
                replace hm:=of_let hm
                obtain ⟨b346,h347,hm⟩:=hm
                refine W.sq [] [(0,.str p0),(3,.ptr 0 0 0),(4,.sl (v1.map e_palingref1_Spot)),(5,.msl 2 w193 0 4 l192.length l192.length),(6,.int .i64 i191),(7,.ptr 3 0 0),(8,.int .i64 (IntKind.wrap .i64 (i191+1))),(82,.bool b346)] [.cells [.int .i64 0,.int .i64 0,.int .i64 0] 0 34,.dead,.rows (l192.map e_api_Token) 4 w193 69,.cells (e_palingref1_Spot (rd v1 i191)) 0 74] ?_
                clear h347
                refine W.cnd b346 (fun hb348=>?_) (fun hb348=>?_)
                · replace hm:=of_true hb348 hm
                  refine W.rg [] [(0,.str p0),(3,.ptr 0 0 0),(4,.sl (v1.map e_palingref1_Spot)),(5,.msl 2 w193 0 4 l192.length l192.length),(6,.int .i64 i191),(7,.ptr 3 0 0),(8,.int .i64 (IntKind.wrap .i64 (i191+1))),(9,.int .i64 3)] [.cells [.int .i64 0,.int .i64 0,.int .i64 0] 0 34,.dead,.rows (l192.map e_api_Token) 4 w193 69,.cells (e_palingref1_Spot (rd v1 i191)) 0 74] ?_
                  exact ⟨((IntKind.wrap .i64 (i191+1)),3),(),⟨[],[]⟩,hm,RO⟩
                · replace hm:=of_false hb348 hm
                  replace hm:=of_bind hm
                  obtain ⟨v349,h350,hm⟩:=hm
                  replace hm:=of_bind hm
                  obtain ⟨v351,h352,hm⟩:=hm
                  have kh350:=palingref1_Letter_ok h350
                  try simp only [hb289,hb310,hb313,hb314,hb345,hb348] at kh350
                  have kh352:=fun hg=>palingref1_Digit_ok (of_true hg h352)
                  try simp only [hb289,hb310,hb313,hb314,hb345,hb348] at kh352
                  refine W.sq [] [(0,.str p0),(3,.ptr 0 0 0),(4,.sl (v1.map e_palingref1_Spot)),(5,.msl 2 w193 0 4 l192.length l192.length),(6,.int .i64 i191),(7,.ptr 3 0 0),(8,.int .i64 (IntKind.wrap .i64 (i191+1))),(101,.bool ((v349||v351)||((rd v1 i191).Rune==45)))] [.cells [.int .i64 0,.int .i64 0,.int .i64 0] 0 34,.dead,.rows (l192.map e_api_Token) 4 w193 69,.cells (e_palingref1_Spot (rd v1 i191)) 0 74] ?_
                  refine W.cnd ((v349||v351)||((rd v1 i191).Rune==45)) (fun hb353=>?_) (fun hb353=>?_)
                  · replace hm:=of_true hb353 hm
                    refine W.seq ?_
                    refine W.block ?_
                    replace hm:=of_bind hm
                    obtain ⟨r383,hlr383,hm⟩:=hm
                    refine W.mono (Q:=fun e0 s0 h0=>e0=.exit 5 ∧ ∃w:Unit,s0=[(0,.str p0),(3,.ptr 0 0 0),(4,.sl (v1.map e_palingref1_Spot)),(5,.msl 2 w193 0 4 l192.length l192.length),(6,.int .i64 i191),(7,.ptr 3 0 0),(8,.int .i64 r383)] ∧ h0=[.cells [.int .i64 0,.int .i64 0,.int .i64 0] 0 34,.dead,.rows (l192.map e_api_Token) 4 w193 69,.cells (e_palingref1_Spot (rd v1 i191)) 0 74]) (W.loopM (step:=palingref1_Tokens_s3 v1) (a0:=(IntKind.wrap .i64 (i191+1))) (fun (a:Int) (v:Unit)=>([(0,.str p0),(3,.ptr 0 0 0),(4,.sl (v1.map e_palingref1_Spot)),(5,.msl 2 w193 0 4 l192.length l192.length),(6,.int .i64 i191),(7,.ptr 3 0 0),(8,.int .i64 a)],[.cells [.int .i64 0,.int .i64 0,.int .i64 0] 0 34,.dead,.rows (l192.map e_api_Token) 4 w193 69,.cells (e_palingref1_Spot (rd v1 i191)) 0 74])) () hlr383 ⟨[],[]⟩ RO ?_) ?_
                    · rintro i373 _ x hm hx
                      rw [palingref1_Tokens_s3] at hm
                      show WK _ _ _ _ _ [(0,.str p0),(3,.ptr 0 0 0),(4,.sl (v1.map e_palingref1_Spot)),(5,.msl 2 w193 0 4 l192.length l192.length),(6,.int .i64 i191),(7,.ptr 3 0 0),(8,.int .i64 i373)] [.cells [.int .i64 0,.int .i64 0,.int .i64 0] 0 34,.dead,.rows (l192.map e_api_Token) 4 w193 69,.cells (e_palingref1_Spot (rd v1 i191)) 0 74]
                      refine W.seq ?_
                      replace hm:=of_ite hm
                      obtain ⟨h384,hm⟩:=hm
                      replace hm:=of_ite hm
                      obtain ⟨h385,hm⟩:=hm
                      replace hm:=of_bind hm
                      obtain ⟨v386,h387,hm⟩:=hm
                      replace hm:=of_ite hm
                      obtain ⟨h388,hm⟩:=hm
                      replace hm:=of_bind hm
                      obtain ⟨v389,h390,hm⟩:=hm
                      have kh387:=fun hg=>palingref1_Letter_ok (of_true hg h387)
                      try simp only [hb289,hb310,hb313,hb314,hb345,hb348,hb353] at kh387
                      have kh390:=fun hg=>palingref1_Digit_ok (of_true hg h390)
                      try simp only [hb289,hb310,hb313,hb314,hb345,hb348,hb353] at kh390
                      refine W.sq [] [(0,.str p0),(3,.ptr 0 0 0),(4,.sl (v1.map e_palingref1_Spot)),(5,.msl 2 w193 0 4 l192.length l192.length),(6,.int .i64 i191),(7,.ptr 3 0 0),(8,.int .i64 i373),(142,.bool ((decide (i373<(v1.length:Int))&&(!(rd v1 i373).Bad))&&(v386||v389)))] [.cells [.int .i64 0,.int .i64 0,.int .i64 0] 0 34,.dead,.rows (l192.map e_api_Token) 4 w193 69,.cells (e_palingref1_Spot (rd v1 i191)) 0 74] ?_
                      refine W.cnd ((decide (i373<(v1.length:Int))&&(!(rd v1 i373).Bad))&&(v386||v389)) (fun hb391=>?_) (fun hb391=>?_)
                      · replace hm:=of_true hb391 hm
                        refine W.skip ?_
                        refine W.block ?_
                        refine W.rg [] [(0,.str p0),(3,.ptr 0 0 0),(4,.sl (v1.map e_palingref1_Spot)),(5,.msl 2 w193 0 4 l192.length l192.length),(6,.int .i64 i191),(7,.ptr 3 0 0),(8,.int .i64 (IntKind.wrap .i64 (i373+1)))] [.cells [.int .i64 0,.int .i64 0,.int .i64 0] 0 34,.dead,.rows (l192.map e_api_Token) 4 w193 69,.cells (e_palingref1_Spot (rd v1 i191)) 0 74] ?_
                        obtain rfl:=Option.some.inj hm
                        exact ⟨(IntKind.wrap .i64 (i373+1)),(),⟨[],[]⟩,rfl,RO⟩
                      · replace hm:=of_false hb391 hm
                        obtain rfl:=Option.some.inj hm
                        obtain rfl:=hx _ rfl
                        exact W.weak ⟨[],[]⟩ (show AT _ ⟨[],[]⟩ [(0,.str p0),(3,.ptr 0 0 0),(4,.sl (v1.map e_palingref1_Spot)),(5,.msl 2 w193 0 4 l192.length l192.length),(6,.int .i64 i191),(7,.ptr 3 0 0),(8,.int .i64 i373)] [.cells [.int .i64 0,.int .i64 0,.int .i64 0] 0 34,.dead,.rows (l192.map e_api_Token) 4 w193 69,.cells (e_palingref1_Spot (rd v1 i191)) 0 74] _ _ from RO) (W.exit (show _ ∧ _ from ⟨rfl,(),rfl,rfl⟩))
                    · rintro e0 s0 h0 ⟨rfl,_,rfl,rfl⟩
                      show WK _ _ _ _ _ [(0,.str p0),(3,.ptr 0 0 0),(4,.sl (v1.map e_palingref1_Spot)),(5,.msl 2 w193 0 4 l192.length l192.length),(6,.int .i64 i191),(7,.ptr 3 0 0),(8,.int .i64 r383)] [.cells [.int .i64 0,.int .i64 0,.int .i64 0] 0 34,.dead,.rows (l192.map e_api_Token) 4 w193 69,.cells (e_palingref1_Spot (rd v1 i191)) 0 74]
                      refine W.sq [] [(0,.str p0),(3,.ptr 0 0 0),(4,.sl (v1.map e_palingref1_Spot)),(5,.msl 2 w193 0 4 l192.length l192.length),(6,.int .i64 i191),(7,.ptr 3 0 0),(8,.int .i64 r383),(9,.int .i64 2)] [.cells [.int .i64 0,.int .i64 0,.int .i64 0] 0 34,.dead,.rows (l192.map e_api_Token) 4 w193 69,.cells (e_palingref1_Spot (rd v1 i191)) 0 74] ?_
                      replace hm:=of_bind hm
                      obtain ⟨v392,h393,hm⟩:=hm
                      have kh393:=palingref1_Letter_ok h393
                      try simp only [hb289,hb310,hb313,hb314,hb345,hb348,hb353] at kh393
                      refine W.sq [] [(0,.str p0),(3,.ptr 0 0 0),(4,.sl (v1.map e_palingref1_Spot)),(5,.msl 2 w193 0 4 l192.length l192.length),(6,.int .i64 i191),(7,.ptr 3 0 0),(8,.int .i64 r383),(9,.int .i64 2),(147,.bool v392)] [.cells [.int .i64 0,.int .i64 0,.int .i64 0] 0 34,.dead,.rows (l192.map e_api_Token) 4 w193 69,.cells (e_palingref1_Spot (rd v1 i191)) 0 74] ?_
                      refine W.cnd v392 (fun hb394=>?_) (fun hb394=>?_)
                      · replace hm:=of_true hb394 hm
                        refine W.rg [] [(0,.str p0),(3,.ptr 0 0 0),(4,.sl (v1.map e_palingref1_Spot)),(5,.msl 2 w193 0 4 l192.length l192.length),(6,.int .i64 i191),(7,.ptr 3 0 0),(8,.int .i64 r383),(9,.int .i64 1)] [.cells [.int .i64 0,.int .i64 0,.int .i64 0] 0 34,.dead,.rows (l192.map e_api_Token) 4 w193 69,.cells (e_palingref1_Spot (rd v1 i191)) 0 74] ?_
                        exact ⟨(r383,1),(),⟨[],[]⟩,hm,RO⟩
                      · replace hm:=of_false hb394 hm
                        refine W.skip ?_
                        exact ⟨(r383,2),(),⟨[],[]⟩,hm,RO⟩
                  · replace hm:=of_false hb353 hm
                    refine W.sqJ [6] [] [] 0 [] [(2,.nils),(3,.ptr 0 0 0)] [.cells [.int .i64 1,.int .i64 ((rd v1 i191).Line),.int .i64 ((rd v1 i191).Col)] 0 34] v_mixed ?_
                    obtain rfl:=Option.some.inj hm
                    obtain rfl:=hx _ rfl
                    exact W.weak ⟨[],[]⟩ (show AT _ ⟨[],[]⟩ [(2,.sl (([]).map e_api_Token)),(3,.ptr 0 0 0)] [.cells [.int .i64 1,.int .i64 ((rd v1 i191).Line),.int .i64 ((rd v1 i191).Col)] 0 34] _ _ from RO) (W.ret (show _ ∧ _ from ⟨rfl,rfl,rfl⟩))
      · rintro s h ⟨⟨i291,i292⟩,_,F,hm,hat⟩
        refine W.weak F hat ?_
        show WK _ _ _ _ _ [(0,.str p0),(3,.ptr 0 0 0),(4,.sl (v1.map e_palingref1_Spot)),(5,.msl 2 w193 0 4 l192.length l192.length),(6,.int .i64 i191),(7,.ptr 3 0 0),(8,.int .i64 i291),(9,.int .i64 i292)] [.cells [.int .i64 0,.int .i64 0,.int .i64 0] 0 34,.dead,.rows (l192.map e_api_Token) 4 w193 69,.cells (e_palingref1_Spot (rd v1 i191)) 0 74]
        rw [palingref1_Tokens_j1] at hm
        replace hm:=of_ite hm
        obtain ⟨h293,hm⟩:=hm
        replace hm:=of_ite hm
        obtain ⟨h294,hm⟩:=hm
        replace hm:=of_ite hm
        obtain ⟨h295,hm⟩:=hm
        replace hm:=of_ite hm
        obtain ⟨h296,hm⟩:=hm
        replace hm:=of_let hm
        obtain ⟨s297,h298,hm⟩:=hm
        refine W.sqJ [] [] [] 0 [] [(0,.str p0),(3,.ptr 0 0 0),(4,.sl (v1.map e_palingref1_Spot)),(5,.msl 2 w193 0 4 l192.length l192.length),(6,.int .i64 i191),(7,.ptr 3 0 0),(8,.int .i64 i291),(9,.int .i64 i292),(10,.str s297)] [.cells [.int .i64 0,.int .i64 0,.int .i64 0] 0 34,.dead,.rows (l192.map e_api_Token) 4 w193 69,.cells (e_palingref1_Spot (rd v1 i191)) 0 74] v_mixed ?_ (hd:=drawOk_of [[],[],[1],[],[],[4],[3,4,5],[3,4,5,6],[3,4,5,6,7],[],[],[10],[9,10,11],[9,10,11,12],[9,10,11,12,13],[3,4,5,6,7,8,9,10,11,12,13,14],[0,1,2,3,4,5,6,7,8,9,10,11,12,13,14,15],[0,1,2,3,4,5,6,7,8,9,10,11,12,13,14,15,16]] (by kernel_rfl) (by kernel_rfl) (by kernel_rfl))
        clear h298
        refine W.seq ?_
        refine W.sq [] [(0,.str p0),(3,.ptr 0 0 0),(4,.sl (v1.map e_palingref1_Spot)),(5,.msl 2 w193 0 4 l192.length l192.length),(7,.ptr 3 0 0),(8,.int .i64 i291),(9,.int .i64 i292),(10,.str s297),(172,.bool ((i292==1)&&decide ((IntKind.wrap .i64 (i291-i191))>16)))] [.cells [.int .i64 0,.int .i64 0,.int .i64 0] 0 34,.dead,.rows (l192.map e_api_Token) 4 w193 69,.cells (e_palingref1_Spot (rd v1 i191)) 0 74] ?_
        refine W.cnd ((i292==1)&&decide ((IntKind.wrap .i64 (i291-i191))>16)) (fun hb299=>?_) (fun hb299=>?_)
        · replace hm:=of_true hb299 hm
          refine W.sqJ [6] [] [] 0 [] [(2,.nils),(3,.ptr 0 0 0)] [.cells [.int .i64 3,.int .i64 ((rd v1 i191).Line),.int .i64 ((rd v1 i191).Col)] 0 34] v_mixed ?_
          obtain rfl:=Option.some.inj hm
          obtain rfl:=hx _ rfl
          exact W.weak ⟨[],[]⟩ (show AT _ ⟨[],[]⟩ [(2,.sl (([]).map e_api_Token)),(3,.ptr 0 0 0)] [.cells [.int .i64 3,.int .i64 ((rd v1 i191).Line),.int .i64 ((rd v1 i191).Col)] 0 34] _ _ from RO) (W.ret (show _ ∧ _ from ⟨rfl,rfl,rfl⟩))
        · replace hm:=of_false hb299 hm
          refine W.skip ?_
          refine W.cut (fun s h=>∃(v:Unit) (w:Unit) (F:Gs),palingref1_Tokens_j2 i292 l192 v1 i191 s297 i291=some x ∧ AT 0 F [(0,.str p0),(3,.ptr 0 0 0),(4,.sl (v1.map e_palingref1_Spot)),(5,.msl 2 w193 0 4 l192.length l192.length),(7,.ptr 3 0 0),(8,.int .i64 i291),(9,.int .i64 i292),(10,.str s297)] [.cells [.int .i64 0,.int .i64 0,.int .i64 0] 0 34,.dead,.rows (l192.map e_api_Token) 4 w193 69,.cells (e_palingref1_Spot (rd v1 i191)) 0 74] s h) ?_ ?_
          · refine W.sq [] [(0,.str p0),(3,.ptr 0 0 0),(4,.sl (v1.map e_palingref1_Spot)),(5,.msl 2 w193 0 4 l192.length l192.length),(7,.ptr 3 0 0),(8,.int .i64 i291),(9,.int .i64 i292),(10,.str s297),(179,.bool (i292==2))] [.cells [.int .i64 0,.int .i64 0,.int .i64 0] 0 34,.dead,.rows (l192.map e_api_Token) 4 w193 69,.cells (e_palingref1_Spot (rd v1 i191)) 0 74] ?_
            refine W.cnd (i292==2) (fun hb306=>?_) (fun hb306=>?_)
            · replace hm:=of_true hb306 hm
              replace hm:=of_bind hm
              obtain ⟨v307,h308,hm⟩:=hm
              have kh308:=palingref1_Read_ok h308
              try simp only [hb289,hb299,hb306] at kh308
              refine W.sq [] [(0,.str p0),(3,.ptr 0 0 0),(4,.sl (v1.map e_palingref1_Spot)),(5,.msl 2 w193 0 4 l192.length l192.length),(7,.ptr 3 0 0),(8,.int .i64 i291),(9,.int .i64 i292),(10,.str s297),(12,.bool v307.2)] [.cells [.int .i64 0,.int .i64 0,.int .i64 0] 0 34,.dead,.rows (l192.map e_api_Token) 4 w193 69,.cells (e_palingref1_Spot (rd v1 i191)) 0 74] ?_
              refine W.sq [] [(0,.str p0),(3,.ptr 0 0 0),(4,.sl (v1.map e_palingref1_Spot)),(5,.msl 2 w193 0 4 l192.length l192.length),(7,.ptr 3 0 0),(8,.int .i64 i291),(9,.int .i64 i292),(10,.str s297),(186,.bool (!v307.2))] [.cells [.int .i64 0,.int .i64 0,.int .i64 0] 0 34,.dead,.rows (l192.map e_api_Token) 4 w193 69,.cells (e_palingref1_Spot (rd v1 i191)) 0 74] ?_
              refine W.cnd (!v307.2) (fun hb309=>?_) (fun hb309=>?_)
              · replace hm:=of_true hb309 hm
                refine W.sqJ [6] [] [] 0 [] [(2,.nils),(3,.ptr 0 0 0)] [.cells [.int .i64 2,.int .i64 ((rd v1 i191).Line),.int .i64 ((rd v1 i191).Col)] 0 34] v_mixed ?_
                obtain rfl:=Option.some.inj hm
                obtain rfl:=hx _ rfl
                exact W.weak ⟨[],[]⟩ (show AT _ ⟨[],[]⟩ [(2,.sl (([]).map e_api_Token)),(3,.ptr 0 0 0)] [.cells [.int .i64 2,.int .i64 ((rd v1 i191).Line),.int .i64 ((rd v1 i191).Col)] 0 34] _ _ from RO) (W.ret (show _ ∧ _ from ⟨rfl,rfl,rfl⟩))
              · replace hm:=of_false hb309 hm
                refine W.skip ?_
                exact ⟨(),(),⟨[],[]⟩,hm,RO⟩
            · replace hm:=of_false hb306 hm
              refine W.skip ?_
              exact ⟨(),(),⟨[],[]⟩,hm,RO⟩
          · rintro s h ⟨_,_,F,hm,hat⟩
            refine W.weak F hat ?_
            show WK _ _ _ _ _ [(0,.str p0),(3,.ptr 0 0 0),(4,.sl (v1.map e_palingref1_Spot)),(5,.msl 2 w193 0 4 l192.length l192.length),(7,.ptr 3 0 0),(8,.int .i64 i291),(9,.int .i64 i292),(10,.str s297)] [.cells [.int .i64 0,.int .i64 0,.int .i64 0] 0 34,.dead,.rows (l192.map e_api_Token) 4 w193 69,.cells (e_palingref1_Spot (rd v1 i191)) 0 74]
            rw [palingref1_Tokens_j2] at hm
            refine W.cut (fun s h=>∃(v:(List T_api_Token)) (w:Nat) (F:Gs),palingref1_Tokens_j3 i291 v=some x ∧ AT 0 F [(0,.str p0),(3,.ptr 0 0 0),(4,.sl (v1.map e_palingref1_Spot)),(5,.msl 2 w 0 4 v.length v.length),(8,.int .i64 i291)] [.cells [.int .i64 0,.int .i64 0,.int .i64 0] 0 34,.dead,.rows (v.map e_api_Token) 4 w 69] s h) ?_ ?_
            · refine W.sq [] [(0,.str p0),(3,.ptr 0 0 0),(4,.sl (v1.map e_palingref1_Spot)),(5,.msl 2 w193 0 4 l192.length l192.length),(7,.ptr 3 0 0),(8,.int .i64 i291),(9,.int .i64 i292),(10,.str s297),(193,.bool (i292 != 0))] [.cells [.int .i64 0,.int .i64 0,.int .i64 0] 0 34,.dead,.rows (l192.map e_api_Token) 4 w193 69,.cells (e_palingref1_Spot (rd v1 i191)) 0 74] ?_
              refine W.cnd (i292 != 0) (fun hb302=>?_) (fun hb302=>?_)
              · replace hm:=of_true hb302 hm
                replace hm:=of_ite hm
                obtain ⟨h303,hm⟩:=hm
                replace hm:=of_let hm
                obtain ⟨l304,h305,hm⟩:=hm
                refine W.rg [] [(0,.str p0),(3,.ptr 0 0 0),(4,.sl (v1.map e_palingref1_Spot)),(5,.msl 2 (w193+1) 0 4 l304.length l304.length),(8,.int .i64 i291)] [.cells [.int .i64 0,.int .i64 0,.int .i64 0] 0 34,.dead,.rows (l304.map e_api_Token) 4 (w193+1) 69] ?_
                clear h305
                exact ⟨l304,(w193+1),⟨[],[]⟩,hm,RO⟩
              · replace hm:=of_false hb302 hm
                refine W.skip ?_
                exact ⟨l192,w193,⟨[],[]⟩,hm,RO⟩
            · rintro s h ⟨l300,w301,F,hm,hat⟩
              refine W.weak F hat ?_
              show WK _ _ _ _ _ [(0,.str p0),(3,.ptr 0 0 0),(4,.sl (v1.map e_palingref1_Spot)),(5,.msl 2 w301 0 4 l300.length l300.length),(8,.int .i64 i291)] [.cells [.int .i64 0,.int .i64 0,.int .i64 0] 0 34,.dead,.rows (l300.map e_api_Token) 4 w301 69]
              rw [palingref1_Tokens_j3] at hm
              refine W.rg [] [(0,.str p0),(3,.ptr 0 0 0),(4,.sl (v1.map e_palingref1_Spot)),(5,.msl 2 w301 0 4 l300.length l300.length),(6,.int .i64 i291)] [.cells [.int .i64 0,.int .i64 0,.int .i64 0] 0 34,.dead,.rows (l300.map e_api_Token) 4 w301 69] ?_
              obtain rfl:=Option.some.inj hm
              exact ⟨(i291,l300),w301,⟨[],[]⟩,rfl,RO⟩
    · replace hm:=of_false hb289 hm
      obtain rfl:=Option.some.inj hm
      obtain rfl:=hx _ rfl
      exact W.weak ⟨[],[]⟩ (show AT _ ⟨[],[]⟩ [(0,.str p0),(3,.ptr 0 0 0),(5,.msl 2 w193 0 4 l192.length l192.length)] [.cells [.int .i64 0,.int .i64 0,.int .i64 0] 0 34,.dead,.rows (l192.map e_api_Token) 4 w193 69] _ _ from RO) (W.exit (show _ ∧ _ from ⟨rfl,w193,rfl,rfl⟩))
  · intro e0 s0 h0 hq
    rcases r288 with er288 | qr288
    · obtain ⟨rfl,w287,rfl,rfl⟩:=hq
      replace hm:=of_inl hm
      show WK _ _ _ _ _ [(0,.str p0),(3,.ptr 0 0 0),(5,.msl 2 w287 0 4 er288.length er288.length)] [.cells [.int .i64 0,.int .i64 0,.int .i64 0] 0 34,.dead,.rows (er288.map e_api_Token) 4 w287 69]
      replace hm:=of_bind hm
      obtain ⟨v395,h396,hm⟩:=hm
      have kh396:=palingref1_End_ok h396
      refine W.sq [] [(3,.ptr 0 0 0),(5,.msl 2 w287 0 4 er288.length er288.length),(13,.int .i64 v395.1),(14,.int .i64 v395.2)] [.cells [.int .i64 0,.int .i64 0,.int .i64 0] 0 34,.dead,.rows (er288.map e_api_Token) 4 w287 69] ?_
      replace hm:=of_ite hm
      obtain ⟨h397,hm⟩:=hm
      replace hm:=of_let hm
      obtain ⟨l398,h399,hm⟩:=hm
      refine W.sq [] [(2,.msl 2 (w287+1) 0 4 l398.length l398.length),(3,.ptr 0 0 0)] [.cells [.int .i64 0,.int .i64 0,.int .i64 0] 0 34,.dead,.rows (l398.map e_api_Token) 4 (w287+1) 69] ?_
      clear h399
      obtain rfl:=Option.some.inj hm
      exact W.ret (EndsF.retW [2] RO)
    · obtain ⟨rfl,rfl,rfl⟩:=hq
      replace hm:=of_inr hm
      obtain rfl:=Option.some.inj hm
      exact EndsF.retW [] RO


end Go.Proofs.YtgdchoahbiagbaaDoor
