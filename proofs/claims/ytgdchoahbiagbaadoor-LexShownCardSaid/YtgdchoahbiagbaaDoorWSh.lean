import Derived.Test.YtgdchoahbiagbaaDoorVFacts
import Derived.Test.YtgdchoahbiagbaaDoorPalSh
import Derived.Test.YtgdchoahbiagbaaDoorWL
import Derived.Test.YtgdchoahbiagbaaDoorWF
set_option maxRecDepth 100000
set_option maxHeartbeats 4000000
set_option linter.unusedSimpArgs false
set_option linter.unusedVariables false
set_option linter.unusedSectionVars false
namespace Go.Proofs.YtgdchoahbiagbaaDoor
open Go.Vs
variable [TabX]
theorem palinglaw5_alive_ok{r:Bool}(hm:palinglaw5_alive =some r):PureF Tryd.prog 10 [] (.bool r):=by
  rw [palinglaw5_alive] at hm
  refine PureF.of Tryd.func10 rfl Tryd.ntmps10 (Nat.le_of_ble_eq_true rfl) ?_
  have e0:argS 0 []=[]:=rfl
  rw [e0]
  refine W.sq [] [] [] ?_
  replace hm:=of_bind hm
  obtain ⟨v1,h2,hm⟩:=hm
  have kh2:=lex_Tokens_ok h2
  refine W.sq [] [(1,.sl (v1.1.map e_api_Token)),(2,.ptr 0 0 0)] [.cells (e_api_Fault v1.2) 0 34] ?_
  replace hm:=of_bind hm
  obtain ⟨v3,h4,hm⟩:=hm
  have kh4:=lex_Tokens_ok h4
  refine W.sq [] [(1,.sl (v1.1.map e_api_Token)),(2,.ptr 0 0 0),(4,.ptr 1 0 0)] [.cells (e_api_Fault v1.2) 0 34,.cells (e_api_Fault v3.2) 0 34] ?_
  replace hm:=of_ite hm
  obtain ⟨h5,hm⟩:=hm
  replace hm:=of_ite hm
  obtain ⟨h6,hm⟩:=hm
  replace hm:=of_let hm
  obtain ⟨b7,h8,hm⟩:=hm
  refine W.sq [] [(0,.bool b7)] [] ?_
  clear h8
  obtain rfl:=Option.some.inj hm
  exact W.ret (EndsF.retW [] RO)

theorem palinglaw5_LexShown_ok{p0:(List (List T_palingbook_Act))}{p1:Int}{p2:Int}{r:Bool}(hm:palinglaw5_LexShown p0 p1 p2=some r):PureF Tryd.prog 3 [.sl (p0.map (eSl e_palingbook_Act)),.int .i64 p1,.int .u8 p2] (.bool r):=by
  rw [palinglaw5_LexShown] at hm
  refine PureF.of Tryd.func3 rfl Tryd.ntmps3 (Nat.le_of_ble_eq_true rfl) ?_
  have e0:argS 0 [.sl (p0.map (eSl e_palingbook_Act)),.int .i64 p1,.int .u8 p2]=[(0,.sl (p0.map (eSl e_palingbook_Act))),(1,.int .i64 p1),(2,.int .u8 p2)]:=rfl
  rw [e0]
  refine W.sq [] [(0,.sl (p0.map (eSl e_palingbook_Act))),(1,.int .i64 p1),(2,.int .u8 p2)] [] ?_
  replace hm:=of_bind hm
  obtain ⟨v1,h2,hm⟩:=hm
  replace hm:=of_bind hm
  obtain ⟨v3,h4,hm⟩:=hm
  replace hm:=of_let hm
  obtain ⟨l5,h6,hm⟩:=hm
  have kh2:=palingbook_Prog_ok h2
  have kh4:=palingref1_Show_ok h4
  refine W.sq [] [(1,.int .i64 p1),(2,.int .u8 p2),(7,.msl 0 1 0 1 l5.length l5.length)] [.rows (l5.map (eInt .u8)) 1 1 5] ?_
  clear h6
  refine W.cut (fun s h=>∃(v:(List Int)) (w:Unit) (F:Gs),palinglaw5_LexShown_j1 v=some r ∧ AT 0 F [(7,.msl 0 1 0 1 v.length v.length)] [.rows (v.map (eInt .u8)) 1 1 5] s h) ?_ ?_
  · refine W.sq [] [(1,.int .i64 p1),(2,.int .u8 p2),(7,.msl 0 1 0 1 l5.length l5.length),(18,.bool (decide ((l5.length:Int)>0)))] [.rows (l5.map (eInt .u8)) 1 1 5] ?_
    refine W.cnd (decide ((l5.length:Int)>0)) (fun hb18=>?_) (fun hb18=>?_)
    · replace hm:=of_true hb18 hm
      replace hm:=of_bind hm
      obtain ⟨v19,h20,hm⟩:=hm
      replace hm:=of_ite hm
      obtain ⟨h21,hm⟩:=hm
      replace hm:=of_let hm
      obtain ⟨l22,h23,hm⟩:=hm
      have kh20:=palingbook_Pick_ok h20
      try simp only [hb18] at kh20
      refine W.rg [] [(7,.msl 0 1 0 1 l22.length l22.length)] [.rows (l22.map (eInt .u8)) 1 1 5] ?_
      clear h23
      exact ⟨l22,(),⟨[],[]⟩,hm,RO⟩
    · replace hm:=of_false hb18 hm
      refine W.skip ?_
      exact ⟨l5,(),⟨[],[]⟩,hm,RO⟩
  · rintro s h ⟨l7,_,F,hm,hat⟩
    refine W.weak F hat ?_
    show WK _ _ _ _ _ [(7,.msl 0 1 0 1 l7.length l7.length)] [.rows (l7.map (eInt .u8)) 1 1 5]
    rw [palinglaw5_LexShown_j1] at hm
    replace hm:=of_bind hm
    obtain ⟨v8,h9,hm⟩:=hm
    have kh9:=lex_Tokens_ok h9
    refine W.sq [] [(7,.msl 0 1 0 1 l7.length l7.length),(8,.sl (v8.1.map e_api_Token)),(9,.ptr 1 0 0)] [.rows (l7.map (eInt .u8)) 1 1 5,.cells (e_api_Fault v8.2) 0 34] ?_
    replace hm:=of_bind hm
    obtain ⟨v10,h11,hm⟩:=hm
    have kh11:=palingref1_Tokens_ok h11
    refine W.sq [] [(8,.sl (v8.1.map e_api_Token)),(9,.ptr 1 0 0),(10,.sl (v10.1.map e_api_Token)),(11,.ptr 2 0 0)] [.dead,.cells (e_api_Fault v8.2) 0 34,.cells (e_api_Fault v10.2) 0 34] ?_
    replace hm:=of_bind hm
    obtain ⟨v12,h13,hm⟩:=hm
    replace hm:=of_bind hm
    obtain ⟨v14,h15,hm⟩:=hm
    replace hm:=of_let hm
    obtain ⟨b16,h17,hm⟩:=hm
    have kh13:=palingbook_SameTokens_ok h13
    have kh15:=fun hg=>palinglaw5_alive_ok (of_true hg h15)
    refine W.sq [] [(6,.bool b16)] [] ?_
    clear h17
    obtain rfl:=Option.some.inj hm
    exact W.ret (EndsF.retW [] RO)


end Go.Proofs.YtgdchoahbiagbaaDoor
