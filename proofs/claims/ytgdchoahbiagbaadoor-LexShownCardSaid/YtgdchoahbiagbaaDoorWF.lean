import Derived.Test.YtgdchoahbiagbaaDoorVFacts
import Derived.Test.YtgdchoahbiagbaaDoorPalF
import Derived.Test.YtgdchoahbiagbaaDoorWA
import Derived.Test.YtgdchoahbiagbaaDoorWUtf
set_option maxRecDepth 100000
set_option maxHeartbeats 4000000
set_option linter.unusedSimpArgs false
set_option linter.unusedVariables false
set_option linter.unusedSectionVars false
namespace Go.Proofs.YtgdchoahbiagbaaDoor
open Go.Vs
variable [TabU]
theorem palingbook_register_ok{p0:Int}{r:T_api_Opd}(hm:palingbook_register p0=some r):PureF Tryd.prog 36 [.int .i64 p0] (.agg [.int .i64 r.Kind,.int .i64 r.Reg,.int .i64 r.Sym,.int .i64 r.N]):=by
  rw [palingbook_register] at hm
  refine PureF.of Tryd.func36 rfl Tryd.ntmps36 (Nat.le_of_ble_eq_true rfl) ?_
  have e0:argS 0 [.int .i64 p0]=[(0,.int .i64 p0)]:=rfl
  rw [e0]
  refine W.sq [] [(0,.int .i64 p0),(2,.ptr 0 0 0)] [.cells [.int .i64 0,.int .i64 0,.int .i64 0,.int .i64 0] 0 51] ?_
  replace hm:=of_bind hm
  obtain ⟨v1,h2,hm⟩:=hm
  have kh2:=palingbook_Pick_ok h2
  refine W.sq [] [(2,.ptr 0 0 0)] [.cells [.int .i64 1,.int .i64 v1,.int .i64 0,.int .i64 0] 0 51] ?_
  obtain rfl:=Option.some.inj hm
  exact W.ret (EndsF.retW [] RO)

theorem palingbook_plain_ok{p0:Int}{p1:Int}{r:T_api_Opd}(hm:palingbook_plain p0 p1=some r):PureF Tryd.prog 37 [.int .i64 p0,.int .i64 p1] (.agg [.int .i64 r.Kind,.int .i64 r.Reg,.int .i64 r.Sym,.int .i64 r.N]):=by
  rw [palingbook_plain] at hm
  refine PureF.of Tryd.func37 rfl Tryd.ntmps37 (Nat.le_of_ble_eq_true rfl) ?_
  have e0:argS 0 [.int .i64 p0,.int .i64 p1]=[(0,.int .i64 p0),(1,.int .i64 p1)]:=rfl
  rw [e0]
  refine W.sq [] [(0,.int .i64 p0),(1,.int .i64 p1),(4,.ptr 0 0 0)] [.cells [.int .i64 0,.int .i64 0,.int .i64 0,.int .i64 0] 0 51] ?_
  refine W.seq ?_
  replace hm:=of_bind hm
  obtain ⟨v1,h2,hm⟩:=hm
  have kh2:=palingbook_Pick_ok h2
  refine W.sq [] [(0,.int .i64 p0),(1,.int .i64 p1),(4,.ptr 0 0 0),(7,.bool (v1==0))] [.cells [.int .i64 0,.int .i64 0,.int .i64 0,.int .i64 0] 0 51] ?_
  refine W.cnd (v1==0) (fun hb3=>?_) (fun hb3=>?_)
  · replace hm:=of_true hb3 hm
    replace hm:=of_bind hm
    obtain ⟨v4,h5,hm⟩:=hm
    have kh5:=palingbook_register_ok h5
    try simp only [hb3] at kh5
    refine W.sq [] [(4,.ptr 0 0 0)] [.cells (e_api_Opd v4) 0 51] ?_
    obtain rfl:=Option.some.inj hm
    exact W.ret (EndsF.retW [] RO)
  · replace hm:=of_false hb3 hm
    refine W.skip ?_
    refine W.sq [] [(4,.ptr 0 0 0)] [.cells [.int .i64 2,.int .i64 0,.int .i64 0,.int .i64 p1] 0 51] ?_
    obtain rfl:=Option.some.inj hm
    exact W.ret (EndsF.retW [] RO)

theorem palingbook_memory_ok{p0:Int}{r:T_api_Opd}(hm:palingbook_memory p0=some r):PureF Tryd.prog 38 [.int .i64 p0] (.agg [.int .i64 r.Kind,.int .i64 r.Reg,.int .i64 r.Sym,.int .i64 r.N]):=by
  rw [palingbook_memory] at hm
  refine PureF.of Tryd.func38 rfl Tryd.ntmps38 (Nat.le_of_ble_eq_true rfl) ?_
  have e0:argS 0 [.int .i64 p0]=[(0,.int .i64 p0)]:=rfl
  rw [e0]
  refine W.sq [] [(0,.int .i64 p0),(2,.ptr 0 0 0)] [.cells [.int .i64 0,.int .i64 0,.int .i64 0,.int .i64 0] 0 51] ?_
  replace hm:=of_bind hm
  obtain ⟨v1,h2,hm⟩:=hm
  have kh2:=palingbook_Pick_ok h2
  refine W.sq [] [(0,.int .i64 v1),(2,.ptr 0 0 0)] [.cells [.int .i64 0,.int .i64 0,.int .i64 0,.int .i64 0] 0 51] ?_
  replace hm:=of_let hm
  obtain ⟨l3,h4,hm⟩:=hm
  refine W.sq [] [(0,.int .i64 v1),(2,.ptr 0 0 0),(3,.sl (l3.map (eInt .i64)))] [.cells [.int .i64 0,.int .i64 0,.int .i64 0,.int .i64 0] 0 51] ?_
  clear h4
  refine W.seq ?_
  refine W.sq [] [(0,.int .i64 v1),(2,.ptr 0 0 0),(3,.sl (l3.map (eInt .i64))),(9,.bool ((Int.tmod v1 5)==4))] [.cells [.int .i64 0,.int .i64 0,.int .i64 0,.int .i64 0] 0 51] ?_
  refine W.cnd ((Int.tmod v1 5)==4) (fun hb5=>?_) (fun hb5=>?_)
  · replace hm:=of_true hb5 hm
    refine W.sq [] [(2,.ptr 0 0 0)] [.cells [.int .i64 4,.int .i64 (IntKind.wrap .i64 (Int.tdiv v1 15)),.int .i64 (Int.tmod (IntKind.wrap .i64 (Int.tdiv v1 5)) 3),.int .i64 0] 0 51] ?_
    obtain rfl:=Option.some.inj hm
    exact W.ret (EndsF.retW [] RO)
  · replace hm:=of_false hb5 hm
    refine W.skip ?_
    replace hm:=of_ite hm
    obtain ⟨h6,hm⟩:=hm
    replace hm:=of_ite hm
    obtain ⟨h7,hm⟩:=hm
    replace hm:=of_let hm
    obtain ⟨n8,h9,hm⟩:=hm
    refine W.sq [] [(2,.ptr 0 0 0)] [.cells [.int .i64 3,.int .i64 0,.int .i64 (Int.tmod (IntKind.wrap .i64 (Int.tdiv v1 5)) 3),.int .i64 n8] 0 51] ?_
    clear h9
    obtain rfl:=Option.some.inj hm
    exact W.ret (EndsF.retW [] RO)

theorem palingbook_label_ok{p0:Int}{r:ByteArray}(hm:palingbook_label p0=some r):PureF Tryd.prog 16 [.int .i64 p0] (.str r):=by
  rw [palingbook_label] at hm
  refine PureF.of Tryd.func16 rfl Tryd.ntmps16 (Nat.le_of_ble_eq_true rfl) ?_
  have e0:argS 0 [.int .i64 p0]=[(0,.int .i64 p0)]:=rfl
  rw [e0]
  refine W.sq [] [(0,.int .i64 p0)] [] ?_
  replace hm:=of_ite hm
  obtain ⟨h1,hm⟩:=hm
  replace hm:=of_let hm
  obtain ⟨s2,h3,hm⟩:=hm
  refine W.sq [] [(2,.str s2)] [] ?_
  clear h3
  obtain rfl:=Option.some.inj hm
  exact W.ret (EndsF.retW [] RO)

theorem palingbook_Ins_ok{p0:T_palingbook_Act}{p1:Int}{r:T_api_Ins}(hm:palingbook_Ins p0 p1=some r):PureF Tryd.prog 15 [.agg [.int .i64 p0.Kind,.int .i64 p0.A,.int .i64 p0.B,.int .i64 p0.C,.int .i64 p0.N],.int .i64 p1] (.agg [.int .i64 r.Op,.bool r.Lock,.int .i64 r.Cond,.int .i64 r.A.Kind,.int .i64 r.A.Reg,.int .i64 r.A.Sym,.int .i64 r.A.N,.int .i64 r.B.Kind,.int .i64 r.B.Reg,.int .i64 r.B.Sym,.int .i64 r.B.N,.str r.To,.sl (r.Labels.map eStr)]):=by
  rw [palingbook_Ins] at hm
  refine PureF.of Tryd.func15 rfl Tryd.ntmps15 (Nat.le_of_ble_eq_true rfl) ?_
  have e0:argS 0 [.agg [.int .i64 p0.Kind,.int .i64 p0.A,.int .i64 p0.B,.int .i64 p0.C,.int .i64 p0.N],.int .i64 p1]=[(0,.agg [.int .i64 p0.Kind,.int .i64 p0.A,.int .i64 p0.B,.int .i64 p0.C,.int .i64 p0.N]),(1,.int .i64 p1)]:=rfl
  rw [e0]
  refine W.sq [] [(1,.int .i64 p1),(2,.ptr 0 0 0),(4,.ptr 1 0 0)] [.cells (e_palingbook_Act p0) 0 58,.cells [.int .i64 0,.bool false,.int .i64 0,.int .i64 0,.int .i64 0,.int .i64 0,.int .i64 0,.int .i64 0,.int .i64 0,.int .i64 0,.int .i64 0,.str (⟨#[]⟩:ByteArray),.nils] 0 53] ?_
  replace hm:=of_bind hm
  obtain ⟨v1,h2,hm⟩:=hm
  have kh2:=palingbook_Pick_ok h2
  refine W.sq [] [(1,.int .i64 p1),(2,.ptr 0 0 0),(4,.ptr 1 0 0),(5,.int .i64 (IntKind.wrap .i64 (2+v1)))] [.cells (e_palingbook_Act p0) 0 58,.cells [.int .i64 0,.bool false,.int .i64 0,.int .i64 0,.int .i64 0,.int .i64 0,.int .i64 0,.int .i64 0,.int .i64 0,.int .i64 0,.int .i64 0,.str (⟨#[]⟩:ByteArray),.nils] 0 53] ?_
  refine W.cut (fun s h=>∃(v:Unit) (w:Unit) (F:Gs),palingbook_Ins_j1=some r ∧ AT 0 F [(4,.ptr 1 0 0)] [.dead,.cells [.int .i64 0,.bool false,.int .i64 0,.int .i64 0,.int .i64 0,.int .i64 0,.int .i64 0,.int .i64 0,.int .i64 0,.int .i64 0,.int .i64 0,.str (⟨#[]⟩:ByteArray),.nils] 0 53] s h) ?_ ?_
  · replace hm:=of_bind hm
    obtain ⟨v3,h4,hm⟩:=hm
    have kh4:=palingbook_Pick_ok h4
    refine W.sq [] [(1,.int .i64 p1),(2,.ptr 0 0 0),(4,.ptr 1 0 0),(5,.int .i64 (IntKind.wrap .i64 (2+v1))),(12,.int .i64 v3)] [.cells (e_palingbook_Act p0) 0 58,.cells [.int .i64 0,.bool false,.int .i64 0,.int .i64 0,.int .i64 0,.int .i64 0,.int .i64 0,.int .i64 0,.int .i64 0,.int .i64 0,.int .i64 0,.str (⟨#[]⟩:ByteArray),.nils] 0 53] ?_
    refine W.block ?_
    refine W.sq [] [(1,.int .i64 p1),(2,.ptr 0 0 0),(4,.ptr 1 0 0),(5,.int .i64 (IntKind.wrap .i64 (2+v1))),(12,.int .i64 v3),(13,.bool (v3==0))] [.cells (e_palingbook_Act p0) 0 58,.cells [.int .i64 0,.bool false,.int .i64 0,.int .i64 0,.int .i64 0,.int .i64 0,.int .i64 0,.int .i64 0,.int .i64 0,.int .i64 0,.int .i64 0,.str (⟨#[]⟩:ByteArray),.nils] 0 53] ?_
    refine W.cnd (v3==0) (fun hb5=>?_) (fun hb5=>?_)
    · replace hm:=of_true hb5 hm
      replace hm:=of_bind hm
      obtain ⟨v6,h7,hm⟩:=hm
      replace hm:=of_bind hm
      obtain ⟨v8,h9,hm⟩:=hm
      have kh7:=palingbook_register_ok h7
      try simp only [hb5] at kh7
      have kh9:=palingbook_plain_ok h9
      try simp only [hb5] at kh9
      refine W.sqJ [9] [] [] 0 [] [(4,.ptr 1 0 0)] [.dead,.cells [.int .i64 1,.bool false,.int .i64 0,.int .i64 v6.Kind,.int .i64 v6.Reg,.int .i64 v6.Sym,.int .i64 v6.N,.int .i64 v8.Kind,.int .i64 v8.Reg,.int .i64 v8.Sym,.int .i64 v8.N,.str (⟨#[]⟩:ByteArray),.nils] 0 53] v_mixed ?_
      obtain rfl:=Option.some.inj hm
      exact W.ret (EndsF.retW [] RO)
    · replace hm:=of_false hb5 hm
      refine W.cut (fun s h=>∃(v:Bool) (w:Unit) (F:Gs),palingbook_Ins_j2 p0 v3 v1 p1 v=some r ∧ AT 0 F [(1,.int .i64 p1),(2,.ptr 0 0 0),(4,.ptr 1 0 0),(5,.int .i64 (IntKind.wrap .i64 (2+v1))),(12,.int .i64 v3),(24,.bool v)] [.cells (e_palingbook_Act p0) 0 58,.cells [.int .i64 0,.bool false,.int .i64 0,.int .i64 0,.int .i64 0,.int .i64 0,.int .i64 0,.int .i64 0,.int .i64 0,.int .i64 0,.int .i64 0,.str (⟨#[]⟩:ByteArray),.nils] 0 53] s h) ?_ ?_
      · refine W.sq [] [(1,.int .i64 p1),(2,.ptr 0 0 0),(4,.ptr 1 0 0),(5,.int .i64 (IntKind.wrap .i64 (2+v1))),(12,.int .i64 v3),(24,.bool (v3==1))] [.cells (e_palingbook_Act p0) 0 58,.cells [.int .i64 0,.bool false,.int .i64 0,.int .i64 0,.int .i64 0,.int .i64 0,.int .i64 0,.int .i64 0,.int .i64 0,.int .i64 0,.int .i64 0,.str (⟨#[]⟩:ByteArray),.nils] 0 53] ?_
        refine W.cnd (v3==1) (fun hb85=>?_) (fun hb85=>?_)
        · replace hm:=of_true hb85 hm
          refine W.skip ?_
          exact ⟨(v3==1),(),⟨[],[]⟩,hm,RO⟩
        · replace hm:=of_false hb85 hm
          refine W.sq [] [(1,.int .i64 p1),(2,.ptr 0 0 0),(4,.ptr 1 0 0),(5,.int .i64 (IntKind.wrap .i64 (2+v1))),(12,.int .i64 v3),(24,.bool (v3==16))] [.cells (e_palingbook_Act p0) 0 58,.cells [.int .i64 0,.bool false,.int .i64 0,.int .i64 0,.int .i64 0,.int .i64 0,.int .i64 0,.int .i64 0,.int .i64 0,.int .i64 0,.int .i64 0,.str (⟨#[]⟩:ByteArray),.nils] 0 53] ?_
          refine W.cnd (v3==16) (fun hb86=>?_) (fun hb86=>?_)
          · replace hm:=of_true hb86 hm
            refine W.skip ?_
            exact ⟨(v3==16),(),⟨[],[]⟩,hm,RO⟩
          · replace hm:=of_false hb86 hm
            refine W.rg [] [(1,.int .i64 p1),(2,.ptr 0 0 0),(4,.ptr 1 0 0),(5,.int .i64 (IntKind.wrap .i64 (2+v1))),(12,.int .i64 v3),(24,.bool (v3==17))] [.cells (e_palingbook_Act p0) 0 58,.cells [.int .i64 0,.bool false,.int .i64 0,.int .i64 0,.int .i64 0,.int .i64 0,.int .i64 0,.int .i64 0,.int .i64 0,.int .i64 0,.int .i64 0,.str (⟨#[]⟩:ByteArray),.nils] 0 53] ?_
            exact ⟨(v3==17),(),⟨[],[]⟩,hm,RO⟩
      · rintro s h ⟨b10,_,F,hm,hat⟩
        refine W.weak F hat ?_
        show WK _ _ _ _ _ [(1,.int .i64 p1),(2,.ptr 0 0 0),(4,.ptr 1 0 0),(5,.int .i64 (IntKind.wrap .i64 (2+v1))),(12,.int .i64 v3),(24,.bool b10)] [.cells (e_palingbook_Act p0) 0 58,.cells [.int .i64 0,.bool false,.int .i64 0,.int .i64 0,.int .i64 0,.int .i64 0,.int .i64 0,.int .i64 0,.int .i64 0,.int .i64 0,.int .i64 0,.str (⟨#[]⟩:ByteArray),.nils] 0 53]
        rw [palingbook_Ins_j2] at hm
        refine W.cnd b10 (fun hb11=>?_) (fun hb11=>?_)
        · replace hm:=of_true hb11 hm
          replace hm:=of_bind hm
          obtain ⟨v12,h13,hm⟩:=hm
          replace hm:=of_bind hm
          obtain ⟨v14,h15,hm⟩:=hm
          have kh13:=palingbook_register_ok h13
          try simp only [hb5,hb11] at kh13
          have kh15:=palingbook_memory_ok h15
          try simp only [hb5,hb11] at kh15
          refine W.sqJ [7] [] [] 0 [] [(4,.ptr 1 0 0)] [.dead,.cells [.int .i64 1,.bool false,.int .i64 0,.int .i64 v12.Kind,.int .i64 v12.Reg,.int .i64 v12.Sym,.int .i64 v12.N,.int .i64 v14.Kind,.int .i64 v14.Reg,.int .i64 v14.Sym,.int .i64 v14.N,.str (⟨#[]⟩:ByteArray),.nils] 0 53] v_mixed ?_
          obtain rfl:=Option.some.inj hm
          exact W.ret (EndsF.retW [] RO)
        · replace hm:=of_false hb11 hm
          refine W.cut (fun s h=>∃(v:Bool) (w:Unit) (F:Gs),palingbook_Ins_j3 p0 v3 v1 p1 v=some r ∧ AT 0 F [(1,.int .i64 p1),(2,.ptr 0 0 0),(4,.ptr 1 0 0),(5,.int .i64 (IntKind.wrap .i64 (2+v1))),(12,.int .i64 v3),(35,.bool v)] [.cells (e_palingbook_Act p0) 0 58,.cells [.int .i64 0,.bool false,.int .i64 0,.int .i64 0,.int .i64 0,.int .i64 0,.int .i64 0,.int .i64 0,.int .i64 0,.int .i64 0,.int .i64 0,.str (⟨#[]⟩:ByteArray),.nils] 0 53] s h) ?_ ?_
          · refine W.sq [] [(1,.int .i64 p1),(2,.ptr 0 0 0),(4,.ptr 1 0 0),(5,.int .i64 (IntKind.wrap .i64 (2+v1))),(12,.int .i64 v3),(35,.bool (v3==2))] [.cells (e_palingbook_Act p0) 0 58,.cells [.int .i64 0,.bool false,.int .i64 0,.int .i64 0,.int .i64 0,.int .i64 0,.int .i64 0,.int .i64 0,.int .i64 0,.int .i64 0,.int .i64 0,.str (⟨#[]⟩:ByteArray),.nils] 0 53] ?_
            refine W.cnd (v3==2) (fun hb82=>?_) (fun hb82=>?_)
            · replace hm:=of_true hb82 hm
              refine W.skip ?_
              exact ⟨(v3==2),(),⟨[],[]⟩,hm,RO⟩
            · replace hm:=of_false hb82 hm
              refine W.sq [] [(1,.int .i64 p1),(2,.ptr 0 0 0),(4,.ptr 1 0 0),(5,.int .i64 (IntKind.wrap .i64 (2+v1))),(12,.int .i64 v3),(35,.bool (v3==18))] [.cells (e_palingbook_Act p0) 0 58,.cells [.int .i64 0,.bool false,.int .i64 0,.int .i64 0,.int .i64 0,.int .i64 0,.int .i64 0,.int .i64 0,.int .i64 0,.int .i64 0,.int .i64 0,.str (⟨#[]⟩:ByteArray),.nils] 0 53] ?_
              refine W.cnd (v3==18) (fun hb83=>?_) (fun hb83=>?_)
              · replace hm:=of_true hb83 hm
                refine W.skip ?_
                exact ⟨(v3==18),(),⟨[],[]⟩,hm,RO⟩
              · replace hm:=of_false hb83 hm
                refine W.sq [] [(1,.int .i64 p1),(2,.ptr 0 0 0),(4,.ptr 1 0 0),(5,.int .i64 (IntKind.wrap .i64 (2+v1))),(12,.int .i64 v3),(35,.bool (v3==19))] [.cells (e_palingbook_Act p0) 0 58,.cells [.int .i64 0,.bool false,.int .i64 0,.int .i64 0,.int .i64 0,.int .i64 0,.int .i64 0,.int .i64 0,.int .i64 0,.int .i64 0,.int .i64 0,.str (⟨#[]⟩:ByteArray),.nils] 0 53] ?_
                refine W.cnd (v3==19) (fun hb84=>?_) (fun hb84=>?_)
                · replace hm:=of_true hb84 hm
                  refine W.skip ?_
                  exact ⟨(v3==19),(),⟨[],[]⟩,hm,RO⟩
                · replace hm:=of_false hb84 hm
                  refine W.rg [] [(1,.int .i64 p1),(2,.ptr 0 0 0),(4,.ptr 1 0 0),(5,.int .i64 (IntKind.wrap .i64 (2+v1))),(12,.int .i64 v3),(35,.bool (v3==20))] [.cells (e_palingbook_Act p0) 0 58,.cells [.int .i64 0,.bool false,.int .i64 0,.int .i64 0,.int .i64 0,.int .i64 0,.int .i64 0,.int .i64 0,.int .i64 0,.int .i64 0,.int .i64 0,.str (⟨#[]⟩:ByteArray),.nils] 0 53] ?_
                  exact ⟨(v3==20),(),⟨[],[]⟩,hm,RO⟩
          · rintro s h ⟨b16,_,F,hm,hat⟩
            refine W.weak F hat ?_
            show WK _ _ _ _ _ [(1,.int .i64 p1),(2,.ptr 0 0 0),(4,.ptr 1 0 0),(5,.int .i64 (IntKind.wrap .i64 (2+v1))),(12,.int .i64 v3),(35,.bool b16)] [.cells (e_palingbook_Act p0) 0 58,.cells [.int .i64 0,.bool false,.int .i64 0,.int .i64 0,.int .i64 0,.int .i64 0,.int .i64 0,.int .i64 0,.int .i64 0,.int .i64 0,.int .i64 0,.str (⟨#[]⟩:ByteArray),.nils] 0 53]
            rw [palingbook_Ins_j3] at hm
            refine W.cnd b16 (fun hb17=>?_) (fun hb17=>?_)
            · replace hm:=of_true hb17 hm
              replace hm:=of_bind hm
              obtain ⟨v18,h19,hm⟩:=hm
              replace hm:=of_bind hm
              obtain ⟨v20,h21,hm⟩:=hm
              have kh19:=palingbook_memory_ok h19
              try simp only [hb5,hb11,hb17] at kh19
              have kh21:=palingbook_plain_ok h21
              try simp only [hb5,hb11,hb17] at kh21
              refine W.sqJ [9] [] [] 0 [] [(4,.ptr 1 0 0)] [.dead,.cells [.int .i64 1,.bool false,.int .i64 0,.int .i64 v18.Kind,.int .i64 v18.Reg,.int .i64 v18.Sym,.int .i64 v18.N,.int .i64 v20.Kind,.int .i64 v20.Reg,.int .i64 v20.Sym,.int .i64 v20.N,.str (⟨#[]⟩:ByteArray),.nils] 0 53] v_mixed ?_
              obtain rfl:=Option.some.inj hm
              exact W.ret (EndsF.retW [] RO)
            · replace hm:=of_false hb17 hm
              refine W.sq [] [(1,.int .i64 p1),(2,.ptr 0 0 0),(4,.ptr 1 0 0),(5,.int .i64 (IntKind.wrap .i64 (2+v1))),(12,.int .i64 v3),(49,.bool (v3==3))] [.cells (e_palingbook_Act p0) 0 58,.cells [.int .i64 0,.bool false,.int .i64 0,.int .i64 0,.int .i64 0,.int .i64 0,.int .i64 0,.int .i64 0,.int .i64 0,.int .i64 0,.int .i64 0,.str (⟨#[]⟩:ByteArray),.nils] 0 53] ?_
              refine W.cnd (v3==3) (fun hb22=>?_) (fun hb22=>?_)
              · replace hm:=of_true hb22 hm
                replace hm:=of_bind hm
                obtain ⟨v23,h24,hm⟩:=hm
                replace hm:=of_bind hm
                obtain ⟨v25,h26,hm⟩:=hm
                have kh24:=palingbook_register_ok h24
                try simp only [hb5,hb11,hb17,hb22] at kh24
                have kh26:=palingbook_plain_ok h26
                try simp only [hb5,hb11,hb17,hb22] at kh26
                refine W.sqJ [10] [] [] 0 [] [(4,.ptr 1 0 0)] [.dead,.cells [.int .i64 (IntKind.wrap .i64 (2+v1)),.bool false,.int .i64 0,.int .i64 v23.Kind,.int .i64 v23.Reg,.int .i64 v23.Sym,.int .i64 v23.N,.int .i64 v25.Kind,.int .i64 v25.Reg,.int .i64 v25.Sym,.int .i64 v25.N,.str (⟨#[]⟩:ByteArray),.nils] 0 53] v_mixed ?_
                obtain rfl:=Option.some.inj hm
                exact W.ret (EndsF.retW [] RO)
              · replace hm:=of_false hb22 hm
                refine W.sq [] [(1,.int .i64 p1),(2,.ptr 0 0 0),(4,.ptr 1 0 0),(5,.int .i64 (IntKind.wrap .i64 (2+v1))),(12,.int .i64 v3),(61,.bool (v3==4))] [.cells (e_palingbook_Act p0) 0 58,.cells [.int .i64 0,.bool false,.int .i64 0,.int .i64 0,.int .i64 0,.int .i64 0,.int .i64 0,.int .i64 0,.int .i64 0,.int .i64 0,.int .i64 0,.str (⟨#[]⟩:ByteArray),.nils] 0 53] ?_
                refine W.cnd (v3==4) (fun hb27=>?_) (fun hb27=>?_)
                · replace hm:=of_true hb27 hm
                  replace hm:=of_bind hm
                  obtain ⟨v28,h29,hm⟩:=hm
                  replace hm:=of_bind hm
                  obtain ⟨v30,h31,hm⟩:=hm
                  have kh29:=palingbook_register_ok h29
                  try simp only [hb5,hb11,hb17,hb22,hb27] at kh29
                  have kh31:=palingbook_memory_ok h31
                  try simp only [hb5,hb11,hb17,hb22,hb27] at kh31
                  refine W.sqJ [8] [] [] 0 [] [(4,.ptr 1 0 0)] [.dead,.cells [.int .i64 (IntKind.wrap .i64 (2+v1)),.bool false,.int .i64 0,.int .i64 v28.Kind,.int .i64 v28.Reg,.int .i64 v28.Sym,.int .i64 v28.N,.int .i64 v30.Kind,.int .i64 v30.Reg,.int .i64 v30.Sym,.int .i64 v30.N,.str (⟨#[]⟩:ByteArray),.nils] 0 53] v_mixed ?_
                  obtain rfl:=Option.some.inj hm
                  exact W.ret (EndsF.retW [] RO)
                · replace hm:=of_false hb27 hm
                  refine W.cut (fun s h=>∃(v:Bool) (w:Unit) (F:Gs),palingbook_Ins_j4 p0 v1 v3 p1 v=some r ∧ AT 0 F [(1,.int .i64 p1),(2,.ptr 0 0 0),(4,.ptr 1 0 0),(5,.int .i64 (IntKind.wrap .i64 (2+v1))),(12,.int .i64 v3),(71,.bool v)] [.cells (e_palingbook_Act p0) 0 58,.cells [.int .i64 0,.bool false,.int .i64 0,.int .i64 0,.int .i64 0,.int .i64 0,.int .i64 0,.int .i64 0,.int .i64 0,.int .i64 0,.int .i64 0,.str (⟨#[]⟩:ByteArray),.nils] 0 53] s h) ?_ ?_
                  · refine W.sq [] [(1,.int .i64 p1),(2,.ptr 0 0 0),(4,.ptr 1 0 0),(5,.int .i64 (IntKind.wrap .i64 (2+v1))),(12,.int .i64 v3),(71,.bool (v3==5))] [.cells (e_palingbook_Act p0) 0 58,.cells [.int .i64 0,.bool false,.int .i64 0,.int .i64 0,.int .i64 0,.int .i64 0,.int .i64 0,.int .i64 0,.int .i64 0,.int .i64 0,.int .i64 0,.str (⟨#[]⟩:ByteArray),.nils] 0 53] ?_
                    refine W.cnd (v3==5) (fun hb81=>?_) (fun hb81=>?_)
                    · replace hm:=of_true hb81 hm
                      refine W.skip ?_
                      exact ⟨(v3==5),(),⟨[],[]⟩,hm,RO⟩
                    · replace hm:=of_false hb81 hm
                      refine W.rg [] [(1,.int .i64 p1),(2,.ptr 0 0 0),(4,.ptr 1 0 0),(5,.int .i64 (IntKind.wrap .i64 (2+v1))),(12,.int .i64 v3),(71,.bool (v3==21))] [.cells (e_palingbook_Act p0) 0 58,.cells [.int .i64 0,.bool false,.int .i64 0,.int .i64 0,.int .i64 0,.int .i64 0,.int .i64 0,.int .i64 0,.int .i64 0,.int .i64 0,.int .i64 0,.str (⟨#[]⟩:ByteArray),.nils] 0 53] ?_
                      exact ⟨(v3==21),(),⟨[],[]⟩,hm,RO⟩
                  · rintro s h ⟨b32,_,F,hm,hat⟩
                    refine W.weak F hat ?_
                    show WK _ _ _ _ _ [(1,.int .i64 p1),(2,.ptr 0 0 0),(4,.ptr 1 0 0),(5,.int .i64 (IntKind.wrap .i64 (2+v1))),(12,.int .i64 v3),(71,.bool b32)] [.cells (e_palingbook_Act p0) 0 58,.cells [.int .i64 0,.bool false,.int .i64 0,.int .i64 0,.int .i64 0,.int .i64 0,.int .i64 0,.int .i64 0,.int .i64 0,.int .i64 0,.int .i64 0,.str (⟨#[]⟩:ByteArray),.nils] 0 53]
                    rw [palingbook_Ins_j4] at hm
                    refine W.cnd b32 (fun hb33=>?_) (fun hb33=>?_)
                    · replace hm:=of_true hb33 hm
                      replace hm:=of_bind hm
                      obtain ⟨v34,h35,hm⟩:=hm
                      replace hm:=of_bind hm
                      obtain ⟨v36,h37,hm⟩:=hm
                      have kh35:=palingbook_memory_ok h35
                      try simp only [hb5,hb11,hb17,hb22,hb27,hb33] at kh35
                      have kh37:=palingbook_plain_ok h37
                      try simp only [hb5,hb11,hb17,hb22,hb27,hb33] at kh37
                      refine W.sqJ [10] [] [] 0 [] [(4,.ptr 1 0 0)] [.dead,.cells [.int .i64 (IntKind.wrap .i64 (2+v1)),.bool false,.int .i64 0,.int .i64 v34.Kind,.int .i64 v34.Reg,.int .i64 v34.Sym,.int .i64 v34.N,.int .i64 v36.Kind,.int .i64 v36.Reg,.int .i64 v36.Sym,.int .i64 v36.N,.str (⟨#[]⟩:ByteArray),.nils] 0 53] v_mixed ?_
                      obtain rfl:=Option.some.inj hm
                      exact W.ret (EndsF.retW [] RO)
                    · replace hm:=of_false hb33 hm
                      refine W.sq [] [(1,.int .i64 p1),(2,.ptr 0 0 0),(4,.ptr 1 0 0),(5,.int .i64 (IntKind.wrap .i64 (2+v1))),(12,.int .i64 v3),(84,.bool (v3==6))] [.cells (e_palingbook_Act p0) 0 58,.cells [.int .i64 0,.bool false,.int .i64 0,.int .i64 0,.int .i64 0,.int .i64 0,.int .i64 0,.int .i64 0,.int .i64 0,.int .i64 0,.int .i64 0,.str (⟨#[]⟩:ByteArray),.nils] 0 53] ?_
                      refine W.cnd (v3==6) (fun hb38=>?_) (fun hb38=>?_)
                      · replace hm:=of_true hb38 hm
                        replace hm:=of_bind hm
                        obtain ⟨v39,h40,hm⟩:=hm
                        replace hm:=of_bind hm
                        obtain ⟨v41,h42,hm⟩:=hm
                        have kh40:=palingbook_register_ok h40
                        try simp only [hb5,hb11,hb17,hb22,hb27,hb33,hb38] at kh40
                        have kh42:=palingbook_memory_ok h42
                        try simp only [hb5,hb11,hb17,hb22,hb27,hb33,hb38] at kh42
                        refine W.sqJ [7] [] [] 0 [] [(4,.ptr 1 0 0)] [.dead,.cells [.int .i64 7,.bool false,.int .i64 0,.int .i64 v39.Kind,.int .i64 v39.Reg,.int .i64 v39.Sym,.int .i64 v39.N,.int .i64 v41.Kind,.int .i64 v41.Reg,.int .i64 v41.Sym,.int .i64 v41.N,.str (⟨#[]⟩:ByteArray),.nils] 0 53] v_mixed ?_
                        obtain rfl:=Option.some.inj hm
                        exact W.ret (EndsF.retW [] RO)
                      · replace hm:=of_false hb38 hm
                        refine W.sq [] [(1,.int .i64 p1),(2,.ptr 0 0 0),(4,.ptr 1 0 0),(5,.int .i64 (IntKind.wrap .i64 (2+v1))),(12,.int .i64 v3),(93,.bool (v3==7))] [.cells (e_palingbook_Act p0) 0 58,.cells [.int .i64 0,.bool false,.int .i64 0,.int .i64 0,.int .i64 0,.int .i64 0,.int .i64 0,.int .i64 0,.int .i64 0,.int .i64 0,.int .i64 0,.str (⟨#[]⟩:ByteArray),.nils] 0 53] ?_
                        refine W.cnd (v3==7) (fun hb43=>?_) (fun hb43=>?_)
                        · replace hm:=of_true hb43 hm
                          replace hm:=of_bind hm
                          obtain ⟨v44,h45,hm⟩:=hm
                          replace hm:=of_bind hm
                          obtain ⟨v46,h47,hm⟩:=hm
                          have kh45:=palingbook_memory_ok h45
                          try simp only [hb5,hb11,hb17,hb22,hb27,hb33,hb38,hb43] at kh45
                          have kh47:=palingbook_plain_ok h47
                          try simp only [hb5,hb11,hb17,hb22,hb27,hb33,hb38,hb43] at kh47
                          refine W.sqJ [9] [] [] 0 [] [(4,.ptr 1 0 0)] [.dead,.cells [.int .i64 7,.bool false,.int .i64 0,.int .i64 v44.Kind,.int .i64 v44.Reg,.int .i64 v44.Sym,.int .i64 v44.N,.int .i64 v46.Kind,.int .i64 v46.Reg,.int .i64 v46.Sym,.int .i64 v46.N,.str (⟨#[]⟩:ByteArray),.nils] 0 53] v_mixed ?_
                          obtain rfl:=Option.some.inj hm
                          exact W.ret (EndsF.retW [] RO)
                        · replace hm:=of_false hb43 hm
                          refine W.sq [] [(1,.int .i64 p1),(2,.ptr 0 0 0),(4,.ptr 1 0 0),(5,.int .i64 (IntKind.wrap .i64 (2+v1))),(12,.int .i64 v3),(104,.bool (v3==8))] [.cells (e_palingbook_Act p0) 0 58,.cells [.int .i64 0,.bool false,.int .i64 0,.int .i64 0,.int .i64 0,.int .i64 0,.int .i64 0,.int .i64 0,.int .i64 0,.int .i64 0,.int .i64 0,.str (⟨#[]⟩:ByteArray),.nils] 0 53] ?_
                          refine W.cnd (v3==8) (fun hb48=>?_) (fun hb48=>?_)
                          · replace hm:=of_true hb48 hm
                            replace hm:=of_bind hm
                            obtain ⟨v49,h50,hm⟩:=hm
                            replace hm:=of_bind hm
                            obtain ⟨v51,h52,hm⟩:=hm
                            have kh50:=palingbook_memory_ok h50
                            try simp only [hb5,hb11,hb17,hb22,hb27,hb33,hb38,hb43,hb48] at kh50
                            have kh52:=palingbook_register_ok h52
                            try simp only [hb5,hb11,hb17,hb22,hb27,hb33,hb38,hb43,hb48] at kh52
                            refine W.sqJ [7] [] [] 0 [] [(4,.ptr 1 0 0)] [.dead,.cells [.int .i64 8,.bool false,.int .i64 0,.int .i64 v49.Kind,.int .i64 v49.Reg,.int .i64 v49.Sym,.int .i64 v49.N,.int .i64 v51.Kind,.int .i64 v51.Reg,.int .i64 v51.Sym,.int .i64 v51.N,.str (⟨#[]⟩:ByteArray),.nils] 0 53] v_mixed ?_
                            obtain rfl:=Option.some.inj hm
                            exact W.ret (EndsF.retW [] RO)
                          · replace hm:=of_false hb48 hm
                            refine W.sq [] [(1,.int .i64 p1),(2,.ptr 0 0 0),(4,.ptr 1 0 0),(5,.int .i64 (IntKind.wrap .i64 (2+v1))),(12,.int .i64 v3),(113,.bool (v3==9))] [.cells (e_palingbook_Act p0) 0 58,.cells [.int .i64 0,.bool false,.int .i64 0,.int .i64 0,.int .i64 0,.int .i64 0,.int .i64 0,.int .i64 0,.int .i64 0,.int .i64 0,.int .i64 0,.str (⟨#[]⟩:ByteArray),.nils] 0 53] ?_
                            refine W.cnd (v3==9) (fun hb53=>?_) (fun hb53=>?_)
                            · replace hm:=of_true hb53 hm
                              replace hm:=of_bind hm
                              obtain ⟨v54,h55,hm⟩:=hm
                              replace hm:=of_bind hm
                              obtain ⟨v56,h57,hm⟩:=hm
                              have kh55:=palingbook_memory_ok h55
                              try simp only [hb5,hb11,hb17,hb22,hb27,hb33,hb38,hb43,hb48,hb53] at kh55
                              have kh57:=palingbook_register_ok h57
                              try simp only [hb5,hb11,hb17,hb22,hb27,hb33,hb38,hb43,hb48,hb53] at kh57
                              refine W.sqJ [7] [] [] 0 [] [(4,.ptr 1 0 0)] [.dead,.cells [.int .i64 9,.bool true,.int .i64 0,.int .i64 v54.Kind,.int .i64 v54.Reg,.int .i64 v54.Sym,.int .i64 v54.N,.int .i64 v56.Kind,.int .i64 v56.Reg,.int .i64 v56.Sym,.int .i64 v56.N,.str (⟨#[]⟩:ByteArray),.nils] 0 53] v_mixed ?_
                              obtain rfl:=Option.some.inj hm
                              exact W.ret (EndsF.retW [] RO)
                            · replace hm:=of_false hb53 hm
                              refine W.sq [] [(1,.int .i64 p1),(2,.ptr 0 0 0),(4,.ptr 1 0 0),(5,.int .i64 (IntKind.wrap .i64 (2+v1))),(12,.int .i64 v3),(122,.bool (v3==10))] [.cells (e_palingbook_Act p0) 0 58,.cells [.int .i64 0,.bool false,.int .i64 0,.int .i64 0,.int .i64 0,.int .i64 0,.int .i64 0,.int .i64 0,.int .i64 0,.int .i64 0,.int .i64 0,.str (⟨#[]⟩:ByteArray),.nils] 0 53] ?_
                              refine W.cnd (v3==10) (fun hb58=>?_) (fun hb58=>?_)
                              · replace hm:=of_true hb58 hm
                                replace hm:=of_bind hm
                                obtain ⟨v59,h60,hm⟩:=hm
                                replace hm:=of_bind hm
                                obtain ⟨v61,h62,hm⟩:=hm
                                have kh60:=palingbook_memory_ok h60
                                try simp only [hb5,hb11,hb17,hb22,hb27,hb33,hb38,hb43,hb48,hb53,hb58] at kh60
                                have kh62:=palingbook_plain_ok h62
                                try simp only [hb5,hb11,hb17,hb22,hb27,hb33,hb38,hb43,hb48,hb53,hb58] at kh62
                                refine W.sqJ [10] [] [] 0 [] [(4,.ptr 1 0 0)] [.dead,.cells [.int .i64 (IntKind.wrap .i64 (2+v1)),.bool true,.int .i64 0,.int .i64 v59.Kind,.int .i64 v59.Reg,.int .i64 v59.Sym,.int .i64 v59.N,.int .i64 v61.Kind,.int .i64 v61.Reg,.int .i64 v61.Sym,.int .i64 v61.N,.str (⟨#[]⟩:ByteArray),.nils] 0 53] v_mixed ?_
                                obtain rfl:=Option.some.inj hm
                                exact W.ret (EndsF.retW [] RO)
                              · replace hm:=of_false hb58 hm
                                refine W.sq [] [(1,.int .i64 p1),(2,.ptr 0 0 0),(4,.ptr 1 0 0),(12,.int .i64 v3),(134,.bool (v3==11))] [.cells (e_palingbook_Act p0) 0 58,.cells [.int .i64 0,.bool false,.int .i64 0,.int .i64 0,.int .i64 0,.int .i64 0,.int .i64 0,.int .i64 0,.int .i64 0,.int .i64 0,.int .i64 0,.str (⟨#[]⟩:ByteArray),.nils] 0 53] ?_
                                refine W.cnd (v3==11) (fun hb63=>?_) (fun hb63=>?_)
                                · replace hm:=of_true hb63 hm
                                  replace hm:=of_bind hm
                                  obtain ⟨v64,h65,hm⟩:=hm
                                  replace hm:=of_bind hm
                                  obtain ⟨v66,h67,hm⟩:=hm
                                  have kh65:=palingbook_Pick_ok h65
                                  try simp only [hb5,hb11,hb17,hb22,hb27,hb33,hb38,hb43,hb48,hb53,hb58,hb63] at kh65
                                  have kh67:=palingbook_label_ok h67
                                  try simp only [hb5,hb11,hb17,hb22,hb27,hb33,hb38,hb43,hb48,hb53,hb58,hb63] at kh67
                                  refine W.sq [] [(4,.ptr 1 0 0)] [.dead,.cells [.int .i64 10,.bool false,.int .i64 0,.int .i64 0,.int .i64 0,.int .i64 0,.int .i64 0,.int .i64 0,.int .i64 0,.int .i64 0,.int .i64 0,.str v66,.nils] 0 53] ?_
                                  obtain rfl:=Option.some.inj hm
                                  exact W.ret (EndsF.retW [] RO)
                                · replace hm:=of_false hb63 hm
                                  refine W.sq [] [(1,.int .i64 p1),(2,.ptr 0 0 0),(4,.ptr 1 0 0),(12,.int .i64 v3),(142,.bool (v3==12))] [.cells (e_palingbook_Act p0) 0 58,.cells [.int .i64 0,.bool false,.int .i64 0,.int .i64 0,.int .i64 0,.int .i64 0,.int .i64 0,.int .i64 0,.int .i64 0,.int .i64 0,.int .i64 0,.str (⟨#[]⟩:ByteArray),.nils] 0 53] ?_
                                  refine W.cnd (v3==12) (fun hb68=>?_) (fun hb68=>?_)
                                  · replace hm:=of_true hb68 hm
                                    replace hm:=of_bind hm
                                    obtain ⟨v69,h70,hm⟩:=hm
                                    replace hm:=of_bind hm
                                    obtain ⟨v71,h72,hm⟩:=hm
                                    replace hm:=of_bind hm
                                    obtain ⟨v73,h74,hm⟩:=hm
                                    have kh70:=palingbook_Pick_ok h70
                                    try simp only [hb5,hb11,hb17,hb22,hb27,hb33,hb38,hb43,hb48,hb53,hb58,hb63,hb68] at kh70
                                    have kh72:=palingbook_Pick_ok h72
                                    try simp only [hb5,hb11,hb17,hb22,hb27,hb33,hb38,hb43,hb48,hb53,hb58,hb63,hb68] at kh72
                                    have kh74:=palingbook_label_ok h74
                                    try simp only [hb5,hb11,hb17,hb22,hb27,hb33,hb38,hb43,hb48,hb53,hb58,hb63,hb68] at kh74
                                    refine W.sqJ [10] [] [] 0 [] [(4,.ptr 1 0 0)] [.dead,.cells [.int .i64 11,.bool false,.int .i64 (IntKind.wrap .i64 (1+v69)),.int .i64 0,.int .i64 0,.int .i64 0,.int .i64 0,.int .i64 0,.int .i64 0,.int .i64 0,.int .i64 0,.str v73,.nils] 0 53] v_mixed ?_
                                    obtain rfl:=Option.some.inj hm
                                    exact W.ret (EndsF.retW [] RO)
                                  · replace hm:=of_false hb68 hm
                                    refine W.sq [] [(2,.ptr 0 0 0),(4,.ptr 1 0 0),(12,.int .i64 v3),(154,.bool (v3==13))] [.cells (e_palingbook_Act p0) 0 58,.cells [.int .i64 0,.bool false,.int .i64 0,.int .i64 0,.int .i64 0,.int .i64 0,.int .i64 0,.int .i64 0,.int .i64 0,.int .i64 0,.int .i64 0,.str (⟨#[]⟩:ByteArray),.nils] 0 53] ?_
                                    refine W.cnd (v3==13) (fun hb75=>?_) (fun hb75=>?_)
                                    · replace hm:=of_true hb75 hm
                                      refine W.sq [] [(4,.ptr 1 0 0)] [.dead,.cells [.int .i64 12,.bool false,.int .i64 0,.int .i64 0,.int .i64 0,.int .i64 0,.int .i64 0,.int .i64 0,.int .i64 0,.int .i64 0,.int .i64 0,.str (⟨#[]⟩:ByteArray),.nils] 0 53] ?_
                                      obtain rfl:=Option.some.inj hm
                                      exact W.ret (EndsF.retW [] RO)
                                    · replace hm:=of_false hb75 hm
                                      refine W.sq [] [(2,.ptr 0 0 0),(4,.ptr 1 0 0),(157,.bool (v3==14))] [.cells (e_palingbook_Act p0) 0 58,.cells [.int .i64 0,.bool false,.int .i64 0,.int .i64 0,.int .i64 0,.int .i64 0,.int .i64 0,.int .i64 0,.int .i64 0,.int .i64 0,.int .i64 0,.str (⟨#[]⟩:ByteArray),.nils] 0 53] ?_
                                      refine W.cnd (v3==14) (fun hb76=>?_) (fun hb76=>?_)
                                      · replace hm:=of_true hb76 hm
                                        replace hm:=of_bind hm
                                        obtain ⟨v77,h78,hm⟩:=hm
                                        replace hm:=of_bind hm
                                        obtain ⟨v79,h80,hm⟩:=hm
                                        have kh78:=palingbook_register_ok h78
                                        try simp only [hb5,hb11,hb17,hb22,hb27,hb33,hb38,hb43,hb48,hb53,hb58,hb63,hb68,hb75,hb76] at kh78
                                        have kh80:=palingbook_plain_ok h80
                                        try simp only [hb5,hb11,hb17,hb22,hb27,hb33,hb38,hb43,hb48,hb53,hb58,hb63,hb68,hb75,hb76] at kh80
                                        refine W.sqJ [9] [] [] 0 [] [(4,.ptr 1 0 0)] [.dead,.cells [.int .i64 7,.bool false,.int .i64 0,.int .i64 v77.Kind,.int .i64 v77.Reg,.int .i64 v77.Sym,.int .i64 v77.N,.int .i64 v79.Kind,.int .i64 v79.Reg,.int .i64 v79.Sym,.int .i64 v79.N,.str (⟨#[]⟩:ByteArray),.nils] 0 53] v_mixed ?_
                                        obtain rfl:=Option.some.inj hm
                                        exact W.ret (EndsF.retW [] RO)
                                      · replace hm:=of_false hb76 hm
                                        refine W.skip ?_
                                        exact ⟨(),(),⟨[],[]⟩,hm,RO⟩
  · rintro s h ⟨_,_,F,hm,hat⟩
    refine W.weak F hat ?_
    show WK _ _ _ _ _ [(4,.ptr 1 0 0)] [.dead,.cells [.int .i64 0,.bool false,.int .i64 0,.int .i64 0,.int .i64 0,.int .i64 0,.int .i64 0,.int .i64 0,.int .i64 0,.int .i64 0,.int .i64 0,.str (⟨#[]⟩:ByteArray),.nils] 0 53]
    rw [palingbook_Ins_j1] at hm
    refine W.sq [] [(4,.ptr 1 0 0)] [.dead,.cells [.int .i64 13,.bool false,.int .i64 0,.int .i64 0,.int .i64 0,.int .i64 0,.int .i64 0,.int .i64 0,.int .i64 0,.int .i64 0,.int .i64 0,.str (⟨#[]⟩:ByteArray),.nils] 0 53] ?_
    obtain rfl:=Option.some.inj hm
    exact W.ret (EndsF.retW [] RO)

theorem palingbook_Prog_ok{p0:(List (List T_palingbook_Act))}{p1:Int}{p2:Int}{r:T_api_Prog}(hm:palingbook_Prog p0 p1 p2=some r):PureF Tryd.prog 5 [.sl (p0.map (eSl e_palingbook_Act)),.int .i64 p1,.int .i64 p2] (.agg [.sl (r.Syms.map e_api_Sym),.sl (r.Threads.map e_api_Thread)]):=by
  rw [palingbook_Prog] at hm
  refine PureF.of Tryd.func5 rfl Tryd.ntmps5 (Nat.le_of_ble_eq_true rfl) ?_
  have e0:argS 0 [.sl (p0.map (eSl e_palingbook_Act)),.int .i64 p1,.int .i64 p2]=[(0,.sl (p0.map (eSl e_palingbook_Act))),(1,.int .i64 p1),(2,.int .i64 p2)]:=rfl
  rw [e0]
  refine W.sqG [] [.nbx 0 0 0 3 43,.nbx 0 0 1 1 49] [(0,.sl (p0.map (eSl e_palingbook_Act))),(1,.int .i64 p1),(2,.int .i64 p2),(6,.ptr 0 0 0)] [.cells [.boxsl (([]:List T_api_Sym).map e_api_Sym) 3 43,.boxsl (([]:List T_api_Thread).map o_api_Thread) 1 49] 0 28] ?_
  replace hm:=of_let hm
  obtain ⟨l1,h2,hm⟩:=hm
  refine W.sqG [] [.nbx 1 0 1 1 49] [(0,.sl (p0.map (eSl e_palingbook_Act))),(1,.int .i64 p1),(2,.int .i64 p2),(6,.ptr 0 0 0),(7,.ptr 1 0 0)] [.cells [.boxsl (([]:List T_api_Sym).map e_api_Sym) 3 43,.boxsl (([]:List T_api_Thread).map o_api_Thread) 1 49] 0 28,.cells [.sl (l1.map e_api_Sym),.boxsl (([]:List T_api_Thread).map o_api_Thread) 1 49] 0 28] ?_
  clear h2
  refine W.seq ?_
  refine W.sq [] [(0,.sl (p0.map (eSl e_palingbook_Act))),(1,.int .i64 p1),(2,.int .i64 p2),(6,.ptr 0 0 0),(7,.ptr 1 0 0),(8,.int .i64 0)] [.cells [.boxsl (([]:List T_api_Sym).map e_api_Sym) 3 43,.boxsl (([]:List T_api_Thread).map o_api_Thread) 1 49] 0 28,.cells [.sl (l1.map e_api_Sym),.boxsl (([]:List T_api_Thread).map o_api_Thread) 1 49] 0 28] ?_
  refine W.block ?_
  replace hm:=of_bind hm
  obtain ⟨r560,hlr560,hm⟩:=hm
  refine W.mono (Q:=fun e0 s0 h0=>e0=.exit 0 ∧ ∃w:Unit,s0=[(6,.ptr 0 0 0),(7,.ptr 1 0 0)] ∧ h0=[.cells [.boxsl (([]:List T_api_Sym).map e_api_Sym) 3 43,.boxsl (([]:List T_api_Thread).map o_api_Thread) 1 49] 0 28,.cells [.sl (l1.map e_api_Sym),.boxsl (r560.map o_api_Thread) 1 49] 0 28]) (W.loopM (step:=palingbook_Prog_s1 p0 p1 p2) (a0:=(0,([]:List T_api_Thread))) (fun (a:Int × (List T_api_Thread)) (v:Unit)=>([(0,.sl (p0.map (eSl e_palingbook_Act))),(1,.int .i64 p1),(2,.int .i64 p2),(6,.ptr 0 0 0),(7,.ptr 1 0 0),(8,.int .i64 a.1)],[.cells [.boxsl (([]:List T_api_Sym).map e_api_Sym) 3 43,.boxsl (([]:List T_api_Thread).map o_api_Thread) 1 49] 0 28,.cells [.sl (l1.map e_api_Sym),.boxsl (a.2.map o_api_Thread) 1 49] 0 28])) () hlr560 ⟨[],[]⟩ RO ?_) ?_
  · rintro ⟨i373,l374⟩ _ x hm hx
    rw [palingbook_Prog_s1] at hm
    show WK _ _ _ _ _ [(0,.sl (p0.map (eSl e_palingbook_Act))),(1,.int .i64 p1),(2,.int .i64 p2),(6,.ptr 0 0 0),(7,.ptr 1 0 0),(8,.int .i64 i373)] [.cells [.boxsl (([]:List T_api_Sym).map e_api_Sym) 3 43,.boxsl (([]:List T_api_Thread).map o_api_Thread) 1 49] 0 28,.cells [.sl (l1.map e_api_Sym),.boxsl (l374.map o_api_Thread) 1 49] 0 28]
    refine W.seq ?_
    refine W.sq [] [(0,.sl (p0.map (eSl e_palingbook_Act))),(1,.int .i64 p1),(2,.int .i64 p2),(6,.ptr 0 0 0),(7,.ptr 1 0 0),(8,.int .i64 i373),(29,.bool (decide (i373<(p0.length:Int))&&decide (i373<p1)))] [.cells [.boxsl (([]:List T_api_Sym).map e_api_Sym) 3 43,.boxsl (([]:List T_api_Thread).map o_api_Thread) 1 49] 0 28,.cells [.sl (l1.map e_api_Sym),.boxsl (l374.map o_api_Thread) 1 49] 0 28] ?_
    refine W.cnd (decide (i373<(p0.length:Int))&&decide (i373<p1)) (fun hb561=>?_) (fun hb561=>?_)
    · replace hm:=of_true hb561 hm
      refine W.skip ?_
      refine W.seq ?_
      refine W.block ?_
      replace hm:=of_ite hm
      obtain ⟨h562,hm⟩:=hm
      replace hm:=of_let hm
      obtain ⟨n563,h564,hm⟩:=hm
      refine W.sq [] [(0,.sl (p0.map (eSl e_palingbook_Act))),(1,.int .i64 p1),(2,.int .i64 p2),(6,.ptr 0 0 0),(7,.ptr 1 0 0),(8,.int .i64 i373),(9,.int .i64 n563)] [.cells [.boxsl (([]:List T_api_Sym).map e_api_Sym) 3 43,.boxsl (([]:List T_api_Thread).map o_api_Thread) 1 49] 0 28,.cells [.sl (l1.map e_api_Sym),.boxsl (l374.map o_api_Thread) 1 49] 0 28] ?_
      clear h564
      refine W.sqG [] [.nbx 2 0 0 13 53] [(0,.sl (p0.map (eSl e_palingbook_Act))),(1,.int .i64 p1),(2,.int .i64 p2),(6,.ptr 0 0 0),(7,.ptr 1 0 0),(8,.int .i64 i373),(9,.int .i64 n563),(10,.ptr 2 0 0)] [.cells [.boxsl (([]:List T_api_Sym).map e_api_Sym) 3 43,.boxsl (([]:List T_api_Thread).map o_api_Thread) 1 49] 0 28,.cells [.sl (l1.map e_api_Sym),.boxsl (l374.map o_api_Thread) 1 49] 0 28,.cells [.boxsl (([]:List T_api_Ins).map e_api_Ins) 13 53] 0 49] ?_
      refine W.seq ?_
      refine W.sq [] [(0,.sl (p0.map (eSl e_palingbook_Act))),(1,.int .i64 p1),(2,.int .i64 p2),(6,.ptr 0 0 0),(7,.ptr 1 0 0),(8,.int .i64 i373),(9,.int .i64 n563),(10,.ptr 2 0 0),(11,.int .i64 0)] [.cells [.boxsl (([]:List T_api_Sym).map e_api_Sym) 3 43,.boxsl (([]:List T_api_Thread).map o_api_Thread) 1 49] 0 28,.cells [.sl (l1.map e_api_Sym),.boxsl (l374.map o_api_Thread) 1 49] 0 28,.cells [.boxsl (([]:List T_api_Ins).map e_api_Ins) 13 53] 0 49] ?_
      refine W.block ?_
      replace hm:=of_bind hm
      obtain ⟨r594,hlr594,hm⟩:=hm
      refine W.mono (Q:=fun e0 s0 h0=>e0=.exit 2 ∧ ∃w:Unit,s0=[(0,.sl (p0.map (eSl e_palingbook_Act))),(1,.int .i64 p1),(2,.int .i64 p2),(6,.ptr 0 0 0),(7,.ptr 1 0 0),(8,.int .i64 i373),(9,.int .i64 n563),(10,.ptr 2 0 0)] ∧ h0=[.cells [.boxsl (([]:List T_api_Sym).map e_api_Sym) 3 43,.boxsl (([]:List T_api_Thread).map o_api_Thread) 1 49] 0 28,.cells [.sl (l1.map e_api_Sym),.boxsl (l374.map o_api_Thread) 1 49] 0 28,.cells [.boxsl (r594.map e_api_Ins) 13 53] 0 49]) (W.loopM (step:=palingbook_Prog_s2 n563 i373 p0) (a0:=(0,([]:List T_api_Ins))) (fun (a:Int × (List T_api_Ins)) (v:Unit)=>([(0,.sl (p0.map (eSl e_palingbook_Act))),(1,.int .i64 p1),(2,.int .i64 p2),(6,.ptr 0 0 0),(7,.ptr 1 0 0),(8,.int .i64 i373),(9,.int .i64 n563),(10,.ptr 2 0 0),(11,.int .i64 a.1)],[.cells [.boxsl (([]:List T_api_Sym).map e_api_Sym) 3 43,.boxsl (([]:List T_api_Thread).map o_api_Thread) 1 49] 0 28,.cells [.sl (l1.map e_api_Sym),.boxsl (l374.map o_api_Thread) 1 49] 0 28,.cells [.boxsl (a.2.map e_api_Ins) 13 53] 0 49])) () hlr594 ⟨[],[]⟩ RO ?_) ?_
      · rintro ⟨i583,l584⟩ _ x hm hx
        rw [palingbook_Prog_s2] at hm
        show WK _ _ _ _ _ [(0,.sl (p0.map (eSl e_palingbook_Act))),(1,.int .i64 p1),(2,.int .i64 p2),(6,.ptr 0 0 0),(7,.ptr 1 0 0),(8,.int .i64 i373),(9,.int .i64 n563),(10,.ptr 2 0 0),(11,.int .i64 i583)] [.cells [.boxsl (([]:List T_api_Sym).map e_api_Sym) 3 43,.boxsl (([]:List T_api_Thread).map o_api_Thread) 1 49] 0 28,.cells [.sl (l1.map e_api_Sym),.boxsl (l374.map o_api_Thread) 1 49] 0 28,.cells [.boxsl (l584.map e_api_Ins) 13 53] 0 49]
        refine W.seq ?_
        refine W.sq [] [(0,.sl (p0.map (eSl e_palingbook_Act))),(1,.int .i64 p1),(2,.int .i64 p2),(6,.ptr 0 0 0),(7,.ptr 1 0 0),(8,.int .i64 i373),(9,.int .i64 n563),(10,.ptr 2 0 0),(11,.int .i64 i583),(41,.bool (decide (i583<n563)))] [.cells [.boxsl (([]:List T_api_Sym).map e_api_Sym) 3 43,.boxsl (([]:List T_api_Thread).map o_api_Thread) 1 49] 0 28,.cells [.sl (l1.map e_api_Sym),.boxsl (l374.map o_api_Thread) 1 49] 0 28,.cells [.boxsl (l584.map e_api_Ins) 13 53] 0 49] ?_
        refine W.cnd (decide (i583<n563)) (fun hb595=>?_) (fun hb595=>?_)
        · replace hm:=of_true hb595 hm
          refine W.skip ?_
          refine W.seq ?_
          refine W.block ?_
          replace hm:=of_ite hm
          obtain ⟨h596,hm⟩:=hm
          replace hm:=of_ite hm
          obtain ⟨h597,hm⟩:=hm
          replace hm:=of_bind hm
          obtain ⟨v598,h599,hm⟩:=hm
          replace hm:=of_ite hm
          obtain ⟨h600,hm⟩:=hm
          replace hm:=of_let hm
          obtain ⟨l601,h602,hm⟩:=hm
          refine W.weak ⟨[],[.foc 2 0 0]⟩ (show AT _ ⟨[],[.foc 2 0 0]⟩ [(0,.sl (p0.map (eSl e_palingbook_Act))),(1,.int .i64 p1),(2,.int .i64 p2),(6,.ptr 0 0 0),(7,.ptr 1 0 0),(8,.int .i64 i373),(9,.int .i64 n563),(10,.ptr 2 0 0),(11,.int .i64 i583),(41,.bool (decide (i583<n563)))] [.cells [.boxsl (([]:List T_api_Sym).map e_api_Sym) 3 43,.boxsl (([]:List T_api_Thread).map o_api_Thread) 1 49] 0 28,.cells [.sl (l1.map e_api_Sym),.boxsl (l374.map o_api_Thread) 1 49] 0 28,.cells [.msl 3 1 0 13 l584.length l584.length] 0 49,.rows (l584.map e_api_Ins) 13 1 53] _ _ from RO) ?_
          have kh599:=palingbook_Ins_ok h599
          try simp only [hb561,hb595] at kh599
          refine W.rgJG [13,15] [] [] 0 [] [.fol 2 0 0] [(0,.sl (p0.map (eSl e_palingbook_Act))),(1,.int .i64 p1),(2,.int .i64 p2),(6,.ptr 0 0 0),(7,.ptr 1 0 0),(8,.int .i64 i373),(9,.int .i64 n563),(10,.ptr 2 0 0),(11,.int .i64 i583)] [.cells [.boxsl (([]:List T_api_Sym).map e_api_Sym) 3 43,.boxsl (([]:List T_api_Thread).map o_api_Thread) 1 49] 0 28,.cells [.sl (l1.map e_api_Sym),.boxsl (l374.map o_api_Thread) 1 49] 0 28,.cells [.boxsl (l601.map e_api_Ins) 13 53] 0 49] v_mixed ?_
          clear h602
          refine W.rg [] [(0,.sl (p0.map (eSl e_palingbook_Act))),(1,.int .i64 p1),(2,.int .i64 p2),(6,.ptr 0 0 0),(7,.ptr 1 0 0),(8,.int .i64 i373),(9,.int .i64 n563),(10,.ptr 2 0 0),(11,.int .i64 (IntKind.wrap .i64 (i583+1)))] [.cells [.boxsl (([]:List T_api_Sym).map e_api_Sym) 3 43,.boxsl (([]:List T_api_Thread).map o_api_Thread) 1 49] 0 28,.cells [.sl (l1.map e_api_Sym),.boxsl (l374.map o_api_Thread) 1 49] 0 28,.cells [.boxsl (l601.map e_api_Ins) 13 53] 0 49] ?_
          obtain rfl:=Option.some.inj hm
          exact ⟨((IntKind.wrap .i64 (i583+1)),l601),(),⟨[],[]⟩,rfl,RO⟩
        · replace hm:=of_false hb595 hm
          obtain rfl:=Option.some.inj hm
          obtain rfl:=hx _ rfl
          exact W.weak ⟨[],[]⟩ (show AT _ ⟨[],[]⟩ [(0,.sl (p0.map (eSl e_palingbook_Act))),(1,.int .i64 p1),(2,.int .i64 p2),(6,.ptr 0 0 0),(7,.ptr 1 0 0),(8,.int .i64 i373),(9,.int .i64 n563),(10,.ptr 2 0 0)] [.cells [.boxsl (([]:List T_api_Sym).map e_api_Sym) 3 43,.boxsl (([]:List T_api_Thread).map o_api_Thread) 1 49] 0 28,.cells [.sl (l1.map e_api_Sym),.boxsl (l374.map o_api_Thread) 1 49] 0 28,.cells [.boxsl (l584.map e_api_Ins) 13 53] 0 49] _ _ from RO) (W.exit (show _ ∧ _ from ⟨rfl,(),rfl,rfl⟩))
      · rintro e0 s0 h0 ⟨rfl,_,rfl,rfl⟩
        show WK _ _ _ _ _ [(0,.sl (p0.map (eSl e_palingbook_Act))),(1,.int .i64 p1),(2,.int .i64 p2),(6,.ptr 0 0 0),(7,.ptr 1 0 0),(8,.int .i64 i373),(9,.int .i64 n563),(10,.ptr 2 0 0)] [.cells [.boxsl (([]:List T_api_Sym).map e_api_Sym) 3 43,.boxsl (([]:List T_api_Thread).map o_api_Thread) 1 49] 0 28,.cells [.sl (l1.map e_api_Sym),.boxsl (l374.map o_api_Thread) 1 49] 0 28,.cells [.boxsl (r594.map e_api_Ins) 13 53] 0 49]
        replace hm:=of_ite hm
        obtain ⟨h603,hm⟩:=hm
        replace hm:=of_let hm
        obtain ⟨l604,h605,hm⟩:=hm
        refine W.weak ⟨[],[.foc 2 0 0]⟩ (show AT _ ⟨[],[.foc 2 0 0]⟩ [(0,.sl (p0.map (eSl e_palingbook_Act))),(1,.int .i64 p1),(2,.int .i64 p2),(6,.ptr 0 0 0),(7,.ptr 1 0 0),(8,.int .i64 i373),(9,.int .i64 n563),(10,.ptr 2 0 0)] [.cells [.boxsl (([]:List T_api_Sym).map e_api_Sym) 3 43,.boxsl (([]:List T_api_Thread).map o_api_Thread) 1 49] 0 28,.cells [.sl (l1.map e_api_Sym),.boxsl (l374.map o_api_Thread) 1 49] 0 28,.cells [.msl 3 1 0 13 r594.length r594.length] 0 49,.rows (r594.map e_api_Ins) 13 1 53] _ _ from RO) ?_
        refine W.sqG [] [.fol 2 0 0] [(0,.sl (p0.map (eSl e_palingbook_Act))),(1,.int .i64 p1),(2,.int .i64 p2),(6,.ptr 0 0 0),(7,.ptr 1 0 0),(8,.int .i64 i373),(9,.int .i64 n563),(10,.ptr 2 0 0)] [.cells [.boxsl (([]:List T_api_Sym).map e_api_Sym) 3 43,.boxsl (([]:List T_api_Thread).map o_api_Thread) 1 49] 0 28,.cells [.sl (l1.map e_api_Sym),.boxsl (l374.map o_api_Thread) 1 49] 0 28,.cells [.boxsl (l604.map e_api_Ins) 13 53] 0 49] ?_
        clear h605
        refine W.seq ?_
        refine W.sq [] [(0,.sl (p0.map (eSl e_palingbook_Act))),(1,.int .i64 p1),(2,.int .i64 p2),(6,.ptr 0 0 0),(7,.ptr 1 0 0),(8,.int .i64 i373),(9,.int .i64 n563),(10,.ptr 2 0 0),(12,.int .i64 0)] [.cells [.boxsl (([]:List T_api_Sym).map e_api_Sym) 3 43,.boxsl (([]:List T_api_Thread).map o_api_Thread) 1 49] 0 28,.cells [.sl (l1.map e_api_Sym),.boxsl (l374.map o_api_Thread) 1 49] 0 28,.cells [.boxsl (l604.map e_api_Ins) 13 53] 0 49] ?_
        refine W.block ?_
        replace hm:=of_bind hm
        obtain ⟨r749,hlr749,hm⟩:=hm
        refine W.mono (Q:=fun e0 s0 h0=>e0=.exit 4 ∧ ∃w:Unit,s0=[(0,.sl (p0.map (eSl e_palingbook_Act))),(1,.int .i64 p1),(2,.int .i64 p2),(6,.ptr 0 0 0),(7,.ptr 1 0 0),(8,.int .i64 i373),(10,.ptr 2 0 0)] ∧ h0=[.cells [.boxsl (([]:List T_api_Sym).map e_api_Sym) 3 43,.boxsl (([]:List T_api_Thread).map o_api_Thread) 1 49] 0 28,.cells [.sl (l1.map e_api_Sym),.boxsl (l374.map o_api_Thread) 1 49] 0 28,.cells [.boxsl (r749.map e_api_Ins) 13 53] 0 49]) (W.loopM (step:=palingbook_Prog_s3 n563) (a0:=(0,l604)) (fun (a:Int × (List T_api_Ins)) (v:Unit)=>([(0,.sl (p0.map (eSl e_palingbook_Act))),(1,.int .i64 p1),(2,.int .i64 p2),(6,.ptr 0 0 0),(7,.ptr 1 0 0),(8,.int .i64 i373),(9,.int .i64 n563),(10,.ptr 2 0 0),(12,.int .i64 a.1)],[.cells [.boxsl (([]:List T_api_Sym).map e_api_Sym) 3 43,.boxsl (([]:List T_api_Thread).map o_api_Thread) 1 49] 0 28,.cells [.sl (l1.map e_api_Sym),.boxsl (l374.map o_api_Thread) 1 49] 0 28,.cells [.boxsl (a.2.map e_api_Ins) 13 53] 0 49])) () hlr749 ⟨[],[]⟩ RO ?_) ?_
        · rintro ⟨i700,l701⟩ _ x hm hx
          rw [palingbook_Prog_s3] at hm
          show WK _ _ _ _ _ [(0,.sl (p0.map (eSl e_palingbook_Act))),(1,.int .i64 p1),(2,.int .i64 p2),(6,.ptr 0 0 0),(7,.ptr 1 0 0),(8,.int .i64 i373),(9,.int .i64 n563),(10,.ptr 2 0 0),(12,.int .i64 i700)] [.cells [.boxsl (([]:List T_api_Sym).map e_api_Sym) 3 43,.boxsl (([]:List T_api_Thread).map o_api_Thread) 1 49] 0 28,.cells [.sl (l1.map e_api_Sym),.boxsl (l374.map o_api_Thread) 1 49] 0 28,.cells [.boxsl (l701.map e_api_Ins) 13 53] 0 49]
          refine W.seq ?_
          refine W.sq [] [(0,.sl (p0.map (eSl e_palingbook_Act))),(1,.int .i64 p1),(2,.int .i64 p2),(6,.ptr 0 0 0),(7,.ptr 1 0 0),(8,.int .i64 i373),(9,.int .i64 n563),(10,.ptr 2 0 0),(12,.int .i64 i700),(67,.bool (decide (i700<n563)))] [.cells [.boxsl (([]:List T_api_Sym).map e_api_Sym) 3 43,.boxsl (([]:List T_api_Thread).map o_api_Thread) 1 49] 0 28,.cells [.sl (l1.map e_api_Sym),.boxsl (l374.map o_api_Thread) 1 49] 0 28,.cells [.boxsl (l701.map e_api_Ins) 13 53] 0 49] ?_
          refine W.cnd (decide (i700<n563)) (fun hb750=>?_) (fun hb750=>?_)
          · replace hm:=of_true hb750 hm
            refine W.skip ?_
            refine W.cut (fun s h=>∃(v:(List T_api_Ins)) (w:Unit) (F:Gs),palingbook_Prog_j1 i700 v=some x ∧ AT 0 F [(0,.sl (p0.map (eSl e_palingbook_Act))),(1,.int .i64 p1),(2,.int .i64 p2),(6,.ptr 0 0 0),(7,.ptr 1 0 0),(8,.int .i64 i373),(9,.int .i64 n563),(10,.ptr 2 0 0),(12,.int .i64 i700)] [.cells [.boxsl (([]:List T_api_Sym).map e_api_Sym) 3 43,.boxsl (([]:List T_api_Thread).map o_api_Thread) 1 49] 0 28,.cells [.sl (l1.map e_api_Sym),.boxsl (l374.map o_api_Thread) 1 49] 0 28,.cells [.boxsl (v.map e_api_Ins) 13 53] 0 49] s h) ?_ ?_
            · refine W.block ?_
              refine W.seq ?_
              replace hm:=of_ite hm
              obtain ⟨h752,hm⟩:=hm
              refine W.weak ⟨[],[.foc 2 0 0]⟩ (show AT _ ⟨[],[.foc 2 0 0]⟩ [(0,.sl (p0.map (eSl e_palingbook_Act))),(1,.int .i64 p1),(2,.int .i64 p2),(6,.ptr 0 0 0),(7,.ptr 1 0 0),(8,.int .i64 i373),(9,.int .i64 n563),(10,.ptr 2 0 0),(12,.int .i64 i700),(67,.bool (decide (i700<n563)))] [.cells [.boxsl (([]:List T_api_Sym).map e_api_Sym) 3 43,.boxsl (([]:List T_api_Thread).map o_api_Thread) 1 49] 0 28,.cells [.sl (l1.map e_api_Sym),.boxsl (l374.map o_api_Thread) 1 49] 0 28,.cells [.msl 3 1 0 13 l701.length l701.length] 0 49,.rows (l701.map e_api_Ins) 13 1 53] _ _ from RO) ?_
              refine W.sqG [] [.fol 2 0 0] [(0,.sl (p0.map (eSl e_palingbook_Act))),(1,.int .i64 p1),(2,.int .i64 p2),(6,.ptr 0 0 0),(7,.ptr 1 0 0),(8,.int .i64 i373),(9,.int .i64 n563),(10,.ptr 2 0 0),(12,.int .i64 i700),(76,.bool (decide ((rd l701 i700).To=(⟨#[]⟩:ByteArray))))] [.cells [.boxsl (([]:List T_api_Sym).map e_api_Sym) 3 43,.boxsl (([]:List T_api_Thread).map o_api_Thread) 1 49] 0 28,.cells [.sl (l1.map e_api_Sym),.boxsl (l374.map o_api_Thread) 1 49] 0 28,.cells [.boxsl (l701.map e_api_Ins) 13 53] 0 49] ?_
              refine W.cnd (decide ((rd l701 i700).To=(⟨#[]⟩:ByteArray))) (fun hb753=>?_) (fun hb753=>?_)
              · replace hm:=of_true hb753 hm
                refine W.exit ?_
                exact ⟨l701,(),⟨[],[]⟩,hm,RO⟩
              · replace hm:=of_false hb753 hm
                refine W.skip ?_
                refine W.sq [] [(0,.sl (p0.map (eSl e_palingbook_Act))),(1,.int .i64 p1),(2,.int .i64 p2),(6,.ptr 0 0 0),(7,.ptr 1 0 0),(8,.int .i64 i373),(9,.int .i64 n563),(10,.ptr 2 0 0),(12,.int .i64 i700),(13,.int .i64 0)] [.cells [.boxsl (([]:List T_api_Sym).map e_api_Sym) 3 43,.boxsl (([]:List T_api_Thread).map o_api_Thread) 1 49] 0 28,.cells [.sl (l1.map e_api_Sym),.boxsl (l374.map o_api_Thread) 1 49] 0 28,.cells [.boxsl (l701.map e_api_Ins) 13 53] 0 49] ?_
                refine W.block ?_
                replace hm:=of_bind hm
                obtain ⟨r795,hlr795,hm⟩:=hm
                refine W.mono (Q:=fun e0 s0 h0=>e0=.exit 6 ∧ ∃w:Unit,s0=[(0,.sl (p0.map (eSl e_palingbook_Act))),(1,.int .i64 p1),(2,.int .i64 p2),(6,.ptr 0 0 0),(7,.ptr 1 0 0),(8,.int .i64 i373),(9,.int .i64 n563),(10,.ptr 2 0 0),(12,.int .i64 i700)] ∧ h0=[.cells [.boxsl (([]:List T_api_Sym).map e_api_Sym) 3 43,.boxsl (([]:List T_api_Thread).map o_api_Thread) 1 49] 0 28,.cells [.sl (l1.map e_api_Sym),.boxsl (l374.map o_api_Thread) 1 49] 0 28,.cells [.boxsl (r795.map e_api_Ins) 13 53] 0 49]) (W.loopM (step:=palingbook_Prog_s4 n563 i700) (a0:=(0,l701)) (fun (a:Int × (List T_api_Ins)) (v:Unit)=>([(0,.sl (p0.map (eSl e_palingbook_Act))),(1,.int .i64 p1),(2,.int .i64 p2),(6,.ptr 0 0 0),(7,.ptr 1 0 0),(8,.int .i64 i373),(9,.int .i64 n563),(10,.ptr 2 0 0),(12,.int .i64 i700),(13,.int .i64 a.1)],[.cells [.boxsl (([]:List T_api_Sym).map e_api_Sym) 3 43,.boxsl (([]:List T_api_Thread).map o_api_Thread) 1 49] 0 28,.cells [.sl (l1.map e_api_Sym),.boxsl (l374.map o_api_Thread) 1 49] 0 28,.cells [.boxsl (a.2.map e_api_Ins) 13 53] 0 49])) () hlr795 ⟨[],[]⟩ RO ?_) ?_
                · rintro ⟨i780,l781⟩ _ x hm hx
                  rw [palingbook_Prog_s4] at hm
                  show WK _ _ _ _ _ [(0,.sl (p0.map (eSl e_palingbook_Act))),(1,.int .i64 p1),(2,.int .i64 p2),(6,.ptr 0 0 0),(7,.ptr 1 0 0),(8,.int .i64 i373),(9,.int .i64 n563),(10,.ptr 2 0 0),(12,.int .i64 i700),(13,.int .i64 i780)] [.cells [.boxsl (([]:List T_api_Sym).map e_api_Sym) 3 43,.boxsl (([]:List T_api_Thread).map o_api_Thread) 1 49] 0 28,.cells [.sl (l1.map e_api_Sym),.boxsl (l374.map o_api_Thread) 1 49] 0 28,.cells [.boxsl (l781.map e_api_Ins) 13 53] 0 49]
                  refine W.seq ?_
                  refine W.sq [] [(0,.sl (p0.map (eSl e_palingbook_Act))),(1,.int .i64 p1),(2,.int .i64 p2),(6,.ptr 0 0 0),(7,.ptr 1 0 0),(8,.int .i64 i373),(9,.int .i64 n563),(10,.ptr 2 0 0),(12,.int .i64 i700),(13,.int .i64 i780),(79,.bool (decide (i780 ≤ n563)))] [.cells [.boxsl (([]:List T_api_Sym).map e_api_Sym) 3 43,.boxsl (([]:List T_api_Thread).map o_api_Thread) 1 49] 0 28,.cells [.sl (l1.map e_api_Sym),.boxsl (l374.map o_api_Thread) 1 49] 0 28,.cells [.boxsl (l781.map e_api_Ins) 13 53] 0 49] ?_
                  refine W.cnd (decide (i780 ≤ n563)) (fun hb796=>?_) (fun hb796=>?_)
                  · replace hm:=of_true hb796 hm
                    refine W.skip ?_
                    refine W.cut (fun s h=>∃(v:(List T_api_Ins)) (w:Unit) (F:Gs),palingbook_Prog_j2 i780 v=some x ∧ AT 0 F [(0,.sl (p0.map (eSl e_palingbook_Act))),(1,.int .i64 p1),(2,.int .i64 p2),(6,.ptr 0 0 0),(7,.ptr 1 0 0),(8,.int .i64 i373),(9,.int .i64 n563),(10,.ptr 2 0 0),(12,.int .i64 i700),(13,.int .i64 i780)] [.cells [.boxsl (([]:List T_api_Sym).map e_api_Sym) 3 43,.boxsl (([]:List T_api_Thread).map o_api_Thread) 1 49] 0 28,.cells [.sl (l1.map e_api_Sym),.boxsl (l374.map o_api_Thread) 1 49] 0 28,.cells [.boxsl (v.map e_api_Ins) 13 53] 0 49] s h) ?_ ?_
                    · refine W.block ?_
                      replace hm:=of_bind hm
                      obtain ⟨v798,h799,hm⟩:=hm
                      replace hm:=of_ite hm
                      obtain ⟨h800,hm⟩:=hm
                      replace hm:=of_ite hm
                      obtain ⟨h801,hm⟩:=hm
                      refine W.weak ⟨[],[.foc 2 0 0]⟩ (show AT _ ⟨[],[.foc 2 0 0]⟩ [(0,.sl (p0.map (eSl e_palingbook_Act))),(1,.int .i64 p1),(2,.int .i64 p2),(6,.ptr 0 0 0),(7,.ptr 1 0 0),(8,.int .i64 i373),(9,.int .i64 n563),(10,.ptr 2 0 0),(12,.int .i64 i700),(13,.int .i64 i780),(79,.bool (decide (i780 ≤ n563)))] [.cells [.boxsl (([]:List T_api_Sym).map e_api_Sym) 3 43,.boxsl (([]:List T_api_Thread).map o_api_Thread) 1 49] 0 28,.cells [.sl (l1.map e_api_Sym),.boxsl (l374.map o_api_Thread) 1 49] 0 28,.cells [.msl 3 1 0 13 l781.length l781.length] 0 49,.rows (l781.map e_api_Ins) 13 1 53] _ _ from RO) ?_
                      have kh799:=palingbook_label_ok h799
                      try simp only [hb561,hb750,hb753,hb796] at kh799
                      refine W.sqJG [] [] [] 0 [] [.fol 2 0 0] [(0,.sl (p0.map (eSl e_palingbook_Act))),(1,.int .i64 p1),(2,.int .i64 p2),(6,.ptr 0 0 0),(7,.ptr 1 0 0),(8,.int .i64 i373),(9,.int .i64 n563),(10,.ptr 2 0 0),(12,.int .i64 i700),(13,.int .i64 i780),(100,.bool (decide (v798=(rd l781 i700).To)&&((((rd l781 i780).Labels).length:Int)==0)))] [.cells [.boxsl (([]:List T_api_Sym).map e_api_Sym) 3 43,.boxsl (([]:List T_api_Thread).map o_api_Thread) 1 49] 0 28,.cells [.sl (l1.map e_api_Sym),.boxsl (l374.map o_api_Thread) 1 49] 0 28,.cells [.boxsl (l781.map e_api_Ins) 13 53] 0 49] v_mixed ?_ (hd:=drawOk_of [[],[0],[],[2],[],[2,3,4],[2,3,4,5],[2,3,4,5,6],[0,1,2,3,4,5,6,7],[0,1,2,3,4,5,6,7,8],[0,1,2,3,4,5,6,7,8,9],[0,1,2,3,4,5,6,7,8,9,10],[0,1,2,3,4,5,6,7,8,9],[0,1,2,3,4,5,6,7,8,9,10,11,12],[0,1,2,3,4,5,6,7,8,9,10,11,12,13],[0,1,2,3,4,5,6,7,8,9,10,11,12,13,14],[0,1,2,3,4,5,6,7,8,9,10,11,12,13,14,15],[0,1,2,3,4,5,6,7,8,9,10,11,12,13,14,15,16],[0,1,2,3,4,5,6,7,8,9,10,11,12,13,14,15,16,17]] (by kernel_rfl) (by kernel_rfl) (by kernel_rfl))
                      refine W.cnd (decide (v798=(rd l781 i700).To)&&((((rd l781 i780).Labels).length:Int)==0)) (fun hb802=>?_) (fun hb802=>?_)
                      · replace hm:=of_true hb802 hm
                        replace hm:=of_bind hm
                        obtain ⟨v803,h804,hm⟩:=hm
                        replace hm:=of_ite hm
                        obtain ⟨h805,hm⟩:=hm
                        replace hm:=of_let hm
                        obtain ⟨l806,h807,hm⟩:=hm
                        refine W.weak ⟨[],[.foc 2 0 0]⟩ (show AT _ ⟨[],[.foc 2 0 0]⟩ [(0,.sl (p0.map (eSl e_palingbook_Act))),(1,.int .i64 p1),(2,.int .i64 p2),(6,.ptr 0 0 0),(7,.ptr 1 0 0),(8,.int .i64 i373),(9,.int .i64 n563),(10,.ptr 2 0 0),(12,.int .i64 i700),(13,.int .i64 i780),(100,.bool (decide (v798=(rd l781 i700).To)&&((((rd l781 i780).Labels).length:Int)==0)))] [.cells [.boxsl (([]:List T_api_Sym).map e_api_Sym) 3 43,.boxsl (([]:List T_api_Thread).map o_api_Thread) 1 49] 0 28,.cells [.sl (l1.map e_api_Sym),.boxsl (l374.map o_api_Thread) 1 49] 0 28,.cells [.msl 3 1 0 13 l781.length l781.length] 0 49,.rows (l781.map e_api_Ins) 13 1 53] _ _ from RO) ?_
                        have kh804:=palingbook_label_ok h804
                        try simp only [hb561,hb750,hb753,hb796,hb802] at kh804
                        refine W.rgJG [8] [] [] 0 [] [.fol 2 0 0] [(0,.sl (p0.map (eSl e_palingbook_Act))),(1,.int .i64 p1),(2,.int .i64 p2),(6,.ptr 0 0 0),(7,.ptr 1 0 0),(8,.int .i64 i373),(9,.int .i64 n563),(10,.ptr 2 0 0),(12,.int .i64 i700),(13,.int .i64 i780)] [.cells [.boxsl (([]:List T_api_Sym).map e_api_Sym) 3 43,.boxsl (([]:List T_api_Thread).map o_api_Thread) 1 49] 0 28,.cells [.sl (l1.map e_api_Sym),.boxsl (l374.map o_api_Thread) 1 49] 0 28,.cells [.boxsl (l806.map e_api_Ins) 13 53] 0 49] v_mixed ?_
                        clear h807
                        exact ⟨l806,(),⟨[],[]⟩,hm,RO⟩
                      · replace hm:=of_false hb802 hm
                        refine W.skip ?_
                        exact ⟨l781,(),⟨[],[]⟩,hm,RO⟩
                    · rintro s h ⟨l797,_,F,hm,hat⟩
                      refine W.weak F hat ?_
                      show WK _ _ _ _ _ [(0,.sl (p0.map (eSl e_palingbook_Act))),(1,.int .i64 p1),(2,.int .i64 p2),(6,.ptr 0 0 0),(7,.ptr 1 0 0),(8,.int .i64 i373),(9,.int .i64 n563),(10,.ptr 2 0 0),(12,.int .i64 i700),(13,.int .i64 i780)] [.cells [.boxsl (([]:List T_api_Sym).map e_api_Sym) 3 43,.boxsl (([]:List T_api_Thread).map o_api_Thread) 1 49] 0 28,.cells [.sl (l1.map e_api_Sym),.boxsl (l374.map o_api_Thread) 1 49] 0 28,.cells [.boxsl (l797.map e_api_Ins) 13 53] 0 49]
                      rw [palingbook_Prog_j2] at hm
                      refine W.rg [] [(0,.sl (p0.map (eSl e_palingbook_Act))),(1,.int .i64 p1),(2,.int .i64 p2),(6,.ptr 0 0 0),(7,.ptr 1 0 0),(8,.int .i64 i373),(9,.int .i64 n563),(10,.ptr 2 0 0),(12,.int .i64 i700),(13,.int .i64 (IntKind.wrap .i64 (i780+1)))] [.cells [.boxsl (([]:List T_api_Sym).map e_api_Sym) 3 43,.boxsl (([]:List T_api_Thread).map o_api_Thread) 1 49] 0 28,.cells [.sl (l1.map e_api_Sym),.boxsl (l374.map o_api_Thread) 1 49] 0 28,.cells [.boxsl (l797.map e_api_Ins) 13 53] 0 49] ?_
                      obtain rfl:=Option.some.inj hm
                      exact ⟨((IntKind.wrap .i64 (i780+1)),l797),(),⟨[],[]⟩,rfl,RO⟩
                  · replace hm:=of_false hb796 hm
                    obtain rfl:=Option.some.inj hm
                    obtain rfl:=hx _ rfl
                    exact W.weak ⟨[],[]⟩ (show AT _ ⟨[],[]⟩ [(0,.sl (p0.map (eSl e_palingbook_Act))),(1,.int .i64 p1),(2,.int .i64 p2),(6,.ptr 0 0 0),(7,.ptr 1 0 0),(8,.int .i64 i373),(9,.int .i64 n563),(10,.ptr 2 0 0),(12,.int .i64 i700)] [.cells [.boxsl (([]:List T_api_Sym).map e_api_Sym) 3 43,.boxsl (([]:List T_api_Thread).map o_api_Thread) 1 49] 0 28,.cells [.sl (l1.map e_api_Sym),.boxsl (l374.map o_api_Thread) 1 49] 0 28,.cells [.boxsl (l781.map e_api_Ins) 13 53] 0 49] _ _ from RO) (W.exit (show _ ∧ _ from ⟨rfl,(),rfl,rfl⟩))
                · rintro e0 s0 h0 ⟨rfl,_,rfl,rfl⟩
                  exact ⟨r795,(),⟨[],[]⟩,hm,RO⟩
            · rintro s h ⟨l751,_,F,hm,hat⟩
              refine W.weak F hat ?_
              show WK _ _ _ _ _ [(0,.sl (p0.map (eSl e_palingbook_Act))),(1,.int .i64 p1),(2,.int .i64 p2),(6,.ptr 0 0 0),(7,.ptr 1 0 0),(8,.int .i64 i373),(9,.int .i64 n563),(10,.ptr 2 0 0),(12,.int .i64 i700)] [.cells [.boxsl (([]:List T_api_Sym).map e_api_Sym) 3 43,.boxsl (([]:List T_api_Thread).map o_api_Thread) 1 49] 0 28,.cells [.sl (l1.map e_api_Sym),.boxsl (l374.map o_api_Thread) 1 49] 0 28,.cells [.boxsl (l751.map e_api_Ins) 13 53] 0 49]
              rw [palingbook_Prog_j1] at hm
              refine W.rg [] [(0,.sl (p0.map (eSl e_palingbook_Act))),(1,.int .i64 p1),(2,.int .i64 p2),(6,.ptr 0 0 0),(7,.ptr 1 0 0),(8,.int .i64 i373),(9,.int .i64 n563),(10,.ptr 2 0 0),(12,.int .i64 (IntKind.wrap .i64 (i700+1)))] [.cells [.boxsl (([]:List T_api_Sym).map e_api_Sym) 3 43,.boxsl (([]:List T_api_Thread).map o_api_Thread) 1 49] 0 28,.cells [.sl (l1.map e_api_Sym),.boxsl (l374.map o_api_Thread) 1 49] 0 28,.cells [.boxsl (l751.map e_api_Ins) 13 53] 0 49] ?_
              obtain rfl:=Option.some.inj hm
              exact ⟨((IntKind.wrap .i64 (i700+1)),l751),(),⟨[],[]⟩,rfl,RO⟩
          · replace hm:=of_false hb750 hm
            obtain rfl:=Option.some.inj hm
            obtain rfl:=hx _ rfl
            exact W.weak ⟨[],[]⟩ (show AT _ ⟨[],[]⟩ [(0,.sl (p0.map (eSl e_palingbook_Act))),(1,.int .i64 p1),(2,.int .i64 p2),(6,.ptr 0 0 0),(7,.ptr 1 0 0),(8,.int .i64 i373),(10,.ptr 2 0 0)] [.cells [.boxsl (([]:List T_api_Sym).map e_api_Sym) 3 43,.boxsl (([]:List T_api_Thread).map o_api_Thread) 1 49] 0 28,.cells [.sl (l1.map e_api_Sym),.boxsl (l374.map o_api_Thread) 1 49] 0 28,.cells [.boxsl (l701.map e_api_Ins) 13 53] 0 49] _ _ from RO) (W.exit (show _ ∧ _ from ⟨rfl,(),rfl,rfl⟩))
        · rintro e0 s0 h0 ⟨rfl,_,rfl,rfl⟩
          show WK _ _ _ _ _ [(0,.sl (p0.map (eSl e_palingbook_Act))),(1,.int .i64 p1),(2,.int .i64 p2),(6,.ptr 0 0 0),(7,.ptr 1 0 0),(8,.int .i64 i373),(10,.ptr 2 0 0)] [.cells [.boxsl (([]:List T_api_Sym).map e_api_Sym) 3 43,.boxsl (([]:List T_api_Thread).map o_api_Thread) 1 49] 0 28,.cells [.sl (l1.map e_api_Sym),.boxsl (l374.map o_api_Thread) 1 49] 0 28,.cells [.boxsl (r749.map e_api_Ins) 13 53] 0 49]
          replace hm:=of_ite hm
          obtain ⟨h808,hm⟩:=hm
          replace hm:=of_let hm
          obtain ⟨l809,h810,hm⟩:=hm
          refine W.weak ⟨[],[.foc 1 0 1,.foc 2 0 0]⟩ (show AT _ ⟨[],[.foc 1 0 1,.foc 2 0 0]⟩ [(0,.sl (p0.map (eSl e_palingbook_Act))),(1,.int .i64 p1),(2,.int .i64 p2),(6,.ptr 0 0 0),(7,.ptr 1 0 0),(8,.int .i64 i373),(10,.ptr 2 0 0)] [.cells [.boxsl (([]:List T_api_Sym).map e_api_Sym) 3 43,.boxsl (([]:List T_api_Thread).map o_api_Thread) 1 49] 0 28,.cells [.sl (l1.map e_api_Sym),.msl 3 1 0 1 l374.length l374.length] 0 28,.cells [.msl 4 1 0 13 r749.length r749.length] 0 49,.rows (l374.map o_api_Thread) 1 1 49,.rows (r749.map e_api_Ins) 13 1 53] _ _ from RO) ?_
          refine W.rgG [] [.fol 3 l374.length 0,.fol 1 0 1] [(0,.sl (p0.map (eSl e_palingbook_Act))),(1,.int .i64 p1),(2,.int .i64 p2),(6,.ptr 0 0 0),(7,.ptr 1 0 0),(8,.int .i64 i373)] [.cells [.boxsl (([]:List T_api_Sym).map e_api_Sym) 3 43,.boxsl (([]:List T_api_Thread).map o_api_Thread) 1 49] 0 28,.cells [.sl (l1.map e_api_Sym),.boxsl (l809.map o_api_Thread) 1 49] 0 28] ?_ (hrun:=by exact ROT)
          clear h810
          refine W.rg [] [(0,.sl (p0.map (eSl e_palingbook_Act))),(1,.int .i64 p1),(2,.int .i64 p2),(6,.ptr 0 0 0),(7,.ptr 1 0 0),(8,.int .i64 (IntKind.wrap .i64 (i373+1)))] [.cells [.boxsl (([]:List T_api_Sym).map e_api_Sym) 3 43,.boxsl (([]:List T_api_Thread).map o_api_Thread) 1 49] 0 28,.cells [.sl (l1.map e_api_Sym),.boxsl (l809.map o_api_Thread) 1 49] 0 28] ?_
          obtain rfl:=Option.some.inj hm
          exact ⟨((IntKind.wrap .i64 (i373+1)),l809),(),⟨[],[]⟩,rfl,RO⟩
    · replace hm:=of_false hb561 hm
      obtain rfl:=Option.some.inj hm
      obtain rfl:=hx _ rfl
      exact W.weak ⟨[],[]⟩ (show AT _ ⟨[],[]⟩ [(6,.ptr 0 0 0),(7,.ptr 1 0 0)] [.cells [.boxsl (([]:List T_api_Sym).map e_api_Sym) 3 43,.boxsl (([]:List T_api_Thread).map o_api_Thread) 1 49] 0 28,.cells [.sl (l1.map e_api_Sym),.boxsl (l374.map o_api_Thread) 1 49] 0 28] _ _ from RO) (W.exit (show _ ∧ _ from ⟨rfl,(),rfl,rfl⟩))
  · rintro e0 s0 h0 ⟨rfl,_,rfl,rfl⟩
    show WK _ _ _ _ _ [(6,.ptr 0 0 0),(7,.ptr 1 0 0)] [.cells [.boxsl (([]:List T_api_Sym).map e_api_Sym) 3 43,.boxsl (([]:List T_api_Thread).map o_api_Thread) 1 49] 0 28,.cells [.sl (l1.map e_api_Sym),.boxsl (r560.map o_api_Thread) 1 49] 0 28]
    refine W.weak ⟨[],[.foc 1 0 1]⟩ (show AT _ ⟨[],[.foc 1 0 1]⟩ [(6,.ptr 0 0 0),(7,.ptr 1 0 0)] [.cells [.boxsl (([]:List T_api_Sym).map e_api_Sym) 3 43,.boxsl (([]:List T_api_Thread).map o_api_Thread) 1 49] 0 28,.cells [.sl (l1.map e_api_Sym),.msl 2 1 0 1 r560.length r560.length] 0 28,.rows (r560.map o_api_Thread) 1 1 49] _ _ from RO) ?_
    refine W.sqG [] [.fol 0 0 1] [(6,.ptr 0 0 0)] [.cells [.sl (l1.map e_api_Sym),.boxsl (r560.map o_api_Thread) 1 49] 0 28] ?_
    obtain rfl:=Option.some.inj hm
    refine W.weak ⟨[],[.foc 0 0 1]⟩ (show AT _ ⟨[],[.foc 0 0 1]⟩ [(6,.ptr 0 0 0)] [.cells [.sl (l1.map e_api_Sym),.msl 1 1 0 1 r560.length r560.length] 0 28,.rows (r560.map o_api_Thread) 1 1 49] _ _ from RO) ?_
    exact W.ret (EndsF.retW [1] RO)


end Go.Proofs.YtgdchoahbiagbaaDoor
