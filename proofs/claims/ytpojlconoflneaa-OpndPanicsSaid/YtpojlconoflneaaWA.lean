import Derived.Test.YtpojlconoflneaaVFacts
import Derived.Test.YtpojlconoflneaaPalA
set_option maxRecDepth 100000
set_option maxHeartbeats 4000000
set_option linter.unusedSimpArgs false
set_option linter.unusedVariables false
set_option linter.unusedSectionVars false
namespace Go.Proofs.Ytpojlconoflneaa
open Go.Vs
variable [Tab]
theorem palingbook_Pick_ok {p0 : Int} {p1 : Int} {r : Int} (hm : palingbook_Pick p0 p1 = some r) : PureF Try.prog 4 [.int .i64 p0, .int .i64 p1] (.int .i64 r) := by
  rw [palingbook_Pick] at hm
  refine PureF.of Try.func4 rfl Try.ntmps4 (Nat.le_of_ble_eq_true rfl) ?_
  have e0 : argS 0 [.int .i64 p0, .int .i64 p1] = [(0, .int .i64 p0), (1, .int .i64 p1)] := rfl
  rw [e0]
  refine W.sq [] [(0, .int .i64 p0), (1, .int .i64 p1)] [] ?_
  replace hm := of_ite hm
  obtain ⟨h1, hm⟩ := hm
  refine W.sq [] [(0, .int .i64 (Int.tmod p0 p1)), (1, .int .i64 p1)] [] ?_
  refine W.seq ?_
  refine W.sq [] [(0, .int .i64 (Int.tmod p0 p1)), (1, .int .i64 p1), (9, .bool (decide ((Int.tmod p0 p1) < 0)))] [] ?_
  refine W.cnd (decide ((Int.tmod p0 p1) < 0)) (fun hb2 => ?_) (fun hb2 => ?_)
  · replace hm := of_true hb2 hm
    refine W.rg [] [(0, .int .i64 (IntKind.wrap .i64 ((Int.tmod p0 p1) + p1)))] [] ?_
    refine W.sq [] [(4, .int .i64 (IntKind.wrap .i64 ((Int.tmod p0 p1) + p1)))] [] ?_
    obtain rfl := Option.some.inj hm
    exact W.ret (EndsF.retW [] RO)
  · replace hm := of_false hb2 hm
    refine W.skip ?_
    refine W.sq [] [(4, .int .i64 (Int.tmod p0 p1))] [] ?_
    obtain rfl := Option.some.inj hm
    exact W.ret (EndsF.retW [] RO)

theorem opnd_register_ok {p0 : Int} {r : Bool} (hm : opnd_register p0 = some r) : PureF Try.prog 13 [.int .i64 p0] (.bool r) := by
  rw [opnd_register] at hm
  refine PureF.of Try.func13 rfl Try.ntmps13 (Nat.le_of_ble_eq_true rfl) ?_
  have e0 : argS 0 [.int .i64 p0] = [(0, .int .i64 p0)] := rfl
  rw [e0]
  refine W.sq [] [(0, .int .i64 p0)] [] ?_
  refine W.sq [] [(2, .bool (decide (p0 ≥ 0) && decide (p0 ≤ 7)))] [] ?_
  obtain rfl := Option.some.inj hm
  exact W.ret (EndsF.retW [] RO)

theorem opnd_Right_ok {p0 : T_api_Opd} {r : Bool} (hm : opnd_Right p0 = some r) : PureF Try.prog 11 [.agg [.int .i64 p0.Kind, .int .i64 p0.Reg, .int .i64 p0.Sym, .int .i64 p0.N]] (.bool r) := by
  rw [opnd_Right] at hm
  refine PureF.of Try.func11 rfl Try.ntmps11 (Nat.le_of_ble_eq_true rfl) ?_
  have e0 : argS 0 [.agg [.int .i64 p0.Kind, .int .i64 p0.Reg, .int .i64 p0.Sym, .int .i64 p0.N]] = [(0, .agg [.int .i64 p0.Kind, .int .i64 p0.Reg, .int .i64 p0.Sym, .int .i64 p0.N])] := rfl
  rw [e0]
  refine W.sq [] [(1, .ptr 0 0 0)] [.cells (e_api_Opd p0) 0 41] ?_
  refine W.seq ?_
  refine W.sq [] [(1, .ptr 0 0 0), (4, .int .i64 p0.Kind)] [.cells (e_api_Opd p0) 0 41] ?_
  refine W.block ?_
  refine W.sq [] [(1, .ptr 0 0 0), (4, .int .i64 p0.Kind), (5, .bool (p0.Kind == 1))] [.cells (e_api_Opd p0) 0 41] ?_
  refine W.cnd (p0.Kind == 1) (fun hb1 => ?_) (fun hb1 => ?_)
  · replace hm := of_true hb1 hm
    replace hm := of_bind hm
    obtain ⟨v2, h3, hm⟩ := hm
    have kh3 := opnd_register_ok h3
    try simp only [hb1] at kh3
    refine W.sq [] [(2, .bool ((v2 && (p0.Sym == 0)) && (p0.N == 0)))] [] ?_
    obtain rfl := Option.some.inj hm
    exact W.ret (EndsF.retW [] RO)
  · replace hm := of_false hb1 hm
    refine W.sq [] [(1, .ptr 0 0 0), (4, .int .i64 p0.Kind), (20, .bool (p0.Kind == 2))] [.cells (e_api_Opd p0) 0 41] ?_
    refine W.cnd (p0.Kind == 2) (fun hb4 => ?_) (fun hb4 => ?_)
    · replace hm := of_true hb4 hm
      refine W.sq [] [(2, .bool ((p0.Reg == 0) && (p0.Sym == 0)))] [] ?_
      obtain rfl := Option.some.inj hm
      exact W.ret (EndsF.retW [] RO)
    · replace hm := of_false hb4 hm
      refine W.sq [] [(1, .ptr 0 0 0), (4, .int .i64 p0.Kind), (30, .bool (p0.Kind == 3))] [.cells (e_api_Opd p0) 0 41] ?_
      refine W.cnd (p0.Kind == 3) (fun hb5 => ?_) (fun hb5 => ?_)
      · replace hm := of_true hb5 hm
        refine W.sq [] [(2, .bool ((decide (p0.Sym ≥ 0) && decide (p0.N ≥ 0)) && (p0.Reg == 0)))] [] ?_
        obtain rfl := Option.some.inj hm
        exact W.ret (EndsF.retW [] RO)
      · replace hm := of_false hb5 hm
        refine W.sq [] [(1, .ptr 0 0 0), (45, .bool (p0.Kind == 4))] [.cells (e_api_Opd p0) 0 41] ?_
        refine W.cnd (p0.Kind == 4) (fun hb6 => ?_) (fun hb6 => ?_)
        · replace hm := of_true hb6 hm
          replace hm := of_bind hm
          obtain ⟨v7, h8, hm⟩ := hm
          have kh8 := fun hg => opnd_register_ok (of_true hg h8)
          try simp only [hb1, hb4, hb5, hb6] at kh8
          refine W.sq [] [(2, .bool ((decide (p0.Sym ≥ 0) && v7) && (p0.N == 0)))] [] ?_
          obtain rfl := Option.some.inj hm
          exact W.ret (EndsF.retW [] RO)
        · replace hm := of_false hb6 hm
          refine W.skip ?_
          refine W.sq [] [(2, .bool false)] [] ?_
          obtain rfl := Option.some.inj hm
          exact W.ret (EndsF.retW [] RO)

theorem opnd_Of_ok {p0 : T_api_Opd} {r : I_opnd_Part × Bool} (hm : opnd_Of p0 = some r) : PureF Try.prog 12 [.agg [.int .i64 p0.Kind, .int .i64 p0.Reg, .int .i64 p0.Sym, .int .i64 p0.N]] (.tuple [eI_opnd_Part r.1, .bool r.2]) := by
  rw [opnd_Of] at hm
  refine PureF.of Try.func12 rfl Try.ntmps12 (Nat.le_of_ble_eq_true rfl) ?_
  have e0 : argS 0 [.agg [.int .i64 p0.Kind, .int .i64 p0.Reg, .int .i64 p0.Sym, .int .i64 p0.N]] = [(0, .agg [.int .i64 p0.Kind, .int .i64 p0.Reg, .int .i64 p0.Sym, .int .i64 p0.N])] := rfl
  rw [e0]
  refine W.sq [] [(1, .ptr 0 0 0)] [.cells (e_api_Opd p0) 0 41] ?_
  refine W.seq ?_
  replace hm := of_bind hm
  obtain ⟨v1, h2, hm⟩ := hm
  have kh2 := opnd_Right_ok h2
  refine W.sq [] [(1, .ptr 0 0 0), (6, .bool (!v1))] [.cells (e_api_Opd p0) 0 41] ?_
  refine W.cnd (!v1) (fun hb3 => ?_) (fun hb3 => ?_)
  · replace hm := of_true hb3 hm
    refine W.sq [] [(2, .nili), (3, .bool false)] [] ?_
    obtain rfl := Option.some.inj hm
    exact W.ret (EndsF.retW [] RO)
  · replace hm := of_false hb3 hm
    refine W.skip ?_
    refine W.seq ?_
    refine W.sq [] [(1, .ptr 0 0 0), (8, .int .i64 p0.Kind)] [.cells (e_api_Opd p0) 0 41] ?_
    refine W.block ?_
    refine W.sq [] [(1, .ptr 0 0 0), (8, .int .i64 p0.Kind), (9, .bool (p0.Kind == 1))] [.cells (e_api_Opd p0) 0 41] ?_
    refine W.cnd (p0.Kind == 1) (fun hb4 => ?_) (fun hb4 => ?_)
    · replace hm := of_true hb4 hm
      refine W.sq [] [(2, .iface 32 (.agg [.int .i64 p0.Reg])), (3, .bool true)] [] ?_
      obtain rfl := Option.some.inj hm
      exact W.ret (EndsF.retW [] RO)
    · replace hm := of_false hb4 hm
      refine W.sq [] [(1, .ptr 0 0 0), (8, .int .i64 p0.Kind), (15, .bool (p0.Kind == 2))] [.cells (e_api_Opd p0) 0 41] ?_
      refine W.cnd (p0.Kind == 2) (fun hb5 => ?_) (fun hb5 => ?_)
      · replace hm := of_true hb5 hm
        refine W.sq [] [(2, .iface 25 (.agg [.int .i64 p0.N])), (3, .bool true)] [] ?_
        obtain rfl := Option.some.inj hm
        exact W.ret (EndsF.retW [] RO)
      · replace hm := of_false hb5 hm
        refine W.sq [] [(1, .ptr 0 0 0), (21, .bool (p0.Kind == 3))] [.cells (e_api_Opd p0) 0 41] ?_
        refine W.cnd (p0.Kind == 3) (fun hb6 => ?_) (fun hb6 => ?_)
        · replace hm := of_true hb6 hm
          refine W.sq [] [(2, .iface 27 (.agg [.int .i64 p0.Sym, .int .i64 p0.N])), (3, .bool true)] [] ?_
          obtain rfl := Option.some.inj hm
          exact W.ret (EndsF.retW [] RO)
        · replace hm := of_false hb6 hm
          refine W.skip ?_
          refine W.sq [] [(2, .iface 29 (.agg [.int .i64 p0.Sym, .int .i64 p0.Reg])), (3, .bool true)] [] ?_
          obtain rfl := Option.some.inj hm
          exact W.ret (EndsF.retW [] RO)

theorem opnd_Reg_ok {p0 : I_opnd_Part} {r : Int} (hm : opnd_Reg p0 = some r) : PureF Try.prog 6 [eI_opnd_Part p0] (.int .i64 r) := by
  rw [opnd_Reg.eq_def] at hm
  refine PureF.of Try.func6 rfl Try.ntmps6 (Nat.le_of_ble_eq_true rfl) ?_
  have e0 : argS 0 [eI_opnd_Part p0] = [(0, eI_opnd_Part p0)] := rfl
  rw [e0]
  refine W.sq [] [(0, eI_opnd_Part p0)] [] ?_
  cases p0 with
  | nil =>
    dsimp only at hm
    show WK _ _ _ _ _ [(0, .nili)] []
    cases hm
  | NumPart x1 =>
    dsimp only at hm
    show WK _ _ _ _ _ [(0, .iface 25 (.agg [.int .i64 x1.N]))] []
    cases hm
  | AtPart x2 =>
    dsimp only at hm
    show WK _ _ _ _ _ [(0, .iface 27 (.agg [.int .i64 x2.Sym, .int .i64 x2.N]))] []
    cases hm
  | ByPart x3 =>
    dsimp only at hm
    show WK _ _ _ _ _ [(0, .iface 29 (.agg [.int .i64 x3.Sym, .int .i64 x3.Reg]))] []
    cases hm
  | RegPart x4 =>
    dsimp only at hm
    show WK _ _ _ _ _ [(0, .iface 32 (.agg [.int .i64 x4.Reg]))] []
    refine W.sq [] [(2, .int .i64 x4.Reg)] [] ?_
    obtain rfl := Option.some.inj hm
    exact W.ret (EndsF.retW [] RO)

theorem opnd_Memory_ok {p0 : I_opnd_Part} {r : Int × Bool} (hm : opnd_Memory p0 = some r) : PureF Try.prog 9 [eI_opnd_Part p0] (.tuple [.int .i64 r.1, .bool r.2]) := by
  rw [opnd_Memory.eq_def] at hm
  refine PureF.of Try.func9 rfl Try.ntmps9 (Nat.le_of_ble_eq_true rfl) ?_
  have e0 : argS 0 [eI_opnd_Part p0] = [(0, eI_opnd_Part p0)] := rfl
  rw [e0]
  refine W.sq [] [(0, eI_opnd_Part p0)] [] ?_
  refine W.seq ?_
  cases p0 with
  | nil =>
    dsimp only at hm
    show WK _ _ _ _ _ [(0, .nili)] []
    refine W.sq [] [(0, .nili), (4, .ptr 0 0 0), (5, .bool false)] [.cells [.int .i64 0, .int .i64 0] 0 27] ?_
    refine W.sq [] [(0, .nili), (4, .ptr 0 0 0), (13, .bool false)] [.cells [.int .i64 0, .int .i64 0] 0 27] ?_
    refine W.cnd false (fun hx => by cases hx) (fun _ => ?_)
    refine W.skip ?_
    refine W.sq [] [(6, .ptr 1 0 0), (7, .bool false)] [.dead, .cells [.int .i64 0, .int .i64 0] 0 29] ?_
    refine W.sq [] [(2, .int .i64 0), (3, .bool false)] [] ?_
    obtain rfl := Option.some.inj hm
    exact W.ret (EndsF.retW [] RO)
  | NumPart x1 =>
    dsimp only at hm
    show WK _ _ _ _ _ [(0, .iface 25 (.agg [.int .i64 x1.N]))] []
    refine W.sq [] [(0, .iface 25 (.agg [.int .i64 x1.N])), (4, .ptr 0 0 0), (5, .bool false)] [.cells [.int .i64 0, .int .i64 0] 0 27] ?_
    refine W.sq [] [(0, .iface 25 (.agg [.int .i64 x1.N])), (4, .ptr 0 0 0), (13, .bool false)] [.cells [.int .i64 0, .int .i64 0] 0 27] ?_
    refine W.cnd false (fun hx => by cases hx) (fun _ => ?_)
    refine W.skip ?_
    refine W.sq [] [(6, .ptr 1 0 0), (7, .bool false)] [.dead, .cells [.int .i64 0, .int .i64 0] 0 29] ?_
    refine W.sq [] [(2, .int .i64 0), (3, .bool false)] [] ?_
    obtain rfl := Option.some.inj hm
    exact W.ret (EndsF.retW [] RO)
  | AtPart x2 =>
    dsimp only at hm
    show WK _ _ _ _ _ [(0, .iface 27 (.agg [.int .i64 x2.Sym, .int .i64 x2.N]))] []
    refine W.sq [] [(0, .iface 27 (.agg [.int .i64 x2.Sym, .int .i64 x2.N])), (4, .ptr 0 0 0), (5, .bool true)] [.cells (e_opnd_AtPart x2) 0 27] ?_
    refine W.sq [] [(0, .iface 27 (.agg [.int .i64 x2.Sym, .int .i64 x2.N])), (4, .ptr 0 0 0), (13, .bool true)] [.cells (e_opnd_AtPart x2) 0 27] ?_
    refine W.cnd true (fun _ => ?_) (fun hx => by cases hx)
    refine W.sq [] [(2, .int .i64 x2.Sym), (3, .bool true)] [] ?_
    obtain rfl := Option.some.inj hm
    exact W.ret (EndsF.retW [] RO)
  | ByPart x3 =>
    dsimp only at hm
    show WK _ _ _ _ _ [(0, .iface 29 (.agg [.int .i64 x3.Sym, .int .i64 x3.Reg]))] []
    refine W.sq [] [(0, .iface 29 (.agg [.int .i64 x3.Sym, .int .i64 x3.Reg])), (4, .ptr 0 0 0), (5, .bool false)] [.cells [.int .i64 0, .int .i64 0] 0 27] ?_
    refine W.sq [] [(0, .iface 29 (.agg [.int .i64 x3.Sym, .int .i64 x3.Reg])), (4, .ptr 0 0 0), (13, .bool false)] [.cells [.int .i64 0, .int .i64 0] 0 27] ?_
    refine W.cnd false (fun hx => by cases hx) (fun _ => ?_)
    refine W.skip ?_
    refine W.sq [] [(6, .ptr 1 0 0), (7, .bool true)] [.dead, .cells (e_opnd_ByPart x3) 0 29] ?_
    refine W.sq [] [(2, .int .i64 x3.Sym), (3, .bool true)] [] ?_
    obtain rfl := Option.some.inj hm
    exact W.ret (EndsF.retW [] RO)
  | RegPart x4 =>
    dsimp only at hm
    show WK _ _ _ _ _ [(0, .iface 32 (.agg [.int .i64 x4.Reg]))] []
    refine W.sq [] [(0, .iface 32 (.agg [.int .i64 x4.Reg])), (4, .ptr 0 0 0), (5, .bool false)] [.cells [.int .i64 0, .int .i64 0] 0 27] ?_
    refine W.sq [] [(0, .iface 32 (.agg [.int .i64 x4.Reg])), (4, .ptr 0 0 0), (13, .bool false)] [.cells [.int .i64 0, .int .i64 0] 0 27] ?_
    refine W.cnd false (fun hx => by cases hx) (fun _ => ?_)
    refine W.skip ?_
    refine W.sq [] [(6, .ptr 1 0 0), (7, .bool false)] [.dead, .cells [.int .i64 0, .int .i64 0] 0 29] ?_
    refine W.sq [] [(2, .int .i64 0), (3, .bool false)] [] ?_
    obtain rfl := Option.some.inj hm
    exact W.ret (EndsF.retW [] RO)

theorem names_regs_ok {r : (List ByteArray)} (hm : names_regs  = some r) : PureF Try.prog 48 [] (.sl (r.map eStr)) := by
  rw [names_regs] at hm
  refine PureF.of Try.func48 rfl Try.ntmps48 (Nat.le_of_ble_eq_true rfl) ?_
  have e0 : argS 0 [] = [] := rfl
  rw [e0]
  refine W.sq [] [] [] ?_
  replace hm := of_let hm
  obtain ⟨l1, h2, hm⟩ := hm
  refine W.sq [] [(0, .sl (l1.map eStr))] [] ?_
  clear h2
  obtain rfl := Option.some.inj hm
  exact W.ret (EndsF.retW [] RO)

theorem names_RegText_ok {p0 : Int} {r : ByteArray} (hm : names_RegText p0 = some r) : PureF Try.prog 47 [.int .i64 p0] (.str r) := by
  rw [names_RegText] at hm
  refine PureF.of Try.func47 rfl Try.ntmps47 (Nat.le_of_ble_eq_true rfl) ?_
  have e0 : argS 0 [.int .i64 p0] = [(0, .int .i64 p0)] := rfl
  rw [e0]
  refine W.sq [] [(0, .int .i64 p0)] [] ?_
  refine W.seq ?_
  replace hm := of_bind hm
  obtain ⟨v1, h2, hm⟩ := hm
  have kh2 := names_regs_ok h2
  refine W.sq [] [(0, .int .i64 p0), (3, .sl (v1.map eStr))] [] ?_
  refine W.sq [] [(0, .int .i64 p0), (3, .sl (v1.map eStr)), (12, .bool (decide (p0 ≥ 0) && decide (p0 < (v1.length : Int))))] [] ?_
  refine W.cnd (decide (p0 ≥ 0) && decide (p0 < (v1.length : Int))) (fun hb3 => ?_) (fun hb3 => ?_)
  · replace hm := of_true hb3 hm
    replace hm := of_ite hm
    obtain ⟨h4, hm⟩ := hm
    refine W.sq [] [(2, .str (rd v1 p0))] [] ?_
    obtain rfl := Option.some.inj hm
    exact W.ret (EndsF.retW [] RO)
  · replace hm := of_false hb3 hm
    refine W.skip ?_
    refine W.sq [] [(2, .str (⟨#[]⟩ : ByteArray))] [] ?_
    obtain rfl := Option.some.inj hm
    exact W.ret (EndsF.retW [] RO)

theorem opnd_Back_ok {p0 : I_opnd_Part} {r : T_api_Opd} (hm : opnd_Back p0 = some r) : PureF Try.prog 45 [eI_opnd_Part p0] (.agg [.int .i64 r.Kind, .int .i64 r.Reg, .int .i64 r.Sym, .int .i64 r.N]) := by
  rw [opnd_Back.eq_def] at hm
  refine PureF.of Try.func45 rfl Try.ntmps45 (Nat.le_of_ble_eq_true rfl) ?_
  have e0 : argS 0 [eI_opnd_Part p0] = [(0, eI_opnd_Part p0)] := rfl
  rw [e0]
  refine W.sq [] [(0, eI_opnd_Part p0), (2, .ptr 0 0 0)] [.cells [.int .i64 0, .int .i64 0, .int .i64 0, .int .i64 0] 0 41] ?_
  refine W.sq [] [(0, eI_opnd_Part p0), (2, .ptr 0 0 0), (3, .ptr 1 0 0)] [.cells [.int .i64 0, .int .i64 0, .int .i64 0, .int .i64 0] 0 41, .cells [.int .i64 0, .int .i64 0, .int .i64 0, .int .i64 0] 0 41] ?_
  refine W.cut (fun s h => ∃ (v : I_opnd_Part × Int × Int) (w : Unit) (F : Gs), opnd_Back_j1 v.1 v.2.1 v.2.2 = some r ∧ AT 0 F [(0, eI_opnd_Part v.1), (2, .ptr 0 0 0), (3, .ptr 1 0 0)] [.cells [.int .i64 0, .int .i64 0, .int .i64 0, .int .i64 0] 0 41, .cells [.int .i64 v.2.1, .int .i64 v.2.2, .int .i64 0, .int .i64 0] 0 41] s h) ?_ ?_
  · cases p0 with
    | nil =>
      dsimp only at hm
      show WK _ _ _ _ _ [(0, .nili), (2, .ptr 0 0 0), (3, .ptr 1 0 0)] [.cells [.int .i64 0, .int .i64 0, .int .i64 0, .int .i64 0] 0 41, .cells [.int .i64 0, .int .i64 0, .int .i64 0, .int .i64 0] 0 41]
      refine W.sq [] [(0, .nili), (2, .ptr 0 0 0), (3, .ptr 1 0 0), (4, .ptr 2 0 0), (5, .bool false)] [.cells [.int .i64 0, .int .i64 0, .int .i64 0, .int .i64 0] 0 41, .cells [.int .i64 0, .int .i64 0, .int .i64 0, .int .i64 0] 0 41, .cells [.int .i64 0] 0 32] ?_
      refine W.sq [] [(0, .nili), (2, .ptr 0 0 0), (3, .ptr 1 0 0), (4, .ptr 2 0 0), (17, .bool false)] [.cells [.int .i64 0, .int .i64 0, .int .i64 0, .int .i64 0] 0 41, .cells [.int .i64 0, .int .i64 0, .int .i64 0, .int .i64 0] 0 41, .cells [.int .i64 0] 0 32] ?_
      refine W.cnd false (fun hx => by cases hx) (fun _ => ?_)
      refine W.skip ?_
      exact ⟨(I_opnd_Part.nil, 0, 0), (), ⟨[], []⟩, hm, RO⟩
    | NumPart x33 =>
      dsimp only at hm
      show WK _ _ _ _ _ [(0, .iface 25 (.agg [.int .i64 x33.N])), (2, .ptr 0 0 0), (3, .ptr 1 0 0)] [.cells [.int .i64 0, .int .i64 0, .int .i64 0, .int .i64 0] 0 41, .cells [.int .i64 0, .int .i64 0, .int .i64 0, .int .i64 0] 0 41]
      refine W.sq [] [(0, .iface 25 (.agg [.int .i64 x33.N])), (2, .ptr 0 0 0), (3, .ptr 1 0 0), (4, .ptr 2 0 0), (5, .bool false)] [.cells [.int .i64 0, .int .i64 0, .int .i64 0, .int .i64 0] 0 41, .cells [.int .i64 0, .int .i64 0, .int .i64 0, .int .i64 0] 0 41, .cells [.int .i64 0] 0 32] ?_
      refine W.sq [] [(0, .iface 25 (.agg [.int .i64 x33.N])), (2, .ptr 0 0 0), (3, .ptr 1 0 0), (4, .ptr 2 0 0), (17, .bool false)] [.cells [.int .i64 0, .int .i64 0, .int .i64 0, .int .i64 0] 0 41, .cells [.int .i64 0, .int .i64 0, .int .i64 0, .int .i64 0] 0 41, .cells [.int .i64 0] 0 32] ?_
      refine W.cnd false (fun hx => by cases hx) (fun _ => ?_)
      refine W.skip ?_
      exact ⟨((I_opnd_Part.NumPart x33), 0, 0), (), ⟨[], []⟩, hm, RO⟩
    | AtPart x34 =>
      dsimp only at hm
      show WK _ _ _ _ _ [(0, .iface 27 (.agg [.int .i64 x34.Sym, .int .i64 x34.N])), (2, .ptr 0 0 0), (3, .ptr 1 0 0)] [.cells [.int .i64 0, .int .i64 0, .int .i64 0, .int .i64 0] 0 41, .cells [.int .i64 0, .int .i64 0, .int .i64 0, .int .i64 0] 0 41]
      refine W.sq [] [(0, .iface 27 (.agg [.int .i64 x34.Sym, .int .i64 x34.N])), (2, .ptr 0 0 0), (3, .ptr 1 0 0), (4, .ptr 2 0 0), (5, .bool false)] [.cells [.int .i64 0, .int .i64 0, .int .i64 0, .int .i64 0] 0 41, .cells [.int .i64 0, .int .i64 0, .int .i64 0, .int .i64 0] 0 41, .cells [.int .i64 0] 0 32] ?_
      refine W.sq [] [(0, .iface 27 (.agg [.int .i64 x34.Sym, .int .i64 x34.N])), (2, .ptr 0 0 0), (3, .ptr 1 0 0), (4, .ptr 2 0 0), (17, .bool false)] [.cells [.int .i64 0, .int .i64 0, .int .i64 0, .int .i64 0] 0 41, .cells [.int .i64 0, .int .i64 0, .int .i64 0, .int .i64 0] 0 41, .cells [.int .i64 0] 0 32] ?_
      refine W.cnd false (fun hx => by cases hx) (fun _ => ?_)
      refine W.skip ?_
      exact ⟨((I_opnd_Part.AtPart x34), 0, 0), (), ⟨[], []⟩, hm, RO⟩
    | ByPart x35 =>
      dsimp only at hm
      show WK _ _ _ _ _ [(0, .iface 29 (.agg [.int .i64 x35.Sym, .int .i64 x35.Reg])), (2, .ptr 0 0 0), (3, .ptr 1 0 0)] [.cells [.int .i64 0, .int .i64 0, .int .i64 0, .int .i64 0] 0 41, .cells [.int .i64 0, .int .i64 0, .int .i64 0, .int .i64 0] 0 41]
      refine W.sq [] [(0, .iface 29 (.agg [.int .i64 x35.Sym, .int .i64 x35.Reg])), (2, .ptr 0 0 0), (3, .ptr 1 0 0), (4, .ptr 2 0 0), (5, .bool false)] [.cells [.int .i64 0, .int .i64 0, .int .i64 0, .int .i64 0] 0 41, .cells [.int .i64 0, .int .i64 0, .int .i64 0, .int .i64 0] 0 41, .cells [.int .i64 0] 0 32] ?_
      refine W.sq [] [(0, .iface 29 (.agg [.int .i64 x35.Sym, .int .i64 x35.Reg])), (2, .ptr 0 0 0), (3, .ptr 1 0 0), (4, .ptr 2 0 0), (17, .bool false)] [.cells [.int .i64 0, .int .i64 0, .int .i64 0, .int .i64 0] 0 41, .cells [.int .i64 0, .int .i64 0, .int .i64 0, .int .i64 0] 0 41, .cells [.int .i64 0] 0 32] ?_
      refine W.cnd false (fun hx => by cases hx) (fun _ => ?_)
      refine W.skip ?_
      exact ⟨((I_opnd_Part.ByPart x35), 0, 0), (), ⟨[], []⟩, hm, RO⟩
    | RegPart x36 =>
      dsimp only at hm
      show WK _ _ _ _ _ [(0, .iface 32 (.agg [.int .i64 x36.Reg])), (2, .ptr 0 0 0), (3, .ptr 1 0 0)] [.cells [.int .i64 0, .int .i64 0, .int .i64 0, .int .i64 0] 0 41, .cells [.int .i64 0, .int .i64 0, .int .i64 0, .int .i64 0] 0 41]
      refine W.sq [] [(0, .iface 32 (.agg [.int .i64 x36.Reg])), (2, .ptr 0 0 0), (3, .ptr 1 0 0), (4, .ptr 2 0 0), (5, .bool true)] [.cells [.int .i64 0, .int .i64 0, .int .i64 0, .int .i64 0] 0 41, .cells [.int .i64 0, .int .i64 0, .int .i64 0, .int .i64 0] 0 41, .cells [.int .i64 x36.Reg] 0 32] ?_
      refine W.sq [] [(0, .iface 32 (.agg [.int .i64 x36.Reg])), (2, .ptr 0 0 0), (3, .ptr 1 0 0), (4, .ptr 2 0 0), (17, .bool true)] [.cells [.int .i64 0, .int .i64 0, .int .i64 0, .int .i64 0] 0 41, .cells [.int .i64 0, .int .i64 0, .int .i64 0, .int .i64 0] 0 41, .cells [.int .i64 x36.Reg] 0 32] ?_
      refine W.cnd true (fun _ => ?_) (fun hx => by cases hx)
      refine W.rg [] [(0, .iface 32 (.agg [.int .i64 x36.Reg])), (2, .ptr 0 0 0), (3, .ptr 1 0 0)] [.cells [.int .i64 0, .int .i64 0, .int .i64 0, .int .i64 0] 0 41, .cells [.int .i64 1, .int .i64 x36.Reg, .int .i64 0, .int .i64 0] 0 41] ?_
      exact ⟨((I_opnd_Part.RegPart x36), 1, x36.Reg), (), ⟨[], []⟩, hm, RO⟩
  · rintro s h ⟨⟨z1, i2, i3⟩, _, F, hm, hat⟩
    refine W.weak F hat ?_
    show WK _ _ _ _ _ [(0, eI_opnd_Part z1), (2, .ptr 0 0 0), (3, .ptr 1 0 0)] [.cells [.int .i64 0, .int .i64 0, .int .i64 0, .int .i64 0] 0 41, .cells [.int .i64 i2, .int .i64 i3, .int .i64 0, .int .i64 0] 0 41]
    rw [opnd_Back_j1.eq_def] at hm
    refine W.cut (fun s h => ∃ (v : I_opnd_Part × Int × Int × Int) (w : Unit) (F : Gs), opnd_Back_j2 v.1 v.2.1 v.2.2.1 v.2.2.2 = some r ∧ AT 0 F [(0, eI_opnd_Part v.1), (2, .ptr 0 0 0), (3, .ptr 1 0 0)] [.cells [.int .i64 0, .int .i64 0, .int .i64 0, .int .i64 0] 0 41, .cells [.int .i64 v.2.1, .int .i64 v.2.2.1, .int .i64 0, .int .i64 v.2.2.2] 0 41] s h) ?_ ?_
    · cases z1 with
      | nil =>
        dsimp only at hm
        show WK _ _ _ _ _ [(0, .nili), (2, .ptr 0 0 0), (3, .ptr 1 0 0)] [.cells [.int .i64 0, .int .i64 0, .int .i64 0, .int .i64 0] 0 41, .cells [.int .i64 i2, .int .i64 i3, .int .i64 0, .int .i64 0] 0 41]
        refine W.sq [] [(0, .nili), (2, .ptr 0 0 0), (3, .ptr 1 0 0), (6, .ptr 2 0 0), (7, .bool false)] [.cells [.int .i64 0, .int .i64 0, .int .i64 0, .int .i64 0] 0 41, .cells [.int .i64 i2, .int .i64 i3, .int .i64 0, .int .i64 0] 0 41, .cells [.int .i64 0] 0 25] ?_
        refine W.sq [] [(0, .nili), (2, .ptr 0 0 0), (3, .ptr 1 0 0), (6, .ptr 2 0 0), (26, .bool false)] [.cells [.int .i64 0, .int .i64 0, .int .i64 0, .int .i64 0] 0 41, .cells [.int .i64 i2, .int .i64 i3, .int .i64 0, .int .i64 0] 0 41, .cells [.int .i64 0] 0 25] ?_
        refine W.cnd false (fun hx => by cases hx) (fun _ => ?_)
        refine W.skip ?_
        exact ⟨(I_opnd_Part.nil, i2, i3, 0), (), ⟨[], []⟩, hm, RO⟩
      | NumPart x29 =>
        dsimp only at hm
        show WK _ _ _ _ _ [(0, .iface 25 (.agg [.int .i64 x29.N])), (2, .ptr 0 0 0), (3, .ptr 1 0 0)] [.cells [.int .i64 0, .int .i64 0, .int .i64 0, .int .i64 0] 0 41, .cells [.int .i64 i2, .int .i64 i3, .int .i64 0, .int .i64 0] 0 41]
        refine W.sq [] [(0, .iface 25 (.agg [.int .i64 x29.N])), (2, .ptr 0 0 0), (3, .ptr 1 0 0), (6, .ptr 2 0 0), (7, .bool true)] [.cells [.int .i64 0, .int .i64 0, .int .i64 0, .int .i64 0] 0 41, .cells [.int .i64 i2, .int .i64 i3, .int .i64 0, .int .i64 0] 0 41, .cells [.int .i64 x29.N] 0 25] ?_
        refine W.sq [] [(0, .iface 25 (.agg [.int .i64 x29.N])), (2, .ptr 0 0 0), (3, .ptr 1 0 0), (6, .ptr 2 0 0), (26, .bool true)] [.cells [.int .i64 0, .int .i64 0, .int .i64 0, .int .i64 0] 0 41, .cells [.int .i64 i2, .int .i64 i3, .int .i64 0, .int .i64 0] 0 41, .cells [.int .i64 x29.N] 0 25] ?_
        refine W.cnd true (fun _ => ?_) (fun hx => by cases hx)
        refine W.rg [] [(0, .iface 25 (.agg [.int .i64 x29.N])), (2, .ptr 0 0 0), (3, .ptr 1 0 0)] [.cells [.int .i64 0, .int .i64 0, .int .i64 0, .int .i64 0] 0 41, .cells [.int .i64 2, .int .i64 0, .int .i64 0, .int .i64 x29.N] 0 41] ?_
        exact ⟨((I_opnd_Part.NumPart x29), 2, 0, x29.N), (), ⟨[], []⟩, hm, RO⟩
      | AtPart x30 =>
        dsimp only at hm
        show WK _ _ _ _ _ [(0, .iface 27 (.agg [.int .i64 x30.Sym, .int .i64 x30.N])), (2, .ptr 0 0 0), (3, .ptr 1 0 0)] [.cells [.int .i64 0, .int .i64 0, .int .i64 0, .int .i64 0] 0 41, .cells [.int .i64 i2, .int .i64 i3, .int .i64 0, .int .i64 0] 0 41]
        refine W.sq [] [(0, .iface 27 (.agg [.int .i64 x30.Sym, .int .i64 x30.N])), (2, .ptr 0 0 0), (3, .ptr 1 0 0), (6, .ptr 2 0 0), (7, .bool false)] [.cells [.int .i64 0, .int .i64 0, .int .i64 0, .int .i64 0] 0 41, .cells [.int .i64 i2, .int .i64 i3, .int .i64 0, .int .i64 0] 0 41, .cells [.int .i64 0] 0 25] ?_
        refine W.sq [] [(0, .iface 27 (.agg [.int .i64 x30.Sym, .int .i64 x30.N])), (2, .ptr 0 0 0), (3, .ptr 1 0 0), (6, .ptr 2 0 0), (26, .bool false)] [.cells [.int .i64 0, .int .i64 0, .int .i64 0, .int .i64 0] 0 41, .cells [.int .i64 i2, .int .i64 i3, .int .i64 0, .int .i64 0] 0 41, .cells [.int .i64 0] 0 25] ?_
        refine W.cnd false (fun hx => by cases hx) (fun _ => ?_)
        refine W.skip ?_
        exact ⟨((I_opnd_Part.AtPart x30), i2, i3, 0), (), ⟨[], []⟩, hm, RO⟩
      | ByPart x31 =>
        dsimp only at hm
        show WK _ _ _ _ _ [(0, .iface 29 (.agg [.int .i64 x31.Sym, .int .i64 x31.Reg])), (2, .ptr 0 0 0), (3, .ptr 1 0 0)] [.cells [.int .i64 0, .int .i64 0, .int .i64 0, .int .i64 0] 0 41, .cells [.int .i64 i2, .int .i64 i3, .int .i64 0, .int .i64 0] 0 41]
        refine W.sq [] [(0, .iface 29 (.agg [.int .i64 x31.Sym, .int .i64 x31.Reg])), (2, .ptr 0 0 0), (3, .ptr 1 0 0), (6, .ptr 2 0 0), (7, .bool false)] [.cells [.int .i64 0, .int .i64 0, .int .i64 0, .int .i64 0] 0 41, .cells [.int .i64 i2, .int .i64 i3, .int .i64 0, .int .i64 0] 0 41, .cells [.int .i64 0] 0 25] ?_
        refine W.sq [] [(0, .iface 29 (.agg [.int .i64 x31.Sym, .int .i64 x31.Reg])), (2, .ptr 0 0 0), (3, .ptr 1 0 0), (6, .ptr 2 0 0), (26, .bool false)] [.cells [.int .i64 0, .int .i64 0, .int .i64 0, .int .i64 0] 0 41, .cells [.int .i64 i2, .int .i64 i3, .int .i64 0, .int .i64 0] 0 41, .cells [.int .i64 0] 0 25] ?_
        refine W.cnd false (fun hx => by cases hx) (fun _ => ?_)
        refine W.skip ?_
        exact ⟨((I_opnd_Part.ByPart x31), i2, i3, 0), (), ⟨[], []⟩, hm, RO⟩
      | RegPart x32 =>
        dsimp only at hm
        show WK _ _ _ _ _ [(0, .iface 32 (.agg [.int .i64 x32.Reg])), (2, .ptr 0 0 0), (3, .ptr 1 0 0)] [.cells [.int .i64 0, .int .i64 0, .int .i64 0, .int .i64 0] 0 41, .cells [.int .i64 i2, .int .i64 i3, .int .i64 0, .int .i64 0] 0 41]
        refine W.sq [] [(0, .iface 32 (.agg [.int .i64 x32.Reg])), (2, .ptr 0 0 0), (3, .ptr 1 0 0), (6, .ptr 2 0 0), (7, .bool false)] [.cells [.int .i64 0, .int .i64 0, .int .i64 0, .int .i64 0] 0 41, .cells [.int .i64 i2, .int .i64 i3, .int .i64 0, .int .i64 0] 0 41, .cells [.int .i64 0] 0 25] ?_
        refine W.sq [] [(0, .iface 32 (.agg [.int .i64 x32.Reg])), (2, .ptr 0 0 0), (3, .ptr 1 0 0), (6, .ptr 2 0 0), (26, .bool false)] [.cells [.int .i64 0, .int .i64 0, .int .i64 0, .int .i64 0] 0 41, .cells [.int .i64 i2, .int .i64 i3, .int .i64 0, .int .i64 0] 0 41, .cells [.int .i64 0] 0 25] ?_
        refine W.cnd false (fun hx => by cases hx) (fun _ => ?_)
        refine W.skip ?_
        exact ⟨((I_opnd_Part.RegPart x32), i2, i3, 0), (), ⟨[], []⟩, hm, RO⟩
    · rintro s h ⟨⟨z4, i5, i6, i7⟩, _, F, hm, hat⟩
      refine W.weak F hat ?_
      show WK _ _ _ _ _ [(0, eI_opnd_Part z4), (2, .ptr 0 0 0), (3, .ptr 1 0 0)] [.cells [.int .i64 0, .int .i64 0, .int .i64 0, .int .i64 0] 0 41, .cells [.int .i64 i5, .int .i64 i6, .int .i64 0, .int .i64 i7] 0 41]
      rw [opnd_Back_j2.eq_def] at hm
      refine W.cut (fun s h => ∃ (v : I_opnd_Part × Int × Int × Int × Int) (w : Unit) (F : Gs), opnd_Back_j3 v.1 v.2.1 v.2.2.1 v.2.2.2.1 v.2.2.2.2 = some r ∧ AT 0 F [(0, eI_opnd_Part v.1), (2, .ptr 0 0 0), (3, .ptr 1 0 0)] [.cells [.int .i64 0, .int .i64 0, .int .i64 0, .int .i64 0] 0 41, .cells [.int .i64 v.2.1, .int .i64 v.2.2.1, .int .i64 v.2.2.2.1, .int .i64 v.2.2.2.2] 0 41] s h) ?_ ?_
      · cases z4 with
        | nil =>
          dsimp only at hm
          show WK _ _ _ _ _ [(0, .nili), (2, .ptr 0 0 0), (3, .ptr 1 0 0)] [.cells [.int .i64 0, .int .i64 0, .int .i64 0, .int .i64 0] 0 41, .cells [.int .i64 i5, .int .i64 i6, .int .i64 0, .int .i64 i7] 0 41]
          refine W.sq [] [(0, .nili), (2, .ptr 0 0 0), (3, .ptr 1 0 0), (8, .ptr 2 0 0), (9, .bool false)] [.cells [.int .i64 0, .int .i64 0, .int .i64 0, .int .i64 0] 0 41, .cells [.int .i64 i5, .int .i64 i6, .int .i64 0, .int .i64 i7] 0 41, .cells [.int .i64 0, .int .i64 0] 0 27] ?_
          refine W.sq [] [(0, .nili), (2, .ptr 0 0 0), (3, .ptr 1 0 0), (8, .ptr 2 0 0), (35, .bool false)] [.cells [.int .i64 0, .int .i64 0, .int .i64 0, .int .i64 0] 0 41, .cells [.int .i64 i5, .int .i64 i6, .int .i64 0, .int .i64 i7] 0 41, .cells [.int .i64 0, .int .i64 0] 0 27] ?_
          refine W.cnd false (fun hx => by cases hx) (fun _ => ?_)
          refine W.skip ?_
          exact ⟨(I_opnd_Part.nil, i5, i6, 0, i7), (), ⟨[], []⟩, hm, RO⟩
        | NumPart x25 =>
          dsimp only at hm
          show WK _ _ _ _ _ [(0, .iface 25 (.agg [.int .i64 x25.N])), (2, .ptr 0 0 0), (3, .ptr 1 0 0)] [.cells [.int .i64 0, .int .i64 0, .int .i64 0, .int .i64 0] 0 41, .cells [.int .i64 i5, .int .i64 i6, .int .i64 0, .int .i64 i7] 0 41]
          refine W.sq [] [(0, .iface 25 (.agg [.int .i64 x25.N])), (2, .ptr 0 0 0), (3, .ptr 1 0 0), (8, .ptr 2 0 0), (9, .bool false)] [.cells [.int .i64 0, .int .i64 0, .int .i64 0, .int .i64 0] 0 41, .cells [.int .i64 i5, .int .i64 i6, .int .i64 0, .int .i64 i7] 0 41, .cells [.int .i64 0, .int .i64 0] 0 27] ?_
          refine W.sq [] [(0, .iface 25 (.agg [.int .i64 x25.N])), (2, .ptr 0 0 0), (3, .ptr 1 0 0), (8, .ptr 2 0 0), (35, .bool false)] [.cells [.int .i64 0, .int .i64 0, .int .i64 0, .int .i64 0] 0 41, .cells [.int .i64 i5, .int .i64 i6, .int .i64 0, .int .i64 i7] 0 41, .cells [.int .i64 0, .int .i64 0] 0 27] ?_
          refine W.cnd false (fun hx => by cases hx) (fun _ => ?_)
          refine W.skip ?_
          exact ⟨((I_opnd_Part.NumPart x25), i5, i6, 0, i7), (), ⟨[], []⟩, hm, RO⟩
        | AtPart x26 =>
          dsimp only at hm
          show WK _ _ _ _ _ [(0, .iface 27 (.agg [.int .i64 x26.Sym, .int .i64 x26.N])), (2, .ptr 0 0 0), (3, .ptr 1 0 0)] [.cells [.int .i64 0, .int .i64 0, .int .i64 0, .int .i64 0] 0 41, .cells [.int .i64 i5, .int .i64 i6, .int .i64 0, .int .i64 i7] 0 41]
          refine W.sq [] [(0, .iface 27 (.agg [.int .i64 x26.Sym, .int .i64 x26.N])), (2, .ptr 0 0 0), (3, .ptr 1 0 0), (8, .ptr 2 0 0), (9, .bool true)] [.cells [.int .i64 0, .int .i64 0, .int .i64 0, .int .i64 0] 0 41, .cells [.int .i64 i5, .int .i64 i6, .int .i64 0, .int .i64 i7] 0 41, .cells (e_opnd_AtPart x26) 0 27] ?_
          refine W.sq [] [(0, .iface 27 (.agg [.int .i64 x26.Sym, .int .i64 x26.N])), (2, .ptr 0 0 0), (3, .ptr 1 0 0), (8, .ptr 2 0 0), (35, .bool true)] [.cells [.int .i64 0, .int .i64 0, .int .i64 0, .int .i64 0] 0 41, .cells [.int .i64 i5, .int .i64 i6, .int .i64 0, .int .i64 i7] 0 41, .cells (e_opnd_AtPart x26) 0 27] ?_
          refine W.cnd true (fun _ => ?_) (fun hx => by cases hx)
          refine W.rg [] [(0, .iface 27 (.agg [.int .i64 x26.Sym, .int .i64 x26.N])), (2, .ptr 0 0 0), (3, .ptr 1 0 0)] [.cells [.int .i64 0, .int .i64 0, .int .i64 0, .int .i64 0] 0 41, .cells [.int .i64 3, .int .i64 0, .int .i64 x26.Sym, .int .i64 x26.N] 0 41] ?_
          exact ⟨((I_opnd_Part.AtPart x26), 3, 0, x26.Sym, x26.N), (), ⟨[], []⟩, hm, RO⟩
        | ByPart x27 =>
          dsimp only at hm
          show WK _ _ _ _ _ [(0, .iface 29 (.agg [.int .i64 x27.Sym, .int .i64 x27.Reg])), (2, .ptr 0 0 0), (3, .ptr 1 0 0)] [.cells [.int .i64 0, .int .i64 0, .int .i64 0, .int .i64 0] 0 41, .cells [.int .i64 i5, .int .i64 i6, .int .i64 0, .int .i64 i7] 0 41]
          refine W.sq [] [(0, .iface 29 (.agg [.int .i64 x27.Sym, .int .i64 x27.Reg])), (2, .ptr 0 0 0), (3, .ptr 1 0 0), (8, .ptr 2 0 0), (9, .bool false)] [.cells [.int .i64 0, .int .i64 0, .int .i64 0, .int .i64 0] 0 41, .cells [.int .i64 i5, .int .i64 i6, .int .i64 0, .int .i64 i7] 0 41, .cells [.int .i64 0, .int .i64 0] 0 27] ?_
          refine W.sq [] [(0, .iface 29 (.agg [.int .i64 x27.Sym, .int .i64 x27.Reg])), (2, .ptr 0 0 0), (3, .ptr 1 0 0), (8, .ptr 2 0 0), (35, .bool false)] [.cells [.int .i64 0, .int .i64 0, .int .i64 0, .int .i64 0] 0 41, .cells [.int .i64 i5, .int .i64 i6, .int .i64 0, .int .i64 i7] 0 41, .cells [.int .i64 0, .int .i64 0] 0 27] ?_
          refine W.cnd false (fun hx => by cases hx) (fun _ => ?_)
          refine W.skip ?_
          exact ⟨((I_opnd_Part.ByPart x27), i5, i6, 0, i7), (), ⟨[], []⟩, hm, RO⟩
        | RegPart x28 =>
          dsimp only at hm
          show WK _ _ _ _ _ [(0, .iface 32 (.agg [.int .i64 x28.Reg])), (2, .ptr 0 0 0), (3, .ptr 1 0 0)] [.cells [.int .i64 0, .int .i64 0, .int .i64 0, .int .i64 0] 0 41, .cells [.int .i64 i5, .int .i64 i6, .int .i64 0, .int .i64 i7] 0 41]
          refine W.sq [] [(0, .iface 32 (.agg [.int .i64 x28.Reg])), (2, .ptr 0 0 0), (3, .ptr 1 0 0), (8, .ptr 2 0 0), (9, .bool false)] [.cells [.int .i64 0, .int .i64 0, .int .i64 0, .int .i64 0] 0 41, .cells [.int .i64 i5, .int .i64 i6, .int .i64 0, .int .i64 i7] 0 41, .cells [.int .i64 0, .int .i64 0] 0 27] ?_
          refine W.sq [] [(0, .iface 32 (.agg [.int .i64 x28.Reg])), (2, .ptr 0 0 0), (3, .ptr 1 0 0), (8, .ptr 2 0 0), (35, .bool false)] [.cells [.int .i64 0, .int .i64 0, .int .i64 0, .int .i64 0] 0 41, .cells [.int .i64 i5, .int .i64 i6, .int .i64 0, .int .i64 i7] 0 41, .cells [.int .i64 0, .int .i64 0] 0 27] ?_
          refine W.cnd false (fun hx => by cases hx) (fun _ => ?_)
          refine W.skip ?_
          exact ⟨((I_opnd_Part.RegPart x28), i5, i6, 0, i7), (), ⟨[], []⟩, hm, RO⟩
      · rintro s h ⟨⟨z8, i9, i10, i11, i12⟩, _, F, hm, hat⟩
        refine W.weak F hat ?_
        show WK _ _ _ _ _ [(0, eI_opnd_Part z8), (2, .ptr 0 0 0), (3, .ptr 1 0 0)] [.cells [.int .i64 0, .int .i64 0, .int .i64 0, .int .i64 0] 0 41, .cells [.int .i64 i9, .int .i64 i10, .int .i64 i11, .int .i64 i12] 0 41]
        rw [opnd_Back_j3.eq_def] at hm
        refine W.cut (fun s h => ∃ (v : Int × Int × Int × Int) (w : Unit) (F : Gs), opnd_Back_j4 v.1 v.2.1 v.2.2.1 v.2.2.2 = some r ∧ AT 0 F [(2, .ptr 0 0 0), (3, .ptr 1 0 0)] [.cells [.int .i64 0, .int .i64 0, .int .i64 0, .int .i64 0] 0 41, .cells [.int .i64 v.1, .int .i64 v.2.1, .int .i64 v.2.2.1, .int .i64 v.2.2.2] 0 41] s h) ?_ ?_
        · cases z8 with
          | nil =>
            dsimp only at hm
            show WK _ _ _ _ _ [(0, .nili), (2, .ptr 0 0 0), (3, .ptr 1 0 0)] [.cells [.int .i64 0, .int .i64 0, .int .i64 0, .int .i64 0] 0 41, .cells [.int .i64 i9, .int .i64 i10, .int .i64 i11, .int .i64 i12] 0 41]
            refine W.sq [] [(2, .ptr 0 0 0), (3, .ptr 1 0 0), (10, .ptr 2 0 0), (11, .bool false)] [.cells [.int .i64 0, .int .i64 0, .int .i64 0, .int .i64 0] 0 41, .cells [.int .i64 i9, .int .i64 i10, .int .i64 i11, .int .i64 i12] 0 41, .cells [.int .i64 0, .int .i64 0] 0 29] ?_
            refine W.sq [] [(2, .ptr 0 0 0), (3, .ptr 1 0 0), (10, .ptr 2 0 0), (46, .bool false)] [.cells [.int .i64 0, .int .i64 0, .int .i64 0, .int .i64 0] 0 41, .cells [.int .i64 i9, .int .i64 i10, .int .i64 i11, .int .i64 i12] 0 41, .cells [.int .i64 0, .int .i64 0] 0 29] ?_
            refine W.cnd false (fun hx => by cases hx) (fun _ => ?_)
            refine W.skip ?_
            exact ⟨(i9, i10, i11, i12), (), ⟨[], []⟩, hm, RO⟩
          | NumPart x21 =>
            dsimp only at hm
            show WK _ _ _ _ _ [(0, .iface 25 (.agg [.int .i64 x21.N])), (2, .ptr 0 0 0), (3, .ptr 1 0 0)] [.cells [.int .i64 0, .int .i64 0, .int .i64 0, .int .i64 0] 0 41, .cells [.int .i64 i9, .int .i64 i10, .int .i64 i11, .int .i64 i12] 0 41]
            refine W.sq [] [(2, .ptr 0 0 0), (3, .ptr 1 0 0), (10, .ptr 2 0 0), (11, .bool false)] [.cells [.int .i64 0, .int .i64 0, .int .i64 0, .int .i64 0] 0 41, .cells [.int .i64 i9, .int .i64 i10, .int .i64 i11, .int .i64 i12] 0 41, .cells [.int .i64 0, .int .i64 0] 0 29] ?_
            refine W.sq [] [(2, .ptr 0 0 0), (3, .ptr 1 0 0), (10, .ptr 2 0 0), (46, .bool false)] [.cells [.int .i64 0, .int .i64 0, .int .i64 0, .int .i64 0] 0 41, .cells [.int .i64 i9, .int .i64 i10, .int .i64 i11, .int .i64 i12] 0 41, .cells [.int .i64 0, .int .i64 0] 0 29] ?_
            refine W.cnd false (fun hx => by cases hx) (fun _ => ?_)
            refine W.skip ?_
            exact ⟨(i9, i10, i11, i12), (), ⟨[], []⟩, hm, RO⟩
          | AtPart x22 =>
            dsimp only at hm
            show WK _ _ _ _ _ [(0, .iface 27 (.agg [.int .i64 x22.Sym, .int .i64 x22.N])), (2, .ptr 0 0 0), (3, .ptr 1 0 0)] [.cells [.int .i64 0, .int .i64 0, .int .i64 0, .int .i64 0] 0 41, .cells [.int .i64 i9, .int .i64 i10, .int .i64 i11, .int .i64 i12] 0 41]
            refine W.sq [] [(2, .ptr 0 0 0), (3, .ptr 1 0 0), (10, .ptr 2 0 0), (11, .bool false)] [.cells [.int .i64 0, .int .i64 0, .int .i64 0, .int .i64 0] 0 41, .cells [.int .i64 i9, .int .i64 i10, .int .i64 i11, .int .i64 i12] 0 41, .cells [.int .i64 0, .int .i64 0] 0 29] ?_
            refine W.sq [] [(2, .ptr 0 0 0), (3, .ptr 1 0 0), (10, .ptr 2 0 0), (46, .bool false)] [.cells [.int .i64 0, .int .i64 0, .int .i64 0, .int .i64 0] 0 41, .cells [.int .i64 i9, .int .i64 i10, .int .i64 i11, .int .i64 i12] 0 41, .cells [.int .i64 0, .int .i64 0] 0 29] ?_
            refine W.cnd false (fun hx => by cases hx) (fun _ => ?_)
            refine W.skip ?_
            exact ⟨(i9, i10, i11, i12), (), ⟨[], []⟩, hm, RO⟩
          | ByPart x23 =>
            dsimp only at hm
            show WK _ _ _ _ _ [(0, .iface 29 (.agg [.int .i64 x23.Sym, .int .i64 x23.Reg])), (2, .ptr 0 0 0), (3, .ptr 1 0 0)] [.cells [.int .i64 0, .int .i64 0, .int .i64 0, .int .i64 0] 0 41, .cells [.int .i64 i9, .int .i64 i10, .int .i64 i11, .int .i64 i12] 0 41]
            refine W.sq [] [(2, .ptr 0 0 0), (3, .ptr 1 0 0), (10, .ptr 2 0 0), (11, .bool true)] [.cells [.int .i64 0, .int .i64 0, .int .i64 0, .int .i64 0] 0 41, .cells [.int .i64 i9, .int .i64 i10, .int .i64 i11, .int .i64 i12] 0 41, .cells (e_opnd_ByPart x23) 0 29] ?_
            refine W.sq [] [(2, .ptr 0 0 0), (3, .ptr 1 0 0), (10, .ptr 2 0 0), (46, .bool true)] [.cells [.int .i64 0, .int .i64 0, .int .i64 0, .int .i64 0] 0 41, .cells [.int .i64 i9, .int .i64 i10, .int .i64 i11, .int .i64 i12] 0 41, .cells (e_opnd_ByPart x23) 0 29] ?_
            refine W.cnd true (fun _ => ?_) (fun hx => by cases hx)
            refine W.rg [] [(2, .ptr 0 0 0), (3, .ptr 1 0 0)] [.cells [.int .i64 0, .int .i64 0, .int .i64 0, .int .i64 0] 0 41, .cells [.int .i64 4, .int .i64 x23.Reg, .int .i64 x23.Sym, .int .i64 0] 0 41] ?_
            exact ⟨(4, x23.Reg, x23.Sym, 0), (), ⟨[], []⟩, hm, RO⟩
          | RegPart x24 =>
            dsimp only at hm
            show WK _ _ _ _ _ [(0, .iface 32 (.agg [.int .i64 x24.Reg])), (2, .ptr 0 0 0), (3, .ptr 1 0 0)] [.cells [.int .i64 0, .int .i64 0, .int .i64 0, .int .i64 0] 0 41, .cells [.int .i64 i9, .int .i64 i10, .int .i64 i11, .int .i64 i12] 0 41]
            refine W.sq [] [(2, .ptr 0 0 0), (3, .ptr 1 0 0), (10, .ptr 2 0 0), (11, .bool false)] [.cells [.int .i64 0, .int .i64 0, .int .i64 0, .int .i64 0] 0 41, .cells [.int .i64 i9, .int .i64 i10, .int .i64 i11, .int .i64 i12] 0 41, .cells [.int .i64 0, .int .i64 0] 0 29] ?_
            refine W.sq [] [(2, .ptr 0 0 0), (3, .ptr 1 0 0), (10, .ptr 2 0 0), (46, .bool false)] [.cells [.int .i64 0, .int .i64 0, .int .i64 0, .int .i64 0] 0 41, .cells [.int .i64 i9, .int .i64 i10, .int .i64 i11, .int .i64 i12] 0 41, .cells [.int .i64 0, .int .i64 0] 0 29] ?_
            refine W.cnd false (fun hx => by cases hx) (fun _ => ?_)
            refine W.skip ?_
            exact ⟨(i9, i10, i11, i12), (), ⟨[], []⟩, hm, RO⟩
        · rintro s h ⟨⟨i13, i14, i15, i17⟩, _, F, hm, hat⟩
          refine W.weak F hat ?_
          show WK _ _ _ _ _ [(2, .ptr 0 0 0), (3, .ptr 1 0 0)] [.cells [.int .i64 0, .int .i64 0, .int .i64 0, .int .i64 0] 0 41, .cells [.int .i64 i13, .int .i64 i14, .int .i64 i15, .int .i64 i17] 0 41]
          rw [opnd_Back_j4] at hm
          refine W.seq ?_
          replace hm := of_bind hm
          obtain ⟨v18, h19, hm⟩ := hm
          have kh19 := opnd_Right_ok h19
          refine W.sq [] [(2, .ptr 0 0 0), (3, .ptr 1 0 0), (54, .bool (!v18))] [.cells [.int .i64 0, .int .i64 0, .int .i64 0, .int .i64 0] 0 41, .cells [.int .i64 i13, .int .i64 i14, .int .i64 i15, .int .i64 i17] 0 41] ?_
          refine W.cnd (!v18) (fun hb20 => ?_) (fun hb20 => ?_)
          · replace hm := of_true hb20 hm
            refine W.sq [] [(2, .ptr 0 0 0)] [.cells [.int .i64 0, .int .i64 0, .int .i64 0, .int .i64 0] 0 41] ?_
            obtain rfl := Option.some.inj hm
            exact W.ret (EndsF.retW [] RO)
          · replace hm := of_false hb20 hm
            refine W.skip ?_
            refine W.sq [] [(2, .ptr 0 0 0)] [.cells [.int .i64 i13, .int .i64 i14, .int .i64 i15, .int .i64 i17] 0 41] ?_
            obtain rfl := Option.some.inj hm
            exact W.ret (EndsF.retW [] RO)

theorem opnd_ByPart_Text_ok {p0 : T_opnd_ByPart} {p1 : (List ByteArray)} {r : ByteArray} (hm : opnd_ByPart_Text p0 p1 = some r) : PureF Try.prog 46 [.agg [.int .i64 p0.Sym, .int .i64 p0.Reg], .sl (p1.map eStr)] (.str r) := by
  rw [opnd_ByPart_Text] at hm
  refine PureF.of Try.func46 rfl Try.ntmps46 (Nat.le_of_ble_eq_true rfl) ?_
  have e0 : argS 0 [.agg [.int .i64 p0.Sym, .int .i64 p0.Reg], .sl (p1.map eStr)] = [(0, .agg [.int .i64 p0.Sym, .int .i64 p0.Reg]), (1, .sl (p1.map eStr))] := rfl
  rw [e0]
  refine W.sq [] [(1, .sl (p1.map eStr)), (2, .ptr 0 0 0)] [.cells (e_opnd_ByPart p0) 0 29] ?_
  refine W.seq ?_
  replace hm := of_bind hm
  obtain ⟨v1, h2, hm⟩ := hm
  replace hm := of_let hm
  obtain ⟨b3, h4, hm⟩ := hm
  have kh2 := opnd_Back_ok h2
  try simp only [eI_opnd_Part_nil, eI_opnd_Part_NumPart, eI_opnd_Part_AtPart, eI_opnd_Part_ByPart, eI_opnd_Part_RegPart] at kh2
  refine W.sq [] [(1, .sl (p1.map eStr)), (2, .ptr 0 0 0), (16, .bool b3)] [.cells (e_opnd_ByPart p0) 0 29] ?_
  clear h4
  refine W.cnd b3 (fun hb5 => ?_) (fun hb5 => ?_)
  · replace hm := of_true hb5 hm
    refine W.sq [] [(4, .str (⟨#[]⟩ : ByteArray))] [] ?_
    obtain rfl := Option.some.inj hm
    exact W.ret (EndsF.retW [] RO)
  · replace hm := of_false hb5 hm
    refine W.skip ?_
    replace hm := of_ite hm
    obtain ⟨h6, hm⟩ := hm
    replace hm := of_ite hm
    obtain ⟨h7, hm⟩ := hm
    replace hm := of_bind hm
    obtain ⟨v8, h9, hm⟩ := hm
    replace hm := of_ite hm
    obtain ⟨h10, hm⟩ := hm
    replace hm := of_ite hm
    obtain ⟨h11, hm⟩ := hm
    replace hm := of_let hm
    obtain ⟨s12, h13, hm⟩ := hm
    have kh9 := names_RegText_ok h9
    try simp only [hb5] at kh9
    refine W.sqJ [] [] [] 0 [] [(4, .str s12)] [] v_mixed ?_
    clear h13
    obtain rfl := Option.some.inj hm
    exact W.ret (EndsF.retW [] RO)


end Go.Proofs.Ytpojlconoflneaa
