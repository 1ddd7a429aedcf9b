import Derived.Test.YtocjejladeeckaaDoorVFacts
import Derived.Test.YtocjejladeeckaaDoorPalF
import Derived.Test.YtocjejladeeckaaDoorWA
import Derived.Test.YtocjejladeeckaaDoorWUtf
set_option maxRecDepth 100000
set_option maxHeartbeats 4000000
set_option linter.unusedSimpArgs false
set_option linter.unusedVariables false
set_option linter.unusedSectionVars false
namespace Go.Proofs.YtocjejladeeckaaDoor
open Go.Vs
variable [TabU]
theorem palingbook_register_ok {p0 : Int} {r : T_api_Opd} (hm : palingbook_register p0 = some r) : PureF Tryd.prog 54 [.int .i64 p0] (.agg [.int .i64 r.Kind, .int .i64 r.Reg, .int .i64 r.Sym, .int .i64 r.N]) := by
  rw [palingbook_register] at hm
  refine PureF.of Tryd.func54 rfl Tryd.ntmps54 (Nat.le_of_ble_eq_true rfl) ?_
  have e0 : argS 0 [.int .i64 p0] = [(0, .int .i64 p0)] := rfl
  rw [e0]
  refine W.sq [] [(0, .int .i64 p0), (2, .ptr 0 0 0)] [.cells [.int .i64 0, .int .i64 0, .int .i64 0, .int .i64 0] 0 53] ?_
  replace hm := of_bind hm
  obtain ⟨v1, h2, hm⟩ := hm
  have kh2 := palingbook_Pick_ok h2
  refine W.sq [] [(2, .ptr 0 0 0)] [.cells [.int .i64 1, .int .i64 v1, .int .i64 0, .int .i64 0] 0 53] ?_
  obtain rfl := Option.some.inj hm
  exact W.ret (EndsF.retW [] RO)

theorem palingbook_plain_ok {p0 : Int} {p1 : Int} {r : T_api_Opd} (hm : palingbook_plain p0 p1 = some r) : PureF Tryd.prog 55 [.int .i64 p0, .int .i64 p1] (.agg [.int .i64 r.Kind, .int .i64 r.Reg, .int .i64 r.Sym, .int .i64 r.N]) := by
  rw [palingbook_plain] at hm
  refine PureF.of Tryd.func55 rfl Tryd.ntmps55 (Nat.le_of_ble_eq_true rfl) ?_
  have e0 : argS 0 [.int .i64 p0, .int .i64 p1] = [(0, .int .i64 p0), (1, .int .i64 p1)] := rfl
  rw [e0]
  refine W.sq [] [(0, .int .i64 p0), (1, .int .i64 p1), (4, .ptr 0 0 0)] [.cells [.int .i64 0, .int .i64 0, .int .i64 0, .int .i64 0] 0 53] ?_
  refine W.seq ?_
  replace hm := of_bind hm
  obtain ⟨v1, h2, hm⟩ := hm
  have kh2 := palingbook_Pick_ok h2
  refine W.sq [] [(0, .int .i64 p0), (1, .int .i64 p1), (4, .ptr 0 0 0), (7, .bool (v1 == 0))] [.cells [.int .i64 0, .int .i64 0, .int .i64 0, .int .i64 0] 0 53] ?_
  refine W.cnd (v1 == 0) (fun hb3 => ?_) (fun hb3 => ?_)
  · replace hm := of_true hb3 hm
    replace hm := of_bind hm
    obtain ⟨v4, h5, hm⟩ := hm
    have kh5 := palingbook_register_ok h5
    try simp only [hb3] at kh5
    refine W.sq [] [(4, .ptr 0 0 0)] [.cells (e_api_Opd v4) 0 53] ?_
    obtain rfl := Option.some.inj hm
    exact W.ret (EndsF.retW [] RO)
  · replace hm := of_false hb3 hm
    refine W.skip ?_
    refine W.sq [] [(4, .ptr 0 0 0)] [.cells [.int .i64 2, .int .i64 0, .int .i64 0, .int .i64 p1] 0 53] ?_
    obtain rfl := Option.some.inj hm
    exact W.ret (EndsF.retW [] RO)

theorem palingbook_memory_ok {p0 : Int} {r : T_api_Opd} (hm : palingbook_memory p0 = some r) : PureF Tryd.prog 56 [.int .i64 p0] (.agg [.int .i64 r.Kind, .int .i64 r.Reg, .int .i64 r.Sym, .int .i64 r.N]) := by
  rw [palingbook_memory] at hm
  refine PureF.of Tryd.func56 rfl Tryd.ntmps56 (Nat.le_of_ble_eq_true rfl) ?_
  have e0 : argS 0 [.int .i64 p0] = [(0, .int .i64 p0)] := rfl
  rw [e0]
  refine W.sq [] [(0, .int .i64 p0), (2, .ptr 0 0 0)] [.cells [.int .i64 0, .int .i64 0, .int .i64 0, .int .i64 0] 0 53] ?_
  replace hm := of_bind hm
  obtain ⟨v1, h2, hm⟩ := hm
  have kh2 := palingbook_Pick_ok h2
  refine W.sq [] [(0, .int .i64 v1), (2, .ptr 0 0 0)] [.cells [.int .i64 0, .int .i64 0, .int .i64 0, .int .i64 0] 0 53] ?_
  replace hm := of_let hm
  obtain ⟨l3, h4, hm⟩ := hm
  refine W.sq [] [(0, .int .i64 v1), (2, .ptr 0 0 0), (3, .sl (l3.map (eInt .i64)))] [.cells [.int .i64 0, .int .i64 0, .int .i64 0, .int .i64 0] 0 53] ?_
  clear h4
  refine W.seq ?_
  refine W.sq [] [(0, .int .i64 v1), (2, .ptr 0 0 0), (3, .sl (l3.map (eInt .i64))), (9, .bool ((Int.tmod v1 5) == 4))] [.cells [.int .i64 0, .int .i64 0, .int .i64 0, .int .i64 0] 0 53] ?_
  refine W.cnd ((Int.tmod v1 5) == 4) (fun hb5 => ?_) (fun hb5 => ?_)
  · replace hm := of_true hb5 hm
    refine W.sq [] [(2, .ptr 0 0 0)] [.cells [.int .i64 4, .int .i64 (IntKind.wrap .i64 (Int.tdiv v1 15)), .int .i64 (Int.tmod (IntKind.wrap .i64 (Int.tdiv v1 5)) 3), .int .i64 0] 0 53] ?_
    obtain rfl := Option.some.inj hm
    exact W.ret (EndsF.retW [] RO)
  · replace hm := of_false hb5 hm
    refine W.skip ?_
    replace hm := of_ite hm
    obtain ⟨h6, hm⟩ := hm
    replace hm := of_ite hm
    obtain ⟨h7, hm⟩ := hm
    replace hm := of_let hm
    obtain ⟨n8, h9, hm⟩ := hm
    refine W.sq [] [(2, .ptr 0 0 0)] [.cells [.int .i64 3, .int .i64 0, .int .i64 (Int.tmod (IntKind.wrap .i64 (Int.tdiv v1 5)) 3), .int .i64 n8] 0 53] ?_
    clear h9
    obtain rfl := Option.some.inj hm
    exact W.ret (EndsF.retW [] RO)

theorem palingbook_label_ok {p0 : Int} {r : ByteArray} (hm : palingbook_label p0 = some r) : PureF Tryd.prog 48 [.int .i64 p0] (.str r) := by
  rw [palingbook_label] at hm
  refine PureF.of Tryd.func48 rfl Tryd.ntmps48 (Nat.le_of_ble_eq_true rfl) ?_
  have e0 : argS 0 [.int .i64 p0] = [(0, .int .i64 p0)] := rfl
  rw [e0]
  refine W.sq [] [(0, .int .i64 p0)] [] ?_
  replace hm := of_ite hm
  obtain ⟨h1, hm⟩ := hm
  replace hm := of_let hm
  obtain ⟨s2, h3, hm⟩ := hm
  refine W.sq [] [(2, .str s2)] [] ?_
  clear h3
  obtain rfl := Option.some.inj hm
  exact W.ret (EndsF.retW [] RO)

theorem palingbook_Ins_ok {p0 : T_palingbook_Act} {p1 : Int} {r : T_api_Ins} (hm : palingbook_Ins p0 p1 = some r) : PureF Tryd.prog 28 [.agg [.int .i64 p0.Kind, .int .i64 p0.A, .int .i64 p0.B, .int .i64 p0.C, .int .i64 p0.N], .int .i64 p1] (.agg [.int .i64 r.Op, .bool r.Lock, .int .i64 r.Cond, .int .i64 r.A.Kind, .int .i64 r.A.Reg, .int .i64 r.A.Sym, .int .i64 r.A.N, .int .i64 r.B.Kind, .int .i64 r.B.Reg, .int .i64 r.B.Sym, .int .i64 r.B.N, .str r.To, .sl (r.Labels.map eStr)]) := by
  rw [palingbook_Ins] at hm
  refine PureF.of Tryd.func28 rfl Tryd.ntmps28 (Nat.le_of_ble_eq_true rfl) ?_
  have e0 : argS 0 [.agg [.int .i64 p0.Kind, .int .i64 p0.A, .int .i64 p0.B, .int .i64 p0.C, .int .i64 p0.N], .int .i64 p1] = [(0, .agg [.int .i64 p0.Kind, .int .i64 p0.A, .int .i64 p0.B, .int .i64 p0.C, .int .i64 p0.N]), (1, .int .i64 p1)] := rfl
  rw [e0]
  refine W.sq [] [(1, .int .i64 p1), (2, .ptr 0 0 0), (4, .ptr 1 0 0)] [.cells (e_palingbook_Act p0) 0 57, .cells [.int .i64 0, .bool false, .int .i64 0, .int .i64 0, .int .i64 0, .int .i64 0, .int .i64 0, .int .i64 0, .int .i64 0, .int .i64 0, .int .i64 0, .str (⟨#[]⟩ : ByteArray), .nils] 0 55] ?_
  replace hm := of_bind hm
  obtain ⟨v1, h2, hm⟩ := hm
  have kh2 := palingbook_Pick_ok h2
  refine W.sq [] [(1, .int .i64 p1), (2, .ptr 0 0 0), (4, .ptr 1 0 0), (5, .int .i64 (IntKind.wrap .i64 (2 + v1)))] [.cells (e_palingbook_Act p0) 0 57, .cells [.int .i64 0, .bool false, .int .i64 0, .int .i64 0, .int .i64 0, .int .i64 0, .int .i64 0, .int .i64 0, .int .i64 0, .int .i64 0, .int .i64 0, .str (⟨#[]⟩ : ByteArray), .nils] 0 55] ?_
  refine W.cut (fun s h => ∃ (v : Unit) (w : Unit) (F : Gs), palingbook_Ins_j1 = some r ∧ AT 0 F [(4, .ptr 1 0 0)] [.dead, .cells [.int .i64 0, .bool false, .int .i64 0, .int .i64 0, .int .i64 0, .int .i64 0, .int .i64 0, .int .i64 0, .int .i64 0, .int .i64 0, .int .i64 0, .str (⟨#[]⟩ : ByteArray), .nils] 0 55] s h) ?_ ?_
  · replace hm := of_bind hm
    obtain ⟨v3, h4, hm⟩ := hm
    have kh4 := palingbook_Pick_ok h4
    refine W.sq [] [(1, .int .i64 p1), (2, .ptr 0 0 0), (4, .ptr 1 0 0), (5, .int .i64 (IntKind.wrap .i64 (2 + v1))), (12, .int .i64 v3)] [.cells (e_palingbook_Act p0) 0 57, .cells [.int .i64 0, .bool false, .int .i64 0, .int .i64 0, .int .i64 0, .int .i64 0, .int .i64 0, .int .i64 0, .int .i64 0, .int .i64 0, .int .i64 0, .str (⟨#[]⟩ : ByteArray), .nils] 0 55] ?_
    refine W.block ?_
    refine W.sq [] [(1, .int .i64 p1), (2, .ptr 0 0 0), (4, .ptr 1 0 0), (5, .int .i64 (IntKind.wrap .i64 (2 + v1))), (12, .int .i64 v3), (13, .bool (v3 == 0))] [.cells (e_palingbook_Act p0) 0 57, .cells [.int .i64 0, .bool false, .int .i64 0, .int .i64 0, .int .i64 0, .int .i64 0, .int .i64 0, .int .i64 0, .int .i64 0, .int .i64 0, .int .i64 0, .str (⟨#[]⟩ : ByteArray), .nils] 0 55] ?_
    refine W.cnd (v3 == 0) (fun hb5 => ?_) (fun hb5 => ?_)
    · replace hm := of_true hb5 hm
      replace hm := of_bind hm
      obtain ⟨v6, h7, hm⟩ := hm
      replace hm := of_bind hm
      obtain ⟨v8, h9, hm⟩ := hm
      have kh7 := palingbook_register_ok h7
      try simp only [hb5] at kh7
      have kh9 := palingbook_plain_ok h9
      try simp only [hb5] at kh9
      refine W.sqJ [9] [] [] 0 [] [(4, .ptr 1 0 0)] [.dead, .cells [.int .i64 1, .bool false, .int .i64 0, .int .i64 v6.Kind, .int .i64 v6.Reg, .int .i64 v6.Sym, .int .i64 v6.N, .int .i64 v8.Kind, .int .i64 v8.Reg, .int .i64 v8.Sym, .int .i64 v8.N, .str (⟨#[]⟩ : ByteArray), .nils] 0 55] v_mixed ?_
      obtain rfl := Option.some.inj hm
      exact W.ret (EndsF.retW [] RO)
    · replace hm := of_false hb5 hm
      refine W.cut (fun s h => ∃ (v : Bool) (w : Unit) (F : Gs), palingbook_Ins_j2 p0 v3 v1 p1 v = some r ∧ AT 0 F [(1, .int .i64 p1), (2, .ptr 0 0 0), (4, .ptr 1 0 0), (5, .int .i64 (IntKind.wrap .i64 (2 + v1))), (12, .int .i64 v3), (24, .bool v)] [.cells (e_palingbook_Act p0) 0 57, .cells [.int .i64 0, .bool false, .int .i64 0, .int .i64 0, .int .i64 0, .int .i64 0, .int .i64 0, .int .i64 0, .int .i64 0, .int .i64 0, .int .i64 0, .str (⟨#[]⟩ : ByteArray), .nils] 0 55] s h) ?_ ?_
      · refine W.sq [] [(1, .int .i64 p1), (2, .ptr 0 0 0), (4, .ptr 1 0 0), (5, .int .i64 (IntKind.wrap .i64 (2 + v1))), (12, .int .i64 v3), (24, .bool (v3 == 1))] [.cells (e_palingbook_Act p0) 0 57, .cells [.int .i64 0, .bool false, .int .i64 0, .int .i64 0, .int .i64 0, .int .i64 0, .int .i64 0, .int .i64 0, .int .i64 0, .int .i64 0, .int .i64 0, .str (⟨#[]⟩ : ByteArray), .nils] 0 55] ?_
        refine W.cnd (v3 == 1) (fun hb85 => ?_) (fun hb85 => ?_)
        · replace hm := of_true hb85 hm
          refine W.skip ?_
          exact ⟨(v3 == 1), (), ⟨[], []⟩, hm, RO⟩
        · replace hm := of_false hb85 hm
          refine W.sq [] [(1, .int .i64 p1), (2, .ptr 0 0 0), (4, .ptr 1 0 0), (5, .int .i64 (IntKind.wrap .i64 (2 + v1))), (12, .int .i64 v3), (24, .bool (v3 == 16))] [.cells (e_palingbook_Act p0) 0 57, .cells [.int .i64 0, .bool false, .int .i64 0, .int .i64 0, .int .i64 0, .int .i64 0, .int .i64 0, .int .i64 0, .int .i64 0, .int .i64 0, .int .i64 0, .str (⟨#[]⟩ : ByteArray), .nils] 0 55] ?_
          refine W.cnd (v3 == 16) (fun hb86 => ?_) (fun hb86 => ?_)
          · replace hm := of_true hb86 hm
            refine W.skip ?_
            exact ⟨(v3 == 16), (), ⟨[], []⟩, hm, RO⟩
          · replace hm := of_false hb86 hm
            refine W.rg [] [(1, .int .i64 p1), (2, .ptr 0 0 0), (4, .ptr 1 0 0), (5, .int .i64 (IntKind.wrap .i64 (2 + v1))), (12, .int .i64 v3), (24, .bool (v3 == 17))] [.cells (e_palingbook_Act p0) 0 57, .cells [.int .i64 0, .bool false, .int .i64 0, .int .i64 0, .int .i64 0, .int .i64 0, .int .i64 0, .int .i64 0, .int .i64 0, .int .i64 0, .int .i64 0, .str (⟨#[]⟩ : ByteArray), .nils] 0 55] ?_
            exact ⟨(v3 == 17), (), ⟨[], []⟩, hm, RO⟩
      · rintro s h ⟨b10, _, F, hm, hat⟩
        refine W.weak F hat ?_
        show WK _ _ _ _ _ [(1, .int .i64 p1), (2, .ptr 0 0 0), (4, .ptr 1 0 0), (5, .int .i64 (IntKind.wrap .i64 (2 + v1))), (12, .int .i64 v3), (24, .bool b10)] [.cells (e_palingbook_Act p0) 0 57, .cells [.int .i64 0, .bool false, .int .i64 0, .int .i64 0, .int .i64 0, .int .i64 0, .int .i64 0, .int .i64 0, .int .i64 0, .int .i64 0, .int .i64 0, .str (⟨#[]⟩ : ByteArray), .nils] 0 55]
        rw [palingbook_Ins_j2] at hm
        refine W.cnd b10 (fun hb11 => ?_) (fun hb11 => ?_)
        · replace hm := of_true hb11 hm
          replace hm := of_bind hm
          obtain ⟨v12, h13, hm⟩ := hm
          replace hm := of_bind hm
          obtain ⟨v14, h15, hm⟩ := hm
          have kh13 := palingbook_register_ok h13
          try simp only [hb5, hb11] at kh13
          have kh15 := palingbook_memory_ok h15
          try simp only [hb5, hb11] at kh15
          refine W.sqJ [7] [] [] 0 [] [(4, .ptr 1 0 0)] [.dead, .cells [.int .i64 1, .bool false, .int .i64 0, .int .i64 v12.Kind, .int .i64 v12.Reg, .int .i64 v12.Sym, .int .i64 v12.N, .int .i64 v14.Kind, .int .i64 v14.Reg, .int .i64 v14.Sym, .int .i64 v14.N, .str (⟨#[]⟩ : ByteArray), .nils] 0 55] v_mixed ?_
          obtain rfl := Option.some.inj hm
          exact W.ret (EndsF.retW [] RO)
        · replace hm := of_false hb11 hm
          refine W.cut (fun s h => ∃ (v : Bool) (w : Unit) (F : Gs), palingbook_Ins_j3 p0 v3 v1 p1 v = some r ∧ AT 0 F [(1, .int .i64 p1), (2, .ptr 0 0 0), (4, .ptr 1 0 0), (5, .int .i64 (IntKind.wrap .i64 (2 + v1))), (12, .int .i64 v3), (35, .bool v)] [.cells (e_palingbook_Act p0) 0 57, .cells [.int .i64 0, .bool false, .int .i64 0, .int .i64 0, .int .i64 0, .int .i64 0, .int .i64 0, .int .i64 0, .int .i64 0, .int .i64 0, .int .i64 0, .str (⟨#[]⟩ : ByteArray), .nils] 0 55] s h) ?_ ?_
          · refine W.sq [] [(1, .int .i64 p1), (2, .ptr 0 0 0), (4, .ptr 1 0 0), (5, .int .i64 (IntKind.wrap .i64 (2 + v1))), (12, .int .i64 v3), (35, .bool (v3 == 2))] [.cells (e_palingbook_Act p0) 0 57, .cells [.int .i64 0, .bool false, .int .i64 0, .int .i64 0, .int .i64 0, .int .i64 0, .int .i64 0, .int .i64 0, .int .i64 0, .int .i64 0, .int .i64 0, .str (⟨#[]⟩ : ByteArray), .nils] 0 55] ?_
            refine W.cnd (v3 == 2) (fun hb82 => ?_) (fun hb82 => ?_)
            · replace hm := of_true hb82 hm
              refine W.skip ?_
              exact ⟨(v3 == 2), (), ⟨[], []⟩, hm, RO⟩
            · replace hm := of_false hb82 hm
              refine W.sq [] [(1, .int .i64 p1), (2, .ptr 0 0 0), (4, .ptr 1 0 0), (5, .int .i64 (IntKind.wrap .i64 (2 + v1))), (12, .int .i64 v3), (35, .bool (v3 == 18))] [.cells (e_palingbook_Act p0) 0 57, .cells [.int .i64 0, .bool false, .int .i64 0, .int .i64 0, .int .i64 0, .int .i64 0, .int .i64 0, .int .i64 0, .int .i64 0, .int .i64 0, .int .i64 0, .str (⟨#[]⟩ : ByteArray), .nils] 0 55] ?_
              refine W.cnd (v3 == 18) (fun hb83 => ?_) (fun hb83 => ?_)
              · replace hm := of_true hb83 hm
                refine W.skip ?_
                exact ⟨(v3 == 18), (), ⟨[], []⟩, hm, RO⟩
              · replace hm := of_false hb83 hm
                refine W.sq [] [(1, .int .i64 p1), (2, .ptr 0 0 0), (4, .ptr 1 0 0), (5, .int .i64 (IntKind.wrap .i64 (2 + v1))), (12, .int .i64 v3), (35, .bool (v3 == 19))] [.cells (e_palingbook_Act p0) 0 57, .cells [.int .i64 0, .bool false, .int .i64 0, .int .i64 0, .int .i64 0, .int .i64 0, .int .i64 0, .int .i64 0, .int .i64 0, .int .i64 0, .int .i64 0, .str (⟨#[]⟩ : ByteArray), .nils] 0 55] ?_
                refine W.cnd (v3 == 19) (fun hb84 => ?_) (fun hb84 => ?_)
                · replace hm := of_true hb84 hm
                  refine W.skip ?_
                  exact ⟨(v3 == 19), (), ⟨[], []⟩, hm, RO⟩
                · replace hm := of_false hb84 hm
                  refine W.rg [] [(1, .int .i64 p1), (2, .ptr 0 0 0), (4, .ptr 1 0 0), (5, .int .i64 (IntKind.wrap .i64 (2 + v1))), (12, .int .i64 v3), (35, .bool (v3 == 20))] [.cells (e_palingbook_Act p0) 0 57, .cells [.int .i64 0, .bool false, .int .i64 0, .int .i64 0, .int .i64 0, .int .i64 0, .int .i64 0, .int .i64 0, .int .i64 0, .int .i64 0, .int .i64 0, .str (⟨#[]⟩ : ByteArray), .nils] 0 55] ?_
                  exact ⟨(v3 == 20), (), ⟨[], []⟩, hm, RO⟩
          · rintro s h ⟨b16, _, F, hm, hat⟩
            refine W.weak F hat ?_
            show WK _ _ _ _ _ [(1, .int .i64 p1), (2, .ptr 0 0 0), (4, .ptr 1 0 0), (5, .int .i64 (IntKind.wrap .i64 (2 + v1))), (12, .int .i64 v3), (35, .bool b16)] [.cells (e_palingbook_Act p0) 0 57, .cells [.int .i64 0, .bool false, .int .i64 0, .int .i64 0, .int .i64 0, .int .i64 0, .int .i64 0, .int .i64 0, .int .i64 0, .int .i64 0, .int .i64 0, .str (⟨#[]⟩ : ByteArray), .nils] 0 55]
            rw [palingbook_Ins_j3] at hm
            refine W.cnd b16 (fun hb17 => ?_) (fun hb17 => ?_)
            · replace hm := of_true hb17 hm
              replace hm := of_bind hm
              obtain ⟨v18, h19, hm⟩ := hm
              replace hm := of_bind hm
              obtain ⟨v20, h21, hm⟩ := hm
              have kh19 := palingbook_memory_ok h19
              try simp only [hb5, hb11, hb17] at kh19
              have kh21 := palingbook_plain_ok h21
              try simp only [hb5, hb11, hb17] at kh21
              refine W.sqJ [9] [] [] 0 [] [(4, .ptr 1 0 0)] [.dead, .cells [.int .i64 1, .bool false, .int .i64 0, .int .i64 v18.Kind, .int .i64 v18.Reg, .int .i64 v18.Sym, .int .i64 v18.N, .int .i64 v20.Kind, .int .i64 v20.Reg, .int .i64 v20.Sym, .int .i64 v20.N, .str (⟨#[]⟩ : ByteArray), .nils] 0 55] v_mixed ?_
              obtain rfl := Option.some.inj hm
              exact W.ret (EndsF.retW [] RO)
            · replace hm := of_false hb17 hm
              refine W.sq [] [(1, .int .i64 p1), (2, .ptr 0 0 0), (4, .ptr 1 0 0), (5, .int .i64 (IntKind.wrap .i64 (2 + v1))), (12, .int .i64 v3), (49, .bool (v3 == 3))] [.cells (e_palingbook_Act p0) 0 57, .cells [.int .i64 0, .bool false, .int .i64 0, .int .i64 0, .int .i64 0, .int .i64 0, .int .i64 0, .int .i64 0, .int .i64 0, .int .i64 0, .int .i64 0, .str (⟨#[]⟩ : ByteArray), .nils] 0 55] ?_
              refine W.cnd (v3 == 3) (fun hb22 => ?_) (fun hb22 => ?_)
              · replace hm := of_true hb22 hm
                replace hm := of_bind hm
                obtain ⟨v23, h24, hm⟩ := hm
                replace hm := of_bind hm
                obtain ⟨v25, h26, hm⟩ := hm
                have kh24 := palingbook_register_ok h24
                try simp only [hb5, hb11, hb17, hb22] at kh24
                have kh26 := palingbook_plain_ok h26
                try simp only [hb5, hb11, hb17, hb22] at kh26
                refine W.sqJ [10] [] [] 0 [] [(4, .ptr 1 0 0)] [.dead, .cells [.int .i64 (IntKind.wrap .i64 (2 + v1)), .bool false, .int .i64 0, .int .i64 v23.Kind, .int .i64 v23.Reg, .int .i64 v23.Sym, .int .i64 v23.N, .int .i64 v25.Kind, .int .i64 v25.Reg, .int .i64 v25.Sym, .int .i64 v25.N, .str (⟨#[]⟩ : ByteArray), .nils] 0 55] v_mixed ?_
                obtain rfl := Option.some.inj hm
                exact W.ret (EndsF.retW [] RO)
              · replace hm := of_false hb22 hm
                refine W.sq [] [(1, .int .i64 p1), (2, .ptr 0 0 0), (4, .ptr 1 0 0), (5, .int .i64 (IntKind.wrap .i64 (2 + v1))), (12, .int .i64 v3), (61, .bool (v3 == 4))] [.cells (e_palingbook_Act p0) 0 57, .cells [.int .i64 0, .bool false, .int .i64 0, .int .i64 0, .int .i64 0, .int .i64 0, .int .i64 0, .int .i64 0, .int .i64 0, .int .i64 0, .int .i64 0, .str (⟨#[]⟩ : ByteArray), .nils] 0 55] ?_
                refine W.cnd (v3 == 4) (fun hb27 => ?_) (fun hb27 => ?_)
                · replace hm := of_true hb27 hm
                  replace hm := of_bind hm
                  obtain ⟨v28, h29, hm⟩ := hm
                  replace hm := of_bind hm
                  obtain ⟨v30, h31, hm⟩ := hm
                  have kh29 := palingbook_register_ok h29
                  try simp only [hb5, hb11, hb17, hb22, hb27] at kh29
                  have kh31 := palingbook_memory_ok h31
                  try simp only [hb5, hb11, hb17, hb22, hb27] at kh31
                  refine W.sqJ [8] [] [] 0 [] [(4, .ptr 1 0 0)] [.dead, .cells [.int .i64 (IntKind.wrap .i64 (2 + v1)), .bool false, .int .i64 0, .int .i64 v28.Kind, .int .i64 v28.Reg, .int .i64 v28.Sym, .int .i64 v28.N, .int .i64 v30.Kind, .int .i64 v30.Reg, .int .i64 v30.Sym, .int .i64 v30.N, .str (⟨#[]⟩ : ByteArray), .nils] 0 55] v_mixed ?_
                  obtain rfl := Option.some.inj hm
                  exact W.ret (EndsF.retW [] RO)
                · replace hm := of_false hb27 hm
                  refine W.cut (fun s h => ∃ (v : Bool) (w : Unit) (F : Gs), palingbook_Ins_j4 p0 v1 v3 p1 v = some r ∧ AT 0 F [(1, .int .i64 p1), (2, .ptr 0 0 0), (4, .ptr 1 0 0), (5, .int .i64 (IntKind.wrap .i64 (2 + v1))), (12, .int .i64 v3), (71, .bool v)] [.cells (e_palingbook_Act p0) 0 57, .cells [.int .i64 0, .bool false, .int .i64 0, .int .i64 0, .int .i64 0, .int .i64 0, .int .i64 0, .int .i64 0, .int .i64 0, .int .i64 0, .int .i64 0, .str (⟨#[]⟩ : ByteArray), .nils] 0 55] s h) ?_ ?_
                  · refine W.sq [] [(1, .int .i64 p1), (2, .ptr 0 0 0), (4, .ptr 1 0 0), (5, .int .i64 (IntKind.wrap .i64 (2 + v1))), (12, .int .i64 v3), (71, .bool (v3 == 5))] [.cells (e_palingbook_Act p0) 0 57, .cells [.int .i64 0, .bool false, .int .i64 0, .int .i64 0, .int .i64 0, .int .i64 0, .int .i64 0, .int .i64 0, .int .i64 0, .int .i64 0, .int .i64 0, .str (⟨#[]⟩ : ByteArray), .nils] 0 55] ?_
                    refine W.cnd (v3 == 5) (fun hb81 => ?_) (fun hb81 => ?_)
                    · replace hm := of_true hb81 hm
                      refine W.skip ?_
                      exact ⟨(v3 == 5), (), ⟨[], []⟩, hm, RO⟩
                    · replace hm := of_false hb81 hm
                      refine W.rg [] [(1, .int .i64 p1), (2, .ptr 0 0 0), (4, .ptr 1 0 0), (5, .int .i64 (IntKind.wrap .i64 (2 + v1))), (12, .int .i64 v3), (71, .bool (v3 == 21))] [.cells (e_palingbook_Act p0) 0 57, .cells [.int .i64 0, .bool false, .int .i64 0, .int .i64 0, .int .i64 0, .int .i64 0, .int .i64 0, .int .i64 0, .int .i64 0, .int .i64 0, .int .i64 0, .str (⟨#[]⟩ : ByteArray), .nils] 0 55] ?_
                      exact ⟨(v3 == 21), (), ⟨[], []⟩, hm, RO⟩
                  · rintro s h ⟨b32, _, F, hm, hat⟩
                    refine W.weak F hat ?_
                    show WK _ _ _ _ _ [(1, .int .i64 p1), (2, .ptr 0 0 0), (4, .ptr 1 0 0), (5, .int .i64 (IntKind.wrap .i64 (2 + v1))), (12, .int .i64 v3), (71, .bool b32)] [.cells (e_palingbook_Act p0) 0 57, .cells [.int .i64 0, .bool false, .int .i64 0, .int .i64 0, .int .i64 0, .int .i64 0, .int .i64 0, .int .i64 0, .int .i64 0, .int .i64 0, .int .i64 0, .str (⟨#[]⟩ : ByteArray), .nils] 0 55]
                    rw [palingbook_Ins_j4] at hm
                    refine W.cnd b32 (fun hb33 => ?_) (fun hb33 => ?_)
                    · replace hm := of_true hb33 hm
                      replace hm := of_bind hm
                      obtain ⟨v34, h35, hm⟩ := hm
                      replace hm := of_bind hm
                      obtain ⟨v36, h37, hm⟩ := hm
                      have kh35 := palingbook_memory_ok h35
                      try simp only [hb5, hb11, hb17, hb22, hb27, hb33] at kh35
                      have kh37 := palingbook_plain_ok h37
                      try simp only [hb5, hb11, hb17, hb22, hb27, hb33] at kh37
                      refine W.sqJ [10] [] [] 0 [] [(4, .ptr 1 0 0)] [.dead, .cells [.int .i64 (IntKind.wrap .i64 (2 + v1)), .bool false, .int .i64 0, .int .i64 v34.Kind, .int .i64 v34.Reg, .int .i64 v34.Sym, .int .i64 v34.N, .int .i64 v36.Kind, .int .i64 v36.Reg, .int .i64 v36.Sym, .int .i64 v36.N, .str (⟨#[]⟩ : ByteArray), .nils] 0 55] v_mixed ?_
                      obtain rfl := Option.some.inj hm
                      exact W.ret (EndsF.retW [] RO)
                    · replace hm := of_false hb33 hm
                      refine W.sq [] [(1, .int .i64 p1), (2, .ptr 0 0 0), (4, .ptr 1 0 0), (5, .int .i64 (IntKind.wrap .i64 (2 + v1))), (12, .int .i64 v3), (84, .bool (v3 == 6))] [.cells (e_palingbook_Act p0) 0 57, .cells [.int .i64 0, .bool false, .int .i64 0, .int .i64 0, .int .i64 0, .int .i64 0, .int .i64 0, .int .i64 0, .int .i64 0, .int .i64 0, .int .i64 0, .str (⟨#[]⟩ : ByteArray), .nils] 0 55] ?_
                      refine W.cnd (v3 == 6) (fun hb38 => ?_) (fun hb38 => ?_)
                      · replace hm := of_true hb38 hm
                        replace hm := of_bind hm
                        obtain ⟨v39, h40, hm⟩ := hm
                        replace hm := of_bind hm
                        obtain ⟨v41, h42, hm⟩ := hm
                        have kh40 := palingbook_register_ok h40
                        try simp only [hb5, hb11, hb17, hb22, hb27, hb33, hb38] at kh40
                        have kh42 := palingbook_memory_ok h42
                        try simp only [hb5, hb11, hb17, hb22, hb27, hb33, hb38] at kh42
                        refine W.sqJ [7] [] [] 0 [] [(4, .ptr 1 0 0)] [.dead, .cells [.int .i64 7, .bool false, .int .i64 0, .int .i64 v39.Kind, .int .i64 v39.Reg, .int .i64 v39.Sym, .int .i64 v39.N, .int .i64 v41.Kind, .int .i64 v41.Reg, .int .i64 v41.Sym, .int .i64 v41.N, .str (⟨#[]⟩ : ByteArray), .nils] 0 55] v_mixed ?_
                        obtain rfl := Option.some.inj hm
                        exact W.ret (EndsF.retW [] RO)
                      · replace hm := of_false hb38 hm
                        refine W.sq [] [(1, .int .i64 p1), (2, .ptr 0 0 0), (4, .ptr 1 0 0), (5, .int .i64 (IntKind.wrap .i64 (2 + v1))), (12, .int .i64 v3), (93, .bool (v3 == 7))] [.cells (e_palingbook_Act p0) 0 57, .cells [.int .i64 0, .bool false, .int .i64 0, .int .i64 0, .int .i64 0, .int .i64 0, .int .i64 0, .int .i64 0, .int .i64 0, .int .i64 0, .int .i64 0, .str (⟨#[]⟩ : ByteArray), .nils] 0 55] ?_
                        refine W.cnd (v3 == 7) (fun hb43 => ?_) (fun hb43 => ?_)
                        · replace hm := of_true hb43 hm
                          replace hm := of_bind hm
                          obtain ⟨v44, h45, hm⟩ := hm
                          replace hm := of_bind hm
                          obtain ⟨v46, h47, hm⟩ := hm
                          have kh45 := palingbook_memory_ok h45
                          try simp only [hb5, hb11, hb17, hb22, hb27, hb33, hb38, hb43] at kh45
                          have kh47 := palingbook_plain_ok h47
                          try simp only [hb5, hb11, hb17, hb22, hb27, hb33, hb38, hb43] at kh47
                          refine W.sqJ [9] [] [] 0 [] [(4, .ptr 1 0 0)] [.dead, .cells [.int .i64 7, .bool false, .int .i64 0, .int .i64 v44.Kind, .int .i64 v44.Reg, .int .i64 v44.Sym, .int .i64 v44.N, .int .i64 v46.Kind, .int .i64 v46.Reg, .int .i64 v46.Sym, .int .i64 v46.N, .str (⟨#[]⟩ : ByteArray), .nils] 0 55] v_mixed ?_
                          obtain rfl := Option.some.inj hm
                          exact W.ret (EndsF.retW [] RO)
                        · replace hm := of_false hb43 hm
                          refine W.sq [] [(1, .int .i64 p1), (2, .ptr 0 0 0), (4, .ptr 1 0 0), (5, .int .i64 (IntKind.wrap .i64 (2 + v1))), (12, .int .i64 v3), (104, .bool (v3 == 8))] [.cells (e_palingbook_Act p0) 0 57, .cells [.int .i64 0, .bool false, .int .i64 0, .int .i64 0, .int .i64 0, .int .i64 0, .int .i64 0, .int .i64 0, .int .i64 0, .int .i64 0, .int .i64 0, .str (⟨#[]⟩ : ByteArray), .nils] 0 55] ?_
                          refine W.cnd (v3 == 8) (fun hb48 => ?_) (fun hb48 => ?_)
                          · replace hm := of_true hb48 hm
                            replace hm := of_bind hm
                            obtain ⟨v49, h50, hm⟩ := hm
                            replace hm := of_bind hm
                            obtain ⟨v51, h52, hm⟩ := hm
                            have kh50 := palingbook_memory_ok h50
                            try simp only [hb5, hb11, hb17, hb22, hb27, hb33, hb38, hb43, hb48] at kh50
                            have kh52 := palingbook_register_ok h52
                            try simp only [hb5, hb11, hb17, hb22, hb27, hb33, hb38, hb43, hb48] at kh52
                            refine W.sqJ [7] [] [] 0 [] [(4, .ptr 1 0 0)] [.dead, .cells [.int .i64 8, .bool false, .int .i64 0, .int .i64 v49.Kind, .int .i64 v49.Reg, .int .i64 v49.Sym, .int .i64 v49.N, .int .i64 v51.Kind, .int .i64 v51.Reg, .int .i64 v51.Sym, .int .i64 v51.N, .str (⟨#[]⟩ : ByteArray), .nils] 0 55] v_mixed ?_
                            obtain rfl := Option.some.inj hm
                            exact W.ret (EndsF.retW [] RO)
                          · replace hm := of_false hb48 hm
                            refine W.sq [] [(1, .int .i64 p1), (2, .ptr 0 0 0), (4, .ptr 1 0 0), (5, .int .i64 (IntKind.wrap .i64 (2 + v1))), (12, .int .i64 v3), (113, .bool (v3 == 9))] [.cells (e_palingbook_Act p0) 0 57, .cells [.int .i64 0, .bool false, .int .i64 0, .int .i64 0, .int .i64 0, .int .i64 0, .int .i64 0, .int .i64 0, .int .i64 0, .int .i64 0, .int .i64 0, .str (⟨#[]⟩ : ByteArray), .nils] 0 55] ?_
                            refine W.cnd (v3 == 9) (fun hb53 => ?_) (fun hb53 => ?_)
                            · replace hm := of_true hb53 hm
                              replace hm := of_bind hm
                              obtain ⟨v54, h55, hm⟩ := hm
                              replace hm := of_bind hm
                              obtain ⟨v56, h57, hm⟩ := hm
                              have kh55 := palingbook_memory_ok h55
                              try simp only [hb5, hb11, hb17, hb22, hb27, hb33, hb38, hb43, hb48, hb53] at kh55
                              have kh57 := palingbook_register_ok h57
                              try simp only [hb5, hb11, hb17, hb22, hb27, hb33, hb38, hb43, hb48, hb53] at kh57
                              refine W.sqJ [7] [] [] 0 [] [(4, .ptr 1 0 0)] [.dead, .cells [.int .i64 9, .bool true, .int .i64 0, .int .i64 v54.Kind, .int .i64 v54.Reg, .int .i64 v54.Sym, .int .i64 v54.N, .int .i64 v56.Kind, .int .i64 v56.Reg, .int .i64 v56.Sym, .int .i64 v56.N, .str (⟨#[]⟩ : ByteArray), .nils] 0 55] v_mixed ?_
                              obtain rfl := Option.some.inj hm
                              exact W.ret (EndsF.retW [] RO)
                            · replace hm := of_false hb53 hm
                              refine W.sq [] [(1, .int .i64 p1), (2, .ptr 0 0 0), (4, .ptr 1 0 0), (5, .int .i64 (IntKind.wrap .i64 (2 + v1))), (12, .int .i64 v3), (122, .bool (v3 == 10))] [.cells (e_palingbook_Act p0) 0 57, .cells [.int .i64 0, .bool false, .int .i64 0, .int .i64 0, .int .i64 0, .int .i64 0, .int .i64 0, .int .i64 0, .int .i64 0, .int .i64 0, .int .i64 0, .str (⟨#[]⟩ : ByteArray), .nils] 0 55] ?_
                              refine W.cnd (v3 == 10) (fun hb58 => ?_) (fun hb58 => ?_)
                              · replace hm := of_true hb58 hm
                                replace hm := of_bind hm
                                obtain ⟨v59, h60, hm⟩ := hm
                                replace hm := of_bind hm
                                obtain ⟨v61, h62, hm⟩ := hm
                                have kh60 := palingbook_memory_ok h60
                                try simp only [hb5, hb11, hb17, hb22, hb27, hb33, hb38, hb43, hb48, hb53, hb58] at kh60
                                have kh62 := palingbook_plain_ok h62
                                try simp only [hb5, hb11, hb17, hb22, hb27, hb33, hb38, hb43, hb48, hb53, hb58] at kh62
                                refine W.sqJ [10] [] [] 0 [] [(4, .ptr 1 0 0)] [.dead, .cells [.int .i64 (IntKind.wrap .i64 (2 + v1)), .bool true, .int .i64 0, .int .i64 v59.Kind, .int .i64 v59.Reg, .int .i64 v59.Sym, .int .i64 v59.N, .int .i64 v61.Kind, .int .i64 v61.Reg, .int .i64 v61.Sym, .int .i64 v61.N, .str (⟨#[]⟩ : ByteArray), .nils] 0 55] v_mixed ?_
                                obtain rfl := Option.some.inj hm
                                exact W.ret (EndsF.retW [] RO)
                              · replace hm := of_false hb58 hm
                                refine W.sq [] [(1, .int .i64 p1), (2, .ptr 0 0 0), (4, .ptr 1 0 0), (12, .int .i64 v3), (134, .bool (v3 == 11))] [.cells (e_palingbook_Act p0) 0 57, .cells [.int .i64 0, .bool false, .int .i64 0, .int .i64 0, .int .i64 0, .int .i64 0, .int .i64 0, .int .i64 0, .int .i64 0, .int .i64 0, .int .i64 0, .str (⟨#[]⟩ : ByteArray), .nils] 0 55] ?_
                                refine W.cnd (v3 == 11) (fun hb63 => ?_) (fun hb63 => ?_)
                                · replace hm := of_true hb63 hm
                                  replace hm := of_bind hm
                                  obtain ⟨v64, h65, hm⟩ := hm
                                  replace hm := of_bind hm
                                  obtain ⟨v66, h67, hm⟩ := hm
                                  have kh65 := palingbook_Pick_ok h65
                                  try simp only [hb5, hb11, hb17, hb22, hb27, hb33, hb38, hb43, hb48, hb53, hb58, hb63] at kh65
                                  have kh67 := palingbook_label_ok h67
                                  try simp only [hb5, hb11, hb17, hb22, hb27, hb33, hb38, hb43, hb48, hb53, hb58, hb63] at kh67
                                  refine W.sq [] [(4, .ptr 1 0 0)] [.dead, .cells [.int .i64 10, .bool false, .int .i64 0, .int .i64 0, .int .i64 0, .int .i64 0, .int .i64 0, .int .i64 0, .int .i64 0, .int .i64 0, .int .i64 0, .str v66, .nils] 0 55] ?_
                                  obtain rfl := Option.some.inj hm
                                  exact W.ret (EndsF.retW [] RO)
                                · replace hm := of_false hb63 hm
                                  refine W.sq [] [(1, .int .i64 p1), (2, .ptr 0 0 0), (4, .ptr 1 0 0), (12, .int .i64 v3), (142, .bool (v3 == 12))] [.cells (e_palingbook_Act p0) 0 57, .cells [.int .i64 0, .bool false, .int .i64 0, .int .i64 0, .int .i64 0, .int .i64 0, .int .i64 0, .int .i64 0, .int .i64 0, .int .i64 0, .int .i64 0, .str (⟨#[]⟩ : ByteArray), .nils] 0 55] ?_
                                  refine W.cnd (v3 == 12) (fun hb68 => ?_) (fun hb68 => ?_)
                                  · replace hm := of_true hb68 hm
                                    replace hm := of_bind hm
                                    obtain ⟨v69, h70, hm⟩ := hm
                                    replace hm := of_bind hm
                                    obtain ⟨v71, h72, hm⟩ := hm
                                    replace hm := of_bind hm
                                    obtain ⟨v73, h74, hm⟩ := hm
                                    have kh70 := palingbook_Pick_ok h70
                                    try simp only [hb5, hb11, hb17, hb22, hb27, hb33, hb38, hb43, hb48, hb53, hb58, hb63, hb68] at kh70
                                    have kh72 := palingbook_Pick_ok h72
                                    try simp only [hb5, hb11, hb17, hb22, hb27, hb33, hb38, hb43, hb48, hb53, hb58, hb63, hb68] at kh72
                                    have kh74 := palingbook_label_ok h74
                                    try simp only [hb5, hb11, hb17, hb22, hb27, hb33, hb38, hb43, hb48, hb53, hb58, hb63, hb68] at kh74
                                    refine W.sqJ [10] [] [] 0 [] [(4, .ptr 1 0 0)] [.dead, .cells [.int .i64 11, .bool false, .int .i64 (IntKind.wrap .i64 (1 + v69)), .int .i64 0, .int .i64 0, .int .i64 0, .int .i64 0, .int .i64 0, .int .i64 0, .int .i64 0, .int .i64 0, .str v73, .nils] 0 55] v_mixed ?_
                                    obtain rfl := Option.some.inj hm
                                    exact W.ret (EndsF.retW [] RO)
                                  · replace hm := of_false hb68 hm
                                    refine W.sq [] [(2, .ptr 0 0 0), (4, .ptr 1 0 0), (12, .int .i64 v3), (154, .bool (v3 == 13))] [.cells (e_palingbook_Act p0) 0 57, .cells [.int .i64 0, .bool false, .int .i64 0, .int .i64 0, .int .i64 0, .int .i64 0, .int .i64 0, .int .i64 0, .int .i64 0, .int .i64 0, .int .i64 0, .str (⟨#[]⟩ : ByteArray), .nils] 0 55] ?_
                                    refine W.cnd (v3 == 13) (fun hb75 => ?_) (fun hb75 => ?_)
                                    · replace hm := of_true hb75 hm
                                      refine W.sq [] [(4, .ptr 1 0 0)] [.dead, .cells [.int .i64 12, .bool false, .int .i64 0, .int .i64 0, .int .i64 0, .int .i64 0, .int .i64 0, .int .i64 0, .int .i64 0, .int .i64 0, .int .i64 0, .str (⟨#[]⟩ : ByteArray), .nils] 0 55] ?_
                                      obtain rfl := Option.some.inj hm
                                      exact W.ret (EndsF.retW [] RO)
                                    · replace hm := of_false hb75 hm
                                      refine W.sq [] [(2, .ptr 0 0 0), (4, .ptr 1 0 0), (157, .bool (v3 == 14))] [.cells (e_palingbook_Act p0) 0 57, .cells [.int .i64 0, .bool false, .int .i64 0, .int .i64 0, .int .i64 0, .int .i64 0, .int .i64 0, .int .i64 0, .int .i64 0, .int .i64 0, .int .i64 0, .str (⟨#[]⟩ : ByteArray), .nils] 0 55] ?_
                                      refine W.cnd (v3 == 14) (fun hb76 => ?_) (fun hb76 => ?_)
                                      · replace hm := of_true hb76 hm
                                        replace hm := of_bind hm
                                        obtain ⟨v77, h78, hm⟩ := hm
                                        replace hm := of_bind hm
                                        obtain ⟨v79, h80, hm⟩ := hm
                                        have kh78 := palingbook_register_ok h78
                                        try simp only [hb5, hb11, hb17, hb22, hb27, hb33, hb38, hb43, hb48, hb53, hb58, hb63, hb68, hb75, hb76] at kh78
                                        have kh80 := palingbook_plain_ok h80
                                        try simp only [hb5, hb11, hb17, hb22, hb27, hb33, hb38, hb43, hb48, hb53, hb58, hb63, hb68, hb75, hb76] at kh80
                                        refine W.sqJ [9] [] [] 0 [] [(4, .ptr 1 0 0)] [.dead, .cells [.int .i64 7, .bool false, .int .i64 0, .int .i64 v77.Kind, .int .i64 v77.Reg, .int .i64 v77.Sym, .int .i64 v77.N, .int .i64 v79.Kind, .int .i64 v79.Reg, .int .i64 v79.Sym, .int .i64 v79.N, .str (⟨#[]⟩ : ByteArray), .nils] 0 55] v_mixed ?_
                                        obtain rfl := Option.some.inj hm
                                        exact W.ret (EndsF.retW [] RO)
                                      · replace hm := of_false hb76 hm
                                        refine W.skip ?_
                                        exact ⟨(), (), ⟨[], []⟩, hm, RO⟩
  · rintro s h ⟨_, _, F, hm, hat⟩
    refine W.weak F hat ?_
    show WK _ _ _ _ _ [(4, .ptr 1 0 0)] [.dead, .cells [.int .i64 0, .bool false, .int .i64 0, .int .i64 0, .int .i64 0, .int .i64 0, .int .i64 0, .int .i64 0, .int .i64 0, .int .i64 0, .int .i64 0, .str (⟨#[]⟩ : ByteArray), .nils] 0 55]
    rw [palingbook_Ins_j1] at hm
    refine W.sq [] [(4, .ptr 1 0 0)] [.dead, .cells [.int .i64 13, .bool false, .int .i64 0, .int .i64 0, .int .i64 0, .int .i64 0, .int .i64 0, .int .i64 0, .int .i64 0, .int .i64 0, .int .i64 0, .str (⟨#[]⟩ : ByteArray), .nils] 0 55] ?_
    obtain rfl := Option.some.inj hm
    exact W.ret (EndsF.retW [] RO)


end Go.Proofs.YtocjejladeeckaaDoor
