import Derived.Test.YtocjejladeeckaaDoorVFacts
import Derived.Test.YtocjejladeeckaaDoorPalA
set_option maxRecDepth 100000
set_option maxHeartbeats 4000000
set_option linter.unusedSimpArgs false
set_option linter.unusedVariables false
set_option linter.unusedSectionVars false
namespace Go.Proofs.YtocjejladeeckaaDoor
open Go.Vs
variable [Tab]
theorem palingbook_Pick_ok {p0 : Int} {p1 : Int} {r : Int} (hm : palingbook_Pick p0 p1 = some r) : PureF Tryd.prog 22 [.int .i64 p0, .int .i64 p1] (.int .i64 r) := by
  rw [palingbook_Pick] at hm
  refine PureF.of Tryd.func22 rfl Tryd.ntmps22 (Nat.le_of_ble_eq_true rfl) ?_
  have e0 : argS 0 [.int .i64 p0, .int .i64 p1] = [(0, .int .i64 p0), (1, .int .i64 p1)] := rfl
  rw [e0]
  refine W.sq [] [(0, .int .i64 p0), (1, .int .i64 p1)] [] ?_
  replace hm := of_ite hm
  obtain ⟨h1, hm⟩ := hm
  refine W.sq [] [(0, .int .i64 (Int.tmod p0 p1)), (1, .int .i64 p1)] [] ?_
  refine W.seq ?_
  refine W.sq [] [(0, .int .i64 (Int.tmod p0 p1)), (1, .int .i64 p1), (9, .bool (decide ((Int.tmod p0 p1) < 0)))] [] ?_
  refine W.cnd (decide ((Int.tmod p0 p1) < 0)) (fun hb2 => ?_) (fun hb2 => ?_)
  · replace hm := of_true hb2 hm
    refine W.rg [] [(0, .int .i64 (IntKind.wrap .i64 ((Int.tmod p0 p1) + p1)))] [] ?_
    refine W.sq [] [(4, .int .i64 (IntKind.wrap .i64 ((Int.tmod p0 p1) + p1)))] [] ?_
    obtain rfl := Option.some.inj hm
    exact W.ret (EndsF.retW [] RO)
  · replace hm := of_false hb2 hm
    refine W.skip ?_
    refine W.sq [] [(4, .int .i64 (Int.tmod p0 p1))] [] ?_
    obtain rfl := Option.some.inj hm
    exact W.ret (EndsF.retW [] RO)

theorem glyph_step_ok {p0 : Int} {p1 : Int} {p2 : Int} {r : Int × Int} (hm : glyph_step p0 p1 p2 = some r) : PureF Tryd.prog 73 [.int .i64 p0, .int .i64 p1, .int .i32 p2] (.tuple [.int .i64 r.1, .int .i64 r.2]) := by
  rw [glyph_step] at hm
  refine PureF.of Tryd.func73 rfl Tryd.ntmps73 (Nat.le_of_ble_eq_true rfl) ?_
  have e0 : argS 0 [.int .i64 p0, .int .i64 p1, .int .i32 p2] = [(0, .int .i64 p0), (1, .int .i64 p1), (2, .int .i32 p2)] := rfl
  rw [e0]
  refine W.sq [] [(0, .int .i64 p0), (1, .int .i64 p1), (2, .int .i32 p2)] [] ?_
  refine W.seq ?_
  refine W.sq [] [(0, .int .i64 p0), (1, .int .i64 p1), (9, .bool (p2 == 10))] [] ?_
  refine W.cnd (p2 == 10) (fun hb1 => ?_) (fun hb1 => ?_)
  · replace hm := of_true hb1 hm
    refine W.sq [] [(6, .int .i64 (IntKind.wrap .i64 (p0 + 1))), (7, .int .i64 1)] [] ?_
    obtain rfl := Option.some.inj hm
    exact W.ret (EndsF.retW [] RO)
  · replace hm := of_false hb1 hm
    refine W.skip ?_
    refine W.sq [] [(6, .int .i64 p0), (7, .int .i64 (IntKind.wrap .i64 (p1 + 1)))] [] ?_
    obtain rfl := Option.some.inj hm
    exact W.ret (EndsF.retW [] RO)

theorem glyph_Letter_ok {p0 : Int} {r : Bool} (hm : glyph_Letter p0 = some r) : PureF Tryd.prog 74 [.int .i32 p0] (.bool r) := by
  rw [glyph_Letter] at hm
  refine PureF.of Tryd.func74 rfl Tryd.ntmps74 (Nat.le_of_ble_eq_true rfl) ?_
  have e0 : argS 0 [.int .i32 p0] = [(0, .int .i32 p0)] := rfl
  rw [e0]
  refine W.sq [] [(0, .int .i32 p0)] [] ?_
  replace hm := of_let hm
  obtain ⟨b1, h2, hm⟩ := hm
  refine W.sq [] [(2, .bool b1)] [] ?_
  clear h2
  obtain rfl := Option.some.inj hm
  exact W.ret (EndsF.retW [] RO)

theorem glyph_Digit_ok {p0 : Int} {r : Bool} (hm : glyph_Digit p0 = some r) : PureF Tryd.prog 75 [.int .i32 p0] (.bool r) := by
  rw [glyph_Digit] at hm
  refine PureF.of Tryd.func75 rfl Tryd.ntmps75 (Nat.le_of_ble_eq_true rfl) ?_
  have e0 : argS 0 [.int .i32 p0] = [(0, .int .i32 p0)] := rfl
  rw [e0]
  refine W.sq [] [(0, .int .i32 p0)] [] ?_
  refine W.sq [] [(2, .bool (decide (p0 ≥ 48) && decide (p0 ≤ 57)))] [] ?_
  obtain rfl := Option.some.inj hm
  exact W.ret (EndsF.retW [] RO)


end Go.Proofs.YtocjejladeeckaaDoor
