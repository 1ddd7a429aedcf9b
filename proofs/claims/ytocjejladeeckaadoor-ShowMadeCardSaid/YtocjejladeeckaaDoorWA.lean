import Derived.Test.YtocjejladeeckaaDoorVFacts
import Derived.Test.YtocjejladeeckaaDoorPalA
set_option maxRecDepth 100000
set_option linter.unusedSimpArgs false
set_option linter.unusedVariables false
set_option linter.unusedSectionVars false
namespace Go.Proofs.YtocjejladeeckaaDoor
open Go.Vs
variable [Tab]
theorem palingbook_Short_ok {p0 : ByteArray} {p1 : Int} {r : ByteArray} (hm : palingbook_Short p0 p1 = some r) : PureF Tryd.prog 15 [.str p0, .int .i64 p1] (.str r) := by
  rw [palingbook_Short] at hm
  refine PureF.of Tryd.func15 rfl Tryd.ntmps15 (Nat.le_of_ble_eq_true rfl) ?_
  have e0 : argS 0 [.str p0, .int .i64 p1] = [(0, .str p0), (1, .int .i64 p1)] := rfl
  rw [e0]
  refine W.sq [] [(0, .str p0), (1, .int .i64 p1)] [] ?_
  replace hm := of_ite hm
  obtain ⟨h1, hm⟩ := hm
  replace hm := of_let hm
  obtain ⟨s2, h3, hm⟩ := hm
  refine W.sq [] [(4, .str s2)] [] ?_
  clear h3
  obtain rfl := Option.some.inj hm
  exact W.ret (EndsF.retW [] RO)

theorem palingbook_Pick_ok {p0 : Int} {p1 : Int} {r : Int} (hm : palingbook_Pick p0 p1 = some r) : PureF Tryd.prog 22 [.int .i64 p0, .int .i64 p1] (.int .i64 r) := by
  rw [palingbook_Pick] at hm
  refine PureF.of Tryd.func22 rfl Tryd.ntmps22 (Nat.le_of_ble_eq_true rfl) ?_
  have e0 : argS 0 [.int .i64 p0, .int .i64 p1] = [(0, .int .i64 p0), (1, .int .i64 p1)] := rfl
  rw [e0]
  refine W.sq [] [(0, .int .i64 p0), (1, .int .i64 p1)] [] ?_
  replace hm := of_ite hm
  obtain ⟨h1, hm⟩ := hm
  refine W.sq [] [(0, .int .i64 (Int.tmod p0 p1)), (1, .int .i64 p1)] [] ?_
  refine W.seq ?_
  refine W.sq [] [(0, .int .i64 (Int.tmod p0 p1)), (1, .int .i64 p1), (9, .bool (decide ((Int.tmod p0 p1) < 0)))] [] ?_
  refine W.cnd (decide ((Int.tmod p0 p1) < 0)) (fun hb2 => ?_) (fun hb2 => ?_)
  · replace hm := of_true hb2 hm
    refine W.rg [] [(0, .int .i64 (IntKind.wrap .i64 ((Int.tmod p0 p1) + p1)))] [] ?_
    refine W.sq [] [(4, .int .i64 (IntKind.wrap .i64 ((Int.tmod p0 p1) + p1)))] [] ?_
    obtain rfl := Option.some.inj hm
    exact W.ret (EndsF.retW [] RO)
  · replace hm := of_false hb2 hm
    refine W.skip ?_
    refine W.sq [] [(4, .int .i64 (Int.tmod p0 p1))] [] ?_
    obtain rfl := Option.some.inj hm
    exact W.ret (EndsF.retW [] RO)

theorem palingref1_Text_ok {p0 : Int} {r : ByteArray} (hm : palingref1_Text p0 = some r) : PureF Tryd.prog 34 [.int .i64 p0] (.str r) := by
  rw [palingref1_Text] at hm
  refine PureF.of Tryd.func34 rfl Tryd.ntmps34 (Nat.le_of_ble_eq_true rfl) ?_
  have e0 : argS 0 [.int .i64 p0] = [(0, .int .i64 p0)] := rfl
  rw [e0]
  refine W.sq [] [(0, .int .i64 p0)] [] ?_
  refine W.sq [] [(0, .int .i64 p0), (3, .int .u64 (IntKind.wrap .u64 p0))] [] ?_
  refine W.cut (fun s h => ∃ (v : Int) (w : Unit) (F : List Nat), palingref1_Text_j1 p0 v = some r ∧ AT 0 F [(0, .int .i64 p0), (3, .int .u64 v)] [] s h) ?_ ?_
  · refine W.sq [] [(0, .int .i64 p0), (3, .int .u64 (IntKind.wrap .u64 p0)), (8, .bool (decide (p0 < 0)))] [] ?_
    refine W.cnd (decide (p0 < 0)) (fun hb26 => ?_) (fun hb26 => ?_)
    · replace hm := of_true hb26 hm
      refine W.rg [] [(0, .int .i64 p0), (3, .int .u64 (IntKind.wrap .u64 (0 - (IntKind.wrap .u64 p0))))] [] ?_
      exact ⟨(IntKind.wrap .u64 (0 - (IntKind.wrap .u64 p0))), (), [], hm, RO⟩
    · replace hm := of_false hb26 hm
      refine W.skip ?_
      exact ⟨(IntKind.wrap .u64 p0), (), [], hm, RO⟩
  · rintro s h ⟨i1, _, F, hm, hat⟩
    refine W.weak F hat ?_
    show WK _ _ _ _ _ [(0, .int .i64 p0), (3, .int .u64 i1)] []
    rw [palingref1_Text_j1] at hm
    refine W.sq [] [(0, .int .i64 p0), (3, .int .u64 i1), (4, .str (⟨#[]⟩ : ByteArray))] [] ?_
    refine W.seq ?_
    refine W.block ?_
    replace hm := of_bind hm
    obtain ⟨r19, hlr19, hm⟩ := hm
    refine W.mono (Q := fun e0 s0 h0 => e0 = .exit 0 ∧ ∃ w : Unit, s0 = [(0, .int .i64 p0), (4, .str r19)] ∧ h0 = []) (W.loopM (step := palingref1_Text_s1) (a0 := (i1, (⟨#[]⟩ : ByteArray))) (fun (a : Int × ByteArray) (v : Unit) => ([(0, .int .i64 p0), (3, .int .u64 a.1), (4, .str a.2)], [])) () hlr19 ⟨[], []⟩ RO ?_) ?_
    · rintro ⟨i12, s13⟩ _ x hm hx
      rw [palingref1_Text_s1] at hm
      show WK _ _ _ _ _ [(0, .int .i64 p0), (3, .int .u64 i12), (4, .str s13)] []
      refine W.seq ?_
      refine W.sq [] [(0, .int .i64 p0), (3, .int .u64 i12), (4, .str s13), (16, .bool (decide (i12 > 0) || decide (s13 = (⟨#[]⟩ : ByteArray))))] [] ?_
      refine W.cnd (decide (i12 > 0) || decide (s13 = (⟨#[]⟩ : ByteArray))) (fun hb20 => ?_) (fun hb20 => ?_)
      · replace hm := of_true hb20 hm
        refine W.skip ?_
        refine W.block ?_
        replace hm := of_ite hm
        obtain ⟨h21, hm⟩ := hm
        replace hm := of_let hm
        obtain ⟨s22, h23, hm⟩ := hm
        refine W.sq [] [(0, .int .i64 p0), (3, .int .u64 i12), (4, .str s22)] [] ?_
        clear h23
        refine W.rg [] [(0, .int .i64 p0), (3, .int .u64 (IntKind.wrap .u64 (Int.tdiv i12 10))), (4, .str s22)] [] ?_
        obtain rfl := Option.some.inj hm
        exact ⟨((IntKind.wrap .u64 (Int.tdiv i12 10)), s22), (), ⟨[], []⟩, rfl, RO⟩
      · replace hm := of_false hb20 hm
        obtain rfl := Option.some.inj hm
        obtain rfl := hx _ rfl
        exact W.weak ⟨[], []⟩ (show AT _ ⟨[], []⟩ [(0, .int .i64 p0), (4, .str s13)] [] _ _ from RO) (W.exit (show _ ∧ _ from ⟨rfl, (), rfl, rfl⟩))
    · rintro e0 s0 h0 ⟨rfl, _, rfl, rfl⟩
      show WK _ _ _ _ _ [(0, .int .i64 p0), (4, .str r19)] []
      refine W.seq ?_
      refine W.sq [] [(4, .str r19), (28, .bool (decide (p0 < 0)))] [] ?_
      refine W.cnd (decide (p0 < 0)) (fun hb24 => ?_) (fun hb24 => ?_)
      · replace hm := of_true hb24 hm
        replace hm := of_ite hm
        obtain ⟨h25, hm⟩ := hm
        refine W.sq [] [(2, .str ((⟨#[45]⟩ : ByteArray) ++ r19))] [] ?_
        obtain rfl := Option.some.inj hm
        exact W.ret (EndsF.retW [] RO)
      · replace hm := of_false hb24 hm
        refine W.skip ?_
        refine W.sq [] [(2, .str r19)] [] ?_
        obtain rfl := Option.some.inj hm
        exact W.ret (EndsF.retW [] RO)

theorem glyph_step_ok {p0 : Int} {p1 : Int} {p2 : Int} {r : Int × Int} (hm : glyph_step p0 p1 p2 = some r) : PureF Tryd.prog 73 [.int .i64 p0, .int .i64 p1, .int .i32 p2] (.tuple [.int .i64 r.1, .int .i64 r.2]) := by
  rw [glyph_step] at hm
  refine PureF.of Tryd.func73 rfl Tryd.ntmps73 (Nat.le_of_ble_eq_true rfl) ?_
  have e0 : argS 0 [.int .i64 p0, .int .i64 p1, .int .i32 p2] = [(0, .int .i64 p0), (1, .int .i64 p1), (2, .int .i32 p2)] := rfl
  rw [e0]
  refine W.sq [] [(0, .int .i64 p0), (1, .int .i64 p1), (2, .int .i32 p2)] [] ?_
  refine W.seq ?_
  refine W.sq [] [(0, .int .i64 p0), (1, .int .i64 p1), (9, .bool (p2 == 10))] [] ?_
  refine W.cnd (p2 == 10) (fun hb1 => ?_) (fun hb1 => ?_)
  · replace hm := of_true hb1 hm
    refine W.sq [] [(6, .int .i64 (IntKind.wrap .i64 (p0 + 1))), (7, .int .i64 1)] [] ?_
    obtain rfl := Option.some.inj hm
    exact W.ret (EndsF.retW [] RO)
  · replace hm := of_false hb1 hm
    refine W.skip ?_
    refine W.sq [] [(6, .int .i64 p0), (7, .int .i64 (IntKind.wrap .i64 (p1 + 1)))] [] ?_
    obtain rfl := Option.some.inj hm
    exact W.ret (EndsF.retW [] RO)

theorem glyph_Letter_ok {p0 : Int} {r : Bool} (hm : glyph_Letter p0 = some r) : PureF Tryd.prog 74 [.int .i32 p0] (.bool r) := by
  rw [glyph_Letter] at hm
  refine PureF.of Tryd.func74 rfl Tryd.ntmps74 (Nat.le_of_ble_eq_true rfl) ?_
  have e0 : argS 0 [.int .i32 p0] = [(0, .int .i32 p0)] := rfl
  rw [e0]
  refine W.sq [] [(0, .int .i32 p0)] [] ?_
  replace hm := of_let hm
  obtain ⟨b1, h2, hm⟩ := hm
  refine W.sq [] [(2, .bool b1)] [] ?_
  clear h2
  obtain rfl := Option.some.inj hm
  exact W.ret (EndsF.retW [] RO)

theorem glyph_Digit_ok {p0 : Int} {r : Bool} (hm : glyph_Digit p0 = some r) : PureF Tryd.prog 75 [.int .i32 p0] (.bool r) := by
  rw [glyph_Digit] at hm
  refine PureF.of Tryd.func75 rfl Tryd.ntmps75 (Nat.le_of_ble_eq_true rfl) ?_
  have e0 : argS 0 [.int .i32 p0] = [(0, .int .i32 p0)] := rfl
  rw [e0]
  refine W.sq [] [(0, .int .i32 p0)] [] ?_
  refine W.sq [] [(2, .bool (decide (p0 ≥ 48) && decide (p0 ≤ 57)))] [] ?_
  obtain rfl := Option.some.inj hm
  exact W.ret (EndsF.retW [] RO)

theorem palingref1_Letter_ok {p0 : Int} {r : Bool} (hm : palingref1_Letter p0 = some r) : PureF Tryd.prog 42 [.int .i32 p0] (.bool r) := by
  rw [palingref1_Letter] at hm
  refine PureF.of Tryd.func42 rfl Tryd.ntmps42 (Nat.le_of_ble_eq_true rfl) ?_
  have e0 : argS 0 [.int .i32 p0] = [(0, .int .i32 p0)] := rfl
  rw [e0]
  refine W.sq [] [(0, .int .i32 p0)] [] ?_
  replace hm := of_let hm
  obtain ⟨b1, h2, hm⟩ := hm
  refine W.sq [] [(2, .bool b1)] [] ?_
  clear h2
  obtain rfl := Option.some.inj hm
  exact W.ret (EndsF.retW [] RO)

theorem palingref1_Digit_ok {p0 : Int} {r : Bool} (hm : palingref1_Digit p0 = some r) : PureF Tryd.prog 43 [.int .i32 p0] (.bool r) := by
  rw [palingref1_Digit] at hm
  refine PureF.of Tryd.func43 rfl Tryd.ntmps43 (Nat.le_of_ble_eq_true rfl) ?_
  have e0 : argS 0 [.int .i32 p0] = [(0, .int .i32 p0)] := rfl
  rw [e0]
  refine W.sq [] [(0, .int .i32 p0)] [] ?_
  refine W.sq [] [(2, .bool (decide (p0 ≥ 48) && decide (p0 ≤ 57)))] [] ?_
  obtain rfl := Option.some.inj hm
  exact W.ret (EndsF.retW [] RO)


end Go.Proofs.YtocjejladeeckaaDoor
