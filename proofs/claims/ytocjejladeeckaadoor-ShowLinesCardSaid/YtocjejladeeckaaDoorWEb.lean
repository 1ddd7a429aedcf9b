import Derived.Test.YtocjejladeeckaaDoorVFacts
import Derived.Test.YtocjejladeeckaaDoorPalEb
import Derived.Test.YtocjejladeeckaaDoorWE
import Derived.Test.YtocjejladeeckaaDoorWF
set_option maxRecDepth 100000
set_option linter.unusedSimpArgs false
set_option linter.unusedVariables false
set_option linter.unusedSectionVars false
namespace Go.Proofs.YtocjejladeeckaaDoor
open Go.Vs
variable [TabU]
theorem palinglaw9_ShowLines_ok {p0 : (List (List T_palingbook_Act))} {r : Bool} (hm : palinglaw9_ShowLines p0 = some r) : PureF Tryd.prog 11 [.sl (p0.map (eSl e_palingbook_Act))] (.bool r) := by
  rw [palinglaw9_ShowLines] at hm
  refine PureF.of Tryd.func11 rfl Tryd.ntmps11 (Nat.le_of_ble_eq_true rfl) ?_
  have e0 : argS 0 [.sl (p0.map (eSl e_palingbook_Act))] = [(0, .sl (p0.map (eSl e_palingbook_Act)))] := rfl
  rw [e0]
  refine W.sq [] [(0, .sl (p0.map (eSl e_palingbook_Act)))] [] ?_
  replace hm := of_bind hm
  obtain ⟨v1, h2, hm⟩ := hm
  have kh2 := palingbook_Prog_ok h2
  refine W.sq [] [(3, .ptr 0 0 0)] [.cells (e_api_Prog v1) 0 38] ?_
  replace hm := of_bind hm
  obtain ⟨v3, h4, hm⟩ := hm
  have kh4 := show_Prog_ok h4
  refine W.sq [] [(3, .ptr 0 0 0), (4, .str v3)] [.cells (e_api_Prog v1) 0 38] ?_
  replace hm := of_let hm
  obtain ⟨n5, h6, hm⟩ := hm
  refine W.sq [] [(3, .ptr 0 0 0), (4, .str v3), (5, .int .i64 n5)] [.cells (e_api_Prog v1) 0 38] ?_
  clear h6
  refine W.seq ?_
  refine W.sq [] [(3, .ptr 0 0 0), (4, .str v3), (5, .int .i64 n5), (6, .int .i64 0)] [.cells (e_api_Prog v1) 0 38] ?_
  refine W.block ?_
  replace hm := of_bind hm
  obtain ⟨r88, hlr88, hm⟩ := hm
  refine W.mono (Q := fun e0 s0 h0 => e0 = .exit 0 ∧ ∃ w : Unit, s0 = [(4, .str v3), (5, .int .i64 r88)] ∧ h0 = []) (W.loopM (step := palinglaw9_ShowLines_s1 v1) (a0 := (n5, 0)) (fun (a : Int × Int) (v : Unit) => ([(3, .ptr 0 0 0), (4, .str v3), (5, .int .i64 a.1), (6, .int .i64 a.2)], [.cells (e_api_Prog v1) 0 38])) () hlr88 ⟨[], []⟩ RO ?_) ?_
  · rintro ⟨i60, i61⟩ _ x hm hx
    rw [palinglaw9_ShowLines_s1] at hm
    show WK _ _ _ _ _ [(3, .ptr 0 0 0), (4, .str v3), (5, .int .i64 i60), (6, .int .i64 i61)] [.cells (e_api_Prog v1) 0 38]
    refine W.seq ?_
    refine W.sq [] [(3, .ptr 0 0 0), (4, .str v3), (5, .int .i64 i60), (6, .int .i64 i61), (25, .bool (decide (i61 < (v1.Threads.length : Int))))] [.cells (e_api_Prog v1) 0 38] ?_
    refine W.cnd (decide (i61 < (v1.Threads.length : Int))) (fun hb89 => ?_) (fun hb89 => ?_)
    · replace hm := of_true hb89 hm
      refine W.skip ?_
      refine W.seq ?_
      refine W.block ?_
      refine W.sq [] [(3, .ptr 0 0 0), (4, .str v3), (5, .int .i64 i60), (6, .int .i64 i61), (7, .int .i64 0)] [.cells (e_api_Prog v1) 0 38] ?_
      refine W.block ?_
      replace hm := of_bind hm
      obtain ⟨r113, hlr113, hm⟩ := hm
      refine W.mono (Q := fun e0 s0 h0 => e0 = .exit 2 ∧ ∃ w : Unit, s0 = [(3, .ptr 0 0 0), (4, .str v3), (5, .int .i64 r113), (6, .int .i64 i61)] ∧ h0 = [.cells (e_api_Prog v1) 0 38]) (W.loopM (step := palinglaw9_ShowLines_s2 i61 v1) (a0 := (i60, 0)) (fun (a : Int × Int) (v : Unit) => ([(3, .ptr 0 0 0), (4, .str v3), (5, .int .i64 a.1), (6, .int .i64 i61), (7, .int .i64 a.2)], [.cells (e_api_Prog v1) 0 38])) () hlr113 ⟨[], []⟩ RO ?_) ?_
      · rintro ⟨i104, i105⟩ _ x hm hx
        rw [palinglaw9_ShowLines_s2] at hm
        show WK _ _ _ _ _ [(3, .ptr 0 0 0), (4, .str v3), (5, .int .i64 i104), (6, .int .i64 i61), (7, .int .i64 i105)] [.cells (e_api_Prog v1) 0 38]
        refine W.seq ?_
        replace hm := of_ite hm
        obtain ⟨h114, hm⟩ := hm
        refine W.sq [] [(3, .ptr 0 0 0), (4, .str v3), (5, .int .i64 i104), (6, .int .i64 i61), (7, .int .i64 i105), (36, .bool (decide (i105 < (((rd v1.Threads i61).Ins).length : Int))))] [.cells (e_api_Prog v1) 0 38] ?_
        refine W.cnd (decide (i105 < (((rd v1.Threads i61).Ins).length : Int))) (fun hb115 => ?_) (fun hb115 => ?_)
        · replace hm := of_true hb115 hm
          refine W.skip ?_
          refine W.seq ?_
          refine W.block ?_
          replace hm := of_ite hm
          obtain ⟨h116, hm⟩ := hm
          replace hm := of_ite hm
          obtain ⟨h117, hm⟩ := hm
          replace hm := of_let hm
          obtain ⟨n118, h119, hm⟩ := hm
          refine W.rg [] [(3, .ptr 0 0 0), (4, .str v3), (5, .int .i64 n118), (6, .int .i64 i61), (7, .int .i64 i105)] [.cells (e_api_Prog v1) 0 38] ?_
          clear h119
          refine W.rg [] [(3, .ptr 0 0 0), (4, .str v3), (5, .int .i64 n118), (6, .int .i64 i61), (7, .int .i64 (IntKind.wrap .i64 (i105 + 1)))] [.cells (e_api_Prog v1) 0 38] ?_
          obtain rfl := Option.some.inj hm
          exact ⟨(n118, (IntKind.wrap .i64 (i105 + 1))), (), ⟨[], []⟩, rfl, RO⟩
        · replace hm := of_false hb115 hm
          obtain rfl := Option.some.inj hm
          obtain rfl := hx _ rfl
          exact W.weak ⟨[], []⟩ (show AT _ ⟨[], []⟩ [(3, .ptr 0 0 0), (4, .str v3), (5, .int .i64 i104), (6, .int .i64 i61)] [.cells (e_api_Prog v1) 0 38] _ _ from RO) (W.exit (show _ ∧ _ from ⟨rfl, (), rfl, rfl⟩))
      · rintro e0 s0 h0 ⟨rfl, _, rfl, rfl⟩
        show WK _ _ _ _ _ [(3, .ptr 0 0 0), (4, .str v3), (5, .int .i64 r113), (6, .int .i64 i61)] [.cells (e_api_Prog v1) 0 38]
        refine W.rg [] [(3, .ptr 0 0 0), (4, .str v3), (5, .int .i64 r113), (6, .int .i64 (IntKind.wrap .i64 (i61 + 1)))] [.cells (e_api_Prog v1) 0 38] ?_
        obtain rfl := Option.some.inj hm
        exact ⟨(r113, (IntKind.wrap .i64 (i61 + 1))), (), ⟨[], []⟩, rfl, RO⟩
    · replace hm := of_false hb89 hm
      obtain rfl := Option.some.inj hm
      obtain rfl := hx _ rfl
      exact W.weak ⟨[], []⟩ (show AT _ ⟨[], []⟩ [(4, .str v3), (5, .int .i64 i60)] [] _ _ from RO) (W.exit (show _ ∧ _ from ⟨rfl, (), rfl, rfl⟩))
  · rintro e0 s0 h0 ⟨rfl, _, rfl, rfl⟩
    show WK _ _ _ _ _ [(4, .str v3), (5, .int .i64 r88)] []
    refine W.sq [] [(4, .str v3), (5, .int .i64 r88), (8, .int .i64 0)] [] ?_
    refine W.seq ?_
    refine W.sq [] [(4, .str v3), (5, .int .i64 r88), (8, .int .i64 0), (9, .int .i64 0)] [] ?_
    refine W.block ?_
    replace hm := of_bind hm
    obtain ⟨r137, hlr137, hm⟩ := hm
    refine W.mono (Q := fun e0 s0 h0 => e0 = .exit 4 ∧ ∃ w : Unit, s0 = [(4, .str v3), (5, .int .i64 r88), (8, .int .i64 r137)] ∧ h0 = []) (W.loopM (step := palinglaw9_ShowLines_s3 v3) (a0 := (0, 0)) (fun (a : Int × Int) (v : Unit) => ([(4, .str v3), (5, .int .i64 r88), (8, .int .i64 a.1), (9, .int .i64 a.2)], [])) () hlr137 ⟨[], []⟩ RO ?_) ?_
    · rintro ⟨i130, i131⟩ _ x hm hx
      rw [palinglaw9_ShowLines_s3] at hm
      show WK _ _ _ _ _ [(4, .str v3), (5, .int .i64 r88), (8, .int .i64 i130), (9, .int .i64 i131)] []
      refine W.seq ?_
      refine W.sq [] [(4, .str v3), (5, .int .i64 r88), (8, .int .i64 i130), (9, .int .i64 i131), (56, .bool (decide (i131 < (v3.size : Int))))] [] ?_
      refine W.cnd (decide (i131 < (v3.size : Int))) (fun hb138 => ?_) (fun hb138 => ?_)
      · replace hm := of_true hb138 hm
        refine W.skip ?_
        refine W.cut (fun s h => ∃ (v : Int) (w : Unit) (F : List Nat), palinglaw9_ShowLines_j1 i131 v = some x ∧ AT 0 F [(4, .str v3), (5, .int .i64 r88), (8, .int .i64 v), (9, .int .i64 i131)] [] s h) ?_ ?_
        · refine W.block ?_
          replace hm := of_ite hm
          obtain ⟨h140, hm⟩ := hm
          refine W.sq [] [(4, .str v3), (5, .int .i64 r88), (8, .int .i64 i130), (9, .int .i64 i131), (62, .bool ((bt v3 i131) == 10))] [] ?_
          refine W.cnd ((bt v3 i131) == 10) (fun hb141 => ?_) (fun hb141 => ?_)
          · replace hm := of_true hb141 hm
            refine W.rg [] [(4, .str v3), (5, .int .i64 r88), (8, .int .i64 (IntKind.wrap .i64 (i130 + 1))), (9, .int .i64 i131)] [] ?_
            exact ⟨(IntKind.wrap .i64 (i130 + 1)), (), [], hm, RO⟩
          · replace hm := of_false hb141 hm
            refine W.skip ?_
            exact ⟨i130, (), [], hm, RO⟩
        · rintro s h ⟨i139, _, F, hm, hat⟩
          refine W.weak F hat ?_
          show WK _ _ _ _ _ [(4, .str v3), (5, .int .i64 r88), (8, .int .i64 i139), (9, .int .i64 i131)] []
          rw [palinglaw9_ShowLines_j1] at hm
          refine W.rg [] [(4, .str v3), (5, .int .i64 r88), (8, .int .i64 i139), (9, .int .i64 (IntKind.wrap .i64 (i131 + 1)))] [] ?_
          obtain rfl := Option.some.inj hm
          exact ⟨(i139, (IntKind.wrap .i64 (i131 + 1))), (), ⟨[], []⟩, rfl, RO⟩
      · replace hm := of_false hb138 hm
        obtain rfl := Option.some.inj hm
        obtain rfl := hx _ rfl
        exact W.weak ⟨[], []⟩ (show AT _ ⟨[], []⟩ [(4, .str v3), (5, .int .i64 r88), (8, .int .i64 i130)] [] _ _ from RO) (W.exit (show _ ∧ _ from ⟨rfl, (), rfl, rfl⟩))
    · rintro e0 s0 h0 ⟨rfl, _, rfl, rfl⟩
      show WK _ _ _ _ _ [(4, .str v3), (5, .int .i64 r88), (8, .int .i64 r137)] []
      replace hm := of_ite hm
      obtain ⟨h142, hm⟩ := hm
      replace hm := of_bind hm
      obtain ⟨v143, h144, hm⟩ := hm
      replace hm := of_let hm
      obtain ⟨b145, h146, hm⟩ := hm
      have kh144 := fun hg => palinglaw9_alive_ok (of_true hg h144)
      refine W.sq [] [(2, .bool b145)] [] ?_
      clear h146
      obtain rfl := Option.some.inj hm
      exact W.ret (EndsF.retW [] RO)


end Go.Proofs.YtocjejladeeckaaDoor
