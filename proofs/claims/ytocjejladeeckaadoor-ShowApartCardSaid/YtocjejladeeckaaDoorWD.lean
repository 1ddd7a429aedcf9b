import Derived.Test.YtocjejladeeckaaDoorVFacts
import Derived.Test.YtocjejladeeckaaDoorPalD
import Derived.Test.YtocjejladeeckaaDoorWC
set_option maxRecDepth 100000
set_option maxHeartbeats 4000000
set_option linter.unusedSimpArgs false
set_option linter.unusedVariables false
set_option linter.unusedSectionVars false
namespace Go.Proofs.YtocjejladeeckaaDoor
open Go.Vs
variable [TabU]
theorem names_RegText_ok {p0 : Int} {r : ByteArray} (hm : names_RegText p0 = some r) : PureF Tryd.prog 169 [.int .i64 p0] (.str r) := by
  rw [names_RegText] at hm
  refine PureF.of Tryd.func169 rfl Tryd.ntmps169 (Nat.le_of_ble_eq_true rfl) ?_
  have e0 : argS 0 [.int .i64 p0] = [(0, .int .i64 p0)] := rfl
  rw [e0]
  refine W.sq [] [(0, .int .i64 p0)] [] ?_
  refine W.seq ?_
  replace hm := of_bind hm
  obtain ⟨v1, h2, hm⟩ := hm
  have kh2 := names_regs_ok h2
  refine W.sq [] [(0, .int .i64 p0), (3, .sl (v1.map eStr))] [] ?_
  refine W.sq [] [(0, .int .i64 p0), (3, .sl (v1.map eStr)), (12, .bool (decide (p0 ≥ 0) && decide (p0 < (v1.length : Int))))] [] ?_
  refine W.cnd (decide (p0 ≥ 0) && decide (p0 < (v1.length : Int))) (fun hb3 => ?_) (fun hb3 => ?_)
  · replace hm := of_true hb3 hm
    replace hm := of_ite hm
    obtain ⟨h4, hm⟩ := hm
    refine W.sq [] [(2, .str (rd v1 p0))] [] ?_
    obtain rfl := Option.some.inj hm
    exact W.ret (EndsF.retW [] RO)
  · replace hm := of_false hb3 hm
    refine W.skip ?_
    refine W.sq [] [(2, .str (⟨#[]⟩ : ByteArray))] [] ?_
    obtain rfl := Option.some.inj hm
    exact W.ret (EndsF.retW [] RO)

theorem opnd_Back_ok {p0 : I_opnd_Part} {r : T_api_Opd} (hm : opnd_Back p0 = some r) : PureF Tryd.prog 172 [eI_opnd_Part p0] (.agg [.int .i64 r.Kind, .int .i64 r.Reg, .int .i64 r.Sym, .int .i64 r.N]) := by
  rw [opnd_Back.eq_def] at hm
  refine PureF.of Tryd.func172 rfl Tryd.ntmps172 (Nat.le_of_ble_eq_true rfl) ?_
  have e0 : argS 0 [eI_opnd_Part p0] = [(0, eI_opnd_Part p0)] := rfl
  rw [e0]
  refine W.sq [] [(0, eI_opnd_Part p0), (2, .ptr 0 0 0)] [.cells [.int .i64 0, .int .i64 0, .int .i64 0, .int .i64 0] 0 53] ?_
  refine W.sq [] [(0, eI_opnd_Part p0), (2, .ptr 0 0 0), (3, .ptr 1 0 0)] [.cells [.int .i64 0, .int .i64 0, .int .i64 0, .int .i64 0] 0 53, .cells [.int .i64 0, .int .i64 0, .int .i64 0, .int .i64 0] 0 53] ?_
  refine W.cut (fun s h => ∃ (v : I_opnd_Part × Int × Int) (w : Unit) (F : Gs), opnd_Back_j1 v.1 v.2.1 v.2.2 = some r ∧ AT 0 F [(0, eI_opnd_Part v.1), (2, .ptr 0 0 0), (3, .ptr 1 0 0)] [.cells [.int .i64 0, .int .i64 0, .int .i64 0, .int .i64 0] 0 53, .cells [.int .i64 v.2.1, .int .i64 v.2.2, .int .i64 0, .int .i64 0] 0 53] s h) ?_ ?_
  · cases p0 with
    | nil =>
      dsimp only at hm
      show WK _ _ _ _ _ [(0, .nili), (2, .ptr 0 0 0), (3, .ptr 1 0 0)] [.cells [.int .i64 0, .int .i64 0, .int .i64 0, .int .i64 0] 0 53, .cells [.int .i64 0, .int .i64 0, .int .i64 0, .int .i64 0] 0 53]
      refine W.sq [] [(0, .nili), (2, .ptr 0 0 0), (3, .ptr 1 0 0), (4, .ptr 2 0 0), (5, .bool false)] [.cells [.int .i64 0, .int .i64 0, .int .i64 0, .int .i64 0] 0 53, .cells [.int .i64 0, .int .i64 0, .int .i64 0, .int .i64 0] 0 53, .cells [.int .i64 0] 0 145] ?_
      refine W.sq [] [(0, .nili), (2, .ptr 0 0 0), (3, .ptr 1 0 0), (4, .ptr 2 0 0), (17, .bool false)] [.cells [.int .i64 0, .int .i64 0, .int .i64 0, .int .i64 0] 0 53, .cells [.int .i64 0, .int .i64 0, .int .i64 0, .int .i64 0] 0 53, .cells [.int .i64 0] 0 145] ?_
      refine W.cnd false (fun hx => by cases hx) (fun _ => ?_)
      refine W.skip ?_
      exact ⟨(I_opnd_Part.nil, 0, 0), (), ⟨[], []⟩, hm, RO⟩
    | RegPart x33 =>
      dsimp only at hm
      show WK _ _ _ _ _ [(0, .iface 145 (.agg [.int .i64 x33.Reg])), (2, .ptr 0 0 0), (3, .ptr 1 0 0)] [.cells [.int .i64 0, .int .i64 0, .int .i64 0, .int .i64 0] 0 53, .cells [.int .i64 0, .int .i64 0, .int .i64 0, .int .i64 0] 0 53]
      refine W.sq [] [(0, .iface 145 (.agg [.int .i64 x33.Reg])), (2, .ptr 0 0 0), (3, .ptr 1 0 0), (4, .ptr 2 0 0), (5, .bool true)] [.cells [.int .i64 0, .int .i64 0, .int .i64 0, .int .i64 0] 0 53, .cells [.int .i64 0, .int .i64 0, .int .i64 0, .int .i64 0] 0 53, .cells [.int .i64 x33.Reg] 0 145] ?_
      refine W.sq [] [(0, .iface 145 (.agg [.int .i64 x33.Reg])), (2, .ptr 0 0 0), (3, .ptr 1 0 0), (4, .ptr 2 0 0), (17, .bool true)] [.cells [.int .i64 0, .int .i64 0, .int .i64 0, .int .i64 0] 0 53, .cells [.int .i64 0, .int .i64 0, .int .i64 0, .int .i64 0] 0 53, .cells [.int .i64 x33.Reg] 0 145] ?_
      refine W.cnd true (fun _ => ?_) (fun hx => by cases hx)
      refine W.rg [] [(0, .iface 145 (.agg [.int .i64 x33.Reg])), (2, .ptr 0 0 0), (3, .ptr 1 0 0)] [.cells [.int .i64 0, .int .i64 0, .int .i64 0, .int .i64 0] 0 53, .cells [.int .i64 1, .int .i64 x33.Reg, .int .i64 0, .int .i64 0] 0 53] ?_
      exact ⟨((I_opnd_Part.RegPart x33), 1, x33.Reg), (), ⟨[], []⟩, hm, RO⟩
    | NumPart x34 =>
      dsimp only at hm
      show WK _ _ _ _ _ [(0, .iface 147 (.agg [.int .i64 x34.N])), (2, .ptr 0 0 0), (3, .ptr 1 0 0)] [.cells [.int .i64 0, .int .i64 0, .int .i64 0, .int .i64 0] 0 53, .cells [.int .i64 0, .int .i64 0, .int .i64 0, .int .i64 0] 0 53]
      refine W.sq [] [(0, .iface 147 (.agg [.int .i64 x34.N])), (2, .ptr 0 0 0), (3, .ptr 1 0 0), (4, .ptr 2 0 0), (5, .bool false)] [.cells [.int .i64 0, .int .i64 0, .int .i64 0, .int .i64 0] 0 53, .cells [.int .i64 0, .int .i64 0, .int .i64 0, .int .i64 0] 0 53, .cells [.int .i64 0] 0 145] ?_
      refine W.sq [] [(0, .iface 147 (.agg [.int .i64 x34.N])), (2, .ptr 0 0 0), (3, .ptr 1 0 0), (4, .ptr 2 0 0), (17, .bool false)] [.cells [.int .i64 0, .int .i64 0, .int .i64 0, .int .i64 0] 0 53, .cells [.int .i64 0, .int .i64 0, .int .i64 0, .int .i64 0] 0 53, .cells [.int .i64 0] 0 145] ?_
      refine W.cnd false (fun hx => by cases hx) (fun _ => ?_)
      refine W.skip ?_
      exact ⟨((I_opnd_Part.NumPart x34), 0, 0), (), ⟨[], []⟩, hm, RO⟩
    | AtPart x35 =>
      dsimp only at hm
      show WK _ _ _ _ _ [(0, .iface 149 (.agg [.int .i64 x35.Sym, .int .i64 x35.N])), (2, .ptr 0 0 0), (3, .ptr 1 0 0)] [.cells [.int .i64 0, .int .i64 0, .int .i64 0, .int .i64 0] 0 53, .cells [.int .i64 0, .int .i64 0, .int .i64 0, .int .i64 0] 0 53]
      refine W.sq [] [(0, .iface 149 (.agg [.int .i64 x35.Sym, .int .i64 x35.N])), (2, .ptr 0 0 0), (3, .ptr 1 0 0), (4, .ptr 2 0 0), (5, .bool false)] [.cells [.int .i64 0, .int .i64 0, .int .i64 0, .int .i64 0] 0 53, .cells [.int .i64 0, .int .i64 0, .int .i64 0, .int .i64 0] 0 53, .cells [.int .i64 0] 0 145] ?_
      refine W.sq [] [(0, .iface 149 (.agg [.int .i64 x35.Sym, .int .i64 x35.N])), (2, .ptr 0 0 0), (3, .ptr 1 0 0), (4, .ptr 2 0 0), (17, .bool false)] [.cells [.int .i64 0, .int .i64 0, .int .i64 0, .int .i64 0] 0 53, .cells [.int .i64 0, .int .i64 0, .int .i64 0, .int .i64 0] 0 53, .cells [.int .i64 0] 0 145] ?_
      refine W.cnd false (fun hx => by cases hx) (fun _ => ?_)
      refine W.skip ?_
      exact ⟨((I_opnd_Part.AtPart x35), 0, 0), (), ⟨[], []⟩, hm, RO⟩
    | ByPart x36 =>
      dsimp only at hm
      show WK _ _ _ _ _ [(0, .iface 151 (.agg [.int .i64 x36.Sym, .int .i64 x36.Reg])), (2, .ptr 0 0 0), (3, .ptr 1 0 0)] [.cells [.int .i64 0, .int .i64 0, .int .i64 0, .int .i64 0] 0 53, .cells [.int .i64 0, .int .i64 0, .int .i64 0, .int .i64 0] 0 53]
      refine W.sq [] [(0, .iface 151 (.agg [.int .i64 x36.Sym, .int .i64 x36.Reg])), (2, .ptr 0 0 0), (3, .ptr 1 0 0), (4, .ptr 2 0 0), (5, .bool false)] [.cells [.int .i64 0, .int .i64 0, .int .i64 0, .int .i64 0] 0 53, .cells [.int .i64 0, .int .i64 0, .int .i64 0, .int .i64 0] 0 53, .cells [.int .i64 0] 0 145] ?_
      refine W.sq [] [(0, .iface 151 (.agg [.int .i64 x36.Sym, .int .i64 x36.Reg])), (2, .ptr 0 0 0), (3, .ptr 1 0 0), (4, .ptr 2 0 0), (17, .bool false)] [.cells [.int .i64 0, .int .i64 0, .int .i64 0, .int .i64 0] 0 53, .cells [.int .i64 0, .int .i64 0, .int .i64 0, .int .i64 0] 0 53, .cells [.int .i64 0] 0 145] ?_
      refine W.cnd false (fun hx => by cases hx) (fun _ => ?_)
      refine W.skip ?_
      exact ⟨((I_opnd_Part.ByPart x36), 0, 0), (), ⟨[], []⟩, hm, RO⟩
  · rintro s h ⟨⟨z1, i2, i3⟩, _, F, hm, hat⟩
    refine W.weak F hat ?_
    show WK _ _ _ _ _ [(0, eI_opnd_Part z1), (2, .ptr 0 0 0), (3, .ptr 1 0 0)] [.cells [.int .i64 0, .int .i64 0, .int .i64 0, .int .i64 0] 0 53, .cells [.int .i64 i2, .int .i64 i3, .int .i64 0, .int .i64 0] 0 53]
    rw [opnd_Back_j1.eq_def] at hm
    refine W.cut (fun s h => ∃ (v : I_opnd_Part × Int × Int × Int) (w : Unit) (F : Gs), opnd_Back_j2 v.1 v.2.1 v.2.2.1 v.2.2.2 = some r ∧ AT 0 F [(0, eI_opnd_Part v.1), (2, .ptr 0 0 0), (3, .ptr 1 0 0)] [.cells [.int .i64 0, .int .i64 0, .int .i64 0, .int .i64 0] 0 53, .cells [.int .i64 v.2.1, .int .i64 v.2.2.1, .int .i64 0, .int .i64 v.2.2.2] 0 53] s h) ?_ ?_
    · cases z1 with
      | nil =>
        dsimp only at hm
        show WK _ _ _ _ _ [(0, .nili), (2, .ptr 0 0 0), (3, .ptr 1 0 0)] [.cells [.int .i64 0, .int .i64 0, .int .i64 0, .int .i64 0] 0 53, .cells [.int .i64 i2, .int .i64 i3, .int .i64 0, .int .i64 0] 0 53]
        refine W.sq [] [(0, .nili), (2, .ptr 0 0 0), (3, .ptr 1 0 0), (6, .ptr 2 0 0), (7, .bool false)] [.cells [.int .i64 0, .int .i64 0, .int .i64 0, .int .i64 0] 0 53, .cells [.int .i64 i2, .int .i64 i3, .int .i64 0, .int .i64 0] 0 53, .cells [.int .i64 0] 0 147] ?_
        refine W.sq [] [(0, .nili), (2, .ptr 0 0 0), (3, .ptr 1 0 0), (6, .ptr 2 0 0), (26, .bool false)] [.cells [.int .i64 0, .int .i64 0, .int .i64 0, .int .i64 0] 0 53, .cells [.int .i64 i2, .int .i64 i3, .int .i64 0, .int .i64 0] 0 53, .cells [.int .i64 0] 0 147] ?_
        refine W.cnd false (fun hx => by cases hx) (fun _ => ?_)
        refine W.skip ?_
        exact ⟨(I_opnd_Part.nil, i2, i3, 0), (), ⟨[], []⟩, hm, RO⟩
      | RegPart x29 =>
        dsimp only at hm
        show WK _ _ _ _ _ [(0, .iface 145 (.agg [.int .i64 x29.Reg])), (2, .ptr 0 0 0), (3, .ptr 1 0 0)] [.cells [.int .i64 0, .int .i64 0, .int .i64 0, .int .i64 0] 0 53, .cells [.int .i64 i2, .int .i64 i3, .int .i64 0, .int .i64 0] 0 53]
        refine W.sq [] [(0, .iface 145 (.agg [.int .i64 x29.Reg])), (2, .ptr 0 0 0), (3, .ptr 1 0 0), (6, .ptr 2 0 0), (7, .bool false)] [.cells [.int .i64 0, .int .i64 0, .int .i64 0, .int .i64 0] 0 53, .cells [.int .i64 i2, .int .i64 i3, .int .i64 0, .int .i64 0] 0 53, .cells [.int .i64 0] 0 147] ?_
        refine W.sq [] [(0, .iface 145 (.agg [.int .i64 x29.Reg])), (2, .ptr 0 0 0), (3, .ptr 1 0 0), (6, .ptr 2 0 0), (26, .bool false)] [.cells [.int .i64 0, .int .i64 0, .int .i64 0, .int .i64 0] 0 53, .cells [.int .i64 i2, .int .i64 i3, .int .i64 0, .int .i64 0] 0 53, .cells [.int .i64 0] 0 147] ?_
        refine W.cnd false (fun hx => by cases hx) (fun _ => ?_)
        refine W.skip ?_
        exact ⟨((I_opnd_Part.RegPart x29), i2, i3, 0), (), ⟨[], []⟩, hm, RO⟩
      | NumPart x30 =>
        dsimp only at hm
        show WK _ _ _ _ _ [(0, .iface 147 (.agg [.int .i64 x30.N])), (2, .ptr 0 0 0), (3, .ptr 1 0 0)] [.cells [.int .i64 0, .int .i64 0, .int .i64 0, .int .i64 0] 0 53, .cells [.int .i64 i2, .int .i64 i3, .int .i64 0, .int .i64 0] 0 53]
        refine W.sq [] [(0, .iface 147 (.agg [.int .i64 x30.N])), (2, .ptr 0 0 0), (3, .ptr 1 0 0), (6, .ptr 2 0 0), (7, .bool true)] [.cells [.int .i64 0, .int .i64 0, .int .i64 0, .int .i64 0] 0 53, .cells [.int .i64 i2, .int .i64 i3, .int .i64 0, .int .i64 0] 0 53, .cells [.int .i64 x30.N] 0 147] ?_
        refine W.sq [] [(0, .iface 147 (.agg [.int .i64 x30.N])), (2, .ptr 0 0 0), (3, .ptr 1 0 0), (6, .ptr 2 0 0), (26, .bool true)] [.cells [.int .i64 0, .int .i64 0, .int .i64 0, .int .i64 0] 0 53, .cells [.int .i64 i2, .int .i64 i3, .int .i64 0, .int .i64 0] 0 53, .cells [.int .i64 x30.N] 0 147] ?_
        refine W.cnd true (fun _ => ?_) (fun hx => by cases hx)
        refine W.rg [] [(0, .iface 147 (.agg [.int .i64 x30.N])), (2, .ptr 0 0 0), (3, .ptr 1 0 0)] [.cells [.int .i64 0, .int .i64 0, .int .i64 0, .int .i64 0] 0 53, .cells [.int .i64 2, .int .i64 0, .int .i64 0, .int .i64 x30.N] 0 53] ?_
        exact ⟨((I_opnd_Part.NumPart x30), 2, 0, x30.N), (), ⟨[], []⟩, hm, RO⟩
      | AtPart x31 =>
        dsimp only at hm
        show WK _ _ _ _ _ [(0, .iface 149 (.agg [.int .i64 x31.Sym, .int .i64 x31.N])), (2, .ptr 0 0 0), (3, .ptr 1 0 0)] [.cells [.int .i64 0, .int .i64 0, .int .i64 0, .int .i64 0] 0 53, .cells [.int .i64 i2, .int .i64 i3, .int .i64 0, .int .i64 0] 0 53]
        refine W.sq [] [(0, .iface 149 (.agg [.int .i64 x31.Sym, .int .i64 x31.N])), (2, .ptr 0 0 0), (3, .ptr 1 0 0), (6, .ptr 2 0 0), (7, .bool false)] [.cells [.int .i64 0, .int .i64 0, .int .i64 0, .int .i64 0] 0 53, .cells [.int .i64 i2, .int .i64 i3, .int .i64 0, .int .i64 0] 0 53, .cells [.int .i64 0] 0 147] ?_
        refine W.sq [] [(0, .iface 149 (.agg [.int .i64 x31.Sym, .int .i64 x31.N])), (2, .ptr 0 0 0), (3, .ptr 1 0 0), (6, .ptr 2 0 0), (26, .bool false)] [.cells [.int .i64 0, .int .i64 0, .int .i64 0, .int .i64 0] 0 53, .cells [.int .i64 i2, .int .i64 i3, .int .i64 0, .int .i64 0] 0 53, .cells [.int .i64 0] 0 147] ?_
        refine W.cnd false (fun hx => by cases hx) (fun _ => ?_)
        refine W.skip ?_
        exact ⟨((I_opnd_Part.AtPart x31), i2, i3, 0), (), ⟨[], []⟩, hm, RO⟩
      | ByPart x32 =>
        dsimp only at hm
        show WK _ _ _ _ _ [(0, .iface 151 (.agg [.int .i64 x32.Sym, .int .i64 x32.Reg])), (2, .ptr 0 0 0), (3, .ptr 1 0 0)] [.cells [.int .i64 0, .int .i64 0, .int .i64 0, .int .i64 0] 0 53, .cells [.int .i64 i2, .int .i64 i3, .int .i64 0, .int .i64 0] 0 53]
        refine W.sq [] [(0, .iface 151 (.agg [.int .i64 x32.Sym, .int .i64 x32.Reg])), (2, .ptr 0 0 0), (3, .ptr 1 0 0), (6, .ptr 2 0 0), (7, .bool false)] [.cells [.int .i64 0, .int .i64 0, .int .i64 0, .int .i64 0] 0 53, .cells [.int .i64 i2, .int .i64 i3, .int .i64 0, .int .i64 0] 0 53, .cells [.int .i64 0] 0 147] ?_
        refine W.sq [] [(0, .iface 151 (.agg [.int .i64 x32.Sym, .int .i64 x32.Reg])), (2, .ptr 0 0 0), (3, .ptr 1 0 0), (6, .ptr 2 0 0), (26, .bool false)] [.cells [.int .i64 0, .int .i64 0, .int .i64 0, .int .i64 0] 0 53, .cells [.int .i64 i2, .int .i64 i3, .int .i64 0, .int .i64 0] 0 53, .cells [.int .i64 0] 0 147] ?_
        refine W.cnd false (fun hx => by cases hx) (fun _ => ?_)
        refine W.skip ?_
        exact ⟨((I_opnd_Part.ByPart x32), i2, i3, 0), (), ⟨[], []⟩, hm, RO⟩
    · rintro s h ⟨⟨z4, i5, i6, i7⟩, _, F, hm, hat⟩
      refine W.weak F hat ?_
      show WK _ _ _ _ _ [(0, eI_opnd_Part z4), (2, .ptr 0 0 0), (3, .ptr 1 0 0)] [.cells [.int .i64 0, .int .i64 0, .int .i64 0, .int .i64 0] 0 53, .cells [.int .i64 i5, .int .i64 i6, .int .i64 0, .int .i64 i7] 0 53]
      rw [opnd_Back_j2.eq_def] at hm
      refine W.cut (fun s h => ∃ (v : I_opnd_Part × Int × Int × Int × Int) (w : Unit) (F : Gs), opnd_Back_j3 v.1 v.2.1 v.2.2.1 v.2.2.2.1 v.2.2.2.2 = some r ∧ AT 0 F [(0, eI_opnd_Part v.1), (2, .ptr 0 0 0), (3, .ptr 1 0 0)] [.cells [.int .i64 0, .int .i64 0, .int .i64 0, .int .i64 0] 0 53, .cells [.int .i64 v.2.1, .int .i64 v.2.2.1, .int .i64 v.2.2.2.1, .int .i64 v.2.2.2.2] 0 53] s h) ?_ ?_
      · cases z4 with
        | nil =>
          dsimp only at hm
          show WK _ _ _ _ _ [(0, .nili), (2, .ptr 0 0 0), (3, .ptr 1 0 0)] [.cells [.int .i64 0, .int .i64 0, .int .i64 0, .int .i64 0] 0 53, .cells [.int .i64 i5, .int .i64 i6, .int .i64 0, .int .i64 i7] 0 53]
          refine W.sq [] [(0, .nili), (2, .ptr 0 0 0), (3, .ptr 1 0 0), (8, .ptr 2 0 0), (9, .bool false)] [.cells [.int .i64 0, .int .i64 0, .int .i64 0, .int .i64 0] 0 53, .cells [.int .i64 i5, .int .i64 i6, .int .i64 0, .int .i64 i7] 0 53, .cells [.int .i64 0, .int .i64 0] 0 149] ?_
          refine W.sq [] [(0, .nili), (2, .ptr 0 0 0), (3, .ptr 1 0 0), (8, .ptr 2 0 0), (35, .bool false)] [.cells [.int .i64 0, .int .i64 0, .int .i64 0, .int .i64 0] 0 53, .cells [.int .i64 i5, .int .i64 i6, .int .i64 0, .int .i64 i7] 0 53, .cells [.int .i64 0, .int .i64 0] 0 149] ?_
          refine W.cnd false (fun hx => by cases hx) (fun _ => ?_)
          refine W.skip ?_
          exact ⟨(I_opnd_Part.nil, i5, i6, 0, i7), (), ⟨[], []⟩, hm, RO⟩
        | RegPart x25 =>
          dsimp only at hm
          show WK _ _ _ _ _ [(0, .iface 145 (.agg [.int .i64 x25.Reg])), (2, .ptr 0 0 0), (3, .ptr 1 0 0)] [.cells [.int .i64 0, .int .i64 0, .int .i64 0, .int .i64 0] 0 53, .cells [.int .i64 i5, .int .i64 i6, .int .i64 0, .int .i64 i7] 0 53]
          refine W.sq [] [(0, .iface 145 (.agg [.int .i64 x25.Reg])), (2, .ptr 0 0 0), (3, .ptr 1 0 0), (8, .ptr 2 0 0), (9, .bool false)] [.cells [.int .i64 0, .int .i64 0, .int .i64 0, .int .i64 0] 0 53, .cells [.int .i64 i5, .int .i64 i6, .int .i64 0, .int .i64 i7] 0 53, .cells [.int .i64 0, .int .i64 0] 0 149] ?_
          refine W.sq [] [(0, .iface 145 (.agg [.int .i64 x25.Reg])), (2, .ptr 0 0 0), (3, .ptr 1 0 0), (8, .ptr 2 0 0), (35, .bool false)] [.cells [.int .i64 0, .int .i64 0, .int .i64 0, .int .i64 0] 0 53, .cells [.int .i64 i5, .int .i64 i6, .int .i64 0, .int .i64 i7] 0 53, .cells [.int .i64 0, .int .i64 0] 0 149] ?_
          refine W.cnd false (fun hx => by cases hx) (fun _ => ?_)
          refine W.skip ?_
          exact ⟨((I_opnd_Part.RegPart x25), i5, i6, 0, i7), (), ⟨[], []⟩, hm, RO⟩
        | NumPart x26 =>
          dsimp only at hm
          show WK _ _ _ _ _ [(0, .iface 147 (.agg [.int .i64 x26.N])), (2, .ptr 0 0 0), (3, .ptr 1 0 0)] [.cells [.int .i64 0, .int .i64 0, .int .i64 0, .int .i64 0] 0 53, .cells [.int .i64 i5, .int .i64 i6, .int .i64 0, .int .i64 i7] 0 53]
          refine W.sq [] [(0, .iface 147 (.agg [.int .i64 x26.N])), (2, .ptr 0 0 0), (3, .ptr 1 0 0), (8, .ptr 2 0 0), (9, .bool false)] [.cells [.int .i64 0, .int .i64 0, .int .i64 0, .int .i64 0] 0 53, .cells [.int .i64 i5, .int .i64 i6, .int .i64 0, .int .i64 i7] 0 53, .cells [.int .i64 0, .int .i64 0] 0 149] ?_
          refine W.sq [] [(0, .iface 147 (.agg [.int .i64 x26.N])), (2, .ptr 0 0 0), (3, .ptr 1 0 0), (8, .ptr 2 0 0), (35, .bool false)] [.cells [.int .i64 0, .int .i64 0, .int .i64 0, .int .i64 0] 0 53, .cells [.int .i64 i5, .int .i64 i6, .int .i64 0, .int .i64 i7] 0 53, .cells [.int .i64 0, .int .i64 0] 0 149] ?_
          refine W.cnd false (fun hx => by cases hx) (fun _ => ?_)
          refine W.skip ?_
          exact ⟨((I_opnd_Part.NumPart x26), i5, i6, 0, i7), (), ⟨[], []⟩, hm, RO⟩
        | AtPart x27 =>
          dsimp only at hm
          show WK _ _ _ _ _ [(0, .iface 149 (.agg [.int .i64 x27.Sym, .int .i64 x27.N])), (2, .ptr 0 0 0), (3, .ptr 1 0 0)] [.cells [.int .i64 0, .int .i64 0, .int .i64 0, .int .i64 0] 0 53, .cells [.int .i64 i5, .int .i64 i6, .int .i64 0, .int .i64 i7] 0 53]
          refine W.sq [] [(0, .iface 149 (.agg [.int .i64 x27.Sym, .int .i64 x27.N])), (2, .ptr 0 0 0), (3, .ptr 1 0 0), (8, .ptr 2 0 0), (9, .bool true)] [.cells [.int .i64 0, .int .i64 0, .int .i64 0, .int .i64 0] 0 53, .cells [.int .i64 i5, .int .i64 i6, .int .i64 0, .int .i64 i7] 0 53, .cells (e_opnd_AtPart x27) 0 149] ?_
          refine W.sq [] [(0, .iface 149 (.agg [.int .i64 x27.Sym, .int .i64 x27.N])), (2, .ptr 0 0 0), (3, .ptr 1 0 0), (8, .ptr 2 0 0), (35, .bool true)] [.cells [.int .i64 0, .int .i64 0, .int .i64 0, .int .i64 0] 0 53, .cells [.int .i64 i5, .int .i64 i6, .int .i64 0, .int .i64 i7] 0 53, .cells (e_opnd_AtPart x27) 0 149] ?_
          refine W.cnd true (fun _ => ?_) (fun hx => by cases hx)
          refine W.rg [] [(0, .iface 149 (.agg [.int .i64 x27.Sym, .int .i64 x27.N])), (2, .ptr 0 0 0), (3, .ptr 1 0 0)] [.cells [.int .i64 0, .int .i64 0, .int .i64 0, .int .i64 0] 0 53, .cells [.int .i64 3, .int .i64 0, .int .i64 x27.Sym, .int .i64 x27.N] 0 53] ?_
          exact ⟨((I_opnd_Part.AtPart x27), 3, 0, x27.Sym, x27.N), (), ⟨[], []⟩, hm, RO⟩
        | ByPart x28 =>
          dsimp only at hm
          show WK _ _ _ _ _ [(0, .iface 151 (.agg [.int .i64 x28.Sym, .int .i64 x28.Reg])), (2, .ptr 0 0 0), (3, .ptr 1 0 0)] [.cells [.int .i64 0, .int .i64 0, .int .i64 0, .int .i64 0] 0 53, .cells [.int .i64 i5, .int .i64 i6, .int .i64 0, .int .i64 i7] 0 53]
          refine W.sq [] [(0, .iface 151 (.agg [.int .i64 x28.Sym, .int .i64 x28.Reg])), (2, .ptr 0 0 0), (3, .ptr 1 0 0), (8, .ptr 2 0 0), (9, .bool false)] [.cells [.int .i64 0, .int .i64 0, .int .i64 0, .int .i64 0] 0 53, .cells [.int .i64 i5, .int .i64 i6, .int .i64 0, .int .i64 i7] 0 53, .cells [.int .i64 0, .int .i64 0] 0 149] ?_
          refine W.sq [] [(0, .iface 151 (.agg [.int .i64 x28.Sym, .int .i64 x28.Reg])), (2, .ptr 0 0 0), (3, .ptr 1 0 0), (8, .ptr 2 0 0), (35, .bool false)] [.cells [.int .i64 0, .int .i64 0, .int .i64 0, .int .i64 0] 0 53, .cells [.int .i64 i5, .int .i64 i6, .int .i64 0, .int .i64 i7] 0 53, .cells [.int .i64 0, .int .i64 0] 0 149] ?_
          refine W.cnd false (fun hx => by cases hx) (fun _ => ?_)
          refine W.skip ?_
          exact ⟨((I_opnd_Part.ByPart x28), i5, i6, 0, i7), (), ⟨[], []⟩, hm, RO⟩
      · rintro s h ⟨⟨z8, i9, i10, i11, i12⟩, _, F, hm, hat⟩
        refine W.weak F hat ?_
        show WK _ _ _ _ _ [(0, eI_opnd_Part z8), (2, .ptr 0 0 0), (3, .ptr 1 0 0)] [.cells [.int .i64 0, .int .i64 0, .int .i64 0, .int .i64 0] 0 53, .cells [.int .i64 i9, .int .i64 i10, .int .i64 i11, .int .i64 i12] 0 53]
        rw [opnd_Back_j3.eq_def] at hm
        refine W.cut (fun s h => ∃ (v : Int × Int × Int × Int) (w : Unit) (F : Gs), opnd_Back_j4 v.1 v.2.1 v.2.2.1 v.2.2.2 = some r ∧ AT 0 F [(2, .ptr 0 0 0), (3, .ptr 1 0 0)] [.cells [.int .i64 0, .int .i64 0, .int .i64 0, .int .i64 0] 0 53, .cells [.int .i64 v.1, .int .i64 v.2.1, .int .i64 v.2.2.1, .int .i64 v.2.2.2] 0 53] s h) ?_ ?_
        · cases z8 with
          | nil =>
            dsimp only at hm
            show WK _ _ _ _ _ [(0, .nili), (2, .ptr 0 0 0), (3, .ptr 1 0 0)] [.cells [.int .i64 0, .int .i64 0, .int .i64 0, .int .i64 0] 0 53, .cells [.int .i64 i9, .int .i64 i10, .int .i64 i11, .int .i64 i12] 0 53]
            refine W.sq [] [(2, .ptr 0 0 0), (3, .ptr 1 0 0), (10, .ptr 2 0 0), (11, .bool false)] [.cells [.int .i64 0, .int .i64 0, .int .i64 0, .int .i64 0] 0 53, .cells [.int .i64 i9, .int .i64 i10, .int .i64 i11, .int .i64 i12] 0 53, .cells [.int .i64 0, .int .i64 0] 0 151] ?_
            refine W.sq [] [(2, .ptr 0 0 0), (3, .ptr 1 0 0), (10, .ptr 2 0 0), (46, .bool false)] [.cells [.int .i64 0, .int .i64 0, .int .i64 0, .int .i64 0] 0 53, .cells [.int .i64 i9, .int .i64 i10, .int .i64 i11, .int .i64 i12] 0 53, .cells [.int .i64 0, .int .i64 0] 0 151] ?_
            refine W.cnd false (fun hx => by cases hx) (fun _ => ?_)
            refine W.skip ?_
            exact ⟨(i9, i10, i11, i12), (), ⟨[], []⟩, hm, RO⟩
          | RegPart x21 =>
            dsimp only at hm
            show WK _ _ _ _ _ [(0, .iface 145 (.agg [.int .i64 x21.Reg])), (2, .ptr 0 0 0), (3, .ptr 1 0 0)] [.cells [.int .i64 0, .int .i64 0, .int .i64 0, .int .i64 0] 0 53, .cells [.int .i64 i9, .int .i64 i10, .int .i64 i11, .int .i64 i12] 0 53]
            refine W.sq [] [(2, .ptr 0 0 0), (3, .ptr 1 0 0), (10, .ptr 2 0 0), (11, .bool false)] [.cells [.int .i64 0, .int .i64 0, .int .i64 0, .int .i64 0] 0 53, .cells [.int .i64 i9, .int .i64 i10, .int .i64 i11, .int .i64 i12] 0 53, .cells [.int .i64 0, .int .i64 0] 0 151] ?_
            refine W.sq [] [(2, .ptr 0 0 0), (3, .ptr 1 0 0), (10, .ptr 2 0 0), (46, .bool false)] [.cells [.int .i64 0, .int .i64 0, .int .i64 0, .int .i64 0] 0 53, .cells [.int .i64 i9, .int .i64 i10, .int .i64 i11, .int .i64 i12] 0 53, .cells [.int .i64 0, .int .i64 0] 0 151] ?_
            refine W.cnd false (fun hx => by cases hx) (fun _ => ?_)
            refine W.skip ?_
            exact ⟨(i9, i10, i11, i12), (), ⟨[], []⟩, hm, RO⟩
          | NumPart x22 =>
            dsimp only at hm
            show WK _ _ _ _ _ [(0, .iface 147 (.agg [.int .i64 x22.N])), (2, .ptr 0 0 0), (3, .ptr 1 0 0)] [.cells [.int .i64 0, .int .i64 0, .int .i64 0, .int .i64 0] 0 53, .cells [.int .i64 i9, .int .i64 i10, .int .i64 i11, .int .i64 i12] 0 53]
            refine W.sq [] [(2, .ptr 0 0 0), (3, .ptr 1 0 0), (10, .ptr 2 0 0), (11, .bool false)] [.cells [.int .i64 0, .int .i64 0, .int .i64 0, .int .i64 0] 0 53, .cells [.int .i64 i9, .int .i64 i10, .int .i64 i11, .int .i64 i12] 0 53, .cells [.int .i64 0, .int .i64 0] 0 151] ?_
            refine W.sq [] [(2, .ptr 0 0 0), (3, .ptr 1 0 0), (10, .ptr 2 0 0), (46, .bool false)] [.cells [.int .i64 0, .int .i64 0, .int .i64 0, .int .i64 0] 0 53, .cells [.int .i64 i9, .int .i64 i10, .int .i64 i11, .int .i64 i12] 0 53, .cells [.int .i64 0, .int .i64 0] 0 151] ?_
            refine W.cnd false (fun hx => by cases hx) (fun _ => ?_)
            refine W.skip ?_
            exact ⟨(i9, i10, i11, i12), (), ⟨[], []⟩, hm, RO⟩
          | AtPart x23 =>
            dsimp only at hm
            show WK _ _ _ _ _ [(0, .iface 149 (.agg [.int .i64 x23.Sym, .int .i64 x23.N])), (2, .ptr 0 0 0), (3, .ptr 1 0 0)] [.cells [.int .i64 0, .int .i64 0, .int .i64 0, .int .i64 0] 0 53, .cells [.int .i64 i9, .int .i64 i10, .int .i64 i11, .int .i64 i12] 0 53]
            refine W.sq [] [(2, .ptr 0 0 0), (3, .ptr 1 0 0), (10, .ptr 2 0 0), (11, .bool false)] [.cells [.int .i64 0, .int .i64 0, .int .i64 0, .int .i64 0] 0 53, .cells [.int .i64 i9, .int .i64 i10, .int .i64 i11, .int .i64 i12] 0 53, .cells [.int .i64 0, .int .i64 0] 0 151] ?_
            refine W.sq [] [(2, .ptr 0 0 0), (3, .ptr 1 0 0), (10, .ptr 2 0 0), (46, .bool false)] [.cells [.int .i64 0, .int .i64 0, .int .i64 0, .int .i64 0] 0 53, .cells [.int .i64 i9, .int .i64 i10, .int .i64 i11, .int .i64 i12] 0 53, .cells [.int .i64 0, .int .i64 0] 0 151] ?_
            refine W.cnd false (fun hx => by cases hx) (fun _ => ?_)
            refine W.skip ?_
            exact ⟨(i9, i10, i11, i12), (), ⟨[], []⟩, hm, RO⟩
          | ByPart x24 =>
            dsimp only at hm
            show WK _ _ _ _ _ [(0, .iface 151 (.agg [.int .i64 x24.Sym, .int .i64 x24.Reg])), (2, .ptr 0 0 0), (3, .ptr 1 0 0)] [.cells [.int .i64 0, .int .i64 0, .int .i64 0, .int .i64 0] 0 53, .cells [.int .i64 i9, .int .i64 i10, .int .i64 i11, .int .i64 i12] 0 53]
            refine W.sq [] [(2, .ptr 0 0 0), (3, .ptr 1 0 0), (10, .ptr 2 0 0), (11, .bool true)] [.cells [.int .i64 0, .int .i64 0, .int .i64 0, .int .i64 0] 0 53, .cells [.int .i64 i9, .int .i64 i10, .int .i64 i11, .int .i64 i12] 0 53, .cells (e_opnd_ByPart x24) 0 151] ?_
            refine W.sq [] [(2, .ptr 0 0 0), (3, .ptr 1 0 0), (10, .ptr 2 0 0), (46, .bool true)] [.cells [.int .i64 0, .int .i64 0, .int .i64 0, .int .i64 0] 0 53, .cells [.int .i64 i9, .int .i64 i10, .int .i64 i11, .int .i64 i12] 0 53, .cells (e_opnd_ByPart x24) 0 151] ?_
            refine W.cnd true (fun _ => ?_) (fun hx => by cases hx)
            refine W.rg [] [(2, .ptr 0 0 0), (3, .ptr 1 0 0)] [.cells [.int .i64 0, .int .i64 0, .int .i64 0, .int .i64 0] 0 53, .cells [.int .i64 4, .int .i64 x24.Reg, .int .i64 x24.Sym, .int .i64 0] 0 53] ?_
            exact ⟨(4, x24.Reg, x24.Sym, 0), (), ⟨[], []⟩, hm, RO⟩
        · rintro s h ⟨⟨i13, i14, i15, i17⟩, _, F, hm, hat⟩
          refine W.weak F hat ?_
          show WK _ _ _ _ _ [(2, .ptr 0 0 0), (3, .ptr 1 0 0)] [.cells [.int .i64 0, .int .i64 0, .int .i64 0, .int .i64 0] 0 53, .cells [.int .i64 i13, .int .i64 i14, .int .i64 i15, .int .i64 i17] 0 53]
          rw [opnd_Back_j4] at hm
          refine W.seq ?_
          replace hm := of_bind hm
          obtain ⟨v18, h19, hm⟩ := hm
          have kh19 := opnd_Right_ok h19
          refine W.sq [] [(2, .ptr 0 0 0), (3, .ptr 1 0 0), (54, .bool (!v18))] [.cells [.int .i64 0, .int .i64 0, .int .i64 0, .int .i64 0] 0 53, .cells [.int .i64 i13, .int .i64 i14, .int .i64 i15, .int .i64 i17] 0 53] ?_
          refine W.cnd (!v18) (fun hb20 => ?_) (fun hb20 => ?_)
          · replace hm := of_true hb20 hm
            refine W.sq [] [(2, .ptr 0 0 0)] [.cells [.int .i64 0, .int .i64 0, .int .i64 0, .int .i64 0] 0 53] ?_
            obtain rfl := Option.some.inj hm
            exact W.ret (EndsF.retW [] RO)
          · replace hm := of_false hb20 hm
            refine W.skip ?_
            refine W.sq [] [(2, .ptr 0 0 0)] [.cells [.int .i64 i13, .int .i64 i14, .int .i64 i15, .int .i64 i17] 0 53] ?_
            obtain rfl := Option.some.inj hm
            exact W.ret (EndsF.retW [] RO)

theorem opnd_RegPart_Text_ok {p0 : T_opnd_RegPart} {p1 : (List ByteArray)} {r : ByteArray} (hm : opnd_RegPart_Text p0 p1 = some r) : PureF Tryd.prog 168 [.agg [.int .i64 p0.Reg], .sl (p1.map eStr)] (.str r) := by
  rw [opnd_RegPart_Text] at hm
  refine PureF.of Tryd.func168 rfl Tryd.ntmps168 (Nat.le_of_ble_eq_true rfl) ?_
  have e0 : argS 0 [.agg [.int .i64 p0.Reg], .sl (p1.map eStr)] = [(0, .agg [.int .i64 p0.Reg]), (1, .sl (p1.map eStr))] := rfl
  rw [e0]
  refine W.sq [] [(2, .ptr 0 0 0)] [.cells [.int .i64 p0.Reg] 0 145] ?_
  replace hm := of_bind hm
  obtain ⟨v1, h2, hm⟩ := hm
  have kh2 := names_RegText_ok h2
  refine W.sq [] [(4, .str v1)] [] ?_
  obtain rfl := Option.some.inj hm
  exact W.ret (EndsF.retW [] RO)

theorem opnd_NumPart_Text_ok {p0 : T_opnd_NumPart} {p1 : (List ByteArray)} {r : ByteArray} (hm : opnd_NumPart_Text p0 p1 = some r) : PureF Tryd.prog 170 [.agg [.int .i64 p0.N], .sl (p1.map eStr)] (.str r) := by
  rw [opnd_NumPart_Text] at hm
  refine PureF.of Tryd.func170 rfl Tryd.ntmps170 (Nat.le_of_ble_eq_true rfl) ?_
  have e0 : argS 0 [.agg [.int .i64 p0.N], .sl (p1.map eStr)] = [(0, .agg [.int .i64 p0.N]), (1, .sl (p1.map eStr))] := rfl
  rw [e0]
  refine W.sq [] [(2, .ptr 0 0 0)] [.cells [.int .i64 p0.N] 0 147] ?_
  replace hm := of_bind hm
  obtain ⟨v1, h2, hm⟩ := hm
  have kh2 := num_Text_ok h2
  refine W.sq [] [(4, .str v1)] [] ?_
  obtain rfl := Option.some.inj hm
  exact W.ret (EndsF.retW [] RO)

theorem opnd_AtPart_Text_ok {p0 : T_opnd_AtPart} {p1 : (List ByteArray)} {r : ByteArray} (hm : opnd_AtPart_Text p0 p1 = some r) : PureF Tryd.prog 171 [.agg [.int .i64 p0.Sym, .int .i64 p0.N], .sl (p1.map eStr)] (.str r) := by
  rw [opnd_AtPart_Text] at hm
  refine PureF.of Tryd.func171 rfl Tryd.ntmps171 (Nat.le_of_ble_eq_true rfl) ?_
  have e0 : argS 0 [.agg [.int .i64 p0.Sym, .int .i64 p0.N], .sl (p1.map eStr)] = [(0, .agg [.int .i64 p0.Sym, .int .i64 p0.N]), (1, .sl (p1.map eStr))] := rfl
  rw [e0]
  refine W.sq [] [(1, .sl (p1.map eStr)), (2, .ptr 0 0 0)] [.cells (e_opnd_AtPart p0) 0 149] ?_
  refine W.seq ?_
  replace hm := of_bind hm
  obtain ⟨v1, h2, hm⟩ := hm
  replace hm := of_let hm
  obtain ⟨b3, h4, hm⟩ := hm
  have kh2 := opnd_Back_ok h2
  try simp only [eI_opnd_Part_nil, eI_opnd_Part_RegPart, eI_opnd_Part_NumPart, eI_opnd_Part_AtPart, eI_opnd_Part_ByPart] at kh2
  refine W.sq [] [(1, .sl (p1.map eStr)), (2, .ptr 0 0 0), (16, .bool b3)] [.cells (e_opnd_AtPart p0) 0 149] ?_
  clear h4
  refine W.cnd b3 (fun hb5 => ?_) (fun hb5 => ?_)
  · replace hm := of_true hb5 hm
    refine W.sq [] [(4, .str (⟨#[]⟩ : ByteArray))] [] ?_
    obtain rfl := Option.some.inj hm
    exact W.ret (EndsF.retW [] RO)
  · replace hm := of_false hb5 hm
    refine W.skip ?_
    replace hm := of_ite hm
    obtain ⟨h6, hm⟩ := hm
    replace hm := of_ite hm
    obtain ⟨h7, hm⟩ := hm
    replace hm := of_bind hm
    obtain ⟨v8, h9, hm⟩ := hm
    replace hm := of_ite hm
    obtain ⟨h10, hm⟩ := hm
    replace hm := of_ite hm
    obtain ⟨h11, hm⟩ := hm
    replace hm := of_let hm
    obtain ⟨s12, h13, hm⟩ := hm
    have kh9 := num_Text_ok h9
    try simp only [hb5] at kh9
    refine W.sqJ [] [] [] 0 [] [(4, .str s12)] [] v_mixed ?_
    clear h13
    obtain rfl := Option.some.inj hm
    exact W.ret (EndsF.retW [] RO)

theorem opnd_ByPart_Text_ok {p0 : T_opnd_ByPart} {p1 : (List ByteArray)} {r : ByteArray} (hm : opnd_ByPart_Text p0 p1 = some r) : PureF Tryd.prog 173 [.agg [.int .i64 p0.Sym, .int .i64 p0.Reg], .sl (p1.map eStr)] (.str r) := by
  rw [opnd_ByPart_Text] at hm
  refine PureF.of Tryd.func173 rfl Tryd.ntmps173 (Nat.le_of_ble_eq_true rfl) ?_
  have e0 : argS 0 [.agg [.int .i64 p0.Sym, .int .i64 p0.Reg], .sl (p1.map eStr)] = [(0, .agg [.int .i64 p0.Sym, .int .i64 p0.Reg]), (1, .sl (p1.map eStr))] := rfl
  rw [e0]
  refine W.sq [] [(1, .sl (p1.map eStr)), (2, .ptr 0 0 0)] [.cells (e_opnd_ByPart p0) 0 151] ?_
  refine W.seq ?_
  replace hm := of_bind hm
  obtain ⟨v1, h2, hm⟩ := hm
  replace hm := of_let hm
  obtain ⟨b3, h4, hm⟩ := hm
  have kh2 := opnd_Back_ok h2
  try simp only [eI_opnd_Part_nil, eI_opnd_Part_RegPart, eI_opnd_Part_NumPart, eI_opnd_Part_AtPart, eI_opnd_Part_ByPart] at kh2
  refine W.sq [] [(1, .sl (p1.map eStr)), (2, .ptr 0 0 0), (16, .bool b3)] [.cells (e_opnd_ByPart p0) 0 151] ?_
  clear h4
  refine W.cnd b3 (fun hb5 => ?_) (fun hb5 => ?_)
  · replace hm := of_true hb5 hm
    refine W.sq [] [(4, .str (⟨#[]⟩ : ByteArray))] [] ?_
    obtain rfl := Option.some.inj hm
    exact W.ret (EndsF.retW [] RO)
  · replace hm := of_false hb5 hm
    refine W.skip ?_
    replace hm := of_ite hm
    obtain ⟨h6, hm⟩ := hm
    replace hm := of_ite hm
    obtain ⟨h7, hm⟩ := hm
    replace hm := of_bind hm
    obtain ⟨v8, h9, hm⟩ := hm
    replace hm := of_ite hm
    obtain ⟨h10, hm⟩ := hm
    replace hm := of_ite hm
    obtain ⟨h11, hm⟩ := hm
    replace hm := of_let hm
    obtain ⟨s12, h13, hm⟩ := hm
    have kh9 := names_RegText_ok h9
    try simp only [hb5] at kh9
    refine W.sqJ [] [] [] 0 [] [(4, .str s12)] [] v_mixed ?_
    clear h13
    obtain rfl := Option.some.inj hm
    exact W.ret (EndsF.retW [] RO)

theorem opnd_Text_ok {p0 : T_api_Opd} {p1 : (List ByteArray)} {r : ByteArray} (hm : opnd_Text p0 p1 = some r) : PureF Tryd.prog 60 [.agg [.int .i64 p0.Kind, .int .i64 p0.Reg, .int .i64 p0.Sym, .int .i64 p0.N], .sl (p1.map eStr)] (.str r) := by
  rw [opnd_Text] at hm
  refine PureF.of Tryd.func60 rfl Tryd.ntmps60 (Nat.le_of_ble_eq_true rfl) ?_
  have e0 : argS 0 [.agg [.int .i64 p0.Kind, .int .i64 p0.Reg, .int .i64 p0.Sym, .int .i64 p0.N], .sl (p1.map eStr)] = [(0, .agg [.int .i64 p0.Kind, .int .i64 p0.Reg, .int .i64 p0.Sym, .int .i64 p0.N]), (1, .sl (p1.map eStr))] := rfl
  rw [e0]
  refine W.sq [] [(1, .sl (p1.map eStr)), (2, .ptr 0 0 0)] [.cells (e_api_Opd p0) 0 53] ?_
  replace hm := of_bind hm
  obtain ⟨v1, h2, hm⟩ := hm
  have kh2 := opnd_Of_ok h2
  try simp only [eI_opnd_Part_nil, eI_opnd_Part_RegPart, eI_opnd_Part_NumPart, eI_opnd_Part_AtPart, eI_opnd_Part_ByPart] at kh2
  refine W.sq [] [(1, .sl (p1.map eStr)), (5, eI_opnd_Part v1.1), (6, .bool v1.2)] [] ?_
  refine W.seq ?_
  refine W.sq [] [(1, .sl (p1.map eStr)), (5, eI_opnd_Part v1.1), (13, .bool (!v1.2))] [] ?_
  refine W.cnd (!v1.2) (fun hb3 => ?_) (fun hb3 => ?_)
  · replace hm := of_true hb3 hm
    refine W.sq [] [(4, .str (⟨#[]⟩ : ByteArray))] [] ?_
    obtain rfl := Option.some.inj hm
    exact W.ret (EndsF.retW [] RO)
  · replace hm := of_false hb3 hm
    refine W.skip ?_
    replace hm := of_let hm
    obtain ⟨z4, h5, hm⟩ := hm
    rw [← h5]
    clear h5
    cases z4 with
    | nil =>
      dsimp only at hm
      show WK _ _ _ _ _ [(1, .sl (p1.map eStr)), (5, .nili), (13, .bool (!v1.2))] []
      cases hm
    | RegPart x6 =>
      dsimp only at hm
      show WK _ _ _ _ _ [(1, .sl (p1.map eStr)), (5, .iface 145 (.agg [.int .i64 x6.Reg])), (13, .bool (!v1.2))] []
      replace hm := of_bind hm
      obtain ⟨v7, h8, hm⟩ := hm
      have kh8 := opnd_RegPart_Text_ok h8
      refine W.sq [] [(4, .str v7)] [] ?_
      obtain rfl := Option.some.inj hm
      exact W.ret (EndsF.retW [] RO)
    | NumPart x9 =>
      dsimp only at hm
      show WK _ _ _ _ _ [(1, .sl (p1.map eStr)), (5, .iface 147 (.agg [.int .i64 x9.N])), (13, .bool (!v1.2))] []
      replace hm := of_bind hm
      obtain ⟨v10, h11, hm⟩ := hm
      have kh11 := opnd_NumPart_Text_ok h11
      refine W.sq [] [(4, .str v10)] [] ?_
      obtain rfl := Option.some.inj hm
      exact W.ret (EndsF.retW [] RO)
    | AtPart x12 =>
      dsimp only at hm
      show WK _ _ _ _ _ [(1, .sl (p1.map eStr)), (5, .iface 149 (.agg [.int .i64 x12.Sym, .int .i64 x12.N])), (13, .bool (!v1.2))] []
      replace hm := of_bind hm
      obtain ⟨v13, h14, hm⟩ := hm
      have kh14 := opnd_AtPart_Text_ok h14
      refine W.sq [] [(4, .str v13)] [] ?_
      obtain rfl := Option.some.inj hm
      exact W.ret (EndsF.retW [] RO)
    | ByPart x15 =>
      dsimp only at hm
      show WK _ _ _ _ _ [(1, .sl (p1.map eStr)), (5, .iface 151 (.agg [.int .i64 x15.Sym, .int .i64 x15.Reg])), (13, .bool (!v1.2))] []
      replace hm := of_bind hm
      obtain ⟨v16, h17, hm⟩ := hm
      have kh17 := opnd_ByPart_Text_ok h17
      refine W.sq [] [(4, .str v16)] [] ?_
      obtain rfl := Option.some.inj hm
      exact W.ret (EndsF.retW [] RO)

theorem show_Ins_ok {p0 : T_api_Ins} {p1 : (List ByteArray)} {r : ByteArray} (hm : show_Ins p0 p1 = some r) : PureF Tryd.prog 29 [.agg [.int .i64 p0.Op, .bool p0.Lock, .int .i64 p0.Cond, .int .i64 p0.A.Kind, .int .i64 p0.A.Reg, .int .i64 p0.A.Sym, .int .i64 p0.A.N, .int .i64 p0.B.Kind, .int .i64 p0.B.Reg, .int .i64 p0.B.Sym, .int .i64 p0.B.N, .str p0.To, .sl (p0.Labels.map eStr)], .sl (p1.map eStr)] (.str r) := by
  rw [show_Ins] at hm
  refine PureF.of Tryd.func29 rfl Tryd.ntmps29 (Nat.le_of_ble_eq_true rfl) ?_
  have e0 : argS 0 [.agg [.int .i64 p0.Op, .bool p0.Lock, .int .i64 p0.Cond, .int .i64 p0.A.Kind, .int .i64 p0.A.Reg, .int .i64 p0.A.Sym, .int .i64 p0.A.N, .int .i64 p0.B.Kind, .int .i64 p0.B.Reg, .int .i64 p0.B.Sym, .int .i64 p0.B.N, .str p0.To, .sl (p0.Labels.map eStr)], .sl (p1.map eStr)] = [(0, .agg [.int .i64 p0.Op, .bool p0.Lock, .int .i64 p0.Cond, .int .i64 p0.A.Kind, .int .i64 p0.A.Reg, .int .i64 p0.A.Sym, .int .i64 p0.A.N, .int .i64 p0.B.Kind, .int .i64 p0.B.Reg, .int .i64 p0.B.Sym, .int .i64 p0.B.N, .str p0.To, .sl (p0.Labels.map eStr)]), (1, .sl (p1.map eStr))] := rfl
  rw [e0]
  refine W.sq [] [(1, .sl (p1.map eStr)), (2, .ptr 0 0 0)] [.cells (e_api_Ins p0) 0 55] ?_
  refine W.seq ?_
  replace hm := of_bind hm
  obtain ⟨v1, h2, hm⟩ := hm
  have kh2 := ins_Right_ok h2
  refine W.sq [] [(1, .sl (p1.map eStr)), (2, .ptr 0 0 0), (12, .bool (v1 != 0))] [.cells (e_api_Ins p0) 0 55] ?_
  refine W.cnd (v1 != 0) (fun hb3 => ?_) (fun hb3 => ?_)
  · replace hm := of_true hb3 hm
    refine W.sq [] [(4, .str (⟨#[]⟩ : ByteArray))] [] ?_
    obtain rfl := Option.some.inj hm
    exact W.ret (EndsF.retW [] RO)
  · replace hm := of_false hb3 hm
    refine W.skip ?_
    replace hm := of_bind hm
    obtain ⟨v4, h5, hm⟩ := hm
    have kh5 := names_OpText_ok h5
    try simp only [hb3] at kh5
    refine W.sq [] [(1, .sl (p1.map eStr)), (2, .ptr 0 0 0), (5, .str v4)] [.cells (e_api_Ins p0) 0 55] ?_
    refine W.cut (fun s h => ∃ (v : ByteArray) (w : Unit) (F : Gs), show_Ins_j1 p0 p1 v = some r ∧ AT 0 F [(1, .sl (p1.map eStr)), (2, .ptr 0 0 0), (5, .str v)] [.cells (e_api_Ins p0) 0 55] s h) ?_ ?_
    · refine W.sq [] [(1, .sl (p1.map eStr)), (2, .ptr 0 0 0), (5, .str v4), (19, .bool p0.Lock)] [.cells (e_api_Ins p0) 0 55] ?_
      refine W.cnd p0.Lock (fun hb29 => ?_) (fun hb29 => ?_)
      · replace hm := of_true hb29 hm
        replace hm := of_ite hm
        obtain ⟨h30, hm⟩ := hm
        refine W.rg [] [(1, .sl (p1.map eStr)), (2, .ptr 0 0 0), (5, .str ((⟨#[108, 111, 99, 107, 32]⟩ : ByteArray) ++ v4))] [.cells (e_api_Ins p0) 0 55] ?_
        exact ⟨((⟨#[108, 111, 99, 107, 32]⟩ : ByteArray) ++ v4), (), ⟨[], []⟩, hm, RO⟩
      · replace hm := of_false hb29 hm
        refine W.skip ?_
        exact ⟨v4, (), ⟨[], []⟩, hm, RO⟩
    · rintro s h ⟨s6, _, F, hm, hat⟩
      refine W.weak F hat ?_
      show WK _ _ _ _ _ [(1, .sl (p1.map eStr)), (2, .ptr 0 0 0), (5, .str s6)] [.cells (e_api_Ins p0) 0 55]
      rw [show_Ins_j1] at hm
      refine W.seq ?_
      replace hm := of_bind hm
      obtain ⟨v7, h8, hm⟩ := hm
      have kh8 := ins_Leads_ok h8
      try simp only [hb3] at kh8
      refine W.sq [] [(1, .sl (p1.map eStr)), (2, .ptr 0 0 0), (5, .str s6), (7, .bool v7.2)] [.cells (e_api_Ins p0) 0 55] ?_
      refine W.sq [] [(1, .sl (p1.map eStr)), (2, .ptr 0 0 0), (5, .str s6), (27, .bool v7.2)] [.cells (e_api_Ins p0) 0 55] ?_
      refine W.cnd v7.2 (fun hb9 => ?_) (fun hb9 => ?_)
      · replace hm := of_true hb9 hm
        replace hm := of_ite hm
        obtain ⟨h10, hm⟩ := hm
        replace hm := of_ite hm
        obtain ⟨h11, hm⟩ := hm
        refine W.sq [] [(4, .str ((s6 ++ (⟨#[32]⟩ : ByteArray)) ++ p0.To))] [] ?_
        obtain rfl := Option.some.inj hm
        exact W.ret (EndsF.retW [] RO)
      · replace hm := of_false hb9 hm
        refine W.skip ?_
        refine W.seq ?_
        refine W.sq [] [(1, .sl (p1.map eStr)), (2, .ptr 0 0 0), (5, .str s6), (36, .bool (p0.A.Kind == 0))] [.cells (e_api_Ins p0) 0 55] ?_
        refine W.cnd (p0.A.Kind == 0) (fun hb12 => ?_) (fun hb12 => ?_)
        · replace hm := of_true hb12 hm
          refine W.sq [] [(4, .str s6)] [] ?_
          obtain rfl := Option.some.inj hm
          exact W.ret (EndsF.retW [] RO)
        · replace hm := of_false hb12 hm
          refine W.skip ?_
          replace hm := of_bind hm
          obtain ⟨v13, h14, hm⟩ := hm
          replace hm := of_bind hm
          obtain ⟨v15, h16, hm⟩ := hm
          have kh14 := opnd_Text_ok h14
          try simp only [hb3, hb9, hb12] at kh14
          have kh16 := opnd_Text_ok h16
          try simp only [hb3, hb9, hb12] at kh16
          refine W.sqJ [] [] [] 0 [] [(1, .sl (p1.map eStr)), (2, .ptr 0 0 0), (5, .str s6), (8, .str v13), (9, .str v15)] [.cells (e_api_Ins p0) 0 55] v_mixed ?_
          refine W.seq ?_
          replace hm := of_bind hm
          obtain ⟨v17, h18, hm⟩ := hm
          replace hm := of_bind hm
          obtain ⟨v19, h20, hm⟩ := hm
          refine W.sq [] [(5, .str s6), (8, .str v13), (9, .str v15), (55, .bool (v17 || v19))] [] ?_ (hrun := ?_)
          rotate_left
          · try simp -implicitDefEqProofs -dsimp only [go_sem, ↓reduceIte, Nat.reduceAdd, Nat.reduceMul, Nat.reduceSub, Nat.reduceEqDiff, Nat.reduceLeDiff, Nat.reduceLT, Nat.reduceBEq, Int.reduceEq, reduceCtorEq, hb3, hb9, hb12]
            with_reducible refine exP.mk _ (callQ.plain (by simp -implicitDefEqProofs -dsimp only [go_sem, ↓reduceIte, Nat.reduceAdd, Nat.reduceMul, Nat.reduceSub, Nat.reduceEqDiff, Nat.reduceLeDiff, Nat.reduceLT, Nat.reduceBEq, Int.reduceEq, reduceCtorEq, hb3, hb9, hb12]) (by have hk := show_lacks_ok h18; (try simp only [hb3, hb9, hb12] at hk); (try simp only [List.map_cons, List.map_nil, eStr, eInt] at hk); exact hk)) ?_
            try simp -implicitDefEqProofs -dsimp only [go_sem, ↓reduceIte, Nat.reduceAdd, Nat.reduceMul, Nat.reduceSub, Nat.reduceEqDiff, Nat.reduceLeDiff, Nat.reduceLT, Nat.reduceBEq, Int.reduceEq, reduceCtorEq, hb3, hb9, hb12]
            refine onG_splitN (fun hg21 => ?_) (fun hg21 => ?_)
            · try simp only [Bool.not_not] at hg21
              try simp -implicitDefEqProofs -dsimp only [go_sem, ↓reduceIte, Nat.reduceAdd, Nat.reduceMul, Nat.reduceSub, Nat.reduceEqDiff, Nat.reduceLeDiff, Nat.reduceLT, Nat.reduceBEq, Int.reduceEq, reduceCtorEq, hb3, hb9, hb12, hg21]
              with_reducible refine exP.mk _ (callQ.plain (by simp -implicitDefEqProofs -dsimp only [go_sem, ↓reduceIte, Nat.reduceAdd, Nat.reduceMul, Nat.reduceSub, Nat.reduceEqDiff, Nat.reduceLeDiff, Nat.reduceLT, Nat.reduceBEq, Int.reduceEq, reduceCtorEq, hb3, hb9, hb12, hg21]) (by have hk := show_lacks_ok (of_true (by simp -implicitDefEqProofs -dsimp only [go_sem, ↓reduceIte, Nat.reduceAdd, Nat.reduceMul, Nat.reduceSub, Nat.reduceEqDiff, Nat.reduceLeDiff, Nat.reduceLT, Nat.reduceBEq, Int.reduceEq, reduceCtorEq, hb3, hb9, hb12, hg21]) h20); (try simp only [hb3, hb9, hb12] at hk); (try simp only [List.map_cons, List.map_nil, eStr, eInt] at hk); exact hk)) ?_
              try simp -implicitDefEqProofs -dsimp only [go_sem, ↓reduceIte, Nat.reduceAdd, Nat.reduceMul, Nat.reduceSub, Nat.reduceEqDiff, Nat.reduceLeDiff, Nat.reduceLT, Nat.reduceBEq, Int.reduceEq, reduceCtorEq, hb3, hb9, hb12, hg21]
            · try simp only [Bool.not_not] at hg21
              try simp -implicitDefEqProofs -dsimp only [go_sem, ↓reduceIte, Nat.reduceAdd, Nat.reduceMul, Nat.reduceSub, Nat.reduceEqDiff, Nat.reduceLeDiff, Nat.reduceLT, Nat.reduceBEq, Int.reduceEq, reduceCtorEq, hb3, hb9, hb12, hg21]
          refine W.cnd (v17 || v19) (fun hb22 => ?_) (fun hb22 => ?_)
          · replace hm := of_true hb22 hm
            refine W.sq [] [(4, .str (⟨#[]⟩ : ByteArray))] [] ?_
            obtain rfl := Option.some.inj hm
            exact W.ret (EndsF.retW [] RO)
          · replace hm := of_false hb22 hm
            refine W.skip ?_
            replace hm := of_ite hm
            obtain ⟨h23, hm⟩ := hm
            replace hm := of_ite hm
            obtain ⟨h24, hm⟩ := hm
            replace hm := of_ite hm
            obtain ⟨h25, hm⟩ := hm
            replace hm := of_ite hm
            obtain ⟨h26, hm⟩ := hm
            replace hm := of_let hm
            obtain ⟨s27, h28, hm⟩ := hm
            refine W.sq [] [(4, .str s27)] [] ?_
            clear h28
            obtain rfl := Option.some.inj hm
            exact W.ret (EndsF.retW [] RO)


end Go.Proofs.YtocjejladeeckaaDoor
