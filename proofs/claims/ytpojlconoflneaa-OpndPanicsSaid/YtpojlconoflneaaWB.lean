import Derived.Test.YtpojlconoflneaaVFacts
import Derived.Test.YtpojlconoflneaaPalB
import Derived.Test.YtpojlconoflneaaWA
set_option maxRecDepth 100000
set_option maxHeartbeats 4000000
set_option linter.unusedSimpArgs false
set_option linter.unusedVariables false
set_option linter.unusedSectionVars false
namespace Go.Proofs.Ytpojlconoflneaa
open Go.Vs
variable [Tab]
theorem opnd_Text_ok {p0 : T_api_Opd} {p1 : (List ByteArray)} {r : ByteArray} (hm : opnd_Text p0 p1 = some r) : PureF Try.prog 10 [.agg [.int .i64 p0.Kind, .int .i64 p0.Reg, .int .i64 p0.Sym, .int .i64 p0.N], .sl (p1.map eStr)] (.str r) := by
  rw [opnd_Text] at hm
  refine PureF.of Try.func10 rfl Try.ntmps10 (Nat.le_of_ble_eq_true rfl) ?_
  have e0 : argS 0 [.agg [.int .i64 p0.Kind, .int .i64 p0.Reg, .int .i64 p0.Sym, .int .i64 p0.N], .sl (p1.map eStr)] = [(0, .agg [.int .i64 p0.Kind, .int .i64 p0.Reg, .int .i64 p0.Sym, .int .i64 p0.N]), (1, .sl (p1.map eStr))] := rfl
  rw [e0]
  refine W.sq [] [(1, .sl (p1.map eStr)), (2, .ptr 0 0 0)] [.cells (e_api_Opd p0) 0 41] ?_
  replace hm := of_bind hm
  obtain ⟨v1, h2, hm⟩ := hm
  have kh2 := opnd_Of_ok h2
  try simp only [eI_opnd_Part_nil, eI_opnd_Part_NumPart, eI_opnd_Part_AtPart, eI_opnd_Part_ByPart, eI_opnd_Part_RegPart] at kh2
  refine W.sq [] [(1, .sl (p1.map eStr)), (5, eI_opnd_Part v1.1), (6, .bool v1.2)] [] ?_
  refine W.seq ?_
  refine W.sq [] [(1, .sl (p1.map eStr)), (5, eI_opnd_Part v1.1), (13, .bool (!v1.2))] [] ?_
  refine W.cnd (!v1.2) (fun hb3 => ?_) (fun hb3 => ?_)
  · replace hm := of_true hb3 hm
    refine W.sq [] [(4, .str (⟨#[]⟩ : ByteArray))] [] ?_
    obtain rfl := Option.some.inj hm
    exact W.ret (EndsF.retW [] RO)
  · replace hm := of_false hb3 hm
    refine W.skip ?_
    replace hm := of_let hm
    obtain ⟨z4, h5, hm⟩ := hm
    rw [← h5]
    clear h5
    cases z4 with
    | nil =>
      dsimp only at hm
      show WK _ _ _ _ _ [(1, .sl (p1.map eStr)), (5, .nili), (13, .bool (!v1.2))] []
      cases hm
    | NumPart x6 =>
      dsimp only at hm
      show WK _ _ _ _ _ [(1, .sl (p1.map eStr)), (5, .iface 25 (.agg [.int .i64 x6.N])), (13, .bool (!v1.2))] []
      cases hm
    | AtPart x7 =>
      dsimp only at hm
      show WK _ _ _ _ _ [(1, .sl (p1.map eStr)), (5, .iface 27 (.agg [.int .i64 x7.Sym, .int .i64 x7.N])), (13, .bool (!v1.2))] []
      cases hm
    | ByPart x8 =>
      dsimp only at hm
      show WK _ _ _ _ _ [(1, .sl (p1.map eStr)), (5, .iface 29 (.agg [.int .i64 x8.Sym, .int .i64 x8.Reg])), (13, .bool (!v1.2))] []
      replace hm := of_bind hm
      obtain ⟨v9, h10, hm⟩ := hm
      have kh10 := opnd_ByPart_Text_ok h10
      refine W.sq [] [(4, .str v9)] [] ?_
      obtain rfl := Option.some.inj hm
      exact W.ret (EndsF.retW [] RO)
    | RegPart x11 =>
      dsimp only at hm
      show WK _ _ _ _ _ [(1, .sl (p1.map eStr)), (5, .iface 32 (.agg [.int .i64 x11.Reg])), (13, .bool (!v1.2))] []
      cases hm

theorem palinglaw6_alive_ok {r : Bool} (hm : palinglaw6_alive  = some r) : PureF Try.prog 7 [] (.bool r) := by
  rw [palinglaw6_alive] at hm
  refine PureF.of Try.func7 rfl Try.ntmps7 (Nat.le_of_ble_eq_true rfl) ?_
  have e0 : argS 0 [] = [] := rfl
  rw [e0]
  refine W.sq [] [] [] ?_
  replace hm := of_bind hm
  obtain ⟨v1, h2, hm⟩ := hm
  have kh2 := opnd_Memory_ok h2
  try simp only [eI_opnd_Part_nil, eI_opnd_Part_NumPart, eI_opnd_Part_AtPart, eI_opnd_Part_ByPart, eI_opnd_Part_RegPart] at kh2
  refine W.sq [] [(1, .int .i64 v1.1), (2, .bool v1.2)] [] ?_
  replace hm := of_bind hm
  obtain ⟨v3, h4, hm⟩ := hm
  have kh4 := opnd_Memory_ok h4
  try simp only [eI_opnd_Part_nil, eI_opnd_Part_NumPart, eI_opnd_Part_AtPart, eI_opnd_Part_ByPart, eI_opnd_Part_RegPart] at kh4
  refine W.sq [] [(1, .int .i64 v1.1), (2, .bool v1.2), (4, .bool v3.2)] [] ?_
  replace hm := of_bind hm
  obtain ⟨v5, h6, hm⟩ := hm
  replace hm := of_bind hm
  obtain ⟨v7, h8, hm⟩ := hm
  replace hm := of_bind hm
  obtain ⟨v9, h10, hm⟩ := hm
  replace hm := of_let hm
  obtain ⟨b11, h12, hm⟩ := hm
  have kh6 := fun hg => opnd_Reg_ok (of_true hg h6)
  try simp only [eI_opnd_Part_nil, eI_opnd_Part_NumPart, eI_opnd_Part_AtPart, eI_opnd_Part_ByPart, eI_opnd_Part_RegPart] at kh6
  have kh8 := fun hg => opnd_Text_ok (of_true hg h8)
  try simp only [List.map_cons, List.map_nil, eStr, eInt] at kh8
  have kh10 := fun hg => opnd_Right_ok (of_true hg h10)
  refine W.sq [] [(0, .bool b11)] [] ?_
  clear h12
  obtain rfl := Option.some.inj hm
  exact W.ret (EndsF.retW [] RO)


end Go.Proofs.Ytpojlconoflneaa
