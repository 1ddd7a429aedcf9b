import Derived.Test.YtpojlconoflneaaVFacts
import Derived.Test.YtpojlconoflneaaPalC
import Derived.Test.YtpojlconoflneaaWA
import Derived.Test.YtpojlconoflneaaWB
import Derived.Test.YtpojlconoflneaaWPanics
set_option maxRecDepth 100000
set_option maxHeartbeats 4000000
set_option linter.unusedSimpArgs false
set_option linter.unusedVariables false
set_option linter.unusedSectionVars false
namespace Go.Proofs.Ytpojlconoflneaa
open Go.Vs
variable [Tab]
theorem palinglaw6_OpndPanics_ok {p0 : Int} {p1 : Int} {p2 : Int} {r : Bool} (hm : palinglaw6_OpndPanics p0 p1 p2 = some r) : PureF Try.prog 3 [.int .i64 p0, .int .i64 p1, .int .i64 p2] (.bool r) := by
  rw [palinglaw6_OpndPanics] at hm
  refine PureF.of Try.func3 rfl Try.ntmps3 (Nat.le_of_ble_eq_true rfl) ?_
  have e0 : argS 0 [.int .i64 p0, .int .i64 p1, .int .i64 p2] = [(0, .int .i64 p0), (1, .int .i64 p1), (2, .int .i64 p2)] := rfl
  rw [e0]
  refine W.sq [] [(0, .int .i64 p0), (1, .int .i64 p1), (2, .int .i64 p2)] [] ?_
  replace hm := of_bind hm
  obtain ⟨v1, h2, hm⟩ := hm
  have kh2 := palingbook_Pick_ok h2
  refine W.sq [] [(0, .int .i64 v1), (1, .int .i64 p1), (2, .int .i64 p2)] [] ?_
  replace hm := of_bind hm
  obtain ⟨v3, h4, hm⟩ := hm
  replace hm := of_bind hm
  obtain ⟨v5, h6, hm⟩ := hm
  replace hm := of_bind hm
  obtain ⟨v7, h8, hm⟩ := hm
  replace hm := of_bind hm
  obtain ⟨v9, h10, hm⟩ := hm
  replace hm := of_bind hm
  obtain ⟨v11, h12, hm⟩ := hm
  replace hm := of_bind hm
  obtain ⟨v13, h14, hm⟩ := hm
  refine W.sq [] [(6, .bool (((((v3 && v5) && v7) && v9) && (v11 == v1)) && v13))] [] ?_ (hrun := ?_)
  rotate_left
  · try simp -implicitDefEqProofs -dsimp only [go_sem, ↓reduceIte, Nat.reduceAdd, Nat.reduceMul, Nat.reduceSub, Nat.reduceEqDiff, Nat.reduceLeDiff, Nat.reduceLT, Nat.reduceBEq, Int.reduceEq, reduceCtorEq]
    with_reducible refine exP.mk _ (callQ.plain (by simp -implicitDefEqProofs -dsimp only [go_sem, ↓reduceIte, Nat.reduceAdd, Nat.reduceMul, Nat.reduceSub, Nat.reduceEqDiff, Nat.reduceLeDiff, Nat.reduceLT, Nat.reduceBEq, Int.reduceEq, reduceCtorEq]) (by have hk := palinglaw6_panics_ok h4; (try simp only [eI_opnd_Part_AtPart, eI_opnd_Part_ByPart, eI_opnd_Part_NumPart, eI_opnd_Part_RegPart, eI_opnd_Part_nil] at hk); (try simp only [Nat.add_zero] at hk); (try simp only [List.map_cons, List.map_nil, eStr, eInt] at hk); exact hk)) ?_
    try simp -implicitDefEqProofs -dsimp only [go_sem, ↓reduceIte, Nat.reduceAdd, Nat.reduceMul, Nat.reduceSub, Nat.reduceEqDiff, Nat.reduceLeDiff, Nat.reduceLT, Nat.reduceBEq, Int.reduceEq, reduceCtorEq]
    refine onG_split (fun hg15 => ?_) (fun hg15 => ?_)
    · try simp -implicitDefEqProofs -dsimp only [go_sem, ↓reduceIte, Nat.reduceAdd, Nat.reduceMul, Nat.reduceSub, Nat.reduceEqDiff, Nat.reduceLeDiff, Nat.reduceLT, Nat.reduceBEq, Int.reduceEq, reduceCtorEq, hg15]
      with_reducible refine exP.mk _ (callQ.plain (by simp -implicitDefEqProofs -dsimp only [go_sem, ↓reduceIte, Nat.reduceAdd, Nat.reduceMul, Nat.reduceSub, Nat.reduceEqDiff, Nat.reduceLeDiff, Nat.reduceLT, Nat.reduceBEq, Int.reduceEq, reduceCtorEq, hg15]) (by have hk := palinglaw6_panics_ok (of_true (by simp -implicitDefEqProofs -dsimp only [go_sem, ↓reduceIte, Nat.reduceAdd, Nat.reduceMul, Nat.reduceSub, Nat.reduceEqDiff, Nat.reduceLeDiff, Nat.reduceLT, Nat.reduceBEq, Int.reduceEq, reduceCtorEq, hg15]) h6); (try simp only [eI_opnd_Part_AtPart, eI_opnd_Part_ByPart, eI_opnd_Part_NumPart, eI_opnd_Part_RegPart, eI_opnd_Part_nil] at hk); (try simp only [Nat.add_zero] at hk); (try simp only [List.map_cons, List.map_nil, eStr, eInt] at hk); exact hk)) ?_
      try simp -implicitDefEqProofs -dsimp only [go_sem, ↓reduceIte, Nat.reduceAdd, Nat.reduceMul, Nat.reduceSub, Nat.reduceEqDiff, Nat.reduceLeDiff, Nat.reduceLT, Nat.reduceBEq, Int.reduceEq, reduceCtorEq, hg15]
      refine onG_split (fun hg16 => ?_) (fun hg16 => ?_)
      · try simp -implicitDefEqProofs -dsimp only [go_sem, ↓reduceIte, Nat.reduceAdd, Nat.reduceMul, Nat.reduceSub, Nat.reduceEqDiff, Nat.reduceLeDiff, Nat.reduceLT, Nat.reduceBEq, Int.reduceEq, reduceCtorEq, hg15, hg16]
        with_reducible refine exP.mk _ (callQ.plain (by simp -implicitDefEqProofs -dsimp only [go_sem, ↓reduceIte, Nat.reduceAdd, Nat.reduceMul, Nat.reduceSub, Nat.reduceEqDiff, Nat.reduceLeDiff, Nat.reduceLT, Nat.reduceBEq, Int.reduceEq, reduceCtorEq, hg15, hg16]) (by have hk := palinglaw6_panics_ok (of_true (by simp -implicitDefEqProofs -dsimp only [go_sem, ↓reduceIte, Nat.reduceAdd, Nat.reduceMul, Nat.reduceSub, Nat.reduceEqDiff, Nat.reduceLeDiff, Nat.reduceLT, Nat.reduceBEq, Int.reduceEq, reduceCtorEq, hg15, hg16]) h8); (try simp only [eI_opnd_Part_AtPart, eI_opnd_Part_ByPart, eI_opnd_Part_NumPart, eI_opnd_Part_RegPart, eI_opnd_Part_nil] at hk); (try simp only [Nat.add_zero] at hk); (try simp only [List.map_cons, List.map_nil, eStr, eInt] at hk); exact hk)) ?_
        try simp -implicitDefEqProofs -dsimp only [go_sem, ↓reduceIte, Nat.reduceAdd, Nat.reduceMul, Nat.reduceSub, Nat.reduceEqDiff, Nat.reduceLeDiff, Nat.reduceLT, Nat.reduceBEq, Int.reduceEq, reduceCtorEq, hg15, hg16]
        refine onG_split (fun hg17 => ?_) (fun hg17 => ?_)
        · try simp -implicitDefEqProofs -dsimp only [go_sem, ↓reduceIte, Nat.reduceAdd, Nat.reduceMul, Nat.reduceSub, Nat.reduceEqDiff, Nat.reduceLeDiff, Nat.reduceLT, Nat.reduceBEq, Int.reduceEq, reduceCtorEq, hg15, hg16, hg17]
          with_reducible refine exP.mk _ (callQ.plain (by simp -implicitDefEqProofs -dsimp only [go_sem, ↓reduceIte, Nat.reduceAdd, Nat.reduceMul, Nat.reduceSub, Nat.reduceEqDiff, Nat.reduceLeDiff, Nat.reduceLT, Nat.reduceBEq, Int.reduceEq, reduceCtorEq, hg15, hg16, hg17]) (by have hk := palinglaw6_panics_ok (of_true (by simp -implicitDefEqProofs -dsimp only [go_sem, ↓reduceIte, Nat.reduceAdd, Nat.reduceMul, Nat.reduceSub, Nat.reduceEqDiff, Nat.reduceLeDiff, Nat.reduceLT, Nat.reduceBEq, Int.reduceEq, reduceCtorEq, hg15, hg16, hg17]) h10); (try simp only [eI_opnd_Part_AtPart, eI_opnd_Part_ByPart, eI_opnd_Part_NumPart, eI_opnd_Part_RegPart, eI_opnd_Part_nil] at hk); (try simp only [Nat.add_zero] at hk); (try simp only [List.map_cons, List.map_nil, eStr, eInt] at hk); exact hk)) ?_
          try simp -implicitDefEqProofs -dsimp only [go_sem, ↓reduceIte, Nat.reduceAdd, Nat.reduceMul, Nat.reduceSub, Nat.reduceEqDiff, Nat.reduceLeDiff, Nat.reduceLT, Nat.reduceBEq, Int.reduceEq, reduceCtorEq, hg15, hg16, hg17]
          refine onG_split (fun hg18 => ?_) (fun hg18 => ?_)
          · try simp -implicitDefEqProofs -dsimp only [go_sem, ↓reduceIte, Nat.reduceAdd, Nat.reduceMul, Nat.reduceSub, Nat.reduceEqDiff, Nat.reduceLeDiff, Nat.reduceLT, Nat.reduceBEq, Int.reduceEq, reduceCtorEq, hg15, hg16, hg17, hg18]
            with_reducible refine exP.mk _ (callQ.plain (by simp -implicitDefEqProofs -dsimp only [go_sem, ↓reduceIte, Nat.reduceAdd, Nat.reduceMul, Nat.reduceSub, Nat.reduceEqDiff, Nat.reduceLeDiff, Nat.reduceLT, Nat.reduceBEq, Int.reduceEq, reduceCtorEq, hg15, hg16, hg17, hg18]) (by have hk := opnd_Reg_ok (of_true (by simp -implicitDefEqProofs -dsimp only [go_sem, ↓reduceIte, Nat.reduceAdd, Nat.reduceMul, Nat.reduceSub, Nat.reduceEqDiff, Nat.reduceLeDiff, Nat.reduceLT, Nat.reduceBEq, Int.reduceEq, reduceCtorEq, hg15, hg16, hg17, hg18]) h12); (try simp only [eI_opnd_Part_AtPart, eI_opnd_Part_ByPart, eI_opnd_Part_NumPart, eI_opnd_Part_RegPart, eI_opnd_Part_nil] at hk); (try simp only [Nat.add_zero] at hk); (try simp only [List.map_cons, List.map_nil, eStr, eInt] at hk); exact hk)) ?_
            try simp -implicitDefEqProofs -dsimp only [go_sem, ↓reduceIte, Nat.reduceAdd, Nat.reduceMul, Nat.reduceSub, Nat.reduceEqDiff, Nat.reduceLeDiff, Nat.reduceLT, Nat.reduceBEq, Int.reduceEq, reduceCtorEq, hg15, hg16, hg17, hg18]
            refine onG_split (fun hg19 => ?_) (fun hg19 => ?_)
            · try simp -implicitDefEqProofs -dsimp only [go_sem, ↓reduceIte, Nat.reduceAdd, Nat.reduceMul, Nat.reduceSub, Nat.reduceEqDiff, Nat.reduceLeDiff, Nat.reduceLT, Nat.reduceBEq, Int.reduceEq, reduceCtorEq, hg15, hg16, hg17, hg18, hg19]
              with_reducible refine exP.mk _ (callQ.plain (by simp -implicitDefEqProofs -dsimp only [go_sem, ↓reduceIte, Nat.reduceAdd, Nat.reduceMul, Nat.reduceSub, Nat.reduceEqDiff, Nat.reduceLeDiff, Nat.reduceLT, Nat.reduceBEq, Int.reduceEq, reduceCtorEq, hg15, hg16, hg17, hg18, hg19]) (palinglaw6_alive_ok (of_true (by simp -implicitDefEqProofs -dsimp only [go_sem, ↓reduceIte, Nat.reduceAdd, Nat.reduceMul, Nat.reduceSub, Nat.reduceEqDiff, Nat.reduceLeDiff, Nat.reduceLT, Nat.reduceBEq, Int.reduceEq, reduceCtorEq, hg15, hg16, hg17, hg18, hg19]) h14))) ?_
              try simp -implicitDefEqProofs -dsimp only [go_sem, ↓reduceIte, Nat.reduceAdd, Nat.reduceMul, Nat.reduceSub, Nat.reduceEqDiff, Nat.reduceLeDiff, Nat.reduceLT, Nat.reduceBEq, Int.reduceEq, reduceCtorEq, hg15, hg16, hg17, hg18, hg19]
            · try simp -implicitDefEqProofs -dsimp only [go_sem, ↓reduceIte, Nat.reduceAdd, Nat.reduceMul, Nat.reduceSub, Nat.reduceEqDiff, Nat.reduceLeDiff, Nat.reduceLT, Nat.reduceBEq, Int.reduceEq, reduceCtorEq, hg15, hg16, hg17, hg18, hg19]
          · try simp -implicitDefEqProofs -dsimp only [go_sem, ↓reduceIte, Nat.reduceAdd, Nat.reduceMul, Nat.reduceSub, Nat.reduceEqDiff, Nat.reduceLeDiff, Nat.reduceLT, Nat.reduceBEq, Int.reduceEq, reduceCtorEq, hg15, hg16, hg17, hg18]
        · try simp -implicitDefEqProofs -dsimp only [go_sem, ↓reduceIte, Nat.reduceAdd, Nat.reduceMul, Nat.reduceSub, Nat.reduceEqDiff, Nat.reduceLeDiff, Nat.reduceLT, Nat.reduceBEq, Int.reduceEq, reduceCtorEq, hg15, hg16, hg17]
      · try simp -implicitDefEqProofs -dsimp only [go_sem, ↓reduceIte, Nat.reduceAdd, Nat.reduceMul, Nat.reduceSub, Nat.reduceEqDiff, Nat.reduceLeDiff, Nat.reduceLT, Nat.reduceBEq, Int.reduceEq, reduceCtorEq, hg15, hg16]
    · try simp -implicitDefEqProofs -dsimp only [go_sem, ↓reduceIte, Nat.reduceAdd, Nat.reduceMul, Nat.reduceSub, Nat.reduceEqDiff, Nat.reduceLeDiff, Nat.reduceLT, Nat.reduceBEq, Int.reduceEq, reduceCtorEq, hg15]
  obtain rfl := Option.some.inj hm
  exact W.ret (EndsF.retW [] RO)


end Go.Proofs.Ytpojlconoflneaa
