import Derived.Test.YtmilckfhlldboaaDoorVFacts
import Derived.Test.YtmilckfhlldboaaDoorPalN
import Derived.Test.YtmilckfhlldboaaDoorWA
import Derived.Test.YtmilckfhlldboaaDoorWB
import Derived.Test.YtmilckfhlldboaaDoorWNum
set_option maxRecDepth 100000
set_option linter.unusedSimpArgs false
set_option linter.unusedVariables false
set_option linter.unusedSectionVars false
namespace Go.Proofs.YtmilckfhlldboaaDoor
open Go.Vs
variable [TabE]
theorem palinglaw2_alive_ok {r : Bool} (hm : palinglaw2_alive  = some r) : PureF Tryd.prog 28 [] (.bool r) := by
  rw [palinglaw2_alive] at hm
  refine PureF.of Tryd.func28 rfl Tryd.ntmps28 (Nat.le_of_ble_eq_true rfl) ?_
  have e0 : argS 0 [] = [] := rfl
  rw [e0]
  refine W.seqR [] [] [] (by rfl) ?_ ?_
  · try simp -implicitDefEqProofs -dsimp only [go_sem, ↓reduceIte, Nat.reduceAdd, Nat.reduceMul, Nat.reduceSub, Nat.reduceEqDiff, Nat.reduceLeDiff, Nat.reduceLT, Nat.reduceBEq, Int.reduceEq, reduceCtorEq]
  obtain ⟨v1, h2, hm⟩ := of_bind hm
  refine W.seqR [] [(1, .int .i64 v1.1), (2, .bool v1.2)] [] (by rfl) ?_ ?_
  · try simp -implicitDefEqProofs -dsimp only [go_sem, ↓reduceIte, Nat.reduceAdd, Nat.reduceMul, Nat.reduceSub, Nat.reduceEqDiff, Nat.reduceLeDiff, Nat.reduceLT, Nat.reduceBEq, Int.reduceEq, reduceCtorEq]
    with_reducible refine exP.mk _ (callP.plain (by simp -implicitDefEqProofs -dsimp only [go_sem, ↓reduceIte, Nat.reduceAdd, Nat.reduceMul, Nat.reduceSub, Nat.reduceEqDiff, Nat.reduceLeDiff, Nat.reduceLT, Nat.reduceBEq, Int.reduceEq, reduceCtorEq]) (num_Read_ok h2)) ?_
    try simp -implicitDefEqProofs -dsimp only [go_sem, ↓reduceIte, Nat.reduceAdd, Nat.reduceMul, Nat.reduceSub, Nat.reduceEqDiff, Nat.reduceLeDiff, Nat.reduceLT, Nat.reduceBEq, Int.reduceEq, reduceCtorEq]
  obtain ⟨v3, h4, hm⟩ := of_bind hm
  refine W.seqR [] [(1, .int .i64 v1.1), (2, .bool v1.2), (4, .bool v3.2)] [] (by rfl) ?_ ?_
  · try simp -implicitDefEqProofs -dsimp only [go_sem, ↓reduceIte, Nat.reduceAdd, Nat.reduceMul, Nat.reduceSub, Nat.reduceEqDiff, Nat.reduceLeDiff, Nat.reduceLT, Nat.reduceBEq, Int.reduceEq, reduceCtorEq]
    with_reducible refine exP.mk _ (callP.plain (by simp -implicitDefEqProofs -dsimp only [go_sem, ↓reduceIte, Nat.reduceAdd, Nat.reduceMul, Nat.reduceSub, Nat.reduceEqDiff, Nat.reduceLeDiff, Nat.reduceLT, Nat.reduceBEq, Int.reduceEq, reduceCtorEq]) (num_Read_ok h4)) ?_
    try simp -implicitDefEqProofs -dsimp only [go_sem, ↓reduceIte, Nat.reduceAdd, Nat.reduceMul, Nat.reduceSub, Nat.reduceEqDiff, Nat.reduceLeDiff, Nat.reduceLT, Nat.reduceBEq, Int.reduceEq, reduceCtorEq]
  obtain ⟨v5, h6, hm⟩ := of_bind hm
  refine W.seqR [] [(0, .bool (((decide (v5 = (⟨#[45, 49, 50]⟩ : ByteArray)) && (v1.1 == (-12))) && v1.2) && (!v3.2)))] [] (by rfl) ?_ ?_
  · try simp -implicitDefEqProofs -dsimp only [go_sem, ↓reduceIte, Nat.reduceAdd, Nat.reduceMul, Nat.reduceSub, Nat.reduceEqDiff, Nat.reduceLeDiff, Nat.reduceLT, Nat.reduceBEq, Int.reduceEq, reduceCtorEq]
    with_reducible refine exP.mk _ (callP.plain (by simp -implicitDefEqProofs -dsimp only [go_sem, ↓reduceIte, Nat.reduceAdd, Nat.reduceMul, Nat.reduceSub, Nat.reduceEqDiff, Nat.reduceLeDiff, Nat.reduceLT, Nat.reduceBEq, Int.reduceEq, reduceCtorEq]) (num_Text_ok h6)) ?_
    try simp -implicitDefEqProofs -dsimp only [go_sem, ↓reduceIte, Nat.reduceAdd, Nat.reduceMul, Nat.reduceSub, Nat.reduceEqDiff, Nat.reduceLeDiff, Nat.reduceLT, Nat.reduceBEq, Int.reduceEq, reduceCtorEq]
    refine onG_split (fun hg7 => ?_) (fun hg7 => ?_)
    · try simp -implicitDefEqProofs -dsimp only [go_sem, ↓reduceIte, Nat.reduceAdd, Nat.reduceMul, Nat.reduceSub, Nat.reduceEqDiff, Nat.reduceLeDiff, Nat.reduceLT, Nat.reduceBEq, Int.reduceEq, reduceCtorEq, hg7]
      refine onG_split (fun hg8 => ?_) (fun hg8 => ?_)
      · try simp -implicitDefEqProofs -dsimp only [go_sem, ↓reduceIte, Nat.reduceAdd, Nat.reduceMul, Nat.reduceSub, Nat.reduceEqDiff, Nat.reduceLeDiff, Nat.reduceLT, Nat.reduceBEq, Int.reduceEq, reduceCtorEq, hg7, hg8]
        refine onG_split (fun hg9 => ?_) (fun hg9 => ?_)
        · try simp -implicitDefEqProofs -dsimp only [go_sem, ↓reduceIte, Nat.reduceAdd, Nat.reduceMul, Nat.reduceSub, Nat.reduceEqDiff, Nat.reduceLeDiff, Nat.reduceLT, Nat.reduceBEq, Int.reduceEq, reduceCtorEq, hg7, hg8, hg9]
        · try simp -implicitDefEqProofs -dsimp only [go_sem, ↓reduceIte, Nat.reduceAdd, Nat.reduceMul, Nat.reduceSub, Nat.reduceEqDiff, Nat.reduceLeDiff, Nat.reduceLT, Nat.reduceBEq, Int.reduceEq, reduceCtorEq, hg7, hg8, hg9]
      · try simp -implicitDefEqProofs -dsimp only [go_sem, ↓reduceIte, Nat.reduceAdd, Nat.reduceMul, Nat.reduceSub, Nat.reduceEqDiff, Nat.reduceLeDiff, Nat.reduceLT, Nat.reduceBEq, Int.reduceEq, reduceCtorEq, hg7, hg8]
    · try simp -implicitDefEqProofs -dsimp only [go_sem, ↓reduceIte, Nat.reduceAdd, Nat.reduceMul, Nat.reduceSub, Nat.reduceEqDiff, Nat.reduceLeDiff, Nat.reduceLT, Nat.reduceBEq, Int.reduceEq, reduceCtorEq, hg7]
  obtain rfl := Option.some.inj hm
  refine W.ret ?_
  try simp only [thenQ_normal, thenQ_exit, thenQ_ret, blockQ_normal, blockQ_here, blockQ_ret, blockQ_exit, ↓reduceIte, Nat.reduceEqDiff]
  refine EndsF.retW [] ?_
  simp -implicitDefEqProofs -dsimp only [go_sem, ↓reduceIte, Nat.reduceAdd, Nat.reduceMul, Nat.reduceSub, Nat.reduceEqDiff, Nat.reduceLeDiff, Nat.reduceLT, Nat.reduceBEq, Int.reduceEq, reduceCtorEq]

theorem palinglaw2_NumTells_ok {p0 : Int} {p1 : ByteArray} {r : Bool} (hm : palinglaw2_NumTells p0 p1 = some r) : PureF Tryd.prog 7 [.int .i64 p0, .str p1] (.bool r) := by
  rw [palinglaw2_NumTells] at hm
  refine PureF.of Tryd.func7 rfl Tryd.ntmps7 (Nat.le_of_ble_eq_true rfl) ?_
  have e0 : argS 0 [.int .i64 p0, .str p1] = [(0, .int .i64 p0), (1, .str p1)] := rfl
  rw [e0]
  refine W.seqR [] [(0, .int .i64 p0), (1, .str p1)] [] (by rfl) ?_ ?_
  · try simp -implicitDefEqProofs -dsimp only [go_sem, ↓reduceIte, Nat.reduceAdd, Nat.reduceMul, Nat.reduceSub, Nat.reduceEqDiff, Nat.reduceLeDiff, Nat.reduceLT, Nat.reduceBEq, Int.reduceEq, reduceCtorEq]
  obtain ⟨v1, h2, hm⟩ := of_bind hm
  refine W.seqR [] [(0, .int .i64 p0), (1, .str v1)] [] (by rfl) ?_ ?_
  · try simp -implicitDefEqProofs -dsimp only [go_sem, ↓reduceIte, Nat.reduceAdd, Nat.reduceMul, Nat.reduceSub, Nat.reduceEqDiff, Nat.reduceLeDiff, Nat.reduceLT, Nat.reduceBEq, Int.reduceEq, reduceCtorEq]
    with_reducible refine exP.mk _ (callP.plain (by simp -implicitDefEqProofs -dsimp only [go_sem, ↓reduceIte, Nat.reduceAdd, Nat.reduceMul, Nat.reduceSub, Nat.reduceEqDiff, Nat.reduceLeDiff, Nat.reduceLT, Nat.reduceBEq, Int.reduceEq, reduceCtorEq]) (palingbook_Short_ok h2)) ?_
    try simp -implicitDefEqProofs -dsimp only [go_sem, ↓reduceIte, Nat.reduceAdd, Nat.reduceMul, Nat.reduceSub, Nat.reduceEqDiff, Nat.reduceLeDiff, Nat.reduceLT, Nat.reduceBEq, Int.reduceEq, reduceCtorEq]
  obtain ⟨v3, h4, hm⟩ := of_bind hm
  refine W.seqR [] [(0, .int .i64 p0), (1, .str v1), (5, .int .i64 v3.1), (6, .bool v3.2)] [] (by rfl) ?_ ?_
  · try simp -implicitDefEqProofs -dsimp only [go_sem, ↓reduceIte, Nat.reduceAdd, Nat.reduceMul, Nat.reduceSub, Nat.reduceEqDiff, Nat.reduceLeDiff, Nat.reduceLT, Nat.reduceBEq, Int.reduceEq, reduceCtorEq]
    with_reducible refine exP.mk _ (callP.plain (by simp -implicitDefEqProofs -dsimp only [go_sem, ↓reduceIte, Nat.reduceAdd, Nat.reduceMul, Nat.reduceSub, Nat.reduceEqDiff, Nat.reduceLeDiff, Nat.reduceLT, Nat.reduceBEq, Int.reduceEq, reduceCtorEq]) (num_Read_ok h4)) ?_
    try simp -implicitDefEqProofs -dsimp only [go_sem, ↓reduceIte, Nat.reduceAdd, Nat.reduceMul, Nat.reduceSub, Nat.reduceEqDiff, Nat.reduceLeDiff, Nat.reduceLT, Nat.reduceBEq, Int.reduceEq, reduceCtorEq]
  obtain ⟨v5, h6, hm⟩ := of_bind hm
  refine W.seqR [] [(0, .int .i64 p0), (5, .int .i64 v3.1), (6, .bool v3.2), (7, .int .i64 v5.1), (8, .bool v5.2)] [] (by rfl) ?_ ?_
  · try simp -implicitDefEqProofs -dsimp only [go_sem, ↓reduceIte, Nat.reduceAdd, Nat.reduceMul, Nat.reduceSub, Nat.reduceEqDiff, Nat.reduceLeDiff, Nat.reduceLT, Nat.reduceBEq, Int.reduceEq, reduceCtorEq]
    with_reducible refine exP.mk _ (callP.plain (by simp -implicitDefEqProofs -dsimp only [go_sem, ↓reduceIte, Nat.reduceAdd, Nat.reduceMul, Nat.reduceSub, Nat.reduceEqDiff, Nat.reduceLeDiff, Nat.reduceLT, Nat.reduceBEq, Int.reduceEq, reduceCtorEq]) (palingref1_Read_ok h6)) ?_
    try simp -implicitDefEqProofs -dsimp only [go_sem, ↓reduceIte, Nat.reduceAdd, Nat.reduceMul, Nat.reduceSub, Nat.reduceEqDiff, Nat.reduceLeDiff, Nat.reduceLT, Nat.reduceBEq, Int.reduceEq, reduceCtorEq]
  obtain ⟨v7, h8, hm⟩ := of_bind hm
  obtain ⟨v9, h10, hm⟩ := of_bind hm
  obtain ⟨v11, h12, hm⟩ := of_bind hm
  refine W.seqR [] [(4, .bool (((decide (v7 = v9) && (v3.1 == v5.1)) && (v3.2 == v5.2)) && v11))] [] (by rfl) ?_ ?_
  · try simp -implicitDefEqProofs -dsimp only [go_sem, ↓reduceIte, Nat.reduceAdd, Nat.reduceMul, Nat.reduceSub, Nat.reduceEqDiff, Nat.reduceLeDiff, Nat.reduceLT, Nat.reduceBEq, Int.reduceEq, reduceCtorEq]
    with_reducible refine exP.mk _ (callP.plain (by simp -implicitDefEqProofs -dsimp only [go_sem, ↓reduceIte, Nat.reduceAdd, Nat.reduceMul, Nat.reduceSub, Nat.reduceEqDiff, Nat.reduceLeDiff, Nat.reduceLT, Nat.reduceBEq, Int.reduceEq, reduceCtorEq]) (num_Text_ok h8)) ?_
    try simp -implicitDefEqProofs -dsimp only [go_sem, ↓reduceIte, Nat.reduceAdd, Nat.reduceMul, Nat.reduceSub, Nat.reduceEqDiff, Nat.reduceLeDiff, Nat.reduceLT, Nat.reduceBEq, Int.reduceEq, reduceCtorEq]
    with_reducible refine exP.mk _ (callP.plain (by simp -implicitDefEqProofs -dsimp only [go_sem, ↓reduceIte, Nat.reduceAdd, Nat.reduceMul, Nat.reduceSub, Nat.reduceEqDiff, Nat.reduceLeDiff, Nat.reduceLT, Nat.reduceBEq, Int.reduceEq, reduceCtorEq]) (palingref1_Text_ok h10)) ?_
    try simp -implicitDefEqProofs -dsimp only [go_sem, ↓reduceIte, Nat.reduceAdd, Nat.reduceMul, Nat.reduceSub, Nat.reduceEqDiff, Nat.reduceLeDiff, Nat.reduceLT, Nat.reduceBEq, Int.reduceEq, reduceCtorEq]
    refine onG_split (fun hg13 => ?_) (fun hg13 => ?_)
    · try simp -implicitDefEqProofs -dsimp only [go_sem, ↓reduceIte, Nat.reduceAdd, Nat.reduceMul, Nat.reduceSub, Nat.reduceEqDiff, Nat.reduceLeDiff, Nat.reduceLT, Nat.reduceBEq, Int.reduceEq, reduceCtorEq, hg13]
      refine onG_split (fun hg14 => ?_) (fun hg14 => ?_)
      · try simp -implicitDefEqProofs -dsimp only [go_sem, ↓reduceIte, Nat.reduceAdd, Nat.reduceMul, Nat.reduceSub, Nat.reduceEqDiff, Nat.reduceLeDiff, Nat.reduceLT, Nat.reduceBEq, Int.reduceEq, reduceCtorEq, hg13, hg14]
        refine onG_split (fun hg15 => ?_) (fun hg15 => ?_)
        · try simp -implicitDefEqProofs -dsimp only [go_sem, ↓reduceIte, Nat.reduceAdd, Nat.reduceMul, Nat.reduceSub, Nat.reduceEqDiff, Nat.reduceLeDiff, Nat.reduceLT, Nat.reduceBEq, Int.reduceEq, reduceCtorEq, hg13, hg14, hg15]
          with_reducible refine exP.mk _ (callP.plain (by simp -implicitDefEqProofs -dsimp only [go_sem, ↓reduceIte, Nat.reduceAdd, Nat.reduceMul, Nat.reduceSub, Nat.reduceEqDiff, Nat.reduceLeDiff, Nat.reduceLT, Nat.reduceBEq, Int.reduceEq, reduceCtorEq, hg13, hg14, hg15]) (palinglaw2_alive_ok (of_true (by simp -implicitDefEqProofs -dsimp only [go_sem, ↓reduceIte, Nat.reduceAdd, Nat.reduceMul, Nat.reduceSub, Nat.reduceEqDiff, Nat.reduceLeDiff, Nat.reduceLT, Nat.reduceBEq, Int.reduceEq, reduceCtorEq, hg13, hg14, hg15]) h12))) ?_
          try simp -implicitDefEqProofs -dsimp only [go_sem, ↓reduceIte, Nat.reduceAdd, Nat.reduceMul, Nat.reduceSub, Nat.reduceEqDiff, Nat.reduceLeDiff, Nat.reduceLT, Nat.reduceBEq, Int.reduceEq, reduceCtorEq, hg13, hg14, hg15]
        · try simp -implicitDefEqProofs -dsimp only [go_sem, ↓reduceIte, Nat.reduceAdd, Nat.reduceMul, Nat.reduceSub, Nat.reduceEqDiff, Nat.reduceLeDiff, Nat.reduceLT, Nat.reduceBEq, Int.reduceEq, reduceCtorEq, hg13, hg14, hg15]
      · try simp -implicitDefEqProofs -dsimp only [go_sem, ↓reduceIte, Nat.reduceAdd, Nat.reduceMul, Nat.reduceSub, Nat.reduceEqDiff, Nat.reduceLeDiff, Nat.reduceLT, Nat.reduceBEq, Int.reduceEq, reduceCtorEq, hg13, hg14]
    · try simp -implicitDefEqProofs -dsimp only [go_sem, ↓reduceIte, Nat.reduceAdd, Nat.reduceMul, Nat.reduceSub, Nat.reduceEqDiff, Nat.reduceLeDiff, Nat.reduceLT, Nat.reduceBEq, Int.reduceEq, reduceCtorEq, hg13]
  obtain rfl := Option.some.inj hm
  refine W.ret ?_
  try simp only [thenQ_normal, thenQ_exit, thenQ_ret, blockQ_normal, blockQ_here, blockQ_ret, blockQ_exit, ↓reduceIte, Nat.reduceEqDiff]
  refine EndsF.retW [] ?_
  simp -implicitDefEqProofs -dsimp only [go_sem, ↓reduceIte, Nat.reduceAdd, Nat.reduceMul, Nat.reduceSub, Nat.reduceEqDiff, Nat.reduceLeDiff, Nat.reduceLT, Nat.reduceBEq, Int.reduceEq, reduceCtorEq]

theorem palinglaw2_NumBack_ok {p0 : Int} {r : Bool} (hm : palinglaw2_NumBack p0 = some r) : PureF Tryd.prog 8 [.int .i64 p0] (.bool r) := by
  rw [palinglaw2_NumBack] at hm
  refine PureF.of Tryd.func8 rfl Tryd.ntmps8 (Nat.le_of_ble_eq_true rfl) ?_
  have e0 : argS 0 [.int .i64 p0] = [(0, .int .i64 p0)] := rfl
  rw [e0]
  refine W.seqR [] [(0, .int .i64 p0)] [] (by rfl) ?_ ?_
  · try simp -implicitDefEqProofs -dsimp only [go_sem, ↓reduceIte, Nat.reduceAdd, Nat.reduceMul, Nat.reduceSub, Nat.reduceEqDiff, Nat.reduceLeDiff, Nat.reduceLT, Nat.reduceBEq, Int.reduceEq, reduceCtorEq]
  obtain ⟨v1, h2, hm⟩ := of_bind hm
  obtain ⟨v3, h4, hm⟩ := of_bind hm
  refine W.seqR [] [(0, .int .i64 p0), (3, .int .i64 v3.1), (4, .bool v3.2)] [] (by rfl) ?_ ?_
  · try simp -implicitDefEqProofs -dsimp only [go_sem, ↓reduceIte, Nat.reduceAdd, Nat.reduceMul, Nat.reduceSub, Nat.reduceEqDiff, Nat.reduceLeDiff, Nat.reduceLT, Nat.reduceBEq, Int.reduceEq, reduceCtorEq]
    with_reducible refine exP.mk _ (callP.plain (by simp -implicitDefEqProofs -dsimp only [go_sem, ↓reduceIte, Nat.reduceAdd, Nat.reduceMul, Nat.reduceSub, Nat.reduceEqDiff, Nat.reduceLeDiff, Nat.reduceLT, Nat.reduceBEq, Int.reduceEq, reduceCtorEq]) (num_Text_ok h2)) ?_
    try simp -implicitDefEqProofs -dsimp only [go_sem, ↓reduceIte, Nat.reduceAdd, Nat.reduceMul, Nat.reduceSub, Nat.reduceEqDiff, Nat.reduceLeDiff, Nat.reduceLT, Nat.reduceBEq, Int.reduceEq, reduceCtorEq]
    with_reducible refine exP.mk _ (callP.plain (by simp -implicitDefEqProofs -dsimp only [go_sem, ↓reduceIte, Nat.reduceAdd, Nat.reduceMul, Nat.reduceSub, Nat.reduceEqDiff, Nat.reduceLeDiff, Nat.reduceLT, Nat.reduceBEq, Int.reduceEq, reduceCtorEq]) (num_Read_ok h4)) ?_
    try simp -implicitDefEqProofs -dsimp only [go_sem, ↓reduceIte, Nat.reduceAdd, Nat.reduceMul, Nat.reduceSub, Nat.reduceEqDiff, Nat.reduceLeDiff, Nat.reduceLT, Nat.reduceBEq, Int.reduceEq, reduceCtorEq]
  obtain ⟨v5, h6, hm⟩ := of_bind hm
  refine W.seqR [] [(2, .bool ((v3.2 && (v3.1 == p0)) && v5))] [] (by rfl) ?_ ?_
  · try simp -implicitDefEqProofs -dsimp only [go_sem, ↓reduceIte, Nat.reduceAdd, Nat.reduceMul, Nat.reduceSub, Nat.reduceEqDiff, Nat.reduceLeDiff, Nat.reduceLT, Nat.reduceBEq, Int.reduceEq, reduceCtorEq]
    refine onG_split (fun hg7 => ?_) (fun hg7 => ?_)
    · try simp -implicitDefEqProofs -dsimp only [go_sem, ↓reduceIte, Nat.reduceAdd, Nat.reduceMul, Nat.reduceSub, Nat.reduceEqDiff, Nat.reduceLeDiff, Nat.reduceLT, Nat.reduceBEq, Int.reduceEq, reduceCtorEq, hg7]
      refine onG_split (fun hg8 => ?_) (fun hg8 => ?_)
      · try simp -implicitDefEqProofs -dsimp only [go_sem, ↓reduceIte, Nat.reduceAdd, Nat.reduceMul, Nat.reduceSub, Nat.reduceEqDiff, Nat.reduceLeDiff, Nat.reduceLT, Nat.reduceBEq, Int.reduceEq, reduceCtorEq, hg7, hg8]
        with_reducible refine exP.mk _ (callP.plain (by simp -implicitDefEqProofs -dsimp only [go_sem, ↓reduceIte, Nat.reduceAdd, Nat.reduceMul, Nat.reduceSub, Nat.reduceEqDiff, Nat.reduceLeDiff, Nat.reduceLT, Nat.reduceBEq, Int.reduceEq, reduceCtorEq, hg7, hg8]) (palinglaw2_alive_ok (of_true (by simp -implicitDefEqProofs -dsimp only [go_sem, ↓reduceIte, Nat.reduceAdd, Nat.reduceMul, Nat.reduceSub, Nat.reduceEqDiff, Nat.reduceLeDiff, Nat.reduceLT, Nat.reduceBEq, Int.reduceEq, reduceCtorEq, hg7, hg8]) h6))) ?_
        try simp -implicitDefEqProofs -dsimp only [go_sem, ↓reduceIte, Nat.reduceAdd, Nat.reduceMul, Nat.reduceSub, Nat.reduceEqDiff, Nat.reduceLeDiff, Nat.reduceLT, Nat.reduceBEq, Int.reduceEq, reduceCtorEq, hg7, hg8]
      · try simp -implicitDefEqProofs -dsimp only [go_sem, ↓reduceIte, Nat.reduceAdd, Nat.reduceMul, Nat.reduceSub, Nat.reduceEqDiff, Nat.reduceLeDiff, Nat.reduceLT, Nat.reduceBEq, Int.reduceEq, reduceCtorEq, hg7, hg8]
    · try simp -implicitDefEqProofs -dsimp only [go_sem, ↓reduceIte, Nat.reduceAdd, Nat.reduceMul, Nat.reduceSub, Nat.reduceEqDiff, Nat.reduceLeDiff, Nat.reduceLT, Nat.reduceBEq, Int.reduceEq, reduceCtorEq, hg7]
  obtain rfl := Option.some.inj hm
  refine W.ret ?_
  try simp only [thenQ_normal, thenQ_exit, thenQ_ret, blockQ_normal, blockQ_here, blockQ_ret, blockQ_exit, ↓reduceIte, Nat.reduceEqDiff]
  refine EndsF.retW [] ?_
  simp -implicitDefEqProofs -dsimp only [go_sem, ↓reduceIte, Nat.reduceAdd, Nat.reduceMul, Nat.reduceSub, Nat.reduceEqDiff, Nat.reduceLeDiff, Nat.reduceLT, Nat.reduceBEq, Int.reduceEq, reduceCtorEq]

theorem palinglaw2_NumOnce_ok {p0 : ByteArray} {r : Bool} (hm : palinglaw2_NumOnce p0 = some r) : PureF Tryd.prog 9 [.str p0] (.bool r) := by
  rw [palinglaw2_NumOnce] at hm
  refine PureF.of Tryd.func9 rfl Tryd.ntmps9 (Nat.le_of_ble_eq_true rfl) ?_
  have e0 : argS 0 [.str p0] = [(0, .str p0)] := rfl
  rw [e0]
  refine W.seqR [] [(0, .str p0)] [] (by rfl) ?_ ?_
  · try simp -implicitDefEqProofs -dsimp only [go_sem, ↓reduceIte, Nat.reduceAdd, Nat.reduceMul, Nat.reduceSub, Nat.reduceEqDiff, Nat.reduceLeDiff, Nat.reduceLT, Nat.reduceBEq, Int.reduceEq, reduceCtorEq]
  obtain ⟨v1, h2, hm⟩ := of_bind hm
  refine W.seqR [] [(0, .str v1)] [] (by rfl) ?_ ?_
  · try simp -implicitDefEqProofs -dsimp only [go_sem, ↓reduceIte, Nat.reduceAdd, Nat.reduceMul, Nat.reduceSub, Nat.reduceEqDiff, Nat.reduceLeDiff, Nat.reduceLT, Nat.reduceBEq, Int.reduceEq, reduceCtorEq]
    with_reducible refine exP.mk _ (callP.plain (by simp -implicitDefEqProofs -dsimp only [go_sem, ↓reduceIte, Nat.reduceAdd, Nat.reduceMul, Nat.reduceSub, Nat.reduceEqDiff, Nat.reduceLeDiff, Nat.reduceLT, Nat.reduceBEq, Int.reduceEq, reduceCtorEq]) (palingbook_Short_ok h2)) ?_
    try simp -implicitDefEqProofs -dsimp only [go_sem, ↓reduceIte, Nat.reduceAdd, Nat.reduceMul, Nat.reduceSub, Nat.reduceEqDiff, Nat.reduceLeDiff, Nat.reduceLT, Nat.reduceBEq, Int.reduceEq, reduceCtorEq]
  obtain ⟨v3, h4, hm⟩ := of_bind hm
  refine W.seqR [] [(0, .str v1), (3, .int .i64 v3.1), (4, .bool v3.2)] [] (by rfl) ?_ ?_
  · try simp -implicitDefEqProofs -dsimp only [go_sem, ↓reduceIte, Nat.reduceAdd, Nat.reduceMul, Nat.reduceSub, Nat.reduceEqDiff, Nat.reduceLeDiff, Nat.reduceLT, Nat.reduceBEq, Int.reduceEq, reduceCtorEq]
    with_reducible refine exP.mk _ (callP.plain (by simp -implicitDefEqProofs -dsimp only [go_sem, ↓reduceIte, Nat.reduceAdd, Nat.reduceMul, Nat.reduceSub, Nat.reduceEqDiff, Nat.reduceLeDiff, Nat.reduceLT, Nat.reduceBEq, Int.reduceEq, reduceCtorEq]) (num_Read_ok h4)) ?_
    try simp -implicitDefEqProofs -dsimp only [go_sem, ↓reduceIte, Nat.reduceAdd, Nat.reduceMul, Nat.reduceSub, Nat.reduceEqDiff, Nat.reduceLeDiff, Nat.reduceLT, Nat.reduceBEq, Int.reduceEq, reduceCtorEq]
  obtain ⟨v5, h6, hm⟩ := of_bind hm
  obtain ⟨v7, h8, hm⟩ := of_bind hm
  refine W.seqR [] [(2, .bool ((((!v3.2) && (v3.1 == 0)) || (v3.2 && decide (v5 = v1))) && v7))] [] (by rfl) ?_ ?_
  · try simp -implicitDefEqProofs -dsimp only [go_sem, ↓reduceIte, Nat.reduceAdd, Nat.reduceMul, Nat.reduceSub, Nat.reduceEqDiff, Nat.reduceLeDiff, Nat.reduceLT, Nat.reduceBEq, Int.reduceEq, reduceCtorEq]
    refine onG_splitN (fun hg9 => ?_) (fun hg9 => ?_)
    · try simp -implicitDefEqProofs -dsimp only [go_sem, ↓reduceIte, Nat.reduceAdd, Nat.reduceMul, Nat.reduceSub, Nat.reduceEqDiff, Nat.reduceLeDiff, Nat.reduceLT, Nat.reduceBEq, Int.reduceEq, reduceCtorEq, hg9]
      refine onG_splitN (fun hg10 => ?_) (fun hg10 => ?_)
      · try simp -implicitDefEqProofs -dsimp only [go_sem, ↓reduceIte, Nat.reduceAdd, Nat.reduceMul, Nat.reduceSub, Nat.reduceEqDiff, Nat.reduceLeDiff, Nat.reduceLT, Nat.reduceBEq, Int.reduceEq, reduceCtorEq, hg9, hg10]
      · try simp -implicitDefEqProofs -dsimp only [go_sem, ↓reduceIte, Nat.reduceAdd, Nat.reduceMul, Nat.reduceSub, Nat.reduceEqDiff, Nat.reduceLeDiff, Nat.reduceLT, Nat.reduceBEq, Int.reduceEq, reduceCtorEq, hg9, hg10]
        with_reducible refine exP.mk _ (callP.plain (by simp -implicitDefEqProofs -dsimp only [go_sem, ↓reduceIte, Nat.reduceAdd, Nat.reduceMul, Nat.reduceSub, Nat.reduceEqDiff, Nat.reduceLeDiff, Nat.reduceLT, Nat.reduceBEq, Int.reduceEq, reduceCtorEq, hg9, hg10]) (palinglaw2_alive_ok (of_true (by simp -implicitDefEqProofs -dsimp only [go_sem, ↓reduceIte, Nat.reduceAdd, Nat.reduceMul, Nat.reduceSub, Nat.reduceEqDiff, Nat.reduceLeDiff, Nat.reduceLT, Nat.reduceBEq, Int.reduceEq, reduceCtorEq, hg9, hg10]) h8))) ?_
        try simp -implicitDefEqProofs -dsimp only [go_sem, ↓reduceIte, Nat.reduceAdd, Nat.reduceMul, Nat.reduceSub, Nat.reduceEqDiff, Nat.reduceLeDiff, Nat.reduceLT, Nat.reduceBEq, Int.reduceEq, reduceCtorEq, hg9, hg10]
    · try simp -implicitDefEqProofs -dsimp only [go_sem, ↓reduceIte, Nat.reduceAdd, Nat.reduceMul, Nat.reduceSub, Nat.reduceEqDiff, Nat.reduceLeDiff, Nat.reduceLT, Nat.reduceBEq, Int.reduceEq, reduceCtorEq, hg9]
      with_reducible refine exP.mk _ (callP.plain (by simp -implicitDefEqProofs -dsimp only [go_sem, ↓reduceIte, Nat.reduceAdd, Nat.reduceMul, Nat.reduceSub, Nat.reduceEqDiff, Nat.reduceLeDiff, Nat.reduceLT, Nat.reduceBEq, Int.reduceEq, reduceCtorEq, hg9]) (num_Text_ok (of_true (by simp -implicitDefEqProofs -dsimp only [go_sem, ↓reduceIte, Nat.reduceAdd, Nat.reduceMul, Nat.reduceSub, Nat.reduceEqDiff, Nat.reduceLeDiff, Nat.reduceLT, Nat.reduceBEq, Int.reduceEq, reduceCtorEq, hg9]) h6))) ?_
      try simp -implicitDefEqProofs -dsimp only [go_sem, ↓reduceIte, Nat.reduceAdd, Nat.reduceMul, Nat.reduceSub, Nat.reduceEqDiff, Nat.reduceLeDiff, Nat.reduceLT, Nat.reduceBEq, Int.reduceEq, reduceCtorEq, hg9]
      refine onG_split (fun hg11 => ?_) (fun hg11 => ?_)
      · try simp -implicitDefEqProofs -dsimp only [go_sem, ↓reduceIte, Nat.reduceAdd, Nat.reduceMul, Nat.reduceSub, Nat.reduceEqDiff, Nat.reduceLeDiff, Nat.reduceLT, Nat.reduceBEq, Int.reduceEq, reduceCtorEq, hg9, hg11]
        with_reducible refine exP.mk _ (callP.plain (by simp -implicitDefEqProofs -dsimp only [go_sem, ↓reduceIte, Nat.reduceAdd, Nat.reduceMul, Nat.reduceSub, Nat.reduceEqDiff, Nat.reduceLeDiff, Nat.reduceLT, Nat.reduceBEq, Int.reduceEq, reduceCtorEq, hg9, hg11]) (palinglaw2_alive_ok (of_true (by simp -implicitDefEqProofs -dsimp only [go_sem, ↓reduceIte, Nat.reduceAdd, Nat.reduceMul, Nat.reduceSub, Nat.reduceEqDiff, Nat.reduceLeDiff, Nat.reduceLT, Nat.reduceBEq, Int.reduceEq, reduceCtorEq, hg9, hg11]) h8))) ?_
        try simp -implicitDefEqProofs -dsimp only [go_sem, ↓reduceIte, Nat.reduceAdd, Nat.reduceMul, Nat.reduceSub, Nat.reduceEqDiff, Nat.reduceLeDiff, Nat.reduceLT, Nat.reduceBEq, Int.reduceEq, reduceCtorEq, hg9, hg11]
      · try simp -implicitDefEqProofs -dsimp only [go_sem, ↓reduceIte, Nat.reduceAdd, Nat.reduceMul, Nat.reduceSub, Nat.reduceEqDiff, Nat.reduceLeDiff, Nat.reduceLT, Nat.reduceBEq, Int.reduceEq, reduceCtorEq, hg9, hg11]
  obtain rfl := Option.some.inj hm
  refine W.ret ?_
  try simp only [thenQ_normal, thenQ_exit, thenQ_ret, blockQ_normal, blockQ_here, blockQ_ret, blockQ_exit, ↓reduceIte, Nat.reduceEqDiff]
  refine EndsF.retW [] ?_
  simp -implicitDefEqProofs -dsimp only [go_sem, ↓reduceIte, Nat.reduceAdd, Nat.reduceMul, Nat.reduceSub, Nat.reduceEqDiff, Nat.reduceLeDiff, Nat.reduceLT, Nat.reduceBEq, Int.reduceEq, reduceCtorEq]

theorem palinglaw2_NumBent_ok {p0 : Int} {p1 : Int} {r : Bool} (hm : palinglaw2_NumBent p0 p1 = some r) : PureF Tryd.prog 10 [.int .i64 p0, .int .i64 p1] (.bool r) := by
  rw [palinglaw2_NumBent] at hm
  refine PureF.of Tryd.func10 rfl Tryd.ntmps10 (Nat.le_of_ble_eq_true rfl) ?_
  have e0 : argS 0 [.int .i64 p0, .int .i64 p1] = [(0, .int .i64 p0), (1, .int .i64 p1)] := rfl
  rw [e0]
  refine W.seqR [] [(0, .int .i64 p0), (1, .int .i64 p1)] [] (by rfl) ?_ ?_
  · try simp -implicitDefEqProofs -dsimp only [go_sem, ↓reduceIte, Nat.reduceAdd, Nat.reduceMul, Nat.reduceSub, Nat.reduceEqDiff, Nat.reduceLeDiff, Nat.reduceLT, Nat.reduceBEq, Int.reduceEq, reduceCtorEq]
  obtain ⟨v1, h2, hm⟩ := of_bind hm
  refine W.seqR [] [(0, .int .i64 p0), (1, .int .i64 p1), (5, .str v1)] [] (by rfl) ?_ ?_
  · try simp -implicitDefEqProofs -dsimp only [go_sem, ↓reduceIte, Nat.reduceAdd, Nat.reduceMul, Nat.reduceSub, Nat.reduceEqDiff, Nat.reduceLeDiff, Nat.reduceLT, Nat.reduceBEq, Int.reduceEq, reduceCtorEq]
    with_reducible refine exP.mk _ (callP.plain (by simp -implicitDefEqProofs -dsimp only [go_sem, ↓reduceIte, Nat.reduceAdd, Nat.reduceMul, Nat.reduceSub, Nat.reduceEqDiff, Nat.reduceLeDiff, Nat.reduceLT, Nat.reduceBEq, Int.reduceEq, reduceCtorEq]) (num_Text_ok h2)) ?_
    try simp -implicitDefEqProofs -dsimp only [go_sem, ↓reduceIte, Nat.reduceAdd, Nat.reduceMul, Nat.reduceSub, Nat.reduceEqDiff, Nat.reduceLeDiff, Nat.reduceLT, Nat.reduceBEq, Int.reduceEq, reduceCtorEq]
  obtain ⟨v3, h4, hm⟩ := of_bind hm
  obtain ⟨h5, hm⟩ := of_ite hm
  have h5a := h5
  simp only [List.length_cons, List.length_nil, Nat.reduceAdd] at h5a
  have h5c := map_rd (f := eStr) h5
  simp -dsimp only [List.map_cons, List.map_nil, eStr, eInt, eBool] at h5c
  obtain ⟨s6, h7, hm⟩ := of_bind hm
  replace h7 := Option.some.inj h7
  refine W.seqR [] [(0, .int .i64 p0), (5, .str v1), (6, .str s6)] [] (by rfl) ?_ ?_
  · try simp -implicitDefEqProofs -dsimp only [go_sem, ↓reduceIte, Nat.reduceAdd, Nat.reduceMul, Nat.reduceSub, Nat.reduceEqDiff, Nat.reduceLeDiff, Nat.reduceLT, Nat.reduceBEq, Int.reduceEq, reduceCtorEq, h5, h5a, h5c, ← h7]
    with_reducible refine exB false ?_
    try simp -implicitDefEqProofs -dsimp only [go_sem, ↓reduceIte, Nat.reduceAdd, Nat.reduceMul, Nat.reduceSub, Nat.reduceEqDiff, Nat.reduceLeDiff, Nat.reduceLT, Nat.reduceBEq, Int.reduceEq, reduceCtorEq, h5, h5a, h5c, ← h7]
    with_reducible refine exP.mk _ (callP.plain (by simp -implicitDefEqProofs -dsimp only [go_sem, ↓reduceIte, Nat.reduceAdd, Nat.reduceMul, Nat.reduceSub, Nat.reduceEqDiff, Nat.reduceLeDiff, Nat.reduceLT, Nat.reduceBEq, Int.reduceEq, reduceCtorEq, h5, h5a, h5c, ← h7]) (palingbook_Pick_ok h4)) ?_
    try simp -implicitDefEqProofs -dsimp only [go_sem, ↓reduceIte, Nat.reduceAdd, Nat.reduceMul, Nat.reduceSub, Nat.reduceEqDiff, Nat.reduceLeDiff, Nat.reduceLT, Nat.reduceBEq, Int.reduceEq, reduceCtorEq, h5, h5a, h5c, ← h7]
  refine W.seq ?_
  refine W.seqR [] [(0, .int .i64 p0), (5, .str v1), (6, .str s6), (29, .bool (decide (s6 = (⟨#[45]⟩ : ByteArray)) && decide (p0 > 0)))] [] (by rfl) ?_ ?_
  · try simp -implicitDefEqProofs -dsimp only [go_sem, ↓reduceIte, Nat.reduceAdd, Nat.reduceMul, Nat.reduceSub, Nat.reduceEqDiff, Nat.reduceLeDiff, Nat.reduceLT, Nat.reduceBEq, Int.reduceEq, reduceCtorEq, h5, h5a, h5c]
    refine onG_split (fun hg8 => ?_) (fun hg8 => ?_)
    · try simp -implicitDefEqProofs -dsimp only [go_sem, ↓reduceIte, Nat.reduceAdd, Nat.reduceMul, Nat.reduceSub, Nat.reduceEqDiff, Nat.reduceLeDiff, Nat.reduceLT, Nat.reduceBEq, Int.reduceEq, reduceCtorEq, h5, h5a, h5c, hg8]
    · try simp -implicitDefEqProofs -dsimp only [go_sem, ↓reduceIte, Nat.reduceAdd, Nat.reduceMul, Nat.reduceSub, Nat.reduceEqDiff, Nat.reduceLeDiff, Nat.reduceLT, Nat.reduceBEq, Int.reduceEq, reduceCtorEq, h5, h5a, h5c, hg8]
  refine W.cond (decide (s6 = (⟨#[45]⟩ : ByteArray)) && decide (p0 > 0)) (by simp only [ev_tmp, get_cons, ↓reduceIte, Nat.reduceEqDiff]) (fun hb9 => ?_) (fun hb9 => ?_)
  · have hm := of_true hb9 hm
    obtain ⟨h10, hm⟩ := of_ite hm
    obtain ⟨v11, h12, hm⟩ := of_bind hm
    refine W.seqR [] [(0, .int .i64 p0), (7, .int .i64 v11.1), (8, .bool v11.2)] [] (by rfl) ?_ ?_
    · try simp -implicitDefEqProofs -dsimp only [go_sem, ↓reduceIte, Nat.reduceAdd, Nat.reduceMul, Nat.reduceSub, Nat.reduceEqDiff, Nat.reduceLeDiff, Nat.reduceLT, Nat.reduceBEq, Int.reduceEq, reduceCtorEq, h5, h5a, h5c, hb9, h10]
      with_reducible refine exP.mk _ (callP.plain (by simp -implicitDefEqProofs -dsimp only [go_sem, ↓reduceIte, Nat.reduceAdd, Nat.reduceMul, Nat.reduceSub, Nat.reduceEqDiff, Nat.reduceLeDiff, Nat.reduceLT, Nat.reduceBEq, Int.reduceEq, reduceCtorEq, h5, h5a, h5c, hb9, h10]) (num_Read_ok h12)) ?_
      try simp -implicitDefEqProofs -dsimp only [go_sem, ↓reduceIte, Nat.reduceAdd, Nat.reduceMul, Nat.reduceSub, Nat.reduceEqDiff, Nat.reduceLeDiff, Nat.reduceLT, Nat.reduceBEq, Int.reduceEq, reduceCtorEq, h5, h5a, h5c, hb9, h10]
    obtain ⟨v13, h14, hm⟩ := of_bind hm
    refine W.seqR [] [(4, .bool ((v11.2 && (v11.1 == (IntKind.wrap .i64 (0 - p0)))) && v13))] [] (by rfl) ?_ ?_
    · try simp -implicitDefEqProofs -dsimp only [go_sem, ↓reduceIte, Nat.reduceAdd, Nat.reduceMul, Nat.reduceSub, Nat.reduceEqDiff, Nat.reduceLeDiff, Nat.reduceLT, Nat.reduceBEq, Int.reduceEq, reduceCtorEq, h5, h5a, h5c, hb9, h10]
      refine onG_split (fun hg15 => ?_) (fun hg15 => ?_)
      · try simp -implicitDefEqProofs -dsimp only [go_sem, ↓reduceIte, Nat.reduceAdd, Nat.reduceMul, Nat.reduceSub, Nat.reduceEqDiff, Nat.reduceLeDiff, Nat.reduceLT, Nat.reduceBEq, Int.reduceEq, reduceCtorEq, h5, h5a, h5c, hb9, h10, hg15]
        refine onG_split (fun hg16 => ?_) (fun hg16 => ?_)
        · try simp -implicitDefEqProofs -dsimp only [go_sem, ↓reduceIte, Nat.reduceAdd, Nat.reduceMul, Nat.reduceSub, Nat.reduceEqDiff, Nat.reduceLeDiff, Nat.reduceLT, Nat.reduceBEq, Int.reduceEq, reduceCtorEq, h5, h5a, h5c, hb9, h10, hg15, hg16]
          with_reducible refine exP.mk _ (callP.plain (by simp -implicitDefEqProofs -dsimp only [go_sem, ↓reduceIte, Nat.reduceAdd, Nat.reduceMul, Nat.reduceSub, Nat.reduceEqDiff, Nat.reduceLeDiff, Nat.reduceLT, Nat.reduceBEq, Int.reduceEq, reduceCtorEq, h5, h5a, h5c, hb9, h10, hg15, hg16]) (palinglaw2_alive_ok (of_true (by simp -implicitDefEqProofs -dsimp only [go_sem, ↓reduceIte, Nat.reduceAdd, Nat.reduceMul, Nat.reduceSub, Nat.reduceEqDiff, Nat.reduceLeDiff, Nat.reduceLT, Nat.reduceBEq, Int.reduceEq, reduceCtorEq, h5, h5a, h5c, hb9, h10, hg15, hg16]) h14))) ?_
          try simp -implicitDefEqProofs -dsimp only [go_sem, ↓reduceIte, Nat.reduceAdd, Nat.reduceMul, Nat.reduceSub, Nat.reduceEqDiff, Nat.reduceLeDiff, Nat.reduceLT, Nat.reduceBEq, Int.reduceEq, reduceCtorEq, h5, h5a, h5c, hb9, h10, hg15, hg16]
        · try simp -implicitDefEqProofs -dsimp only [go_sem, ↓reduceIte, Nat.reduceAdd, Nat.reduceMul, Nat.reduceSub, Nat.reduceEqDiff, Nat.reduceLeDiff, Nat.reduceLT, Nat.reduceBEq, Int.reduceEq, reduceCtorEq, h5, h5a, h5c, hb9, h10, hg15, hg16]
      · try simp -implicitDefEqProofs -dsimp only [go_sem, ↓reduceIte, Nat.reduceAdd, Nat.reduceMul, Nat.reduceSub, Nat.reduceEqDiff, Nat.reduceLeDiff, Nat.reduceLT, Nat.reduceBEq, Int.reduceEq, reduceCtorEq, h5, h5a, h5c, hb9, h10, hg15]
    obtain rfl := Option.some.inj hm
    refine W.ret ?_
    try simp only [thenQ_normal, thenQ_exit, thenQ_ret, blockQ_normal, blockQ_here, blockQ_ret, blockQ_exit, ↓reduceIte, Nat.reduceEqDiff]
    refine EndsF.retW [] ?_
    simp -implicitDefEqProofs -dsimp only [go_sem, ↓reduceIte, Nat.reduceAdd, Nat.reduceMul, Nat.reduceSub, Nat.reduceEqDiff, Nat.reduceLeDiff, Nat.reduceLT, Nat.reduceBEq, Int.reduceEq, reduceCtorEq, h5, h5a, h5c, hb9, h10]
  · have hm := of_false hb9 hm
    refine W.skip ?_
    try simp only [thenQ_normal, thenQ_exit, thenQ_ret, blockQ_normal, blockQ_here, blockQ_ret, blockQ_exit, ↓reduceIte, Nat.reduceEqDiff]
    obtain ⟨h17, hm⟩ := of_ite hm
    obtain ⟨v18, h19, hm⟩ := of_bind hm
    refine W.seqR [] [(5, .str v1), (10, .bool v18.2)] [] (by rfl) ?_ ?_
    · try simp -implicitDefEqProofs -dsimp only [go_sem, ↓reduceIte, Nat.reduceAdd, Nat.reduceMul, Nat.reduceSub, Nat.reduceEqDiff, Nat.reduceLeDiff, Nat.reduceLT, Nat.reduceBEq, Int.reduceEq, reduceCtorEq, h5, h5a, h5c, hb9, h17]
      with_reducible refine exP.mk _ (callP.plain (by simp -implicitDefEqProofs -dsimp only [go_sem, ↓reduceIte, Nat.reduceAdd, Nat.reduceMul, Nat.reduceSub, Nat.reduceEqDiff, Nat.reduceLeDiff, Nat.reduceLT, Nat.reduceBEq, Int.reduceEq, reduceCtorEq, h5, h5a, h5c, hb9, h17]) (num_Read_ok h19)) ?_
      try simp -implicitDefEqProofs -dsimp only [go_sem, ↓reduceIte, Nat.reduceAdd, Nat.reduceMul, Nat.reduceSub, Nat.reduceEqDiff, Nat.reduceLeDiff, Nat.reduceLT, Nat.reduceBEq, Int.reduceEq, reduceCtorEq, h5, h5a, h5c, hb9, h17]
    obtain ⟨h20, hm⟩ := of_ite hm
    obtain ⟨v21, h22, hm⟩ := of_bind hm
    refine W.seqR [] [(10, .bool v18.2), (12, .bool v21.2)] [] (by rfl) ?_ ?_
    · try simp -implicitDefEqProofs -dsimp only [go_sem, ↓reduceIte, Nat.reduceAdd, Nat.reduceMul, Nat.reduceSub, Nat.reduceEqDiff, Nat.reduceLeDiff, Nat.reduceLT, Nat.reduceBEq, Int.reduceEq, reduceCtorEq, h5, h5a, h5c, hb9, h17, h20]
      with_reducible refine exP.mk _ (callP.plain (by simp -implicitDefEqProofs -dsimp only [go_sem, ↓reduceIte, Nat.reduceAdd, Nat.reduceMul, Nat.reduceSub, Nat.reduceEqDiff, Nat.reduceLeDiff, Nat.reduceLT, Nat.reduceBEq, Int.reduceEq, reduceCtorEq, h5, h5a, h5c, hb9, h17, h20]) (num_Read_ok h22)) ?_
      try simp -implicitDefEqProofs -dsimp only [go_sem, ↓reduceIte, Nat.reduceAdd, Nat.reduceMul, Nat.reduceSub, Nat.reduceEqDiff, Nat.reduceLeDiff, Nat.reduceLT, Nat.reduceBEq, Int.reduceEq, reduceCtorEq, h5, h5a, h5c, hb9, h17, h20]
    obtain ⟨v23, h24, hm⟩ := of_bind hm
    refine W.seqR [] [(10, .bool v18.2), (12, .bool v21.2), (14, .bool v23.2)] [] (by rfl) ?_ ?_
    · try simp -implicitDefEqProofs -dsimp only [go_sem, ↓reduceIte, Nat.reduceAdd, Nat.reduceMul, Nat.reduceSub, Nat.reduceEqDiff, Nat.reduceLeDiff, Nat.reduceLT, Nat.reduceBEq, Int.reduceEq, reduceCtorEq, h5, h5a, h5c, hb9, h17, h20]
      with_reducible refine exP.mk _ (callP.plain (by simp -implicitDefEqProofs -dsimp only [go_sem, ↓reduceIte, Nat.reduceAdd, Nat.reduceMul, Nat.reduceSub, Nat.reduceEqDiff, Nat.reduceLeDiff, Nat.reduceLT, Nat.reduceBEq, Int.reduceEq, reduceCtorEq, h5, h5a, h5c, hb9, h17, h20]) (num_Read_ok h24)) ?_
      try simp -implicitDefEqProofs -dsimp only [go_sem, ↓reduceIte, Nat.reduceAdd, Nat.reduceMul, Nat.reduceSub, Nat.reduceEqDiff, Nat.reduceLeDiff, Nat.reduceLT, Nat.reduceBEq, Int.reduceEq, reduceCtorEq, h5, h5a, h5c, hb9, h17, h20]
    obtain ⟨v25, h26, hm⟩ := of_bind hm
    refine W.seqR [] [(10, .bool v18.2), (12, .bool v21.2), (14, .bool v23.2), (16, .bool v25.2)] [] (by rfl) ?_ ?_
    · try simp -implicitDefEqProofs -dsimp only [go_sem, ↓reduceIte, Nat.reduceAdd, Nat.reduceMul, Nat.reduceSub, Nat.reduceEqDiff, Nat.reduceLeDiff, Nat.reduceLT, Nat.reduceBEq, Int.reduceEq, reduceCtorEq, h5, h5a, h5c, hb9, h17, h20]
      with_reducible refine exP.mk _ (callP.plain (by simp -implicitDefEqProofs -dsimp only [go_sem, ↓reduceIte, Nat.reduceAdd, Nat.reduceMul, Nat.reduceSub, Nat.reduceEqDiff, Nat.reduceLeDiff, Nat.reduceLT, Nat.reduceBEq, Int.reduceEq, reduceCtorEq, h5, h5a, h5c, hb9, h17, h20]) (num_Read_ok h26)) ?_
      try simp -implicitDefEqProofs -dsimp only [go_sem, ↓reduceIte, Nat.reduceAdd, Nat.reduceMul, Nat.reduceSub, Nat.reduceEqDiff, Nat.reduceLeDiff, Nat.reduceLT, Nat.reduceBEq, Int.reduceEq, reduceCtorEq, h5, h5a, h5c, hb9, h17, h20]
    obtain ⟨v27, h28, hm⟩ := of_bind hm
    refine W.seqR [] [(4, .bool (((((!v18.2) && (!v21.2)) && (!v23.2)) && (!v25.2)) && v27))] [] (by rfl) ?_ ?_
    · try simp -implicitDefEqProofs -dsimp only [go_sem, ↓reduceIte, Nat.reduceAdd, Nat.reduceMul, Nat.reduceSub, Nat.reduceEqDiff, Nat.reduceLeDiff, Nat.reduceLT, Nat.reduceBEq, Int.reduceEq, reduceCtorEq, h5, h5a, h5c, hb9, h17, h20]
      refine onG_splitN (fun hg29 => ?_) (fun hg29 => ?_)
      · try simp -implicitDefEqProofs -dsimp only [go_sem, ↓reduceIte, Nat.reduceAdd, Nat.reduceMul, Nat.reduceSub, Nat.reduceEqDiff, Nat.reduceLeDiff, Nat.reduceLT, Nat.reduceBEq, Int.reduceEq, reduceCtorEq, h5, h5a, h5c, hb9, h17, h20, hg29]
        refine onG_splitN (fun hg30 => ?_) (fun hg30 => ?_)
        · try simp -implicitDefEqProofs -dsimp only [go_sem, ↓reduceIte, Nat.reduceAdd, Nat.reduceMul, Nat.reduceSub, Nat.reduceEqDiff, Nat.reduceLeDiff, Nat.reduceLT, Nat.reduceBEq, Int.reduceEq, reduceCtorEq, h5, h5a, h5c, hb9, h17, h20, hg29, hg30]
          refine onG_splitN (fun hg31 => ?_) (fun hg31 => ?_)
          · try simp -implicitDefEqProofs -dsimp only [go_sem, ↓reduceIte, Nat.reduceAdd, Nat.reduceMul, Nat.reduceSub, Nat.reduceEqDiff, Nat.reduceLeDiff, Nat.reduceLT, Nat.reduceBEq, Int.reduceEq, reduceCtorEq, h5, h5a, h5c, hb9, h17, h20, hg29, hg30, hg31]
            refine onG_splitN (fun hg32 => ?_) (fun hg32 => ?_)
            · try simp -implicitDefEqProofs -dsimp only [go_sem, ↓reduceIte, Nat.reduceAdd, Nat.reduceMul, Nat.reduceSub, Nat.reduceEqDiff, Nat.reduceLeDiff, Nat.reduceLT, Nat.reduceBEq, Int.reduceEq, reduceCtorEq, h5, h5a, h5c, hb9, h17, h20, hg29, hg30, hg31, hg32]
              with_reducible refine exP.mk _ (callP.plain (by simp -implicitDefEqProofs -dsimp only [go_sem, ↓reduceIte, Nat.reduceAdd, Nat.reduceMul, Nat.reduceSub, Nat.reduceEqDiff, Nat.reduceLeDiff, Nat.reduceLT, Nat.reduceBEq, Int.reduceEq, reduceCtorEq, h5, h5a, h5c, hb9, h17, h20, hg29, hg30, hg31, hg32]) (palinglaw2_alive_ok (of_true (by simp -implicitDefEqProofs -dsimp only [go_sem, ↓reduceIte, Nat.reduceAdd, Nat.reduceMul, Nat.reduceSub, Nat.reduceEqDiff, Nat.reduceLeDiff, Nat.reduceLT, Nat.reduceBEq, Int.reduceEq, reduceCtorEq, h5, h5a, h5c, hb9, h17, h20, hg29, hg30, hg31, hg32]) h28))) ?_
              try simp -implicitDefEqProofs -dsimp only [go_sem, ↓reduceIte, Nat.reduceAdd, Nat.reduceMul, Nat.reduceSub, Nat.reduceEqDiff, Nat.reduceLeDiff, Nat.reduceLT, Nat.reduceBEq, Int.reduceEq, reduceCtorEq, h5, h5a, h5c, hb9, h17, h20, hg29, hg30, hg31, hg32]
            · try simp -implicitDefEqProofs -dsimp only [go_sem, ↓reduceIte, Nat.reduceAdd, Nat.reduceMul, Nat.reduceSub, Nat.reduceEqDiff, Nat.reduceLeDiff, Nat.reduceLT, Nat.reduceBEq, Int.reduceEq, reduceCtorEq, h5, h5a, h5c, hb9, h17, h20, hg29, hg30, hg31, hg32]
          · try simp -implicitDefEqProofs -dsimp only [go_sem, ↓reduceIte, Nat.reduceAdd, Nat.reduceMul, Nat.reduceSub, Nat.reduceEqDiff, Nat.reduceLeDiff, Nat.reduceLT, Nat.reduceBEq, Int.reduceEq, reduceCtorEq, h5, h5a, h5c, hb9, h17, h20, hg29, hg30, hg31]
        · try simp -implicitDefEqProofs -dsimp only [go_sem, ↓reduceIte, Nat.reduceAdd, Nat.reduceMul, Nat.reduceSub, Nat.reduceEqDiff, Nat.reduceLeDiff, Nat.reduceLT, Nat.reduceBEq, Int.reduceEq, reduceCtorEq, h5, h5a, h5c, hb9, h17, h20, hg29, hg30]
      · try simp -implicitDefEqProofs -dsimp only [go_sem, ↓reduceIte, Nat.reduceAdd, Nat.reduceMul, Nat.reduceSub, Nat.reduceEqDiff, Nat.reduceLeDiff, Nat.reduceLT, Nat.reduceBEq, Int.reduceEq, reduceCtorEq, h5, h5a, h5c, hb9, h17, h20, hg29]
    obtain rfl := Option.some.inj hm
    refine W.ret ?_
    try simp only [thenQ_normal, thenQ_exit, thenQ_ret, blockQ_normal, blockQ_here, blockQ_ret, blockQ_exit, ↓reduceIte, Nat.reduceEqDiff]
    refine EndsF.retW [] ?_
    simp -implicitDefEqProofs -dsimp only [go_sem, ↓reduceIte, Nat.reduceAdd, Nat.reduceMul, Nat.reduceSub, Nat.reduceEqDiff, Nat.reduceLeDiff, Nat.reduceLT, Nat.reduceBEq, Int.reduceEq, reduceCtorEq, h5, h5a, h5c, hb9, h17, h20]

theorem palinglaw2_NumOrder_ok {p0 : Int} {p1 : Int} {r : Bool} (hm : palinglaw2_NumOrder p0 p1 = some r) : PureF Tryd.prog 11 [.int .i64 p0, .int .i64 p1] (.bool r) := by
  rw [palinglaw2_NumOrder] at hm
  refine PureF.of Tryd.func11 rfl Tryd.ntmps11 (Nat.le_of_ble_eq_true rfl) ?_
  have e0 : argS 0 [.int .i64 p0, .int .i64 p1] = [(0, .int .i64 p0), (1, .int .i64 p1)] := rfl
  rw [e0]
  refine W.seqR [] [(0, .int .i64 p0), (1, .int .i64 p1)] [] (by rfl) ?_ ?_
  · try simp -implicitDefEqProofs -dsimp only [go_sem, ↓reduceIte, Nat.reduceAdd, Nat.reduceMul, Nat.reduceSub, Nat.reduceEqDiff, Nat.reduceLeDiff, Nat.reduceLT, Nat.reduceBEq, Int.reduceEq, reduceCtorEq]
  refine W.seq ?_
  refine W.seqR [] [(0, .int .i64 p0), (1, .int .i64 p1), (12, .bool (decide (p0 < 0) || decide (p1 < 0)))] [] (by rfl) ?_ ?_
  · try simp -implicitDefEqProofs -dsimp only [go_sem, ↓reduceIte, Nat.reduceAdd, Nat.reduceMul, Nat.reduceSub, Nat.reduceEqDiff, Nat.reduceLeDiff, Nat.reduceLT, Nat.reduceBEq, Int.reduceEq, reduceCtorEq]
    refine onG_splitN (fun hg1 => ?_) (fun hg1 => ?_)
    · try simp -implicitDefEqProofs -dsimp only [go_sem, ↓reduceIte, Nat.reduceAdd, Nat.reduceMul, Nat.reduceSub, Nat.reduceEqDiff, Nat.reduceLeDiff, Nat.reduceLT, Nat.reduceBEq, Int.reduceEq, reduceCtorEq, hg1]
    · try simp -implicitDefEqProofs -dsimp only [go_sem, ↓reduceIte, Nat.reduceAdd, Nat.reduceMul, Nat.reduceSub, Nat.reduceEqDiff, Nat.reduceLeDiff, Nat.reduceLT, Nat.reduceBEq, Int.reduceEq, reduceCtorEq, hg1]
  refine W.cond (decide (p0 < 0) || decide (p1 < 0)) (by simp only [ev_tmp, get_cons, ↓reduceIte, Nat.reduceEqDiff]) (fun hb2 => ?_) (fun hb2 => ?_)
  · have hm := of_true hb2 hm
    obtain ⟨v3, h4, hm⟩ := of_bind hm
    refine W.seqR [] [(4, .bool v3)] [] (by rfl) ?_ ?_
    · try simp -implicitDefEqProofs -dsimp only [go_sem, ↓reduceIte, Nat.reduceAdd, Nat.reduceMul, Nat.reduceSub, Nat.reduceEqDiff, Nat.reduceLeDiff, Nat.reduceLT, Nat.reduceBEq, Int.reduceEq, reduceCtorEq, hb2]
      with_reducible refine exP.mk _ (callP.plain (by simp -implicitDefEqProofs -dsimp only [go_sem, ↓reduceIte, Nat.reduceAdd, Nat.reduceMul, Nat.reduceSub, Nat.reduceEqDiff, Nat.reduceLeDiff, Nat.reduceLT, Nat.reduceBEq, Int.reduceEq, reduceCtorEq, hb2]) (palinglaw2_alive_ok h4)) ?_
      try simp -implicitDefEqProofs -dsimp only [go_sem, ↓reduceIte, Nat.reduceAdd, Nat.reduceMul, Nat.reduceSub, Nat.reduceEqDiff, Nat.reduceLeDiff, Nat.reduceLT, Nat.reduceBEq, Int.reduceEq, reduceCtorEq, hb2]
    obtain rfl := Option.some.inj hm
    refine W.ret ?_
    try simp only [thenQ_normal, thenQ_exit, thenQ_ret, blockQ_normal, blockQ_here, blockQ_ret, blockQ_exit, ↓reduceIte, Nat.reduceEqDiff]
    refine EndsF.retW [] ?_
    simp -implicitDefEqProofs -dsimp only [go_sem, ↓reduceIte, Nat.reduceAdd, Nat.reduceMul, Nat.reduceSub, Nat.reduceEqDiff, Nat.reduceLeDiff, Nat.reduceLT, Nat.reduceBEq, Int.reduceEq, reduceCtorEq, hb2]
  · have hm := of_false hb2 hm
    refine W.skip ?_
    try simp only [thenQ_normal, thenQ_exit, thenQ_ret, blockQ_normal, blockQ_here, blockQ_ret, blockQ_exit, ↓reduceIte, Nat.reduceEqDiff]
    obtain ⟨v5, h6, hm⟩ := of_bind hm
    obtain ⟨v7, h8, hm⟩ := of_bind hm
    refine W.seqR [] [(0, .int .i64 p0), (1, .int .i64 p1), (5, .str v5), (6, .str v7)] [] (by rfl) ?_ ?_
    · try simp -implicitDefEqProofs -dsimp only [go_sem, ↓reduceIte, Nat.reduceAdd, Nat.reduceMul, Nat.reduceSub, Nat.reduceEqDiff, Nat.reduceLeDiff, Nat.reduceLT, Nat.reduceBEq, Int.reduceEq, reduceCtorEq, hb2]
      with_reducible refine exP.mk _ (callP.plain (by simp -implicitDefEqProofs -dsimp only [go_sem, ↓reduceIte, Nat.reduceAdd, Nat.reduceMul, Nat.reduceSub, Nat.reduceEqDiff, Nat.reduceLeDiff, Nat.reduceLT, Nat.reduceBEq, Int.reduceEq, reduceCtorEq, hb2]) (num_Text_ok h6)) ?_
      try simp -implicitDefEqProofs -dsimp only [go_sem, ↓reduceIte, Nat.reduceAdd, Nat.reduceMul, Nat.reduceSub, Nat.reduceEqDiff, Nat.reduceLeDiff, Nat.reduceLT, Nat.reduceBEq, Int.reduceEq, reduceCtorEq, hb2]
      with_reducible refine exP.mk _ (callP.plain (by simp -implicitDefEqProofs -dsimp only [go_sem, ↓reduceIte, Nat.reduceAdd, Nat.reduceMul, Nat.reduceSub, Nat.reduceEqDiff, Nat.reduceLeDiff, Nat.reduceLT, Nat.reduceBEq, Int.reduceEq, reduceCtorEq, hb2]) (num_Text_ok h8)) ?_
      try simp -implicitDefEqProofs -dsimp only [go_sem, ↓reduceIte, Nat.reduceAdd, Nat.reduceMul, Nat.reduceSub, Nat.reduceEqDiff, Nat.reduceLeDiff, Nat.reduceLT, Nat.reduceBEq, Int.reduceEq, reduceCtorEq, hb2]
    obtain ⟨v9, h10, hm⟩ := of_bind hm
    obtain ⟨b11, h12, hm⟩ := of_bind hm
    replace h12 := Option.some.inj h12
    refine W.seqR [] [(4, .bool b11)] [] (by rfl) ?_ ?_
    · try simp -implicitDefEqProofs -dsimp only [go_sem, ↓reduceIte, Nat.reduceAdd, Nat.reduceMul, Nat.reduceSub, Nat.reduceEqDiff, Nat.reduceLeDiff, Nat.reduceLT, Nat.reduceBEq, Int.reduceEq, reduceCtorEq, hb2, ← h12]
      refine onG_splitN (fun hg13 => ?_) (fun hg13 => ?_)
      · try simp -implicitDefEqProofs -dsimp only [go_sem, ↓reduceIte, Nat.reduceAdd, Nat.reduceMul, Nat.reduceSub, Nat.reduceEqDiff, Nat.reduceLeDiff, Nat.reduceLT, Nat.reduceBEq, Int.reduceEq, reduceCtorEq, hb2, hg13, ← h12]
        refine onG_split (fun hg14 => ?_) (fun hg14 => ?_)
        · try simp -implicitDefEqProofs -dsimp only [go_sem, ↓reduceIte, Nat.reduceAdd, Nat.reduceMul, Nat.reduceSub, Nat.reduceEqDiff, Nat.reduceLeDiff, Nat.reduceLT, Nat.reduceBEq, Int.reduceEq, reduceCtorEq, hb2, hg13, hg14, ← h12]
          refine onG_split (fun hg15 => ?_) (fun hg15 => ?_)
          · try simp -implicitDefEqProofs -dsimp only [go_sem, ↓reduceIte, Nat.reduceAdd, Nat.reduceMul, Nat.reduceSub, Nat.reduceEqDiff, Nat.reduceLeDiff, Nat.reduceLT, Nat.reduceBEq, Int.reduceEq, reduceCtorEq, hb2, hg13, hg14, hg15, ← h12]
            with_reducible refine exP.mk _ (callP.plain (by simp -implicitDefEqProofs -dsimp only [go_sem, ↓reduceIte, Nat.reduceAdd, Nat.reduceMul, Nat.reduceSub, Nat.reduceEqDiff, Nat.reduceLeDiff, Nat.reduceLT, Nat.reduceBEq, Int.reduceEq, reduceCtorEq, hb2, hg13, hg14, hg15, ← h12]) (palinglaw2_alive_ok (of_true (by simp -implicitDefEqProofs -dsimp only [go_sem, ↓reduceIte, Nat.reduceAdd, Nat.reduceMul, Nat.reduceSub, Nat.reduceEqDiff, Nat.reduceLeDiff, Nat.reduceLT, Nat.reduceBEq, Int.reduceEq, reduceCtorEq, hb2, hg13, hg14, hg15, ← h12]) h10))) ?_
            try simp -implicitDefEqProofs -dsimp only [go_sem, ↓reduceIte, Nat.reduceAdd, Nat.reduceMul, Nat.reduceSub, Nat.reduceEqDiff, Nat.reduceLeDiff, Nat.reduceLT, Nat.reduceBEq, Int.reduceEq, reduceCtorEq, hb2, hg13, hg14, hg15, ← h12]
          · try simp -implicitDefEqProofs -dsimp only [go_sem, ↓reduceIte, Nat.reduceAdd, Nat.reduceMul, Nat.reduceSub, Nat.reduceEqDiff, Nat.reduceLeDiff, Nat.reduceLT, Nat.reduceBEq, Int.reduceEq, reduceCtorEq, hb2, hg13, hg14, hg15, ← h12]
        · try simp -implicitDefEqProofs -dsimp only [go_sem, ↓reduceIte, Nat.reduceAdd, Nat.reduceMul, Nat.reduceSub, Nat.reduceEqDiff, Nat.reduceLeDiff, Nat.reduceLT, Nat.reduceBEq, Int.reduceEq, reduceCtorEq, hb2, hg13, hg14, ← h12]
          refine onG_split (fun hg16 => ?_) (fun hg16 => ?_)
          · try simp -implicitDefEqProofs -dsimp only [go_sem, ↓reduceIte, Nat.reduceAdd, Nat.reduceMul, Nat.reduceSub, Nat.reduceEqDiff, Nat.reduceLeDiff, Nat.reduceLT, Nat.reduceBEq, Int.reduceEq, reduceCtorEq, hb2, hg13, hg14, hg16, ← h12]
            with_reducible refine exP.mk _ (callP.plain (by simp -implicitDefEqProofs -dsimp only [go_sem, ↓reduceIte, Nat.reduceAdd, Nat.reduceMul, Nat.reduceSub, Nat.reduceEqDiff, Nat.reduceLeDiff, Nat.reduceLT, Nat.reduceBEq, Int.reduceEq, reduceCtorEq, hb2, hg13, hg14, hg16, ← h12]) (palinglaw2_alive_ok (of_true (by simp -implicitDefEqProofs -dsimp only [go_sem, ↓reduceIte, Nat.reduceAdd, Nat.reduceMul, Nat.reduceSub, Nat.reduceEqDiff, Nat.reduceLeDiff, Nat.reduceLT, Nat.reduceBEq, Int.reduceEq, reduceCtorEq, hb2, hg13, hg14, hg16, ← h12]) h10))) ?_
            try simp -implicitDefEqProofs -dsimp only [go_sem, ↓reduceIte, Nat.reduceAdd, Nat.reduceMul, Nat.reduceSub, Nat.reduceEqDiff, Nat.reduceLeDiff, Nat.reduceLT, Nat.reduceBEq, Int.reduceEq, reduceCtorEq, hb2, hg13, hg14, hg16, ← h12]
          · try simp -implicitDefEqProofs -dsimp only [go_sem, ↓reduceIte, Nat.reduceAdd, Nat.reduceMul, Nat.reduceSub, Nat.reduceEqDiff, Nat.reduceLeDiff, Nat.reduceLT, Nat.reduceBEq, Int.reduceEq, reduceCtorEq, hb2, hg13, hg14, hg16, ← h12]
      · try simp -implicitDefEqProofs -dsimp only [go_sem, ↓reduceIte, Nat.reduceAdd, Nat.reduceMul, Nat.reduceSub, Nat.reduceEqDiff, Nat.reduceLeDiff, Nat.reduceLT, Nat.reduceBEq, Int.reduceEq, reduceCtorEq, hb2, hg13, ← h12]
        refine onG_split (fun hg17 => ?_) (fun hg17 => ?_)
        · try simp -implicitDefEqProofs -dsimp only [go_sem, ↓reduceIte, Nat.reduceAdd, Nat.reduceMul, Nat.reduceSub, Nat.reduceEqDiff, Nat.reduceLeDiff, Nat.reduceLT, Nat.reduceBEq, Int.reduceEq, reduceCtorEq, hb2, hg13, hg17, ← h12]
          with_reducible refine exP.mk _ (callP.plain (by simp -implicitDefEqProofs -dsimp only [go_sem, ↓reduceIte, Nat.reduceAdd, Nat.reduceMul, Nat.reduceSub, Nat.reduceEqDiff, Nat.reduceLeDiff, Nat.reduceLT, Nat.reduceBEq, Int.reduceEq, reduceCtorEq, hb2, hg13, hg17, ← h12]) (palinglaw2_alive_ok (of_true (by simp -implicitDefEqProofs -dsimp only [go_sem, ↓reduceIte, Nat.reduceAdd, Nat.reduceMul, Nat.reduceSub, Nat.reduceEqDiff, Nat.reduceLeDiff, Nat.reduceLT, Nat.reduceBEq, Int.reduceEq, reduceCtorEq, hb2, hg13, hg17, ← h12]) h10))) ?_
          try simp -implicitDefEqProofs -dsimp only [go_sem, ↓reduceIte, Nat.reduceAdd, Nat.reduceMul, Nat.reduceSub, Nat.reduceEqDiff, Nat.reduceLeDiff, Nat.reduceLT, Nat.reduceBEq, Int.reduceEq, reduceCtorEq, hb2, hg13, hg17, ← h12]
        · try simp -implicitDefEqProofs -dsimp only [go_sem, ↓reduceIte, Nat.reduceAdd, Nat.reduceMul, Nat.reduceSub, Nat.reduceEqDiff, Nat.reduceLeDiff, Nat.reduceLT, Nat.reduceBEq, Int.reduceEq, reduceCtorEq, hb2, hg13, hg17, ← h12]
    obtain rfl := Option.some.inj hm
    refine W.ret ?_
    try simp only [thenQ_normal, thenQ_exit, thenQ_ret, blockQ_normal, blockQ_here, blockQ_ret, blockQ_exit, ↓reduceIte, Nat.reduceEqDiff]
    refine EndsF.retW [] ?_
    simp -implicitDefEqProofs -dsimp only [go_sem, ↓reduceIte, Nat.reduceAdd, Nat.reduceMul, Nat.reduceSub, Nat.reduceEqDiff, Nat.reduceLeDiff, Nat.reduceLT, Nat.reduceBEq, Int.reduceEq, reduceCtorEq, hb2]

end Go.Proofs.YtmilckfhlldboaaDoor
