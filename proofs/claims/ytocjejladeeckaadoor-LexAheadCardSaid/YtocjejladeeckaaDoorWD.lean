import Derived.Test.YtocjejladeeckaaDoorVFacts
import Derived.Test.YtocjejladeeckaaDoorPalD
import Derived.Test.YtocjejladeeckaaDoorWC
import Derived.Test.YtocjejladeeckaaDoorWB
import Derived.Test.YtocjejladeeckaaDoorWA
import Derived.Test.YtocjejladeeckaaDoorWNum
import Derived.Test.YtocjejladeeckaaDoorWUtf
set_option maxRecDepth 100000
set_option linter.unusedSimpArgs false
set_option linter.unusedVariables false
set_option linter.unusedSectionVars false
namespace Go.Proofs.YtocjejladeeckaaDoor
open Go.Vs
variable [TabU]
theorem palinglaw5_alive_ok {r : Bool} (hm : palinglaw5_alive  = some r) : PureF Tryd.prog 19 [] (.bool r) := by
  rw [palinglaw5_alive] at hm
  refine PureF.of Tryd.func19 rfl Tryd.ntmps19 (Nat.le_of_ble_eq_true rfl) ?_
  have e0 : argS 0 [] = [] := rfl
  rw [e0]
  refine W.seqR [] [] [] (by rfl) ?_ ?_
  · try simp -implicitDefEqProofs -dsimp only [go_sem, ↓reduceIte, Nat.reduceAdd, Nat.reduceMul, Nat.reduceSub, Nat.reduceEqDiff, Nat.reduceLeDiff, Nat.reduceLT, Nat.reduceBEq, Int.reduceEq, reduceCtorEq]
  obtain ⟨v1, h2, hm⟩ := of_bind hm
  refine W.seqR [] [(1, .sl (v1.1.map e_api_Token)), (2, .ptr 0 0 0)] [.cells [.int .i64 v1.2.Code, .int .i64 v1.2.Line, .int .i64 v1.2.Col] 0 26] (by rfl) ?_ ?_
  · try simp -implicitDefEqProofs -dsimp only [go_sem, ↓reduceIte, Nat.reduceAdd, Nat.reduceMul, Nat.reduceSub, Nat.reduceEqDiff, Nat.reduceLeDiff, Nat.reduceLT, Nat.reduceBEq, Int.reduceEq, reduceCtorEq]
    with_reducible refine exP.mk _ (callP.plain (by simp -implicitDefEqProofs -dsimp only [go_sem, ↓reduceIte, Nat.reduceAdd, Nat.reduceMul, Nat.reduceSub, Nat.reduceEqDiff, Nat.reduceLeDiff, Nat.reduceLT, Nat.reduceBEq, Int.reduceEq, reduceCtorEq]) (lex_Tokens_ok h2)) ?_
    try simp -implicitDefEqProofs -dsimp only [go_sem, ↓reduceIte, Nat.reduceAdd, Nat.reduceMul, Nat.reduceSub, Nat.reduceEqDiff, Nat.reduceLeDiff, Nat.reduceLT, Nat.reduceBEq, Int.reduceEq, reduceCtorEq]
  obtain ⟨v3, h4, hm⟩ := of_bind hm
  refine W.seqR [] [(1, .sl (v1.1.map e_api_Token)), (2, .ptr 0 0 0), (4, .ptr 1 0 0)] [.cells [.int .i64 v1.2.Code, .int .i64 v1.2.Line, .int .i64 v1.2.Col] 0 26, .cells [.int .i64 v3.2.Code, .int .i64 v3.2.Line, .int .i64 v3.2.Col] 0 26] (by rfl) ?_ ?_
  · try simp -implicitDefEqProofs -dsimp only [go_sem, ↓reduceIte, Nat.reduceAdd, Nat.reduceMul, Nat.reduceSub, Nat.reduceEqDiff, Nat.reduceLeDiff, Nat.reduceLT, Nat.reduceBEq, Int.reduceEq, reduceCtorEq]
    with_reducible refine exP.mk _ (callP.plain (by simp -implicitDefEqProofs -dsimp only [go_sem, ↓reduceIte, Nat.reduceAdd, Nat.reduceMul, Nat.reduceSub, Nat.reduceEqDiff, Nat.reduceLeDiff, Nat.reduceLT, Nat.reduceBEq, Int.reduceEq, reduceCtorEq]) (lex_Tokens_ok h4)) ?_
    try simp -implicitDefEqProofs -dsimp only [go_sem, ↓reduceIte, Nat.reduceAdd, Nat.reduceMul, Nat.reduceSub, Nat.reduceEqDiff, Nat.reduceLeDiff, Nat.reduceLT, Nat.reduceBEq, Int.reduceEq, reduceCtorEq]
  obtain ⟨h5, hm⟩ := of_ite hm
  obtain ⟨h6, hm⟩ := of_ite hm
  obtain ⟨b7, h8, hm⟩ := of_bind hm
  replace h8 := Option.some.inj h8
  refine W.seqR [] [(0, .bool b7)] [] (by rfl) ?_ ?_
  · try simp -implicitDefEqProofs -dsimp only [go_sem, ↓reduceIte, Nat.reduceAdd, Nat.reduceMul, Nat.reduceSub, Nat.reduceEqDiff, Nat.reduceLeDiff, Nat.reduceLT, Nat.reduceBEq, Int.reduceEq, reduceCtorEq, h5, h6, ← h8]
    refine onG_split (fun hg9 => ?_) (fun hg9 => ?_)
    · try simp -implicitDefEqProofs -dsimp only [go_sem, ↓reduceIte, Nat.reduceAdd, Nat.reduceMul, Nat.reduceSub, Nat.reduceEqDiff, Nat.reduceLeDiff, Nat.reduceLT, Nat.reduceBEq, Int.reduceEq, reduceCtorEq, h5, h6, hg9, ← h8]
      refine onG_split (fun hg10 => ?_) (fun hg10 => ?_)
      · try simp -implicitDefEqProofs -dsimp only [go_sem, ↓reduceIte, Nat.reduceAdd, Nat.reduceMul, Nat.reduceSub, Nat.reduceEqDiff, Nat.reduceLeDiff, Nat.reduceLT, Nat.reduceBEq, Int.reduceEq, reduceCtorEq, h5, h6, hg9, hg10, ← h8]
        refine onG_split (fun hg11 => ?_) (fun hg11 => ?_)
        · try simp -implicitDefEqProofs -dsimp only [go_sem, ↓reduceIte, Nat.reduceAdd, Nat.reduceMul, Nat.reduceSub, Nat.reduceEqDiff, Nat.reduceLeDiff, Nat.reduceLT, Nat.reduceBEq, Int.reduceEq, reduceCtorEq, h5, h6, hg9, hg10, hg11, ← h8]
          refine onG_split (fun hg12 => ?_) (fun hg12 => ?_)
          · try simp -implicitDefEqProofs -dsimp only [go_sem, ↓reduceIte, Nat.reduceAdd, Nat.reduceMul, Nat.reduceSub, Nat.reduceEqDiff, Nat.reduceLeDiff, Nat.reduceLT, Nat.reduceBEq, Int.reduceEq, reduceCtorEq, h5, h6, hg9, hg10, hg11, hg12, ← h8]
          · try simp -implicitDefEqProofs -dsimp only [go_sem, ↓reduceIte, Nat.reduceAdd, Nat.reduceMul, Nat.reduceSub, Nat.reduceEqDiff, Nat.reduceLeDiff, Nat.reduceLT, Nat.reduceBEq, Int.reduceEq, reduceCtorEq, h5, h6, hg9, hg10, hg11, hg12, ← h8]
        · try simp -implicitDefEqProofs -dsimp only [go_sem, ↓reduceIte, Nat.reduceAdd, Nat.reduceMul, Nat.reduceSub, Nat.reduceEqDiff, Nat.reduceLeDiff, Nat.reduceLT, Nat.reduceBEq, Int.reduceEq, reduceCtorEq, h5, h6, hg9, hg10, hg11, ← h8]
      · try simp -implicitDefEqProofs -dsimp only [go_sem, ↓reduceIte, Nat.reduceAdd, Nat.reduceMul, Nat.reduceSub, Nat.reduceEqDiff, Nat.reduceLeDiff, Nat.reduceLT, Nat.reduceBEq, Int.reduceEq, reduceCtorEq, h5, h6, hg9, hg10, ← h8]
    · try simp -implicitDefEqProofs -dsimp only [go_sem, ↓reduceIte, Nat.reduceAdd, Nat.reduceMul, Nat.reduceSub, Nat.reduceEqDiff, Nat.reduceLeDiff, Nat.reduceLT, Nat.reduceBEq, Int.reduceEq, reduceCtorEq, h5, h6, hg9, ← h8]
  obtain rfl := Option.some.inj hm
  refine W.ret ?_
  try simp only [thenQ_normal, thenQ_exit, thenQ_ret, blockQ_normal, blockQ_here, blockQ_ret, blockQ_exit, ↓reduceIte, Nat.reduceEqDiff]
  refine EndsF.retW [] ?_
  simp -implicitDefEqProofs -dsimp only [go_sem, ↓reduceIte, Nat.reduceAdd, Nat.reduceMul, Nat.reduceSub, Nat.reduceEqDiff, Nat.reduceLeDiff, Nat.reduceLT, Nat.reduceBEq, Int.reduceEq, reduceCtorEq, h5, h6]

theorem palinglaw5_LexTells_ok {p0 : ByteArray} {r : Bool} (hm : palinglaw5_LexTells p0 = some r) : PureF Tryd.prog 3 [.str p0] (.bool r) := by
  rw [palinglaw5_LexTells] at hm
  refine PureF.of Tryd.func3 rfl Tryd.ntmps3 (Nat.le_of_ble_eq_true rfl) ?_
  have e0 : argS 0 [.str p0] = [(0, .str p0)] := rfl
  rw [e0]
  refine W.seqR [] [(0, .str p0)] [] (by rfl) ?_ ?_
  · try simp -implicitDefEqProofs -dsimp only [go_sem, ↓reduceIte, Nat.reduceAdd, Nat.reduceMul, Nat.reduceSub, Nat.reduceEqDiff, Nat.reduceLeDiff, Nat.reduceLT, Nat.reduceBEq, Int.reduceEq, reduceCtorEq]
  obtain ⟨v1, h2, hm⟩ := of_bind hm
  refine W.seqR [] [(0, .str v1)] [] (by rfl) ?_ ?_
  · try simp -implicitDefEqProofs -dsimp only [go_sem, ↓reduceIte, Nat.reduceAdd, Nat.reduceMul, Nat.reduceSub, Nat.reduceEqDiff, Nat.reduceLeDiff, Nat.reduceLT, Nat.reduceBEq, Int.reduceEq, reduceCtorEq]
    with_reducible refine exP.mk _ (callP.plain (by simp -implicitDefEqProofs -dsimp only [go_sem, ↓reduceIte, Nat.reduceAdd, Nat.reduceMul, Nat.reduceSub, Nat.reduceEqDiff, Nat.reduceLeDiff, Nat.reduceLT, Nat.reduceBEq, Int.reduceEq, reduceCtorEq]) (palingbook_Short_ok h2)) ?_
    try simp -implicitDefEqProofs -dsimp only [go_sem, ↓reduceIte, Nat.reduceAdd, Nat.reduceMul, Nat.reduceSub, Nat.reduceEqDiff, Nat.reduceLeDiff, Nat.reduceLT, Nat.reduceBEq, Int.reduceEq, reduceCtorEq]
  obtain ⟨v3, h4, hm⟩ := of_bind hm
  refine W.seqR [] [(0, .str v1), (3, .sl (v3.1.map e_api_Token)), (4, .ptr 0 0 0)] [.cells [.int .i64 v3.2.Code, .int .i64 v3.2.Line, .int .i64 v3.2.Col] 0 26] (by rfl) ?_ ?_
  · try simp -implicitDefEqProofs -dsimp only [go_sem, ↓reduceIte, Nat.reduceAdd, Nat.reduceMul, Nat.reduceSub, Nat.reduceEqDiff, Nat.reduceLeDiff, Nat.reduceLT, Nat.reduceBEq, Int.reduceEq, reduceCtorEq]
    with_reducible refine exP.mk _ (callP.plain (by simp -implicitDefEqProofs -dsimp only [go_sem, ↓reduceIte, Nat.reduceAdd, Nat.reduceMul, Nat.reduceSub, Nat.reduceEqDiff, Nat.reduceLeDiff, Nat.reduceLT, Nat.reduceBEq, Int.reduceEq, reduceCtorEq]) (lex_Tokens_ok h4)) ?_
    try simp -implicitDefEqProofs -dsimp only [go_sem, ↓reduceIte, Nat.reduceAdd, Nat.reduceMul, Nat.reduceSub, Nat.reduceEqDiff, Nat.reduceLeDiff, Nat.reduceLT, Nat.reduceBEq, Int.reduceEq, reduceCtorEq]
  obtain ⟨v5, h6, hm⟩ := of_bind hm
  refine W.seqR [] [(3, .sl (v3.1.map e_api_Token)), (4, .ptr 0 0 0), (5, .sl (v5.1.map e_api_Token)), (6, .ptr 1 0 0)] [.cells [.int .i64 v3.2.Code, .int .i64 v3.2.Line, .int .i64 v3.2.Col] 0 26, .cells [.int .i64 v5.2.Code, .int .i64 v5.2.Line, .int .i64 v5.2.Col] 0 26] (by rfl) ?_ ?_
  · try simp -implicitDefEqProofs -dsimp only [go_sem, ↓reduceIte, Nat.reduceAdd, Nat.reduceMul, Nat.reduceSub, Nat.reduceEqDiff, Nat.reduceLeDiff, Nat.reduceLT, Nat.reduceBEq, Int.reduceEq, reduceCtorEq]
    with_reducible refine exP.mk _ (callP.plain (by simp -implicitDefEqProofs -dsimp only [go_sem, ↓reduceIte, Nat.reduceAdd, Nat.reduceMul, Nat.reduceSub, Nat.reduceEqDiff, Nat.reduceLeDiff, Nat.reduceLT, Nat.reduceBEq, Int.reduceEq, reduceCtorEq]) (palingref1_Tokens_ok h6)) ?_
    try simp -implicitDefEqProofs -dsimp only [go_sem, ↓reduceIte, Nat.reduceAdd, Nat.reduceMul, Nat.reduceSub, Nat.reduceEqDiff, Nat.reduceLeDiff, Nat.reduceLT, Nat.reduceBEq, Int.reduceEq, reduceCtorEq]
  obtain ⟨v7, h8, hm⟩ := of_bind hm
  obtain ⟨v9, h10, hm⟩ := of_bind hm
  obtain ⟨b11, h12, hm⟩ := of_bind hm
  replace h12 := Option.some.inj h12
  refine W.seqR [] [(2, .bool b11)] [] (by rfl) ?_ ?_
  · try simp -implicitDefEqProofs -dsimp only [go_sem, ↓reduceIte, Nat.reduceAdd, Nat.reduceMul, Nat.reduceSub, Nat.reduceEqDiff, Nat.reduceLeDiff, Nat.reduceLT, Nat.reduceBEq, Int.reduceEq, reduceCtorEq, ← h12]
    with_reducible refine exP.mk _ (callP.plain (by simp -implicitDefEqProofs -dsimp only [go_sem, ↓reduceIte, Nat.reduceAdd, Nat.reduceMul, Nat.reduceSub, Nat.reduceEqDiff, Nat.reduceLeDiff, Nat.reduceLT, Nat.reduceBEq, Int.reduceEq, reduceCtorEq, ← h12]) (palingbook_SameTokens_ok h8)) ?_
    try simp -implicitDefEqProofs -dsimp only [go_sem, ↓reduceIte, Nat.reduceAdd, Nat.reduceMul, Nat.reduceSub, Nat.reduceEqDiff, Nat.reduceLeDiff, Nat.reduceLT, Nat.reduceBEq, Int.reduceEq, reduceCtorEq, ← h12]
    refine onG_split (fun hg13 => ?_) (fun hg13 => ?_)
    · try simp -implicitDefEqProofs -dsimp only [go_sem, ↓reduceIte, Nat.reduceAdd, Nat.reduceMul, Nat.reduceSub, Nat.reduceEqDiff, Nat.reduceLeDiff, Nat.reduceLT, Nat.reduceBEq, Int.reduceEq, reduceCtorEq, hg13, ← h12]
      refine onG_split (fun hg14 => ?_) (fun hg14 => ?_)
      · try simp -implicitDefEqProofs -dsimp only [go_sem, ↓reduceIte, Nat.reduceAdd, Nat.reduceMul, Nat.reduceSub, Nat.reduceEqDiff, Nat.reduceLeDiff, Nat.reduceLT, Nat.reduceBEq, Int.reduceEq, reduceCtorEq, hg13, hg14, ← h12]
        with_reducible refine exP.mk _ (callP.plain (by simp -implicitDefEqProofs -dsimp only [go_sem, ↓reduceIte, Nat.reduceAdd, Nat.reduceMul, Nat.reduceSub, Nat.reduceEqDiff, Nat.reduceLeDiff, Nat.reduceLT, Nat.reduceBEq, Int.reduceEq, reduceCtorEq, hg13, hg14, ← h12]) (palinglaw5_alive_ok (of_true (by simp -implicitDefEqProofs -dsimp only [go_sem, ↓reduceIte, Nat.reduceAdd, Nat.reduceMul, Nat.reduceSub, Nat.reduceEqDiff, Nat.reduceLeDiff, Nat.reduceLT, Nat.reduceBEq, Int.reduceEq, reduceCtorEq, hg13, hg14, ← h12]) h10))) ?_
        try simp -implicitDefEqProofs -dsimp only [go_sem, ↓reduceIte, Nat.reduceAdd, Nat.reduceMul, Nat.reduceSub, Nat.reduceEqDiff, Nat.reduceLeDiff, Nat.reduceLT, Nat.reduceBEq, Int.reduceEq, reduceCtorEq, hg13, hg14, ← h12]
      · try simp -implicitDefEqProofs -dsimp only [go_sem, ↓reduceIte, Nat.reduceAdd, Nat.reduceMul, Nat.reduceSub, Nat.reduceEqDiff, Nat.reduceLeDiff, Nat.reduceLT, Nat.reduceBEq, Int.reduceEq, reduceCtorEq, hg13, hg14, ← h12]
    · try simp -implicitDefEqProofs -dsimp only [go_sem, ↓reduceIte, Nat.reduceAdd, Nat.reduceMul, Nat.reduceSub, Nat.reduceEqDiff, Nat.reduceLeDiff, Nat.reduceLT, Nat.reduceBEq, Int.reduceEq, reduceCtorEq, hg13, ← h12]
  obtain rfl := Option.some.inj hm
  refine W.ret ?_
  try simp only [thenQ_normal, thenQ_exit, thenQ_ret, blockQ_normal, blockQ_here, blockQ_ret, blockQ_exit, ↓reduceIte, Nat.reduceEqDiff]
  refine EndsF.retW [] ?_
  simp -implicitDefEqProofs -dsimp only [go_sem, ↓reduceIte, Nat.reduceAdd, Nat.reduceMul, Nat.reduceSub, Nat.reduceEqDiff, Nat.reduceLeDiff, Nat.reduceLT, Nat.reduceBEq, Int.reduceEq, reduceCtorEq]

end Go.Proofs.YtocjejladeeckaaDoor
