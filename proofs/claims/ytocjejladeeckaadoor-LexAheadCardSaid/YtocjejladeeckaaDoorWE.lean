import Derived.Test.YtocjejladeeckaaDoorVFacts
import Derived.Test.YtocjejladeeckaaDoorPalE
import Derived.Test.YtocjejladeeckaaDoorWD
import Derived.Test.YtocjejladeeckaaDoorWC
import Derived.Test.YtocjejladeeckaaDoorWB
import Derived.Test.YtocjejladeeckaaDoorWA
import Derived.Test.YtocjejladeeckaaDoorWNum
import Derived.Test.YtocjejladeeckaaDoorWUtf
set_option maxRecDepth 100000
set_option linter.unusedSimpArgs false
set_option linter.unusedVariables false
set_option linter.unusedSectionVars false
namespace Go.Proofs.YtocjejladeeckaaDoor
open Go.Vs
variable [TabU]
theorem palinglaw5_LexAhead_ok {p0 : ByteArray} {r : Bool} (hm : palinglaw5_LexAhead p0 = some r) : PureF Tryd.prog 6 [.str p0] (.bool r) := by
  rw [palinglaw5_LexAhead] at hm
  refine PureF.of Tryd.func6 rfl Tryd.ntmps6 (Nat.le_of_ble_eq_true rfl) ?_
  have e0 : argS 0 [.str p0] = [(0, .str p0)] := rfl
  rw [e0]
  refine W.seqR [] [(0, .str p0)] [] (by rfl) ?_ ?_
  · try simp -implicitDefEqProofs -dsimp only [go_sem, ↓reduceIte, Nat.reduceAdd, Nat.reduceMul, Nat.reduceSub, Nat.reduceEqDiff, Nat.reduceLeDiff, Nat.reduceLT, Nat.reduceBEq, Int.reduceEq, reduceCtorEq]
  obtain ⟨v1, h2, hm⟩ := of_bind hm
  refine W.seqR [] [(0, .str v1)] [] (by rfl) ?_ ?_
  · try simp -implicitDefEqProofs -dsimp only [go_sem, ↓reduceIte, Nat.reduceAdd, Nat.reduceMul, Nat.reduceSub, Nat.reduceEqDiff, Nat.reduceLeDiff, Nat.reduceLT, Nat.reduceBEq, Int.reduceEq, reduceCtorEq]
    with_reducible refine exP.mk _ (callP.plain (by simp -implicitDefEqProofs -dsimp only [go_sem, ↓reduceIte, Nat.reduceAdd, Nat.reduceMul, Nat.reduceSub, Nat.reduceEqDiff, Nat.reduceLeDiff, Nat.reduceLT, Nat.reduceBEq, Int.reduceEq, reduceCtorEq]) (palingbook_Short_ok h2)) ?_
    try simp -implicitDefEqProofs -dsimp only [go_sem, ↓reduceIte, Nat.reduceAdd, Nat.reduceMul, Nat.reduceSub, Nat.reduceEqDiff, Nat.reduceLeDiff, Nat.reduceLT, Nat.reduceBEq, Int.reduceEq, reduceCtorEq]
  obtain ⟨v3, h4, hm⟩ := of_bind hm
  refine W.seqR [] [(0, .str v1), (4, .ptr 0 0 0)] [.cells [.int .i64 v3.2.Code, .int .i64 v3.2.Line, .int .i64 v3.2.Col] 0 26] (by rfl) ?_ ?_
  · try simp -implicitDefEqProofs -dsimp only [go_sem, ↓reduceIte, Nat.reduceAdd, Nat.reduceMul, Nat.reduceSub, Nat.reduceEqDiff, Nat.reduceLeDiff, Nat.reduceLT, Nat.reduceBEq, Int.reduceEq, reduceCtorEq]
    with_reducible refine exP.mk _ (callP.plain (by simp -implicitDefEqProofs -dsimp only [go_sem, ↓reduceIte, Nat.reduceAdd, Nat.reduceMul, Nat.reduceSub, Nat.reduceEqDiff, Nat.reduceLeDiff, Nat.reduceLT, Nat.reduceBEq, Int.reduceEq, reduceCtorEq]) (lex_Tokens_ok h4)) ?_
    try simp -implicitDefEqProofs -dsimp only [go_sem, ↓reduceIte, Nat.reduceAdd, Nat.reduceMul, Nat.reduceSub, Nat.reduceEqDiff, Nat.reduceLeDiff, Nat.reduceLT, Nat.reduceBEq, Int.reduceEq, reduceCtorEq]
  refine W.seq ?_
  refine W.seqR [] [(0, .str v1), (4, .ptr 0 0 0), (18, .bool (v3.2.Code == 0))] [.cells [.int .i64 v3.2.Code, .int .i64 v3.2.Line, .int .i64 v3.2.Col] 0 26] (by rfl) ?_ ?_
  · try simp -implicitDefEqProofs -dsimp only [go_sem, ↓reduceIte, Nat.reduceAdd, Nat.reduceMul, Nat.reduceSub, Nat.reduceEqDiff, Nat.reduceLeDiff, Nat.reduceLT, Nat.reduceBEq, Int.reduceEq, reduceCtorEq]
  refine W.cond (v3.2.Code == 0) (by simp only [ev_tmp, get_cons, ↓reduceIte, Nat.reduceEqDiff]) (fun hb5 => ?_) (fun hb5 => ?_)
  · have hm := of_true hb5 hm
    obtain ⟨v6, h7, hm⟩ := of_bind hm
    refine W.seqR [] [(2, .bool v6)] [] (by rfl) ?_ ?_
    · try simp -implicitDefEqProofs -dsimp only [go_sem, ↓reduceIte, Nat.reduceAdd, Nat.reduceMul, Nat.reduceSub, Nat.reduceEqDiff, Nat.reduceLeDiff, Nat.reduceLT, Nat.reduceBEq, Int.reduceEq, reduceCtorEq, hb5]
      with_reducible refine exP.mk _ (callP.plain (by simp -implicitDefEqProofs -dsimp only [go_sem, ↓reduceIte, Nat.reduceAdd, Nat.reduceMul, Nat.reduceSub, Nat.reduceEqDiff, Nat.reduceLeDiff, Nat.reduceLT, Nat.reduceBEq, Int.reduceEq, reduceCtorEq, hb5]) (by have hk := palinglaw5_alive_ok h7; (try simp only [hb5] at hk); exact hk)) ?_
      try simp -implicitDefEqProofs -dsimp only [go_sem, ↓reduceIte, Nat.reduceAdd, Nat.reduceMul, Nat.reduceSub, Nat.reduceEqDiff, Nat.reduceLeDiff, Nat.reduceLT, Nat.reduceBEq, Int.reduceEq, reduceCtorEq, hb5]
    obtain rfl := Option.some.inj hm
    refine W.ret ?_
    try simp only [thenQ_normal, thenQ_exit, thenQ_ret, blockQ_normal, blockQ_here, blockQ_ret, blockQ_exit, ↓reduceIte, Nat.reduceEqDiff]
    refine EndsF.retW [] ?_
    simp -implicitDefEqProofs -dsimp only [go_sem, ↓reduceIte, Nat.reduceAdd, Nat.reduceMul, Nat.reduceSub, Nat.reduceEqDiff, Nat.reduceLeDiff, Nat.reduceLT, Nat.reduceBEq, Int.reduceEq, reduceCtorEq, hb5]
  · have hm := of_false hb5 hm
    refine W.skip ?_
    try simp only [thenQ_normal, thenQ_exit, thenQ_ret, blockQ_normal, blockQ_here, blockQ_ret, blockQ_exit, ↓reduceIte, Nat.reduceEqDiff]
    obtain ⟨v8, h9, hm⟩ := of_bind hm
    refine W.seqR [] [(0, .str v1), (4, .ptr 0 0 0), (5, .sl (v8.map e_palingref1_Spot))] [.cells [.int .i64 v3.2.Code, .int .i64 v3.2.Line, .int .i64 v3.2.Col] 0 26] (by rfl) ?_ ?_
    · try simp -implicitDefEqProofs -dsimp only [go_sem, ↓reduceIte, Nat.reduceAdd, Nat.reduceMul, Nat.reduceSub, Nat.reduceEqDiff, Nat.reduceLeDiff, Nat.reduceLT, Nat.reduceBEq, Int.reduceEq, reduceCtorEq, hb5]
      with_reducible refine exP.mk _ (callP.plain (by simp -implicitDefEqProofs -dsimp only [go_sem, ↓reduceIte, Nat.reduceAdd, Nat.reduceMul, Nat.reduceSub, Nat.reduceEqDiff, Nat.reduceLeDiff, Nat.reduceLT, Nat.reduceBEq, Int.reduceEq, reduceCtorEq, hb5]) (by have hk := palingref1_Spots_ok h9; (try simp only [hb5] at hk); exact hk)) ?_
      try simp -implicitDefEqProofs -dsimp only [go_sem, ↓reduceIte, Nat.reduceAdd, Nat.reduceMul, Nat.reduceSub, Nat.reduceEqDiff, Nat.reduceLeDiff, Nat.reduceLT, Nat.reduceBEq, Int.reduceEq, reduceCtorEq, hb5]
    refine W.seq ?_
    refine W.seqR [] [(0, .str v1), (4, .ptr 0 0 0), (5, .sl (v8.map e_palingref1_Spot)), (6, .int .i64 0)] [.cells [.int .i64 v3.2.Code, .int .i64 v3.2.Line, .int .i64 v3.2.Col] 0 26] (by rfl) ?_ ?_
    · try simp -implicitDefEqProofs -dsimp only [go_sem, ↓reduceIte, Nat.reduceAdd, Nat.reduceMul, Nat.reduceSub, Nat.reduceEqDiff, Nat.reduceLeDiff, Nat.reduceLT, Nat.reduceBEq, Int.reduceEq, reduceCtorEq, hb5]
    refine W.block ?_
    obtain ⟨r42, hlr42, hm⟩ := of_bind hm
    refine W.mono (Q := fun e0 s0 h0 => match r42 with | .inl e => e0 = .exit 0 ∧ ∃ w : Unit, s0 = [] ∧ h0 = [] | .inr q => e0 = .ret ∧ s0 = [(2, .bool q)] ∧ h0 = []) (W.loopM (step := palinglaw5_LexAhead_s1 v8 v3 v1) (a0 := 0) (fun (a : Int) (v : Unit) => ([(0, .str v1), (4, .ptr 0 0 0), (5, .sl (v8.map e_palingref1_Spot)), (6, .int .i64 a)], [.cells [.int .i64 v3.2.Code, .int .i64 v3.2.Line, .int .i64 v3.2.Col] 0 26])) () hlr42 [] (show AT 0 [] [(0, .str v1), (4, .ptr 0 0 0), (5, .sl (v8.map e_palingref1_Spot)), (6, .int .i64 0)] [.cells [.int .i64 v3.2.Code, .int .i64 v3.2.Line, .int .i64 v3.2.Col] 0 26] _ _ from by simp -implicitDefEqProofs -dsimp only [go_sem, ↓reduceIte, Nat.reduceAdd, Nat.reduceMul, Nat.reduceSub, Nat.reduceEqDiff, Nat.reduceLeDiff, Nat.reduceLT, Nat.reduceBEq, Int.reduceEq, reduceCtorEq, hb5]) ?_) ?_
    · rintro i31 _ x hm hx
      rw [palinglaw5_LexAhead_s1] at hm
      show WK _ _ _ _ _ [(0, .str v1), (4, .ptr 0 0 0), (5, .sl (v8.map e_palingref1_Spot)), (6, .int .i64 i31)] [.cells [.int .i64 v3.2.Code, .int .i64 v3.2.Line, .int .i64 v3.2.Col] 0 26]
      refine W.seq ?_
      refine W.seqR [] [(0, .str v1), (4, .ptr 0 0 0), (5, .sl (v8.map e_palingref1_Spot)), (6, .int .i64 i31), (25, .bool (decide (i31 < (v8.length : Int))))] [.cells [.int .i64 v3.2.Code, .int .i64 v3.2.Line, .int .i64 v3.2.Col] 0 26] (by rfl) ?_ ?_
      · try simp -implicitDefEqProofs -dsimp only [go_sem, ↓reduceIte, Nat.reduceAdd, Nat.reduceMul, Nat.reduceSub, Nat.reduceEqDiff, Nat.reduceLeDiff, Nat.reduceLT, Nat.reduceBEq, Int.reduceEq, reduceCtorEq, hb5]
      refine W.cond (decide (i31 < (v8.length : Int))) (by simp only [ev_tmp, get_cons, ↓reduceIte, Nat.reduceEqDiff]) (fun hb43 => ?_) (fun hb43 => ?_)
      · have hm := of_true hb43 hm
        refine W.skip ?_
        try simp only [thenQ_normal, thenQ_exit, thenQ_ret, blockQ_normal, blockQ_here, blockQ_ret, blockQ_exit, ↓reduceIte, Nat.reduceEqDiff]
        refine W.seq ?_
        refine W.block ?_
        obtain ⟨h44, hm⟩ := of_ite hm
        obtain ⟨h45, hm⟩ := of_ite hm
        refine W.seqD [] [] [(0, .str v1), (4, .ptr 0 0 0), (5, .sl (v8.map e_palingref1_Spot)), (6, .int .i64 i31), (45, .bool (((rd v8 i31).Line == v3.2.Line) && ((rd v8 i31).Col == v3.2.Col)))] [.cells [.int .i64 v3.2.Code, .int .i64 v3.2.Line, .int .i64 v3.2.Col] 0 26] v_mixed (by rfl) (by kernel_rfl) (by kernel_rfl) ?_ ?_
        · try simp -implicitDefEqProofs -dsimp only [go_sem, ↓reduceIte, Nat.reduceAdd, Nat.reduceMul, Nat.reduceSub, Nat.reduceEqDiff, Nat.reduceLeDiff, Nat.reduceLT, Nat.reduceBEq, Int.reduceEq, reduceCtorEq, hb5, hb43, h44, h45]
          refine onG_split (fun hg46 => ?_) (fun hg46 => ?_)
          · try simp -implicitDefEqProofs -dsimp only [go_sem, ↓reduceIte, Nat.reduceAdd, Nat.reduceMul, Nat.reduceSub, Nat.reduceEqDiff, Nat.reduceLeDiff, Nat.reduceLT, Nat.reduceBEq, Int.reduceEq, reduceCtorEq, hb5, hb43, h44, h45, hg46]
          · try simp -implicitDefEqProofs -dsimp only [go_sem, ↓reduceIte, Nat.reduceAdd, Nat.reduceMul, Nat.reduceSub, Nat.reduceEqDiff, Nat.reduceLeDiff, Nat.reduceLT, Nat.reduceBEq, Int.reduceEq, reduceCtorEq, hb5, hb43, h44, h45, hg46]
        refine W.cond (((rd v8 i31).Line == v3.2.Line) && ((rd v8 i31).Col == v3.2.Col)) (by simp only [ev_tmp, get_cons, ↓reduceIte, Nat.reduceEqDiff]) (fun hb47 => ?_) (fun hb47 => ?_)
        · have hm := of_true hb47 hm
          obtain ⟨h48, hm⟩ := of_ite hm
          obtain ⟨h49, hm⟩ := of_ite hm
          obtain ⟨v50, h51, hm⟩ := of_bind hm
          refine W.seqR [] [(8, .ptr 1 0 0)] [.dead, .cells [.int .i64 v50.2.Code, .int .i64 v50.2.Line, .int .i64 v50.2.Col] 0 26] (by rfl) ?_ ?_
          · try simp -implicitDefEqProofs -dsimp only [go_sem, ↓reduceIte, Nat.reduceAdd, Nat.reduceMul, Nat.reduceSub, Nat.reduceEqDiff, Nat.reduceLeDiff, Nat.reduceLT, Nat.reduceBEq, Int.reduceEq, reduceCtorEq, hb5, hb43, h44, h45, hb47, h48, h49]
            with_reducible refine exP.mk _ (callP.plain (by simp -implicitDefEqProofs -dsimp only [go_sem, ↓reduceIte, Nat.reduceAdd, Nat.reduceMul, Nat.reduceSub, Nat.reduceEqDiff, Nat.reduceLeDiff, Nat.reduceLT, Nat.reduceBEq, Int.reduceEq, reduceCtorEq, hb5, hb43, h44, h45, hb47, h48, h49]) (by have hk := lex_Tokens_ok h51; (try simp only [hb5, hb43, hb47] at hk); exact hk)) ?_
            try simp -implicitDefEqProofs -dsimp only [go_sem, ↓reduceIte, Nat.reduceAdd, Nat.reduceMul, Nat.reduceSub, Nat.reduceEqDiff, Nat.reduceLeDiff, Nat.reduceLT, Nat.reduceBEq, Int.reduceEq, reduceCtorEq, hb5, hb43, h44, h45, hb47, h48, h49]
          obtain ⟨v52, h53, hm⟩ := of_bind hm
          refine W.seqR [] [(2, .bool (((v50.2.Code == 0) && ((v50.2.Line == 0) && (v50.2.Col == 0))) && v52))] [] (by rfl) ?_ ?_
          · try simp -implicitDefEqProofs -dsimp only [go_sem, ↓reduceIte, Nat.reduceAdd, Nat.reduceMul, Nat.reduceSub, Nat.reduceEqDiff, Nat.reduceLeDiff, Nat.reduceLT, Nat.reduceBEq, Int.reduceEq, reduceCtorEq, hb5, hb43, h44, h45, hb47, h48, h49]
            refine onG_split (fun hg54 => ?_) (fun hg54 => ?_)
            · try simp -implicitDefEqProofs -dsimp only [go_sem, ↓reduceIte, Nat.reduceAdd, Nat.reduceMul, Nat.reduceSub, Nat.reduceEqDiff, Nat.reduceLeDiff, Nat.reduceLT, Nat.reduceBEq, Int.reduceEq, reduceCtorEq, hb5, hb43, h44, h45, hb47, h48, h49, hg54]
              with_reducible refine exP.mk _ (callP.plain (by simp -implicitDefEqProofs -dsimp only [go_sem, ↓reduceIte, Nat.reduceAdd, Nat.reduceMul, Nat.reduceSub, Nat.reduceEqDiff, Nat.reduceLeDiff, Nat.reduceLT, Nat.reduceBEq, Int.reduceEq, reduceCtorEq, hb5, hb43, h44, h45, hb47, h48, h49, hg54]) (by have hk := palinglaw5_alive_ok (of_true (by simp -implicitDefEqProofs -dsimp only [go_sem, ↓reduceIte, Nat.reduceAdd, Nat.reduceMul, Nat.reduceSub, Nat.reduceEqDiff, Nat.reduceLeDiff, Nat.reduceLT, Nat.reduceBEq, Int.reduceEq, reduceCtorEq, hb5, hb43, h44, h45, hb47, h48, h49, hg54]) h53); (try simp only [hb5, hb43, hb47] at hk); exact hk)) ?_
              try simp -implicitDefEqProofs -dsimp only [go_sem, ↓reduceIte, Nat.reduceAdd, Nat.reduceMul, Nat.reduceSub, Nat.reduceEqDiff, Nat.reduceLeDiff, Nat.reduceLT, Nat.reduceBEq, Int.reduceEq, reduceCtorEq, hb5, hb43, h44, h45, hb47, h48, h49, hg54]
            · try simp -implicitDefEqProofs -dsimp only [go_sem, ↓reduceIte, Nat.reduceAdd, Nat.reduceMul, Nat.reduceSub, Nat.reduceEqDiff, Nat.reduceLeDiff, Nat.reduceLT, Nat.reduceBEq, Int.reduceEq, reduceCtorEq, hb5, hb43, h44, h45, hb47, h48, h49, hg54]
          obtain rfl := Option.some.inj hm
          obtain rfl := hx _ rfl
          refine W.weak [] (show AT 0 [] [(2, .bool (((v50.2.Code == 0) && ((v50.2.Line == 0) && (v50.2.Col == 0))) && v52))] [] _ _ from by simp -implicitDefEqProofs -dsimp only [go_sem, ↓reduceIte, Nat.reduceAdd, Nat.reduceMul, Nat.reduceSub, Nat.reduceEqDiff, Nat.reduceLeDiff, Nat.reduceLT, Nat.reduceBEq, Int.reduceEq, reduceCtorEq, hb5, hb43, h44, h45, hb47, h48, h49]) (W.ret (show _ ∧ _ from ⟨rfl, rfl, rfl⟩))
        · have hm := of_false hb47 hm
          refine W.skip ?_
          try simp only [thenQ_normal, thenQ_exit, thenQ_ret, blockQ_normal, blockQ_here, blockQ_ret, blockQ_exit, ↓reduceIte, Nat.reduceEqDiff]
          refine W.regL [] [(0, .str v1), (4, .ptr 0 0 0), (5, .sl (v8.map e_palingref1_Spot)), (6, .int .i64 (IntKind.wrap .i64 (i31 + 1)))] [.cells [.int .i64 v3.2.Code, .int .i64 v3.2.Line, .int .i64 v3.2.Col] 0 26] (by rfl) ?_ ?_
          · try simp -implicitDefEqProofs -dsimp only [go_sem, ↓reduceIte, Nat.reduceAdd, Nat.reduceMul, Nat.reduceSub, Nat.reduceEqDiff, Nat.reduceLeDiff, Nat.reduceLT, Nat.reduceBEq, Int.reduceEq, reduceCtorEq, hb5, hb43, h44, h45, hb47]
          try simp only [thenQ_normal, thenQ_exit, thenQ_ret, blockQ_normal, blockQ_here, blockQ_ret, blockQ_exit, ↓reduceIte, Nat.reduceEqDiff]
          obtain rfl := Option.some.inj hm
          exact ⟨(IntKind.wrap .i64 (i31 + 1)), (), [], rfl, (show AT 0 [] [(0, .str v1), (4, .ptr 0 0 0), (5, .sl (v8.map e_palingref1_Spot)), (6, .int .i64 (IntKind.wrap .i64 (i31 + 1)))] [.cells [.int .i64 v3.2.Code, .int .i64 v3.2.Line, .int .i64 v3.2.Col] 0 26] _ _ from by simp -implicitDefEqProofs -dsimp only [go_sem, ↓reduceIte, Nat.reduceAdd, Nat.reduceMul, Nat.reduceSub, Nat.reduceEqDiff, Nat.reduceLeDiff, Nat.reduceLT, Nat.reduceBEq, Int.reduceEq, reduceCtorEq, hb5, hb43, h44, h45, hb47])⟩
      · have hm := of_false hb43 hm
        obtain rfl := Option.some.inj hm
        obtain rfl := hx _ rfl
        refine W.weak [] (show AT 0 [] [] [] _ _ from by simp -implicitDefEqProofs -dsimp only [go_sem, ↓reduceIte, Nat.reduceAdd, Nat.reduceMul, Nat.reduceSub, Nat.reduceEqDiff, Nat.reduceLeDiff, Nat.reduceLT, Nat.reduceBEq, Int.reduceEq, reduceCtorEq, hb5, hb43]) (W.exit (show _ ∧ _ from ⟨rfl, (), rfl, rfl⟩))
    · intro e0 s0 h0 hq
      rcases r42 with er42 | qr42
      · obtain ⟨rfl, _, rfl, rfl⟩ := hq
        have hm := of_inl hm
        try simp only [thenQ_normal, thenQ_exit, thenQ_ret, blockQ_normal, blockQ_here, blockQ_ret, blockQ_exit, ↓reduceIte, Nat.reduceEqDiff]
        show WK _ _ _ _ _ [] []
        try simp only [thenQ_normal, thenQ_exit, thenQ_ret, blockQ_normal, blockQ_here, blockQ_ret, blockQ_exit, ↓reduceIte, Nat.reduceEqDiff]
        refine W.seqR [] [(2, .bool false)] [] (by rfl) ?_ ?_
        · try simp -implicitDefEqProofs -dsimp only [go_sem, ↓reduceIte, Nat.reduceAdd, Nat.reduceMul, Nat.reduceSub, Nat.reduceEqDiff, Nat.reduceLeDiff, Nat.reduceLT, Nat.reduceBEq, Int.reduceEq, reduceCtorEq, hb5]
        obtain rfl := Option.some.inj hm
        refine W.ret ?_
        try simp only [thenQ_normal, thenQ_exit, thenQ_ret, blockQ_normal, blockQ_here, blockQ_ret, blockQ_exit, ↓reduceIte, Nat.reduceEqDiff]
        refine EndsF.retW [] ?_
        simp -implicitDefEqProofs -dsimp only [go_sem, ↓reduceIte, Nat.reduceAdd, Nat.reduceMul, Nat.reduceSub, Nat.reduceEqDiff, Nat.reduceLeDiff, Nat.reduceLT, Nat.reduceBEq, Int.reduceEq, reduceCtorEq, hb5]
      · obtain ⟨rfl, rfl, rfl⟩ := hq
        have hm := of_inr hm
        obtain rfl := Option.some.inj hm
        try simp only [thenQ_normal, thenQ_exit, thenQ_ret, blockQ_normal, blockQ_here, blockQ_ret, blockQ_exit, ↓reduceIte, Nat.reduceEqDiff]
        refine EndsF.retW [] ?_
        simp -implicitDefEqProofs -dsimp only [go_sem, ↓reduceIte, Nat.reduceAdd, Nat.reduceMul, Nat.reduceSub, Nat.reduceEqDiff, Nat.reduceLeDiff, Nat.reduceLT, Nat.reduceBEq, Int.reduceEq, reduceCtorEq, hb5]

theorem palinglaw5_LexStand_ok {p0 : ByteArray} {r : Bool} (hm : palinglaw5_LexStand p0 = some r) : PureF Tryd.prog 7 [.str p0] (.bool r) := by
  rw [palinglaw5_LexStand] at hm
  refine PureF.of Tryd.func7 rfl Tryd.ntmps7 (Nat.le_of_ble_eq_true rfl) ?_
  have e0 : argS 0 [.str p0] = [(0, .str p0)] := rfl
  rw [e0]
  refine W.seqR [] [(0, .str p0)] [] (by rfl) ?_ ?_
  · try simp -implicitDefEqProofs -dsimp only [go_sem, ↓reduceIte, Nat.reduceAdd, Nat.reduceMul, Nat.reduceSub, Nat.reduceEqDiff, Nat.reduceLeDiff, Nat.reduceLT, Nat.reduceBEq, Int.reduceEq, reduceCtorEq]
  obtain ⟨v1, h2, hm⟩ := of_bind hm
  refine W.seqR [] [(0, .str v1)] [] (by rfl) ?_ ?_
  · try simp -implicitDefEqProofs -dsimp only [go_sem, ↓reduceIte, Nat.reduceAdd, Nat.reduceMul, Nat.reduceSub, Nat.reduceEqDiff, Nat.reduceLeDiff, Nat.reduceLT, Nat.reduceBEq, Int.reduceEq, reduceCtorEq]
    with_reducible refine exP.mk _ (callP.plain (by simp -implicitDefEqProofs -dsimp only [go_sem, ↓reduceIte, Nat.reduceAdd, Nat.reduceMul, Nat.reduceSub, Nat.reduceEqDiff, Nat.reduceLeDiff, Nat.reduceLT, Nat.reduceBEq, Int.reduceEq, reduceCtorEq]) (palingbook_Short_ok h2)) ?_
    try simp -implicitDefEqProofs -dsimp only [go_sem, ↓reduceIte, Nat.reduceAdd, Nat.reduceMul, Nat.reduceSub, Nat.reduceEqDiff, Nat.reduceLeDiff, Nat.reduceLT, Nat.reduceBEq, Int.reduceEq, reduceCtorEq]
  obtain ⟨v3, h4, hm⟩ := of_bind hm
  refine W.seqR [] [(0, .str v1), (3, .sl (v3.1.map e_api_Token)), (4, .ptr 0 0 0)] [.cells [.int .i64 v3.2.Code, .int .i64 v3.2.Line, .int .i64 v3.2.Col] 0 26] (by rfl) ?_ ?_
  · try simp -implicitDefEqProofs -dsimp only [go_sem, ↓reduceIte, Nat.reduceAdd, Nat.reduceMul, Nat.reduceSub, Nat.reduceEqDiff, Nat.reduceLeDiff, Nat.reduceLT, Nat.reduceBEq, Int.reduceEq, reduceCtorEq]
    with_reducible refine exP.mk _ (callP.plain (by simp -implicitDefEqProofs -dsimp only [go_sem, ↓reduceIte, Nat.reduceAdd, Nat.reduceMul, Nat.reduceSub, Nat.reduceEqDiff, Nat.reduceLeDiff, Nat.reduceLT, Nat.reduceBEq, Int.reduceEq, reduceCtorEq]) (lex_Tokens_ok h4)) ?_
    try simp -implicitDefEqProofs -dsimp only [go_sem, ↓reduceIte, Nat.reduceAdd, Nat.reduceMul, Nat.reduceSub, Nat.reduceEqDiff, Nat.reduceLeDiff, Nat.reduceLT, Nat.reduceBEq, Int.reduceEq, reduceCtorEq]
  refine W.seq ?_
  refine W.seqR [] [(0, .str v1), (3, .sl (v3.1.map e_api_Token)), (19, .bool (v3.2.Code != 0))] [] (by rfl) ?_ ?_
  · try simp -implicitDefEqProofs -dsimp only [go_sem, ↓reduceIte, Nat.reduceAdd, Nat.reduceMul, Nat.reduceSub, Nat.reduceEqDiff, Nat.reduceLeDiff, Nat.reduceLT, Nat.reduceBEq, Int.reduceEq, reduceCtorEq]
  refine W.cond (v3.2.Code != 0) (by simp only [ev_tmp, get_cons, ↓reduceIte, Nat.reduceEqDiff]) (fun hb5 => ?_) (fun hb5 => ?_)
  · have hm := of_true hb5 hm
    obtain ⟨v6, h7, hm⟩ := of_bind hm
    refine W.seqR [] [(2, .bool v6)] [] (by rfl) ?_ ?_
    · try simp -implicitDefEqProofs -dsimp only [go_sem, ↓reduceIte, Nat.reduceAdd, Nat.reduceMul, Nat.reduceSub, Nat.reduceEqDiff, Nat.reduceLeDiff, Nat.reduceLT, Nat.reduceBEq, Int.reduceEq, reduceCtorEq, hb5]
      with_reducible refine exP.mk _ (callP.plain (by simp -implicitDefEqProofs -dsimp only [go_sem, ↓reduceIte, Nat.reduceAdd, Nat.reduceMul, Nat.reduceSub, Nat.reduceEqDiff, Nat.reduceLeDiff, Nat.reduceLT, Nat.reduceBEq, Int.reduceEq, reduceCtorEq, hb5]) (by have hk := palinglaw5_alive_ok h7; (try simp only [hb5] at hk); exact hk)) ?_
      try simp -implicitDefEqProofs -dsimp only [go_sem, ↓reduceIte, Nat.reduceAdd, Nat.reduceMul, Nat.reduceSub, Nat.reduceEqDiff, Nat.reduceLeDiff, Nat.reduceLT, Nat.reduceBEq, Int.reduceEq, reduceCtorEq, hb5]
    obtain rfl := Option.some.inj hm
    refine W.ret ?_
    try simp only [thenQ_normal, thenQ_exit, thenQ_ret, blockQ_normal, blockQ_here, blockQ_ret, blockQ_exit, ↓reduceIte, Nat.reduceEqDiff]
    refine EndsF.retW [] ?_
    simp -implicitDefEqProofs -dsimp only [go_sem, ↓reduceIte, Nat.reduceAdd, Nat.reduceMul, Nat.reduceSub, Nat.reduceEqDiff, Nat.reduceLeDiff, Nat.reduceLT, Nat.reduceBEq, Int.reduceEq, reduceCtorEq, hb5]
  · have hm := of_false hb5 hm
    refine W.skip ?_
    try simp only [thenQ_normal, thenQ_exit, thenQ_ret, blockQ_normal, blockQ_here, blockQ_ret, blockQ_exit, ↓reduceIte, Nat.reduceEqDiff]
    obtain ⟨v8, h9, hm⟩ := of_bind hm
    refine W.seqR [] [(0, .str v1), (3, .sl (v3.1.map e_api_Token)), (5, .sl (v8.map e_palingref1_Spot))] [] (by rfl) ?_ ?_
    · try simp -implicitDefEqProofs -dsimp only [go_sem, ↓reduceIte, Nat.reduceAdd, Nat.reduceMul, Nat.reduceSub, Nat.reduceEqDiff, Nat.reduceLeDiff, Nat.reduceLT, Nat.reduceBEq, Int.reduceEq, reduceCtorEq, hb5]
      with_reducible refine exP.mk _ (callP.plain (by simp -implicitDefEqProofs -dsimp only [go_sem, ↓reduceIte, Nat.reduceAdd, Nat.reduceMul, Nat.reduceSub, Nat.reduceEqDiff, Nat.reduceLeDiff, Nat.reduceLT, Nat.reduceBEq, Int.reduceEq, reduceCtorEq, hb5]) (by have hk := palingref1_Spots_ok h9; (try simp only [hb5] at hk); exact hk)) ?_
      try simp -implicitDefEqProofs -dsimp only [go_sem, ↓reduceIte, Nat.reduceAdd, Nat.reduceMul, Nat.reduceSub, Nat.reduceEqDiff, Nat.reduceLeDiff, Nat.reduceLT, Nat.reduceBEq, Int.reduceEq, reduceCtorEq, hb5]
    refine W.seqR [] [(0, .str v1), (3, .sl (v3.1.map e_api_Token)), (5, .sl (v8.map e_palingref1_Spot)), (6, .int .i64 0), (7, .int .i64 0)] [] (by rfl) ?_ ?_
    · try simp -implicitDefEqProofs -dsimp only [go_sem, ↓reduceIte, Nat.reduceAdd, Nat.reduceMul, Nat.reduceSub, Nat.reduceEqDiff, Nat.reduceLeDiff, Nat.reduceLT, Nat.reduceBEq, Int.reduceEq, reduceCtorEq, hb5]
    refine W.seq ?_
    refine W.seqR [] [(0, .str v1), (3, .sl (v3.1.map e_api_Token)), (5, .sl (v8.map e_palingref1_Spot)), (6, .int .i64 0), (7, .int .i64 0), (8, .int .i64 0)] [] (by rfl) ?_ ?_
    · try simp -implicitDefEqProofs -dsimp only [go_sem, ↓reduceIte, Nat.reduceAdd, Nat.reduceMul, Nat.reduceSub, Nat.reduceEqDiff, Nat.reduceLeDiff, Nat.reduceLT, Nat.reduceBEq, Int.reduceEq, reduceCtorEq, hb5]
    refine W.block ?_
    obtain ⟨r141, hlr141, hm⟩ := of_bind hm
    refine W.mono (Q := fun e0 s0 h0 => match r141 with | .inl e => e0 = .exit 0 ∧ ∃ w : Unit, s0 = [(0, .str v1), (3, .sl (v3.1.map e_api_Token)), (6, .int .i64 e)] ∧ h0 = [] | .inr q => e0 = .ret ∧ s0 = [(2, .bool q)] ∧ h0 = []) (W.loopM (step := palinglaw5_LexStand_s1 v3 v8 v1) (a0 := (0, 0, 0)) (fun (a : Int × Int × Int) (v : Unit) => ([(0, .str v1), (3, .sl (v3.1.map e_api_Token)), (5, .sl (v8.map e_palingref1_Spot)), (6, .int .i64 a.1), (7, .int .i64 a.2.1), (8, .int .i64 a.2.2)], [])) () hlr141 [] (show AT 0 [] [(0, .str v1), (3, .sl (v3.1.map e_api_Token)), (5, .sl (v8.map e_palingref1_Spot)), (6, .int .i64 0), (7, .int .i64 0), (8, .int .i64 0)] [] _ _ from by simp -implicitDefEqProofs -dsimp only [go_sem, ↓reduceIte, Nat.reduceAdd, Nat.reduceMul, Nat.reduceSub, Nat.reduceEqDiff, Nat.reduceLeDiff, Nat.reduceLT, Nat.reduceBEq, Int.reduceEq, reduceCtorEq, hb5]) ?_) ?_
    · rintro ⟨i95, i96, i97⟩ _ x hm hx
      rw [palinglaw5_LexStand_s1] at hm
      show WK _ _ _ _ _ [(0, .str v1), (3, .sl (v3.1.map e_api_Token)), (5, .sl (v8.map e_palingref1_Spot)), (6, .int .i64 i95), (7, .int .i64 i96), (8, .int .i64 i97)] []
      refine W.seq ?_
      refine W.seqR [] [(0, .str v1), (3, .sl (v3.1.map e_api_Token)), (5, .sl (v8.map e_palingref1_Spot)), (6, .int .i64 i95), (7, .int .i64 i96), (8, .int .i64 i97), (26, .bool (decide (i97 < (v3.1.length : Int))))] [] (by rfl) ?_ ?_
      · try simp -implicitDefEqProofs -dsimp only [go_sem, ↓reduceIte, Nat.reduceAdd, Nat.reduceMul, Nat.reduceSub, Nat.reduceEqDiff, Nat.reduceLeDiff, Nat.reduceLT, Nat.reduceBEq, Int.reduceEq, reduceCtorEq, hb5]
      refine W.cond (decide (i97 < (v3.1.length : Int))) (by simp only [ev_tmp, get_cons, ↓reduceIte, Nat.reduceEqDiff]) (fun hb142 => ?_) (fun hb142 => ?_)
      · have hm := of_true hb142 hm
        refine W.skip ?_
        try simp only [thenQ_normal, thenQ_exit, thenQ_ret, blockQ_normal, blockQ_here, blockQ_ret, blockQ_exit, ↓reduceIte, Nat.reduceEqDiff]
        refine W.cut (fun s h => ∃ (v : Int × Int) (w : Unit) (F : List Nat), palinglaw5_LexStand_j1 i97 v.1 v.2 = some x ∧ AT 0 F [(0, .str v1), (3, .sl (v3.1.map e_api_Token)), (5, .sl (v8.map e_palingref1_Spot)), (6, .int .i64 v.1), (7, .int .i64 v.2), (8, .int .i64 i97)] [] s h) ?_ ?_
        · refine W.block ?_
          refine W.seq ?_
          refine W.block ?_
          obtain ⟨r169, hlr169, hm⟩ := of_bind hm
          refine W.mono (Q := fun e0 s0 h0 => e0 = .exit 2 ∧ ∃ w : Unit, s0 = [(0, .str v1), (3, .sl (v3.1.map e_api_Token)), (5, .sl (v8.map e_palingref1_Spot)), (6, .int .i64 i95), (7, .int .i64 r169), (8, .int .i64 i97)] ∧ h0 = []) (W.loopM (step := palinglaw5_LexStand_s2 v8 i97 v3) (a0 := i96) (fun (a : Int) (v : Unit) => ([(0, .str v1), (3, .sl (v3.1.map e_api_Token)), (5, .sl (v8.map e_palingref1_Spot)), (6, .int .i64 i95), (7, .int .i64 a), (8, .int .i64 i97)], [])) () hlr169 [] (show AT 0 [] [(0, .str v1), (3, .sl (v3.1.map e_api_Token)), (5, .sl (v8.map e_palingref1_Spot)), (6, .int .i64 i95), (7, .int .i64 i96), (8, .int .i64 i97)] [] _ _ from by simp -implicitDefEqProofs -dsimp only [go_sem, ↓reduceIte, Nat.reduceAdd, Nat.reduceMul, Nat.reduceSub, Nat.reduceEqDiff, Nat.reduceLeDiff, Nat.reduceLT, Nat.reduceBEq, Int.reduceEq, reduceCtorEq, hb5, hb142]) ?_) ?_
          · rintro i160 _ x hm hx
            rw [palinglaw5_LexStand_s2] at hm
            show WK _ _ _ _ _ [(0, .str v1), (3, .sl (v3.1.map e_api_Token)), (5, .sl (v8.map e_palingref1_Spot)), (6, .int .i64 i95), (7, .int .i64 i160), (8, .int .i64 i97)] []
            refine W.seq ?_
            obtain ⟨h170, hm⟩ := of_ite hm
            obtain ⟨h171, hm⟩ := of_ite hm
            obtain ⟨h172, hm⟩ := of_ite hm
            obtain ⟨h173, hm⟩ := of_ite hm
            obtain ⟨b174, h175, hm⟩ := of_bind hm
            replace h175 := Option.some.inj h175
            refine W.seqD [] [] [(0, .str v1), (3, .sl (v3.1.map e_api_Token)), (5, .sl (v8.map e_palingref1_Spot)), (6, .int .i64 i95), (7, .int .i64 i160), (8, .int .i64 i97), (58, .bool b174)] [] v_mixed (by rfl) (by kernel_rfl) (by kernel_rfl) ?_ ?_
            · try simp -implicitDefEqProofs -dsimp only [go_sem, ↓reduceIte, Nat.reduceAdd, Nat.reduceMul, Nat.reduceSub, Nat.reduceEqDiff, Nat.reduceLeDiff, Nat.reduceLT, Nat.reduceBEq, Int.reduceEq, reduceCtorEq, hb5, hb142, h170, h171, h172, h173, ← h175]
              refine onG_split (fun hg176 => ?_) (fun hg176 => ?_)
              · try simp -implicitDefEqProofs -dsimp only [go_sem, ↓reduceIte, Nat.reduceAdd, Nat.reduceMul, Nat.reduceSub, Nat.reduceEqDiff, Nat.reduceLeDiff, Nat.reduceLT, Nat.reduceBEq, Int.reduceEq, reduceCtorEq, hb5, hb142, h170, h171, h172, h173, hg176, ← h175]
                refine onG_splitN (fun hg177 => ?_) (fun hg177 => ?_)
                · try simp -implicitDefEqProofs -dsimp only [go_sem, ↓reduceIte, Nat.reduceAdd, Nat.reduceMul, Nat.reduceSub, Nat.reduceEqDiff, Nat.reduceLeDiff, Nat.reduceLT, Nat.reduceBEq, Int.reduceEq, reduceCtorEq, hb5, hb142, h170, h171, h172, h173, hg176, hg177, ← h175]
                · try simp -implicitDefEqProofs -dsimp only [go_sem, ↓reduceIte, Nat.reduceAdd, Nat.reduceMul, Nat.reduceSub, Nat.reduceEqDiff, Nat.reduceLeDiff, Nat.reduceLT, Nat.reduceBEq, Int.reduceEq, reduceCtorEq, hb5, hb142, h170, h171, h172, h173, hg176, hg177, ← h175]
              · try simp -implicitDefEqProofs -dsimp only [go_sem, ↓reduceIte, Nat.reduceAdd, Nat.reduceMul, Nat.reduceSub, Nat.reduceEqDiff, Nat.reduceLeDiff, Nat.reduceLT, Nat.reduceBEq, Int.reduceEq, reduceCtorEq, hb5, hb142, h170, h171, h172, h173, hg176, ← h175]
            refine W.cond b174 (by simp only [ev_tmp, get_cons, ↓reduceIte, Nat.reduceEqDiff]) (fun hb178 => ?_) (fun hb178 => ?_)
            · have hm := of_true hb178 hm
              refine W.skip ?_
              try simp only [thenQ_normal, thenQ_exit, thenQ_ret, blockQ_normal, blockQ_here, blockQ_ret, blockQ_exit, ↓reduceIte, Nat.reduceEqDiff]
              refine W.block ?_
              refine W.regL [] [(0, .str v1), (3, .sl (v3.1.map e_api_Token)), (5, .sl (v8.map e_palingref1_Spot)), (6, .int .i64 i95), (7, .int .i64 (IntKind.wrap .i64 (i160 + 1))), (8, .int .i64 i97)] [] (by rfl) ?_ ?_
              · try simp -implicitDefEqProofs -dsimp only [go_sem, ↓reduceIte, Nat.reduceAdd, Nat.reduceMul, Nat.reduceSub, Nat.reduceEqDiff, Nat.reduceLeDiff, Nat.reduceLT, Nat.reduceBEq, Int.reduceEq, reduceCtorEq, hb5, hb142, h170, h171, h172, h173, hb178]
              try simp only [thenQ_normal, thenQ_exit, thenQ_ret, blockQ_normal, blockQ_here, blockQ_ret, blockQ_exit, ↓reduceIte, Nat.reduceEqDiff]
              obtain rfl := Option.some.inj hm
              exact ⟨(IntKind.wrap .i64 (i160 + 1)), (), [], rfl, (show AT 0 [] [(0, .str v1), (3, .sl (v3.1.map e_api_Token)), (5, .sl (v8.map e_palingref1_Spot)), (6, .int .i64 i95), (7, .int .i64 (IntKind.wrap .i64 (i160 + 1))), (8, .int .i64 i97)] [] _ _ from by simp -implicitDefEqProofs -dsimp only [go_sem, ↓reduceIte, Nat.reduceAdd, Nat.reduceMul, Nat.reduceSub, Nat.reduceEqDiff, Nat.reduceLeDiff, Nat.reduceLT, Nat.reduceBEq, Int.reduceEq, reduceCtorEq, hb5, hb142, h170, h171, h172, h173, hb178])⟩
            · have hm := of_false hb178 hm
              obtain rfl := Option.some.inj hm
              obtain rfl := hx _ rfl
              refine W.weak [] (show AT 0 [] [(0, .str v1), (3, .sl (v3.1.map e_api_Token)), (5, .sl (v8.map e_palingref1_Spot)), (6, .int .i64 i95), (7, .int .i64 i160), (8, .int .i64 i97)] [] _ _ from by simp -implicitDefEqProofs -dsimp only [go_sem, ↓reduceIte, Nat.reduceAdd, Nat.reduceMul, Nat.reduceSub, Nat.reduceEqDiff, Nat.reduceLeDiff, Nat.reduceLT, Nat.reduceBEq, Int.reduceEq, reduceCtorEq, hb5, hb142, h170, h171, h172, h173, hb178]) (W.exit (show _ ∧ _ from ⟨rfl, (), rfl, rfl⟩))
          · rintro e0 s0 h0 ⟨rfl, _, rfl, rfl⟩
            try simp only [thenQ_normal, thenQ_exit, thenQ_ret, blockQ_normal, blockQ_here, blockQ_ret, blockQ_exit, ↓reduceIte, Nat.reduceEqDiff]
            show WK _ _ _ _ _ [(0, .str v1), (3, .sl (v3.1.map e_api_Token)), (5, .sl (v8.map e_palingref1_Spot)), (6, .int .i64 i95), (7, .int .i64 r169), (8, .int .i64 i97)] []
            try simp only [thenQ_normal, thenQ_exit, thenQ_ret, blockQ_normal, blockQ_here, blockQ_ret, blockQ_exit, ↓reduceIte, Nat.reduceEqDiff]
            refine W.seqR [] [(0, .str v1), (3, .sl (v3.1.map e_api_Token)), (5, .sl (v8.map e_palingref1_Spot)), (6, .int .i64 i95), (7, .int .i64 r169), (8, .int .i64 i97), (9, .int .i64 (v1.size : Int))] [] (by rfl) ?_ ?_
            · try simp -implicitDefEqProofs -dsimp only [go_sem, ↓reduceIte, Nat.reduceAdd, Nat.reduceMul, Nat.reduceSub, Nat.reduceEqDiff, Nat.reduceLeDiff, Nat.reduceLT, Nat.reduceBEq, Int.reduceEq, reduceCtorEq, hb5, hb142]
            refine W.cut (fun s h => ∃ (v : Int) (w : Unit) (F : List Nat), palinglaw5_LexStand_j2 i95 i97 v3 v1 r169 v = some x ∧ AT 0 F [(0, .str v1), (3, .sl (v3.1.map e_api_Token)), (5, .sl (v8.map e_palingref1_Spot)), (6, .int .i64 i95), (7, .int .i64 r169), (8, .int .i64 i97), (9, .int .i64 v)] [] s h) ?_ ?_
            · refine W.seqR [] [(0, .str v1), (3, .sl (v3.1.map e_api_Token)), (5, .sl (v8.map e_palingref1_Spot)), (6, .int .i64 i95), (7, .int .i64 r169), (8, .int .i64 i97), (9, .int .i64 (v1.size : Int)), (66, .bool (decide (r169 < (v8.length : Int))))] [] (by rfl) ?_ ?_
              · try simp -implicitDefEqProofs -dsimp only [go_sem, ↓reduceIte, Nat.reduceAdd, Nat.reduceMul, Nat.reduceSub, Nat.reduceEqDiff, Nat.reduceLeDiff, Nat.reduceLT, Nat.reduceBEq, Int.reduceEq, reduceCtorEq, hb5, hb142]
              refine W.cond (decide (r169 < (v8.length : Int))) (by simp only [ev_tmp, get_cons, ↓reduceIte, Nat.reduceEqDiff]) (fun hb193 => ?_) (fun hb193 => ?_)
              · have hm := of_true hb193 hm
                obtain ⟨h194, hm⟩ := of_ite hm
                refine W.regL [] [(0, .str v1), (3, .sl (v3.1.map e_api_Token)), (5, .sl (v8.map e_palingref1_Spot)), (6, .int .i64 i95), (7, .int .i64 r169), (8, .int .i64 i97), (9, .int .i64 ((rd v8 r169).At))] [] (by rfl) ?_ ?_
                · try simp -implicitDefEqProofs -dsimp only [go_sem, ↓reduceIte, Nat.reduceAdd, Nat.reduceMul, Nat.reduceSub, Nat.reduceEqDiff, Nat.reduceLeDiff, Nat.reduceLT, Nat.reduceBEq, Int.reduceEq, reduceCtorEq, hb5, hb142, hb193, h194]
                try simp only [thenQ_normal, thenQ_exit, thenQ_ret, blockQ_normal, blockQ_here, blockQ_ret, blockQ_exit, ↓reduceIte, Nat.reduceEqDiff]
                exact ⟨(rd v8 r169).At, (), [], hm, (show AT 0 [] [(0, .str v1), (3, .sl (v3.1.map e_api_Token)), (5, .sl (v8.map e_palingref1_Spot)), (6, .int .i64 i95), (7, .int .i64 r169), (8, .int .i64 i97), (9, .int .i64 ((rd v8 r169).At))] [] _ _ from by simp -implicitDefEqProofs -dsimp only [go_sem, ↓reduceIte, Nat.reduceAdd, Nat.reduceMul, Nat.reduceSub, Nat.reduceEqDiff, Nat.reduceLeDiff, Nat.reduceLT, Nat.reduceBEq, Int.reduceEq, reduceCtorEq, hb5, hb142, hb193, h194])⟩
              · have hm := of_false hb193 hm
                refine W.skip ?_
                try simp only [thenQ_normal, thenQ_exit, thenQ_ret, blockQ_normal, blockQ_here, blockQ_ret, blockQ_exit, ↓reduceIte, Nat.reduceEqDiff]
                exact ⟨(v1.size : Int), (), [], hm, (show AT 0 [] [(0, .str v1), (3, .sl (v3.1.map e_api_Token)), (5, .sl (v8.map e_palingref1_Spot)), (6, .int .i64 i95), (7, .int .i64 r169), (8, .int .i64 i97), (9, .int .i64 (v1.size : Int))] [] _ _ from by simp -implicitDefEqProofs -dsimp only [go_sem, ↓reduceIte, Nat.reduceAdd, Nat.reduceMul, Nat.reduceSub, Nat.reduceEqDiff, Nat.reduceLeDiff, Nat.reduceLT, Nat.reduceBEq, Int.reduceEq, reduceCtorEq, hb5, hb142, hb193])⟩
            · rintro s h ⟨i179, _, F, hm, hat⟩
              refine W.weak F hat ?_
              show WK _ _ _ _ _ [(0, .str v1), (3, .sl (v3.1.map e_api_Token)), (5, .sl (v8.map e_palingref1_Spot)), (6, .int .i64 i95), (7, .int .i64 r169), (8, .int .i64 i97), (9, .int .i64 i179)] []
              rw [palinglaw5_LexStand_j2] at hm
              refine W.seq ?_
              obtain ⟨h180, hm⟩ := of_ite hm
              obtain ⟨h181, hm⟩ := of_ite hm
              obtain ⟨h182, hm⟩ := of_ite hm
              obtain ⟨h183, hm⟩ := of_ite hm
              obtain ⟨h184, hm⟩ := of_ite hm
              obtain ⟨b185, h186, hm⟩ := of_bind hm
              replace h186 := Option.some.inj h186
              refine W.seqD [] [] [(0, .str v1), (3, .sl (v3.1.map e_api_Token)), (5, .sl (v8.map e_palingref1_Spot)), (7, .int .i64 r169), (8, .int .i64 i97), (9, .int .i64 i179), (106, .bool b185)] [] v_mixed (by rfl) (by kernel_rfl) (by kernel_rfl) ?_ ?_
              · try simp -implicitDefEqProofs -dsimp only [go_sem, ↓reduceIte, Nat.reduceAdd, Nat.reduceMul, Nat.reduceSub, Nat.reduceEqDiff, Nat.reduceLeDiff, Nat.reduceLT, Nat.reduceBEq, Int.reduceEq, reduceCtorEq, hb5, hb142, h180, h181, h182, h183, h184, ← h186]
                refine onG_splitN (fun hg187 => ?_) (fun hg187 => ?_)
                · try simp -implicitDefEqProofs -dsimp only [go_sem, ↓reduceIte, Nat.reduceAdd, Nat.reduceMul, Nat.reduceSub, Nat.reduceEqDiff, Nat.reduceLeDiff, Nat.reduceLT, Nat.reduceBEq, Int.reduceEq, reduceCtorEq, hb5, hb142, h180, h181, h182, h183, h184, hg187, ← h186]
                  refine onG_splitN (fun hg188 => ?_) (fun hg188 => ?_)
                  · try simp -implicitDefEqProofs -dsimp only [go_sem, ↓reduceIte, Nat.reduceAdd, Nat.reduceMul, Nat.reduceSub, Nat.reduceEqDiff, Nat.reduceLeDiff, Nat.reduceLT, Nat.reduceBEq, Int.reduceEq, reduceCtorEq, hb5, hb142, h180, h181, h182, h183, h184, hg187, hg188, ← h186]
                  · try simp -implicitDefEqProofs -dsimp only [go_sem, ↓reduceIte, Nat.reduceAdd, Nat.reduceMul, Nat.reduceSub, Nat.reduceEqDiff, Nat.reduceLeDiff, Nat.reduceLT, Nat.reduceBEq, Int.reduceEq, reduceCtorEq, hb5, hb142, h180, h181, h182, h183, h184, hg187, hg188, ← h186]
                · try simp -implicitDefEqProofs -dsimp only [go_sem, ↓reduceIte, Nat.reduceAdd, Nat.reduceMul, Nat.reduceSub, Nat.reduceEqDiff, Nat.reduceLeDiff, Nat.reduceLT, Nat.reduceBEq, Int.reduceEq, reduceCtorEq, hb5, hb142, h180, h181, h182, h183, h184, hg187, ← h186]
              refine W.cond b185 (by simp only [ev_tmp, get_cons, ↓reduceIte, Nat.reduceEqDiff]) (fun hb189 => ?_) (fun hb189 => ?_)
              · have hm := of_true hb189 hm
                refine W.seqR [] [(2, .bool false)] [] (by rfl) ?_ ?_
                · try simp -implicitDefEqProofs -dsimp only [go_sem, ↓reduceIte, Nat.reduceAdd, Nat.reduceMul, Nat.reduceSub, Nat.reduceEqDiff, Nat.reduceLeDiff, Nat.reduceLT, Nat.reduceBEq, Int.reduceEq, reduceCtorEq, hb5, hb142, h180, h181, h182, h183, h184, hb189]
                obtain rfl := Option.some.inj hm
                obtain rfl := hx _ rfl
                refine W.weak [] (show AT 0 [] [(2, .bool false)] [] _ _ from by simp -implicitDefEqProofs -dsimp only [go_sem, ↓reduceIte, Nat.reduceAdd, Nat.reduceMul, Nat.reduceSub, Nat.reduceEqDiff, Nat.reduceLeDiff, Nat.reduceLT, Nat.reduceBEq, Int.reduceEq, reduceCtorEq, hb5, hb142, h180, h181, h182, h183, h184, hb189]) (W.ret (show _ ∧ _ from ⟨rfl, rfl, rfl⟩))
              · have hm := of_false hb189 hm
                refine W.skip ?_
                try simp only [thenQ_normal, thenQ_exit, thenQ_ret, blockQ_normal, blockQ_here, blockQ_ret, blockQ_exit, ↓reduceIte, Nat.reduceEqDiff]
                obtain ⟨h190, hm⟩ := of_ite hm
                obtain ⟨n191, h192, hm⟩ := of_bind hm
                replace h192 := Option.some.inj h192
                refine W.regL [] [(0, .str v1), (3, .sl (v3.1.map e_api_Token)), (5, .sl (v8.map e_palingref1_Spot)), (6, .int .i64 n191), (7, .int .i64 r169), (8, .int .i64 i97)] [] (by rfl) ?_ ?_
                · try simp -implicitDefEqProofs -dsimp only [go_sem, ↓reduceIte, Nat.reduceAdd, Nat.reduceMul, Nat.reduceSub, Nat.reduceEqDiff, Nat.reduceLeDiff, Nat.reduceLT, Nat.reduceBEq, Int.reduceEq, reduceCtorEq, hb5, hb142, h180, h181, h182, h183, h184, hb189, h190, ← h192]
                try simp only [thenQ_normal, thenQ_exit, thenQ_ret, blockQ_normal, blockQ_here, blockQ_ret, blockQ_exit, ↓reduceIte, Nat.reduceEqDiff]
                exact ⟨(n191, r169), (), [], hm, (show AT 0 [] [(0, .str v1), (3, .sl (v3.1.map e_api_Token)), (5, .sl (v8.map e_palingref1_Spot)), (6, .int .i64 n191), (7, .int .i64 r169), (8, .int .i64 i97)] [] _ _ from by simp -implicitDefEqProofs -dsimp only [go_sem, ↓reduceIte, Nat.reduceAdd, Nat.reduceMul, Nat.reduceSub, Nat.reduceEqDiff, Nat.reduceLeDiff, Nat.reduceLT, Nat.reduceBEq, Int.reduceEq, reduceCtorEq, hb5, hb142, h180, h181, h182, h183, h184, hb189, h190])⟩
        · rintro s h ⟨⟨i143, i144⟩, _, F, hm, hat⟩
          refine W.weak F hat ?_
          show WK _ _ _ _ _ [(0, .str v1), (3, .sl (v3.1.map e_api_Token)), (5, .sl (v8.map e_palingref1_Spot)), (6, .int .i64 i143), (7, .int .i64 i144), (8, .int .i64 i97)] []
          rw [palinglaw5_LexStand_j1] at hm
          refine W.regL [] [(0, .str v1), (3, .sl (v3.1.map e_api_Token)), (5, .sl (v8.map e_palingref1_Spot)), (6, .int .i64 i143), (7, .int .i64 i144), (8, .int .i64 (IntKind.wrap .i64 (i97 + 1)))] [] (by rfl) ?_ ?_
          · try simp -implicitDefEqProofs -dsimp only [go_sem, ↓reduceIte, Nat.reduceAdd, Nat.reduceMul, Nat.reduceSub, Nat.reduceEqDiff, Nat.reduceLeDiff, Nat.reduceLT, Nat.reduceBEq, Int.reduceEq, reduceCtorEq, hb5, hb142]
          try simp only [thenQ_normal, thenQ_exit, thenQ_ret, blockQ_normal, blockQ_here, blockQ_ret, blockQ_exit, ↓reduceIte, Nat.reduceEqDiff]
          obtain rfl := Option.some.inj hm
          exact ⟨(i143, i144, (IntKind.wrap .i64 (i97 + 1))), (), [], rfl, (show AT 0 [] [(0, .str v1), (3, .sl (v3.1.map e_api_Token)), (5, .sl (v8.map e_palingref1_Spot)), (6, .int .i64 i143), (7, .int .i64 i144), (8, .int .i64 (IntKind.wrap .i64 (i97 + 1)))] [] _ _ from by simp -implicitDefEqProofs -dsimp only [go_sem, ↓reduceIte, Nat.reduceAdd, Nat.reduceMul, Nat.reduceSub, Nat.reduceEqDiff, Nat.reduceLeDiff, Nat.reduceLT, Nat.reduceBEq, Int.reduceEq, reduceCtorEq, hb5, hb142])⟩
      · have hm := of_false hb142 hm
        obtain rfl := Option.some.inj hm
        obtain rfl := hx _ rfl
        refine W.weak [] (show AT 0 [] [(0, .str v1), (3, .sl (v3.1.map e_api_Token)), (6, .int .i64 i95)] [] _ _ from by simp -implicitDefEqProofs -dsimp only [go_sem, ↓reduceIte, Nat.reduceAdd, Nat.reduceMul, Nat.reduceSub, Nat.reduceEqDiff, Nat.reduceLeDiff, Nat.reduceLT, Nat.reduceBEq, Int.reduceEq, reduceCtorEq, hb5, hb142]) (W.exit (show _ ∧ _ from ⟨rfl, (), rfl, rfl⟩))
    · intro e0 s0 h0 hq
      rcases r141 with er141 | qr141
      · obtain ⟨rfl, _, rfl, rfl⟩ := hq
        have hm := of_inl hm
        try simp only [thenQ_normal, thenQ_exit, thenQ_ret, blockQ_normal, blockQ_here, blockQ_ret, blockQ_exit, ↓reduceIte, Nat.reduceEqDiff]
        show WK _ _ _ _ _ [(0, .str v1), (3, .sl (v3.1.map e_api_Token)), (6, .int .i64 er141)] []
        try simp only [thenQ_normal, thenQ_exit, thenQ_ret, blockQ_normal, blockQ_here, blockQ_ret, blockQ_exit, ↓reduceIte, Nat.reduceEqDiff]
        obtain ⟨h195, hm⟩ := of_ite hm
        obtain ⟨h196, hm⟩ := of_ite hm
        obtain ⟨v197, h198, hm⟩ := of_bind hm
        obtain ⟨b199, h200, hm⟩ := of_bind hm
        replace h200 := Option.some.inj h200
        refine W.seqR [] [(2, .bool b199)] [] (by rfl) ?_ ?_
        · try simp -implicitDefEqProofs -dsimp only [go_sem, ↓reduceIte, Nat.reduceAdd, Nat.reduceMul, Nat.reduceSub, Nat.reduceEqDiff, Nat.reduceLeDiff, Nat.reduceLT, Nat.reduceBEq, Int.reduceEq, reduceCtorEq, hb5, h195, h196, ← h200]
          refine onG_split (fun hg201 => ?_) (fun hg201 => ?_)
          · try simp -implicitDefEqProofs -dsimp only [go_sem, ↓reduceIte, Nat.reduceAdd, Nat.reduceMul, Nat.reduceSub, Nat.reduceEqDiff, Nat.reduceLeDiff, Nat.reduceLT, Nat.reduceBEq, Int.reduceEq, reduceCtorEq, hb5, h195, h196, hg201, ← h200]
            refine onG_split (fun hg202 => ?_) (fun hg202 => ?_)
            · try simp -implicitDefEqProofs -dsimp only [go_sem, ↓reduceIte, Nat.reduceAdd, Nat.reduceMul, Nat.reduceSub, Nat.reduceEqDiff, Nat.reduceLeDiff, Nat.reduceLT, Nat.reduceBEq, Int.reduceEq, reduceCtorEq, hb5, h195, h196, hg201, hg202, ← h200]
              refine onG_split (fun hg203 => ?_) (fun hg203 => ?_)
              · try simp -implicitDefEqProofs -dsimp only [go_sem, ↓reduceIte, Nat.reduceAdd, Nat.reduceMul, Nat.reduceSub, Nat.reduceEqDiff, Nat.reduceLeDiff, Nat.reduceLT, Nat.reduceBEq, Int.reduceEq, reduceCtorEq, hb5, h195, h196, hg201, hg202, hg203, ← h200]
                refine onG_split (fun hg204 => ?_) (fun hg204 => ?_)
                · try simp -implicitDefEqProofs -dsimp only [go_sem, ↓reduceIte, Nat.reduceAdd, Nat.reduceMul, Nat.reduceSub, Nat.reduceEqDiff, Nat.reduceLeDiff, Nat.reduceLT, Nat.reduceBEq, Int.reduceEq, reduceCtorEq, hb5, h195, h196, hg201, hg202, hg203, hg204, ← h200]
                  with_reducible refine exP.mk _ (callP.plain (by simp -implicitDefEqProofs -dsimp only [go_sem, ↓reduceIte, Nat.reduceAdd, Nat.reduceMul, Nat.reduceSub, Nat.reduceEqDiff, Nat.reduceLeDiff, Nat.reduceLT, Nat.reduceBEq, Int.reduceEq, reduceCtorEq, hb5, h195, h196, hg201, hg202, hg203, hg204, ← h200]) (by have hk := palinglaw5_alive_ok (of_true (by simp -implicitDefEqProofs -dsimp only [go_sem, ↓reduceIte, Nat.reduceAdd, Nat.reduceMul, Nat.reduceSub, Nat.reduceEqDiff, Nat.reduceLeDiff, Nat.reduceLT, Nat.reduceBEq, Int.reduceEq, reduceCtorEq, hb5, h195, h196, hg201, hg202, hg203, hg204, ← h200]) h198); (try simp only [hb5] at hk); exact hk)) ?_
                  try simp -implicitDefEqProofs -dsimp only [go_sem, ↓reduceIte, Nat.reduceAdd, Nat.reduceMul, Nat.reduceSub, Nat.reduceEqDiff, Nat.reduceLeDiff, Nat.reduceLT, Nat.reduceBEq, Int.reduceEq, reduceCtorEq, hb5, h195, h196, hg201, hg202, hg203, hg204, ← h200]
                · try simp -implicitDefEqProofs -dsimp only [go_sem, ↓reduceIte, Nat.reduceAdd, Nat.reduceMul, Nat.reduceSub, Nat.reduceEqDiff, Nat.reduceLeDiff, Nat.reduceLT, Nat.reduceBEq, Int.reduceEq, reduceCtorEq, hb5, h195, h196, hg201, hg202, hg203, hg204, ← h200]
              · try simp -implicitDefEqProofs -dsimp only [go_sem, ↓reduceIte, Nat.reduceAdd, Nat.reduceMul, Nat.reduceSub, Nat.reduceEqDiff, Nat.reduceLeDiff, Nat.reduceLT, Nat.reduceBEq, Int.reduceEq, reduceCtorEq, hb5, h195, h196, hg201, hg202, hg203, ← h200]
            · try simp -implicitDefEqProofs -dsimp only [go_sem, ↓reduceIte, Nat.reduceAdd, Nat.reduceMul, Nat.reduceSub, Nat.reduceEqDiff, Nat.reduceLeDiff, Nat.reduceLT, Nat.reduceBEq, Int.reduceEq, reduceCtorEq, hb5, h195, h196, hg201, hg202, ← h200]
          · try simp -implicitDefEqProofs -dsimp only [go_sem, ↓reduceIte, Nat.reduceAdd, Nat.reduceMul, Nat.reduceSub, Nat.reduceEqDiff, Nat.reduceLeDiff, Nat.reduceLT, Nat.reduceBEq, Int.reduceEq, reduceCtorEq, hb5, h195, h196, hg201, ← h200]
        obtain rfl := Option.some.inj hm
        refine W.ret ?_
        try simp only [thenQ_normal, thenQ_exit, thenQ_ret, blockQ_normal, blockQ_here, blockQ_ret, blockQ_exit, ↓reduceIte, Nat.reduceEqDiff]
        refine EndsF.retW [] ?_
        simp -implicitDefEqProofs -dsimp only [go_sem, ↓reduceIte, Nat.reduceAdd, Nat.reduceMul, Nat.reduceSub, Nat.reduceEqDiff, Nat.reduceLeDiff, Nat.reduceLT, Nat.reduceBEq, Int.reduceEq, reduceCtorEq, hb5, h195, h196]
      · obtain ⟨rfl, rfl, rfl⟩ := hq
        have hm := of_inr hm
        obtain rfl := Option.some.inj hm
        try simp only [thenQ_normal, thenQ_exit, thenQ_ret, blockQ_normal, blockQ_here, blockQ_ret, blockQ_exit, ↓reduceIte, Nat.reduceEqDiff]
        refine EndsF.retW [] ?_
        simp -implicitDefEqProofs -dsimp only [go_sem, ↓reduceIte, Nat.reduceAdd, Nat.reduceMul, Nat.reduceSub, Nat.reduceEqDiff, Nat.reduceLeDiff, Nat.reduceLT, Nat.reduceBEq, Int.reduceEq, reduceCtorEq, hb5]

end Go.Proofs.YtocjejladeeckaaDoor
