import Derived.Test.YtocjejladeeckaaDoorVFacts
import Derived.Test.YtocjejladeeckaaDoorPalB
import Derived.Test.YtocjejladeeckaaDoorWA
import Derived.Test.YtocjejladeeckaaDoorWNum
import Derived.Test.YtocjejladeeckaaDoorWUtf
set_option maxRecDepth 100000
set_option linter.unusedSimpArgs false
set_option linter.unusedVariables false
set_option linter.unusedSectionVars false
namespace Go.Proofs.YtocjejladeeckaaDoor
open Go.Vs
variable [TabU]
theorem lex_wrong_ok {p0 : T_api_Token} {p1 : Int} {r : Int} (hm : lex_wrong p0 p1 = some r) : PureF Tryd.prog 39 [.agg [.int .i64 p0.Kind, .int .i64 p0.Line, .int .i64 p0.Col, .str p0.Text], .int .i64 p1] (.int .i64 r) := by
  rw [lex_wrong] at hm
  refine PureF.of Tryd.func39 rfl Tryd.ntmps39 (Nat.le_of_ble_eq_true rfl) ?_
  have e0 : argS 0 [.agg [.int .i64 p0.Kind, .int .i64 p0.Line, .int .i64 p0.Col, .str p0.Text], .int .i64 p1] = [(0, .agg [.int .i64 p0.Kind, .int .i64 p0.Line, .int .i64 p0.Col, .str p0.Text]), (1, .int .i64 p1)] := rfl
  rw [e0]
  refine W.seqR [] [(1, .int .i64 p1), (2, .ptr 0 0 0)] [.cells [.int .i64 p0.Kind, .int .i64 p0.Line, .int .i64 p0.Col, .str p0.Text] 0 43] (by rfl) ?_ ?_
  · try simp -implicitDefEqProofs -dsimp only [go_sem, ↓reduceIte, Nat.reduceAdd, Nat.reduceMul, Nat.reduceSub, Nat.reduceEqDiff, Nat.reduceLeDiff, Nat.reduceLT, Nat.reduceBEq, Int.reduceEq, reduceCtorEq]
  refine W.seq ?_
  refine W.seqR [] [(2, .ptr 0 0 0), (13, .bool ((p0.Kind == 1) && decide (p1 > 16)))] [.cells [.int .i64 p0.Kind, .int .i64 p0.Line, .int .i64 p0.Col, .str p0.Text] 0 43] (by rfl) ?_ ?_
  · try simp -implicitDefEqProofs -dsimp only [go_sem, ↓reduceIte, Nat.reduceAdd, Nat.reduceMul, Nat.reduceSub, Nat.reduceEqDiff, Nat.reduceLeDiff, Nat.reduceLT, Nat.reduceBEq, Int.reduceEq, reduceCtorEq]
    refine onG_split (fun hg1 => ?_) (fun hg1 => ?_)
    · try simp -implicitDefEqProofs -dsimp only [go_sem, ↓reduceIte, Nat.reduceAdd, Nat.reduceMul, Nat.reduceSub, Nat.reduceEqDiff, Nat.reduceLeDiff, Nat.reduceLT, Nat.reduceBEq, Int.reduceEq, reduceCtorEq, hg1]
    · try simp -implicitDefEqProofs -dsimp only [go_sem, ↓reduceIte, Nat.reduceAdd, Nat.reduceMul, Nat.reduceSub, Nat.reduceEqDiff, Nat.reduceLeDiff, Nat.reduceLT, Nat.reduceBEq, Int.reduceEq, reduceCtorEq, hg1]
  refine W.cond ((p0.Kind == 1) && decide (p1 > 16)) (by simp only [ev_tmp, get_cons, ↓reduceIte, Nat.reduceEqDiff]) (fun hb2 => ?_) (fun hb2 => ?_)
  · have hm := of_true hb2 hm
    refine W.seqR [] [(4, .int .i64 3)] [] (by rfl) ?_ ?_
    · try simp -implicitDefEqProofs -dsimp only [go_sem, ↓reduceIte, Nat.reduceAdd, Nat.reduceMul, Nat.reduceSub, Nat.reduceEqDiff, Nat.reduceLeDiff, Nat.reduceLT, Nat.reduceBEq, Int.reduceEq, reduceCtorEq, hb2]
    obtain rfl := Option.some.inj hm
    refine W.ret ?_
    try simp only [thenQ_normal, thenQ_exit, thenQ_ret, blockQ_normal, blockQ_here, blockQ_ret, blockQ_exit, ↓reduceIte, Nat.reduceEqDiff]
    refine EndsF.retW [] ?_
    simp -implicitDefEqProofs -dsimp only [go_sem, ↓reduceIte, Nat.reduceAdd, Nat.reduceMul, Nat.reduceSub, Nat.reduceEqDiff, Nat.reduceLeDiff, Nat.reduceLT, Nat.reduceBEq, Int.reduceEq, reduceCtorEq, hb2]
  · have hm := of_false hb2 hm
    refine W.skip ?_
    try simp only [thenQ_normal, thenQ_exit, thenQ_ret, blockQ_normal, blockQ_here, blockQ_ret, blockQ_exit, ↓reduceIte, Nat.reduceEqDiff]
    refine W.seq ?_
    refine W.seqR [] [(2, .ptr 0 0 0), (16, .bool (p0.Kind == 2))] [.cells [.int .i64 p0.Kind, .int .i64 p0.Line, .int .i64 p0.Col, .str p0.Text] 0 43] (by rfl) ?_ ?_
    · try simp -implicitDefEqProofs -dsimp only [go_sem, ↓reduceIte, Nat.reduceAdd, Nat.reduceMul, Nat.reduceSub, Nat.reduceEqDiff, Nat.reduceLeDiff, Nat.reduceLT, Nat.reduceBEq, Int.reduceEq, reduceCtorEq, hb2]
    refine W.cond (p0.Kind == 2) (by simp only [ev_tmp, get_cons, ↓reduceIte, Nat.reduceEqDiff]) (fun hb3 => ?_) (fun hb3 => ?_)
    · have hm := of_true hb3 hm
      obtain ⟨v4, h5, hm⟩ := of_bind hm
      refine W.seqR [] [(6, .bool v4.2)] [] (by rfl) ?_ ?_
      · try simp -implicitDefEqProofs -dsimp only [go_sem, ↓reduceIte, Nat.reduceAdd, Nat.reduceMul, Nat.reduceSub, Nat.reduceEqDiff, Nat.reduceLeDiff, Nat.reduceLT, Nat.reduceBEq, Int.reduceEq, reduceCtorEq, hb2, hb3]
        with_reducible refine exP.mk _ (callP.plain (by simp -implicitDefEqProofs -dsimp only [go_sem, ↓reduceIte, Nat.reduceAdd, Nat.reduceMul, Nat.reduceSub, Nat.reduceEqDiff, Nat.reduceLeDiff, Nat.reduceLT, Nat.reduceBEq, Int.reduceEq, reduceCtorEq, hb2, hb3]) (by have hk := num_Read_ok h5; (try simp only [hb2, hb3] at hk); exact hk)) ?_
        try simp -implicitDefEqProofs -dsimp only [go_sem, ↓reduceIte, Nat.reduceAdd, Nat.reduceMul, Nat.reduceSub, Nat.reduceEqDiff, Nat.reduceLeDiff, Nat.reduceLT, Nat.reduceBEq, Int.reduceEq, reduceCtorEq, hb2, hb3]
      refine W.seqR [] [(24, .bool (!v4.2))] [] (by rfl) ?_ ?_
      · try simp -implicitDefEqProofs -dsimp only [go_sem, ↓reduceIte, Nat.reduceAdd, Nat.reduceMul, Nat.reduceSub, Nat.reduceEqDiff, Nat.reduceLeDiff, Nat.reduceLT, Nat.reduceBEq, Int.reduceEq, reduceCtorEq, hb2, hb3]
      refine W.cond (!v4.2) (by simp only [ev_tmp, get_cons, ↓reduceIte, Nat.reduceEqDiff]) (fun hb6 => ?_) (fun hb6 => ?_)
      · have hm := of_true hb6 hm
        refine W.seqR [] [(4, .int .i64 2)] [] (by rfl) ?_ ?_
        · try simp -implicitDefEqProofs -dsimp only [go_sem, ↓reduceIte, Nat.reduceAdd, Nat.reduceMul, Nat.reduceSub, Nat.reduceEqDiff, Nat.reduceLeDiff, Nat.reduceLT, Nat.reduceBEq, Int.reduceEq, reduceCtorEq, hb2, hb3, hb6]
        obtain rfl := Option.some.inj hm
        refine W.ret ?_
        try simp only [thenQ_normal, thenQ_exit, thenQ_ret, blockQ_normal, blockQ_here, blockQ_ret, blockQ_exit, ↓reduceIte, Nat.reduceEqDiff]
        refine EndsF.retW [] ?_
        simp -implicitDefEqProofs -dsimp only [go_sem, ↓reduceIte, Nat.reduceAdd, Nat.reduceMul, Nat.reduceSub, Nat.reduceEqDiff, Nat.reduceLeDiff, Nat.reduceLT, Nat.reduceBEq, Int.reduceEq, reduceCtorEq, hb2, hb3, hb6]
      · have hm := of_false hb6 hm
        refine W.skip ?_
        try simp only [thenQ_normal, thenQ_exit, thenQ_ret, blockQ_normal, blockQ_here, blockQ_ret, blockQ_exit, ↓reduceIte, Nat.reduceEqDiff]
        refine W.seqR [] [(4, .int .i64 0)] [] (by rfl) ?_ ?_
        · try simp -implicitDefEqProofs -dsimp only [go_sem, ↓reduceIte, Nat.reduceAdd, Nat.reduceMul, Nat.reduceSub, Nat.reduceEqDiff, Nat.reduceLeDiff, Nat.reduceLT, Nat.reduceBEq, Int.reduceEq, reduceCtorEq, hb2, hb3, hb6]
        obtain rfl := Option.some.inj hm
        refine W.ret ?_
        try simp only [thenQ_normal, thenQ_exit, thenQ_ret, blockQ_normal, blockQ_here, blockQ_ret, blockQ_exit, ↓reduceIte, Nat.reduceEqDiff]
        refine EndsF.retW [] ?_
        simp -implicitDefEqProofs -dsimp only [go_sem, ↓reduceIte, Nat.reduceAdd, Nat.reduceMul, Nat.reduceSub, Nat.reduceEqDiff, Nat.reduceLeDiff, Nat.reduceLT, Nat.reduceBEq, Int.reduceEq, reduceCtorEq, hb2, hb3, hb6]
    · have hm := of_false hb3 hm
      refine W.skip ?_
      try simp only [thenQ_normal, thenQ_exit, thenQ_ret, blockQ_normal, blockQ_here, blockQ_ret, blockQ_exit, ↓reduceIte, Nat.reduceEqDiff]
      refine W.seqR [] [(4, .int .i64 0)] [] (by rfl) ?_ ?_
      · try simp -implicitDefEqProofs -dsimp only [go_sem, ↓reduceIte, Nat.reduceAdd, Nat.reduceMul, Nat.reduceSub, Nat.reduceEqDiff, Nat.reduceLeDiff, Nat.reduceLT, Nat.reduceBEq, Int.reduceEq, reduceCtorEq, hb2, hb3]
      obtain rfl := Option.some.inj hm
      refine W.ret ?_
      try simp only [thenQ_normal, thenQ_exit, thenQ_ret, blockQ_normal, blockQ_here, blockQ_ret, blockQ_exit, ↓reduceIte, Nat.reduceEqDiff]
      refine EndsF.retW [] ?_
      simp -implicitDefEqProofs -dsimp only [go_sem, ↓reduceIte, Nat.reduceAdd, Nat.reduceMul, Nat.reduceSub, Nat.reduceEqDiff, Nat.reduceLeDiff, Nat.reduceLT, Nat.reduceBEq, Int.reduceEq, reduceCtorEq, hb2, hb3]

theorem glyph_Spots_ok {p0 : ByteArray} {r : (List T_glyph_Spot)} (hm : glyph_Spots p0 = some r) : PureF Tryd.prog 35 [.str p0] (.sl (r.map e_glyph_Spot)) := by
  rw [glyph_Spots] at hm
  refine PureF.of Tryd.func35 rfl Tryd.ntmps35 (Nat.le_of_ble_eq_true rfl) ?_
  have e0 : argS 0 [.str p0] = [(0, .str p0)] := rfl
  rw [e0]
  refine W.seqR [] [(0, .str p0)] [] (by rfl) ?_ ?_
  · try simp -implicitDefEqProofs -dsimp only [go_sem, ↓reduceIte, Nat.reduceAdd, Nat.reduceMul, Nat.reduceSub, Nat.reduceEqDiff, Nat.reduceLeDiff, Nat.reduceLT, Nat.reduceBEq, Int.reduceEq, reduceCtorEq]
  refine W.seqR [] [(0, .str p0), (3, .nils)] [] (by rfl) ?_ ?_
  · try simp -implicitDefEqProofs -dsimp only [go_sem, ↓reduceIte, Nat.reduceAdd, Nat.reduceMul, Nat.reduceSub, Nat.reduceEqDiff, Nat.reduceLeDiff, Nat.reduceLT, Nat.reduceBEq, Int.reduceEq, reduceCtorEq]
  refine W.seqR [] [(0, .str p0), (3, .nils), (4, .int .i64 1), (5, .int .i64 1)] [] (by rfl) ?_ ?_
  · try simp -implicitDefEqProofs -dsimp only [go_sem, ↓reduceIte, Nat.reduceAdd, Nat.reduceMul, Nat.reduceSub, Nat.reduceEqDiff, Nat.reduceLeDiff, Nat.reduceLT, Nat.reduceBEq, Int.reduceEq, reduceCtorEq]
  refine W.seq ?_
  refine W.seqR [] [(0, .str p0), (3, .nils), (4, .int .i64 1), (5, .int .i64 1), (10, .ptr 0 0 0)] [.siter p0 0] (by rfl) ?_ ?_
  · try simp -implicitDefEqProofs -dsimp only [go_sem, ↓reduceIte, Nat.reduceAdd, Nat.reduceMul, Nat.reduceSub, Nat.reduceEqDiff, Nat.reduceLeDiff, Nat.reduceLT, Nat.reduceBEq, Int.reduceEq, reduceCtorEq]
  refine W.block ?_
  obtain ⟨r56, hlr56, hm⟩ := of_bind hm
  refine W.mono (Q := fun e0 s0 h0 => e0 = .exit 0 ∧ ∃ w : Nat, s0 = [(3, .msl 2 w 0 6 r56.length r56.length)] ∧ h0 = [.dead, .dead, .rows (r56.map e_glyph_Spot) 6 w 74]) (W.loopM (step := glyph_Spots_s1 p0) (a0 := (1, 1, 0, [])) (fun (a : Int × Int × Nat × (List T_glyph_Spot)) (v : Nat) => ([(0, .str p0), (3, .msl 2 v 0 6 a.2.2.2.length a.2.2.2.length), (4, .int .i64 a.1), (5, .int .i64 a.2.1), (10, .ptr 0 0 0)], [.siter p0 a.2.2.1, .dead, .rows (a.2.2.2.map e_glyph_Spot) 6 v 74])) 0 hlr56 [] (show AT 0 [] [(0, .str p0), (3, .msl 2 0 0 6 ([]).length ([]).length), (4, .int .i64 1), (5, .int .i64 1), (10, .ptr 0 0 0)] [.siter p0 0, .dead, .rows (([]).map e_glyph_Spot) 6 0 74] _ _ from by simp -implicitDefEqProofs -dsimp only [go_sem, ↓reduceIte, Nat.reduceAdd, Nat.reduceMul, Nat.reduceSub, Nat.reduceEqDiff, Nat.reduceLeDiff, Nat.reduceLT, Nat.reduceBEq, Int.reduceEq, reduceCtorEq]) ?_) ?_
  · rintro ⟨i35, i36, n37, l38⟩ w39 x hm hx
    rw [glyph_Spots_s1] at hm
    show WK _ _ _ _ _ [(0, .str p0), (3, .msl 2 w39 0 6 l38.length l38.length), (4, .int .i64 i35), (5, .int .i64 i36), (10, .ptr 0 0 0)] [.siter p0 n37, .dead, .rows (l38.map e_glyph_Spot) 6 w39 74]
    by_cases hb57 : n37 < p0.size
    · rw [if_pos hb57] at hm
      refine W.seqR [] [(0, .str p0), (3, .msl 2 w39 0 6 l38.length l38.length), (4, .int .i64 i35), (5, .int .i64 i36), (10, .ptr 0 0 0), (11, .tuple [.bool true, .int .i64 (n37 : Int), .int .i32 ((Utf8.decode p0 n37).1 : Int)]), (12, .bool true)] [.siter p0 (n37 + (Utf8.decode p0 n37).2), .dead, .rows (l38.map e_glyph_Spot) 6 w39 74] (by rfl) ?_ ?_
      · try simp -implicitDefEqProofs -dsimp only [go_sem, ↓reduceIte, Nat.reduceAdd, Nat.reduceMul, Nat.reduceSub, Nat.reduceEqDiff, Nat.reduceLeDiff, Nat.reduceLT, Nat.reduceBEq, Int.reduceEq, reduceCtorEq, hb57]
      refine W.seq ?_
      refine W.cond true (by simp -implicitDefEqProofs -dsimp only [go_sem, ↓reduceIte, Nat.reduceAdd, Nat.reduceMul, Nat.reduceSub, Nat.reduceEqDiff, Nat.reduceLeDiff, Nat.reduceLT, Nat.reduceBEq, Int.reduceEq, reduceCtorEq, hb57]) (fun _ => ?_) (fun hx => by cases hx)
      refine W.skip ?_
      try simp only [thenQ_normal, thenQ_exit, thenQ_ret, blockQ_normal, blockQ_here, blockQ_ret, blockQ_exit, ↓reduceIte, Nat.reduceEqDiff]
      refine W.block ?_
      refine W.seqR [] [(0, .str p0), (3, .msl 2 w39 0 6 l38.length l38.length), (4, .int .i64 i35), (5, .int .i64 i36), (6, .int .i64 (n37 : Int)), (7, .int .i32 ((Utf8.decode p0 n37).1 : Int)), (10, .ptr 0 0 0)] [.siter p0 (n37 + (Utf8.decode p0 n37).2), .dead, .rows (l38.map e_glyph_Spot) 6 w39 74] (by rfl) ?_ ?_
      · try simp -implicitDefEqProofs -dsimp only [go_sem, ↓reduceIte, Nat.reduceAdd, Nat.reduceMul, Nat.reduceSub, Nat.reduceEqDiff, Nat.reduceLeDiff, Nat.reduceLT, Nat.reduceBEq, Int.reduceEq, reduceCtorEq, hb57]
      refine W.seqR [] [(0, .str p0), (3, .msl 2 w39 0 6 l38.length l38.length), (4, .int .i64 i35), (5, .int .i64 i36), (6, .int .i64 (n37 : Int)), (7, .int .i32 ((Utf8.decode p0 n37).1 : Int)), (8, .ptr 3 0 0), (10, .ptr 0 0 0)] [.siter p0 (n37 + (Utf8.decode p0 n37).2), .dead, .rows (l38.map e_glyph_Spot) 6 w39 74, .cells [.int .i32 ((Utf8.decode p0 n37).1 : Int), .int .i64 (n37 : Int), .int .i64 1, .int .i64 i35, .int .i64 i36, .bool false] 0 74] (by rfl) ?_ ?_
      · try simp -implicitDefEqProofs -dsimp only [go_sem, ↓reduceIte, Nat.reduceAdd, Nat.reduceMul, Nat.reduceSub, Nat.reduceEqDiff, Nat.reduceLeDiff, Nat.reduceLT, Nat.reduceBEq, Int.reduceEq, reduceCtorEq, hb57]
      refine W.cut (fun s h => ∃ (v : Int × Bool) (w : Unit) (F : List Nat), glyph_Spots_j1 l38 p0 n37 i35 i36 v.1 v.2 = some x ∧ AT 0 F [(0, .str p0), (3, .msl 2 w39 0 6 l38.length l38.length), (4, .int .i64 i35), (5, .int .i64 i36), (7, .int .i32 ((Utf8.decode p0 n37).1 : Int)), (8, .ptr 3 0 0), (10, .ptr 0 0 0)] [.siter p0 (n37 + (Utf8.decode p0 n37).2), .dead, .rows (l38.map e_glyph_Spot) 6 w39 74, .cells [.int .i32 ((Utf8.decode p0 n37).1 : Int), .int .i64 (n37 : Int), .int .i64 v.1, .int .i64 i35, .int .i64 i36, .bool v.2] 0 74] s h) ?_ ?_
      · refine W.seqR [] [(0, .str p0), (3, .msl 2 w39 0 6 l38.length l38.length), (4, .int .i64 i35), (5, .int .i64 i36), (6, .int .i64 (n37 : Int)), (7, .int .i32 ((Utf8.decode p0 n37).1 : Int)), (8, .ptr 3 0 0), (10, .ptr 0 0 0), (21, .bool (((Utf8.decode p0 n37).1 : Int) == 65533))] [.siter p0 (n37 + (Utf8.decode p0 n37).2), .dead, .rows (l38.map e_glyph_Spot) 6 w39 74, .cells [.int .i32 ((Utf8.decode p0 n37).1 : Int), .int .i64 (n37 : Int), .int .i64 1, .int .i64 i35, .int .i64 i36, .bool false] 0 74] (by rfl) ?_ ?_
        · try simp -implicitDefEqProofs -dsimp only [go_sem, ↓reduceIte, Nat.reduceAdd, Nat.reduceMul, Nat.reduceSub, Nat.reduceEqDiff, Nat.reduceLeDiff, Nat.reduceLT, Nat.reduceBEq, Int.reduceEq, reduceCtorEq, hb57]
        refine W.cond (((Utf8.decode p0 n37).1 : Int) == 65533) (by simp only [ev_tmp, get_cons, ↓reduceIte, Nat.reduceEqDiff]) (fun hb65 => ?_) (fun hb65 => ?_)
        · have hm := of_true hb65 hm
          obtain ⟨h66, hm⟩ := of_ite hm
          obtain ⟨v67, h68, hm⟩ := of_bind hm
          refine W.seqR [] [(0, .str p0), (3, .msl 2 w39 0 6 l38.length l38.length), (4, .int .i64 i35), (5, .int .i64 i36), (7, .int .i32 ((Utf8.decode p0 n37).1 : Int)), (8, .ptr 3 0 0), (10, .ptr 0 0 0)] [.siter p0 (n37 + (Utf8.decode p0 n37).2), .dead, .rows (l38.map e_glyph_Spot) 6 w39 74, .cells [.int .i32 ((Utf8.decode p0 n37).1 : Int), .int .i64 (n37 : Int), .int .i64 v67.2, .int .i64 i35, .int .i64 i36, .bool false] 0 74] (by rfl) ?_ ?_
          · try simp -implicitDefEqProofs -dsimp only [go_sem, ↓reduceIte, Nat.reduceAdd, Nat.reduceMul, Nat.reduceSub, Nat.reduceEqDiff, Nat.reduceLeDiff, Nat.reduceLT, Nat.reduceBEq, Int.reduceEq, reduceCtorEq, hb57, hb65, h66]
            with_reducible refine exP.mk _ (callP.plain (by simp -implicitDefEqProofs -dsimp only [go_sem, ↓reduceIte, Nat.reduceAdd, Nat.reduceMul, Nat.reduceSub, Nat.reduceEqDiff, Nat.reduceLeDiff, Nat.reduceLT, Nat.reduceBEq, Int.reduceEq, reduceCtorEq, hb57, hb65, h66]) (by have hk := unicode_utf8_DecodeRuneInString_ok h68; (try simp only [hb57, hb65] at hk); exact hk)) ?_
            try simp -implicitDefEqProofs -dsimp only [go_sem, ↓reduceIte, Nat.reduceAdd, Nat.reduceMul, Nat.reduceSub, Nat.reduceEqDiff, Nat.reduceLeDiff, Nat.reduceLT, Nat.reduceBEq, Int.reduceEq, reduceCtorEq, hb57, hb65, h66]
          refine W.regL [] [(0, .str p0), (3, .msl 2 w39 0 6 l38.length l38.length), (4, .int .i64 i35), (5, .int .i64 i36), (7, .int .i32 ((Utf8.decode p0 n37).1 : Int)), (8, .ptr 3 0 0), (10, .ptr 0 0 0)] [.siter p0 (n37 + (Utf8.decode p0 n37).2), .dead, .rows (l38.map e_glyph_Spot) 6 w39 74, .cells [.int .i32 ((Utf8.decode p0 n37).1 : Int), .int .i64 (n37 : Int), .int .i64 v67.2, .int .i64 i35, .int .i64 i36, .bool (v67.2 == 1)] 0 74] (by rfl) ?_ ?_
          · try simp -implicitDefEqProofs -dsimp only [go_sem, ↓reduceIte, Nat.reduceAdd, Nat.reduceMul, Nat.reduceSub, Nat.reduceEqDiff, Nat.reduceLeDiff, Nat.reduceLT, Nat.reduceBEq, Int.reduceEq, reduceCtorEq, hb57, hb65, h66]
          try simp only [thenQ_normal, thenQ_exit, thenQ_ret, blockQ_normal, blockQ_here, blockQ_ret, blockQ_exit, ↓reduceIte, Nat.reduceEqDiff]
          exact ⟨(v67.2, (v67.2 == 1)), (), [], hm, (show AT 0 [] [(0, .str p0), (3, .msl 2 w39 0 6 l38.length l38.length), (4, .int .i64 i35), (5, .int .i64 i36), (7, .int .i32 ((Utf8.decode p0 n37).1 : Int)), (8, .ptr 3 0 0), (10, .ptr 0 0 0)] [.siter p0 (n37 + (Utf8.decode p0 n37).2), .dead, .rows (l38.map e_glyph_Spot) 6 w39 74, .cells [.int .i32 ((Utf8.decode p0 n37).1 : Int), .int .i64 (n37 : Int), .int .i64 v67.2, .int .i64 i35, .int .i64 i36, .bool (v67.2 == 1)] 0 74] _ _ from by simp -implicitDefEqProofs -dsimp only [go_sem, ↓reduceIte, Nat.reduceAdd, Nat.reduceMul, Nat.reduceSub, Nat.reduceEqDiff, Nat.reduceLeDiff, Nat.reduceLT, Nat.reduceBEq, Int.reduceEq, reduceCtorEq, hb57, hb65, h66])⟩
        · have hm := of_false hb65 hm
          obtain ⟨v69, h70, hm⟩ := of_bind hm
          refine W.regL [] [(0, .str p0), (3, .msl 2 w39 0 6 l38.length l38.length), (4, .int .i64 i35), (5, .int .i64 i36), (7, .int .i32 ((Utf8.decode p0 n37).1 : Int)), (8, .ptr 3 0 0), (10, .ptr 0 0 0)] [.siter p0 (n37 + (Utf8.decode p0 n37).2), .dead, .rows (l38.map e_glyph_Spot) 6 w39 74, .cells [.int .i32 ((Utf8.decode p0 n37).1 : Int), .int .i64 (n37 : Int), .int .i64 v69, .int .i64 i35, .int .i64 i36, .bool false] 0 74] (by rfl) ?_ ?_
          · try simp -implicitDefEqProofs -dsimp only [go_sem, ↓reduceIte, Nat.reduceAdd, Nat.reduceMul, Nat.reduceSub, Nat.reduceEqDiff, Nat.reduceLeDiff, Nat.reduceLT, Nat.reduceBEq, Int.reduceEq, reduceCtorEq, hb57, hb65]
            with_reducible refine exP.mk _ (callP.plain (by simp -implicitDefEqProofs -dsimp only [go_sem, ↓reduceIte, Nat.reduceAdd, Nat.reduceMul, Nat.reduceSub, Nat.reduceEqDiff, Nat.reduceLeDiff, Nat.reduceLT, Nat.reduceBEq, Int.reduceEq, reduceCtorEq, hb57, hb65]) (by have hk := unicode_utf8_RuneLen_ok h70; (try simp only [hb57, hb65] at hk); exact hk)) ?_
            try simp -implicitDefEqProofs -dsimp only [go_sem, ↓reduceIte, Nat.reduceAdd, Nat.reduceMul, Nat.reduceSub, Nat.reduceEqDiff, Nat.reduceLeDiff, Nat.reduceLT, Nat.reduceBEq, Int.reduceEq, reduceCtorEq, hb57, hb65]
          try simp only [thenQ_normal, thenQ_exit, thenQ_ret, blockQ_normal, blockQ_here, blockQ_ret, blockQ_exit, ↓reduceIte, Nat.reduceEqDiff]
          exact ⟨(v69, false), (), [], hm, (show AT 0 [] [(0, .str p0), (3, .msl 2 w39 0 6 l38.length l38.length), (4, .int .i64 i35), (5, .int .i64 i36), (7, .int .i32 ((Utf8.decode p0 n37).1 : Int)), (8, .ptr 3 0 0), (10, .ptr 0 0 0)] [.siter p0 (n37 + (Utf8.decode p0 n37).2), .dead, .rows (l38.map e_glyph_Spot) 6 w39 74, .cells [.int .i32 ((Utf8.decode p0 n37).1 : Int), .int .i64 (n37 : Int), .int .i64 v69, .int .i64 i35, .int .i64 i36, .bool false] 0 74] _ _ from by simp -implicitDefEqProofs -dsimp only [go_sem, ↓reduceIte, Nat.reduceAdd, Nat.reduceMul, Nat.reduceSub, Nat.reduceEqDiff, Nat.reduceLeDiff, Nat.reduceLT, Nat.reduceBEq, Int.reduceEq, reduceCtorEq, hb57, hb65])⟩
      · rintro s h ⟨⟨i58, b59⟩, _, F, hm, hat⟩
        refine W.weak F hat ?_
        show WK _ _ _ _ _ [(0, .str p0), (3, .msl 2 w39 0 6 l38.length l38.length), (4, .int .i64 i35), (5, .int .i64 i36), (7, .int .i32 ((Utf8.decode p0 n37).1 : Int)), (8, .ptr 3 0 0), (10, .ptr 0 0 0)] [.siter p0 (n37 + (Utf8.decode p0 n37).2), .dead, .rows (l38.map e_glyph_Spot) 6 w39 74, .cells [.int .i32 ((Utf8.decode p0 n37).1 : Int), .int .i64 (n37 : Int), .int .i64 i58, .int .i64 i35, .int .i64 i36, .bool b59] 0 74]
        rw [glyph_Spots_j1] at hm
        obtain ⟨h60, hm⟩ := of_ite hm
        obtain ⟨l61, h62, hm⟩ := of_bind hm
        replace h62 := Option.some.inj h62
        refine W.seqR [] [(0, .str p0), (3, .msl 2 (w39 + 1) 0 6 l61.length l61.length), (4, .int .i64 i35), (5, .int .i64 i36), (7, .int .i32 ((Utf8.decode p0 n37).1 : Int)), (10, .ptr 0 0 0)] [.siter p0 (n37 + (Utf8.decode p0 n37).2), .dead, .rows (l61.map e_glyph_Spot) 6 (w39 + 1) 74] (by rfl) ?_ ?_
        · try simp -implicitDefEqProofs -dsimp only [go_sem, ↓reduceIte, Nat.reduceAdd, Nat.reduceMul, Nat.reduceSub, Nat.reduceEqDiff, Nat.reduceLeDiff, Nat.reduceLT, Nat.reduceBEq, Int.reduceEq, reduceCtorEq, hb57, h60, ← h62]
          with_reducible refine exB false ?_
          try simp -implicitDefEqProofs -dsimp only [go_sem, ↓reduceIte, Nat.reduceAdd, Nat.reduceMul, Nat.reduceSub, Nat.reduceEqDiff, Nat.reduceLeDiff, Nat.reduceLT, Nat.reduceBEq, Int.reduceEq, reduceCtorEq, hb57, h60, ← h62]
          with_reducible refine exB true ?_
          try simp -implicitDefEqProofs -dsimp only [go_sem, ↓reduceIte, Nat.reduceAdd, Nat.reduceMul, Nat.reduceSub, Nat.reduceEqDiff, Nat.reduceLeDiff, Nat.reduceLT, Nat.reduceBEq, Int.reduceEq, reduceCtorEq, hb57, h60, ← h62]
        obtain ⟨v63, h64, hm⟩ := of_bind hm
        refine W.regL [] [(0, .str p0), (3, .msl 2 (w39 + 1) 0 6 l61.length l61.length), (4, .int .i64 v63.1), (5, .int .i64 v63.2), (10, .ptr 0 0 0)] [.siter p0 (n37 + (Utf8.decode p0 n37).2), .dead, .rows (l61.map e_glyph_Spot) 6 (w39 + 1) 74] (by rfl) ?_ ?_
        · try simp -implicitDefEqProofs -dsimp only [go_sem, ↓reduceIte, Nat.reduceAdd, Nat.reduceMul, Nat.reduceSub, Nat.reduceEqDiff, Nat.reduceLeDiff, Nat.reduceLT, Nat.reduceBEq, Int.reduceEq, reduceCtorEq, hb57, h60]
          with_reducible refine exP.mk _ (callP.plain (by simp -implicitDefEqProofs -dsimp only [go_sem, ↓reduceIte, Nat.reduceAdd, Nat.reduceMul, Nat.reduceSub, Nat.reduceEqDiff, Nat.reduceLeDiff, Nat.reduceLT, Nat.reduceBEq, Int.reduceEq, reduceCtorEq, hb57, h60]) (by have hk := glyph_step_ok h64; (try simp only [hb57] at hk); exact hk)) ?_
          try simp -implicitDefEqProofs -dsimp only [go_sem, ↓reduceIte, Nat.reduceAdd, Nat.reduceMul, Nat.reduceSub, Nat.reduceEqDiff, Nat.reduceLeDiff, Nat.reduceLT, Nat.reduceBEq, Int.reduceEq, reduceCtorEq, hb57, h60]
        try simp only [thenQ_normal, thenQ_exit, thenQ_ret, blockQ_normal, blockQ_here, blockQ_ret, blockQ_exit, ↓reduceIte, Nat.reduceEqDiff]
        obtain rfl := Option.some.inj hm
        exact ⟨(v63.1, v63.2, (n37 + (Utf8.decode p0 n37).2), l61), (w39 + 1), [], rfl, (show AT 0 [] [(0, .str p0), (3, .msl 2 (w39 + 1) 0 6 l61.length l61.length), (4, .int .i64 v63.1), (5, .int .i64 v63.2), (10, .ptr 0 0 0)] [.siter p0 (n37 + (Utf8.decode p0 n37).2), .dead, .rows (l61.map e_glyph_Spot) 6 (w39 + 1) 74] _ _ from by simp -implicitDefEqProofs -dsimp only [go_sem, ↓reduceIte, Nat.reduceAdd, Nat.reduceMul, Nat.reduceSub, Nat.reduceEqDiff, Nat.reduceLeDiff, Nat.reduceLT, Nat.reduceBEq, Int.reduceEq, reduceCtorEq, hb57, h60])⟩
    · rw [if_neg hb57] at hm
      refine W.seqR [] [(0, .str p0), (3, .msl 2 w39 0 6 l38.length l38.length), (4, .int .i64 i35), (5, .int .i64 i36), (10, .ptr 0 0 0), (11, .tuple [.bool false]), (12, .bool false)] [.siter p0 n37, .dead, .rows (l38.map e_glyph_Spot) 6 w39 74] (by rfl) ?_ ?_
      · try simp -implicitDefEqProofs -dsimp only [go_sem, ↓reduceIte, Nat.reduceAdd, Nat.reduceMul, Nat.reduceSub, Nat.reduceEqDiff, Nat.reduceLeDiff, Nat.reduceLT, Nat.reduceBEq, Int.reduceEq, reduceCtorEq, hb57]
      refine W.seq ?_
      refine W.cond false (by simp -implicitDefEqProofs -dsimp only [go_sem, ↓reduceIte, Nat.reduceAdd, Nat.reduceMul, Nat.reduceSub, Nat.reduceEqDiff, Nat.reduceLeDiff, Nat.reduceLT, Nat.reduceBEq, Int.reduceEq, reduceCtorEq, hb57]) (fun hx => by cases hx) (fun _ => ?_)
      obtain rfl := Option.some.inj hm
      obtain rfl := hx _ rfl
      refine W.weak [] (show AT 0 [] [(3, .msl 2 w39 0 6 l38.length l38.length)] [.dead, .dead, .rows (l38.map e_glyph_Spot) 6 w39 74] _ _ from by simp -implicitDefEqProofs -dsimp only [go_sem, ↓reduceIte, Nat.reduceAdd, Nat.reduceMul, Nat.reduceSub, Nat.reduceEqDiff, Nat.reduceLeDiff, Nat.reduceLT, Nat.reduceBEq, Int.reduceEq, reduceCtorEq, hb57]) (W.exit (show _ ∧ _ from ⟨rfl, w39, rfl, rfl⟩))
  · rintro e0 s0 h0 ⟨rfl, w55, rfl, rfl⟩
    try simp only [thenQ_normal, thenQ_exit, thenQ_ret, blockQ_normal, blockQ_here, blockQ_ret, blockQ_exit, ↓reduceIte, Nat.reduceEqDiff]
    show WK _ _ _ _ _ [(3, .msl 2 w55 0 6 r56.length r56.length)] [.dead, .dead, .rows (r56.map e_glyph_Spot) 6 w55 74]
    try simp only [thenQ_normal, thenQ_exit, thenQ_ret, blockQ_normal, blockQ_here, blockQ_ret, blockQ_exit, ↓reduceIte, Nat.reduceEqDiff]
    refine W.seqR [] [(2, .msl 2 w55 0 6 r56.length r56.length)] [.dead, .dead, .rows (r56.map e_glyph_Spot) 6 w55 74] (by rfl) ?_ ?_
    · try simp -implicitDefEqProofs -dsimp only [go_sem, ↓reduceIte, Nat.reduceAdd, Nat.reduceMul, Nat.reduceSub, Nat.reduceEqDiff, Nat.reduceLeDiff, Nat.reduceLT, Nat.reduceBEq, Int.reduceEq, reduceCtorEq]
    obtain rfl := Option.some.inj hm
    refine W.ret ?_
    try simp only [thenQ_normal, thenQ_exit, thenQ_ret, blockQ_normal, blockQ_here, blockQ_ret, blockQ_exit, ↓reduceIte, Nat.reduceEqDiff]
    refine EndsF.retW [2] ?_
    simp -implicitDefEqProofs -dsimp only [go_sem, ↓reduceIte, Nat.reduceAdd, Nat.reduceMul, Nat.reduceSub, Nat.reduceEqDiff, Nat.reduceLeDiff, Nat.reduceLT, Nat.reduceBEq, Int.reduceEq, reduceCtorEq]

theorem palingref1_Spots_ok {p0 : ByteArray} {r : (List T_palingref1_Spot)} (hm : palingref1_Spots p0 = some r) : PureF Tryd.prog 23 [.str p0] (.sl (r.map e_palingref1_Spot)) := by
  rw [palingref1_Spots] at hm
  refine PureF.of Tryd.func23 rfl Tryd.ntmps23 (Nat.le_of_ble_eq_true rfl) ?_
  have e0 : argS 0 [.str p0] = [(0, .str p0)] := rfl
  rw [e0]
  refine W.seqR [] [(0, .str p0)] [] (by rfl) ?_ ?_
  · try simp -implicitDefEqProofs -dsimp only [go_sem, ↓reduceIte, Nat.reduceAdd, Nat.reduceMul, Nat.reduceSub, Nat.reduceEqDiff, Nat.reduceLeDiff, Nat.reduceLT, Nat.reduceBEq, Int.reduceEq, reduceCtorEq]
  refine W.seqR [] [(0, .str p0), (3, .nils)] [] (by rfl) ?_ ?_
  · try simp -implicitDefEqProofs -dsimp only [go_sem, ↓reduceIte, Nat.reduceAdd, Nat.reduceMul, Nat.reduceSub, Nat.reduceEqDiff, Nat.reduceLeDiff, Nat.reduceLT, Nat.reduceBEq, Int.reduceEq, reduceCtorEq]
  refine W.seqR [] [(0, .str p0), (3, .nils), (4, .int .i64 1), (5, .int .i64 1)] [] (by rfl) ?_ ?_
  · try simp -implicitDefEqProofs -dsimp only [go_sem, ↓reduceIte, Nat.reduceAdd, Nat.reduceMul, Nat.reduceSub, Nat.reduceEqDiff, Nat.reduceLeDiff, Nat.reduceLT, Nat.reduceBEq, Int.reduceEq, reduceCtorEq]
  refine W.seq ?_
  refine W.seqR [] [(0, .str p0), (3, .nils), (4, .int .i64 1), (5, .int .i64 1), (10, .ptr 0 0 0)] [.siter p0 0] (by rfl) ?_ ?_
  · try simp -implicitDefEqProofs -dsimp only [go_sem, ↓reduceIte, Nat.reduceAdd, Nat.reduceMul, Nat.reduceSub, Nat.reduceEqDiff, Nat.reduceLeDiff, Nat.reduceLT, Nat.reduceBEq, Int.reduceEq, reduceCtorEq]
  refine W.block ?_
  obtain ⟨r40, hlr40, hm⟩ := of_bind hm
  refine W.mono (Q := fun e0 s0 h0 => e0 = .exit 0 ∧ ∃ w : Nat, s0 = [(0, .str p0), (3, .msl 1 w 0 6 r40.length r40.length)] ∧ h0 = [.dead, .rows (r40.map e_palingref1_Spot) 6 w 49]) (W.loopM (step := palingref1_Spots_s1 p0) (a0 := (1, 1, 0, [])) (fun (a : Int × Int × Nat × (List T_palingref1_Spot)) (v : Nat) => ([(0, .str p0), (3, .msl 1 v 0 6 a.2.2.2.length a.2.2.2.length), (4, .int .i64 a.1), (5, .int .i64 a.2.1), (10, .ptr 0 0 0)], [.siter p0 a.2.2.1, .rows (a.2.2.2.map e_palingref1_Spot) 6 v 49])) 0 hlr40 [] (show AT 0 [] [(0, .str p0), (3, .msl 1 0 0 6 ([]).length ([]).length), (4, .int .i64 1), (5, .int .i64 1), (10, .ptr 0 0 0)] [.siter p0 0, .rows (([]).map e_palingref1_Spot) 6 0 49] _ _ from by simp -implicitDefEqProofs -dsimp only [go_sem, ↓reduceIte, Nat.reduceAdd, Nat.reduceMul, Nat.reduceSub, Nat.reduceEqDiff, Nat.reduceLeDiff, Nat.reduceLT, Nat.reduceBEq, Int.reduceEq, reduceCtorEq]) ?_) ?_
  · rintro ⟨i22, i23, n24, l25⟩ w26 x hm hx
    rw [palingref1_Spots_s1] at hm
    show WK _ _ _ _ _ [(0, .str p0), (3, .msl 1 w26 0 6 l25.length l25.length), (4, .int .i64 i22), (5, .int .i64 i23), (10, .ptr 0 0 0)] [.siter p0 n24, .rows (l25.map e_palingref1_Spot) 6 w26 49]
    by_cases hb41 : n24 < p0.size
    · rw [if_pos hb41] at hm
      refine W.seqR [] [(0, .str p0), (3, .msl 1 w26 0 6 l25.length l25.length), (4, .int .i64 i22), (5, .int .i64 i23), (10, .ptr 0 0 0), (11, .tuple [.bool true, .int .i64 (n24 : Int), .int .i32 ((Utf8.decode p0 n24).1 : Int)]), (12, .bool true)] [.siter p0 (n24 + (Utf8.decode p0 n24).2), .rows (l25.map e_palingref1_Spot) 6 w26 49] (by rfl) ?_ ?_
      · try simp -implicitDefEqProofs -dsimp only [go_sem, ↓reduceIte, Nat.reduceAdd, Nat.reduceMul, Nat.reduceSub, Nat.reduceEqDiff, Nat.reduceLeDiff, Nat.reduceLT, Nat.reduceBEq, Int.reduceEq, reduceCtorEq, hb41]
      refine W.seq ?_
      refine W.cond true (by simp -implicitDefEqProofs -dsimp only [go_sem, ↓reduceIte, Nat.reduceAdd, Nat.reduceMul, Nat.reduceSub, Nat.reduceEqDiff, Nat.reduceLeDiff, Nat.reduceLT, Nat.reduceBEq, Int.reduceEq, reduceCtorEq, hb41]) (fun _ => ?_) (fun hx => by cases hx)
      refine W.skip ?_
      try simp only [thenQ_normal, thenQ_exit, thenQ_ret, blockQ_normal, blockQ_here, blockQ_ret, blockQ_exit, ↓reduceIte, Nat.reduceEqDiff]
      refine W.block ?_
      refine W.seqR [] [(0, .str p0), (3, .msl 1 w26 0 6 l25.length l25.length), (4, .int .i64 i22), (5, .int .i64 i23), (6, .int .i64 (n24 : Int)), (7, .int .i32 ((Utf8.decode p0 n24).1 : Int)), (10, .ptr 0 0 0)] [.siter p0 (n24 + (Utf8.decode p0 n24).2), .rows (l25.map e_palingref1_Spot) 6 w26 49] (by rfl) ?_ ?_
      · try simp -implicitDefEqProofs -dsimp only [go_sem, ↓reduceIte, Nat.reduceAdd, Nat.reduceMul, Nat.reduceSub, Nat.reduceEqDiff, Nat.reduceLeDiff, Nat.reduceLT, Nat.reduceBEq, Int.reduceEq, reduceCtorEq, hb41]
      refine W.cut (fun s h => ∃ (v : (List T_palingref1_Spot)) (w : Unit) (F : List Nat), palingref1_Spots_j1 p0 n24 i22 i23 v = some x ∧ AT 0 F [(0, .str p0), (3, .msl 1 w26 0 6 v.length v.length), (4, .int .i64 i22), (5, .int .i64 i23), (6, .int .i64 (n24 : Int)), (7, .int .i32 ((Utf8.decode p0 n24).1 : Int)), (10, .ptr 0 0 0)] [.siter p0 (n24 + (Utf8.decode p0 n24).2), .rows (v.map e_palingref1_Spot) 6 w26 49] s h) ?_ ?_
      · refine W.seqR [] [(0, .str p0), (3, .msl 1 w26 0 6 l25.length l25.length), (4, .int .i64 i22), (5, .int .i64 i23), (6, .int .i64 (n24 : Int)), (7, .int .i32 ((Utf8.decode p0 n24).1 : Int)), (10, .ptr 0 0 0), (17, .bool (decide ((l25.length : Int) > 0)))] [.siter p0 (n24 + (Utf8.decode p0 n24).2), .rows (l25.map e_palingref1_Spot) 6 w26 49] (by rfl) ?_ ?_
        · try simp -implicitDefEqProofs -dsimp only [go_sem, ↓reduceIte, Nat.reduceAdd, Nat.reduceMul, Nat.reduceSub, Nat.reduceEqDiff, Nat.reduceLeDiff, Nat.reduceLT, Nat.reduceBEq, Int.reduceEq, reduceCtorEq, hb41]
        refine W.cond (decide ((l25.length : Int) > 0)) (by simp only [ev_tmp, get_cons, ↓reduceIte, Nat.reduceEqDiff]) (fun hb47 => ?_) (fun hb47 => ?_)
        · have hm := of_true hb47 hm
          obtain ⟨h48, hm⟩ := of_ite hm
          obtain ⟨h49, hm⟩ := of_ite hm
          obtain ⟨l50, h51, hm⟩ := of_bind hm
          replace h51 := Option.some.inj h51
          refine W.regL [] [(0, .str p0), (3, .msl 1 w26 0 6 l50.length l50.length), (4, .int .i64 i22), (5, .int .i64 i23), (6, .int .i64 (n24 : Int)), (7, .int .i32 ((Utf8.decode p0 n24).1 : Int)), (10, .ptr 0 0 0)] [.siter p0 (n24 + (Utf8.decode p0 n24).2), .rows (l50.map e_palingref1_Spot) 6 w26 49] (by rfl) ?_ ?_
          · try simp -implicitDefEqProofs -dsimp only [go_sem, ↓reduceIte, Nat.reduceAdd, Nat.reduceMul, Nat.reduceSub, Nat.reduceEqDiff, Nat.reduceLeDiff, Nat.reduceLT, Nat.reduceBEq, Int.reduceEq, reduceCtorEq, hb41, hb47, h48, h49, ← h51]
          try simp only [thenQ_normal, thenQ_exit, thenQ_ret, blockQ_normal, blockQ_here, blockQ_ret, blockQ_exit, ↓reduceIte, Nat.reduceEqDiff]
          exact ⟨l50, (), [], hm, (show AT 0 [] [(0, .str p0), (3, .msl 1 w26 0 6 l50.length l50.length), (4, .int .i64 i22), (5, .int .i64 i23), (6, .int .i64 (n24 : Int)), (7, .int .i32 ((Utf8.decode p0 n24).1 : Int)), (10, .ptr 0 0 0)] [.siter p0 (n24 + (Utf8.decode p0 n24).2), .rows (l50.map e_palingref1_Spot) 6 w26 49] _ _ from by simp -implicitDefEqProofs -dsimp only [go_sem, ↓reduceIte, Nat.reduceAdd, Nat.reduceMul, Nat.reduceSub, Nat.reduceEqDiff, Nat.reduceLeDiff, Nat.reduceLT, Nat.reduceBEq, Int.reduceEq, reduceCtorEq, hb41, hb47, h48, h49])⟩
        · have hm := of_false hb47 hm
          refine W.skip ?_
          try simp only [thenQ_normal, thenQ_exit, thenQ_ret, blockQ_normal, blockQ_here, blockQ_ret, blockQ_exit, ↓reduceIte, Nat.reduceEqDiff]
          exact ⟨l25, (), [], hm, (show AT 0 [] [(0, .str p0), (3, .msl 1 w26 0 6 l25.length l25.length), (4, .int .i64 i22), (5, .int .i64 i23), (6, .int .i64 (n24 : Int)), (7, .int .i32 ((Utf8.decode p0 n24).1 : Int)), (10, .ptr 0 0 0)] [.siter p0 (n24 + (Utf8.decode p0 n24).2), .rows (l25.map e_palingref1_Spot) 6 w26 49] _ _ from by simp -implicitDefEqProofs -dsimp only [go_sem, ↓reduceIte, Nat.reduceAdd, Nat.reduceMul, Nat.reduceSub, Nat.reduceEqDiff, Nat.reduceLeDiff, Nat.reduceLT, Nat.reduceBEq, Int.reduceEq, reduceCtorEq, hb41, hb47])⟩
      · rintro s h ⟨l42, _, F, hm, hat⟩
        refine W.weak F hat ?_
        show WK _ _ _ _ _ [(0, .str p0), (3, .msl 1 w26 0 6 l42.length l42.length), (4, .int .i64 i22), (5, .int .i64 i23), (6, .int .i64 (n24 : Int)), (7, .int .i32 ((Utf8.decode p0 n24).1 : Int)), (10, .ptr 0 0 0)] [.siter p0 (n24 + (Utf8.decode p0 n24).2), .rows (l42.map e_palingref1_Spot) 6 w26 49]
        rw [palingref1_Spots_j1] at hm
        obtain ⟨h43, hm⟩ := of_ite hm
        obtain ⟨l44, h45, hm⟩ := of_bind hm
        replace h45 := Option.some.inj h45
        refine W.seqR [] [(0, .str p0), (3, .msl 1 (w26 + 1) 0 6 l44.length l44.length), (4, .int .i64 i22), (5, .int .i64 i23), (7, .int .i32 ((Utf8.decode p0 n24).1 : Int)), (10, .ptr 0 0 0)] [.siter p0 (n24 + (Utf8.decode p0 n24).2), .rows (l44.map e_palingref1_Spot) 6 (w26 + 1) 49] (by rfl) ?_ ?_
        · try simp -implicitDefEqProofs -dsimp only [go_sem, ↓reduceIte, Nat.reduceAdd, Nat.reduceMul, Nat.reduceSub, Nat.reduceEqDiff, Nat.reduceLeDiff, Nat.reduceLT, Nat.reduceBEq, Int.reduceEq, reduceCtorEq, hb41, h43, ← h45]
          with_reducible refine exB false ?_
          try simp -implicitDefEqProofs -dsimp only [go_sem, ↓reduceIte, Nat.reduceAdd, Nat.reduceMul, Nat.reduceSub, Nat.reduceEqDiff, Nat.reduceLeDiff, Nat.reduceLT, Nat.reduceBEq, Int.reduceEq, reduceCtorEq, hb41, h43, ← h45]
          with_reducible refine exB true ?_
          try simp -implicitDefEqProofs -dsimp only [go_sem, ↓reduceIte, Nat.reduceAdd, Nat.reduceMul, Nat.reduceSub, Nat.reduceEqDiff, Nat.reduceLeDiff, Nat.reduceLT, Nat.reduceBEq, Int.reduceEq, reduceCtorEq, hb41, h43, ← h45]
        refine W.seqR [] [(0, .str p0), (3, .msl 1 (w26 + 1) 0 6 l44.length l44.length), (4, .int .i64 i22), (5, .int .i64 (IntKind.wrap .i64 (i23 + 1))), (7, .int .i32 ((Utf8.decode p0 n24).1 : Int)), (10, .ptr 0 0 0)] [.siter p0 (n24 + (Utf8.decode p0 n24).2), .rows (l44.map e_palingref1_Spot) 6 (w26 + 1) 49] (by rfl) ?_ ?_
        · try simp -implicitDefEqProofs -dsimp only [go_sem, ↓reduceIte, Nat.reduceAdd, Nat.reduceMul, Nat.reduceSub, Nat.reduceEqDiff, Nat.reduceLeDiff, Nat.reduceLT, Nat.reduceBEq, Int.reduceEq, reduceCtorEq, hb41, h43]
        refine W.seqR [] [(0, .str p0), (3, .msl 1 (w26 + 1) 0 6 l44.length l44.length), (4, .int .i64 i22), (5, .int .i64 (IntKind.wrap .i64 (i23 + 1))), (10, .ptr 0 0 0), (44, .bool (((Utf8.decode p0 n24).1 : Int) == 10))] [.siter p0 (n24 + (Utf8.decode p0 n24).2), .rows (l44.map e_palingref1_Spot) 6 (w26 + 1) 49] (by rfl) ?_ ?_
        · try simp -implicitDefEqProofs -dsimp only [go_sem, ↓reduceIte, Nat.reduceAdd, Nat.reduceMul, Nat.reduceSub, Nat.reduceEqDiff, Nat.reduceLeDiff, Nat.reduceLT, Nat.reduceBEq, Int.reduceEq, reduceCtorEq, hb41, h43]
        refine W.cond (((Utf8.decode p0 n24).1 : Int) == 10) (by simp only [ev_tmp, get_cons, ↓reduceIte, Nat.reduceEqDiff]) (fun hb46 => ?_) (fun hb46 => ?_)
        · have hm := of_true hb46 hm
          refine W.regL [] [(0, .str p0), (3, .msl 1 (w26 + 1) 0 6 l44.length l44.length), (4, .int .i64 (IntKind.wrap .i64 (i22 + 1))), (5, .int .i64 1), (10, .ptr 0 0 0)] [.siter p0 (n24 + (Utf8.decode p0 n24).2), .rows (l44.map e_palingref1_Spot) 6 (w26 + 1) 49] (by rfl) ?_ ?_
          · try simp -implicitDefEqProofs -dsimp only [go_sem, ↓reduceIte, Nat.reduceAdd, Nat.reduceMul, Nat.reduceSub, Nat.reduceEqDiff, Nat.reduceLeDiff, Nat.reduceLT, Nat.reduceBEq, Int.reduceEq, reduceCtorEq, hb41, h43, hb46]
          try simp only [thenQ_normal, thenQ_exit, thenQ_ret, blockQ_normal, blockQ_here, blockQ_ret, blockQ_exit, ↓reduceIte, Nat.reduceEqDiff]
          obtain rfl := Option.some.inj hm
          exact ⟨((IntKind.wrap .i64 (i22 + 1)), 1, (n24 + (Utf8.decode p0 n24).2), l44), (w26 + 1), [], rfl, (show AT 0 [] [(0, .str p0), (3, .msl 1 (w26 + 1) 0 6 l44.length l44.length), (4, .int .i64 (IntKind.wrap .i64 (i22 + 1))), (5, .int .i64 1), (10, .ptr 0 0 0)] [.siter p0 (n24 + (Utf8.decode p0 n24).2), .rows (l44.map e_palingref1_Spot) 6 (w26 + 1) 49] _ _ from by simp -implicitDefEqProofs -dsimp only [go_sem, ↓reduceIte, Nat.reduceAdd, Nat.reduceMul, Nat.reduceSub, Nat.reduceEqDiff, Nat.reduceLeDiff, Nat.reduceLT, Nat.reduceBEq, Int.reduceEq, reduceCtorEq, hb41, h43, hb46])⟩
        · have hm := of_false hb46 hm
          refine W.skip ?_
          try simp only [thenQ_normal, thenQ_exit, thenQ_ret, blockQ_normal, blockQ_here, blockQ_ret, blockQ_exit, ↓reduceIte, Nat.reduceEqDiff]
          obtain rfl := Option.some.inj hm
          exact ⟨(i22, (IntKind.wrap .i64 (i23 + 1)), (n24 + (Utf8.decode p0 n24).2), l44), (w26 + 1), [], rfl, (show AT 0 [] [(0, .str p0), (3, .msl 1 (w26 + 1) 0 6 l44.length l44.length), (4, .int .i64 i22), (5, .int .i64 (IntKind.wrap .i64 (i23 + 1))), (10, .ptr 0 0 0)] [.siter p0 (n24 + (Utf8.decode p0 n24).2), .rows (l44.map e_palingref1_Spot) 6 (w26 + 1) 49] _ _ from by simp -implicitDefEqProofs -dsimp only [go_sem, ↓reduceIte, Nat.reduceAdd, Nat.reduceMul, Nat.reduceSub, Nat.reduceEqDiff, Nat.reduceLeDiff, Nat.reduceLT, Nat.reduceBEq, Int.reduceEq, reduceCtorEq, hb41, h43, hb46])⟩
    · rw [if_neg hb41] at hm
      refine W.seqR [] [(0, .str p0), (3, .msl 1 w26 0 6 l25.length l25.length), (4, .int .i64 i22), (5, .int .i64 i23), (10, .ptr 0 0 0), (11, .tuple [.bool false]), (12, .bool false)] [.siter p0 n24, .rows (l25.map e_palingref1_Spot) 6 w26 49] (by rfl) ?_ ?_
      · try simp -implicitDefEqProofs -dsimp only [go_sem, ↓reduceIte, Nat.reduceAdd, Nat.reduceMul, Nat.reduceSub, Nat.reduceEqDiff, Nat.reduceLeDiff, Nat.reduceLT, Nat.reduceBEq, Int.reduceEq, reduceCtorEq, hb41]
      refine W.seq ?_
      refine W.cond false (by simp -implicitDefEqProofs -dsimp only [go_sem, ↓reduceIte, Nat.reduceAdd, Nat.reduceMul, Nat.reduceSub, Nat.reduceEqDiff, Nat.reduceLeDiff, Nat.reduceLT, Nat.reduceBEq, Int.reduceEq, reduceCtorEq, hb41]) (fun hx => by cases hx) (fun _ => ?_)
      obtain rfl := Option.some.inj hm
      obtain rfl := hx _ rfl
      refine W.weak [] (show AT 0 [] [(0, .str p0), (3, .msl 1 w26 0 6 l25.length l25.length)] [.dead, .rows (l25.map e_palingref1_Spot) 6 w26 49] _ _ from by simp -implicitDefEqProofs -dsimp only [go_sem, ↓reduceIte, Nat.reduceAdd, Nat.reduceMul, Nat.reduceSub, Nat.reduceEqDiff, Nat.reduceLeDiff, Nat.reduceLT, Nat.reduceBEq, Int.reduceEq, reduceCtorEq, hb41]) (W.exit (show _ ∧ _ from ⟨rfl, w26, rfl, rfl⟩))
  · rintro e0 s0 h0 ⟨rfl, w39, rfl, rfl⟩
    try simp only [thenQ_normal, thenQ_exit, thenQ_ret, blockQ_normal, blockQ_here, blockQ_ret, blockQ_exit, ↓reduceIte, Nat.reduceEqDiff]
    show WK _ _ _ _ _ [(0, .str p0), (3, .msl 1 w39 0 6 r40.length r40.length)] [.dead, .rows (r40.map e_palingref1_Spot) 6 w39 49]
    try simp only [thenQ_normal, thenQ_exit, thenQ_ret, blockQ_normal, blockQ_here, blockQ_ret, blockQ_exit, ↓reduceIte, Nat.reduceEqDiff]
    refine W.cut (fun s h => ∃ (v : (List T_palingref1_Spot)) (w : Unit) (F : List Nat), palingref1_Spots_j2 v = some r ∧ AT 0 F [(3, .msl 1 w39 0 6 v.length v.length)] [.dead, .rows (v.map e_palingref1_Spot) 6 w39 49] s h) ?_ ?_
    · refine W.seqR [] [(0, .str p0), (3, .msl 1 w39 0 6 r40.length r40.length), (49, .bool (decide ((r40.length : Int) > 0)))] [.dead, .rows (r40.map e_palingref1_Spot) 6 w39 49] (by rfl) ?_ ?_
      · try simp -implicitDefEqProofs -dsimp only [go_sem, ↓reduceIte, Nat.reduceAdd, Nat.reduceMul, Nat.reduceSub, Nat.reduceEqDiff, Nat.reduceLeDiff, Nat.reduceLT, Nat.reduceBEq, Int.reduceEq, reduceCtorEq]
      refine W.cond (decide ((r40.length : Int) > 0)) (by simp only [ev_tmp, get_cons, ↓reduceIte, Nat.reduceEqDiff]) (fun hb84 => ?_) (fun hb84 => ?_)
      · have hm := of_true hb84 hm
        obtain ⟨h85, hm⟩ := of_ite hm
        obtain ⟨h86, hm⟩ := of_ite hm
        obtain ⟨l87, h88, hm⟩ := of_bind hm
        replace h88 := Option.some.inj h88
        refine W.regL [] [(3, .msl 1 w39 0 6 l87.length l87.length)] [.dead, .rows (l87.map e_palingref1_Spot) 6 w39 49] (by rfl) ?_ ?_
        · try simp -implicitDefEqProofs -dsimp only [go_sem, ↓reduceIte, Nat.reduceAdd, Nat.reduceMul, Nat.reduceSub, Nat.reduceEqDiff, Nat.reduceLeDiff, Nat.reduceLT, Nat.reduceBEq, Int.reduceEq, reduceCtorEq, hb84, h85, h86, ← h88]
        try simp only [thenQ_normal, thenQ_exit, thenQ_ret, blockQ_normal, blockQ_here, blockQ_ret, blockQ_exit, ↓reduceIte, Nat.reduceEqDiff]
        exact ⟨l87, (), [], hm, (show AT 0 [] [(3, .msl 1 w39 0 6 l87.length l87.length)] [.dead, .rows (l87.map e_palingref1_Spot) 6 w39 49] _ _ from by simp -implicitDefEqProofs -dsimp only [go_sem, ↓reduceIte, Nat.reduceAdd, Nat.reduceMul, Nat.reduceSub, Nat.reduceEqDiff, Nat.reduceLeDiff, Nat.reduceLT, Nat.reduceBEq, Int.reduceEq, reduceCtorEq, hb84, h85, h86])⟩
      · have hm := of_false hb84 hm
        refine W.skip ?_
        try simp only [thenQ_normal, thenQ_exit, thenQ_ret, blockQ_normal, blockQ_here, blockQ_ret, blockQ_exit, ↓reduceIte, Nat.reduceEqDiff]
        exact ⟨r40, (), [], hm, (show AT 0 [] [(3, .msl 1 w39 0 6 r40.length r40.length)] [.dead, .rows (r40.map e_palingref1_Spot) 6 w39 49] _ _ from by simp -implicitDefEqProofs -dsimp only [go_sem, ↓reduceIte, Nat.reduceAdd, Nat.reduceMul, Nat.reduceSub, Nat.reduceEqDiff, Nat.reduceLeDiff, Nat.reduceLT, Nat.reduceBEq, Int.reduceEq, reduceCtorEq, hb84])⟩
    · rintro s h ⟨l52, _, F, hm, hat⟩
      refine W.weak F hat ?_
      show WK _ _ _ _ _ [(3, .msl 1 w39 0 6 l52.length l52.length)] [.dead, .rows (l52.map e_palingref1_Spot) 6 w39 49]
      rw [palingref1_Spots_j2] at hm
      refine W.seq ?_
      refine W.seqR [] [(3, .msl 1 w39 0 6 l52.length l52.length), (8, .int .i64 0)] [.dead, .rows (l52.map e_palingref1_Spot) 6 w39 49] (by rfl) ?_ ?_
      · try simp -implicitDefEqProofs -dsimp only [go_sem, ↓reduceIte, Nat.reduceAdd, Nat.reduceMul, Nat.reduceSub, Nat.reduceEqDiff, Nat.reduceLeDiff, Nat.reduceLT, Nat.reduceBEq, Int.reduceEq, reduceCtorEq]
      refine W.block ?_
      obtain ⟨r76, hlr76, hm⟩ := of_bind hm
      refine W.mono (Q := fun e0 s0 h0 => e0 = .exit 2 ∧ ∃ w : Unit, s0 = [(3, .msl 1 w39 0 6 r76.length r76.length)] ∧ h0 = [.dead, .rows (r76.map e_palingref1_Spot) 6 w39 49]) (W.loopM (step := palingref1_Spots_s2) (a0 := (0, l52)) (fun (a : Int × (List T_palingref1_Spot)) (v : Unit) => ([(3, .msl 1 w39 0 6 a.2.length a.2.length), (8, .int .i64 a.1)], [.dead, .rows (a.2.map e_palingref1_Spot) 6 w39 49])) () hlr76 [] (show AT 0 [] [(3, .msl 1 w39 0 6 l52.length l52.length), (8, .int .i64 0)] [.dead, .rows (l52.map e_palingref1_Spot) 6 w39 49] _ _ from by simp -implicitDefEqProofs -dsimp only [go_sem, ↓reduceIte, Nat.reduceAdd, Nat.reduceMul, Nat.reduceSub, Nat.reduceEqDiff, Nat.reduceLeDiff, Nat.reduceLT, Nat.reduceBEq, Int.reduceEq, reduceCtorEq]) ?_) ?_
      · rintro ⟨i67, l68⟩ _ x hm hx
        rw [palingref1_Spots_s2] at hm
        show WK _ _ _ _ _ [(3, .msl 1 w39 0 6 l68.length l68.length), (8, .int .i64 i67)] [.dead, .rows (l68.map e_palingref1_Spot) 6 w39 49]
        refine W.seq ?_
        refine W.seqR [] [(3, .msl 1 w39 0 6 l68.length l68.length), (8, .int .i64 i67), (69, .bool (decide (i67 < (l68.length : Int))))] [.dead, .rows (l68.map e_palingref1_Spot) 6 w39 49] (by rfl) ?_ ?_
        · try simp -implicitDefEqProofs -dsimp only [go_sem, ↓reduceIte, Nat.reduceAdd, Nat.reduceMul, Nat.reduceSub, Nat.reduceEqDiff, Nat.reduceLeDiff, Nat.reduceLT, Nat.reduceBEq, Int.reduceEq, reduceCtorEq]
        refine W.cond (decide (i67 < (l68.length : Int))) (by simp only [ev_tmp, get_cons, ↓reduceIte, Nat.reduceEqDiff]) (fun hb77 => ?_) (fun hb77 => ?_)
        · have hm := of_true hb77 hm
          refine W.skip ?_
          try simp only [thenQ_normal, thenQ_exit, thenQ_ret, blockQ_normal, blockQ_here, blockQ_ret, blockQ_exit, ↓reduceIte, Nat.reduceEqDiff]
          refine W.seq ?_
          refine W.block ?_
          obtain ⟨h78, hm⟩ := of_ite hm
          obtain ⟨h79, hm⟩ := of_ite hm
          obtain ⟨h80, hm⟩ := of_ite hm
          obtain ⟨l81, h82, hm⟩ := of_bind hm
          replace h82 := Option.some.inj h82
          refine W.regL [] [(3, .msl 1 w39 0 6 l81.length l81.length), (8, .int .i64 i67)] [.dead, .rows (l81.map e_palingref1_Spot) 6 w39 49] (by rfl) ?_ ?_
          · try simp -implicitDefEqProofs -dsimp only [go_sem, ↓reduceIte, Nat.reduceAdd, Nat.reduceMul, Nat.reduceSub, Nat.reduceEqDiff, Nat.reduceLeDiff, Nat.reduceLT, Nat.reduceBEq, Int.reduceEq, reduceCtorEq, hb77, h78, h79, h80, ← h82]
            refine onG_split (fun hg83 => ?_) (fun hg83 => ?_)
            · try simp -implicitDefEqProofs -dsimp only [go_sem, ↓reduceIte, Nat.reduceAdd, Nat.reduceMul, Nat.reduceSub, Nat.reduceEqDiff, Nat.reduceLeDiff, Nat.reduceLT, Nat.reduceBEq, Int.reduceEq, reduceCtorEq, hb77, h78, h79, h80, hg83, ← h82]
            · try simp -implicitDefEqProofs -dsimp only [go_sem, ↓reduceIte, Nat.reduceAdd, Nat.reduceMul, Nat.reduceSub, Nat.reduceEqDiff, Nat.reduceLeDiff, Nat.reduceLT, Nat.reduceBEq, Int.reduceEq, reduceCtorEq, hb77, h78, h79, h80, hg83, ← h82]
          try simp only [thenQ_normal, thenQ_exit, thenQ_ret, blockQ_normal, blockQ_here, blockQ_ret, blockQ_exit, ↓reduceIte, Nat.reduceEqDiff]
          refine W.regL [] [(3, .msl 1 w39 0 6 l81.length l81.length), (8, .int .i64 (IntKind.wrap .i64 (i67 + 1)))] [.dead, .rows (l81.map e_palingref1_Spot) 6 w39 49] (by rfl) ?_ ?_
          · try simp -implicitDefEqProofs -dsimp only [go_sem, ↓reduceIte, Nat.reduceAdd, Nat.reduceMul, Nat.reduceSub, Nat.reduceEqDiff, Nat.reduceLeDiff, Nat.reduceLT, Nat.reduceBEq, Int.reduceEq, reduceCtorEq, hb77, h78, h79, h80]
          try simp only [thenQ_normal, thenQ_exit, thenQ_ret, blockQ_normal, blockQ_here, blockQ_ret, blockQ_exit, ↓reduceIte, Nat.reduceEqDiff]
          obtain rfl := Option.some.inj hm
          exact ⟨((IntKind.wrap .i64 (i67 + 1)), l81), (), [], rfl, (show AT 0 [] [(3, .msl 1 w39 0 6 l81.length l81.length), (8, .int .i64 (IntKind.wrap .i64 (i67 + 1)))] [.dead, .rows (l81.map e_palingref1_Spot) 6 w39 49] _ _ from by simp -implicitDefEqProofs -dsimp only [go_sem, ↓reduceIte, Nat.reduceAdd, Nat.reduceMul, Nat.reduceSub, Nat.reduceEqDiff, Nat.reduceLeDiff, Nat.reduceLT, Nat.reduceBEq, Int.reduceEq, reduceCtorEq, hb77, h78, h79, h80])⟩
        · have hm := of_false hb77 hm
          obtain rfl := Option.some.inj hm
          obtain rfl := hx _ rfl
          refine W.weak [] (show AT 0 [] [(3, .msl 1 w39 0 6 l68.length l68.length)] [.dead, .rows (l68.map e_palingref1_Spot) 6 w39 49] _ _ from by simp -implicitDefEqProofs -dsimp only [go_sem, ↓reduceIte, Nat.reduceAdd, Nat.reduceMul, Nat.reduceSub, Nat.reduceEqDiff, Nat.reduceLeDiff, Nat.reduceLT, Nat.reduceBEq, Int.reduceEq, reduceCtorEq, hb77]) (W.exit (show _ ∧ _ from ⟨rfl, (), rfl, rfl⟩))
      · rintro e0 s0 h0 ⟨rfl, _, rfl, rfl⟩
        try simp only [thenQ_normal, thenQ_exit, thenQ_ret, blockQ_normal, blockQ_here, blockQ_ret, blockQ_exit, ↓reduceIte, Nat.reduceEqDiff]
        show WK _ _ _ _ _ [(3, .msl 1 w39 0 6 r76.length r76.length)] [.dead, .rows (r76.map e_palingref1_Spot) 6 w39 49]
        try simp only [thenQ_normal, thenQ_exit, thenQ_ret, blockQ_normal, blockQ_here, blockQ_ret, blockQ_exit, ↓reduceIte, Nat.reduceEqDiff]
        refine W.seqR [] [(2, .msl 1 w39 0 6 r76.length r76.length)] [.dead, .rows (r76.map e_palingref1_Spot) 6 w39 49] (by rfl) ?_ ?_
        · try simp -implicitDefEqProofs -dsimp only [go_sem, ↓reduceIte, Nat.reduceAdd, Nat.reduceMul, Nat.reduceSub, Nat.reduceEqDiff, Nat.reduceLeDiff, Nat.reduceLT, Nat.reduceBEq, Int.reduceEq, reduceCtorEq]
        obtain rfl := Option.some.inj hm
        refine W.ret ?_
        try simp only [thenQ_normal, thenQ_exit, thenQ_ret, blockQ_normal, blockQ_here, blockQ_ret, blockQ_exit, ↓reduceIte, Nat.reduceEqDiff]
        refine EndsF.retW [1] ?_
        simp -implicitDefEqProofs -dsimp only [go_sem, ↓reduceIte, Nat.reduceAdd, Nat.reduceMul, Nat.reduceSub, Nat.reduceEqDiff, Nat.reduceLeDiff, Nat.reduceLT, Nat.reduceBEq, Int.reduceEq, reduceCtorEq]

theorem palingref1_End_ok {p0 : ByteArray} {r : Int × Int} (hm : palingref1_End p0 = some r) : PureF Tryd.prog 45 [.str p0] (.tuple [.int .i64 r.1, .int .i64 r.2]) := by
  rw [palingref1_End] at hm
  refine PureF.of Tryd.func45 rfl Tryd.ntmps45 (Nat.le_of_ble_eq_true rfl) ?_
  have e0 : argS 0 [.str p0] = [(0, .str p0)] := rfl
  rw [e0]
  refine W.seqR [] [(0, .str p0)] [] (by rfl) ?_ ?_
  · try simp -implicitDefEqProofs -dsimp only [go_sem, ↓reduceIte, Nat.reduceAdd, Nat.reduceMul, Nat.reduceSub, Nat.reduceEqDiff, Nat.reduceLeDiff, Nat.reduceLT, Nat.reduceBEq, Int.reduceEq, reduceCtorEq]
  obtain ⟨v1, h2, hm⟩ := of_bind hm
  refine W.seqR [] [(4, .sl (v1.map e_palingref1_Spot))] [] (by rfl) ?_ ?_
  · try simp -implicitDefEqProofs -dsimp only [go_sem, ↓reduceIte, Nat.reduceAdd, Nat.reduceMul, Nat.reduceSub, Nat.reduceEqDiff, Nat.reduceLeDiff, Nat.reduceLT, Nat.reduceBEq, Int.reduceEq, reduceCtorEq]
    with_reducible refine exP.mk _ (callP.plain (by simp -implicitDefEqProofs -dsimp only [go_sem, ↓reduceIte, Nat.reduceAdd, Nat.reduceMul, Nat.reduceSub, Nat.reduceEqDiff, Nat.reduceLeDiff, Nat.reduceLT, Nat.reduceBEq, Int.reduceEq, reduceCtorEq]) (palingref1_Spots_ok h2)) ?_
    try simp -implicitDefEqProofs -dsimp only [go_sem, ↓reduceIte, Nat.reduceAdd, Nat.reduceMul, Nat.reduceSub, Nat.reduceEqDiff, Nat.reduceLeDiff, Nat.reduceLT, Nat.reduceBEq, Int.reduceEq, reduceCtorEq]
  refine W.seq ?_
  refine W.seqR [] [(4, .sl (v1.map e_palingref1_Spot)), (10, .bool ((v1.length : Int) == 0))] [] (by rfl) ?_ ?_
  · try simp -implicitDefEqProofs -dsimp only [go_sem, ↓reduceIte, Nat.reduceAdd, Nat.reduceMul, Nat.reduceSub, Nat.reduceEqDiff, Nat.reduceLeDiff, Nat.reduceLT, Nat.reduceBEq, Int.reduceEq, reduceCtorEq]
  refine W.cond ((v1.length : Int) == 0) (by simp only [ev_tmp, get_cons, ↓reduceIte, Nat.reduceEqDiff]) (fun hb3 => ?_) (fun hb3 => ?_)
  · have hm := of_true hb3 hm
    refine W.seqR [] [(2, .int .i64 1), (3, .int .i64 1)] [] (by rfl) ?_ ?_
    · try simp -implicitDefEqProofs -dsimp only [go_sem, ↓reduceIte, Nat.reduceAdd, Nat.reduceMul, Nat.reduceSub, Nat.reduceEqDiff, Nat.reduceLeDiff, Nat.reduceLT, Nat.reduceBEq, Int.reduceEq, reduceCtorEq, hb3]
    obtain rfl := Option.some.inj hm
    refine W.ret ?_
    try simp only [thenQ_normal, thenQ_exit, thenQ_ret, blockQ_normal, blockQ_here, blockQ_ret, blockQ_exit, ↓reduceIte, Nat.reduceEqDiff]
    refine EndsF.retW [] ?_
    simp -implicitDefEqProofs -dsimp only [go_sem, ↓reduceIte, Nat.reduceAdd, Nat.reduceMul, Nat.reduceSub, Nat.reduceEqDiff, Nat.reduceLeDiff, Nat.reduceLT, Nat.reduceBEq, Int.reduceEq, reduceCtorEq, hb3]
  · have hm := of_false hb3 hm
    refine W.skip ?_
    try simp only [thenQ_normal, thenQ_exit, thenQ_ret, blockQ_normal, blockQ_here, blockQ_ret, blockQ_exit, ↓reduceIte, Nat.reduceEqDiff]
    obtain ⟨h4, hm⟩ := of_ite hm
    refine W.seqR [] [(5, .ptr 0 0 0)] [.cells [.int .i32 ((rd v1 (IntKind.wrap .i64 ((v1.length : Int) - 1))).Rune), .int .i64 ((rd v1 (IntKind.wrap .i64 ((v1.length : Int) - 1))).At), .int .i64 ((rd v1 (IntKind.wrap .i64 ((v1.length : Int) - 1))).Size), .int .i64 ((rd v1 (IntKind.wrap .i64 ((v1.length : Int) - 1))).Line), .int .i64 ((rd v1 (IntKind.wrap .i64 ((v1.length : Int) - 1))).Col), .bool ((rd v1 (IntKind.wrap .i64 ((v1.length : Int) - 1))).Bad)] 0 49] (by rfl) ?_ ?_
    · try simp -implicitDefEqProofs -dsimp only [go_sem, ↓reduceIte, Nat.reduceAdd, Nat.reduceMul, Nat.reduceSub, Nat.reduceEqDiff, Nat.reduceLeDiff, Nat.reduceLT, Nat.reduceBEq, Int.reduceEq, reduceCtorEq, hb3, h4]
    refine W.seq ?_
    refine W.seqR [] [(5, .ptr 0 0 0), (19, .bool ((rd v1 (IntKind.wrap .i64 ((v1.length : Int) - 1))).Rune == 10))] [.cells [.int .i32 ((rd v1 (IntKind.wrap .i64 ((v1.length : Int) - 1))).Rune), .int .i64 ((rd v1 (IntKind.wrap .i64 ((v1.length : Int) - 1))).At), .int .i64 ((rd v1 (IntKind.wrap .i64 ((v1.length : Int) - 1))).Size), .int .i64 ((rd v1 (IntKind.wrap .i64 ((v1.length : Int) - 1))).Line), .int .i64 ((rd v1 (IntKind.wrap .i64 ((v1.length : Int) - 1))).Col), .bool ((rd v1 (IntKind.wrap .i64 ((v1.length : Int) - 1))).Bad)] 0 49] (by rfl) ?_ ?_
    · try simp -implicitDefEqProofs -dsimp only [go_sem, ↓reduceIte, Nat.reduceAdd, Nat.reduceMul, Nat.reduceSub, Nat.reduceEqDiff, Nat.reduceLeDiff, Nat.reduceLT, Nat.reduceBEq, Int.reduceEq, reduceCtorEq, hb3, h4]
    refine W.cond ((rd v1 (IntKind.wrap .i64 ((v1.length : Int) - 1))).Rune == 10) (by simp only [ev_tmp, get_cons, ↓reduceIte, Nat.reduceEqDiff]) (fun hb5 => ?_) (fun hb5 => ?_)
    · have hm := of_true hb5 hm
      obtain ⟨n6, h7, hm⟩ := of_bind hm
      replace h7 := Option.some.inj h7
      refine W.seqR [] [(2, .int .i64 n6), (3, .int .i64 1)] [] (by rfl) ?_ ?_
      · try simp -implicitDefEqProofs -dsimp only [go_sem, ↓reduceIte, Nat.reduceAdd, Nat.reduceMul, Nat.reduceSub, Nat.reduceEqDiff, Nat.reduceLeDiff, Nat.reduceLT, Nat.reduceBEq, Int.reduceEq, reduceCtorEq, hb3, h4, hb5, ← h7]
      obtain rfl := Option.some.inj hm
      refine W.ret ?_
      try simp only [thenQ_normal, thenQ_exit, thenQ_ret, blockQ_normal, blockQ_here, blockQ_ret, blockQ_exit, ↓reduceIte, Nat.reduceEqDiff]
      refine EndsF.retW [] ?_
      simp -implicitDefEqProofs -dsimp only [go_sem, ↓reduceIte, Nat.reduceAdd, Nat.reduceMul, Nat.reduceSub, Nat.reduceEqDiff, Nat.reduceLeDiff, Nat.reduceLT, Nat.reduceBEq, Int.reduceEq, reduceCtorEq, hb3, h4, hb5]
    · have hm := of_false hb5 hm
      refine W.skip ?_
      try simp only [thenQ_normal, thenQ_exit, thenQ_ret, blockQ_normal, blockQ_here, blockQ_ret, blockQ_exit, ↓reduceIte, Nat.reduceEqDiff]
      obtain ⟨n8, h9, hm⟩ := of_bind hm
      replace h9 := Option.some.inj h9
      refine W.seqD [] [] [(2, .int .i64 ((rd v1 (IntKind.wrap .i64 ((v1.length : Int) - 1))).Line)), (3, .int .i64 n8)] [] v_mixed (by rfl) (by kernel_rfl) (by kernel_rfl) ?_ ?_
      · try simp -implicitDefEqProofs -dsimp only [go_sem, ↓reduceIte, Nat.reduceAdd, Nat.reduceMul, Nat.reduceSub, Nat.reduceEqDiff, Nat.reduceLeDiff, Nat.reduceLT, Nat.reduceBEq, Int.reduceEq, reduceCtorEq, hb3, h4, hb5, ← h9]
      obtain rfl := Option.some.inj hm
      refine W.ret ?_
      try simp only [thenQ_normal, thenQ_exit, thenQ_ret, blockQ_normal, blockQ_here, blockQ_ret, blockQ_exit, ↓reduceIte, Nat.reduceEqDiff]
      refine EndsF.retW [] ?_
      simp -implicitDefEqProofs -dsimp only [go_sem, ↓reduceIte, Nat.reduceAdd, Nat.reduceMul, Nat.reduceSub, Nat.reduceEqDiff, Nat.reduceLeDiff, Nat.reduceLT, Nat.reduceBEq, Int.reduceEq, reduceCtorEq, hb3, h4, hb5]

theorem palingbook_SameTokens_ok {p0 : (List T_api_Token)} {p1 : (List T_api_Token)} {r : Bool} (hm : palingbook_SameTokens p0 p1 = some r) : PureF Tryd.prog 18 [.sl (p0.map e_api_Token), .sl (p1.map e_api_Token)] (.bool r) := by
  rw [palingbook_SameTokens] at hm
  refine PureF.of Tryd.func18 rfl Tryd.ntmps18 (Nat.le_of_ble_eq_true rfl) ?_
  have e0 : argS 0 [.sl (p0.map e_api_Token), .sl (p1.map e_api_Token)] = [(0, .sl (p0.map e_api_Token)), (1, .sl (p1.map e_api_Token))] := rfl
  rw [e0]
  refine W.seqR [] [(0, .sl (p0.map e_api_Token)), (1, .sl (p1.map e_api_Token))] [] (by rfl) ?_ ?_
  · try simp -implicitDefEqProofs -dsimp only [go_sem, ↓reduceIte, Nat.reduceAdd, Nat.reduceMul, Nat.reduceSub, Nat.reduceEqDiff, Nat.reduceLeDiff, Nat.reduceLT, Nat.reduceBEq, Int.reduceEq, reduceCtorEq]
  refine W.seq ?_
  refine W.seqR [] [(0, .sl (p0.map e_api_Token)), (1, .sl (p1.map e_api_Token)), (10, .bool ((p0.length : Int) != (p1.length : Int)))] [] (by rfl) ?_ ?_
  · try simp -implicitDefEqProofs -dsimp only [go_sem, ↓reduceIte, Nat.reduceAdd, Nat.reduceMul, Nat.reduceSub, Nat.reduceEqDiff, Nat.reduceLeDiff, Nat.reduceLT, Nat.reduceBEq, Int.reduceEq, reduceCtorEq]
  refine W.cond ((p0.length : Int) != (p1.length : Int)) (by simp only [ev_tmp, get_cons, ↓reduceIte, Nat.reduceEqDiff]) (fun hb1 => ?_) (fun hb1 => ?_)
  · have hm := of_true hb1 hm
    refine W.seqR [] [(4, .bool false)] [] (by rfl) ?_ ?_
    · try simp -implicitDefEqProofs -dsimp only [go_sem, ↓reduceIte, Nat.reduceAdd, Nat.reduceMul, Nat.reduceSub, Nat.reduceEqDiff, Nat.reduceLeDiff, Nat.reduceLT, Nat.reduceBEq, Int.reduceEq, reduceCtorEq, hb1]
    obtain rfl := Option.some.inj hm
    refine W.ret ?_
    try simp only [thenQ_normal, thenQ_exit, thenQ_ret, blockQ_normal, blockQ_here, blockQ_ret, blockQ_exit, ↓reduceIte, Nat.reduceEqDiff]
    refine EndsF.retW [] ?_
    simp -implicitDefEqProofs -dsimp only [go_sem, ↓reduceIte, Nat.reduceAdd, Nat.reduceMul, Nat.reduceSub, Nat.reduceEqDiff, Nat.reduceLeDiff, Nat.reduceLT, Nat.reduceBEq, Int.reduceEq, reduceCtorEq, hb1]
  · have hm := of_false hb1 hm
    refine W.skip ?_
    try simp only [thenQ_normal, thenQ_exit, thenQ_ret, blockQ_normal, blockQ_here, blockQ_ret, blockQ_exit, ↓reduceIte, Nat.reduceEqDiff]
    refine W.seq ?_
    refine W.seqR [] [(0, .sl (p0.map e_api_Token)), (1, .sl (p1.map e_api_Token)), (5, .int .i64 0)] [] (by rfl) ?_ ?_
    · try simp -implicitDefEqProofs -dsimp only [go_sem, ↓reduceIte, Nat.reduceAdd, Nat.reduceMul, Nat.reduceSub, Nat.reduceEqDiff, Nat.reduceLeDiff, Nat.reduceLT, Nat.reduceBEq, Int.reduceEq, reduceCtorEq, hb1]
    refine W.block ?_
    obtain ⟨r24, hlr24, hm⟩ := of_bind hm
    refine W.mono (Q := fun e0 s0 h0 => match r24 with | .inl e => e0 = .exit 0 ∧ ∃ w : Unit, s0 = [] ∧ h0 = [] | .inr q => e0 = .ret ∧ s0 = [(4, .bool q)] ∧ h0 = []) (W.loopM (step := palingbook_SameTokens_s1 p0 p1) (a0 := 0) (fun (a : Int) (v : Unit) => ([(0, .sl (p0.map e_api_Token)), (1, .sl (p1.map e_api_Token)), (5, .int .i64 a)], [])) () hlr24 [] (show AT 0 [] [(0, .sl (p0.map e_api_Token)), (1, .sl (p1.map e_api_Token)), (5, .int .i64 0)] [] _ _ from by simp -implicitDefEqProofs -dsimp only [go_sem, ↓reduceIte, Nat.reduceAdd, Nat.reduceMul, Nat.reduceSub, Nat.reduceEqDiff, Nat.reduceLeDiff, Nat.reduceLT, Nat.reduceBEq, Int.reduceEq, reduceCtorEq, hb1]) ?_) ?_
    · rintro i17 _ x hm hx
      rw [palingbook_SameTokens_s1] at hm
      show WK _ _ _ _ _ [(0, .sl (p0.map e_api_Token)), (1, .sl (p1.map e_api_Token)), (5, .int .i64 i17)] []
      refine W.seq ?_
      refine W.seqR [] [(0, .sl (p0.map e_api_Token)), (1, .sl (p1.map e_api_Token)), (5, .int .i64 i17), (14, .bool (decide (i17 < (p0.length : Int))))] [] (by rfl) ?_ ?_
      · try simp -implicitDefEqProofs -dsimp only [go_sem, ↓reduceIte, Nat.reduceAdd, Nat.reduceMul, Nat.reduceSub, Nat.reduceEqDiff, Nat.reduceLeDiff, Nat.reduceLT, Nat.reduceBEq, Int.reduceEq, reduceCtorEq, hb1]
      refine W.cond (decide (i17 < (p0.length : Int))) (by simp only [ev_tmp, get_cons, ↓reduceIte, Nat.reduceEqDiff]) (fun hb25 => ?_) (fun hb25 => ?_)
      · have hm := of_true hb25 hm
        refine W.skip ?_
        try simp only [thenQ_normal, thenQ_exit, thenQ_ret, blockQ_normal, blockQ_here, blockQ_ret, blockQ_exit, ↓reduceIte, Nat.reduceEqDiff]
        refine W.seq ?_
        refine W.block ?_
        obtain ⟨h26, hm⟩ := of_ite hm
        obtain ⟨h27, hm⟩ := of_ite hm
        obtain ⟨b28, h29, hm⟩ := of_bind hm
        replace h29 := Option.some.inj h29
        refine W.seqD [] [] [(0, .sl (p0.map e_api_Token)), (1, .sl (p1.map e_api_Token)), (5, .int .i64 i17), (25, .bool b28)] [] v_mixed (by rfl) (by kernel_rfl) (by kernel_rfl) ?_ ?_
        · try simp -implicitDefEqProofs -dsimp only [go_sem, ↓reduceIte, Nat.reduceAdd, Nat.reduceMul, Nat.reduceSub, Nat.reduceEqDiff, Nat.reduceLeDiff, Nat.reduceLT, Nat.reduceBEq, Int.reduceEq, reduceCtorEq, hb1, hb25, h26, h27, ← h29]
        refine W.cond b28 (by simp only [ev_tmp, get_cons, ↓reduceIte, Nat.reduceEqDiff]) (fun hb30 => ?_) (fun hb30 => ?_)
        · have hm := of_true hb30 hm
          refine W.seqR [] [(4, .bool false)] [] (by rfl) ?_ ?_
          · try simp -implicitDefEqProofs -dsimp only [go_sem, ↓reduceIte, Nat.reduceAdd, Nat.reduceMul, Nat.reduceSub, Nat.reduceEqDiff, Nat.reduceLeDiff, Nat.reduceLT, Nat.reduceBEq, Int.reduceEq, reduceCtorEq, hb1, hb25, h26, h27, hb30]
          obtain rfl := Option.some.inj hm
          obtain rfl := hx _ rfl
          refine W.weak [] (show AT 0 [] [(4, .bool false)] [] _ _ from by simp -implicitDefEqProofs -dsimp only [go_sem, ↓reduceIte, Nat.reduceAdd, Nat.reduceMul, Nat.reduceSub, Nat.reduceEqDiff, Nat.reduceLeDiff, Nat.reduceLT, Nat.reduceBEq, Int.reduceEq, reduceCtorEq, hb1, hb25, h26, h27, hb30]) (W.ret (show _ ∧ _ from ⟨rfl, rfl, rfl⟩))
        · have hm := of_false hb30 hm
          refine W.skip ?_
          try simp only [thenQ_normal, thenQ_exit, thenQ_ret, blockQ_normal, blockQ_here, blockQ_ret, blockQ_exit, ↓reduceIte, Nat.reduceEqDiff]
          refine W.regL [] [(0, .sl (p0.map e_api_Token)), (1, .sl (p1.map e_api_Token)), (5, .int .i64 (IntKind.wrap .i64 (i17 + 1)))] [] (by rfl) ?_ ?_
          · try simp -implicitDefEqProofs -dsimp only [go_sem, ↓reduceIte, Nat.reduceAdd, Nat.reduceMul, Nat.reduceSub, Nat.reduceEqDiff, Nat.reduceLeDiff, Nat.reduceLT, Nat.reduceBEq, Int.reduceEq, reduceCtorEq, hb1, hb25, h26, h27, hb30]
          try simp only [thenQ_normal, thenQ_exit, thenQ_ret, blockQ_normal, blockQ_here, blockQ_ret, blockQ_exit, ↓reduceIte, Nat.reduceEqDiff]
          obtain rfl := Option.some.inj hm
          exact ⟨(IntKind.wrap .i64 (i17 + 1)), (), [], rfl, (show AT 0 [] [(0, .sl (p0.map e_api_Token)), (1, .sl (p1.map e_api_Token)), (5, .int .i64 (IntKind.wrap .i64 (i17 + 1)))] [] _ _ from by simp -implicitDefEqProofs -dsimp only [go_sem, ↓reduceIte, Nat.reduceAdd, Nat.reduceMul, Nat.reduceSub, Nat.reduceEqDiff, Nat.reduceLeDiff, Nat.reduceLT, Nat.reduceBEq, Int.reduceEq, reduceCtorEq, hb1, hb25, h26, h27, hb30])⟩
      · have hm := of_false hb25 hm
        obtain rfl := Option.some.inj hm
        obtain rfl := hx _ rfl
        refine W.weak [] (show AT 0 [] [] [] _ _ from by simp -implicitDefEqProofs -dsimp only [go_sem, ↓reduceIte, Nat.reduceAdd, Nat.reduceMul, Nat.reduceSub, Nat.reduceEqDiff, Nat.reduceLeDiff, Nat.reduceLT, Nat.reduceBEq, Int.reduceEq, reduceCtorEq, hb1, hb25]) (W.exit (show _ ∧ _ from ⟨rfl, (), rfl, rfl⟩))
    · intro e0 s0 h0 hq
      rcases r24 with er24 | qr24
      · obtain ⟨rfl, _, rfl, rfl⟩ := hq
        have hm := of_inl hm
        try simp only [thenQ_normal, thenQ_exit, thenQ_ret, blockQ_normal, blockQ_here, blockQ_ret, blockQ_exit, ↓reduceIte, Nat.reduceEqDiff]
        show WK _ _ _ _ _ [] []
        try simp only [thenQ_normal, thenQ_exit, thenQ_ret, blockQ_normal, blockQ_here, blockQ_ret, blockQ_exit, ↓reduceIte, Nat.reduceEqDiff]
        refine W.seqR [] [(4, .bool true)] [] (by rfl) ?_ ?_
        · try simp -implicitDefEqProofs -dsimp only [go_sem, ↓reduceIte, Nat.reduceAdd, Nat.reduceMul, Nat.reduceSub, Nat.reduceEqDiff, Nat.reduceLeDiff, Nat.reduceLT, Nat.reduceBEq, Int.reduceEq, reduceCtorEq, hb1]
        obtain rfl := Option.some.inj hm
        refine W.ret ?_
        try simp only [thenQ_normal, thenQ_exit, thenQ_ret, blockQ_normal, blockQ_here, blockQ_ret, blockQ_exit, ↓reduceIte, Nat.reduceEqDiff]
        refine EndsF.retW [] ?_
        simp -implicitDefEqProofs -dsimp only [go_sem, ↓reduceIte, Nat.reduceAdd, Nat.reduceMul, Nat.reduceSub, Nat.reduceEqDiff, Nat.reduceLeDiff, Nat.reduceLT, Nat.reduceBEq, Int.reduceEq, reduceCtorEq, hb1]
      · obtain ⟨rfl, rfl, rfl⟩ := hq
        have hm := of_inr hm
        obtain rfl := Option.some.inj hm
        try simp only [thenQ_normal, thenQ_exit, thenQ_ret, blockQ_normal, blockQ_here, blockQ_ret, blockQ_exit, ↓reduceIte, Nat.reduceEqDiff]
        refine EndsF.retW [] ?_
        simp -implicitDefEqProofs -dsimp only [go_sem, ↓reduceIte, Nat.reduceAdd, Nat.reduceMul, Nat.reduceSub, Nat.reduceEqDiff, Nat.reduceLeDiff, Nat.reduceLT, Nat.reduceBEq, Int.reduceEq, reduceCtorEq, hb1]

end Go.Proofs.YtocjejladeeckaaDoor
