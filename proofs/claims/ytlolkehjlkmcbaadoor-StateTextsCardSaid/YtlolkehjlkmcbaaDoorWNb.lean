import Derived.Test.YtlolkehjlkmcbaaDoorPalNumb
import Derived.Test.YtlolkehjlkmcbaaDoorWNum
import Derived.Test.YtlolkehjlkmcbaaDoorWBld
/-! state.numbers: it writes into a builder of the caller's. -/
set_option maxRecDepth 100000
set_option linter.unusedVariables false
set_option linter.unusedSimpArgs false
set_option linter.unusedSectionVars false
namespace Go.Proofs.YtlolkehjlkmcbaaDoor
open Go.Vs Go.RowKit
theorem state_numbers_ok [TabP] {s r : ByteArray} {l : List Int} (ver : Nat) (hm : state_numbers s l = some r) : HF Tryd.prog 23 [.ptr 0 0 0, .sl (l.map (eInt .i64))] [.cells [.optp 0, .msl 1 (ver) 0 1 (s.size) (s.size)] 0 49, .rows (sB (s)) 1 (ver) 5] (.tuple []) [.cells [.optp 0, .msl 1 (ver + (2 * l.length - 1)) 0 1 (r.size) (r.size)] 0 49, .rows (sB (r)) 1 (ver + (2 * l.length - 1)) 5] := by
  rw [state_numbers] at hm
  replace hm := of_ite hm
  obtain ⟨hfl, hm⟩ := hm
  refine HF.of Tryd.func23 rfl Tryd.ntmps23 (Nat.le_of_ble_eq_true rfl) rfl ?_
  have e0 : argS 0 [.ptr 0 0 0, .sl (l.map (eInt .i64))] = [(0, .ptr 0 0 0), (1, .sl (l.map (eInt .i64)))] := rfl
  rw [e0]
  refine W.sq [] [(0, .ptr 0 0 0), (6, .sl (l.map (eInt .i64))), (7, .int .i64 (l.length : Int)), (8, .int .i64 0)] [.cells [.optp 0, .msl 1 (ver) 0 1 (s.size) (s.size)] 0 49, .rows (sB (s)) 1 (ver) 5] ?_
  refine W.block ?_
  refine W.mono (Q := fun e0 s0 h0 => e0 = .exit 0 ∧ s0 = [(0, .ptr 0 0 0)] ∧ h0 = [.cells [.optp 0, .msl 1 (ver + (2 * l.length - 1)) 0 1 (r.size) (r.size)] 0 49, .rows (sB (r)) 1 (ver + (2 * l.length - 1)) 5]) (W.loopM (step := numbersS l) (a0 := (0, s)) (fun (a : Nat × ByteArray) (v : Unit) => ([(0, .ptr 0 0 0), (6, .sl (l.map (eInt .i64))), (7, .int .i64 (l.length : Int)), (8, .int .i64 (a.1 : Int))], [.cells [.optp 0, .msl 1 (ver + (2 * a.1 - 1)) 0 1 (a.2.size) (a.2.size)] 0 49, .rows (sB (a.2)) 1 (ver + (2 * a.1 - 1)) 5])) () hm ⟨[], []⟩ RO ?_) ?_
  · rintro ⟨i, q⟩ _ x hm hx
    rw [numbersS] at hm
    show WK _ _ _ _ _ [(0, .ptr 0 0 0), (6, .sl (l.map (eInt .i64))), (7, .int .i64 (l.length : Int)), (8, .int .i64 (i : Int))] [.cells [.optp 0, .msl 1 (ver + (2 * i - 1)) 0 1 (q.size) (q.size)] 0 49, .rows (sB (q)) 1 (ver + (2 * i - 1)) 5]
    refine W.sq [] [(0, .ptr 0 0 0), (6, .sl (l.map (eInt .i64))), (7, .int .i64 (l.length : Int)), (8, .int .i64 (i : Int)), (9, .bool (decide ((i : Int) < (l.length : Int))))] [.cells [.optp 0, .msl 1 (ver + (2 * i - 1)) 0 1 (q.size) (q.size)] 0 49, .rows (sB (q)) 1 (ver + (2 * i - 1)) 5] ?_
    refine W.seq ?_
    refine W.cnd (decide ((i : Int) < (l.length : Int))) (fun hb1 => ?_) (fun hb1 => ?_)
    · have hil : i < l.length := by simpa using hb1
      rw [if_pos hil] at hm
      replace hm := of_ite hm
      obtain ⟨h1, hm⟩ := hm
      replace hm := of_bind hm
      obtain ⟨t, ht, hm⟩ := hm
      replace hm := of_ite hm
      obtain ⟨h2, hm⟩ := hm
      obtain rfl := Option.some.inj hm
      have hin : InB (i : Int) l.length := ⟨by omega, by simpa using hil⟩
      refine W.skip ?_
      refine W.seq ?_
      refine W.block ?_
      refine W.sq [] [(0, .ptr 0 0 0), (4, .int .i64 (i : Int)), (5, .int .i64 (rd l (i : Int))), (6, .sl (l.map (eInt .i64))), (7, .int .i64 (l.length : Int)), (8, .int .i64 (i : Int))] [.cells [.optp 0, .msl 1 (ver + (2 * i - 1)) 0 1 (q.size) (q.size)] 0 49, .rows (sB (q)) 1 (ver + (2 * i - 1)) 5] ?_
      refine W.cut (fun s' h' => ∃ (F : Gs), AT 2 F [(0, .ptr 0 0 0), (5, .int .i64 (rd l (i : Int))), (6, .sl (l.map (eInt .i64))), (7, .int .i64 (l.length : Int)), (8, .int .i64 (i : Int))] [.cells [.optp 0, .msl 1 ((if 0 < i then ver + (2 * i - 1) + 1 else ver + (2 * i - 1))) 0 1 ((if 0 < i then q ++ (⟨#[44]⟩ : ByteArray) else q).size) ((if 0 < i then q ++ (⟨#[44]⟩ : ByteArray) else q).size)] 0 49, .rows (sB ((if 0 < i then q ++ (⟨#[44]⟩ : ByteArray) else q))) 1 ((if 0 < i then ver + (2 * i - 1) + 1 else ver + (2 * i - 1))) 5] s' h') ?_ ?_
      · refine W.sq [] [(0, .ptr 0 0 0), (5, .int .i64 (rd l (i : Int))), (6, .sl (l.map (eInt .i64))), (7, .int .i64 (l.length : Int)), (8, .int .i64 (i : Int)), (14, .bool (decide ((i : Int) > 0)))] [.cells [.optp 0, .msl 1 (ver + (2 * i - 1)) 0 1 (q.size) (q.size)] 0 49, .rows (sB (q)) 1 (ver + (2 * i - 1)) 5] ?_
        refine W.cnd (decide ((i : Int) > 0)) (fun hb2 => ?_) (fun hb2 => ?_)
        · have hi0 : 0 < i := by simpa using hb2
          simp only [if_pos hi0]
          have h3 : Fits (q.size + ((⟨#[44]⟩ : ByteArray)).size) := h1
          refine W.rg [] [(0, .ptr 0 0 0), (5, .int .i64 (rd l (i : Int))), (6, .sl (l.map (eInt .i64))), (7, .int .i64 (l.length : Int)), (8, .int .i64 (i : Int))] [.cells [.optp 0, .msl 1 (ver + (2 * i - 1) + 1) 0 1 ((q ++ (⟨#[44]⟩ : ByteArray)).size) ((q ++ (⟨#[44]⟩ : ByteArray)).size)] 0 49, .rows (sB ((q ++ (⟨#[44]⟩ : ByteArray)))) 1 (ver + (2 * i - 1) + 1) 5] ?_ (hrun := ?_)
          rotate_left
          · try simp -implicitDefEqProofs -dsimp only [go_sem, ↓reduceIte, Nat.reduceAdd, Nat.reduceMul, Nat.reduceSub, Nat.reduceEqDiff, Nat.reduceLeDiff, Nat.reduceLT, Nat.reduceBEq, Int.reduceEq, reduceCtorEq, *]
            with_reducible refine exP.mk (.heap ⟨[], [0, 1], [.ptr 0 0 0, .str (⟨#[44]⟩ : ByteArray)], [.cells [.optp 0, .msl 1 (ver + (2 * i - 1)) 0 1 (q.size) (q.size)] 0 49, .rows (sB (q)) 1 (ver + (2 * i - 1)) 5], .tuple [.int .i64 (⟨#[44]⟩ : ByteArray).size, .nili], [.cells [.optp 0, .msl 1 ((ver + (2 * i - 1)) + 1) 0 1 (q.size + (⟨#[44]⟩ : ByteArray).size) (q.size + (⟨#[44]⟩ : ByteArray).size)] 0 49, .rows (sB (q ++ (⟨#[44]⟩ : ByteArray))) 1 ((ver + (2 * i - 1)) + 1) 5]⟩) (callQ.ofH (by simp -implicitDefEqProofs -dsimp only [go_sem, ↓reduceIte, Nat.reduceAdd, Nat.reduceMul, Nat.reduceSub, Nat.reduceEqDiff, Nat.reduceLeDiff, Nat.reduceLT, Nat.reduceBEq, Int.reduceEq, reduceCtorEq, *]) (WriteString_ok q (⟨#[44]⟩ : ByteArray) (ver + (2 * i - 1)) h3)) ?_
            try simp -implicitDefEqProofs -dsimp only [go_sem, ↓reduceIte, Nat.reduceAdd, Nat.reduceMul, Nat.reduceSub, Nat.reduceEqDiff, Nat.reduceLeDiff, Nat.reduceLT, Nat.reduceBEq, Int.reduceEq, reduceCtorEq, *]
          exact ⟨⟨[], []⟩, RO⟩
        · have hi0 : ¬ 0 < i := by simpa using hb2
          simp only [if_neg hi0]
          refine W.skip ?_
          exact ⟨⟨[], []⟩, RO⟩
      · rintro s' h' ⟨F, hat⟩
        refine W.weak F hat ?_
        generalize hq2 : (if 0 < i then q ++ (⟨#[44]⟩ : ByteArray) else q) = q2 at h2 ⊢
        generalize hv2 : (if 0 < i then ver + (2 * i - 1) + 1 else ver + (2 * i - 1)) = v2
        have hv3 : ver + (2 * (i + 1) - 1) = v2 + 1 := by subst hv2; split <;> omega
        show WK _ _ _ _ _ [(0, .ptr 0 0 0), (5, .int .i64 (rd l (i : Int))), (6, .sl (l.map (eInt .i64))), (7, .int .i64 (l.length : Int)), (8, .int .i64 (i : Int))] [.cells [.optp 0, .msl 1 (v2) 0 1 (q2.size) (q2.size)] 0 49, .rows (sB (q2)) 1 (v2) 5]
        have hk := num_Text_ok ht
        refine W.rg [] [(0, .ptr 0 0 0), (6, .sl (l.map (eInt .i64))), (7, .int .i64 (l.length : Int)), (8, .int .i64 (i : Int))] [.cells [.optp 0, .msl 1 (v2 + 1) 0 1 ((q2 ++ t).size) ((q2 ++ t).size)] 0 49, .rows (sB ((q2 ++ t))) 1 (v2 + 1) 5] ?_ (hrun := ?_)
        rotate_left
        · try simp -implicitDefEqProofs -dsimp only [go_sem, ↓reduceIte, Nat.reduceAdd, Nat.reduceMul, Nat.reduceSub, Nat.reduceEqDiff, Nat.reduceLeDiff, Nat.reduceLT, Nat.reduceBEq, Int.reduceEq, reduceCtorEq, *]
          with_reducible refine exP.mk _ (callQ.plain (by simp -implicitDefEqProofs -dsimp only [go_sem, ↓reduceIte, Nat.reduceAdd, Nat.reduceMul, Nat.reduceSub, Nat.reduceEqDiff, Nat.reduceLeDiff, Nat.reduceLT, Nat.reduceBEq, Int.reduceEq, reduceCtorEq, *]) hk) ?_
          try simp -implicitDefEqProofs -dsimp only [go_sem, ↓reduceIte, Nat.reduceAdd, Nat.reduceMul, Nat.reduceSub, Nat.reduceEqDiff, Nat.reduceLeDiff, Nat.reduceLT, Nat.reduceBEq, Int.reduceEq, reduceCtorEq, *]
          with_reducible refine exP.mk (.heap ⟨[], [0, 1], [.ptr 0 0 0, .str t], [.cells [.optp 0, .msl 1 (v2) 0 1 (q2.size) (q2.size)] 0 49, .rows (sB (q2)) 1 (v2) 5], .tuple [.int .i64 t.size, .nili], [.cells [.optp 0, .msl 1 ((v2) + 1) 0 1 (q2.size + t.size) (q2.size + t.size)] 0 49, .rows (sB (q2 ++ t)) 1 ((v2) + 1) 5]⟩) (callQ.ofH (by simp -implicitDefEqProofs -dsimp only [go_sem, ↓reduceIte, Nat.reduceAdd, Nat.reduceMul, Nat.reduceSub, Nat.reduceEqDiff, Nat.reduceLeDiff, Nat.reduceLT, Nat.reduceBEq, Int.reduceEq, reduceCtorEq, *]) (WriteString_ok q2 t (v2) h2)) ?_
          try simp -implicitDefEqProofs -dsimp only [go_sem, ↓reduceIte, Nat.reduceAdd, Nat.reduceMul, Nat.reduceSub, Nat.reduceEqDiff, Nat.reduceLeDiff, Nat.reduceLT, Nat.reduceBEq, Int.reduceEq, reduceCtorEq, *]
        have hw : IntKind.wrap .i64 ((i : Int) + 1) = ((i + 1 : Nat) : Int) := by rw [wi64_id] <;> simp [I64, Fits] at hfl ⊢ <;> omega
        refine W.rg [] [(0, .ptr 0 0 0), (6, .sl (l.map (eInt .i64))), (7, .int .i64 (l.length : Int)), (8, .int .i64 ((i + 1 : Nat) : Int))] [.cells [.optp 0, .msl 1 (v2 + 1) 0 1 ((q2 ++ t).size) ((q2 ++ t).size)] 0 49, .rows (sB ((q2 ++ t))) 1 (v2 + 1) 5] ?_
        refine ⟨(i + 1, q2 ++ t), (), ⟨[], []⟩, rfl, ?_⟩
        show AT 2 _ [(0, .ptr 0 0 0), (6, .sl (l.map (eInt .i64))), (7, .int .i64 (l.length : Int)), (8, .int .i64 ((i + 1 : Nat) : Int))] [.cells [.optp 0, .msl 1 (ver + (2 * (i + 1) - 1)) 0 1 ((q2 ++ t).size) ((q2 ++ t).size)] 0 49, .rows (sB ((q2 ++ t))) 1 (ver + (2 * (i + 1) - 1)) 5] _ _
        rw [hv3]
        exact RO
    · have hil : ¬ i < l.length := by simpa using hb1
      rw [if_neg hil] at hm
      replace hm := of_ite hm
      obtain ⟨h1, hm⟩ := hm
      obtain rfl := Option.some.inj hm
      obtain rfl := hx _ rfl
      subst h1
      exact W.weak ⟨[], []⟩ (show AT _ ⟨[], []⟩ [(0, .ptr 0 0 0)] [.cells [.optp 0, .msl 1 (ver + (2 * l.length - 1)) 0 1 (q.size) (q.size)] 0 49, .rows (sB (q)) 1 (ver + (2 * l.length - 1)) 5] _ _ from RO) (W.exit (show _ ∧ _ from ⟨rfl, rfl, rfl⟩))
  · rintro e0 s0 h0 ⟨rfl, rfl, rfl⟩
    exact EndsH.normalW ⟨[], []⟩ RO

end Go.Proofs.YtlolkehjlkmcbaaDoor
