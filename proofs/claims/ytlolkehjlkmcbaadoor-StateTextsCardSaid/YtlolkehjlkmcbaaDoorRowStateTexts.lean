import Derived.Test.YtlolkehjlkmcbaaDoorTie
import Derived.Test.YtlolkehjlkmcbaaDoorCards
import Derived.SevenTiedAt
import Derived.Test.YtlolkehjlkmcbaaDoorStateLaws4
import Derived.Test.YtlolkehjlkmcbaaDoorStTab
/-! The row of a law, and its tied card. -/
set_option linter.unusedVariables false
set_option linter.unusedSimpArgs false
namespace Go.Proofs.YtlolkehjlkmcbaaDoor.stateTexts
open Go.ChangeShapes Go.WideShapes Go.ChangeAt Go.RowKit Go.Vs
theorem plain2 : plainT Tryd.prog 12 2 = true := by kernel_rfl
theorem plain3 : plainT Tryd.prog 12 3 = true := by kernel_rfl
theorem plain26 : plainT Tryd.prog 12 26 = true := by kernel_rfl
set_option maxRecDepth 100000 in
theorem lifted (os : Os) (started : os.Started) (H : Type) (enc : TypeId × Value → H) :
    ReturnsInHanded {} Tryd.checked os 4 .any (fun w args => (Rows.stateTextsSpec.pre enc Tryd.prog Tryd.f4 [] false w args ∧ laidMetH Tryd.prog stLaid w) ∧ sizedMet enc Tryd.prog Tryd.f4 (OpenSpec.ofChange Rows.stateTextsSpec) false w args)
      (Rows.stateTextsSpec.post enc Tryd.prog Tryd.f4 false true false false) := by
  refine returnsInHanded_of_change_and (C := Tryd.checked) (X := fun w _ => laidMetH Tryd.prog stLaid w) (fun _ _ _ hh h => h.of_heap hh) own started (by kernel_rfl) Tryd.func4
    (ChangeSpec.witness_shaped (enc := enc) (C := Tryd.checked) (os := os) (X := fun w _ => laidMetH Tryd.prog stLaid w) false (World.laidAll Tryd.prog os stLaid) #[.agg #[.slice none 0 0, .slice none 0 0, .slice none 0 0, .int .i64 0], .agg #[.slice none 0 0, .slice none 0 0, .slice none 0 0, .int .i64 0], .int .i64 0, .int .i64 0, .int .i64 0] 8 (World.laidAll_os _ _ _) (World.shaped_of_ZipB (by kernel_rfl) (by kernel_rfl)) (by kernel_rfl) (by kernel_rfl) (by kernel_rfl) (door_met os _)) ?_
  intro W base args ds gs before hval0 hW _ hsz0 hL0 _
  have hval : ∀ (j : Nat) t v, Tryd.f4.params[j]? = some t → args[j]? = some v → Value.okWide Tryd.prog W .any base t v := hval0
  have hL : laidMetH Tryd.prog stLaid W := hL0
  have hW' := hW
  have hlt := hW.lt
  obtain ⟨p, q, hA0, hV, rfl, hfz, hnd⟩ := hW
  have hA : DataW.TrodAll enc Tryd.prog W 0 (fun _ => true) true Tryd.f4.params.toList args.toList ds p := hA0
  rw [Tryd.params4] at hA hval
  obtain ⟨v0, vs0, d0, ds0, p0, q0, hargs, rfl, rfl, h0, r0⟩ := trodAll_cons hA
  obtain ⟨v1, vs1, d1, ds1, p1, q1, rfl, rfl, rfl, h1, r1⟩ := trodAll_cons r0
  obtain ⟨v2, vs2, d2, ds2, p2, q2, rfl, rfl, rfl, h2, r2⟩ := trodAll_cons r1
  obtain ⟨v3, vs3, d3, ds3, p3, q3, rfl, rfl, rfl, h3, r3⟩ := trodAll_cons r2
  obtain ⟨v4, vs4, d4, ds4, p4, q4, rfl, rfl, rfl, h4, r4⟩ := trodAll_cons r3
  obtain ⟨rfl, rfl, rfl⟩ := trodAll_nil r4
  obtain rfl : args = #[v0, v1, v2, v3, v4] := by cases args; simp_all
  obtain ⟨rfl, rfl⟩ := trodVars_none hV
  letI := stTab
  obtain ⟨x0, t0, c0⟩ := trod_val plain26 h0 (hval 0 26 v0 rfl rfl)
  obtain ⟨x1, t1, c1⟩ := trod_val plain26 h1 (hval 1 26 v1 rfl rfl)
  obtain ⟨x2, t2, c2⟩ := trod_val plain3 h2 (hval 2 3 v2 rfl rfl)
  obtain ⟨x3, t3, c3⟩ := trod_val plain3 h3 (hval 3 3 v3 rfl rfl)
  obtain ⟨x4, t4, c4⟩ := trod_val plain2 h4 (hval 4 2 v4 rfl rfl)
  clear hA0 hval0 hsz0
  rw [MakeChecks.laidMetH_plain _ _ _ (by kernel_rfl)] at hL
  refine ((stateTexts_law x0 t0 x1 t1 x2 t2 x3 t3 x4 t4).walk (W := W) (vs := #[v0, v1, v2, v3, v4]) (st_tt hL) rfl ?_).mono fun e W' ⟨he, bel⟩ => ?_
  · intro j x y hx hy
    match j, hx, hy with
    | 0, hx, hy => simp only [List.getElem?_cons_zero, List.getElem?_cons_succ, Option.some.injEq] at hx; simp at hy; subst hx; subst hy; exact c0
    | 1, hx, hy => simp only [List.getElem?_cons_zero, List.getElem?_cons_succ, Option.some.injEq] at hx; simp at hy; subst hx; subst hy; exact c1
    | 2, hx, hy => simp only [List.getElem?_cons_zero, List.getElem?_cons_succ, Option.some.injEq] at hx; simp at hy; subst hx; subst hy; exact c2
    | 3, hx, hy => simp only [List.getElem?_cons_zero, List.getElem?_cons_succ, Option.some.injEq] at hx; simp at hy; subst hx; subst hy; exact c3
    | 4, hx, hy => simp only [List.getElem?_cons_zero, List.getElem?_cons_succ, Option.some.injEq] at hx; simp at hy; subst hx; subst hy; exact c4
    | _ + 5, hx, hy => simp at hx
  subst he
  exact ⟨_, rfl, _, _, _, [], _, [], hW', trodAll_mk1 (shut_bool Tryd.underlying4 _), (trodAll_cons_mk (Below.trod laidOut (by kernel_rfl) (of_decide_eq_true (by kernel_rfl)) h0 bel (fun x hx => hlt x (by simp only [List.mem_append]; exact .inl (.inl hx)))) (trodAll_cons_mk (Below.trod laidOut (by kernel_rfl) (of_decide_eq_true (by kernel_rfl)) h1 bel (fun x hx => hlt x (by simp only [List.mem_append]; exact .inl (.inr (.inl hx))))) (trodAll_cons_mk (Below.trod laidOut (by kernel_rfl) (of_decide_eq_true (by kernel_rfl)) h2 bel (fun x hx => hlt x (by simp only [List.mem_append]; exact .inl (.inr (.inr (.inl hx)))))) (trodAll_cons_mk (Below.trod laidOut (by kernel_rfl) (of_decide_eq_true (by kernel_rfl)) h3 bel (fun x hx => hlt x (by simp only [List.mem_append]; exact .inl (.inr (.inr (.inr (.inl hx))))))) (trodAll_cons_mk (Below.trod laidOut (by kernel_rfl) (of_decide_eq_true (by kernel_rfl)) h4 bel (fun x hx => hlt x (by simp only [List.mem_append]; exact .inl (.inr (.inr (.inr (.inr (.inl hx)))))))) trodAll_mk0))))), rfl, bel.frame _, fun h => by cases h⟩
theorem over : Rows.stateTextsRow.holds Tryd.pinned (OpenSpec.ofChange Rows.stateTextsSpec) :=
  OpenClaim.holds_of_wide 4 Tryd.f4 rfl rfl rfl rfl rfl rfl rfl ⟨rfl, rfl, rfl, rfl, rfl⟩ rfl rfl rfl rfl rfl (by kernel_rfl) Tryd.func4 (by kernel_rfl)
    (of_decide_eq_true (by kernel_rfl)) (by unfold Func.isWrapper; first | (rw [if_pos (by decide +kernel)]; kernel_rfl) | (rw [if_neg (by decide +kernel)]; exact ⟨rfl, rfl⟩))
    (fun os started H enc _ => lifted os started H enc)
end Go.Proofs.YtlolkehjlkmcbaaDoor.stateTexts
namespace Go.Proofs.YtlolkehjlkmcbaaDoor
open Go
theorem stateTexts_holds : Rows.StateTextsSaid := stateTexts.over
theorem stateTexts_card : Rows.StateTextsCardSaid :=
  Claim7.holds_tied_plain_at .later [] [.data, .data, .data] true (true, "eb79b0e442b4c8169cef7d7fe122d3a39a24bd4fd6c699a379b1f9b49371c400") false
    stateTexts_holds (fun _ h => by cases h) (by kernel_rfl) (fun _ h => by cases h) stateTexts_row_tie rfl ⟨rfl, rfl⟩ (by kernel_rfl) rfl
    (fun f fn hf hfn => by
      obtain rfl : f = 4 := Option.some.inj ((show Tryd.prog.funcNamed Rows.stateTextsRow.func = some 4 by kernel_rfl).symm.trans hf) |>.symm
      obtain rfl : fn = Tryd.f4 := (Option.some.inj (Tryd.func4.symm.trans hfn)).symm
      exact ⟨by kernel_rfl, fun j t ht => by
        rw [Tryd.params4] at ht
        rcases (show t = 26 ∨ t = 26 ∨ t = 3 ∨ t = 3 ∨ t = 2 by
          match j, ht with
          | 0, ht => simp at ht; exact .inl ht.symm
          | 1, ht => simp at ht; exact .inr (.inl ht.symm)
          | 2, ht => simp at ht; exact .inr (.inr (.inl ht.symm))
          | 3, ht => simp at ht; exact .inr (.inr (.inr (.inl ht.symm)))
          | 4, ht => simp at ht; exact .inr (.inr (.inr (.inr (ht.symm))))
          | _ + 5, ht => simp at ht) with rfl | rfl | rfl | rfl | rfl
        all_goals kernel_rfl⟩)
    (by kernel_rfl)
#print axioms stateTexts_card
end Go.Proofs.YtlolkehjlkmcbaaDoor
