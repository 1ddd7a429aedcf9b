import Derived.Test.YtmilckfhlldboaaDoorTie
import Derived.Test.YtmilckfhlldboaaDoorCards
import Derived.SevenTiedAt
import Derived.Test.YtmilckfhlldboaaDoorNumLaws
import Derived.Test.YtmilckfhlldboaaDoorNumTab
/-! The row of a law, and its tied card. -/
set_option linter.unusedVariables false
set_option linter.unusedSimpArgs false
namespace Go.Proofs.YtmilckfhlldboaaDoor.numOrder
open Go.ChangeShapes Go.WideShapes Go.ChangeAt Go.RowKit Go.Vs
theorem plain2 : plainT Tryd.prog 12 2 = true := by kernel_rfl
set_option maxRecDepth 100000 in
theorem lifted (os : Os) (started : os.Started) (H : Type) (enc : TypeId × Value → H) :
    ReturnsInHanded {} Tryd.checked os 11 .any (fun w args => (Rows.numOrderSpec.pre enc Tryd.prog Tryd.f11 [] false w args ∧ laidMetH Tryd.prog numLaid w) ∧ sizedMet enc Tryd.prog Tryd.f11 (OpenSpec.ofChange Rows.numOrderSpec) false w args)
      (Rows.numOrderSpec.post enc Tryd.prog Tryd.f11 false true false false) := by
  refine returnsInHanded_of_change_and (C := Tryd.checked) (X := fun w _ => laidMetH Tryd.prog numLaid w) (fun _ _ _ hh h => h.of_heap hh) own started (by kernel_rfl) Tryd.func11
    (ChangeSpec.witness_shaped (enc := enc) (C := Tryd.checked) (os := os) (X := fun w _ => laidMetH Tryd.prog numLaid w) false (World.doorLaid Tryd.prog 400 os) #[.int .i64 0, .int .i64 0] 8 rfl (World.shaped_of_RefB (by kernel_rfl) (by kernel_rfl)) (by kernel_rfl) (by kernel_rfl) (by kernel_rfl) (door_met os _)) ?_
  intro W base args ds gs before hval0 hW _ hsz0 hL0 _
  have hval : ∀ (j : Nat) t v, Tryd.f11.params[j]? = some t → args[j]? = some v → Value.okWide Tryd.prog W .any base t v := hval0
  have hL : laidMetH Tryd.prog numLaid W := hL0
  have hW' := hW
  have hlt := hW.lt
  obtain ⟨p, q, hA0, hV, rfl, hfz, hnd⟩ := hW
  have hA : DataW.TrodAll enc Tryd.prog W 0 (fun _ => true) true Tryd.f11.params.toList args.toList ds p := hA0
  rw [Tryd.params11] at hA hval
  obtain ⟨v0, vs0, d0, ds0, p0, q0, hargs, rfl, rfl, h0, r0⟩ := trodAll_cons hA
  obtain ⟨v1, vs1, d1, ds1, p1, q1, rfl, rfl, rfl, h1, r1⟩ := trodAll_cons r0
  obtain ⟨rfl, rfl, rfl⟩ := trodAll_nil r1
  obtain rfl : args = #[v0, v1] := by cases args; simp_all
  obtain ⟨rfl, rfl⟩ := trodVars_none hV
  letI := numTab
  obtain ⟨x0, t0, c0⟩ := trod_val plain2 h0 (hval 0 2 v0 rfl rfl)
  obtain ⟨x1, t1, c1⟩ := trod_val plain2 h1 (hval 1 2 v1 rfl rfl)
  clear hA0 hval0 hsz0
  rw [MakeChecks.laidMetH_plain _ _ _ (by kernel_rfl)] at hL
  refine ((numOrder_law x0 t0 x1 t1).walk (W := W) (vs := #[v0, v1]) (num_tt hL) rfl ?_).mono fun e W' ⟨he, bel⟩ => ?_
  · intro j x y hx hy
    match j, hx, hy with
    | 0, hx, hy => simp only [List.getElem?_cons_zero, List.getElem?_cons_succ, Option.some.injEq] at hx; simp at hy; subst hx; subst hy; exact c0
    | 1, hx, hy => simp only [List.getElem?_cons_zero, List.getElem?_cons_succ, Option.some.injEq] at hx; simp at hy; subst hx; subst hy; exact c1
    | _ + 2, hx, hy => simp at hx
  subst he
  exact ⟨_, rfl, _, _, _, [], _, [], hW', trodAll_mk1 (shut_bool Tryd.underlying4 _), (trodAll_cons_mk (Below.trod laidOut (by kernel_rfl) (of_decide_eq_true (by kernel_rfl)) h0 bel (fun x hx => hlt x (by simp only [List.mem_append]; exact .inl (.inl hx)))) (trodAll_cons_mk (Below.trod laidOut (by kernel_rfl) (of_decide_eq_true (by kernel_rfl)) h1 bel (fun x hx => hlt x (by simp only [List.mem_append]; exact .inl (.inr (.inl hx))))) trodAll_mk0)), rfl, bel.frame _, fun h => by cases h⟩
theorem over : Rows.numOrderRow.holds Tryd.pinned (OpenSpec.ofChange Rows.numOrderSpec) :=
  OpenClaim.holds_of_wide 11 Tryd.f11 rfl rfl rfl rfl rfl rfl rfl ⟨rfl, rfl, rfl, rfl, rfl⟩ rfl rfl rfl rfl rfl (by kernel_rfl) Tryd.func11 (by kernel_rfl)
    (of_decide_eq_true (by kernel_rfl)) (by unfold Func.isWrapper; first | (rw [if_pos (by decide +kernel)]; kernel_rfl) | (rw [if_neg (by decide +kernel)]; exact ⟨rfl, rfl⟩))
    (fun os started H enc _ => lifted os started H enc)
end Go.Proofs.YtmilckfhlldboaaDoor.numOrder
namespace Go.Proofs.YtmilckfhlldboaaDoor
open Go
/-- The row. -/
theorem numOrder_holds : Rows.NumOrderSaid := numOrder.over
/-- The tied card. -/
theorem numOrder_card : Rows.NumOrderCardSaid :=
  Claim7.holds_tied_plain_at .later [] [.data, .data, .data, .sentinel, .sentinel] true (true, "9301ce09105d8effca63dd174708e472707c11b8ac52d577372822c49ad22b1b") true
    numOrder_holds (fun _ h => by cases h) (by kernel_rfl) (fun _ h => by cases h) numOrder_row_tie rfl ⟨rfl, rfl⟩ (by kernel_rfl) rfl
    (fun f fn hf hfn => by
      obtain rfl : f = 11 := Option.some.inj ((show Tryd.prog.funcNamed Rows.numOrderRow.func = some 11 by kernel_rfl).symm.trans hf) |>.symm
      obtain rfl : fn = Tryd.f11 := (Option.some.inj (Tryd.func11.symm.trans hfn)).symm
      exact ⟨by kernel_rfl, fun j t ht => by
        rw [Tryd.params11] at ht
        rcases (show t = 2 ∨ t = 2 by
          match j, ht with
          | 0, ht => simp at ht; exact .inl ht.symm
          | 1, ht => simp at ht; exact .inr (ht.symm)
          | _ + 2, ht => simp at ht) with rfl | rfl
        all_goals kernel_rfl⟩)
    (by kernel_rfl)
#print axioms numOrder_card
end Go.Proofs.YtmilckfhlldboaaDoor
