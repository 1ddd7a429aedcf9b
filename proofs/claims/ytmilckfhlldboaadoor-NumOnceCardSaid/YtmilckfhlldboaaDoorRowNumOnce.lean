import Derived.Test.YtmilckfhlldboaaDoorTie
import Derived.Test.YtmilckfhlldboaaDoorCards
import Derived.SevenTiedAt
import Derived.Test.YtmilckfhlldboaaDoorNumLaws
import Derived.Test.YtmilckfhlldboaaDoorNumTab
/-! The row of a law, and its tied card. -/
set_option linter.unusedVariables false
set_option linter.unusedSimpArgs false
namespace Go.Proofs.YtmilckfhlldboaaDoor.numOnce
open Go.ChangeShapes Go.WideShapes Go.ChangeAt Go.RowKit Go.Vs
theorem plain9 : plainT Tryd.prog 12 9 = true := by kernel_rfl
set_option maxRecDepth 100000 in
theorem lifted (os : Os) (started : os.Started) (H : Type) (enc : TypeId × Value → H) :
    ReturnsInHanded {} Tryd.checked os 9 .any (fun w args => (Rows.numOnceSpec.pre enc Tryd.prog Tryd.f9 [] false w args ∧ laidMetH Tryd.prog numLaid w) ∧ sizedMet enc Tryd.prog Tryd.f9 (OpenSpec.ofChange Rows.numOnceSpec) false w args)
      (Rows.numOnceSpec.post enc Tryd.prog Tryd.f9 false true false false) := by
  refine returnsInHanded_of_change_and (C := Tryd.checked) (X := fun w _ => laidMetH Tryd.prog numLaid w) (fun _ _ _ hh h => h.of_heap hh) own started (by kernel_rfl) Tryd.func9
    (ChangeSpec.witness_shaped (enc := enc) (C := Tryd.checked) (os := os) (X := fun w _ => laidMetH Tryd.prog numLaid w) false (World.doorLaid Tryd.prog 400 os) #[.string .empty] 8 rfl (World.shaped_of_RefB (by kernel_rfl) (by kernel_rfl)) (by kernel_rfl) (by kernel_rfl) (by kernel_rfl) (door_met os _)) ?_
  intro W base args ds gs before hval0 hW _ hsz0 hL0 _
  have hval : ∀ (j : Nat) t v, Tryd.f9.params[j]? = some t → args[j]? = some v → Value.okWide Tryd.prog W .any base t v := hval0
  have hL : laidMetH Tryd.prog numLaid W := hL0
  have hW' := hW
  have hlt := hW.lt
  obtain ⟨p, q, hA0, hV, rfl, hfz, hnd⟩ := hW
  have hA : DataW.TrodAll enc Tryd.prog W 0 (fun _ => true) true Tryd.f9.params.toList args.toList ds p := hA0
  rw [Tryd.params9] at hA hval
  obtain ⟨v0, vs0, d0, ds0, p0, q0, hargs, rfl, rfl, h0, r0⟩ := trodAll_cons hA
  obtain ⟨rfl, rfl, rfl⟩ := trodAll_nil r0
  obtain rfl : args = #[v0] := by cases args; simp_all
  obtain ⟨rfl, rfl⟩ := trodVars_none hV
  letI := numTab
  obtain ⟨x0, t0, c0⟩ := trod_val plain9 h0 (hval 0 9 v0 rfl rfl)
  clear hA0 hval0 hsz0
  rw [MakeChecks.laidMetH_plain _ _ _ (by kernel_rfl)] at hL
  refine ((numOnce_law x0 t0).walk (W := W) (vs := #[v0]) (num_tt hL) rfl ?_).mono fun e W' ⟨he, bel⟩ => ?_
  · intro j x y hx hy
    match j, hx, hy with
    | 0, hx, hy => simp only [List.getElem?_cons_zero, List.getElem?_cons_succ, Option.some.injEq] at hx; simp at hy; subst hx; subst hy; exact c0
    | _ + 1, hx, hy => simp at hx
  subst he
  exact ⟨_, rfl, _, _, _, [], _, [], hW', trodAll_mk1 (shut_bool Tryd.underlying4 _), (trodAll_cons_mk (Below.trod laidOut (by kernel_rfl) (of_decide_eq_true (by kernel_rfl)) h0 bel (fun x hx => hlt x (by simp only [List.mem_append]; exact .inl (.inl hx)))) trodAll_mk0), rfl, bel.frame _, fun h => by cases h⟩
theorem over : Rows.numOnceRow.holds Tryd.pinned (OpenSpec.ofChange Rows.numOnceSpec) :=
  OpenClaim.holds_of_wide 9 Tryd.f9 rfl rfl rfl rfl rfl rfl rfl ⟨rfl, rfl, rfl, rfl, rfl⟩ rfl rfl rfl rfl rfl (by kernel_rfl) Tryd.func9 (by kernel_rfl)
    (of_decide_eq_true (by kernel_rfl)) (by unfold Func.isWrapper; first | (rw [if_pos (by decide +kernel)]; kernel_rfl) | (rw [if_neg (by decide +kernel)]; exact ⟨rfl, rfl⟩))
    (fun os started H enc _ => lifted os started H enc)
end Go.Proofs.YtmilckfhlldboaaDoor.numOnce
namespace Go.Proofs.YtmilckfhlldboaaDoor
open Go
/-- The row. -/
theorem numOnce_holds : Rows.NumOnceSaid := numOnce.over
/-- The tied card. -/
theorem numOnce_card : Rows.NumOnceCardSaid :=
  Claim7.holds_tied_plain_at .later [] [.data, .data, .data, .sentinel, .sentinel] true (true, "9301ce09105d8effca63dd174708e472707c11b8ac52d577372822c49ad22b1b") true
    numOnce_holds (fun _ h => by cases h) (by kernel_rfl) (fun _ h => by cases h) numOnce_row_tie rfl ⟨rfl, rfl⟩ (by kernel_rfl) rfl
    (fun f fn hf hfn => by
      obtain rfl : f = 9 := Option.some.inj ((show Tryd.prog.funcNamed Rows.numOnceRow.func = some 9 by kernel_rfl).symm.trans hf) |>.symm
      obtain rfl : fn = Tryd.f9 := (Option.some.inj (Tryd.func9.symm.trans hfn)).symm
      exact ⟨by kernel_rfl, fun j t ht => by
        rw [Tryd.params9] at ht
        rcases (show t = 9 by
          match j, ht with
          | 0, ht => simp at ht; exact ht.symm
          | _ + 1, ht => simp at ht) with rfl
        all_goals kernel_rfl⟩)
    (by kernel_rfl)
#print axioms numOnce_card
end Go.Proofs.YtmilckfhlldboaaDoor
