import Derived.Test.YtpojlconoflneaaRows
import Derived.Test.YtpojlconoflneaaVu3
import Derived.ProofKit
import Derived.Test.YtpojlconoflneaaOpLaws
/-! The row of a law. -/
set_option linter.unusedVariables false
set_option linter.unusedSimpArgs false
namespace Go.Proofs.Ytpojlconoflneaa.opndPanics
open Go.ChangeShapes Go.WideShapes Go.ChangeAt Go.RowKit Go.Vs
theorem own : ownKnob Try.prog.godebug = none := by kernel_rfl
theorem laidOut : laidOutB Try.prog = true := by kernel_rfl
@[instance_reducible] def noTab : Tab := ⟨fun _ => none⟩
theorem plain2 : plainT Try.prog 12 2 = true := by kernel_rfl
theorem plain3 : plainT Try.prog 12 3 = true := by kernel_rfl
set_option maxRecDepth 100000 in
theorem lifted (os : Os) (started : os.Started) (H : Type) (enc : TypeId × Value → H) :
    ReturnsInHanded {} Try.checked os 3 .any (Rows.opndPanicsSpec.pre6 enc Try.prog Try.f3 Rows.opndPanicsRow.domain false) (Rows.opndPanicsSpec.post enc Try.prog Try.f3 false true false false) := by
  refine returnsInHanded_of_change_sized (C := Try.checked) own started (by kernel_rfl) Try.func3
    (ChangeSpec.witness6 (enc := enc) (C := Try.checked) false ⟨#[], #[.int .i64 0, .int .i64 0, .int .i64 0], []⟩ 8 (by kernel_rfl) (by kernel_rfl) (by kernel_rfl) (by kernel_rfl)) ?_
  intro W base args ds gs before hval0 hW hcnd hsz0 _
  have hval : ∀ (j : Nat) t v, Try.f3.params[j]? = some t → args[j]? = some v → Value.okWide Try.prog W .any base t v := hval0
  have hW' := hW
  have hlt := hW.lt
  obtain ⟨p, q, hA0, hV, rfl, hfz, hnd⟩ := hW
  have hA : DataW.TrodAll enc Try.prog W 0 (fun _ => true) true Try.f3.params.toList args.toList ds p := hA0
  rw [Try.params3] at hA hval
  obtain ⟨v0, vs0, d0, ds0, p0, q0, hargs, rfl, rfl, h0, r0⟩ := trodAll_cons hA
  obtain ⟨v1, vs1, d1, ds1, p1, q1, rfl, rfl, rfl, h1, r1⟩ := trodAll_cons r0
  obtain ⟨v2, vs2, d2, ds2, p2, q2, rfl, rfl, rfl, h2, r2⟩ := trodAll_cons r1
  obtain ⟨rfl, rfl, rfl⟩ := trodAll_nil r2
  obtain rfl : args = #[v0, v1, v2] := by cases args; simp_all
  obtain ⟨rfl, rfl⟩ := trodVars_none hV
  letI := noTab
  obtain ⟨x0, t0, c0⟩ := trod_val plain3 h0 (hval 0 3 v0 rfl rfl)
  obtain ⟨x1, t1, c1⟩ := trod_val plain3 h1 (hval 1 3 v1 rfl rfl)
  obtain ⟨x2, t2, c2⟩ := trod_val plain2 h2 (hval 2 2 v2 rfl rfl)
  clear hA0 hval0 hsz0
  refine ((opndPanics_law x0 t0 x1 t1 x2 t2).walk (W := W) (vs := #[v0, v1, v2]) (fun g cs hg => by cases hg) rfl ?_).mono fun e W' ⟨he, bel⟩ => ?_
  · intro j x y hx hy
    match j, hx, hy with
    | 0, hx, hy => simp only [List.getElem?_cons_zero, List.getElem?_cons_succ, Option.some.injEq] at hx; simp at hy; subst hx; subst hy; exact c0
    | 1, hx, hy => simp only [List.getElem?_cons_zero, List.getElem?_cons_succ, Option.some.injEq] at hx; simp at hy; subst hx; subst hy; exact c1
    | 2, hx, hy => simp only [List.getElem?_cons_zero, List.getElem?_cons_succ, Option.some.injEq] at hx; simp at hy; subst hx; subst hy; exact c2
    | _ + 3, hx, hy => simp at hx
  subst he
  exact ⟨_, rfl, _, _, _, [], _, [], hW', trodAll_mk1 (shut_bool Try.underlying4 _), (trodAll_cons_mk (Below.trod laidOut (by kernel_rfl) (of_decide_eq_true (by kernel_rfl)) h0 bel (fun x hx => hlt x (by simp only [List.mem_append]; exact .inl (.inl hx)))) (trodAll_cons_mk (Below.trod laidOut (by kernel_rfl) (of_decide_eq_true (by kernel_rfl)) h1 bel (fun x hx => hlt x (by simp only [List.mem_append]; exact .inl (.inr (.inl hx))))) (trodAll_cons_mk (Below.trod laidOut (by kernel_rfl) (of_decide_eq_true (by kernel_rfl)) h2 bel (fun x hx => hlt x (by simp only [List.mem_append]; exact .inl (.inr (.inr (.inl hx)))))) trodAll_mk0))), rfl, bel.frame _, fun h => by cases h⟩
theorem over : Rows.opndPanicsRow.holds Try.pinned (OpenSpec.ofChange Rows.opndPanicsSpec) :=
  OpenClaim.holds_of_wide 3 Try.f3 rfl rfl rfl rfl rfl rfl rfl ⟨rfl, rfl, rfl, rfl, rfl⟩ rfl rfl rfl rfl rfl (by kernel_rfl) Try.func3 (by kernel_rfl)
    (of_decide_eq_true (by kernel_rfl)) (by unfold Func.isWrapper; first | (rw [if_pos (by decide +kernel)]; kernel_rfl) | (rw [if_neg (by decide +kernel)]; exact ⟨rfl, rfl⟩))
    (fun os started H enc _ => lifted os started H enc)
end Go.Proofs.Ytpojlconoflneaa.opndPanics
namespace Go.Proofs.Ytpojlconoflneaa
theorem opndPanics_holds : Rows.OpndPanicsSaid := opndPanics.over
#print axioms opndPanics_holds
end Go.Proofs.Ytpojlconoflneaa
