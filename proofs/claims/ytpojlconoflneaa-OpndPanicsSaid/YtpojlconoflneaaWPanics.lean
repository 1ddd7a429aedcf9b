import Derived.Test.YtpojlconoflneaaVFacts
import Derived.Test.YtpojlconoflneaaPalPn
import Derived.Tactics
import Derived.Tactics2
import Derived.Defers
import Derived.Recover
import Derived.Laws.Pointers
set_option maxRecDepth 100000
set_option linter.unusedVariables false
/-! Does the register of a part panic: a deferred function that recovers. -/
namespace Go.Proofs.Ytpojlconoflneaa
open Go.Vs Go.RowKit
theorem catch_panicking (p : Addr) (x : Bool) (u : TypeId) (pv : Value) (older : List PanicEntry) (w : World) (hc : w.cell? p = some (.bool x)) (hz : w.frozen? p = false) :
    CallsD Try.prog 8 #[.pointer (some p)] (.panicking ({ v := .iface u pv, recovered := false } :: older)) w fun e u' w' =>
      e = .returned (.tuple #[]) ∧ u' = .panicking ({ v := .iface u pv, recovered := true } :: older) ∧ w' = w.setCell p (.bool true) := by
  refine callsD_of_wpS Try.func8 rfl fun c₀ cs hu => ?_
  apply wpS_seq
  apply wpS_region
  simp [wpOpsS, go_sem, recoverD, hu, Try.ntmps8, Exit.thenS]
  refine wpS_cond (t := true) (by simp [Act.eval, Array.replicate]) ?_
  simp only [if_true]
  apply wpS_region
  simp [wpOpsS, go_sem, hc, hz, bodyPostS, results, Try.results8]
theorem ta_fails (x : Value) (hx : x = .nilIface ∨ ∃ t v, x = .iface t v ∧ t ≠ 32) (w : World) : ∃ pv cs, (Instr.typeAssert x 36 32 false).run Try.prog w = .halt (.panic (.iface 15 pv)) (w.alloc (.cells cs 52)) := by
  have hu := run_underlying (P := Try.prog) Try.underlying32
  have hp := run_underlying (P := Try.prog) Try.underlying15
  rcases hx with rfl | ⟨t, v, rfl, ht⟩
  · exact ⟨_, _, by simp [Instr.typeAssert, hu, hp, runtimePanic, elemOf, newVar, newRow, goPanic]; exact ⟨rfl, rfl⟩⟩
  · exact ⟨_, _, by simp [Instr.typeAssert, hu, hp, runtimePanic, elemOf, newVar, newRow, goPanic, ht]; exact ⟨rfl, rfl⟩⟩
theorem panics_any (x : Value) (hx : x = .nilIface ∨ ∃ t v, x = .iface t v ∧ t ≠ 32) (w : World) : Calls Try.prog 5 #[x] w fun e w' => e = .returned (.bool true) ∧ Below w.heap.size w w' := by
  have hmf : ∀ (fn : Fn) (first cap : Array Value) (w : World), (Instr.makeFunc fn first cap).run Try.prog w = .ok (.func fn first cap) w := fun _ _ _ _ => rfl
  go_enter_defers Try.func5, Try.ntmps5
  go_wp2
  obtain ⟨pv, cs, hta⟩ := ta_fails x hx (w.alloc (.cells #[.bool false] 4))
  rw [hta, Result.andThen_halt, Oper.upon_panic]
  refine ⟨rfl, ?_⟩
  refine leaves_cons (f := 8) (args := #[.pointer (some ⟨w.heap.size, 0, none⟩)]) (by simp) (by simp [go_sem]) ?_
  refine (catch_panicking ⟨w.heap.size, 0, none⟩ false 15 _ [] _ ?_ ?_).mono ?_
  · simp [go_sem]
  · simp [go_sem]
  rintro e u' w'' ⟨rfl, rfl, rfl⟩
  simp [Leaves, settle, results, Try.results5, go_sem]
  exact ((Below.refl _ _).alloc (Nat.le_refl _) _).alloc (by simp) _
theorem palinglaw6_panics_ok [Tab] {p0 : I_opnd_Part} {r : Bool} (hm : palinglaw6_panics p0 = some r) : PureF Try.prog 5 [eI_opnd_Part p0] (.bool r) := by
  intro I w vs hI ht hvs
  have hr : r = true := by unfold palinglaw6_panics at hm; split at hm <;> first | (cases hm; done) | exact (Option.some.inj hm).symm
  subst hr
  have key : ∀ x, vs = #[x] → (x = .nilIface ∨ ∃ t v, x = .iface t v ∧ t ≠ 32) → Calls Try.prog 5 vs w fun e w' => ∃ v I', e = .returned v ∧ RowKit.Below w.heap.size w w' ∧ (∀ c, I c → I' c) ∧ (∀ c, I' c → c < w'.heap.size) ∧ (∀ c, I' c → I c ∨ w.heap.size ≤ c) ∧ VR I' w' Io.nil (.bool true) v := by
    rintro x rfl hx
    refine (panics_any x hx w).mono ?_
    rintro e w' ⟨rfl, hbl⟩
    exact ⟨_, I, rfl, hbl, fun c h => h, fun c h => Nat.lt_of_lt_of_le (hI c h) hbl.size, fun c h => .inl h, .bool _⟩
  obtain ⟨hs, hv⟩ := hvs
  obtain ⟨x, hx⟩ : ∃ x, vs = #[x] := by
    obtain ⟨l⟩ := vs
    match l, hs with
    | [x], _ => exact ⟨x, rfl⟩
  have h0 := hv 0 _ x rfl (by rw [hx]; rfl)
  refine key x hx ?_
  unfold palinglaw6_panics at hm
  split at hm
  · cases hm
  · rename_i hne
    cases p0 with
    | nil => rw [eI_opnd_Part_nil] at h0; cases h0; exact .inl rfl
    | NumPart y => rw [eI_opnd_Part_NumPart] at h0; cases h0; exact .inr ⟨_, _, rfl, by decide⟩
    | AtPart y => rw [eI_opnd_Part_AtPart] at h0; cases h0; exact .inr ⟨_, _, rfl, by decide⟩
    | ByPart y => rw [eI_opnd_Part_ByPart] at h0; cases h0; exact .inr ⟨_, _, rfl, by decide⟩
    | RegPart y => exact absurd rfl (hne y)
end Go.Proofs.Ytpojlconoflneaa
