import Derived.Test.YtlolkehjlkmcbaaDoorPalSt3
/-! The laws of states, in plain Lean. -/
set_option linter.unusedVariables false
set_option linter.unusedSimpArgs false
set_option linter.unusedSectionVars false
set_option maxRecDepth 10000
namespace Go.Vs
open Go.Lib
local instance tabPalSt4 : Tab := ⟨fun _ => none⟩
theorem StI.of {s : T_api_State} (w : W_api_State s) : StI s := ⟨fun x hx => (w.Mem.2 x hx).i64, fun x hx => by
  have t := w.Thr.2 x hx
  obtain ⟨r0, r1, r2, r3, r4, r5, r6, r7⟩ := t.Regs
  exact ⟨r0.i64, r1.i64, r2.i64, r3.i64, r4.i64, r5.i64, r6.i64, r7.i64, t.PC.i64, t.Phase.i64, t.Latch.i64, t.Status.i64⟩, fun l hl x hx => by
  have t := (w.Bufs.2 l hl).2 x hx
  exact ⟨t.Addr.i64, t.Val.i64⟩, w.Lock.i64⟩
theorem itoaB_one {n : Nat} (h : n < 10) : itoaB (n : Int) = ⟨#[UInt8.ofNat (48 + n)]⟩ := by
  unfold itoaB bs itoa
  rw [if_neg (by omega), Int.toNat_natCast, decDigits_one h]
def s0 : T_api_State := T_api_State.mk [1, 2] [] [[T_api_Entry.mk 0 5]] 0
theorem s0_small : Small s0 := ⟨by simp [s0], by simp [s0], by simp [s0], by simp [s0]⟩
theorem s0_i : StI s0 := ⟨by simp [s0, I64], by simp [s0], by simp [s0, I64], by simp [s0, I64]⟩
theorem s0_txt : txt s0 = ⟨#[49, 44, 50, 40, 48, 61, 53, 41, 35, 48]⟩ := by
  have h0 : itoaB 0 = ⟨#[48]⟩ := itoaB_one (n := 0) (by omega)
  have h1 : itoaB 1 = ⟨#[49]⟩ := itoaB_one (n := 1) (by omega)
  have h2 : itoaB 2 = ⟨#[50]⟩ := itoaB_one (n := 2) (by omega)
  have h5 : itoaB 5 = ⟨#[53]⟩ := itoaB_one (n := 5) (by omega)
  simp only [txt, s0, catG, nums, sepG, sepS, bufT, entT, h0, h1, h2, h5]
  refine bext ?_
  simp only [bl_append]
  rfl
theorem alive13_true : palinglaw13_alive = some true := by
  have e1 : state_Text s0 = some ⟨#[49, 44, 50, 40, 48, 61, 53, 41, 35, 48]⟩ := by rw [st_Text_eq _ s0_small s0_i, s0_txt]
  have e2 : state_Drained s0 = some false := by rw [st_Drained_eq _ s0_small.buf]; rfl
  have e3 : state_Drained (T_api_State.mk [] [] [] 0) = some true := by rw [st_Drained_eq _ (by simp)]; rfl
  have e4 : state_Same s0 s0 = some true := by rw [st_Same_eq _ _ s0_small]; simp
  have e5 : state_Same s0 (T_api_State.mk [] [] [] 0) = some false := by rw [st_Same_eq _ _ s0_small]; rfl
  unfold palinglaw13_alive
  simp only [Option.bind_some]
  rw [show T_api_State.mk [1, 2] [] [[T_api_Entry.mk 0 5]] 0 = s0 from rfl, e1, e2, e3, e4, e5]
  simp
end Go.Vs
