import Derived.Test.YtlolkehjlkmcbaaDoorWNum
import Derived.Test.YtlolkehjlkmcbaaDoorRows
import Derived.Test.YtlolkehjlkmcbaaDoorVu3
import Derived.ProofKit
import Derived.LaidMore
import Derived.Lay
import Derived.OpenShut
import Derived.Stop.Joined
import Derived.Stop.LaidErr
import Derived.Lib.LaidTab
/-! What the listed variables hold, in the words of the walks. -/
set_option linter.unusedVariables false
set_option linter.unusedSimpArgs false
set_option linter.unusedSectionVars false
set_option maxRecDepth 100000
namespace Go.Proofs.YtlolkehjlkmcbaaDoor
open Go.ChangeShapes Go.WideShapes Go.ChangeAt Go.RowKit Go.Vs
@[instance_reducible] def stTab : TabP where
  tab g := if g = 0 then some (Go.Lib.pow10Tab.map fun z => AV.int .u64 z) else none
  p10 := rfl
abbrev stLaid : List (String × DataW Unit) := [("math/bits.deBruijn32tab", Rows.laid_math_bits_deBruijn32tab), ("math/bits.deBruijn64tab", Rows.laid_math_bits_deBruijn64tab), ("internal/strconv.uint64pow10", Rows.laid_internal_strconv_uint64pow10)]
theorem var_cells {n : String} {g : Nat} {W : World} {arr : Array Value} (hg : Tryd.prog.globalNamed n = some g) (h : W.var? Tryd.prog n = some arr) : g < W.heap.size ∧ (∃ ty z, W.heap[g]? = some (.cells arr ty z)) := by
  unfold World.var? at h
  rw [hg] at h
  simp only [Option.bind_some] at h
  have hlt : g < W.heap.size := by
    rcases Nat.lt_or_ge g W.heap.size with h' | h'
    · exact h'
    · simp [Array.getElem?_eq_none h'] at h
  refine ⟨hlt, ?_⟩
  split at h
  · rename_i cs ty z hc
    obtain rfl := Option.some.inj h
    exact ⟨ty, z, hc⟩
  · cases h
theorem var_row {n : String} {g : Nat} {W : World} {arr : Array Value} {cs : List AV} (hg : Tryd.prog.globalNamed n = some g) (h : W.var? Tryd.prog n = some arr) (hl : arr.size = cs.length)
    (hv : ∀ (j : Nat) x, cs[j]? = some x → ∃ y, arr[j]? = some y ∧ VR (fun c => c < W.heap.size) W Io.nil x y) :
    g < W.heap.size ∧ (∃ arr ty z, W.heap[g]? = some (.cells arr ty z) ∧ arr.size = cs.length) ∧ (∀ (j : Nat) x, cs[j]? = some x → ∃ y, W.cell? ⟨g, j, none⟩ = some y ∧ VR (fun c => c < W.heap.size) W Io.nil x y) := by
  obtain ⟨h1, ty, z, h2⟩ := var_cells hg h
  refine ⟨h1, ⟨arr, ty, z, h2, hl⟩, fun j x hj => ?_⟩
  obtain ⟨y, hy, hr⟩ := hv j x hj
  exact ⟨y, by simp [World.cell?, h2, hy], hr⟩
theorem gPow : Tryd.prog.globalNamed "internal/strconv.uint64pow10" = some 0 := by kernel_rfl
theorem pow_row {W : World} {rest : List (String × DataW Unit)} (h : laidMet Tryd.prog (("internal/strconv.uint64pow10", Rows.laid_internal_strconv_uint64pow10) :: rest) W) : Lib.TabIs Tryd.prog W "internal/strconv.uint64pow10" .u64 Lib.pow10Tab := by
  have e : (Rows.laid_internal_strconv_uint64pow10 : DataW Unit) = Lib.tabData .u64 Lib.pow10Tab := by rfl
  rw [e] at h
  exact Lib.tabIs_of_head (t := 75) (e := 64) (n := 20) gPow (by kernel_rfl) (by kernel_rfl) (by kernel_rfl) (by kernel_rfl) (by kernel_rfl) h
theorem st_tt {W : World} (h : laidMet Tryd.prog stLaid W) : @TT stTab.toTab (fun c => c < W.heap.size) W := by
  have h3 := h.tail.tail
  have hp := pow_row h3
  intro g cs hg
  change (if g = 0 then some (Go.Lib.pow10Tab.map fun z => AV.int .u64 z) else none) = some cs at hg
  split at hg
  · rename_i e; subst e
    obtain rfl := Option.some.inj hg
    refine var_row gPow hp (by simp) fun j x hj => ?_
    rw [List.getElem?_map] at hj
    cases hz : Lib.pow10Tab[j]? with
    | none => rw [hz] at hj; cases hj
    | some z =>
      rw [hz] at hj
      obtain rfl := Option.some.inj hj
      exact ⟨.int .u64 z, by simp [hz], .int _ _⟩
  · cases hg
theorem door_met (os : Os) (args : Array Value) : laidMetH Tryd.prog stLaid ((World.laidAll Tryd.prog os stLaid).forCall (fun _ _ => 0) ⟨#[], args, []⟩).memory := by
  rw [MakeChecks.laidMetH_plain _ _ _ (by kernel_rfl)]
  exact laidMet_laidAll _ (by kernel_rfl) (by kernel_rfl)
theorem own : ownKnob Tryd.prog.godebug = none := by kernel_rfl
theorem laidOut : laidOutB Tryd.prog = true := by kernel_rfl
end Go.Proofs.YtlolkehjlkmcbaaDoor
