import Derived.Test.YtmilckfhlldboaaDoorWNum
import Derived.Test.YtmilckfhlldboaaDoorRows
import Derived.Test.YtmilckfhlldboaaDoorVtR
import Derived.ProofKit
import Derived.LaidMore
import Derived.OpenShut
import Derived.Stop.Joined
import Derived.Stop.LaidErr
import Derived.Lib.LaidTab
/-! What the listed variables hold, in the words of the walks. -/
set_option linter.unusedVariables false
set_option linter.unusedSimpArgs false
set_option linter.unusedSectionVars false
set_option maxRecDepth 100000
namespace Go.Proofs.YtmilckfhlldboaaDoor
open Go.ChangeShapes Go.WideShapes Go.ChangeAt Go.RowKit Go.Vs
@[instance_reducible] def numTab : TabE where
  tab g := if g = 2 then some (Go.Lib.pow10Tab.map fun z => AV.int .u64 z) else if g = 0 then some [.iface 104 .undef] else if g = 1 then some [.iface 104 .undef] else none
  p10 := rfl
  esyn := ⟨104, rfl⟩
  erng := ⟨104, rfl⟩
abbrev numLaid : List (String × DataW Unit) := [("math/bits.deBruijn32tab", Rows.laid_math_bits_deBruijn32tab), ("math/bits.deBruijn64tab", Rows.laid_math_bits_deBruijn64tab), ("internal/strconv.uint64pow10", Rows.laid_internal_strconv_uint64pow10), ("strconv.ErrRange", Rows.laid_strconv_ErrRange), ("strconv.ErrSyntax", Rows.laid_strconv_ErrSyntax)]
theorem var_cells {n : String} {g : Nat} {W : World} {arr : Array Value} (hg : Tryd.prog.globalNamed n = some g) (h : W.var? Tryd.prog n = some arr) : g < W.heap.size ∧ (∃ ty z, W.heap[g]? = some (.cells arr ty z)) := by
  unfold World.var? at h
  rw [hg] at h
  simp only [Option.bind_some] at h
  have hlt : g < W.heap.size := by
    rcases Nat.lt_or_ge g W.heap.size with h' | h'
    · exact h'
    · simp [Array.getElem?_eq_none h'] at h
  refine ⟨hlt, ?_⟩
  split at h
  · rename_i cs ty z hc
    obtain rfl := Option.some.inj h
    exact ⟨ty, z, hc⟩
  · cases h
theorem var_row {n : String} {g : Nat} {W : World} {arr : Array Value} {cs : List AV} (hg : Tryd.prog.globalNamed n = some g) (h : W.var? Tryd.prog n = some arr) (hl : arr.size = cs.length)
    (hv : ∀ (j : Nat) x, cs[j]? = some x → ∃ y, arr[j]? = some y ∧ VR (fun c => c < W.heap.size) W Io.nil x y) :
    g < W.heap.size ∧ (∃ arr ty z, W.heap[g]? = some (.cells arr ty z) ∧ arr.size = cs.length) ∧ (∀ (j : Nat) x, cs[j]? = some x → ∃ y, W.cell? ⟨g, j, none⟩ = some y ∧ VR (fun c => c < W.heap.size) W Io.nil x y) := by
  obtain ⟨h1, ty, z, h2⟩ := var_cells hg h
  refine ⟨h1, ⟨arr, ty, z, h2, hl⟩, fun j x hj => ?_⟩
  obtain ⟨y, hy, hr⟩ := hv j x hj
  exact ⟨y, by simp [World.cell?, h2, hy], hr⟩
theorem gPow : Tryd.prog.globalNamed "internal/strconv.uint64pow10" = some 2 := by kernel_rfl
theorem gSyn : Tryd.prog.globalNamed "strconv.ErrSyntax" = some 0 := by kernel_rfl
theorem gRng : Tryd.prog.globalNamed "strconv.ErrRange" = some 1 := by kernel_rfl
theorem pow_row {W : World} {rest : List (String × DataW Unit)} (h : laidMet Tryd.prog (("internal/strconv.uint64pow10", Rows.laid_internal_strconv_uint64pow10) :: rest) W) : Lib.TabIs Tryd.prog W "internal/strconv.uint64pow10" .u64 Lib.pow10Tab := by
  have e : (Rows.laid_internal_strconv_uint64pow10 : DataW Unit) = Lib.tabData .u64 Lib.pow10Tab := by rfl
  rw [e] at h
  exact Lib.tabIs_of_head (t := 99) (e := 72) (n := 20) gPow (by kernel_rfl) (by kernel_rfl) (by kernel_rfl) (by kernel_rfl) (by kernel_rfl) h
theorem star : "*" ++ "errors.errorString" = "*errors.errorString" := by decide
theorem row104 (u : TypeId) (h : Tryd.prog.typeName? 3 u = some "*errors.errorString") : u = 104 :=
  typeName_ptr_named (nm := "errors.errorString") (by rw [star]; kernel_rfl) (by kernel_rfl) (by decide) u (by rw [star]; exact h)
theorem err_row {W : World} {n : String} {g : Nat} {text : List UInt8} {rest : List (String × DataW Unit)} (hg : Tryd.prog.globalNamed n = some g) (ht : (Tryd.prog.globals[g]?).map (·.type) = some 63)
    (h : laidMet Tryd.prog ((n, .iface "*errors.errorString" (.ptr (.agg [.lit (.string text)]))) :: rest) W) : ∃ a, W.var? Tryd.prog n = some #[.iface 104 (.pointer (some a))] := by
  obtain ⟨a, s, hv, _⟩ := laid_sentinel (tp := 104) (te := 106) (ts := 9) h hg ht Tryd.underlying63 row104 Tryd.underlying104 Tryd.underlying106 rfl rfl Tryd.underlying9 (by kernel_rfl) (by kernel_rfl)
  exact ⟨a, hv⟩
theorem num_tt {W : World} (h : laidMet Tryd.prog numLaid W) : @TT numTab.toTabP.toTab (fun c => c < W.heap.size) W := by
  have h3 := h.tail.tail
  have hp := pow_row h3
  obtain ⟨ar, hr⟩ := err_row gRng (by kernel_rfl) h3.tail
  obtain ⟨asy, hs⟩ := err_row gSyn (by kernel_rfl) h3.tail.tail
  intro g cs hg
  change (if g = 2 then some (Go.Lib.pow10Tab.map fun z => AV.int .u64 z) else if g = 0 then some [.iface 104 .undef] else if g = 1 then some [.iface 104 .undef] else none) = some cs at hg
  split at hg
  · rename_i e; subst e
    obtain rfl := Option.some.inj hg
    refine var_row gPow hp (by simp) fun j x hj => ?_
    rw [List.getElem?_map] at hj
    cases hz : Lib.pow10Tab[j]? with
    | none => rw [hz] at hj; cases hj
    | some z =>
      rw [hz] at hj
      obtain rfl := Option.some.inj hj
      exact ⟨.int .u64 z, by simp [hz], .int _ _⟩
  · split at hg
    · rename_i e; subst e
      obtain rfl := Option.some.inj hg
      refine var_row gSyn hs rfl fun j x hj => ?_
      match j, hj with
      | 0, hj =>
        obtain rfl := Option.some.inj hj
        exact ⟨_, rfl, .iface .undef⟩
    · split at hg
      · rename_i e; subst e
        obtain rfl := Option.some.inj hg
        refine var_row gRng hr rfl fun j x hj => ?_
        match j, hj with
        | 0, hj =>
          obtain rfl := Option.some.inj hj
          exact ⟨_, rfl, .iface .undef⟩
      · cases hg
theorem door_met (os : Os) (args : Array Value) : laidMetH Tryd.prog numLaid ((World.doorLaid Tryd.prog 400 os).forCall (fun _ _ => 0) ⟨#[], args, []⟩).memory :=
  laidMetH_of_parts3 (fuel := 8) (laidMet_of_run' 8 (by kernel_rfl) (by kernel_rfl)) (by kernel_rfl) (by kernel_rfl)
theorem own : ownKnob Tryd.prog.godebug = none := by kernel_rfl
theorem laidOut : laidOutB Tryd.prog = true := by kernel_rfl
end Go.Proofs.YtmilckfhlldboaaDoor
