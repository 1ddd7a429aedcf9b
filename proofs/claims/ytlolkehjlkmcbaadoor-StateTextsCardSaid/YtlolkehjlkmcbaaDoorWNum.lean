import Derived.Test.YtlolkehjlkmcbaaDoorVFacts
import Derived.Test.YtlolkehjlkmcbaaDoorShelf
import Derived.Test.YtlolkehjlkmcbaaDoorPalNum
import Derived.WalkKit
import Derived.Lib.AppendIntMem
/-! The program's reading and writing of numbers, over the library's. -/
set_option maxRecDepth 100000
set_option linter.unusedVariables false
set_option linter.unusedSimpArgs false
set_option linter.unusedSectionVars false
namespace Go.Proofs.YtlolkehjlkmcbaaDoor
open Go.Vs Go.RowKit
class TabP extends Tab where
  p10 : tab 0 = some (Go.Lib.pow10Tab.map fun z => AV.int .u64 z)
theorem one_of {I w ι} {x : AV} {vs : Array Value} (h : VRs I w ι [x] vs) : ∃ a, vs = #[a] ∧ VR I w ι x a := by
  obtain ⟨hs, hv⟩ := h
  obtain ⟨l⟩ := vs
  match l, hs with
  | [a], _ => exact ⟨a, rfl, hv 0 x a rfl rfl⟩
theorem tabIs [TabP] {I w} (ht : TT I w) : Lib.TabIs Tryd.prog w "internal/strconv.uint64pow10" .u64 Lib.pow10Tab := by
  obtain ⟨_, ⟨arr, ty, z, hb, hsz⟩, hc⟩ := ht 0 _ TabP.p10
  have hg : Tryd.prog.globalNamed "internal/strconv.uint64pow10" = some 0 := by kernel_rfl
  unfold Lib.TabIs World.var?
  rw [hg]
  simp only [Option.bind_some, hb]
  refine congrArg some (Array.ext ?_ fun i h1 h2 => ?_)
  · simp [hsz]
  · have hi : i < Lib.pow10Tab.length := by simpa [hsz] using h1
    obtain ⟨y, hy, hv⟩ := hc i (.int .u64 (Lib.pow10Tab[i]'hi)) (by simp [hi])
    have e : arr[i]? = some y := by simpa [World.cell?, hb] using hy
    have e2 := (Array.getElem?_eq_some_iff.1 e).2
    rw [e2, hv.int_inv]
    simp
theorem num_Text_calls [TabP] {I w} (hI : ∀ c, I c → c < w.heap.size) (ht : TT I w) (p0 : Int) (h : I64 p0) :
    Calls Tryd.prog 25 #[.int .i64 p0] w fun e w' => e = .returned (.string (itoaB p0)) ∧ Below w.heap.size w w' := by
  go_enter Tryd.func25, Tryd.ntmps25
  go_wp2_with (go_at_call 33; refine (Tryd.strconv_FormatInt_10 p0 h.1 h.2 _ (tabIs ht)).mono ?_; rintro e w' ⟨rfl, k, os, rfl⟩)
  go_ret
  exact ⟨rfl, Lib.below_grow _ _ (Nat.le_refl _) _ _⟩
theorem num_Text_ok [TabP] {p0 : Int} {r : ByteArray} (hm : num_Text p0 = some r) : PureF Tryd.prog 25 [.int .i64 p0] (.str r) := by
  rw [num_Text] at hm
  split at hm
  · rename_i h
    obtain rfl := Option.some.inj hm
    intro I w vs hI ht hvs
    obtain ⟨a, rfl, ha⟩ := one_of hvs
    obtain rfl := ha.int_inv
    refine (num_Text_calls hI ht p0 h).mono ?_
    rintro e w' ⟨rfl, hbl⟩
    exact ⟨_, I, rfl, hbl, fun c h => h, fun c h => Nat.lt_of_lt_of_le (hI c h) hbl.size, fun c h => .inl h, .str _⟩
  · cases hm
end Go.Proofs.YtlolkehjlkmcbaaDoor
