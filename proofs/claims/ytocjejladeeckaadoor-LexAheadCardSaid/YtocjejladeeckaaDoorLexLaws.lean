import Derived.Test.YtocjejladeeckaaDoorWD
import Derived.Test.YtocjejladeeckaaDoorPalLex4
import Derived.Test.YtocjejladeeckaaDoorVtR
/-! The laws of tokens, as walks. -/
set_option linter.unusedVariables false
set_option linter.unusedSimpArgs false
set_option linter.unusedSectionVars false
set_option maxRecDepth 100000
namespace Go.Proofs.YtocjejladeeckaaDoor
open Go.Vs
theorem str_of [Tab] {x : List AV} (h : HasT Tryd.prog 12 9 x) : ∃ s : ByteArray, pk Tryd.prog 9 x = .str s ∧ s.size ≤ maxLen := HasT.str_ (n := 11) Tryd.underlying9 h
theorem lexTells_law [TabU] (x0 : List AV) (t0 : HasT Tryd.prog 12 9 x0) : PureF Tryd.prog 3 [pk Tryd.prog 9 x0] (.bool true) := by
  obtain ⟨s, e0, h0⟩ := str_of t0
  rw [e0]
  exact palinglaw5_LexTells_ok (LexTells_true s)
end Go.Proofs.YtocjejladeeckaaDoor
