import Derived.Test.YtocjejladeeckaaGreatDoorWN
import Derived.Test.YtocjejladeeckaaGreatDoorPP5
import Derived.Test.YtocjejladeeckaaGreatDoorVu4
set_option linter.all false
set_option maxRecDepth 100000
namespace Go.Proofs.YtocjejladeeckaaGreatDoor
open Go.Vs
theorem zpT [Tab] {x : List AV} (h : HasT Tryz.prog 12 9 x) : ∃ s : ByteArray, pk Tryz.prog 9 x = .str s /\ s.size <= maxLen := HasT.str_ (n := 11) Tryz.underlying9 h
theorem ziC [TabX] (x0 : List AV) (t0 : HasT Tryz.prog 12 9 x0) : zaL Tryz.prog 3 [pk Tryz.prog 9 x0] (.bool true) := by
 obtain ⟨s, e0, h0⟩ := zpT t0
 rw [e0]
 exact zfb (ziA s)
end Go.Proofs.YtocjejladeeckaaGreatDoor
