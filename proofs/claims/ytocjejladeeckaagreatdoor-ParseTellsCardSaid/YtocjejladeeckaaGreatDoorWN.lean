import Derived.Test.YtocjejladeeckaaGreatDoorVFacts
import Derived.Test.YtocjejladeeckaaGreatDoorPalN
import Derived.Test.YtocjejladeeckaaGreatDoorWJ
import Derived.Test.YtocjejladeeckaaGreatDoorWK
import Derived.Test.YtocjejladeeckaaGreatDoorWM
import Derived.Test.YtocjejladeeckaaGreatDoorWA
set_option linter.all false
set_option maxRecDepth 100000
set_option maxHeartbeats 4000000
namespace Go.Proofs.YtocjejladeeckaaGreatDoor
open Go.Vs
variable [TabX]
theorem zgn {r : Bool} (hm : zc3  = some r) : zaL Tryz.prog 11 [] (.bool r) := by
 rw [zc3] at hm
 refine zaL.of Tryz.func11 rfl Tryz.ntmps11 (Nat.le_of_ble_eq_true rfl) ?_
 have e0 : argS 0 [] = [] := rfl
 rw [e0]
 refine W.sq [] [] [] ?_
 replace ⟨v1, h2, hm⟩ := zam hm
 have kh2 := ze7 h2
 refine W.sq [] [(1, .ptr 0 0 0), (2, .ptr 1 0 0)] [.cells (zaG v1.1) 0 30, .cells (zaH v1.2) 0 37] ?_
 replace ⟨v3, h4, hm⟩ := zam hm
 have kh4 := ze7 h4
 refine W.sq [] [(1, .ptr 0 0 0), (2, .ptr 1 0 0), (4, .ptr 3 0 0)] [.cells (zaG v1.1) 0 30, .cells (zaH v1.2) 0 37, .dead, .cells (zaH v3.2) 0 37] ?_
 replace ⟨h5, hm⟩ := zav hm
 replace ⟨b6, h7, hm⟩ := zaN hm
 refine W.sq [] [(0, .bool b6)] [] ?_
 clear h7
 obtain rfl := zo hm
 exact W.ret (zaI.retW [] RO)
theorem zgm {p0 : ByteArray} {r : Bool} (hm : zc2 p0 = some r) : zaL Tryz.prog 10 [.str p0] (.bool r) := by
 rw [zc2] at hm
 refine zaL.of Tryz.func10 rfl Tryz.ntmps10 (Nat.le_of_ble_eq_true rfl) ?_
 have e0 : argS 0 [.str p0] = [(0, .str p0)] := rfl
 rw [e0]
 refine W.sq [] [(0, .str p0)] [] ?_
 replace ⟨v1, h2, hm⟩ := zam hm
 have kh2 := ze7 h2
 refine W.sq [] [(0, .str p0), (3, .ptr 0 0 0), (4, .ptr 1 0 0)] [.cells (zaG v1.1) 0 30, .cells (zaH v1.2) 0 37] ?_
 replace ⟨v3, h4, hm⟩ := zam hm
 have kh4 := zgz h4
 refine W.sq [] [(3, .ptr 0 0 0), (4, .ptr 1 0 0), (5, .ptr 2 0 0), (6, .ptr 3 0 0)] [.cells (zaG v1.1) 0 30, .cells (zaH v1.2) 0 37, .cells (zaG v3.1) 0 30, .cells (zaH v3.2) 0 37] ?_
 replace ⟨v5, h6, hm⟩ := zam hm
 have kh6 := fun hg => zfR (zal hg h6)
 refine W.sq [] [(2, .bool (((v1.2.Code == v3.2.Code) && ((v1.2.Line == v3.2.Line) && (v1.2.Col == v3.2.Col))) && v5))] [] ?_
 obtain rfl := zo hm
 exact W.ret (zaI.retW [] RO)
theorem zfb {p0 : ByteArray} {r : Bool} (hm : zcG p0 = some r) : zaL Tryz.prog 3 [.str p0] (.bool r) := by
 rw [zcG] at hm
 refine zaL.of Tryz.func3 rfl Tryz.ntmps3 (Nat.le_of_ble_eq_true rfl) ?_
 have e0 : argS 0 [.str p0] = [(0, .str p0)] := rfl
 rw [e0]
 refine W.sq [] [(0, .str p0)] [] ?_
 replace ⟨v1, h2, hm⟩ := zam hm
 have kh2 := zgB h2
 refine W.sqh [] [(0, .str v1)] ?_
 replace ⟨v3, h4, hm⟩ := zam hm
 replace ⟨v5, h6, hm⟩ := zam hm
 have kh4 := zgm h4
 have kh6 := fun hg => zgn (zal hg h6)
 refine W.sqh [] [(2, .bool (v3 && v5))] ?_
 obtain rfl := zo hm
 exact W.ret (zaI.retW [] RO)
end Go.Proofs.YtocjejladeeckaaGreatDoor
