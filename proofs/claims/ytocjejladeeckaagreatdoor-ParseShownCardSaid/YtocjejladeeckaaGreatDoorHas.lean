import Derived.Test.YtocjejladeeckaaGreatDoorVFacts
import Derived.Test.YtocjejladeeckaaGreatDoorPS1
import Derived.Test.YtocjejladeeckaaGreatDoorVu4
set_option linter.all false
set_option maxRecDepth 100000
namespace Go.Proofs.YtocjejladeeckaaGreatDoor
open Go.Vs
theorem has9{n:Nat}{xs:List AV}(h:HasT Tryz.prog (n+1) 9 xs):∃x:ByteArray,xs=eStr x/\x.size<=maxLen:=by
 simp only [HasT,Tryz.underlying9] at h
 obtain ⟨s,rfl,hw⟩:=h
 exact ⟨s,rfl,hw⟩
theorem pk9(x:ByteArray):pk Tryz.prog 9 (eStr x)=(eStr x).headD .undef:=by unfold pk; rw [if_neg (by intro h; revert h; simp [zbC,Tryz.underlying9])]
end Go.Proofs.YtocjejladeeckaaGreatDoor
