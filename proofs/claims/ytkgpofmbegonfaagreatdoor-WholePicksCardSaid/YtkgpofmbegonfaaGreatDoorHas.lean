import Derived.Test.YtkgpofmbegonfaaGreatDoorVFacts
import Derived.Test.YtkgpofmbegonfaaGreatDoorPS0
import Derived.Test.YtkgpofmbegonfaaGreatDoorVu4
set_option linter.all false
set_option maxRecDepth 100000
namespace Go.Proofs.YtkgpofmbegonfaaGreatDoor
open Go.Vs
theorem has9{n:Nat}{xs:List AV}(h:HasT Tryz.prog (n+1) 9 xs):∃x:ByteArray,xs=eStr x/\x.size<=maxLen:=by
 simp only [HasT,Tryz.underlying9] at h
 obtain ⟨s,rfl,hw⟩:=h
 exact ⟨s,rfl,hw⟩
theorem pk9(x:ByteArray):pk Tryz.prog 9 (eStr x)=(eStr x).headD .undef:=by unfold pk; rw [if_neg (by intro h; revert h; simp [za5,Tryz.underlying9])]
end Go.Proofs.YtkgpofmbegonfaaGreatDoor
