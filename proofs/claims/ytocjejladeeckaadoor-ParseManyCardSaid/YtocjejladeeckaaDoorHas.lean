import Derived.Test.YtocjejladeeckaaDoorVFacts
import Derived.Test.YtocjejladeeckaaDoorPS1
import Derived.Test.YtocjejladeeckaaDoorVu4
set_option linter.all false
set_option maxRecDepth 100000
namespace Go.Proofs.YtocjejladeeckaaDoor
open Go.Vs
theorem has3{n:Nat}{xs:List AV}(h:HasT Tryd.prog (n+1) 3 xs):∃x:Int,xs=eInt .i64 x/\Wi .i64 x:=by
 simp only [HasT,Tryd.underlying3] at h
 obtain ⟨i,rfl,hw⟩:=h
 simp only [Lit.wf,Bool.and_eq_true,decide_eq_true_eq] at hw
 exact ⟨i,rfl,hw⟩
theorem pk3(x:Int):pk Tryd.prog 3 (eInt .i64 x)=(eInt .i64 x).headD .undef:=by unfold pk; rw [if_neg (by intro h; revert h; simp [zaJ,Tryd.underlying3])]
end Go.Proofs.YtocjejladeeckaaDoor
