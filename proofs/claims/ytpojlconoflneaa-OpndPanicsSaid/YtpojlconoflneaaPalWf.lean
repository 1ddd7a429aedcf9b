import Derived.Test.YtpojlconoflneaaPalNum
import Derived.Test.YtpojlconoflneaaPalT
set_option linter.unusedVariables false
namespace Go.Vs
def Wi (k : IntKind) (n : Int) : Prop := k.min ≤ n ∧ n ≤ k.max
theorem Wi.i64 {n : Int} (h : Wi .i64 n) : I64 n := h
end Go.Vs
