import Derived.Test.YtocjejladeeckaaDoorPalNum
import Derived.Test.YtocjejladeeckaaDoorPalT
set_option linter.unusedVariables false
namespace Go.Vs
def Wi (k : IntKind) (n : Int) : Prop := k.min ≤ n ∧ n ≤ k.max
theorem Wi.i64 {n : Int} (h : Wi .i64 n) : I64 n := h
structure W_palingbook_Act (x : T_palingbook_Act) : Prop where
  Kind : Wi .i64 x.Kind
  A : Wi .i64 x.A
  B : Wi .i64 x.B
  C : Wi .i64 x.C
  N : Wi .i64 x.N
structure W_api_Sym (x : T_api_Sym) : Prop where
  Name : x.Name.size ≤ maxLen
  Size : Wi .i64 x.Size
  Init : x.Init.length ≤ maxLen ∧ ∀ yxInit ∈ x.Init, Wi .i64 yxInit
structure W_api_Opd (x : T_api_Opd) : Prop where
  Kind : Wi .i64 x.Kind
  Reg : Wi .i64 x.Reg
  Sym : Wi .i64 x.Sym
  N : Wi .i64 x.N
structure W_api_Ins (x : T_api_Ins) : Prop where
  Op : Wi .i64 x.Op
  Lock : True
  Cond : Wi .i64 x.Cond
  A : W_api_Opd x.A
  B : W_api_Opd x.B
  To : x.To.size ≤ maxLen
  Labels : x.Labels.length ≤ maxLen ∧ ∀ yxLabels ∈ x.Labels, yxLabels.size ≤ maxLen
structure W_api_Thread (x : T_api_Thread) : Prop where
  Ins : x.Ins.length ≤ maxLen ∧ ∀ yxIns ∈ x.Ins, W_api_Ins yxIns
structure W_api_Prog (x : T_api_Prog) : Prop where
  Syms : x.Syms.length ≤ maxLen ∧ ∀ yxSyms ∈ x.Syms, W_api_Sym yxSyms
  Threads : x.Threads.length ≤ maxLen ∧ ∀ yxThreads ∈ x.Threads, W_api_Thread yxThreads
end Go.Vs
