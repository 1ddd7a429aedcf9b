import Derived.Test.YtlolkehjlkmcbaaDoorPalNum
import Derived.Test.YtlolkehjlkmcbaaDoorPalT
set_option linter.unusedVariables false
namespace Go.Vs
def Wi (k : IntKind) (n : Int) : Prop := k.min ≤ n ∧ n ≤ k.max
theorem Wi.i64 {n : Int} (h : Wi .i64 n) : I64 n := h
structure W_api_Flags (x : T_api_Flags) : Prop where
  Z : True
  S : True
  C : True
  O : True
structure W_api_Thr (x : T_api_Thr) : Prop where
  Regs : Wi .i64 x.Regs.a0 ∧ Wi .i64 x.Regs.a1 ∧ Wi .i64 x.Regs.a2 ∧ Wi .i64 x.Regs.a3 ∧ Wi .i64 x.Regs.a4 ∧ Wi .i64 x.Regs.a5 ∧ Wi .i64 x.Regs.a6 ∧ Wi .i64 x.Regs.a7
  Flags : W_api_Flags x.Flags
  PC : Wi .i64 x.PC
  Phase : Wi .i64 x.Phase
  Latch : Wi .i64 x.Latch
  Status : Wi .i64 x.Status
structure W_api_Entry (x : T_api_Entry) : Prop where
  Addr : Wi .i64 x.Addr
  Val : Wi .i64 x.Val
structure W_api_State (x : T_api_State) : Prop where
  Mem : x.Mem.length ≤ maxLen ∧ ∀ yxMem ∈ x.Mem, Wi .i64 yxMem
  Thr : x.Thr.length ≤ maxLen ∧ ∀ yxThr ∈ x.Thr, W_api_Thr yxThr
  Bufs : x.Bufs.length ≤ maxLen ∧ ∀ yxBufs ∈ x.Bufs, yxBufs.length ≤ maxLen ∧ ∀ yyxBufs ∈ yxBufs, W_api_Entry yyxBufs
  Lock : Wi .i64 x.Lock
end Go.Vs
