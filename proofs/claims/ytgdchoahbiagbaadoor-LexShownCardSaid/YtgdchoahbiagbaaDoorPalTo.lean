import Derived.Test.YtgdchoahbiagbaaDoorPalT
/-! Types of functions that this seat does not reach. -/
set_option linter.unusedVariables false
namespace Go.Vs
structure T_parse_body where
  mk ::
  head:T_api_Token
  labels:(List (ByteArray × Bool))
  open_:(List ByteArray)
  firsts:(List T_api_Token)
  target:(List T_api_Token)
  deriving Inhabited,DecidableEq
structure T_parse_reader where
  mk ::
  l:(List T_api_Token)
  at_:Int
  p:T_api_Prog
  b:(List T_parse_body)
  f:T_api_Fault
  deriving Inhabited,DecidableEq
structure T_struct_T_api_Token_I_int_P_api_Prog_Heads_api_Token_First_api_Token_To_api_Token_Left_int_All_string_Wait_string_Bad_api_Fault where
  mk ::
  T:(List T_api_Token)
  I:Int
  P:T_api_Prog
  Heads:(List T_api_Token)
  First:(List (List T_api_Token))
  To:(List (List T_api_Token))
  Left:(List Int)
  All:(List ByteArray)
  Wait:(List ByteArray)
  Bad:T_api_Fault
  deriving Inhabited,DecidableEq
structure T_palingref1_reader where
  mk ::
  T:(List T_api_Token)
  I:Int
  P:T_api_Prog
  Heads:(List T_api_Token)
  First:(List (List T_api_Token))
  To:(List (List T_api_Token))
  Left:(List Int)
  All:(List ByteArray)
  Wait:(List ByteArray)
  Bad:T_api_Fault
  deriving Inhabited,DecidableEq
structure T_struct_Reg_int where
  mk ::
  Reg:Int
  deriving Inhabited,DecidableEq
structure T_opnd_RegPart where
  mk ::
  Reg:Int
  deriving Inhabited,DecidableEq
structure T_struct_N_int64 where
  mk ::
  N:Int
  deriving Inhabited,DecidableEq
structure T_opnd_NumPart where
  mk ::
  N:Int
  deriving Inhabited,DecidableEq
structure T_struct_Sym_int_N_int64 where
  mk ::
  Sym:Int
  N:Int
  deriving Inhabited,DecidableEq
structure T_opnd_AtPart where
  mk ::
  Sym:Int
  N:Int
  deriving Inhabited,DecidableEq
structure T_struct_Sym_int_Reg_int where
  mk ::
  Sym:Int
  Reg:Int
  deriving Inhabited,DecidableEq
structure T_opnd_ByPart where
  mk ::
  Sym:Int
  Reg:Int
  deriving Inhabited,DecidableEq
inductive I_opnd_Part where
  | nil
  | RegPart (x:T_opnd_RegPart)
  | NumPart (x:T_opnd_NumPart)
  | AtPart (x:T_opnd_AtPart)
  | ByPart (x:T_opnd_ByPart)
  deriving Inhabited,DecidableEq
end Go.Vs
