import Derived.Test.YtmilckfhlldboaaDoorVtX
set_option linter.unusedVariables false
set_option linter.unusedSectionVars false
namespace Go.Vs
variable [Tab]
@[go_sem] def eInt (k : IntKind) (n : Int) : List AV := [.int k n]
@[go_sem] def eBool (b : Bool) : List AV := [.bool b]
@[go_sem] def eStr (s : ByteArray) : List AV := [.str s]
@[go_sem] def eSl {α : Type} (f : α → List AV) (l : List α) : List AV := [.sl (l.map f)]
@[go_sem] theorem rows1_eInt {k : IntKind} (l : List Int) : rows1 1 (l.map (eInt k)) = true := rows1_map (k := 1) (f := (eInt k)) (fun _ => ⟨rfl, rfl⟩) l
@[go_sem] theorem below_eInt {k : IntKind} (n : Nat) (l : List Int) : (l.map (eInt k)).all (belowBs n) = true := by simp only [List.all_map, List.all_eq_true]; intro x _; rfl
@[go_sem] theorem len_eInt {k : IntKind} (l : List Int) : (l.map (eInt k)).all (·.length == 1) = true := by simp only [List.all_map, List.all_eq_true]; intro x _; rfl
@[go_sem] theorem pure_eInt {k : IntKind} (l : List Int) : (l.map (eInt k)).all pureBs = true := by simp only [List.all_map, List.all_eq_true]; intro x _; rfl
@[go_sem] theorem rows1_eBool (l : List Bool) : rows1 1 (l.map eBool) = true := rows1_map (k := 1) (f := eBool) (fun _ => ⟨rfl, rfl⟩) l
@[go_sem] theorem below_eBool (n : Nat) (l : List Bool) : (l.map eBool).all (belowBs n) = true := by simp only [List.all_map, List.all_eq_true]; intro x _; rfl
@[go_sem] theorem len_eBool (l : List Bool) : (l.map eBool).all (·.length == 1) = true := by simp only [List.all_map, List.all_eq_true]; intro x _; rfl
@[go_sem] theorem pure_eBool (l : List Bool) : (l.map eBool).all pureBs = true := by simp only [List.all_map, List.all_eq_true]; intro x _; rfl
@[go_sem] theorem rows1_eStr (l : List ByteArray) : rows1 1 (l.map eStr) = true := rows1_map (k := 1) (f := eStr) (fun _ => ⟨rfl, rfl⟩) l
@[go_sem] theorem below_eStr (n : Nat) (l : List ByteArray) : (l.map eStr).all (belowBs n) = true := by simp only [List.all_map, List.all_eq_true]; intro x _; rfl
@[go_sem] theorem len_eStr (l : List ByteArray) : (l.map eStr).all (·.length == 1) = true := by simp only [List.all_map, List.all_eq_true]; intro x _; rfl
@[go_sem] theorem pure_eStr (l : List ByteArray) : (l.map eStr).all pureBs = true := by simp only [List.all_map, List.all_eq_true]; intro x _; rfl
@[go_sem] theorem rows1_eSl {α : Type} {f : α → List AV} (l : List (List α)) : rows1 1 (l.map (eSl f)) = true := rows1_map (k := 1) (f := (eSl f)) (fun _ => ⟨rfl, rfl⟩) l
@[go_sem] theorem below_eSl {α : Type} {f : α → List AV} (n : Nat) (l : List (List α)) : (l.map (eSl f)).all (belowBs n) = true := by simp only [List.all_map, List.all_eq_true]; intro x _; rfl
@[go_sem] theorem len_eSl {α : Type} {f : α → List AV} (l : List (List α)) : (l.map (eSl f)).all (·.length == 1) = true := by simp only [List.all_map, List.all_eq_true]; intro x _; rfl
@[go_sem] theorem pure_eSl {α : Type} {f : α → List AV} (l : List (List α)) : (l.map (eSl f)).all pureBs = true := by simp only [List.all_map, List.all_eq_true]; intro x _; rfl
structure A0 (α : Type) where
  mk ::

  deriving Inhabited, DecidableEq
structure A8 (α : Type) where
  mk ::
  a0 : α
  a1 : α
  a2 : α
  a3 : α
  a4 : α
  a5 : α
  a6 : α
  a7 : α
  deriving Inhabited, DecidableEq
/-- Bytes as a text. -/
def bytesI (l : List Int) : ByteArray := ⟨(l.map fun n => UInt8.ofNat n.toNat).toArray⟩
@[go_sem] theorem rowsStr_map (l : List Int) : rowsStr (l.map (eInt .u8)) = some (bytesI l) := by
  have h : ∀ l : List Int, (l.map (eInt .u8)).mapM rowByte = some (l.map fun n => UInt8.ofNat n.toNat) := by
    intro l
    induction l with
    | nil => rfl
    | cons n l ih => simp only [List.map_cons, List.mapM_cons, ih]; rfl
  unfold rowsStr; rw [h]; rfl
@[go_sem] theorem rowsStr_one (n : Int) : rowsStr [[.int .u8 n]] = some (bytesI [n]) := rfl
def onSum {α β γ : Type} (f : α → Option γ) (g : β → Option γ) : α ⊕ β → Option γ | .inl a => f a | .inr b => g b
theorem of_inl {α β γ : Type} {f : α → Option γ} {g : β → Option γ} {a : α} {x : Option γ} (h : onSum f g (.inl a) = x) : f a = x := h
theorem of_inr {α β γ : Type} {f : α → Option γ} {g : β → Option γ} {b : β} {x : Option γ} (h : onSum f g (.inr b) = x) : g b = x := h
structure T_struct_x_int64_y_int_signed_bool_code_abi_BoundsErrorCode where
  mk ::
  x : Int
  y : Int
  signed : Bool
  code : Int
  deriving Inhabited, DecidableEq
@[go_sem] def e_struct_x_int64_y_int_signed_bool_code_abi_BoundsErrorCode (x : T_struct_x_int64_y_int_signed_bool_code_abi_BoundsErrorCode) : List AV := [.int .i64 x.x, .int .i64 x.y, .bool x.signed, .int .u8 x.code]
@[go_sem] theorem rows1e_struct_x_int64_y_int_signed_bool_code_abi_BoundsErrorCode (l : List T_struct_x_int64_y_int_signed_bool_code_abi_BoundsErrorCode) : rows1 4 (l.map e_struct_x_int64_y_int_signed_bool_code_abi_BoundsErrorCode) = true := rows1_map (k := 4) (f := e_struct_x_int64_y_int_signed_bool_code_abi_BoundsErrorCode) (fun _ => ⟨rfl, rfl⟩) l
@[go_sem] theorem puree_struct_x_int64_y_int_signed_bool_code_abi_BoundsErrorCode (l : List T_struct_x_int64_y_int_signed_bool_code_abi_BoundsErrorCode) : (l.map e_struct_x_int64_y_int_signed_bool_code_abi_BoundsErrorCode).all pureBs = true := by simp only [List.all_map, List.all_eq_true]; intro x _; rfl
@[go_sem] theorem belowe_struct_x_int64_y_int_signed_bool_code_abi_BoundsErrorCode (n : Nat) (l : List T_struct_x_int64_y_int_signed_bool_code_abi_BoundsErrorCode) : (l.map e_struct_x_int64_y_int_signed_bool_code_abi_BoundsErrorCode).all (belowBs n) = true := by simp only [List.all_map, List.all_eq_true]; intro x _; rfl
@[go_sem] theorem lene_struct_x_int64_y_int_signed_bool_code_abi_BoundsErrorCode (l : List T_struct_x_int64_y_int_signed_bool_code_abi_BoundsErrorCode) : (l.map e_struct_x_int64_y_int_signed_bool_code_abi_BoundsErrorCode).all (·.length == 4) = true := by simp only [List.all_map, List.all_eq_true]; intro x _; rfl
structure T_runtime_boundsError where
  mk ::
  x : Int
  y : Int
  signed : Bool
  code : Int
  deriving Inhabited, DecidableEq
@[go_sem] def e_runtime_boundsError (x : T_runtime_boundsError) : List AV := [.int .i64 x.x, .int .i64 x.y, .bool x.signed, .int .u8 x.code]
@[go_sem] theorem rows1e_runtime_boundsError (l : List T_runtime_boundsError) : rows1 4 (l.map e_runtime_boundsError) = true := rows1_map (k := 4) (f := e_runtime_boundsError) (fun _ => ⟨rfl, rfl⟩) l
@[go_sem] theorem puree_runtime_boundsError (l : List T_runtime_boundsError) : (l.map e_runtime_boundsError).all pureBs = true := by simp only [List.all_map, List.all_eq_true]; intro x _; rfl
@[go_sem] theorem belowe_runtime_boundsError (n : Nat) (l : List T_runtime_boundsError) : (l.map e_runtime_boundsError).all (belowBs n) = true := by simp only [List.all_map, List.all_eq_true]; intro x _; rfl
@[go_sem] theorem lene_runtime_boundsError (l : List T_runtime_boundsError) : (l.map e_runtime_boundsError).all (·.length == 4) = true := by simp only [List.all_map, List.all_eq_true]; intro x _; rfl
structure T_struct_msg_string_addr_uintptr where
  mk ::
  msg : ByteArray
  addr : Int
  deriving Inhabited, DecidableEq
@[go_sem] def e_struct_msg_string_addr_uintptr (x : T_struct_msg_string_addr_uintptr) : List AV := [.str x.msg, .int .u64 x.addr]
@[go_sem] theorem rows1e_struct_msg_string_addr_uintptr (l : List T_struct_msg_string_addr_uintptr) : rows1 2 (l.map e_struct_msg_string_addr_uintptr) = true := rows1_map (k := 2) (f := e_struct_msg_string_addr_uintptr) (fun _ => ⟨rfl, rfl⟩) l
@[go_sem] theorem puree_struct_msg_string_addr_uintptr (l : List T_struct_msg_string_addr_uintptr) : (l.map e_struct_msg_string_addr_uintptr).all pureBs = true := by simp only [List.all_map, List.all_eq_true]; intro x _; rfl
@[go_sem] theorem belowe_struct_msg_string_addr_uintptr (n : Nat) (l : List T_struct_msg_string_addr_uintptr) : (l.map e_struct_msg_string_addr_uintptr).all (belowBs n) = true := by simp only [List.all_map, List.all_eq_true]; intro x _; rfl
@[go_sem] theorem lene_struct_msg_string_addr_uintptr (l : List T_struct_msg_string_addr_uintptr) : (l.map e_struct_msg_string_addr_uintptr).all (·.length == 2) = true := by simp only [List.all_map, List.all_eq_true]; intro x _; rfl
structure T_runtime_errorAddressString where
  mk ::
  msg : ByteArray
  addr : Int
  deriving Inhabited, DecidableEq
@[go_sem] def e_runtime_errorAddressString (x : T_runtime_errorAddressString) : List AV := [.str x.msg, .int .u64 x.addr]
@[go_sem] theorem rows1e_runtime_errorAddressString (l : List T_runtime_errorAddressString) : rows1 2 (l.map e_runtime_errorAddressString) = true := rows1_map (k := 2) (f := e_runtime_errorAddressString) (fun _ => ⟨rfl, rfl⟩) l
@[go_sem] theorem puree_runtime_errorAddressString (l : List T_runtime_errorAddressString) : (l.map e_runtime_errorAddressString).all pureBs = true := by simp only [List.all_map, List.all_eq_true]; intro x _; rfl
@[go_sem] theorem belowe_runtime_errorAddressString (n : Nat) (l : List T_runtime_errorAddressString) : (l.map e_runtime_errorAddressString).all (belowBs n) = true := by simp only [List.all_map, List.all_eq_true]; intro x _; rfl
@[go_sem] theorem lene_runtime_errorAddressString (l : List T_runtime_errorAddressString) : (l.map e_runtime_errorAddressString).all (·.length == 2) = true := by simp only [List.all_map, List.all_eq_true]; intro x _; rfl
structure T_api_Flags where
  mk ::
  Z : Bool
  S : Bool
  C : Bool
  O : Bool
  deriving Inhabited, DecidableEq
@[go_sem] def e_api_Flags (x : T_api_Flags) : List AV := [.bool x.Z, .bool x.S, .bool x.C, .bool x.O]
@[go_sem] theorem rows1e_api_Flags (l : List T_api_Flags) : rows1 4 (l.map e_api_Flags) = true := rows1_map (k := 4) (f := e_api_Flags) (fun _ => ⟨rfl, rfl⟩) l
@[go_sem] theorem puree_api_Flags (l : List T_api_Flags) : (l.map e_api_Flags).all pureBs = true := by simp only [List.all_map, List.all_eq_true]; intro x _; rfl
@[go_sem] theorem belowe_api_Flags (n : Nat) (l : List T_api_Flags) : (l.map e_api_Flags).all (belowBs n) = true := by simp only [List.all_map, List.all_eq_true]; intro x _; rfl
@[go_sem] theorem lene_api_Flags (l : List T_api_Flags) : (l.map e_api_Flags).all (·.length == 4) = true := by simp only [List.all_map, List.all_eq_true]; intro x _; rfl
structure T_api_Thr where
  mk ::
  Regs : (A8 Int)
  Flags : T_api_Flags
  PC : Int
  Phase : Int
  Latch : Int
  Status : Int
  deriving Inhabited, DecidableEq
@[go_sem] def e_api_Thr (x : T_api_Thr) : List AV := [.int .i64 x.Regs.a0, .int .i64 x.Regs.a1, .int .i64 x.Regs.a2, .int .i64 x.Regs.a3, .int .i64 x.Regs.a4, .int .i64 x.Regs.a5, .int .i64 x.Regs.a6, .int .i64 x.Regs.a7, .bool x.Flags.Z, .bool x.Flags.S, .bool x.Flags.C, .bool x.Flags.O, .int .i64 x.PC, .int .i64 x.Phase, .int .i64 x.Latch, .int .i64 x.Status]
@[go_sem] theorem rows1e_api_Thr (l : List T_api_Thr) : rows1 16 (l.map e_api_Thr) = true := rows1_map (k := 16) (f := e_api_Thr) (fun _ => ⟨rfl, rfl⟩) l
@[go_sem] theorem puree_api_Thr (l : List T_api_Thr) : (l.map e_api_Thr).all pureBs = true := by simp only [List.all_map, List.all_eq_true]; intro x _; rfl
@[go_sem] theorem belowe_api_Thr (n : Nat) (l : List T_api_Thr) : (l.map e_api_Thr).all (belowBs n) = true := by simp only [List.all_map, List.all_eq_true]; intro x _; rfl
@[go_sem] theorem lene_api_Thr (l : List T_api_Thr) : (l.map e_api_Thr).all (·.length == 16) = true := by simp only [List.all_map, List.all_eq_true]; intro x _; rfl
structure T_api_Entry where
  mk ::
  Addr : Int
  Val : Int
  deriving Inhabited, DecidableEq
@[go_sem] def e_api_Entry (x : T_api_Entry) : List AV := [.int .i64 x.Addr, .int .i64 x.Val]
@[go_sem] theorem rows1e_api_Entry (l : List T_api_Entry) : rows1 2 (l.map e_api_Entry) = true := rows1_map (k := 2) (f := e_api_Entry) (fun _ => ⟨rfl, rfl⟩) l
@[go_sem] theorem puree_api_Entry (l : List T_api_Entry) : (l.map e_api_Entry).all pureBs = true := by simp only [List.all_map, List.all_eq_true]; intro x _; rfl
@[go_sem] theorem belowe_api_Entry (n : Nat) (l : List T_api_Entry) : (l.map e_api_Entry).all (belowBs n) = true := by simp only [List.all_map, List.all_eq_true]; intro x _; rfl
@[go_sem] theorem lene_api_Entry (l : List T_api_Entry) : (l.map e_api_Entry).all (·.length == 2) = true := by simp only [List.all_map, List.all_eq_true]; intro x _; rfl
structure T_struct_Mem_int64_Thr_api_Thr_Bufs_api_Entry_Lock_int where
  mk ::
  Mem : (List Int)
  Thr : (List T_api_Thr)
  Bufs : (List (List T_api_Entry))
  Lock : Int
  deriving Inhabited, DecidableEq
@[go_sem] def e_struct_Mem_int64_Thr_api_Thr_Bufs_api_Entry_Lock_int (x : T_struct_Mem_int64_Thr_api_Thr_Bufs_api_Entry_Lock_int) : List AV := [.sl (x.Mem.map (eInt .i64)), .sl (x.Thr.map e_api_Thr), .sl (x.Bufs.map (eSl e_api_Entry)), .int .i64 x.Lock]
@[go_sem] theorem rows1e_struct_Mem_int64_Thr_api_Thr_Bufs_api_Entry_Lock_int (l : List T_struct_Mem_int64_Thr_api_Thr_Bufs_api_Entry_Lock_int) : rows1 4 (l.map e_struct_Mem_int64_Thr_api_Thr_Bufs_api_Entry_Lock_int) = true := rows1_map (k := 4) (f := e_struct_Mem_int64_Thr_api_Thr_Bufs_api_Entry_Lock_int) (fun _ => ⟨rfl, rfl⟩) l
@[go_sem] theorem puree_struct_Mem_int64_Thr_api_Thr_Bufs_api_Entry_Lock_int (l : List T_struct_Mem_int64_Thr_api_Thr_Bufs_api_Entry_Lock_int) : (l.map e_struct_Mem_int64_Thr_api_Thr_Bufs_api_Entry_Lock_int).all pureBs = true := by simp only [List.all_map, List.all_eq_true]; intro x _; rfl
@[go_sem] theorem belowe_struct_Mem_int64_Thr_api_Thr_Bufs_api_Entry_Lock_int (n : Nat) (l : List T_struct_Mem_int64_Thr_api_Thr_Bufs_api_Entry_Lock_int) : (l.map e_struct_Mem_int64_Thr_api_Thr_Bufs_api_Entry_Lock_int).all (belowBs n) = true := by simp only [List.all_map, List.all_eq_true]; intro x _; rfl
@[go_sem] theorem lene_struct_Mem_int64_Thr_api_Thr_Bufs_api_Entry_Lock_int (l : List T_struct_Mem_int64_Thr_api_Thr_Bufs_api_Entry_Lock_int) : (l.map e_struct_Mem_int64_Thr_api_Thr_Bufs_api_Entry_Lock_int).all (·.length == 4) = true := by simp only [List.all_map, List.all_eq_true]; intro x _; rfl
structure T_api_State where
  mk ::
  Mem : (List Int)
  Thr : (List T_api_Thr)
  Bufs : (List (List T_api_Entry))
  Lock : Int
  deriving Inhabited, DecidableEq
@[go_sem] def e_api_State (x : T_api_State) : List AV := [.sl (x.Mem.map (eInt .i64)), .sl (x.Thr.map e_api_Thr), .sl (x.Bufs.map (eSl e_api_Entry)), .int .i64 x.Lock]
@[go_sem] theorem rows1e_api_State (l : List T_api_State) : rows1 4 (l.map e_api_State) = true := rows1_map (k := 4) (f := e_api_State) (fun _ => ⟨rfl, rfl⟩) l
@[go_sem] theorem puree_api_State (l : List T_api_State) : (l.map e_api_State).all pureBs = true := by simp only [List.all_map, List.all_eq_true]; intro x _; rfl
@[go_sem] theorem belowe_api_State (n : Nat) (l : List T_api_State) : (l.map e_api_State).all (belowBs n) = true := by simp only [List.all_map, List.all_eq_true]; intro x _; rfl
@[go_sem] theorem lene_api_State (l : List T_api_State) : (l.map e_api_State).all (·.length == 4) = true := by simp only [List.all_map, List.all_eq_true]; intro x _; rfl
structure T_struct_Z_bool_S_bool_C_bool_O_bool where
  mk ::
  Z : Bool
  S : Bool
  C : Bool
  O : Bool
  deriving Inhabited, DecidableEq
@[go_sem] def e_struct_Z_bool_S_bool_C_bool_O_bool (x : T_struct_Z_bool_S_bool_C_bool_O_bool) : List AV := [.bool x.Z, .bool x.S, .bool x.C, .bool x.O]
@[go_sem] theorem rows1e_struct_Z_bool_S_bool_C_bool_O_bool (l : List T_struct_Z_bool_S_bool_C_bool_O_bool) : rows1 4 (l.map e_struct_Z_bool_S_bool_C_bool_O_bool) = true := rows1_map (k := 4) (f := e_struct_Z_bool_S_bool_C_bool_O_bool) (fun _ => ⟨rfl, rfl⟩) l
@[go_sem] theorem puree_struct_Z_bool_S_bool_C_bool_O_bool (l : List T_struct_Z_bool_S_bool_C_bool_O_bool) : (l.map e_struct_Z_bool_S_bool_C_bool_O_bool).all pureBs = true := by simp only [List.all_map, List.all_eq_true]; intro x _; rfl
@[go_sem] theorem belowe_struct_Z_bool_S_bool_C_bool_O_bool (n : Nat) (l : List T_struct_Z_bool_S_bool_C_bool_O_bool) : (l.map e_struct_Z_bool_S_bool_C_bool_O_bool).all (belowBs n) = true := by simp only [List.all_map, List.all_eq_true]; intro x _; rfl
@[go_sem] theorem lene_struct_Z_bool_S_bool_C_bool_O_bool (l : List T_struct_Z_bool_S_bool_C_bool_O_bool) : (l.map e_struct_Z_bool_S_bool_C_bool_O_bool).all (·.length == 4) = true := by simp only [List.all_map, List.all_eq_true]; intro x _; rfl
structure T_struct_Regs_8_int64_Flags_api_Flags_PC_int_Phase_int_Latch_int64_Status_int where
  mk ::
  Regs : (A8 Int)
  Flags : T_api_Flags
  PC : Int
  Phase : Int
  Latch : Int
  Status : Int
  deriving Inhabited, DecidableEq
@[go_sem] def e_struct_Regs_8_int64_Flags_api_Flags_PC_int_Phase_int_Latch_int64_Status_int (x : T_struct_Regs_8_int64_Flags_api_Flags_PC_int_Phase_int_Latch_int64_Status_int) : List AV := [.int .i64 x.Regs.a0, .int .i64 x.Regs.a1, .int .i64 x.Regs.a2, .int .i64 x.Regs.a3, .int .i64 x.Regs.a4, .int .i64 x.Regs.a5, .int .i64 x.Regs.a6, .int .i64 x.Regs.a7, .bool x.Flags.Z, .bool x.Flags.S, .bool x.Flags.C, .bool x.Flags.O, .int .i64 x.PC, .int .i64 x.Phase, .int .i64 x.Latch, .int .i64 x.Status]
@[go_sem] theorem rows1e_struct_Regs_8_int64_Flags_api_Flags_PC_int_Phase_int_Latch_int64_Status_int (l : List T_struct_Regs_8_int64_Flags_api_Flags_PC_int_Phase_int_Latch_int64_Status_int) : rows1 16 (l.map e_struct_Regs_8_int64_Flags_api_Flags_PC_int_Phase_int_Latch_int64_Status_int) = true := rows1_map (k := 16) (f := e_struct_Regs_8_int64_Flags_api_Flags_PC_int_Phase_int_Latch_int64_Status_int) (fun _ => ⟨rfl, rfl⟩) l
@[go_sem] theorem puree_struct_Regs_8_int64_Flags_api_Flags_PC_int_Phase_int_Latch_int64_Status_int (l : List T_struct_Regs_8_int64_Flags_api_Flags_PC_int_Phase_int_Latch_int64_Status_int) : (l.map e_struct_Regs_8_int64_Flags_api_Flags_PC_int_Phase_int_Latch_int64_Status_int).all pureBs = true := by simp only [List.all_map, List.all_eq_true]; intro x _; rfl
@[go_sem] theorem belowe_struct_Regs_8_int64_Flags_api_Flags_PC_int_Phase_int_Latch_int64_Status_int (n : Nat) (l : List T_struct_Regs_8_int64_Flags_api_Flags_PC_int_Phase_int_Latch_int64_Status_int) : (l.map e_struct_Regs_8_int64_Flags_api_Flags_PC_int_Phase_int_Latch_int64_Status_int).all (belowBs n) = true := by simp only [List.all_map, List.all_eq_true]; intro x _; rfl
@[go_sem] theorem lene_struct_Regs_8_int64_Flags_api_Flags_PC_int_Phase_int_Latch_int64_Status_int (l : List T_struct_Regs_8_int64_Flags_api_Flags_PC_int_Phase_int_Latch_int64_Status_int) : (l.map e_struct_Regs_8_int64_Flags_api_Flags_PC_int_Phase_int_Latch_int64_Status_int).all (·.length == 16) = true := by simp only [List.all_map, List.all_eq_true]; intro x _; rfl
structure T_struct_Addr_int_Val_int64 where
  mk ::
  Addr : Int
  Val : Int
  deriving Inhabited, DecidableEq
@[go_sem] def e_struct_Addr_int_Val_int64 (x : T_struct_Addr_int_Val_int64) : List AV := [.int .i64 x.Addr, .int .i64 x.Val]
@[go_sem] theorem rows1e_struct_Addr_int_Val_int64 (l : List T_struct_Addr_int_Val_int64) : rows1 2 (l.map e_struct_Addr_int_Val_int64) = true := rows1_map (k := 2) (f := e_struct_Addr_int_Val_int64) (fun _ => ⟨rfl, rfl⟩) l
@[go_sem] theorem puree_struct_Addr_int_Val_int64 (l : List T_struct_Addr_int_Val_int64) : (l.map e_struct_Addr_int_Val_int64).all pureBs = true := by simp only [List.all_map, List.all_eq_true]; intro x _; rfl
@[go_sem] theorem belowe_struct_Addr_int_Val_int64 (n : Nat) (l : List T_struct_Addr_int_Val_int64) : (l.map e_struct_Addr_int_Val_int64).all (belowBs n) = true := by simp only [List.all_map, List.all_eq_true]; intro x _; rfl
@[go_sem] theorem lene_struct_Addr_int_Val_int64 (l : List T_struct_Addr_int_Val_int64) : (l.map e_struct_Addr_int_Val_int64).all (·.length == 2) = true := by simp only [List.all_map, List.all_eq_true]; intro x _; rfl
structure T_struct_s_string where
  mk ::
  s : ByteArray
  deriving Inhabited, DecidableEq
@[go_sem] def e_struct_s_string (x : T_struct_s_string) : List AV := [.str x.s]
@[go_sem] theorem rows1e_struct_s_string (l : List T_struct_s_string) : rows1 1 (l.map e_struct_s_string) = true := rows1_map (k := 1) (f := e_struct_s_string) (fun _ => ⟨rfl, rfl⟩) l
@[go_sem] theorem puree_struct_s_string (l : List T_struct_s_string) : (l.map e_struct_s_string).all pureBs = true := by simp only [List.all_map, List.all_eq_true]; intro x _; rfl
@[go_sem] theorem belowe_struct_s_string (n : Nat) (l : List T_struct_s_string) : (l.map e_struct_s_string).all (belowBs n) = true := by simp only [List.all_map, List.all_eq_true]; intro x _; rfl
@[go_sem] theorem lene_struct_s_string (l : List T_struct_s_string) : (l.map e_struct_s_string).all (·.length == 1) = true := by simp only [List.all_map, List.all_eq_true]; intro x _; rfl
structure T_errors_errorString where
  mk ::
  s : ByteArray
  deriving Inhabited, DecidableEq
@[go_sem] def e_errors_errorString (x : T_errors_errorString) : List AV := [.str x.s]
@[go_sem] theorem rows1e_errors_errorString (l : List T_errors_errorString) : rows1 1 (l.map e_errors_errorString) = true := rows1_map (k := 1) (f := e_errors_errorString) (fun _ => ⟨rfl, rfl⟩) l
@[go_sem] theorem puree_errors_errorString (l : List T_errors_errorString) : (l.map e_errors_errorString).all pureBs = true := by simp only [List.all_map, List.all_eq_true]; intro x _; rfl
@[go_sem] theorem belowe_errors_errorString (n : Nat) (l : List T_errors_errorString) : (l.map e_errors_errorString).all (belowBs n) = true := by simp only [List.all_map, List.all_eq_true]; intro x _; rfl
@[go_sem] theorem lene_errors_errorString (l : List T_errors_errorString) : (l.map e_errors_errorString).all (·.length == 1) = true := by simp only [List.all_map, List.all_eq_true]; intro x _; rfl
end Go.Vs
