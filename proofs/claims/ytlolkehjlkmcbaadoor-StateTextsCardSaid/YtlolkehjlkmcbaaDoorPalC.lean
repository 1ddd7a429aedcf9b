import Derived.Test.YtlolkehjlkmcbaaDoorPalT
import Derived.Test.YtlolkehjlkmcbaaDoorPalA
import Derived.Test.YtlolkehjlkmcbaaDoorPalB
import Derived.Test.YtlolkehjlkmcbaaDoorPalNum
import Derived.Test.YtlolkehjlkmcbaaDoorPalNumb
set_option linter.unusedVariables false
set_option linter.unusedSectionVars false
namespace Go.Vs
noncomputable def state_row_int64_s1 (p0 : (List Int)) (p1 : (List Int)) : Int → Option ((Int) ⊕ ((Unit) ⊕ (Bool)))
  | i11 =>
  if decide (i11 < (p0.length : Int)) = true then (if InB i11 p0.length then (if InB i11 p1.length then (if ((rd p0 i11) != (rd p1 i11)) = true then (some (.inr (.inr false))) else (some (.inl (IntKind.wrap .i64 (i11 + 1))))) else none) else none) else (some (.inr (.inl ())))

noncomputable def state_row_int64 (p0 : (List Int)) (p1 : (List Int)) : Option (Bool) :=
if ((p0.length : Int) != (p1.length : Int)) = true then (some false) else ((loopO (state_row_int64_s1 p0 p1) 0).bind (onSum (fun er16 =>
    some true) (fun qr16 => some qr16)))
noncomputable def state_row_api_Thr_s1 (p0 : (List T_api_Thr)) (p1 : (List T_api_Thr)) : Int → Option ((Int) ⊕ ((Unit) ⊕ (Bool)))
  | i17 =>
  if decide (i17 < (p0.length : Int)) = true then (if InB i17 p0.length then (if InB i17 p1.length then ((some (!(((rd p0 i17).Regs.a0 == (rd p1 i17).Regs.a0) && (((rd p0 i17).Regs.a1 == (rd p1 i17).Regs.a1) && (((rd p0 i17).Regs.a2 == (rd p1 i17).Regs.a2) && (((rd p0 i17).Regs.a3 == (rd p1 i17).Regs.a3) && (((rd p0 i17).Regs.a4 == (rd p1 i17).Regs.a4) && (((rd p0 i17).Regs.a5 == (rd p1 i17).Regs.a5) && (((rd p0 i17).Regs.a6 == (rd p1 i17).Regs.a6) && (((rd p0 i17).Regs.a7 == (rd p1 i17).Regs.a7) && (((rd p0 i17).Flags.Z == (rd p1 i17).Flags.Z) && (((rd p0 i17).Flags.S == (rd p1 i17).Flags.S) && (((rd p0 i17).Flags.C == (rd p1 i17).Flags.C) && (((rd p0 i17).Flags.O == (rd p1 i17).Flags.O) && (((rd p0 i17).PC == (rd p1 i17).PC) && (((rd p0 i17).Phase == (rd p1 i17).Phase) && (((rd p0 i17).Latch == (rd p1 i17).Latch) && ((rd p0 i17).Status == (rd p1 i17).Status)))))))))))))))))).bind fun b28 =>
        if b28 = true then (some (.inr (.inr false))) else (some (.inl (IntKind.wrap .i64 (i17 + 1))))) else none) else none) else (some (.inr (.inl ())))

noncomputable def state_row_api_Thr (p0 : (List T_api_Thr)) (p1 : (List T_api_Thr)) : Option (Bool) :=
if ((p0.length : Int) != (p1.length : Int)) = true then (some false) else ((loopO (state_row_api_Thr_s1 p0 p1) 0).bind (onSum (fun er24 =>
    some true) (fun qr24 => some qr24)))
noncomputable def state_row_api_Entry_s1 (p0 : (List T_api_Entry)) (p1 : (List T_api_Entry)) : Int → Option ((Int) ⊕ ((Unit) ⊕ (Bool)))
  | i11 =>
  if decide (i11 < (p0.length : Int)) = true then (if InB i11 p0.length then (if InB i11 p1.length then (if (!(((rd p0 i11).Addr == (rd p1 i11).Addr) && ((rd p0 i11).Val == (rd p1 i11).Val))) = true then (some (.inr (.inr false))) else (some (.inl (IntKind.wrap .i64 (i11 + 1))))) else none) else none) else (some (.inr (.inl ())))

noncomputable def state_row_api_Entry (p0 : (List T_api_Entry)) (p1 : (List T_api_Entry)) : Option (Bool) :=
if ((p0.length : Int) != (p1.length : Int)) = true then (some false) else ((loopO (state_row_api_Entry_s1 p0 p1) 0).bind (onSum (fun er16 =>
    some true) (fun qr16 => some qr16)))
noncomputable def state_Same_s1 (p0 : T_api_State) (p1 : T_api_State) : Int → Option ((Int) ⊕ ((Unit) ⊕ (Bool)))
  | i21 =>
  if decide (i21 < (p0.Bufs.length : Int)) = true then (if InB i21 p0.Bufs.length then (if InB i21 p1.Bufs.length then ((state_row_api_Entry (rd p0.Bufs i21) (rd p1.Bufs i21)).bind fun v32 =>
        if (!v32) = true then (some (.inr (.inr false))) else (some (.inl (IntKind.wrap .i64 (i21 + 1))))) else none) else none) else (some (.inr (.inl ())))

noncomputable def state_Same (p0 : T_api_State) (p1 : T_api_State) : Option (Bool) :=
(state_row_int64 p0.Mem p1.Mem).bind fun v1 =>
  (if (!(!v1)) = true then state_row_api_Thr p0.Thr p1.Thr else some default).bind fun v3 =>
  (some ((((!v1) || (!v3)) || ((p0.Bufs.length : Int) != (p1.Bufs.length : Int))) || (p0.Lock != p1.Lock))).bind fun b5 =>
  if b5 = true then (some false) else ((loopO (state_Same_s1 p0 p1) 0).bind (onSum (fun er28 =>
    some true) (fun qr28 => some qr28)))
end Go.Vs
