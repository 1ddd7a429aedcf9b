import Derived.Test.YtlolkehjlkmcbaaDoorPalT
set_option linter.unusedVariables false
set_option linter.unusedSectionVars false
namespace Go.Vs
noncomputable def palingbook_Pick (p0 : Int) (p1 : Int) : Option (Int) :=
if ¬ p1 = 0 then (if decide ((Int.tmod p0 p1) < 0) = true then (some (IntKind.wrap .i64 ((Int.tmod p0 p1) + p1))) else (some (Int.tmod p0 p1))) else none
noncomputable def palingref1_Text_s1 : (Int × ByteArray) → Option ((Int × ByteArray) ⊕ (ByteArray))
  | (i12, s13) =>
  if (decide (i12 > 0) || decide (s13 = (⟨#[]⟩ : ByteArray))) = true then (if CatOk (bytesI ([(IntKind.wrap .u8 (IntKind.wrap .u64 (48 + (Int.tmod i12 10))))])) s13 then ((some ((bytesI ([(IntKind.wrap .u8 (IntKind.wrap .u64 (48 + (Int.tmod i12 10))))])) ++ s13)).bind fun s22 =>
        some (.inl ((IntKind.wrap .u64 (Int.tdiv i12 10)), s22))) else none) else (some (.inr s13))

noncomputable def palingref1_Text_j1 (p0 : Int) (i1 : Int) : Option (ByteArray) :=
  (loopO (palingref1_Text_s1) (i1, (⟨#[]⟩ : ByteArray))).bind fun r19 =>
    if decide (p0 < 0) = true then (if CatOk (⟨#[45]⟩ : ByteArray) r19 then (some ((⟨#[45]⟩ : ByteArray) ++ r19)) else none) else (some r19)

noncomputable def palingref1_Text (p0 : Int) : Option (ByteArray) :=
if decide (p0 < 0) = true then (palingref1_Text_j1 p0 (IntKind.wrap .u64 (0 - (IntKind.wrap .u64 p0)))) else (palingref1_Text_j1 p0 (IntKind.wrap .u64 p0))
noncomputable def palingbook_GreatState_s1 (p0 : T_api_State) : Int → Option ((Int) ⊕ ((Unit) ⊕ (Bool)))
  | i11 =>
  if decide (i11 < (p0.Bufs.length : Int)) = true then (if InB i11 p0.Bufs.length then (if decide (((rd p0.Bufs i11).length : Int) > 12) = true then (some (.inr (.inr true))) else (some (.inl (IntKind.wrap .i64 (i11 + 1))))) else none) else (some (.inr (.inl ())))

noncomputable def palingbook_GreatState (p0 : T_api_State) : Option (Bool) :=
(some ((decide ((p0.Mem.length : Int) > 30) || decide ((p0.Thr.length : Int) > 8)) || decide ((p0.Bufs.length : Int) > 8))).bind fun b1 =>
  if b1 = true then (some true) else ((loopO (palingbook_GreatState_s1 p0) 0).bind (onSum (fun er15 =>
    some false) (fun qr15 => some qr15)))
noncomputable def palingref2_sameInts_s1 (p0 : (List Int)) (p1 : (List Int)) : Int → Option ((Int) ⊕ ((Unit) ⊕ (Bool)))
  | i11 =>
  if decide (i11 < (p0.length : Int)) = true then (if InB i11 p0.length then (if InB i11 p1.length then (if ((rd p0 i11) != (rd p1 i11)) = true then (some (.inr (.inr false))) else (some (.inl (IntKind.wrap .i64 (i11 + 1))))) else none) else none) else (some (.inr (.inl ())))

noncomputable def palingref2_sameInts (p0 : (List Int)) (p1 : (List Int)) : Option (Bool) :=
if ((p0.length : Int) != (p1.length : Int)) = true then (some false) else ((loopO (palingref2_sameInts_s1 p0 p1) 0).bind (onSum (fun er16 =>
    some true) (fun qr16 => some qr16)))
noncomputable def palingref2_SameEntries_s1 (p0 : (List T_api_Entry)) (p1 : (List T_api_Entry)) : Int → Option ((Int) ⊕ ((Unit) ⊕ (Bool)))
  | i11 =>
  if decide (i11 < (p0.length : Int)) = true then (if InB i11 p0.length then (if InB i11 p1.length then (if (!(((rd p0 i11).Addr == (rd p1 i11).Addr) && ((rd p0 i11).Val == (rd p1 i11).Val))) = true then (some (.inr (.inr false))) else (some (.inl (IntKind.wrap .i64 (i11 + 1))))) else none) else none) else (some (.inr (.inl ())))

noncomputable def palingref2_SameEntries (p0 : (List T_api_Entry)) (p1 : (List T_api_Entry)) : Option (Bool) :=
if ((p0.length : Int) != (p1.length : Int)) = true then (some false) else ((loopO (palingref2_SameEntries_s1 p0 p1) 0).bind (onSum (fun er16 =>
    some true) (fun qr16 => some qr16)))
noncomputable def palingref2_Same_s1 (p0 : T_api_State) (p1 : T_api_State) : Int → Option ((Int) ⊕ ((Unit) ⊕ (Bool)))
  | i19 =>
  if decide (i19 < (p0.Thr.length : Int)) = true then (if InB i19 p0.Thr.length then (if InB i19 p1.Thr.length then ((some (!(((rd p0.Thr i19).Regs.a0 == (rd p1.Thr i19).Regs.a0) && (((rd p0.Thr i19).Regs.a1 == (rd p1.Thr i19).Regs.a1) && (((rd p0.Thr i19).Regs.a2 == (rd p1.Thr i19).Regs.a2) && (((rd p0.Thr i19).Regs.a3 == (rd p1.Thr i19).Regs.a3) && (((rd p0.Thr i19).Regs.a4 == (rd p1.Thr i19).Regs.a4) && (((rd p0.Thr i19).Regs.a5 == (rd p1.Thr i19).Regs.a5) && (((rd p0.Thr i19).Regs.a6 == (rd p1.Thr i19).Regs.a6) && (((rd p0.Thr i19).Regs.a7 == (rd p1.Thr i19).Regs.a7) && (((rd p0.Thr i19).Flags.Z == (rd p1.Thr i19).Flags.Z) && (((rd p0.Thr i19).Flags.S == (rd p1.Thr i19).Flags.S) && (((rd p0.Thr i19).Flags.C == (rd p1.Thr i19).Flags.C) && (((rd p0.Thr i19).Flags.O == (rd p1.Thr i19).Flags.O) && (((rd p0.Thr i19).PC == (rd p1.Thr i19).PC) && (((rd p0.Thr i19).Phase == (rd p1.Thr i19).Phase) && (((rd p0.Thr i19).Latch == (rd p1.Thr i19).Latch) && ((rd p0.Thr i19).Status == (rd p1.Thr i19).Status)))))))))))))))))).bind fun b30 =>
        if b30 = true then (some (.inr (.inr false))) else (some (.inl (IntKind.wrap .i64 (i19 + 1))))) else none) else none) else (some (.inr (.inl ())))

noncomputable def palingref2_Same_s2 (p0 : T_api_State) (p1 : T_api_State) : Int → Option ((Int) ⊕ ((Unit) ⊕ (Bool)))
  | i46 =>
  if decide (i46 < (p0.Bufs.length : Int)) = true then (if InB i46 p0.Bufs.length then (if InB i46 p1.Bufs.length then ((palingref2_SameEntries (rd p0.Bufs i46) (rd p1.Bufs i46)).bind fun v57 =>
            if (!v57) = true then (some (.inr (.inr false))) else (some (.inl (IntKind.wrap .i64 (i46 + 1))))) else none) else none) else (some (.inr (.inl ())))

noncomputable def palingref2_Same (p0 : T_api_State) (p1 : T_api_State) : Option (Bool) :=
(palingref2_sameInts p0.Mem p1.Mem).bind fun v1 =>
  (some ((((!v1) || ((p0.Thr.length : Int) != (p1.Thr.length : Int))) || ((p0.Bufs.length : Int) != (p1.Bufs.length : Int))) || (p0.Lock != p1.Lock))).bind fun b3 =>
  if b3 = true then (some false) else ((loopO (palingref2_Same_s1 p0 p1) 0).bind (onSum (fun er26 =>
    (loopO (palingref2_Same_s2 p0 p1) 0).bind (onSum (fun er53 =>
        some true) (fun qr53 => some qr53))) (fun qr26 => some qr26)))
noncomputable def palingref2_Copy_s1 (p0 : T_api_State) : (Int × (List (List T_api_Entry))) → Option ((Int × (List (List T_api_Entry))) ⊕ ((List (List T_api_Entry))))
  | (i18, l19) =>
  if decide (i18 < (p0.Bufs.length : Int)) = true then (if InB i18 p0.Bufs.length then (if Fits ((rd p0.Bufs i18).length) then (if Fits (l19.length + 1) then ((some (l19 ++ ([(rd p0.Bufs i18)]))).bind fun l34 =>
      some (.inl ((IntKind.wrap .i64 (i18 + 1)), l34))) else none) else none) else none) else (some (.inr l19))

noncomputable def palingref2_Copy (p0 : T_api_State) : Option (T_api_State) :=
if Fits p0.Mem.length then (if Fits p0.Thr.length then ((loopO (palingref2_Copy_s1 p0) (0, [])).bind fun r29 =>
  some (T_api_State.mk p0.Mem p0.Thr r29 p0.Lock)) else none) else none
noncomputable def palingref2_Drained_s1 (p0 : T_api_State) : Int → Option ((Int) ⊕ ((Unit) ⊕ (Bool)))
  | i9 =>
  if decide (i9 < (p0.Bufs.length : Int)) = true then (if InB i9 p0.Bufs.length then (if decide (((rd p0.Bufs i9).length : Int) > 0) = true then (some (.inr (.inr false))) else (some (.inl (IntKind.wrap .i64 (i9 + 1))))) else none) else (some (.inr (.inl ())))

noncomputable def palingref2_Drained (p0 : T_api_State) : Option (Bool) :=
(loopO (palingref2_Drained_s1 p0) 0).bind (onSum (fun er13 =>
  some (p0.Lock == 0)) (fun qr13 => some qr13))
noncomputable def palingref2_row_j1 (i17 : Int) (p0 : (List Int)) (s29 : ByteArray) : Option ((ByteArray × Int) ⊕ (ByteArray)) :=
  if InB i17 p0.length then ((palingref1_Text (rd p0 i17)).bind fun v31 =>
        if CatOk s29 v31 then (some (.inl ((s29 ++ v31), (IntKind.wrap .i64 (i17 + 1))))) else none) else none

noncomputable def palingref2_row_s1 (p0 : (List Int)) : (ByteArray × Int) → Option ((ByteArray × Int) ⊕ (ByteArray))
  | (s16, i17) =>
  if decide (i17 < (p0.length : Int)) = true then (if decide (i17 > 0) = true then (if CatOk s16 (⟨#[44]⟩ : ByteArray) then (palingref2_row_j1 i17 p0 (s16 ++ (⟨#[44]⟩ : ByteArray))) else none) else (palingref2_row_j1 i17 p0 s16)) else (some (.inr s16))

noncomputable def palingref2_row (p0 : (List Int)) : Option (ByteArray) :=
(loopO (palingref2_row_s1 p0) ((⟨#[]⟩ : ByteArray), 0)).bind fun r27 =>
  some r27
noncomputable def palingref2_bit (p0 : Bool) : Option (ByteArray) :=
if p0 = true then (some (⟨#[49]⟩ : ByteArray)) else (some (⟨#[48]⟩ : ByteArray))
noncomputable def state_Drained_s1 (p0 : T_api_State) : Int → Option ((Int) ⊕ ((Unit) ⊕ (Bool)))
  | i9 =>
  if decide (i9 < (p0.Bufs.length : Int)) = true then (if InB i9 p0.Bufs.length then (if decide (((rd p0.Bufs i9).length : Int) > 0) = true then (some (.inr (.inr false))) else (some (.inl (IntKind.wrap .i64 (i9 + 1))))) else none) else (some (.inr (.inl ())))

noncomputable def state_Drained (p0 : T_api_State) : Option (Bool) :=
(loopO (state_Drained_s1 p0) 0).bind (onSum (fun er13 =>
  some (p0.Lock == 0)) (fun qr13 => some qr13))
noncomputable def state_flags_s1 (p0 : T_api_Flags) (l1 : List Bool) : (ByteArray × Int) → Option ((ByteArray × Int) ⊕ (ByteArray))
  | (s15, i17) =>
  if decide (i17 < (([p0.Z, p0.S, p0.C, p0.O]).length : Int)) = true then (if InB i17 l1.length then (if (rd l1 i17) = true then (if CatOk s15 (⟨#[49]⟩ : ByteArray) then (some (.inl ((s15 ++ (⟨#[49]⟩ : ByteArray)), (IntKind.wrap .i64 (i17 + 1))))) else none) else (if CatOk s15 (⟨#[48]⟩ : ByteArray) then (some (.inl ((s15 ++ (⟨#[48]⟩ : ByteArray)), (IntKind.wrap .i64 (i17 + 1))))) else none)) else none) else (some (.inr s15))

noncomputable def state_flags (p0 : T_api_Flags) : Option (ByteArray) :=
(some ([p0.Z, p0.S, p0.C, p0.O])).bind fun l1 =>
  (loopO (state_flags_s1 p0 l1) ((⟨#[]⟩ : ByteArray), 0)).bind fun r24 =>
  some r24
end Go.Vs
