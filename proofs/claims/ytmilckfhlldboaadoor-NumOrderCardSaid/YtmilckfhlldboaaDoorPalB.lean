import Derived.Test.YtmilckfhlldboaaDoorPalT
import Derived.Test.YtmilckfhlldboaaDoorPalA
set_option linter.unusedVariables false
set_option linter.unusedSectionVars false
namespace Go.Vs
noncomputable def palingbook_GreatState_s1 (p0 : T_api_State) : Int → Option ((Int) ⊕ ((Unit) ⊕ (Bool)))
  | i13 =>
  if decide (i13 < (p0.Bufs.length : Int)) = true then (if InB i13 p0.Bufs.length then (if decide (((rd p0.Bufs i13).length : Int) > 12) = true then (some (.inr (.inr true))) else (some (.inl (IntKind.wrap .i64 (i13 + 1))))) else none) else (some (.inr (.inl ())))

noncomputable def palingbook_GreatState (p0 : T_api_State) : Option (Bool) :=
(some ((decide ((p0.Mem.length : Int) > 30) || decide ((p0.Thr.length : Int) > 8)) || decide ((p0.Bufs.length : Int) > 8))).bind fun b1 =>
  if b1 = true then (some true) else ((loopO (palingbook_GreatState_s1 p0) 0).bind (onSum (fun er17 =>
    some false) (fun qr17 => some qr17)))
noncomputable def state_row_api_Entry_s1 (p0 : (List T_api_Entry)) (p1 : (List T_api_Entry)) : Int → Option ((Int) ⊕ ((Unit) ⊕ (Bool)))
  | i11 =>
  if decide (i11 < (p0.length : Int)) = true then (if InB i11 p0.length then (if InB i11 p1.length then (if (!(((rd p0 i11).Addr == (rd p1 i11).Addr) && ((rd p0 i11).Val == (rd p1 i11).Val))) = true then (some (.inr (.inr false))) else (some (.inl (IntKind.wrap .i64 (i11 + 1))))) else none) else none) else (some (.inr (.inl ())))

noncomputable def state_row_api_Entry (p0 : (List T_api_Entry)) (p1 : (List T_api_Entry)) : Option (Bool) :=
if ((p0.length : Int) != (p1.length : Int)) = true then (some false) else ((loopO (state_row_api_Entry_s1 p0 p1) 0).bind (onSum (fun er16 =>
    some true) (fun qr16 => some qr16)))
noncomputable def palingref2_sameInts_s1 (p0 : (List Int)) (p1 : (List Int)) : Int → Option ((Int) ⊕ ((Unit) ⊕ (Bool)))
  | i11 =>
  if decide (i11 < (p0.length : Int)) = true then (if InB i11 p0.length then (if InB i11 p1.length then (if ((rd p0 i11) != (rd p1 i11)) = true then (some (.inr (.inr false))) else (some (.inl (IntKind.wrap .i64 (i11 + 1))))) else none) else none) else (some (.inr (.inl ())))

noncomputable def palingref2_sameInts (p0 : (List Int)) (p1 : (List Int)) : Option (Bool) :=
if ((p0.length : Int) != (p1.length : Int)) = true then (some false) else ((loopO (palingref2_sameInts_s1 p0 p1) 0).bind (onSum (fun er16 =>
    some true) (fun qr16 => some qr16)))
noncomputable def palingref2_SameEntries_s1 (p0 : (List T_api_Entry)) (p1 : (List T_api_Entry)) : Int → Option ((Int) ⊕ ((Unit) ⊕ (Bool)))
  | i11 =>
  if decide (i11 < (p0.length : Int)) = true then (if InB i11 p0.length then (if InB i11 p1.length then (if (!(((rd p0 i11).Addr == (rd p1 i11).Addr) && ((rd p0 i11).Val == (rd p1 i11).Val))) = true then (some (.inr (.inr false))) else (some (.inl (IntKind.wrap .i64 (i11 + 1))))) else none) else none) else (some (.inr (.inl ())))

noncomputable def palingref2_SameEntries (p0 : (List T_api_Entry)) (p1 : (List T_api_Entry)) : Option (Bool) :=
if ((p0.length : Int) != (p1.length : Int)) = true then (some false) else ((loopO (palingref2_SameEntries_s1 p0 p1) 0).bind (onSum (fun er16 =>
    some true) (fun qr16 => some qr16)))
noncomputable def palingref2_row_j1 (i20 : Int) (p0 : (List Int)) (s32 : ByteArray) : Option ((ByteArray × Int) ⊕ (ByteArray)) :=
  if InB i20 p0.length then ((palingref1_Text (rd p0 i20)).bind fun v34 =>
        if CatOk s32 v34 then (some (.inl ((s32 ++ v34), (IntKind.wrap .i64 (i20 + 1))))) else none) else none

noncomputable def palingref2_row_s1 (p0 : (List Int)) : (ByteArray × Int) → Option ((ByteArray × Int) ⊕ (ByteArray))
  | (s19, i20) =>
  if decide (i20 < (p0.length : Int)) = true then (if decide (i20 > 0) = true then (if CatOk s19 (⟨#[44]⟩ : ByteArray) then (palingref2_row_j1 i20 p0 (s19 ++ (⟨#[44]⟩ : ByteArray))) else none) else (palingref2_row_j1 i20 p0 s19)) else (some (.inr s19))

noncomputable def palingref2_row (p0 : (List Int)) : Option (ByteArray) :=
(loopO (palingref2_row_s1 p0) ((⟨#[]⟩ : ByteArray), 0)).bind fun r30 =>
  some r30
noncomputable def palingref2_bit (p0 : Bool) : Option (ByteArray) :=
if p0 = true then (some (⟨#[49]⟩ : ByteArray)) else (some (⟨#[48]⟩ : ByteArray))
noncomputable def palingref1_Read_s1 (s3 : ByteArray) : (Int × Int) → Option ((Int × Int) ⊕ ((Int) ⊕ (Int × Bool)))
  | (i28, i29) =>
  if decide (i29 < (s3.size : Int)) = true then (if InB i29 s3.size then (if ((!decide ((bt s3 i29) < 48)) = true → InB i29 s3.size) then (if (decide ((bt s3 i29) < 48) || decide ((bt s3 i29) > 57)) = true then (some (.inr (.inr (0, false)))) else (if InB i29 s3.size then ((some (IntKind.wrap .u64 ((IntKind.wrap .u64 (i28 * 10)) + (IntKind.wrap .u64 (IntKind.wrap .u8 ((bt s3 i29) - 48)))))).bind fun n45 =>
            some (.inl (n45, (IntKind.wrap .i64 (i29 + 1))))) else none)) else none) else none) else (some (.inr (.inl i28)))

noncomputable def palingref1_Read_j1 (p0 : ByteArray) (s3 : ByteArray) : Option (Int × Bool) :=
  if ((!(decide (s3 = (⟨#[]⟩ : ByteArray)) || decide ((s3.size : Int) > 19))) = true → InB 0 s3.size) then ((some ((decide (s3 = (⟨#[]⟩ : ByteArray)) || decide ((s3.size : Int) > 19)) || (((bt s3 0) == 48) && (decide ((s3.size : Int) > 1) || (decide ((p0.size : Int) > 0) && ((bt p0 0) == 45)))))).bind fun b5 =>
    if b5 = true then (some (0, false)) else ((loopO (palingref1_Read_s1 s3) (0, 0)).bind (onSum (fun er38 =>
      if (decide ((p0.size : Int) > 0) && ((bt p0 0) == 45)) = true then (if decide (er38 > 9223372036854775808) = true then (some (0, false)) else (some ((IntKind.wrap .i64 (IntKind.wrap .u64 (0 - er38))), true))) else (if decide (er38 ≥ 9223372036854775808) = true then (some (0, false)) else (some ((IntKind.wrap .i64 er38), true)))) (fun qr38 => some qr38)))) else none

noncomputable def palingref1_Read (p0 : ByteArray) : Option (Int × Bool) :=
if (decide ((p0.size : Int) > 0) = true → InB 0 p0.size) then (if (decide ((p0.size : Int) > 0) && ((bt p0 0) == 45)) = true then (if Bnd 1 p0.size then (palingref1_Read_j1 p0 (p0.extract (Int.toNat 1) p0.size)) else none) else (palingref1_Read_j1 p0 p0)) else none
end Go.Vs
