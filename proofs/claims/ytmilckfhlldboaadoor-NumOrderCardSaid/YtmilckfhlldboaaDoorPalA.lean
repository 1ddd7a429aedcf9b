import Derived.Test.YtmilckfhlldboaaDoorPalT
set_option linter.unusedVariables false
set_option linter.unusedSectionVars false
namespace Go.Vs
noncomputable def palingbook_Short (p0 : ByteArray) (p1 : Int) : Option (ByteArray) :=
if Bnd (if p1 < (p0.size : Int) then p1 else (p0.size : Int)) p0.size then ((some (p0.extract 0 ((if p1 < (p0.size : Int) then p1 else (p0.size : Int)).toNat))).bind fun s2 =>
  some s2) else none
noncomputable def state_row_int64_s1 (p0 : (List Int)) (p1 : (List Int)) : Int → Option ((Int) ⊕ ((Unit) ⊕ (Bool)))
  | i11 =>
  if decide (i11 < (p0.length : Int)) = true then (if InB i11 p0.length then (if InB i11 p1.length then (if ((rd p0 i11) != (rd p1 i11)) = true then (some (.inr (.inr false))) else (some (.inl (IntKind.wrap .i64 (i11 + 1))))) else none) else none) else (some (.inr (.inl ())))

noncomputable def state_row_int64 (p0 : (List Int)) (p1 : (List Int)) : Option (Bool) :=
if ((p0.length : Int) != (p1.length : Int)) = true then (some false) else ((loopO (state_row_int64_s1 p0 p1) 0).bind (onSum (fun er16 =>
    some true) (fun qr16 => some qr16)))
noncomputable def palingref1_Text_s1 : (Int × ByteArray) → Option ((Int × ByteArray) ⊕ (ByteArray))
  | (i12, s13) =>
  if (decide (i12 > 0) || decide (s13 = (⟨#[]⟩ : ByteArray))) = true then (if CatOk (bytesI ([(IntKind.wrap .u8 (IntKind.wrap .u64 (48 + (Int.tmod i12 10))))])) s13 then ((some ((bytesI ([(IntKind.wrap .u8 (IntKind.wrap .u64 (48 + (Int.tmod i12 10))))])) ++ s13)).bind fun s23 =>
        some (.inl ((IntKind.wrap .u64 (Int.tdiv i12 10)), s23))) else none) else (some (.inr s13))

noncomputable def palingref1_Text_j1 (p0 : Int) (i1 : Int) : Option (ByteArray) :=
  (loopO (palingref1_Text_s1) (i1, (⟨#[]⟩ : ByteArray))).bind fun r19 =>
    if decide (p0 < 0) = true then (if CatOk (⟨#[45]⟩ : ByteArray) r19 then (some ((⟨#[45]⟩ : ByteArray) ++ r19)) else none) else (some r19)

noncomputable def palingref1_Text (p0 : Int) : Option (ByteArray) :=
if decide (p0 < 0) = true then (palingref1_Text_j1 p0 (IntKind.wrap .u64 (0 - (IntKind.wrap .u64 p0)))) else (palingref1_Text_j1 p0 (IntKind.wrap .u64 p0))
noncomputable def palingbook_Pick (p0 : Int) (p1 : Int) : Option (Int) :=
if ¬ p1 = 0 then (if decide ((Int.tmod p0 p1) < 0) = true then (some (IntKind.wrap .i64 ((Int.tmod p0 p1) + p1))) else (some (Int.tmod p0 p1))) else none
end Go.Vs
