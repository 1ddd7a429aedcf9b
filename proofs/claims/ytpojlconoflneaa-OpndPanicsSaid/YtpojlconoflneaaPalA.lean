import Derived.Test.YtpojlconoflneaaPalT
set_option linter.unusedVariables false
set_option linter.unusedSectionVars false
namespace Go.Vs
noncomputable def palingbook_Pick (p0 : Int) (p1 : Int) : Option (Int) :=
if ¬ p1 = 0 then (if decide ((Int.tmod p0 p1) < 0) = true then (some (IntKind.wrap .i64 ((Int.tmod p0 p1) + p1))) else (some (Int.tmod p0 p1))) else none
noncomputable def opnd_register (p0 : Int) : Option (Bool) :=
some (decide (p0 ≥ 0) && decide (p0 ≤ 7))
noncomputable def opnd_Right (p0 : T_api_Opd) : Option (Bool) :=
if (p0.Kind == 1) = true then ((opnd_register p0.Reg).bind fun v2 =>
    some ((v2 && (p0.Sym == 0)) && (p0.N == 0))) else (if (p0.Kind == 2) = true then (some ((p0.Reg == 0) && (p0.Sym == 0))) else (if (p0.Kind == 3) = true then (some ((decide (p0.Sym ≥ 0) && decide (p0.N ≥ 0)) && (p0.Reg == 0))) else (if (p0.Kind == 4) = true then ((if decide (p0.Sym ≥ 0) = true then opnd_register p0.Reg else some default).bind fun v7 =>
          some ((decide (p0.Sym ≥ 0) && v7) && (p0.N == 0))) else (some false))))
noncomputable def opnd_Of (p0 : T_api_Opd) : Option (I_opnd_Part × Bool) :=
(opnd_Right p0).bind fun v1 =>
  if (!v1) = true then (some (I_opnd_Part.nil, false)) else (if (p0.Kind == 1) = true then (some ((I_opnd_Part.RegPart (T_opnd_RegPart.mk p0.Reg)), true)) else (if (p0.Kind == 2) = true then (some ((I_opnd_Part.NumPart (T_opnd_NumPart.mk p0.N)), true)) else (if (p0.Kind == 3) = true then (some ((I_opnd_Part.AtPart (T_opnd_AtPart.mk p0.Sym p0.N)), true)) else (some ((I_opnd_Part.ByPart (T_opnd_ByPart.mk p0.Sym p0.Reg)), true)))))
noncomputable def opnd_Reg (p0 : I_opnd_Part) : Option (Int) :=
(match p0 with | .nil => (none) | .NumPart x1 => (none) | .AtPart x2 => (none) | .ByPart x3 => (none) | .RegPart x4 => (some x4.Reg))
noncomputable def opnd_Memory (p0 : I_opnd_Part) : Option (Int × Bool) :=
(match p0 with | .nil => (some (0, false)) | .NumPart x1 => (some (0, false)) | .AtPart x2 => (some (x2.Sym, true)) | .ByPart x3 => (some (x3.Sym, true)) | .RegPart x4 => (some (0, false)))
noncomputable def names_regs : Option ((List ByteArray)) :=
(some ([(⟨#[114, 97, 120]⟩ : ByteArray), (⟨#[114, 98, 120]⟩ : ByteArray), (⟨#[114, 99, 120]⟩ : ByteArray), (⟨#[114, 100, 120]⟩ : ByteArray), (⟨#[114, 115, 105]⟩ : ByteArray), (⟨#[114, 100, 105]⟩ : ByteArray), (⟨#[114, 56]⟩ : ByteArray), (⟨#[114, 57]⟩ : ByteArray)])).bind fun l1 =>
  some l1
noncomputable def names_RegText (p0 : Int) : Option (ByteArray) :=
(names_regs).bind fun v1 =>
  if (decide (p0 ≥ 0) && decide (p0 < (v1.length : Int))) = true then (if InB p0 v1.length then (some (rd v1 p0)) else none) else (some (⟨#[]⟩ : ByteArray))
noncomputable def opnd_Back_j4 (i13 : Int) (i14 : Int) (i15 : Int) (i17 : Int) : Option (T_api_Opd) :=
  (opnd_Right (T_api_Opd.mk i13 i14 i15 i17)).bind fun v18 =>
          if (!v18) = true then (some (T_api_Opd.mk 0 0 0 0)) else (some (T_api_Opd.mk i13 i14 i15 i17))

noncomputable def opnd_Back_j3 (z8 : I_opnd_Part) (i9 : Int) (i10 : Int) (i11 : Int) (i12 : Int) : Option (T_api_Opd) :=
  (match z8 with | .nil => (opnd_Back_j4  i9 i10 i11 i12) | .NumPart x21 => (opnd_Back_j4  i9 i10 i11 i12) | .AtPart x22 => (opnd_Back_j4  i9 i10 i11 i12) | .ByPart x23 => (opnd_Back_j4  4 x23.Reg x23.Sym 0) | .RegPart x24 => (opnd_Back_j4  i9 i10 i11 i12))

noncomputable def opnd_Back_j2 (z4 : I_opnd_Part) (i5 : Int) (i6 : Int) (i7 : Int) : Option (T_api_Opd) :=
  (match z4 with | .nil => (opnd_Back_j3  I_opnd_Part.nil i5 i6 0 i7) | .NumPart x25 => (opnd_Back_j3  (I_opnd_Part.NumPart x25) i5 i6 0 i7) | .AtPart x26 => (opnd_Back_j3  (I_opnd_Part.AtPart x26) 3 0 x26.Sym x26.N) | .ByPart x27 => (opnd_Back_j3  (I_opnd_Part.ByPart x27) i5 i6 0 i7) | .RegPart x28 => (opnd_Back_j3  (I_opnd_Part.RegPart x28) i5 i6 0 i7))

noncomputable def opnd_Back_j1 (z1 : I_opnd_Part) (i2 : Int) (i3 : Int) : Option (T_api_Opd) :=
  (match z1 with | .nil => (opnd_Back_j2  I_opnd_Part.nil i2 i3 0) | .NumPart x29 => (opnd_Back_j2  (I_opnd_Part.NumPart x29) 2 0 x29.N) | .AtPart x30 => (opnd_Back_j2  (I_opnd_Part.AtPart x30) i2 i3 0) | .ByPart x31 => (opnd_Back_j2  (I_opnd_Part.ByPart x31) i2 i3 0) | .RegPart x32 => (opnd_Back_j2  (I_opnd_Part.RegPart x32) i2 i3 0))

noncomputable def opnd_Back (p0 : I_opnd_Part) : Option (T_api_Opd) :=
(match p0 with | .nil => (opnd_Back_j1  I_opnd_Part.nil 0 0) | .NumPart x33 => (opnd_Back_j1  (I_opnd_Part.NumPart x33) 0 0) | .AtPart x34 => (opnd_Back_j1  (I_opnd_Part.AtPart x34) 0 0) | .ByPart x35 => (opnd_Back_j1  (I_opnd_Part.ByPart x35) 0 0) | .RegPart x36 => (opnd_Back_j1  (I_opnd_Part.RegPart x36) 1 x36.Reg))
noncomputable def opnd_ByPart_Text (p0 : T_opnd_ByPart) (p1 : (List ByteArray)) : Option (ByteArray) :=
(opnd_Back (I_opnd_Part.ByPart p0)).bind fun v1 =>
  (some (((v1.Kind == 0) && ((v1.Reg == 0) && ((v1.Sym == 0) && (v1.N == 0)))) || decide (p0.Sym ≥ (p1.length : Int)))).bind fun b3 =>
  if b3 = true then (some (⟨#[]⟩ : ByteArray)) else (if InB p0.Sym p1.length then (if CatOk (rd p1 p0.Sym) (⟨#[91]⟩ : ByteArray) then ((names_RegText p0.Reg).bind fun v8 =>
    if CatOk ((rd p1 p0.Sym) ++ (⟨#[91]⟩ : ByteArray)) v8 then (if CatOk (((rd p1 p0.Sym) ++ (⟨#[91]⟩ : ByteArray)) ++ v8) (⟨#[93]⟩ : ByteArray) then ((some ((((rd p1 p0.Sym) ++ (⟨#[91]⟩ : ByteArray)) ++ v8) ++ (⟨#[93]⟩ : ByteArray))).bind fun s12 =>
    some s12) else none) else none) else none) else none)
end Go.Vs
