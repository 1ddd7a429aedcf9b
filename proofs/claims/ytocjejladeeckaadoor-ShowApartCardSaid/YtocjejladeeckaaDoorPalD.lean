import Derived.Test.YtocjejladeeckaaDoorPalT
import Derived.Test.YtocjejladeeckaaDoorPalC
set_option linter.unusedVariables false
set_option linter.unusedSectionVars false
namespace Go.Vs
noncomputable def names_RegText (p0 : Int) : Option (ByteArray) :=
(names_regs).bind fun v1 =>
  if (decide (p0 ≥ 0) && decide (p0 < (v1.length : Int))) = true then (if InB p0 v1.length then (some (rd v1 p0)) else none) else (some (⟨#[]⟩ : ByteArray))
noncomputable def opnd_Back_j4 (i13 : Int) (i14 : Int) (i15 : Int) (i17 : Int) : Option (T_api_Opd) :=
  (opnd_Right (T_api_Opd.mk i13 i14 i15 i17)).bind fun v18 =>
          if (!v18) = true then (some (T_api_Opd.mk 0 0 0 0)) else (some (T_api_Opd.mk i13 i14 i15 i17))

noncomputable def opnd_Back_j3 (z8 : I_opnd_Part) (i9 : Int) (i10 : Int) (i11 : Int) (i12 : Int) : Option (T_api_Opd) :=
  (match z8 with | .nil => (opnd_Back_j4  i9 i10 i11 i12) | .RegPart x21 => (opnd_Back_j4  i9 i10 i11 i12) | .NumPart x22 => (opnd_Back_j4  i9 i10 i11 i12) | .AtPart x23 => (opnd_Back_j4  i9 i10 i11 i12) | .ByPart x24 => (opnd_Back_j4  4 x24.Reg x24.Sym 0))

noncomputable def opnd_Back_j2 (z4 : I_opnd_Part) (i5 : Int) (i6 : Int) (i7 : Int) : Option (T_api_Opd) :=
  (match z4 with | .nil => (opnd_Back_j3  I_opnd_Part.nil i5 i6 0 i7) | .RegPart x25 => (opnd_Back_j3  (I_opnd_Part.RegPart x25) i5 i6 0 i7) | .NumPart x26 => (opnd_Back_j3  (I_opnd_Part.NumPart x26) i5 i6 0 i7) | .AtPart x27 => (opnd_Back_j3  (I_opnd_Part.AtPart x27) 3 0 x27.Sym x27.N) | .ByPart x28 => (opnd_Back_j3  (I_opnd_Part.ByPart x28) i5 i6 0 i7))

noncomputable def opnd_Back_j1 (z1 : I_opnd_Part) (i2 : Int) (i3 : Int) : Option (T_api_Opd) :=
  (match z1 with | .nil => (opnd_Back_j2  I_opnd_Part.nil i2 i3 0) | .RegPart x29 => (opnd_Back_j2  (I_opnd_Part.RegPart x29) i2 i3 0) | .NumPart x30 => (opnd_Back_j2  (I_opnd_Part.NumPart x30) 2 0 x30.N) | .AtPart x31 => (opnd_Back_j2  (I_opnd_Part.AtPart x31) i2 i3 0) | .ByPart x32 => (opnd_Back_j2  (I_opnd_Part.ByPart x32) i2 i3 0))

noncomputable def opnd_Back (p0 : I_opnd_Part) : Option (T_api_Opd) :=
(match p0 with | .nil => (opnd_Back_j1  I_opnd_Part.nil 0 0) | .RegPart x33 => (opnd_Back_j1  (I_opnd_Part.RegPart x33) 1 x33.Reg) | .NumPart x34 => (opnd_Back_j1  (I_opnd_Part.NumPart x34) 0 0) | .AtPart x35 => (opnd_Back_j1  (I_opnd_Part.AtPart x35) 0 0) | .ByPart x36 => (opnd_Back_j1  (I_opnd_Part.ByPart x36) 0 0))
noncomputable def opnd_RegPart_Text (p0 : T_opnd_RegPart) (p1 : (List ByteArray)) : Option (ByteArray) :=
(names_RegText p0.Reg).bind fun v1 =>
  some v1
noncomputable def opnd_NumPart_Text (p0 : T_opnd_NumPart) (p1 : (List ByteArray)) : Option (ByteArray) :=
(num_Text p0.N).bind fun v1 =>
  some v1
noncomputable def opnd_AtPart_Text (p0 : T_opnd_AtPart) (p1 : (List ByteArray)) : Option (ByteArray) :=
(opnd_Back (I_opnd_Part.AtPart p0)).bind fun v1 =>
  (some (((v1.Kind == 0) && ((v1.Reg == 0) && ((v1.Sym == 0) && (v1.N == 0)))) || decide (p0.Sym ≥ (p1.length : Int)))).bind fun b3 =>
  if b3 = true then (some (⟨#[]⟩ : ByteArray)) else (if InB p0.Sym p1.length then (if CatOk (rd p1 p0.Sym) (⟨#[91]⟩ : ByteArray) then ((num_Text p0.N).bind fun v8 =>
    if CatOk ((rd p1 p0.Sym) ++ (⟨#[91]⟩ : ByteArray)) v8 then (if CatOk (((rd p1 p0.Sym) ++ (⟨#[91]⟩ : ByteArray)) ++ v8) (⟨#[93]⟩ : ByteArray) then ((some ((((rd p1 p0.Sym) ++ (⟨#[91]⟩ : ByteArray)) ++ v8) ++ (⟨#[93]⟩ : ByteArray))).bind fun s12 =>
    some s12) else none) else none) else none) else none)
noncomputable def opnd_ByPart_Text (p0 : T_opnd_ByPart) (p1 : (List ByteArray)) : Option (ByteArray) :=
(opnd_Back (I_opnd_Part.ByPart p0)).bind fun v1 =>
  (some (((v1.Kind == 0) && ((v1.Reg == 0) && ((v1.Sym == 0) && (v1.N == 0)))) || decide (p0.Sym ≥ (p1.length : Int)))).bind fun b3 =>
  if b3 = true then (some (⟨#[]⟩ : ByteArray)) else (if InB p0.Sym p1.length then (if CatOk (rd p1 p0.Sym) (⟨#[91]⟩ : ByteArray) then ((names_RegText p0.Reg).bind fun v8 =>
    if CatOk ((rd p1 p0.Sym) ++ (⟨#[91]⟩ : ByteArray)) v8 then (if CatOk (((rd p1 p0.Sym) ++ (⟨#[91]⟩ : ByteArray)) ++ v8) (⟨#[93]⟩ : ByteArray) then ((some ((((rd p1 p0.Sym) ++ (⟨#[91]⟩ : ByteArray)) ++ v8) ++ (⟨#[93]⟩ : ByteArray))).bind fun s12 =>
    some s12) else none) else none) else none) else none)
noncomputable def opnd_Text (p0 : T_api_Opd) (p1 : (List ByteArray)) : Option (ByteArray) :=
(opnd_Of p0).bind fun v1 =>
  if (!v1.2) = true then (some (⟨#[]⟩ : ByteArray)) else ((some v1.1).bind fun z4 =>
    (match z4 with | .nil => (none) | .RegPart x6 => ((opnd_RegPart_Text x6 p1).bind fun v7 => some v7) | .NumPart x9 => ((opnd_NumPart_Text x9 p1).bind fun v10 => some v10) | .AtPart x12 => ((opnd_AtPart_Text x12 p1).bind fun v13 => some v13) | .ByPart x15 => ((opnd_ByPart_Text x15 p1).bind fun v16 => some v16)))
noncomputable def show_Ins_j1 (p0 : T_api_Ins) (p1 : (List ByteArray)) (s6 : ByteArray) : Option (ByteArray) :=
  (ins_Leads p0).bind fun v7 =>
      if v7.2 = true then (if CatOk s6 (⟨#[32]⟩ : ByteArray) then (if CatOk (s6 ++ (⟨#[32]⟩ : ByteArray)) p0.To then (some ((s6 ++ (⟨#[32]⟩ : ByteArray)) ++ p0.To)) else none) else none) else (if (p0.A.Kind == 0) = true then (some s6) else ((opnd_Text p0.A p1).bind fun v13 =>
          (opnd_Text p0.B p1).bind fun v15 =>
          (show_lacks p0.A p1).bind fun v17 =>
          (if (!v17) = true then show_lacks p0.B p1 else some default).bind fun v19 =>
          if (v17 || v19) = true then (some (⟨#[]⟩ : ByteArray)) else (if CatOk s6 (⟨#[32]⟩ : ByteArray) then (if CatOk (s6 ++ (⟨#[32]⟩ : ByteArray)) v13 then (if CatOk ((s6 ++ (⟨#[32]⟩ : ByteArray)) ++ v13) (⟨#[44, 32]⟩ : ByteArray) then (if CatOk (((s6 ++ (⟨#[32]⟩ : ByteArray)) ++ v13) ++ (⟨#[44, 32]⟩ : ByteArray)) v15 then ((some ((((s6 ++ (⟨#[32]⟩ : ByteArray)) ++ v13) ++ (⟨#[44, 32]⟩ : ByteArray)) ++ v15)).bind fun s27 =>
            some s27) else none) else none) else none) else none)))

noncomputable def show_Ins (p0 : T_api_Ins) (p1 : (List ByteArray)) : Option (ByteArray) :=
(ins_Right p0).bind fun v1 =>
  if (v1 != 0) = true then (some (⟨#[]⟩ : ByteArray)) else ((names_OpText p0.Op p0.Cond).bind fun v4 =>
    if p0.Lock = true then (if CatOk (⟨#[108, 111, 99, 107, 32]⟩ : ByteArray) v4 then (show_Ins_j1 p0 p1 ((⟨#[108, 111, 99, 107, 32]⟩ : ByteArray) ++ v4)) else none) else (show_Ins_j1 p0 p1 v4))
end Go.Vs
