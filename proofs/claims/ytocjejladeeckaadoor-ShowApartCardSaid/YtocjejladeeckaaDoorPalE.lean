import Derived.Test.YtocjejladeeckaaDoorPalT
import Derived.Test.YtocjejladeeckaaDoorPalD
import Derived.Test.YtocjejladeeckaaDoorPalBld
set_option linter.unusedVariables false
set_option linter.unusedSectionVars false
namespace Go.Vs
noncomputable def show_Prog_s2 (p0 : T_api_Prog) (i107 : Int) : (Int × ByteArray) → Option ((Int × ByteArray) ⊕ (ByteArray))
  | (i198, s199) =>
  if decide (i198 < (((rd p0.Syms i107).Init).length : Int)) = true then (if InB i198 ((rd p0.Syms i107).Init).length then ((num_Text (rd ((rd p0.Syms i107).Init) i198)).bind fun v214 =>
            if CatOk (⟨#[32]⟩ : ByteArray) v214 then (if Fits (s199.size + ((⟨#[32]⟩ : ByteArray) ++ v214).size) then ((some (s199 ++ ((⟨#[32]⟩ : ByteArray) ++ v214))).bind fun s218 =>
            some (.inl ((IntKind.wrap .i64 (i198 + 1)), s218))) else none) else none) else none) else (some (.inr s199))

noncomputable def show_Prog_s1 (p0 : T_api_Prog) : (Int × ByteArray × (List ByteArray)) → Option ((Int × ByteArray × (List ByteArray)) ⊕ (ByteArray × (List ByteArray)))
  | (i107, s108, l110) =>
  if decide (i107 < (p0.Syms.length : Int)) = true then (if InB i107 p0.Syms.length then (if Fits (l110.length + 1) then ((some (l110 ++ ([(rd p0.Syms i107).Name]))).bind fun l169 =>
        if CatOk (⟨#[115, 121, 109, 32]⟩ : ByteArray) ((rd p0.Syms i107).Name) then (if CatOk ((⟨#[115, 121, 109, 32]⟩ : ByteArray) ++ ((rd p0.Syms i107).Name)) (⟨#[32]⟩ : ByteArray) then ((num_Text ((rd p0.Syms i107).Size)).bind fun v173 =>
        if CatOk (((⟨#[115, 121, 109, 32]⟩ : ByteArray) ++ ((rd p0.Syms i107).Name)) ++ (⟨#[32]⟩ : ByteArray)) v173 then (if Fits (s108.size + ((((⟨#[115, 121, 109, 32]⟩ : ByteArray) ++ ((rd p0.Syms i107).Name)) ++ (⟨#[32]⟩ : ByteArray)) ++ v173).size) then ((some (s108 ++ ((((⟨#[115, 121, 109, 32]⟩ : ByteArray) ++ ((rd p0.Syms i107).Name)) ++ (⟨#[32]⟩ : ByteArray)) ++ v173))).bind fun s177 =>
        (loopO (show_Prog_s2 p0 i107) (0, s177)).bind fun r211 =>
        if Fits (r211.size + (⟨#[10]⟩ : ByteArray).size) then ((some (r211 ++ (⟨#[10]⟩ : ByteArray))).bind fun s221 =>
          some (.inl ((IntKind.wrap .i64 (i107 + 1)), s221, l169))) else none) else none) else none) else none) else none) else none) else none) else (some (.inr (s108, l110)))

noncomputable def show_Prog_s5 (l746 : List ByteArray) : (Int × ByteArray) → Option ((Int × ByteArray) ⊕ (ByteArray))
  | (i763, s764) =>
  if decide (i763 < (l746.length : Int)) = true then (if InB i763 l746.length then (if CatOk (rd l746 i763) (⟨#[58, 10]⟩ : ByteArray) then (if Fits (s764.size + ((rd l746 i763) ++ (⟨#[58, 10]⟩ : ByteArray)).size) then ((some (s764 ++ ((rd l746 i763) ++ (⟨#[58, 10]⟩ : ByteArray)))).bind fun s779 =>
                  some (.inl ((IntKind.wrap .i64 (i763 + 1)), s779))) else none) else none) else none) else (some (.inr s764))

noncomputable def show_Prog_s4 (p0 : T_api_Prog) (i482 : Int) (r165 : ByteArray × (List ByteArray)) : (Int × ByteArray) → Option ((Int × ByteArray) ⊕ (ByteArray))
  | (i700, s701) =>
  if decide (i700 < (((rd p0.Threads i482).Ins).length : Int)) = true then (if InB i700 ((rd p0.Threads i482).Ins).length then ((some ((rd ((rd p0.Threads i482).Ins) i700).Labels)).bind fun l746 =>
              (loopO (show_Prog_s5 l746) (0, s701)).bind fun r774 =>
              (show_Ins (T_api_Ins.mk ((rd ((rd p0.Threads i482).Ins) i700).Op) ((rd ((rd p0.Threads i482).Ins) i700).Lock) ((rd ((rd p0.Threads i482).Ins) i700).Cond) ((rd ((rd p0.Threads i482).Ins) i700).A) ((rd ((rd p0.Threads i482).Ins) i700).B) ((rd ((rd p0.Threads i482).Ins) i700).To) l746) r165.2).bind fun v781 =>
                if CatOk (⟨#[9]⟩ : ByteArray) v781 then (if CatOk ((⟨#[9]⟩ : ByteArray) ++ v781) (⟨#[10]⟩ : ByteArray) then (if Fits (r774.size + (((⟨#[9]⟩ : ByteArray) ++ v781) ++ (⟨#[10]⟩ : ByteArray)).size) then ((some (r774 ++ (((⟨#[9]⟩ : ByteArray) ++ v781) ++ (⟨#[10]⟩ : ByteArray)))).bind fun s786 =>
                some (.inl ((IntKind.wrap .i64 (i700 + 1)), s786))) else none) else none) else none) else none) else (some (.inr s701))

noncomputable def show_Prog_s3 (p0 : T_api_Prog) (r165 : ByteArray × (List ByteArray)) : (Int × ByteArray) → Option ((Int × ByteArray) ⊕ (ByteArray))
  | (i482, s483) =>
  if decide (i482 < (p0.Threads.length : Int)) = true then (if InB i482 p0.Threads.length then (if Fits (s483.size + (⟨#[116, 104, 114, 101, 97, 100, 10]⟩ : ByteArray).size) then ((some (s483 ++ (⟨#[116, 104, 114, 101, 97, 100, 10]⟩ : ByteArray))).bind fun s619 =>
          (loopO (show_Prog_s4 p0 i482 r165) (0, s619)).bind fun r743 =>
          some (.inl ((IntKind.wrap .i64 (i482 + 1)), r743))) else none) else none) else (some (.inr s483))

noncomputable def show_Prog (p0 : T_api_Prog) : Option (ByteArray) :=
(valid_Check p0).bind fun v1 =>
  if (v1 != 0) = true then (some (⟨#[]⟩ : ByteArray)) else ((loopO (show_Prog_s1 p0) (0, (⟨#[]⟩ : ByteArray), [])).bind fun r165 =>
    (loopO (show_Prog_s3 p0 r165) (0, r165.1)).bind fun r615 =>
      if Fits r615.size then (some r615) else none)
noncomputable def palinglaw9_alive : Option (Bool) :=
(some ([(T_api_Thread.mk ([(T_api_Ins.mk 10 false 0 (T_api_Opd.mk 0 0 0 0) (T_api_Opd.mk 0 0 0 0) (⟨#[116, 111, 112]⟩ : ByteArray) ([(⟨#[116, 111, 112]⟩ : ByteArray)]))]))])).bind fun l1 =>
  (show_Prog (T_api_Prog.mk ([] : List T_api_Sym) l1)).bind fun v3 =>
  (if decide (v3 = (⟨#[116, 104, 114, 101, 97, 100, 10, 116, 111, 112, 58, 10, 9, 106, 109, 112, 32, 116, 111, 112, 10]⟩ : ByteArray)) = true then show_Ins (T_api_Ins.mk 1 false 0 (T_api_Opd.mk 1 0 0 0) (T_api_Opd.mk 2 0 0 (-1)) (⟨#[]⟩ : ByteArray) ([])) ([]) else some default).bind fun v5 =>
  (some (decide (v3 = (⟨#[116, 104, 114, 101, 97, 100, 10, 116, 111, 112, 58, 10, 9, 106, 109, 112, 32, 116, 111, 112, 10]⟩ : ByteArray)) && decide (v5 = (⟨#[109, 111, 118, 32, 114, 97, 120, 44, 32, 45, 49]⟩ : ByteArray)))).bind fun b7 =>
  some b7
end Go.Vs
