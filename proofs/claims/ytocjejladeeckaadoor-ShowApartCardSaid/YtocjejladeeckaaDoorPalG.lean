import Derived.Test.YtocjejladeeckaaDoorPalT
import Derived.Test.YtocjejladeeckaaDoorPalF
set_option linter.unusedVariables false
set_option linter.unusedSectionVars false
namespace Go.Vs
noncomputable def palingbook_ProgO_s2 (n563 : Int) (i373 : Int) (p0 : (List (List T_palingbook_Act))) : (Int × (List T_api_Ins)) → Option ((Int × (List T_api_Ins)) ⊕ ((List T_api_Ins)))
  | (i583, l584) =>
  if decide (i583 < n563) = true then (if InB i373 p0.length then (if InB i583 (rd p0 i373).length then ((palingbook_Ins (rd (rd p0 i373) i583) (IntKind.wrap .i64 (n563 + 1))).bind fun v598 =>
          if Fits (l584.length + 1) then ((some (l584 ++ ([v598]))).bind fun l601 =>
          some (.inl ((IntKind.wrap .i64 (i583 + 1)), l601))) else none) else none) else none) else (some (.inr l584))

noncomputable def palingbook_ProgO_j1 (i700 : Int) (l751 : List T_api_Ins) : Option ((Int × (List T_api_Ins)) ⊕ ((List T_api_Ins))) :=
  some (.inl ((IntKind.wrap .i64 (i700 + 1)), l751))

noncomputable def palingbook_ProgO_j2 (i780 : Int) (l797 : List T_api_Ins) : Option ((Int × (List T_api_Ins)) ⊕ ((List T_api_Ins))) :=
  some (.inl ((IntKind.wrap .i64 (i780 + 1)), l797))

noncomputable def palingbook_ProgO_s4 (n563 : Int) (i700 : Int) : (Int × (List T_api_Ins)) → Option ((Int × (List T_api_Ins)) ⊕ ((List T_api_Ins)))
  | (i780, l781) =>
  if decide (i780 ≤ n563) = true then ((palingbook_label i780).bind fun v798 =>
                      if InB i700 l781.length then (if (decide (v798 = (rd l781 i700).To) = true → InB i780 l781.length) then (if (decide (v798 = (rd l781 i700).To) && ((((rd l781 i780).Labels).length : Int) == 0)) = true then ((palingbook_label i780).bind fun v803 =>
                        if InB i780 l781.length then ((some (l781.set i780.toNat (T_api_Ins.mk ((rd l781 i780).Op) ((rd l781 i780).Lock) ((rd l781 i780).Cond) ((rd l781 i780).A) ((rd l781 i780).B) ((rd l781 i780).To) ([v803])))).bind fun l806 =>
                        palingbook_ProgO_j2 i780 l806) else none) else (palingbook_ProgO_j2 i780 l781)) else none) else none) else (some (.inr l781))

noncomputable def palingbook_ProgO_s3 (n563 : Int) : (Int × (List T_api_Ins)) → Option ((Int × (List T_api_Ins)) ⊕ ((List T_api_Ins)))
  | (i700, l701) =>
  if decide (i700 < n563) = true then (if InB i700 l701.length then (if decide ((rd l701 i700).To = (⟨#[]⟩ : ByteArray)) = true then (palingbook_ProgO_j1 i700 l701) else ((loopO (palingbook_ProgO_s4 n563 i700) (0, l701)).bind fun r795 =>
                palingbook_ProgO_j1 i700 r795)) else none) else (some (.inr l701))

noncomputable def palingbook_ProgO_s1 (p0 : (List (List T_palingbook_Act))) (p1 : Int) (p2 : Int) : (Int × (List T_api_Thread)) → Option ((Int × (List T_api_Thread)) ⊕ ((List T_api_Thread)))
  | (i373, l374) =>
  if (decide (i373 < (p0.length : Int)) && decide (i373 < p1)) = true then (if InB i373 p0.length then ((some (if p2 < ((rd p0 i373).length : Int) then p2 else ((rd p0 i373).length : Int))).bind fun n563 =>
      (loopO (palingbook_ProgO_s2 n563 i373 p0) (0, ([] : List T_api_Ins))).bind fun r594 =>
      if Fits (r594.length + 1) then ((some (r594 ++ ([(T_api_Ins.mk 14 false 0 (T_api_Opd.mk 0 0 0 0) (T_api_Opd.mk 0 0 0 0) (⟨#[]⟩ : ByteArray) ([]))]))).bind fun l604 =>
        (loopO (palingbook_ProgO_s3 n563) (0, l604)).bind fun r749 =>
        if Fits (l374.length + 1) then ((some (l374 ++ [(T_api_Thread.mk r749)])).bind fun l809 =>
          some (.inl ((IntKind.wrap .i64 (i373 + 1)), l809))) else none) else none) else none) else (some (.inr l374))

noncomputable def palingbook_ProgO (p0 : (List (List T_palingbook_Act))) (p1 : Int) (p2 : Int) : Option (T_api_Prog) :=
(some ([(T_api_Sym.mk (⟨#[120]⟩ : ByteArray) 1 ([])), (T_api_Sym.mk (⟨#[121]⟩ : ByteArray) 2 ([1])), (T_api_Sym.mk (⟨#[122]⟩ : ByteArray) 1 ([0]))])).bind fun l1 =>
  (loopO (palingbook_ProgO_s1 p0 p1 p2) (0, ([] : List T_api_Thread))).bind fun r560 =>
  some (T_api_Prog.mk l1 r560)
theorem palingbook_ProgO_eq : @palingbook_ProgO = @palingbook_Prog := rfl
end Go.Vs
