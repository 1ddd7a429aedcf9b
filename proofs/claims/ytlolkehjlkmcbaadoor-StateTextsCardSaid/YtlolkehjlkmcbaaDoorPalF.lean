import Derived.Test.YtlolkehjlkmcbaaDoorPalT
import Derived.Test.YtlolkehjlkmcbaaDoorPalA
set_option linter.unusedVariables false
set_option linter.unusedSectionVars false
namespace Go.Vs
noncomputable def palingref2_CopyO_s1 (p0 : T_api_State) : (Int × (List (List T_api_Entry))) → Option ((Int × (List (List T_api_Entry))) ⊕ ((List (List T_api_Entry))))
  | (i17, l18) =>
  if decide (i17 < (p0.Bufs.length : Int)) = true then (if InB i17 p0.Bufs.length then (if Fits ((rd p0.Bufs i17).length) then (if Fits (l18.length + 1) then ((some (l18 ++ [(rd p0.Bufs i17)])).bind fun l31 =>
      some (.inl ((IntKind.wrap .i64 (i17 + 1)), l31))) else none) else none) else none) else (some (.inr l18))

noncomputable def palingref2_CopyO (p0 : T_api_State) : Option (T_api_State) :=
if Fits p0.Mem.length then (if Fits p0.Thr.length then ((loopO (palingref2_CopyO_s1 p0) (0, ([] : List (List T_api_Entry)))).bind fun r26 =>
  some (T_api_State.mk p0.Mem p0.Thr r26 p0.Lock)) else none) else none
theorem palingref2_CopyO_eq : @palingref2_CopyO = @palingref2_Copy := rfl
noncomputable def state_Copy_s1 (p0 : T_api_State) : (Int × (List (List T_api_Entry))) → Option ((Int × (List (List T_api_Entry))) ⊕ ((List (List T_api_Entry))))
  | (i17, l18) =>
  if decide (i17 < (p0.Bufs.length : Int)) = true then (if InB i17 p0.Bufs.length then (if Fits ((rd p0.Bufs i17).length) then (if Fits (l18.length + 1) then ((some (l18 ++ [(rd p0.Bufs i17)])).bind fun l31 =>
      some (.inl ((IntKind.wrap .i64 (i17 + 1)), l31))) else none) else none) else none) else (some (.inr l18))

noncomputable def state_Copy (p0 : T_api_State) : Option (T_api_State) :=
if Fits p0.Mem.length then (if Fits p0.Thr.length then ((loopO (state_Copy_s1 p0) (0, ([] : List (List T_api_Entry)))).bind fun r26 =>
  some (T_api_State.mk p0.Mem p0.Thr r26 p0.Lock)) else none) else none
end Go.Vs
