import Derived.Test.YtocjejladeeckaaDoorPalT
import Derived.Test.YtocjejladeeckaaDoorPalE
import Derived.Test.YtocjejladeeckaaDoorPalF
set_option linter.unusedVariables false
set_option linter.unusedSectionVars false
namespace Go.Vs
noncomputable def palinglaw9_ShowMade (p0 : (List (List T_palingbook_Act))) : Option (Bool) :=
(palingbook_Prog p0 3 8).bind fun v1 =>
  (show_Prog v1).bind fun v3 =>
  (palingref1_Show v1).bind fun v5 =>
  (if decide (v3 = v5) = true then palinglaw9_alive else some default).bind fun v7 =>
  some (decide (v3 = v5) && v7)
noncomputable def palinglaw9_ShowIns_s1 (p2 : (List ByteArray)) : (Int × (List ByteArray)) → Option ((Int × (List ByteArray)) ⊕ ((List ByteArray)))
  | (i19, l20) =>
  if (decide (i19 < (p2.length : Int)) && decide (i19 < 5)) = true then (if InB i19 p2.length then ((palingbook_Short (rd p2 i19) 30).bind fun v34 =>
      if Fits (l20.length + 1) then ((some (l20 ++ ([v34]))).bind fun l37 =>
      some (.inl ((IntKind.wrap .i64 (i19 + 1)), l37))) else none) else none) else (some (.inr l20))

noncomputable def palinglaw9_ShowIns (p0 : T_api_Ins) (p1 : T_palingbook_Act) (p2 : (List ByteArray)) : Option (Bool) :=
(loopO (palinglaw9_ShowIns_s1 p2) (0, [])).bind fun r31 =>
  (palingbook_GreatIns p0).bind fun v39 =>
    if v39 = true then ((palinglaw9_alive).bind fun v42 =>
      some v42) else ((palingbook_Ins p1 9).bind fun v44 =>
      (show_Ins p0 r31).bind fun v46 =>
      (palingref1_ShowIns p0 r31).bind fun v48 =>
      (if decide (v46 = v48) = true then show_Ins v44 r31 else some default).bind fun v50 =>
      (if decide (v46 = v48) = true then palingref1_ShowIns v44 r31 else some default).bind fun v52 =>
      (if (decide (v46 = v48) && decide (v50 = v52)) = true then show_Ins v44 ([(⟨#[120]⟩ : ByteArray), (⟨#[121]⟩ : ByteArray), (⟨#[122]⟩ : ByteArray)]) else some default).bind fun v54 =>
      (if (decide (v46 = v48) && decide (v50 = v52)) = true then palingref1_ShowIns v44 ([(⟨#[120]⟩ : ByteArray), (⟨#[121]⟩ : ByteArray), (⟨#[122]⟩ : ByteArray)]) else some default).bind fun v56 =>
      (if ((decide (v46 = v48) && decide (v50 = v52)) && decide (v54 = v56)) = true then palinglaw9_alive else some default).bind fun v58 =>
      some (((decide (v46 = v48) && decide (v50 = v52)) && decide (v54 = v56)) && v58))
noncomputable def palinglaw9_ShowLines_s2 (i61 : Int) (v1 : T_api_Prog) : (Int × Int) → Option ((Int × Int) ⊕ (Int))
  | (i104, i105) =>
  if InB i61 v1.Threads.length then (if decide (i105 < (((rd v1.Threads i61).Ins).length : Int)) = true then (if InB i61 v1.Threads.length then (if InB i105 ((rd v1.Threads i61).Ins).length then ((some (IntKind.wrap .i64 (i104 + (IntKind.wrap .i64 (1 + (((rd ((rd v1.Threads i61).Ins) i105).Labels).length : Int)))))).bind fun n118 =>
          some (.inl (n118, (IntKind.wrap .i64 (i105 + 1))))) else none) else none) else (some (.inr i104))) else none

noncomputable def palinglaw9_ShowLines_s1 (v1 : T_api_Prog) : (Int × Int) → Option ((Int × Int) ⊕ (Int))
  | (i60, i61) =>
  if decide (i61 < (v1.Threads.length : Int)) = true then ((loopO (palinglaw9_ShowLines_s2 i61 v1) (i60, 0)).bind fun r113 =>
      some (.inl (r113, (IntKind.wrap .i64 (i61 + 1))))) else (some (.inr i60))

noncomputable def palinglaw9_ShowLines_j1 (i131 : Int) (i139 : Int) : Option ((Int × Int) ⊕ (Int)) :=
  some (.inl (i139, (IntKind.wrap .i64 (i131 + 1))))

noncomputable def palinglaw9_ShowLines_s3 (v3 : ByteArray) : (Int × Int) → Option ((Int × Int) ⊕ (Int))
  | (i130, i131) =>
  if decide (i131 < (v3.size : Int)) = true then (if InB i131 v3.size then (if ((bt v3 i131) == 10) = true then (palinglaw9_ShowLines_j1 i131 (IntKind.wrap .i64 (i130 + 1))) else (palinglaw9_ShowLines_j1 i131 i130)) else none) else (some (.inr i130))

noncomputable def palinglaw9_ShowLines (p0 : (List (List T_palingbook_Act))) : Option (Bool) :=
(palingbook_Prog p0 3 8).bind fun v1 =>
  (show_Prog v1).bind fun v3 =>
  (some (IntKind.wrap .i64 ((v1.Syms.length : Int) + (v1.Threads.length : Int)))).bind fun n5 =>
  (loopO (palinglaw9_ShowLines_s1 v1) (n5, 0)).bind fun r88 =>
  (loopO (palinglaw9_ShowLines_s3 v3) (0, 0)).bind fun r137 =>
    if (((r137 == r88) && decide ((v3.size : Int) > 0)) = true → InB (IntKind.wrap .i64 ((v3.size : Int) - 1)) v3.size) then ((if (((r137 == r88) && decide ((v3.size : Int) > 0)) && ((bt v3 (IntKind.wrap .i64 ((v3.size : Int) - 1))) == 10)) = true then palinglaw9_alive else some default).bind fun v143 =>
      (some ((((r137 == r88) && decide ((v3.size : Int) > 0)) && ((bt v3 (IntKind.wrap .i64 ((v3.size : Int) - 1))) == 10)) && v143)).bind fun b145 =>
      some b145) else none
end Go.Vs
