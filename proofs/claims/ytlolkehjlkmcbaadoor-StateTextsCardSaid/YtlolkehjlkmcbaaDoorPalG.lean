import Derived.Test.YtlolkehjlkmcbaaDoorPalT
import Derived.Test.YtlolkehjlkmcbaaDoorPalA
import Derived.Test.YtlolkehjlkmcbaaDoorPalB
import Derived.Test.YtlolkehjlkmcbaaDoorPalC
import Derived.Test.YtlolkehjlkmcbaaDoorPalD
import Derived.Test.YtlolkehjlkmcbaaDoorPalF
import Derived.Test.YtlolkehjlkmcbaaDoorPalNum
import Derived.Test.YtlolkehjlkmcbaaDoorPalNumb
set_option linter.unusedVariables false
set_option linter.unusedSectionVars false
namespace Go.Vs
noncomputable def palinglaw13_StateCopies_s1 : (Int × (List Int)) → Option ((Int × (List Int)) ⊕ ((List Int)))
  | (i23, l24) =>
  if decide (i23 < (l24.length : Int)) = true then (if InB i23 l24.length then ((some (l24.set i23.toNat (-9))).bind fun l33 =>
          some (.inl ((IntKind.wrap .i64 (i23 + 1)), l33))) else none) else (some (.inr l24))

noncomputable def palinglaw13_StateCopies_s2 : (Int × (List T_api_Thr)) → Option ((Int × (List T_api_Thr)) ⊕ ((List T_api_Thr)))
  | (i45, l46) =>
  if decide (i45 < (l46.length : Int)) = true then (if InB i45 l46.length then ((some (l46.set i45.toNat (T_api_Thr.mk (A8.mk 0 0 0 0 0 0 0 0) (T_api_Flags.mk false false false false) (-9) 0 0 0))).bind fun l55 =>
            some (.inl ((IntKind.wrap .i64 (i45 + 1)), l55))) else none) else (some (.inr l46))

noncomputable def palinglaw13_StateCopies_s4 (i115 : Int) : (Int × (List (List T_api_Entry))) → Option ((Int × (List (List T_api_Entry))) ⊕ ((List (List T_api_Entry))))
  | (i163, l164) =>
  if InB i115 l164.length then (if decide (i163 < ((rd l164 i115).length : Int)) = true then (if InB i115 l164.length then (if InB i163 ((rd l164 i115).length) then (if InB i163 (rd l164 i115).length then ((some (l164.set i115.toNat ((rd l164 i115).set i163.toNat (T_api_Entry.mk (-9) 0)))).bind fun l179 =>
                  some (.inl ((IntKind.wrap .i64 (i163 + 1)), l179))) else none) else none) else none) else (some (.inr l164))) else none

noncomputable def palinglaw13_StateCopies_s3 : (Int × (List (List T_api_Entry))) → Option ((Int × (List (List T_api_Entry))) ⊕ (Unit))
  | (i115, l116) =>
  if decide (i115 < (l116.length : Int)) = true then ((loopO (palinglaw13_StateCopies_s4 i115) (0, l116)).bind fun r173 =>
              some (.inl ((IntKind.wrap .i64 (i115 + 1)), r173))) else (some (.inr ()))

noncomputable def palinglaw13_StateCopies (p0 : T_api_State) : Option (Bool) :=
(palingbook_GreatState p0).bind fun v1 =>
  if v1 = true then ((palinglaw13_alive).bind fun v4 =>
    some v4) else ((palingref2_Copy p0).bind fun v6 =>
    (state_Copy p0).bind fun v8 =>
    (palingref2_Same p0 (T_api_State.mk v8.Mem v8.Thr v8.Bufs v8.Lock)).bind fun v10 =>
    if (!v10) = true then (some false) else ((loopO (palinglaw13_StateCopies_s1) (0, v8.Mem)).bind fun r30 =>
      (loopO (palinglaw13_StateCopies_s2) (0, v8.Thr)).bind fun r52 =>
        (loopO (palinglaw13_StateCopies_s3) (0, v8.Bufs)).bind fun r145 =>
          (palingref2_Same p0 (T_api_State.mk v6.Mem v6.Thr v6.Bufs v6.Lock)).bind fun v181 =>
            (if v181 = true then palinglaw13_alive else some default).bind fun v183 =>
            some (v181 && v183)))
noncomputable def palinglaw13_bent_j2 (l3 : List T_api_Thr) (l4 : List Int) (l5 : List (List T_api_Entry)) (i6 : Int) : Option (T_api_State) :=
  some (T_api_State.mk l4 l3 l5 i6)

noncomputable def palinglaw13_bent_j1 (p1 : Int) (v1 : T_api_State) (p3 : Int) (p2 : Int) (l3 : List T_api_Thr) : Option (T_api_State) :=
  (palingbook_Pick p1 10).bind fun v7 =>
      if (v7 == 6) = true then (if Fits (v1.Mem.length + 1) then ((some (v1.Mem ++ ([p3]))).bind fun l11 =>
        palinglaw13_bent_j2 l3 l11 v1.Bufs v1.Lock) else none) else (if (v7 == 7) = true then (palinglaw13_bent_j2 l3 v1.Mem v1.Bufs p3) else (if (v7 == 8) = true then (if Fits (v1.Bufs.length + 1) then ((some (v1.Bufs ++ [([] : List T_api_Entry)])).bind fun l16 =>
            palinglaw13_bent_j2 l3 v1.Mem l16 v1.Lock) else none) else (if (v7 == 9) = true then (if decide ((v1.Bufs.length : Int) > 0) = true then ((palingbook_Pick p2 (v1.Bufs.length : Int)).bind fun v20 =>
                if InB v20 v1.Bufs.length then (if Fits ((rd v1.Bufs v20).length + 1) then (if InB v20 v1.Bufs.length then ((some (v1.Bufs.set v20.toNat ((rd v1.Bufs v20) ++ ([(T_api_Entry.mk p3 p3)])))).bind fun l25 =>
                palinglaw13_bent_j2 l3 v1.Mem l25 v1.Lock) else none) else none) else none) else (palinglaw13_bent_j2 l3 v1.Mem v1.Bufs v1.Lock)) else (palinglaw13_bent_j2 l3 v1.Mem v1.Bufs v1.Lock))))

noncomputable def palinglaw13_bent_j3 (p2 : Int) (v1 : T_api_State) (v28 : Int) (p1 : Int) (p3 : Int) (i31 : Int) (i33 : Int) (i34 : Int) (i35 : Int) (i36 : Int) (i37 : Int) (i38 : Int) (i39 : Int) (b40 : Bool) (i41 : Int) (i42 : Int) (i43 : Int) (i44 : Int) : Option (T_api_State) :=
  (palingbook_Pick p2 (v1.Thr.length : Int)).bind fun v45 =>
        if InB v45 v1.Thr.length then ((some (v1.Thr.set v45.toNat (T_api_Thr.mk (A8.mk i31 i33 i34 i35 i36 i37 i38 i39) (T_api_Flags.mk ((rd v1.Thr v28).Flags.Z) ((rd v1.Thr v28).Flags.S) b40 ((rd v1.Thr v28).Flags.O)) i41 i42 i43 i44))).bind fun l48 =>
        palinglaw13_bent_j1 p1 v1 p3 p2 l48) else none

noncomputable def palinglaw13_bent (p0 : T_api_State) (p1 : Int) (p2 : Int) (p3 : Int) : Option (T_api_State) :=
(palingref2_Copy p0).bind fun v1 =>
  if decide ((v1.Thr.length : Int) > 0) = true then ((palingbook_Pick p2 (v1.Thr.length : Int)).bind fun v28 =>
      if InB v28 v1.Thr.length then ((palingbook_Pick p1 10).bind fun v50 =>
        if (v50 == 0) = true then (palinglaw13_bent_j3 p2 v1 v28 p1 p3 ((rd v1.Thr v28).Regs.a0) ((rd v1.Thr v28).Regs.a1) ((rd v1.Thr v28).Regs.a2) ((rd v1.Thr v28).Regs.a3) ((rd v1.Thr v28).Regs.a4) ((rd v1.Thr v28).Regs.a5) ((rd v1.Thr v28).Regs.a6) ((rd v1.Thr v28).Regs.a7) ((rd v1.Thr v28).Flags.C) p3 ((rd v1.Thr v28).Phase) ((rd v1.Thr v28).Latch) ((rd v1.Thr v28).Status)) else (if (v50 == 1) = true then (palinglaw13_bent_j3 p2 v1 v28 p1 p3 ((rd v1.Thr v28).Regs.a0) ((rd v1.Thr v28).Regs.a1) ((rd v1.Thr v28).Regs.a2) ((rd v1.Thr v28).Regs.a3) ((rd v1.Thr v28).Regs.a4) ((rd v1.Thr v28).Regs.a5) ((rd v1.Thr v28).Regs.a6) ((rd v1.Thr v28).Regs.a7) ((rd v1.Thr v28).Flags.C) ((rd v1.Thr v28).PC) p3 ((rd v1.Thr v28).Latch) ((rd v1.Thr v28).Status)) else (if (v50 == 2) = true then (palinglaw13_bent_j3 p2 v1 v28 p1 p3 ((rd v1.Thr v28).Regs.a0) ((rd v1.Thr v28).Regs.a1) ((rd v1.Thr v28).Regs.a2) ((rd v1.Thr v28).Regs.a3) ((rd v1.Thr v28).Regs.a4) ((rd v1.Thr v28).Regs.a5) ((rd v1.Thr v28).Regs.a6) ((rd v1.Thr v28).Regs.a7) ((rd v1.Thr v28).Flags.C) ((rd v1.Thr v28).PC) ((rd v1.Thr v28).Phase) p3 ((rd v1.Thr v28).Status)) else (if (v50 == 3) = true then (palinglaw13_bent_j3 p2 v1 v28 p1 p3 ((rd v1.Thr v28).Regs.a0) ((rd v1.Thr v28).Regs.a1) ((rd v1.Thr v28).Regs.a2) ((rd v1.Thr v28).Regs.a3) ((rd v1.Thr v28).Regs.a4) ((rd v1.Thr v28).Regs.a5) ((rd v1.Thr v28).Regs.a6) ((rd v1.Thr v28).Regs.a7) ((rd v1.Thr v28).Flags.C) ((rd v1.Thr v28).PC) ((rd v1.Thr v28).Phase) ((rd v1.Thr v28).Latch) p3) else (if (v50 == 4) = true then (palinglaw13_bent_j3 p2 v1 v28 p1 p3 ((rd v1.Thr v28).Regs.a0) ((rd v1.Thr v28).Regs.a1) ((rd v1.Thr v28).Regs.a2) ((rd v1.Thr v28).Regs.a3) ((rd v1.Thr v28).Regs.a4) ((rd v1.Thr v28).Regs.a5) ((rd v1.Thr v28).Regs.a6) ((rd v1.Thr v28).Regs.a7) (!(rd v1.Thr v28).Flags.C) ((rd v1.Thr v28).PC) ((rd v1.Thr v28).Phase) ((rd v1.Thr v28).Latch) ((rd v1.Thr v28).Status)) else (if (v50 == 5) = true then ((palingbook_Pick (IntKind.wrap .i64 (Int.tdiv p2 8)) 8).bind fun v58 =>
                    if InB v58 8 then ((some (A8.put ((rd v1.Thr v28).Regs) v58 p3)).bind fun r61 =>
                    palinglaw13_bent_j3 p2 v1 v28 p1 p3 r61.a0 r61.a1 r61.a2 r61.a3 r61.a4 r61.a5 r61.a6 r61.a7 ((rd v1.Thr v28).Flags.C) ((rd v1.Thr v28).PC) ((rd v1.Thr v28).Phase) ((rd v1.Thr v28).Latch) ((rd v1.Thr v28).Status)) else none) else (palinglaw13_bent_j3 p2 v1 v28 p1 p3 ((rd v1.Thr v28).Regs.a0) ((rd v1.Thr v28).Regs.a1) ((rd v1.Thr v28).Regs.a2) ((rd v1.Thr v28).Regs.a3) ((rd v1.Thr v28).Regs.a4) ((rd v1.Thr v28).Regs.a5) ((rd v1.Thr v28).Regs.a6) ((rd v1.Thr v28).Regs.a7) ((rd v1.Thr v28).Flags.C) ((rd v1.Thr v28).PC) ((rd v1.Thr v28).Phase) ((rd v1.Thr v28).Latch) ((rd v1.Thr v28).Status)))))))) else none) else (palinglaw13_bent_j1 p1 v1 p3 p2 v1.Thr)
end Go.Vs
