import Derived.Test.YtlolkehjlkmcbaaDoorPalT
import Derived.Test.YtlolkehjlkmcbaaDoorPalA
import Derived.Test.YtlolkehjlkmcbaaDoorPalNum
import Derived.Test.YtlolkehjlkmcbaaDoorPalNumb
set_option linter.unusedVariables false
set_option linter.unusedSectionVars false
namespace Go.Vs
noncomputable def palingref2_Text_s1 (p0 : T_api_State) : (ByteArray × Int) → Option ((ByteArray × Int) ⊕ (ByteArray))
  | (s83, i84) =>
  if decide (i84 < (p0.Thr.length : Int)) = true then (if InB i84 p0.Thr.length then ((palingref1_Text ((rd p0.Thr i84).PC)).bind fun v128 =>
      if CatOk (⟨#[124]⟩ : ByteArray) v128 then (if CatOk ((⟨#[124]⟩ : ByteArray) ++ v128) (⟨#[46]⟩ : ByteArray) then ((palingref1_Text ((rd p0.Thr i84).Phase)).bind fun v132 =>
      if CatOk (((⟨#[124]⟩ : ByteArray) ++ v128) ++ (⟨#[46]⟩ : ByteArray)) v132 then (if CatOk ((((⟨#[124]⟩ : ByteArray) ++ v128) ++ (⟨#[46]⟩ : ByteArray)) ++ v132) (⟨#[46]⟩ : ByteArray) then ((palingref1_Text ((rd p0.Thr i84).Latch)).bind fun v136 =>
      if CatOk (((((⟨#[124]⟩ : ByteArray) ++ v128) ++ (⟨#[46]⟩ : ByteArray)) ++ v132) ++ (⟨#[46]⟩ : ByteArray)) v136 then (if CatOk ((((((⟨#[124]⟩ : ByteArray) ++ v128) ++ (⟨#[46]⟩ : ByteArray)) ++ v132) ++ (⟨#[46]⟩ : ByteArray)) ++ v136) (⟨#[46]⟩ : ByteArray) then ((palingref1_Text ((rd p0.Thr i84).Status)).bind fun v140 =>
      if CatOk (((((((⟨#[124]⟩ : ByteArray) ++ v128) ++ (⟨#[46]⟩ : ByteArray)) ++ v132) ++ (⟨#[46]⟩ : ByteArray)) ++ v136) ++ (⟨#[46]⟩ : ByteArray)) v140 then (if CatOk s83 ((((((((⟨#[124]⟩ : ByteArray) ++ v128) ++ (⟨#[46]⟩ : ByteArray)) ++ v132) ++ (⟨#[46]⟩ : ByteArray)) ++ v136) ++ (⟨#[46]⟩ : ByteArray)) ++ v140) then ((some (s83 ++ ((((((((⟨#[124]⟩ : ByteArray) ++ v128) ++ (⟨#[46]⟩ : ByteArray)) ++ v132) ++ (⟨#[46]⟩ : ByteArray)) ++ v136) ++ (⟨#[46]⟩ : ByteArray)) ++ v140))).bind fun s144 =>
      (palingref2_bit ((rd p0.Thr i84).Flags.Z)).bind fun v146 =>
      if CatOk (⟨#[46]⟩ : ByteArray) v146 then ((palingref2_bit ((rd p0.Thr i84).Flags.S)).bind fun v149 =>
      if CatOk ((⟨#[46]⟩ : ByteArray) ++ v146) v149 then ((palingref2_bit ((rd p0.Thr i84).Flags.C)).bind fun v152 =>
      if CatOk (((⟨#[46]⟩ : ByteArray) ++ v146) ++ v149) v152 then ((palingref2_bit ((rd p0.Thr i84).Flags.O)).bind fun v155 =>
      if CatOk ((((⟨#[46]⟩ : ByteArray) ++ v146) ++ v149) ++ v152) v155 then (if CatOk (((((⟨#[46]⟩ : ByteArray) ++ v146) ++ v149) ++ v152) ++ v155) (⟨#[46]⟩ : ByteArray) then ((palingref2_row ([((rd p0.Thr i84).Regs.a0), ((rd p0.Thr i84).Regs.a1), ((rd p0.Thr i84).Regs.a2), ((rd p0.Thr i84).Regs.a3), ((rd p0.Thr i84).Regs.a4), ((rd p0.Thr i84).Regs.a5), ((rd p0.Thr i84).Regs.a6), ((rd p0.Thr i84).Regs.a7)])).bind fun v159 =>
      if CatOk ((((((⟨#[46]⟩ : ByteArray) ++ v146) ++ v149) ++ v152) ++ v155) ++ (⟨#[46]⟩ : ByteArray)) v159 then (if CatOk s144 (((((((⟨#[46]⟩ : ByteArray) ++ v146) ++ v149) ++ v152) ++ v155) ++ (⟨#[46]⟩ : ByteArray)) ++ v159) then ((some (s144 ++ (((((((⟨#[46]⟩ : ByteArray) ++ v146) ++ v149) ++ v152) ++ v155) ++ (⟨#[46]⟩ : ByteArray)) ++ v159))).bind fun s163 =>
      some (.inl (s163, (IntKind.wrap .i64 (i84 + 1))))) else none) else none) else none) else none) else none) else none) else none) else none) else none) else none) else none) else none) else none) else none) else none) else none) else (some (.inr s83))

noncomputable def palingref2_Text_j1 (i386 : Int) (s408 : ByteArray) : Option ((ByteArray × Int) ⊕ (ByteArray)) :=
  some (.inl (s408, (IntKind.wrap .i64 (i386 + 1))))

noncomputable def palingref2_Text_j2 (i286 : Int) (p0 : T_api_State) (i386 : Int) (s409 : ByteArray) : Option ((ByteArray × Int) ⊕ (ByteArray)) :=
  if InB i286 p0.Bufs.length then (if InB i386 (rd p0.Bufs i286).length then ((palingref1_Text ((rd (rd p0.Bufs i286) i386).Addr)).bind fun v412 =>
                if CatOk v412 (⟨#[61]⟩ : ByteArray) then (if InB i286 p0.Bufs.length then (if InB i386 (rd p0.Bufs i286).length then ((palingref1_Text ((rd (rd p0.Bufs i286) i386).Val)).bind fun v417 =>
                if CatOk (v412 ++ (⟨#[61]⟩ : ByteArray)) v417 then (if CatOk s409 ((v412 ++ (⟨#[61]⟩ : ByteArray)) ++ v417) then (palingref2_Text_j1 i386 (s409 ++ ((v412 ++ (⟨#[61]⟩ : ByteArray)) ++ v417))) else none) else none) else none) else none) else none) else none) else none

noncomputable def palingref2_Text_s3 (i286 : Int) (p0 : T_api_State) : (ByteArray × Int) → Option ((ByteArray × Int) ⊕ (ByteArray))
  | (s385, i386) =>
  if InB i286 p0.Bufs.length then (if decide (i386 < ((rd p0.Bufs i286).length : Int)) = true then (if decide (i386 > 0) = true then (if CatOk s385 (⟨#[44]⟩ : ByteArray) then (palingref2_Text_j2 i286 p0 i386 (s385 ++ (⟨#[44]⟩ : ByteArray))) else none) else (palingref2_Text_j2 i286 p0 i386 s385)) else (some (.inr s385))) else none

noncomputable def palingref2_Text_s2 (p0 : T_api_State) : (ByteArray × Int) → Option ((ByteArray × Int) ⊕ (ByteArray))
  | (s285, i286) =>
  if decide (i286 < (p0.Bufs.length : Int)) = true then (if CatOk s285 (⟨#[40]⟩ : ByteArray) then ((loopO (palingref2_Text_s3 i286 p0) ((s285 ++ (⟨#[40]⟩ : ByteArray)), 0)).bind fun r405 =>
        if CatOk r405 (⟨#[41]⟩ : ByteArray) then (some (.inl ((r405 ++ (⟨#[41]⟩ : ByteArray)), (IntKind.wrap .i64 (i286 + 1))))) else none) else none) else (some (.inr s285))

noncomputable def palingref2_Text (p0 : T_api_State) : Option (ByteArray) :=
(palingref2_row p0.Mem).bind fun v1 =>
  (loopO (palingref2_Text_s1 p0) (v1, 0)).bind fun r125 =>
  (loopO (palingref2_Text_s2 p0) (r125, 0)).bind fun r347 =>
    if CatOk r347 (⟨#[35]⟩ : ByteArray) then ((palingref1_Text p0.Lock).bind fun v425 =>
      if CatOk (r347 ++ (⟨#[35]⟩ : ByteArray)) v425 then (some ((r347 ++ (⟨#[35]⟩ : ByteArray)) ++ v425)) else none) else none
noncomputable def state_Text_s1 (p0 : T_api_State) : (Int × ByteArray) → Option ((Int × ByteArray) ⊕ (ByteArray))
  | (i60, s61) =>
  if decide (i60 < (p0.Thr.length : Int)) = true then (if InB i60 p0.Thr.length then ((num_Text ((rd p0.Thr i60).PC)).bind fun v95 =>
      if CatOk (⟨#[124]⟩ : ByteArray) v95 then (if CatOk ((⟨#[124]⟩ : ByteArray) ++ v95) (⟨#[46]⟩ : ByteArray) then ((num_Text ((rd p0.Thr i60).Phase)).bind fun v99 =>
      if CatOk (((⟨#[124]⟩ : ByteArray) ++ v95) ++ (⟨#[46]⟩ : ByteArray)) v99 then (if CatOk ((((⟨#[124]⟩ : ByteArray) ++ v95) ++ (⟨#[46]⟩ : ByteArray)) ++ v99) (⟨#[46]⟩ : ByteArray) then ((num_Text ((rd p0.Thr i60).Latch)).bind fun v103 =>
      if CatOk (((((⟨#[124]⟩ : ByteArray) ++ v95) ++ (⟨#[46]⟩ : ByteArray)) ++ v99) ++ (⟨#[46]⟩ : ByteArray)) v103 then (if CatOk ((((((⟨#[124]⟩ : ByteArray) ++ v95) ++ (⟨#[46]⟩ : ByteArray)) ++ v99) ++ (⟨#[46]⟩ : ByteArray)) ++ v103) (⟨#[46]⟩ : ByteArray) then ((num_Text ((rd p0.Thr i60).Status)).bind fun v107 =>
      if CatOk (((((((⟨#[124]⟩ : ByteArray) ++ v95) ++ (⟨#[46]⟩ : ByteArray)) ++ v99) ++ (⟨#[46]⟩ : ByteArray)) ++ v103) ++ (⟨#[46]⟩ : ByteArray)) v107 then (if CatOk ((((((((⟨#[124]⟩ : ByteArray) ++ v95) ++ (⟨#[46]⟩ : ByteArray)) ++ v99) ++ (⟨#[46]⟩ : ByteArray)) ++ v103) ++ (⟨#[46]⟩ : ByteArray)) ++ v107) (⟨#[46]⟩ : ByteArray) then ((state_flags ((rd p0.Thr i60).Flags)).bind fun v111 =>
      if CatOk (((((((((⟨#[124]⟩ : ByteArray) ++ v95) ++ (⟨#[46]⟩ : ByteArray)) ++ v99) ++ (⟨#[46]⟩ : ByteArray)) ++ v103) ++ (⟨#[46]⟩ : ByteArray)) ++ v107) ++ (⟨#[46]⟩ : ByteArray)) v111 then (if CatOk ((((((((((⟨#[124]⟩ : ByteArray) ++ v95) ++ (⟨#[46]⟩ : ByteArray)) ++ v99) ++ (⟨#[46]⟩ : ByteArray)) ++ v103) ++ (⟨#[46]⟩ : ByteArray)) ++ v107) ++ (⟨#[46]⟩ : ByteArray)) ++ v111) (⟨#[46]⟩ : ByteArray) then (if Fits (s61.size + (((((((((((⟨#[124]⟩ : ByteArray) ++ v95) ++ (⟨#[46]⟩ : ByteArray)) ++ v99) ++ (⟨#[46]⟩ : ByteArray)) ++ v103) ++ (⟨#[46]⟩ : ByteArray)) ++ v107) ++ (⟨#[46]⟩ : ByteArray)) ++ v111) ++ (⟨#[46]⟩ : ByteArray)).size) then ((some (s61 ++ (((((((((((⟨#[124]⟩ : ByteArray) ++ v95) ++ (⟨#[46]⟩ : ByteArray)) ++ v99) ++ (⟨#[46]⟩ : ByteArray)) ++ v103) ++ (⟨#[46]⟩ : ByteArray)) ++ v107) ++ (⟨#[46]⟩ : ByteArray)) ++ v111) ++ (⟨#[46]⟩ : ByteArray)))).bind fun s116 =>
      (state_numbers s116 ([((rd p0.Thr i60).Regs.a0), ((rd p0.Thr i60).Regs.a1), ((rd p0.Thr i60).Regs.a2), ((rd p0.Thr i60).Regs.a3), ((rd p0.Thr i60).Regs.a4), ((rd p0.Thr i60).Regs.a5), ((rd p0.Thr i60).Regs.a6), ((rd p0.Thr i60).Regs.a7)])).bind fun s118 =>
      some (.inl ((IntKind.wrap .i64 (i60 + 1)), s118))) else none) else none) else none) else none) else none) else none) else none) else none) else none) else none) else none) else none) else (some (.inr s61))

noncomputable def state_Text_j1 (i369 : Int) (s395 : ByteArray) : Option ((Int × ByteArray) ⊕ (ByteArray)) :=
  some (.inl ((IntKind.wrap .i64 (i369 + 1)), s395))

noncomputable def state_Text_j2 (p0 : T_api_State) (i257 : Int) (i369 : Int) (s398 : ByteArray) : Option ((Int × ByteArray) ⊕ (ByteArray)) :=
  (num_Text ((rd (rd p0.Bufs i257) i369).Addr)).bind fun v400 =>
                if CatOk v400 (⟨#[61]⟩ : ByteArray) then ((num_Text ((rd (rd p0.Bufs i257) i369).Val)).bind fun v403 =>
                if CatOk (v400 ++ (⟨#[61]⟩ : ByteArray)) v403 then (if Fits (s398.size + ((v400 ++ (⟨#[61]⟩ : ByteArray)) ++ v403).size) then ((some (s398 ++ ((v400 ++ (⟨#[61]⟩ : ByteArray)) ++ v403))).bind fun s407 =>
                state_Text_j1 i369 s407) else none) else none) else none

noncomputable def state_Text_s3 (p0 : T_api_State) (i257 : Int) : (Int × ByteArray) → Option ((Int × ByteArray) ⊕ (ByteArray))
  | (i369, s370) =>
  if decide (i369 < ((rd p0.Bufs i257).length : Int)) = true then (if InB i369 (rd p0.Bufs i257).length then (if decide (i369 > 0) = true then (if Fits (s370.size + (⟨#[44]⟩ : ByteArray).size) then ((some (s370 ++ (⟨#[44]⟩ : ByteArray))).bind fun s411 =>
                  state_Text_j2 p0 i257 i369 s411) else none) else (state_Text_j2 p0 i257 i369 s370)) else none) else (some (.inr s370))

noncomputable def state_Text_s2 (p0 : T_api_State) : (Int × ByteArray) → Option ((Int × ByteArray) ⊕ (ByteArray))
  | (i257, s258) =>
  if decide (i257 < (p0.Bufs.length : Int)) = true then (if InB i257 p0.Bufs.length then (if Fits (s258.size + (⟨#[40]⟩ : ByteArray).size) then ((some (s258 ++ (⟨#[40]⟩ : ByteArray))).bind fun s333 =>
        (loopO (state_Text_s3 p0 i257) (0, s333)).bind fun r393 =>
        if Fits (r393.size + (⟨#[41]⟩ : ByteArray).size) then ((some (r393 ++ (⟨#[41]⟩ : ByteArray))).bind fun s414 =>
          some (.inl ((IntKind.wrap .i64 (i257 + 1)), s414))) else none) else none) else none) else (some (.inr s258))

noncomputable def state_Text (p0 : T_api_State) : Option (ByteArray) :=
(state_numbers (⟨#[]⟩ : ByteArray) p0.Mem).bind fun s1 =>
  (loopO (state_Text_s1 p0) (0, s1)).bind fun r92 =>
  (loopO (state_Text_s2 p0) (0, r92)).bind fun r329 =>
    (num_Text p0.Lock).bind fun v416 =>
      if CatOk (⟨#[35]⟩ : ByteArray) v416 then (if Fits (r329.size + ((⟨#[35]⟩ : ByteArray) ++ v416).size) then ((some (r329 ++ ((⟨#[35]⟩ : ByteArray) ++ v416))).bind fun s420 =>
      if Fits s420.size then (some s420) else none) else none) else none
end Go.Vs
