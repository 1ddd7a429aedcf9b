import Derived.Test.YtocjejladeeckaaGreatDoorPalT
import Derived.Test.YtocjejladeeckaaGreatDoorPalB
import Derived.Test.YtocjejladeeckaaGreatDoorPalNum
set_option linter.all false
namespace Go.Vs
noncomputable def zbn (p0 : ByteArray) (n24 : Nat) (i22 : Int) (i23 : Int) (l42 : List zap) : Option ((Int × Int × Nat × (List zap)) ⊕ ((List zap))) :=
 if Fits (l42.length + 1) then ((some (l42 ++ ([(zap.mk ((Utf8.decode p0 n24).1 : Int) (n24 : Int) 0 i22 i23 false)]))).bind fun l44 =>
    if (((Utf8.decode p0 n24).1 : Int) == 10) = true then (some (.inl ((IntKind.wrap .i64 (i22 + 1)), 1, (n24 + (Utf8.decode p0 n24).2), l44))) else (some (.inl (i22, (IntKind.wrap .i64 (i23 + 1)), (n24 + (Utf8.decode p0 n24).2), l44)))) else none
noncomputable def zaX (p0 : ByteArray) : (Int × Int × Nat × (List zap)) -> Option ((Int × Int × Nat × (List zap)) ⊕ ((List zap)))
 | (i22, i23, n24, l25) =>
 if n24 < p0.size then (if decide ((l25.length : Int) > 0) = true then (if InB (IntKind.wrap .i64 ((l25.length : Int) - 1)) l25.length then (if InB (IntKind.wrap .i64 ((l25.length : Int) - 1)) l25.length then ((some (l25.set (IntKind.wrap .i64 ((l25.length : Int) - 1)).toNat (zap.mk ((rd l25 (IntKind.wrap .i64 ((l25.length : Int) - 1))).Rune) ((rd l25 (IntKind.wrap .i64 ((l25.length : Int) - 1))).At) (IntKind.wrap .i64 ((n24 : Int) - (rd l25 (IntKind.wrap .i64 ((l25.length : Int) - 1))).At)) ((rd l25 (IntKind.wrap .i64 ((l25.length : Int) - 1))).Line) ((rd l25 (IntKind.wrap .i64 ((l25.length : Int) - 1))).Col) ((rd l25 (IntKind.wrap .i64 ((l25.length : Int) - 1))).Bad)))).bind fun l50 =>
         zbn p0 n24 i22 i23 l50) else none) else none) else (zbn p0 n24 i22 i23 l25)) else (some (.inr l25))
noncomputable def zbm : (Int × (List zap)) -> Option ((Int × (List zap)) ⊕ ((List zap)))
 | (i67, l68) =>
 if decide (i67 < (l68.length : Int)) = true then (if InB i67 l68.length then (if (((rd l68 i67).Rune == 65533) = true -> InB i67 l68.length) then (if InB i67 l68.length then ((some (l68.set i67.toNat (zap.mk ((rd l68 i67).Rune) ((rd l68 i67).At) ((rd l68 i67).Size) ((rd l68 i67).Line) ((rd l68 i67).Col) (((rd l68 i67).Rune == 65533) && ((rd l68 i67).Size == 1))))).bind fun l81 =>
         some (.inl ((IntKind.wrap .i64 (i67 + 1)), l81))) else none) else none) else none) else (some (.inr l68))
noncomputable def zcc (l52 : List zap) : Option ((List zap)) :=
 (za4 (zbm) (0, l52)).bind fun r76 =>
   some r76
noncomputable def zcr (p0 : ByteArray) : Option ((List zap)) :=
(za4 (zaX p0) (1, 1, 0, [])).bind fun r40 =>
 if decide ((r40.length : Int) > 0) = true then (if InB (IntKind.wrap .i64 ((r40.length : Int) - 1)) r40.length then (if InB (IntKind.wrap .i64 ((r40.length : Int) - 1)) r40.length then ((some (r40.set (IntKind.wrap .i64 ((r40.length : Int) - 1)).toNat (zap.mk ((rd r40 (IntKind.wrap .i64 ((r40.length : Int) - 1))).Rune) ((rd r40 (IntKind.wrap .i64 ((r40.length : Int) - 1))).At) (IntKind.wrap .i64 ((p0.size : Int) - (rd r40 (IntKind.wrap .i64 ((r40.length : Int) - 1))).At)) ((rd r40 (IntKind.wrap .i64 ((r40.length : Int) - 1))).Line) ((rd r40 (IntKind.wrap .i64 ((r40.length : Int) - 1))).Col) ((rd r40 (IntKind.wrap .i64 ((r40.length : Int) - 1))).Bad)))).bind fun l86 =>
    zcc  l86) else none) else none) else (zcc  r40)
noncomputable def zdq : Option ((List ByteArray)) :=
(some ([(⟨#[114, 97, 120]⟩ : ByteArray), (⟨#[114, 98, 120]⟩ : ByteArray), (⟨#[114, 99, 120]⟩ : ByteArray), (⟨#[114, 100, 120]⟩ : ByteArray), (⟨#[114, 115, 105]⟩ : ByteArray), (⟨#[114, 100, 105]⟩ : ByteArray), (⟨#[114, 56]⟩ : ByteArray), (⟨#[114, 57]⟩ : ByteArray)])).bind fun l1 =>
 some l1
noncomputable def zdb (p0 : (List ByteArray)) (p1 : ByteArray) : Int -> Option ((Int) ⊕ ((Unit) ⊕ (Int)))
 | i9 =>
 if decide (i9 < (p0.length : Int)) = true then (if InB i9 p0.length then (if decide ((rd p0 i9) = p1) = true then (some (.inr (.inr i9))) else (some (.inl (IntKind.wrap .i64 (i9 + 1))))) else none) else (some (.inr (.inl ())))
noncomputable def zaW (p0 : (List ByteArray)) (p1 : ByteArray) : Option (Int) :=
(za4 (zdb p0 p1) 0).bind (zbU (fun er13 =>
 some (-1)) (fun qr13 => some qr13))
noncomputable def zdK : Option ((List ByteArray)) :=
(some ([(⟨#[]⟩ : ByteArray), (⟨#[109, 111, 118]⟩ : ByteArray), (⟨#[97, 100, 100]⟩ : ByteArray), (⟨#[115, 117, 98]⟩ : ByteArray), (⟨#[97, 110, 100]⟩ : ByteArray), (⟨#[111, 114]⟩ : ByteArray), (⟨#[120, 111, 114]⟩ : ByteArray), (⟨#[99, 109, 112]⟩ : ByteArray), (⟨#[120, 99, 104, 103]⟩ : ByteArray), (⟨#[99, 109, 112, 120, 99, 104, 103]⟩ : ByteArray), (⟨#[106, 109, 112]⟩ : ByteArray), (⟨#[]⟩ : ByteArray), (⟨#[109, 102, 101, 110, 99, 101]⟩ : ByteArray), (⟨#[110, 111, 112]⟩ : ByteArray), (⟨#[104, 108, 116]⟩ : ByteArray)])).bind fun l1 =>
 some l1
noncomputable def zde : Option ((List ByteArray)) :=
(some ([(⟨#[]⟩ : ByteArray), (⟨#[106, 101]⟩ : ByteArray), (⟨#[106, 110, 101]⟩ : ByteArray), (⟨#[106, 108]⟩ : ByteArray), (⟨#[106, 108, 101]⟩ : ByteArray), (⟨#[106, 103]⟩ : ByteArray), (⟨#[106, 103, 101]⟩ : ByteArray), (⟨#[106, 98]⟩ : ByteArray), (⟨#[106, 98, 101]⟩ : ByteArray), (⟨#[106, 97]⟩ : ByteArray), (⟨#[106, 97, 101]⟩ : ByteArray)])).bind fun l1 =>
 some l1
noncomputable def zcz (p0 : ByteArray) : Option (Bool) :=
(if ((!decide (p0 = (⟨#[]⟩ : ByteArray))) && (!((decide (p0 = (⟨#[115, 121, 109]⟩ : ByteArray)) || decide (p0 = (⟨#[116, 104, 114, 101, 97, 100]⟩ : ByteArray))) || decide (p0 = (⟨#[108, 111, 99, 107]⟩ : ByteArray))))) = true then zdq else some default).bind fun v1 =>
 (if ((!decide (p0 = (⟨#[]⟩ : ByteArray))) && (!((decide (p0 = (⟨#[115, 121, 109]⟩ : ByteArray)) || decide (p0 = (⟨#[116, 104, 114, 101, 97, 100]⟩ : ByteArray))) || decide (p0 = (⟨#[108, 111, 99, 107]⟩ : ByteArray))))) = true then zaW v1 p0 else some default).bind fun v3 =>
 (if ((!decide (p0 = (⟨#[]⟩ : ByteArray))) && (!(((decide (p0 = (⟨#[115, 121, 109]⟩ : ByteArray)) || decide (p0 = (⟨#[116, 104, 114, 101, 97, 100]⟩ : ByteArray))) || decide (p0 = (⟨#[108, 111, 99, 107]⟩ : ByteArray))) || decide (v3 ≥ 0)))) = true then zdK else some default).bind fun v5 =>
 (if ((!decide (p0 = (⟨#[]⟩ : ByteArray))) && (!(((decide (p0 = (⟨#[115, 121, 109]⟩ : ByteArray)) || decide (p0 = (⟨#[116, 104, 114, 101, 97, 100]⟩ : ByteArray))) || decide (p0 = (⟨#[108, 111, 99, 107]⟩ : ByteArray))) || decide (v3 ≥ 0)))) = true then zaW v5 p0 else some default).bind fun v7 =>
 (if ((!decide (p0 = (⟨#[]⟩ : ByteArray))) && (!((((decide (p0 = (⟨#[115, 121, 109]⟩ : ByteArray)) || decide (p0 = (⟨#[116, 104, 114, 101, 97, 100]⟩ : ByteArray))) || decide (p0 = (⟨#[108, 111, 99, 107]⟩ : ByteArray))) || decide (v3 ≥ 0)) || decide (v7 > 0)))) = true then zde else some default).bind fun v9 =>
 (if ((!decide (p0 = (⟨#[]⟩ : ByteArray))) && (!((((decide (p0 = (⟨#[115, 121, 109]⟩ : ByteArray)) || decide (p0 = (⟨#[116, 104, 114, 101, 97, 100]⟩ : ByteArray))) || decide (p0 = (⟨#[108, 111, 99, 107]⟩ : ByteArray))) || decide (v3 ≥ 0)) || decide (v7 > 0)))) = true then zaW v9 p0 else some default).bind fun v11 =>
 (some ((!decide (p0 = (⟨#[]⟩ : ByteArray))) && (((((decide (p0 = (⟨#[115, 121, 109]⟩ : ByteArray)) || decide (p0 = (⟨#[116, 104, 114, 101, 97, 100]⟩ : ByteArray))) || decide (p0 = (⟨#[108, 111, 99, 107]⟩ : ByteArray))) || decide (v3 ≥ 0)) || decide (v7 > 0)) || decide (v11 > 0)))).bind fun b13 =>
 some b13
noncomputable def zgE (v1 : (List zap)) : Int -> Option ((Int) ⊕ ((Unit) ⊕ (Bool)))
 | i25 =>
 if decide (i25 < (v1.length : Int)) = true then (if InB i25 v1.length then (if ((!(rd v1 i25).Bad) = true -> InB i25 v1.length) then ((if (!(rd v1 i25).Bad) = true then zcf ((rd v1 i25).Rune) else some default).bind fun v39 =>
    if ((((!(rd v1 i25).Bad) && (!v39)) && (!(i25 == 0))) = true -> InB i25 v1.length) then ((if (((!(rd v1 i25).Bad) && (!v39)) && (!(i25 == 0))) = true then zcK ((rd v1 i25).Rune) else some default).bind fun v42 =>
    if ((rd v1 i25).Bad || ((!v39) && ((i25 == 0) || (!v42)))) = true then (some (.inr (.inr false))) else (some (.inl (IntKind.wrap .i64 (i25 + 1))))) else none) else none) else none) else (some (.inr (.inl ())))
noncomputable def zhL (p0 : ByteArray) : Option (Bool) :=
(zcr p0).bind fun v1 =>
 (if (!(decide ((v1.length : Int) < 1) || decide ((v1.length : Int) > 16))) = true then zcz p0 else some default).bind fun v3 =>
 if ((decide ((v1.length : Int) < 1) || decide ((v1.length : Int) > 16)) || v3) = true then (some false) else ((za4 (zgE v1) 0).bind (zbU (fun er35 =>
  some true) (fun qr35 => some qr35)))
noncomputable def zce (p0 : zar) : Option (Bool) :=
if (p0.Kind == 1) = true then (some (((decide (p0.Reg ≥ 0) && decide (p0.Reg <= 7)) && (p0.Sym == 0)) && (p0.N == 0))) else (if (p0.Kind == 2) = true then (some ((p0.Reg == 0) && (p0.Sym == 0))) else (if (p0.Kind == 3) = true then (some ((decide (p0.Sym ≥ 0) && decide (p0.N ≥ 0)) && (p0.Reg == 0))) else (if (p0.Kind == 4) = true then (some (((decide (p0.Sym ≥ 0) && decide (p0.Reg ≥ 0)) && decide (p0.Reg <= 7)) && (p0.N == 0))) else (some false))))
noncomputable def zbG (p0 : zar) : Option (Bool) :=
some ((p0.Kind == 3) || (p0.Kind == 4))
noncomputable def zcI (p0 : zar) : Option (Bool) :=
some ((p0.Kind == 1) || (p0.Kind == 2))
noncomputable def zcn (p0 : Int) : Option (Bool) :=
some (decide (p0 ≥ 2) && decide (p0 <= 6))
noncomputable def zdH (p0 : zaj) : Option (Bool) :=
if (decide (p0.Op < 1) || decide (p0.Op > 9)) = true then ((some ((((p0.A.Kind == 0) && ((p0.A.Reg == 0) && ((p0.A.Sym == 0) && (p0.A.N == 0)))) && ((p0.B.Kind == 0) && ((p0.B.Reg == 0) && ((p0.B.Sym == 0) && (p0.B.N == 0))))) && (!p0.Lock))).bind fun b2 =>
  some b2) else ((zce p0.A).bind fun v4 =>
  (if (!(!v4)) = true then zce p0.B else some default).bind fun v6 =>
  if ((!v4) || (!v6)) = true then (some false) else (if (p0.Op == 8) = true then ((zbG p0.A).bind fun v11 =>
    some ((v11 && (p0.B.Kind == 1)) && (!p0.Lock))) else (if (p0.Op == 9) = true then ((zbG p0.A).bind fun v14 =>
     some ((v14 && (p0.B.Kind == 1)) && p0.Lock)) else (if (p0.A.Kind == 1) = true then ((zcI p0.B).bind fun v17 =>
      (if (!v17) = true then zbG p0.B else some default).bind fun v19 =>
      some ((v17 || v19) && (!p0.Lock))) else ((zbG p0.A).bind fun v21 =>
      (if v21 = true then zcI p0.B else some default).bind fun v23 =>
      (if ((v21 && v23) && (!(!p0.Lock))) = true then zcn p0.Op else some default).bind fun v25 =>
      some ((v21 && v23) && ((!p0.Lock) || v25)))))))
noncomputable def zdf (p0 : Int) : Option (Bool) :=
some ((p0 == 10) || (p0 == 11))
noncomputable def zcp (p0 : zag) (p1 : ByteArray) : Int -> Option ((Int) ⊕ ((Unit) ⊕ (Int)))
 | i12 =>
 if decide (i12 < (p0.Ins.length : Int)) = true then (if InB i12 p0.Ins.length then ((zaW ((rd p0.Ins i12).zLb) p1).bind fun v21 =>
   if decide (v21 ≥ 0) = true then (some (.inr (.inr i12))) else (some (.inl (IntKind.wrap .i64 (i12 + 1))))) else none) else (some (.inr (.inl ())))
noncomputable def zdr (p0 : zag) (p1 : ByteArray) : Option (Int) :=
(za4 (zcp p0 p1) 0).bind (zbU (fun er18 =>
 some (-1)) (fun qr18 => some qr18))
noncomputable def zkG (p1 : zag) (i125 : Int) : (Int × (List ByteArray)) -> Option ((Int × (List ByteArray)) ⊕ (((List ByteArray)) ⊕ (Int)))
 | (i219, l220) =>
 if decide (i219 < (((rd p1.Ins i125).zLb).length : Int)) = true then (if InB i219 ((rd p1.Ins i125).zLb).length then ((zhL (rd ((rd p1.Ins i125).zLb) i219)).bind fun v240 =>
           if (!v240) = true then (some (.inr (.inr 3))) else (if InB i219 ((rd p1.Ins i125).zLb).length then ((zaW l220 (rd ((rd p1.Ins i125).zLb) i219)).bind fun v244 =>
       if decide (v244 ≥ 0) = true then (some (.inr (.inr 6))) else (if InB i219 ((rd p1.Ins i125).zLb).length then (if Fits (l220.length + 1) then ((some (l220 ++ ([(rd ((rd p1.Ins i125).zLb) i219)]))).bind fun l249 =>
        some (.inl ((IntKind.wrap .i64 (i219 + 1)), l249))) else none) else none)) else none)) else none) else (some (.inr (.inl l220)))
noncomputable def zcF (p0 : zaq) : (Int × (List ByteArray)) -> Option ((Int × (List ByteArray)) ⊕ ((List ByteArray)))
 | (i14, l15) =>
 if decide (i14 < (p0.zSy.length : Int)) = true then (if InB i14 p0.zSy.length then (if Fits (l15.length + 1) then ((some (l15 ++ ([(rd p0.zSy i14).Name]))).bind fun l28 =>
   some (.inl ((IntKind.wrap .i64 (i14 + 1)), l28))) else none) else none) else (some (.inr l15))
noncomputable def zeF (p0 : zaq) : Option ((List ByteArray)) :=
(za4 (zcF p0) (0, [])).bind fun r24 =>
 some r24
end Go.Vs
