import Derived.Test.YtocjejladeeckaaDoorPalT
import Derived.Test.YtocjejladeeckaaDoorPalA
import Derived.Test.YtocjejladeeckaaDoorPalNum
import Derived.Test.YtocjejladeeckaaDoorPalUtf
set_option linter.unusedVariables false
set_option linter.unusedSectionVars false
namespace Go.Vs
noncomputable def lex_wrong (p0 : T_api_Token) (p1 : Int) : Option (Int) :=
if ((p0.Kind == 1) && decide (p1 > 16)) = true then (some 3) else (if (p0.Kind == 2) = true then ((num_Read p0.Text).bind fun v4 =>
      if (!v4.2) = true then (some 2) else (some 0)) else (some 0))
noncomputable def glyph_Spots_j1 (l38 : List T_glyph_Spot) (p0 : ByteArray) (n37 : Nat) (i35 : Int) (i36 : Int) (i58 : Int) (b59 : Bool) : Option ((Int × Int × Nat × (List T_glyph_Spot)) ⊕ ((List T_glyph_Spot))) :=
  if Fits (l38.length + 1) then ((some (l38 ++ ([(T_glyph_Spot.mk ((Utf8.decode p0 n37).1 : Int) (n37 : Int) i58 i35 i36 b59)]))).bind fun l61 =>
        (glyph_step i35 i36 ((Utf8.decode p0 n37).1 : Int)).bind fun v63 =>
        some (.inl (v63.1, v63.2, (n37 + (Utf8.decode p0 n37).2), l61))) else none

noncomputable def glyph_Spots_s1 (p0 : ByteArray) : (Int × Int × Nat × (List T_glyph_Spot)) → Option ((Int × Int × Nat × (List T_glyph_Spot)) ⊕ ((List T_glyph_Spot)))
  | (i35, i36, n37, l38) =>
  if n37 < p0.size then (if (((Utf8.decode p0 n37).1 : Int) == 65533) = true then (if Bnd (n37 : Int) p0.size then ((unicode_utf8_DecodeRuneInString (p0.extract ((n37 : Int).toNat) p0.size)).bind fun v67 =>
          glyph_Spots_j1 l38 p0 n37 i35 i36 v67.2 (v67.2 == 1)) else none) else ((unicode_utf8_RuneLen ((Utf8.decode p0 n37).1 : Int)).bind fun v69 =>
          glyph_Spots_j1 l38 p0 n37 i35 i36 v69 false)) else (some (.inr l38))

noncomputable def glyph_Spots (p0 : ByteArray) : Option ((List T_glyph_Spot)) :=
(loopO (glyph_Spots_s1 p0) (1, 1, 0, [])).bind fun r56 =>
  some r56
noncomputable def palingref1_Spots_j1 (p0 : ByteArray) (n24 : Nat) (i22 : Int) (i23 : Int) (l42 : List T_palingref1_Spot) : Option ((Int × Int × Nat × (List T_palingref1_Spot)) ⊕ ((List T_palingref1_Spot))) :=
  if Fits (l42.length + 1) then ((some (l42 ++ ([(T_palingref1_Spot.mk ((Utf8.decode p0 n24).1 : Int) (n24 : Int) 0 i22 i23 false)]))).bind fun l44 =>
        if (((Utf8.decode p0 n24).1 : Int) == 10) = true then (some (.inl ((IntKind.wrap .i64 (i22 + 1)), 1, (n24 + (Utf8.decode p0 n24).2), l44))) else (some (.inl (i22, (IntKind.wrap .i64 (i23 + 1)), (n24 + (Utf8.decode p0 n24).2), l44)))) else none

noncomputable def palingref1_Spots_s1 (p0 : ByteArray) : (Int × Int × Nat × (List T_palingref1_Spot)) → Option ((Int × Int × Nat × (List T_palingref1_Spot)) ⊕ ((List T_palingref1_Spot)))
  | (i22, i23, n24, l25) =>
  if n24 < p0.size then (if decide ((l25.length : Int) > 0) = true then (if InB (IntKind.wrap .i64 ((l25.length : Int) - 1)) l25.length then (if InB (IntKind.wrap .i64 ((l25.length : Int) - 1)) l25.length then ((some (l25.set (IntKind.wrap .i64 ((l25.length : Int) - 1)).toNat (T_palingref1_Spot.mk ((rd l25 (IntKind.wrap .i64 ((l25.length : Int) - 1))).Rune) ((rd l25 (IntKind.wrap .i64 ((l25.length : Int) - 1))).At) (IntKind.wrap .i64 ((n24 : Int) - (rd l25 (IntKind.wrap .i64 ((l25.length : Int) - 1))).At)) ((rd l25 (IntKind.wrap .i64 ((l25.length : Int) - 1))).Line) ((rd l25 (IntKind.wrap .i64 ((l25.length : Int) - 1))).Col) ((rd l25 (IntKind.wrap .i64 ((l25.length : Int) - 1))).Bad)))).bind fun l50 =>
          palingref1_Spots_j1 p0 n24 i22 i23 l50) else none) else none) else (palingref1_Spots_j1 p0 n24 i22 i23 l25)) else (some (.inr l25))

noncomputable def palingref1_Spots_s2 : (Int × (List T_palingref1_Spot)) → Option ((Int × (List T_palingref1_Spot)) ⊕ ((List T_palingref1_Spot)))
  | (i67, l68) =>
  if decide (i67 < (l68.length : Int)) = true then (if InB i67 l68.length then (if (((rd l68 i67).Rune == 65533) = true → InB i67 l68.length) then (if InB i67 l68.length then ((some (l68.set i67.toNat (T_palingref1_Spot.mk ((rd l68 i67).Rune) ((rd l68 i67).At) ((rd l68 i67).Size) ((rd l68 i67).Line) ((rd l68 i67).Col) (((rd l68 i67).Rune == 65533) && ((rd l68 i67).Size == 1))))).bind fun l81 =>
          some (.inl ((IntKind.wrap .i64 (i67 + 1)), l81))) else none) else none) else none) else (some (.inr l68))

noncomputable def palingref1_Spots_j2 (l52 : List T_palingref1_Spot) : Option ((List T_palingref1_Spot)) :=
  (loopO (palingref1_Spots_s2) (0, l52)).bind fun r76 =>
      some r76

noncomputable def palingref1_Spots (p0 : ByteArray) : Option ((List T_palingref1_Spot)) :=
(loopO (palingref1_Spots_s1 p0) (1, 1, 0, [])).bind fun r40 =>
  if decide ((r40.length : Int) > 0) = true then (if InB (IntKind.wrap .i64 ((r40.length : Int) - 1)) r40.length then (if InB (IntKind.wrap .i64 ((r40.length : Int) - 1)) r40.length then ((some (r40.set (IntKind.wrap .i64 ((r40.length : Int) - 1)).toNat (T_palingref1_Spot.mk ((rd r40 (IntKind.wrap .i64 ((r40.length : Int) - 1))).Rune) ((rd r40 (IntKind.wrap .i64 ((r40.length : Int) - 1))).At) (IntKind.wrap .i64 ((p0.size : Int) - (rd r40 (IntKind.wrap .i64 ((r40.length : Int) - 1))).At)) ((rd r40 (IntKind.wrap .i64 ((r40.length : Int) - 1))).Line) ((rd r40 (IntKind.wrap .i64 ((r40.length : Int) - 1))).Col) ((rd r40 (IntKind.wrap .i64 ((r40.length : Int) - 1))).Bad)))).bind fun l87 =>
        palingref1_Spots_j2  l87) else none) else none) else (palingref1_Spots_j2  r40)
noncomputable def palingref1_End (p0 : ByteArray) : Option (Int × Int) :=
(palingref1_Spots p0).bind fun v1 =>
  if ((v1.length : Int) == 0) = true then (some (1, 1)) else (if InB (IntKind.wrap .i64 ((v1.length : Int) - 1)) v1.length then (if ((rd v1 (IntKind.wrap .i64 ((v1.length : Int) - 1))).Rune == 10) = true then ((some (IntKind.wrap .i64 ((rd v1 (IntKind.wrap .i64 ((v1.length : Int) - 1))).Line + 1))).bind fun n6 =>
      some (n6, 1)) else ((some (IntKind.wrap .i64 ((rd v1 (IntKind.wrap .i64 ((v1.length : Int) - 1))).Col + 1))).bind fun n8 =>
      some ((rd v1 (IntKind.wrap .i64 ((v1.length : Int) - 1))).Line, n8))) else none)
noncomputable def palingbook_SameTokens_s1 (p0 : (List T_api_Token)) (p1 : (List T_api_Token)) : Int → Option ((Int) ⊕ ((Unit) ⊕ (Bool)))
  | i17 =>
  if decide (i17 < (p0.length : Int)) = true then (if InB i17 p0.length then (if InB i17 p1.length then ((some (!(((rd p0 i17).Kind == (rd p1 i17).Kind) && (((rd p0 i17).Line == (rd p1 i17).Line) && (((rd p0 i17).Col == (rd p1 i17).Col) && ((rd p0 i17).Text == (rd p1 i17).Text)))))).bind fun b28 =>
        if b28 = true then (some (.inr (.inr false))) else (some (.inl (IntKind.wrap .i64 (i17 + 1))))) else none) else none) else (some (.inr (.inl ())))

noncomputable def palingbook_SameTokens (p0 : (List T_api_Token)) (p1 : (List T_api_Token)) : Option (Bool) :=
if ((p0.length : Int) != (p1.length : Int)) = true then (some false) else ((loopO (palingbook_SameTokens_s1 p0 p1) 0).bind (onSum (fun er24 =>
    some true) (fun qr24 => some qr24)))
end Go.Vs
