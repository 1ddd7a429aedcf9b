import Derived.Test.YtocjejladeeckaaDoorPalT
import Derived.Test.YtocjejladeeckaaDoorPalB
import Derived.Test.YtocjejladeeckaaDoorPalA
import Derived.Test.YtocjejladeeckaaDoorPalNum
import Derived.Test.YtocjejladeeckaaDoorPalUtf
set_option linter.unusedVariables false
set_option linter.unusedSectionVars false
namespace Go.Vs
noncomputable def lex_Tokens_s2 (v1 : (List T_glyph_Spot)) : Int → Option ((Int) ⊕ ((Int) ⊕ ((List T_api_Token) × T_api_Fault)))
  | i195 =>
  if (decide (i195 < (v1.length : Int)) = true → InB i195 v1.length) then (if (decide (i195 < (v1.length : Int)) && ((rd v1 i195).Rune != 10)) = true then (if InB i195 v1.length then (if (rd v1 i195).Bad = true then (if InB i195 v1.length then ((lex_fault 1 (rd v1 i195)).bind fun v211 =>
                  some (.inr (.inr ([], v211)))) else none) else (some (.inl (IntKind.wrap .i64 (i195 + 1))))) else none) else (some (.inr (.inl i195)))) else none

noncomputable def lex_Tokens_s1 (v1 : (List T_glyph_Spot)) (p0 : ByteArray) : (Int × (List T_api_Token)) → Option ((Int × (List T_api_Token)) ⊕ (((List T_api_Token)) ⊕ ((List T_api_Token) × T_api_Fault)))
  | (i112, l113) =>
  if decide (i112 < (v1.length : Int)) = true then (if InB i112 v1.length then (if (rd v1 i112).Bad = true then ((lex_fault 1 (rd v1 i112)).bind fun v174 =>
        some (.inr (.inr ([], v174)))) else ((glyph_Blank ((rd v1 i112).Rune)).bind fun v176 =>
        if v176 = true then (some (.inl ((IntKind.wrap .i64 (i112 + 1)), l113))) else (if ((rd v1 i112).Rune == 59) = true then ((loopO (lex_Tokens_s2 v1) i112).bind (onSum (fun er204 =>
            some (.inl (er204, l113))) (fun qr204 => some (.inr (.inr qr204))))) else ((lex_run v1 i112).bind fun v213 =>
            if (v213.2 == 0) = true then ((lex_fault 1 (rd v1 i112)).bind fun v216 =>
              some (.inr (.inr ([], v216)))) else (if InB (IntKind.wrap .i64 (v213.1 - 1)) v1.length then (if InB (IntKind.wrap .i64 (v213.1 - 1)) v1.length then (if Bnd (IntKind.wrap .i64 ((rd v1 (IntKind.wrap .i64 (v213.1 - 1))).At + (rd v1 (IntKind.wrap .i64 (v213.1 - 1))).Size)) p0.size then (if Bnd ((rd v1 i112).At) ((IntKind.wrap .i64 ((rd v1 (IntKind.wrap .i64 (v213.1 - 1))).At + (rd v1 (IntKind.wrap .i64 (v213.1 - 1))).Size)).toNat) then ((some (p0.extract (((rd v1 i112).At).toNat) ((IntKind.wrap .i64 ((rd v1 (IntKind.wrap .i64 (v213.1 - 1))).At + (rd v1 (IntKind.wrap .i64 (v213.1 - 1))).Size)).toNat))).bind fun s222 =>
              (lex_wrong (T_api_Token.mk v213.2 ((rd v1 i112).Line) ((rd v1 i112).Col) s222) (IntKind.wrap .i64 (v213.1 - i112))).bind fun v224 =>
              if (v224 != 0) = true then ((lex_fault v224 (rd v1 i112)).bind fun v227 =>
                some (.inr (.inr ([], v227)))) else (if Fits (l113.length + 1) then ((some (l113 ++ ([(T_api_Token.mk v213.2 ((rd v1 i112).Line) ((rd v1 i112).Col) s222)]))).bind fun l230 =>
                some (.inl (v213.1, l230))) else none)) else none) else none) else none) else none))))) else none) else (some (.inr (.inl l113)))

noncomputable def lex_Tokens (p0 : ByteArray) : Option ((List T_api_Token) × T_api_Fault) :=
(glyph_Spots p0).bind fun v1 =>
  (loopO (lex_Tokens_s1 v1 p0) (0, [])).bind (onSum (fun er170 =>
  (glyph_End p0).bind fun v232 =>
      if Fits (er170.length + 1) then ((some (er170 ++ ([(T_api_Token.mk 4 v232.1 v232.2 (⟨#[]⟩ : ByteArray))]))).bind fun l235 =>
      some (l235, (T_api_Fault.mk 0 0 0))) else none) (fun qr170 => some qr170))
noncomputable def palingref1_Tokens_j3 (i291 : Int) (l301 : List T_api_Token) : Option ((Int × (List T_api_Token)) ⊕ (((List T_api_Token)) ⊕ ((List T_api_Token) × T_api_Fault))) :=
  some (.inl (i291, l301))

noncomputable def palingref1_Tokens_j2 (i292 : Int) (l192 : List T_api_Token) (v1 : (List T_palingref1_Spot)) (i191 : Int) (s297 : ByteArray) (i291 : Int) : Option ((Int × (List T_api_Token)) ⊕ (((List T_api_Token)) ⊕ ((List T_api_Token) × T_api_Fault))) :=
  if (i292 != 0) = true then (if Fits (l192.length + 1) then ((some (l192 ++ ([(T_api_Token.mk i292 ((rd v1 i191).Line) ((rd v1 i191).Col) s297)]))).bind fun l305 =>
                palingref1_Tokens_j3 i291 l305) else none) else (palingref1_Tokens_j3 i291 l192)

noncomputable def palingref1_Tokens_j1 (v1 : (List T_palingref1_Spot)) (p0 : ByteArray) (i191 : Int) (l192 : List T_api_Token) (i291 : Int) (i292 : Int) : Option ((Int × (List T_api_Token)) ⊕ (((List T_api_Token)) ⊕ ((List T_api_Token) × T_api_Fault))) :=
  if InB (IntKind.wrap .i64 (i291 - 1)) v1.length then (if InB (IntKind.wrap .i64 (i291 - 1)) v1.length then (if Bnd (IntKind.wrap .i64 ((rd v1 (IntKind.wrap .i64 (i291 - 1))).At + (rd v1 (IntKind.wrap .i64 (i291 - 1))).Size)) p0.size then (if Bnd ((rd v1 i191).At) ((IntKind.wrap .i64 ((rd v1 (IntKind.wrap .i64 (i291 - 1))).At + (rd v1 (IntKind.wrap .i64 (i291 - 1))).Size)).toNat) then ((some (p0.extract (((rd v1 i191).At).toNat) ((IntKind.wrap .i64 ((rd v1 (IntKind.wrap .i64 (i291 - 1))).At + (rd v1 (IntKind.wrap .i64 (i291 - 1))).Size)).toNat))).bind fun s297 =>
        if ((i292 == 1) && decide ((IntKind.wrap .i64 (i291 - i191)) > 16)) = true then (some (.inr (.inr ([], (T_api_Fault.mk 3 ((rd v1 i191).Line) ((rd v1 i191).Col)))))) else (if (i292 == 2) = true then ((palingref1_Read s297).bind fun v308 =>
              if (!v308.2) = true then (some (.inr (.inr ([], (T_api_Fault.mk 2 ((rd v1 i191).Line) ((rd v1 i191).Col)))))) else (palingref1_Tokens_j2 i292 l192 v1 i191 s297 i291)) else (palingref1_Tokens_j2 i292 l192 v1 i191 s297 i291))) else none) else none) else none) else none

noncomputable def palingref1_Tokens_s2 (v1 : (List T_palingref1_Spot)) : Int → Option ((Int) ⊕ ((Int) ⊕ ((List T_api_Token) × T_api_Fault)))
  | i331 =>
  if (decide (i331 < (v1.length : Int)) = true → InB i331 v1.length) then (if (decide (i331 < (v1.length : Int)) && ((rd v1 i331).Rune != 10)) = true then (if InB i331 v1.length then (if (rd v1 i331).Bad = true then (if InB i331 v1.length then (if InB i331 v1.length then (some (.inr (.inr ([], (T_api_Fault.mk 1 ((rd v1 i331).Line) ((rd v1 i331).Col)))))) else none) else none) else (some (.inl (IntKind.wrap .i64 (i331 + 1))))) else none) else (some (.inr (.inl i331)))) else none

noncomputable def palingref1_Tokens_s3 (v1 : (List T_palingref1_Spot)) : Int → Option ((Int) ⊕ (Int))
  | i380 =>
  if (decide (i380 < (v1.length : Int)) = true → InB i380 v1.length) then (if ((decide (i380 < (v1.length : Int)) && (!(rd v1 i380).Bad)) = true → InB i380 v1.length) then ((if (decide (i380 < (v1.length : Int)) && (!(rd v1 i380).Bad)) = true then palingref1_Letter ((rd v1 i380).Rune) else some default).bind fun v393 =>
                      if (((decide (i380 < (v1.length : Int)) && (!(rd v1 i380).Bad)) && (!v393)) = true → InB i380 v1.length) then ((if ((decide (i380 < (v1.length : Int)) && (!(rd v1 i380).Bad)) && (!v393)) = true then palingref1_Digit ((rd v1 i380).Rune) else some default).bind fun v396 =>
                      if ((decide (i380 < (v1.length : Int)) && (!(rd v1 i380).Bad)) && (v393 || v396)) = true then (some (.inl (IntKind.wrap .i64 (i380 + 1)))) else (some (.inr i380))) else none) else none) else none

noncomputable def palingref1_Tokens_s1 (v1 : (List T_palingref1_Spot)) (p0 : ByteArray) : (Int × (List T_api_Token)) → Option ((Int × (List T_api_Token)) ⊕ (((List T_api_Token)) ⊕ ((List T_api_Token) × T_api_Fault)))
  | (i191, l192) =>
  if decide (i191 < (v1.length : Int)) = true then (if InB i191 v1.length then (if (rd v1 i191).Bad = true then (some (.inr (.inr ([], (T_api_Fault.mk 1 ((rd v1 i191).Line) ((rd v1 i191).Col)))))) else ((palingref1_Blank ((rd v1 i191).Rune)).bind fun v312 =>
          if v312 = true then (palingref1_Tokens_j1 v1 p0 i191 l192 (IntKind.wrap .i64 (i191 + 1)) 0) else (if ((rd v1 i191).Rune == 59) = true then ((loopO (palingref1_Tokens_s2 v1) (IntKind.wrap .i64 (i191 + 1))).bind (onSum (fun er339 =>
              palingref1_Tokens_j1 v1 p0 i191 l192 er339 0) (fun qr339 => some (.inr (.inr qr339))))) else (if ((rd v1 i191).Rune == 10) = true then (palingref1_Tokens_j1 v1 p0 i191 l192 (IntKind.wrap .i64 (i191 + 1)) 4) else ((some (((((rd v1 i191).Rune == 44) || ((rd v1 i191).Rune == 91)) || ((rd v1 i191).Rune == 93)) || ((rd v1 i191).Rune == 58))).bind fun b348 =>
                if b348 = true then (palingref1_Tokens_j1 v1 p0 i191 l192 (IntKind.wrap .i64 (i191 + 1)) 3) else ((palingref1_Letter ((rd v1 i191).Rune)).bind fun v354 =>
                  (if (!v354) = true then palingref1_Digit ((rd v1 i191).Rune) else some default).bind fun v356 =>
                  if ((v354 || v356) || ((rd v1 i191).Rune == 45)) = true then ((loopO (palingref1_Tokens_s3 v1) (IntKind.wrap .i64 (i191 + 1))).bind fun r390 =>
                    (palingref1_Letter ((rd v1 i191).Rune)).bind fun v402 =>
                      if v402 = true then (palingref1_Tokens_j1 v1 p0 i191 l192 r390 1) else (palingref1_Tokens_j1 v1 p0 i191 l192 r390 2)) else (some (.inr (.inr ([], (T_api_Fault.mk 1 ((rd v1 i191).Line) ((rd v1 i191).Col)))))))))))) else none) else (some (.inr (.inl l192)))

noncomputable def palingref1_Tokens (p0 : ByteArray) : Option ((List T_api_Token) × T_api_Fault) :=
(palingref1_Spots p0).bind fun v1 =>
  (loopO (palingref1_Tokens_s1 v1 p0) (0, [])).bind (onSum (fun er288 =>
  (palingref1_End p0).bind fun v405 =>
      if Fits (er288.length + 1) then ((some (er288 ++ ([(T_api_Token.mk 4 v405.1 v405.2 (⟨#[]⟩ : ByteArray))]))).bind fun l408 =>
      some (l408, (T_api_Fault.mk 0 0 0))) else none) (fun qr288 => some qr288))
end Go.Vs
