import Derived.Test.YtgdchoahbiagbaaDoorPalT
import Derived.Test.YtgdchoahbiagbaaDoorPalB
import Derived.Test.YtgdchoahbiagbaaDoorPalC
import Derived.Test.YtgdchoahbiagbaaDoorPalX
set_option linter.unusedVariables false
set_option linter.unusedSectionVars false
namespace Go.Vs
noncomputable def palingbook_SameTokens_s1(p0:(List T_api_Token))(p1:(List T_api_Token)):Int → Option ((Int) ⊕ ((Unit) ⊕ (Bool)))
  | i17 =>
  if decide (i17<(p0.length:Int))=true then (if InB i17 p0.length then (if InB i17 p1.length then ((some (!(((rd p0 i17).Kind==(rd p1 i17).Kind)&&(((rd p0 i17).Line==(rd p1 i17).Line)&&(((rd p0 i17).Col==(rd p1 i17).Col)&&((rd p0 i17).Text==(rd p1 i17).Text)))))).bind fun b28 =>
        if b28=true then (some (.inr (.inr false))) else (some (.inl (IntKind.wrap .i64 (i17+1))))) else none) else none) else (some (.inr (.inl ())))

noncomputable def palingbook_SameTokens(p0:(List T_api_Token))(p1:(List T_api_Token)):Option (Bool) :=
if ((p0.length:Int) != (p1.length:Int))=true then (some false) else ((loopO (palingbook_SameTokens_s1 p0 p1) 0).bind (onSum (fun er24 =>
    some true) (fun qr24=>some qr24)))
noncomputable def lex_wrong(p0:T_api_Token)(p1:Int):Option (Int) :=
if ((p0.Kind==1)&&decide (p1>16))=true then (some 3) else (if (p0.Kind==2)=true then ((num_Read p0.Text).bind fun v3 =>
      if (!v3.2)=true then (some 2) else (some 0)) else (some 0))
noncomputable def palingref1_End(p0:ByteArray):Option (Int × Int) :=
(palingref1_Spots p0).bind fun v1 =>
  if ((v1.length:Int)==0)=true then (some (1,1)) else (if InB (IntKind.wrap .i64 ((v1.length:Int)-1)) v1.length then (if ((rd v1 (IntKind.wrap .i64 ((v1.length:Int)-1))).Rune==10)=true then ((some (IntKind.wrap .i64 ((rd v1 (IntKind.wrap .i64 ((v1.length:Int)-1))).Line+1))).bind fun n6 =>
      some (n6,1)) else ((some (IntKind.wrap .i64 ((rd v1 (IntKind.wrap .i64 ((v1.length:Int)-1))).Col+1))).bind fun n8 =>
      some ((rd v1 (IntKind.wrap .i64 ((v1.length:Int)-1))).Line,n8))) else none)
noncomputable def lex_Tokens_s2(v1:(List T_glyph_Spot)):Int → Option ((Int) ⊕ ((Int) ⊕ ((List T_api_Token) × T_api_Fault)))
  | i195 =>
  if (decide (i195<(v1.length:Int))=true → InB i195 v1.length) then (if (decide (i195<(v1.length:Int))&&((rd v1 i195).Rune != 10))=true then (if InB i195 v1.length then (if (rd v1 i195).Bad=true then (if InB i195 v1.length then ((lex_fault 1 (rd v1 i195)).bind fun v210 =>
                  some (.inr (.inr ([],v210)))) else none) else (some (.inl (IntKind.wrap .i64 (i195+1))))) else none) else (some (.inr (.inl i195)))) else none

noncomputable def lex_Tokens_s1(v1:(List T_glyph_Spot))(p0:ByteArray):(Int × (List T_api_Token)) → Option ((Int × (List T_api_Token)) ⊕ (((List T_api_Token)) ⊕ ((List T_api_Token) × T_api_Fault)))
  | (i112,l113) =>
  if decide (i112<(v1.length:Int))=true then (if InB i112 v1.length then (if (rd v1 i112).Bad=true then ((lex_fault 1 (rd v1 i112)).bind fun v174 =>
        some (.inr (.inr ([],v174)))) else ((glyph_Blank ((rd v1 i112).Rune)).bind fun v176 =>
        if v176=true then (some (.inl ((IntKind.wrap .i64 (i112+1)),l113))) else (if ((rd v1 i112).Rune==59)=true then ((loopO (lex_Tokens_s2 v1) i112).bind (onSum (fun er204 =>
            some (.inl (er204,l113))) (fun qr204=>some (.inr (.inr qr204))))) else ((lex_run v1 i112).bind fun v212 =>
            if (v212.2==0)=true then ((lex_fault 1 (rd v1 i112)).bind fun v215 =>
              some (.inr (.inr ([],v215)))) else (if InB (IntKind.wrap .i64 (v212.1-1)) v1.length then (if InB (IntKind.wrap .i64 (v212.1-1)) v1.length then (if Bnd (IntKind.wrap .i64 ((rd v1 (IntKind.wrap .i64 (v212.1-1))).At+(rd v1 (IntKind.wrap .i64 (v212.1-1))).Size)) p0.size then (if Bnd ((rd v1 i112).At) ((IntKind.wrap .i64 ((rd v1 (IntKind.wrap .i64 (v212.1-1))).At+(rd v1 (IntKind.wrap .i64 (v212.1-1))).Size)).toNat) then ((some (p0.extract (((rd v1 i112).At).toNat) ((IntKind.wrap .i64 ((rd v1 (IntKind.wrap .i64 (v212.1-1))).At+(rd v1 (IntKind.wrap .i64 (v212.1-1))).Size)).toNat))).bind fun s221 =>
              (lex_wrong (T_api_Token.mk v212.2 ((rd v1 i112).Line) ((rd v1 i112).Col) s221) (IntKind.wrap .i64 (v212.1-i112))).bind fun v223 =>
              if (v223 != 0)=true then ((lex_fault v223 (rd v1 i112)).bind fun v226 =>
                some (.inr (.inr ([],v226)))) else (if Fits (l113.length+1) then ((some (l113++([(T_api_Token.mk v212.2 ((rd v1 i112).Line) ((rd v1 i112).Col) s221)]))).bind fun l229 =>
                some (.inl (v212.1,l229))) else none)) else none) else none) else none) else none))))) else none) else (some (.inr (.inl l113)))

noncomputable def lex_Tokens(p0:ByteArray):Option ((List T_api_Token) × T_api_Fault) :=
(glyph_Spots p0).bind fun v1 =>
  (loopO (lex_Tokens_s1 v1 p0) (0,[])).bind (onSum (fun er170 =>
  (glyph_End p0).bind fun v231 =>
      if Fits (er170.length+1) then ((some (er170++([(T_api_Token.mk 4 v231.1 v231.2 (⟨#[]⟩:ByteArray))]))).bind fun l234 =>
      some (l234,(T_api_Fault.mk 0 0 0))) else none) (fun qr170=>some qr170))
noncomputable def palingref1_Tokens_j3(i291:Int)(l300:List T_api_Token):Option ((Int × (List T_api_Token)) ⊕ (((List T_api_Token)) ⊕ ((List T_api_Token) × T_api_Fault))) :=
  some (.inl (i291,l300))

noncomputable def palingref1_Tokens_j2(i292:Int)(l192:List T_api_Token)(v1:(List T_palingref1_Spot))(i191:Int)(s297:ByteArray)(i291:Int):Option ((Int × (List T_api_Token)) ⊕ (((List T_api_Token)) ⊕ ((List T_api_Token) × T_api_Fault))) :=
  if (i292 != 0)=true then (if Fits (l192.length+1) then ((some (l192++([(T_api_Token.mk i292 ((rd v1 i191).Line) ((rd v1 i191).Col) s297)]))).bind fun l304 =>
                palingref1_Tokens_j3 i291 l304) else none) else (palingref1_Tokens_j3 i291 l192)

noncomputable def palingref1_Tokens_j1(v1:(List T_palingref1_Spot))(p0:ByteArray)(i191:Int)(l192:List T_api_Token)(i291:Int)(i292:Int):Option ((Int × (List T_api_Token)) ⊕ (((List T_api_Token)) ⊕ ((List T_api_Token) × T_api_Fault))) :=
  if InB (IntKind.wrap .i64 (i291-1)) v1.length then (if InB (IntKind.wrap .i64 (i291-1)) v1.length then (if Bnd (IntKind.wrap .i64 ((rd v1 (IntKind.wrap .i64 (i291-1))).At+(rd v1 (IntKind.wrap .i64 (i291-1))).Size)) p0.size then (if Bnd ((rd v1 i191).At) ((IntKind.wrap .i64 ((rd v1 (IntKind.wrap .i64 (i291-1))).At+(rd v1 (IntKind.wrap .i64 (i291-1))).Size)).toNat) then ((some (p0.extract (((rd v1 i191).At).toNat) ((IntKind.wrap .i64 ((rd v1 (IntKind.wrap .i64 (i291-1))).At+(rd v1 (IntKind.wrap .i64 (i291-1))).Size)).toNat))).bind fun s297 =>
        if ((i292==1)&&decide ((IntKind.wrap .i64 (i291-i191))>16))=true then (some (.inr (.inr ([],(T_api_Fault.mk 3 ((rd v1 i191).Line) ((rd v1 i191).Col)))))) else (if (i292==2)=true then ((palingref1_Read s297).bind fun v307 =>
              if (!v307.2)=true then (some (.inr (.inr ([],(T_api_Fault.mk 2 ((rd v1 i191).Line) ((rd v1 i191).Col)))))) else (palingref1_Tokens_j2 i292 l192 v1 i191 s297 i291)) else (palingref1_Tokens_j2 i292 l192 v1 i191 s297 i291))) else none) else none) else none) else none

noncomputable def palingref1_Tokens_s2(v1:(List T_palingref1_Spot)):Int → Option ((Int) ⊕ ((Int) ⊕ ((List T_api_Token) × T_api_Fault)))
  | i330 =>
  if (decide (i330<(v1.length:Int))=true → InB i330 v1.length) then (if (decide (i330<(v1.length:Int))&&((rd v1 i330).Rune != 10))=true then (if InB i330 v1.length then (if (rd v1 i330).Bad=true then (if InB i330 v1.length then (if InB i330 v1.length then (some (.inr (.inr ([],(T_api_Fault.mk 1 ((rd v1 i330).Line) ((rd v1 i330).Col)))))) else none) else none) else (some (.inl (IntKind.wrap .i64 (i330+1))))) else none) else (some (.inr (.inl i330)))) else none

noncomputable def palingref1_Tokens_s3(v1:(List T_palingref1_Spot)):Int → Option ((Int) ⊕ (Int))
  | i373 =>
  if (decide (i373<(v1.length:Int))=true → InB i373 v1.length) then (if ((decide (i373<(v1.length:Int))&&(!(rd v1 i373).Bad))=true → InB i373 v1.length) then ((if (decide (i373<(v1.length:Int))&&(!(rd v1 i373).Bad))=true then palingref1_Letter ((rd v1 i373).Rune) else some default).bind fun v386 =>
                      if (((decide (i373<(v1.length:Int))&&(!(rd v1 i373).Bad))&&(!v386))=true → InB i373 v1.length) then ((if ((decide (i373<(v1.length:Int))&&(!(rd v1 i373).Bad))&&(!v386))=true then palingref1_Digit ((rd v1 i373).Rune) else some default).bind fun v389 =>
                      if ((decide (i373<(v1.length:Int))&&(!(rd v1 i373).Bad))&&(v386||v389))=true then (some (.inl (IntKind.wrap .i64 (i373+1)))) else (some (.inr i373))) else none) else none) else none

noncomputable def palingref1_Tokens_s1(v1:(List T_palingref1_Spot))(p0:ByteArray):(Int × (List T_api_Token)) → Option ((Int × (List T_api_Token)) ⊕ (((List T_api_Token)) ⊕ ((List T_api_Token) × T_api_Fault)))
  | (i191,l192) =>
  if decide (i191<(v1.length:Int))=true then (if InB i191 v1.length then (if (rd v1 i191).Bad=true then (some (.inr (.inr ([],(T_api_Fault.mk 1 ((rd v1 i191).Line) ((rd v1 i191).Col)))))) else ((palingref1_Blank ((rd v1 i191).Rune)).bind fun v311 =>
          if v311=true then (palingref1_Tokens_j1 v1 p0 i191 l192 (IntKind.wrap .i64 (i191+1)) 0) else (if ((rd v1 i191).Rune==59)=true then ((loopO (palingref1_Tokens_s2 v1) (IntKind.wrap .i64 (i191+1))).bind (onSum (fun er338 =>
              palingref1_Tokens_j1 v1 p0 i191 l192 er338 0) (fun qr338=>some (.inr (.inr qr338))))) else (if ((rd v1 i191).Rune==10)=true then (palingref1_Tokens_j1 v1 p0 i191 l192 (IntKind.wrap .i64 (i191+1)) 4) else ((some (((((rd v1 i191).Rune==44)||((rd v1 i191).Rune==91))||((rd v1 i191).Rune==93))||((rd v1 i191).Rune==58))).bind fun b346 =>
                if b346=true then (palingref1_Tokens_j1 v1 p0 i191 l192 (IntKind.wrap .i64 (i191+1)) 3) else ((palingref1_Letter ((rd v1 i191).Rune)).bind fun v349 =>
                  (if (!v349)=true then palingref1_Digit ((rd v1 i191).Rune) else some default).bind fun v351 =>
                  if ((v349||v351)||((rd v1 i191).Rune==45))=true then ((loopO (palingref1_Tokens_s3 v1) (IntKind.wrap .i64 (i191+1))).bind fun r383 =>
                    (palingref1_Letter ((rd v1 i191).Rune)).bind fun v392 =>
                      if v392=true then (palingref1_Tokens_j1 v1 p0 i191 l192 r383 1) else (palingref1_Tokens_j1 v1 p0 i191 l192 r383 2)) else (some (.inr (.inr ([],(T_api_Fault.mk 1 ((rd v1 i191).Line) ((rd v1 i191).Col)))))))))))) else none) else (some (.inr (.inl l192)))

noncomputable def palingref1_Tokens(p0:ByteArray):Option ((List T_api_Token) × T_api_Fault) :=
(palingref1_Spots p0).bind fun v1 =>
  (loopO (palingref1_Tokens_s1 v1 p0) (0,[])).bind (onSum (fun er288 =>
  (palingref1_End p0).bind fun v395 =>
      if Fits (er288.length+1) then ((some (er288++([(T_api_Token.mk 4 v395.1 v395.2 (⟨#[]⟩:ByteArray))]))).bind fun l398 =>
      some (l398,(T_api_Fault.mk 0 0 0))) else none) (fun qr288=>some qr288))
end Go.Vs
