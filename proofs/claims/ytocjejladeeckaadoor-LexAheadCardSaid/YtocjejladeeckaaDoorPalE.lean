import Derived.Test.YtocjejladeeckaaDoorPalT
import Derived.Test.YtocjejladeeckaaDoorPalD
import Derived.Test.YtocjejladeeckaaDoorPalC
import Derived.Test.YtocjejladeeckaaDoorPalB
import Derived.Test.YtocjejladeeckaaDoorPalA
import Derived.Test.YtocjejladeeckaaDoorPalNum
import Derived.Test.YtocjejladeeckaaDoorPalUtf
set_option linter.unusedVariables false
set_option linter.unusedSectionVars false
namespace Go.Vs
noncomputable def palinglaw5_LexAhead_s1 (v8 : (List T_palingref1_Spot)) (v3 : (List T_api_Token) × T_api_Fault) (v1 : ByteArray) : Int → Option ((Int) ⊕ ((Unit) ⊕ (Bool)))
  | i31 =>
  if decide (i31 < (v8.length : Int)) = true then (if InB i31 v8.length then (if (((rd v8 i31).Line == v3.2.Line) = true → InB i31 v8.length) then (if (((rd v8 i31).Line == v3.2.Line) && ((rd v8 i31).Col == v3.2.Col)) = true then (if InB i31 v8.length then (if Bnd ((rd v8 i31).At) v1.size then ((lex_Tokens (v1.extract 0 (((rd v8 i31).At).toNat))).bind fun v50 =>
          (if ((v50.2.Code == 0) && ((v50.2.Line == 0) && (v50.2.Col == 0))) = true then palinglaw5_alive else some default).bind fun v52 =>
          some (.inr (.inr (((v50.2.Code == 0) && ((v50.2.Line == 0) && (v50.2.Col == 0))) && v52)))) else none) else none) else (some (.inl (IntKind.wrap .i64 (i31 + 1))))) else none) else none) else (some (.inr (.inl ())))

noncomputable def palinglaw5_LexAhead (p0 : ByteArray) : Option (Bool) :=
(palingbook_Short p0 400).bind fun v1 =>
  (lex_Tokens v1).bind fun v3 =>
  if (v3.2.Code == 0) = true then ((palinglaw5_alive).bind fun v6 =>
    some v6) else ((palingref1_Spots v1).bind fun v8 =>
    (loopO (palinglaw5_LexAhead_s1 v8 v3 v1) 0).bind (onSum (fun er42 =>
    some false) (fun qr42 => some qr42)))
noncomputable def palinglaw5_LexStand_j1 (i97 : Int) (i143 : Int) (i144 : Int) : Option ((Int × Int × Int) ⊕ ((Int) ⊕ (Bool))) :=
  some (.inl (i143, i144, (IntKind.wrap .i64 (i97 + 1))))

noncomputable def palinglaw5_LexStand_s2 (v8 : (List T_palingref1_Spot)) (i97 : Int) (v3 : (List T_api_Token) × T_api_Fault) : Int → Option ((Int) ⊕ (Int))
  | i160 =>
  if (decide (i160 < (v8.length : Int)) = true → InB i160 v8.length) then (if (decide (i160 < (v8.length : Int)) = true → InB i97 v3.1.length) then (if ((decide (i160 < (v8.length : Int)) && (!((rd v8 i160).Line != (rd v3.1 i97).Line))) = true → InB i160 v8.length) then (if ((decide (i160 < (v8.length : Int)) && (!((rd v8 i160).Line != (rd v3.1 i97).Line))) = true → InB i97 v3.1.length) then ((some (decide (i160 < (v8.length : Int)) && (((rd v8 i160).Line != (rd v3.1 i97).Line) || ((rd v8 i160).Col != (rd v3.1 i97).Col)))).bind fun b174 =>
            if b174 = true then (some (.inl (IntKind.wrap .i64 (i160 + 1)))) else (some (.inr i160))) else none) else none) else none) else none

noncomputable def palinglaw5_LexStand_j2 (i95 : Int) (i97 : Int) (v3 : (List T_api_Token) × T_api_Fault) (v1 : ByteArray) (r169 : Int) (i179 : Int) : Option ((Int × Int × Int) ⊕ ((Int) ⊕ (Bool))) :=
  if ((!decide (i179 < i95)) = true → InB i97 v3.1.length) then (if ((!(decide (i179 < i95) || decide ((((rd v3.1 i97).Text).size : Int) > (IntKind.wrap .i64 ((v1.size : Int) - i179))))) = true → InB i97 v3.1.length) then (if ((!(decide (i179 < i95) || decide ((((rd v3.1 i97).Text).size : Int) > (IntKind.wrap .i64 ((v1.size : Int) - i179))))) = true → Bnd (IntKind.wrap .i64 (i179 + (((rd v3.1 i97).Text).size : Int))) v1.size) then (if ((!(decide (i179 < i95) || decide ((((rd v3.1 i97).Text).size : Int) > (IntKind.wrap .i64 ((v1.size : Int) - i179))))) = true → Bnd i179 ((IntKind.wrap .i64 (i179 + (((rd v3.1 i97).Text).size : Int))).toNat)) then (if ((!(decide (i179 < i95) || decide ((((rd v3.1 i97).Text).size : Int) > (IntKind.wrap .i64 ((v1.size : Int) - i179))))) = true → InB i97 v3.1.length) then ((some ((decide (i179 < i95) || decide ((((rd v3.1 i97).Text).size : Int) > (IntKind.wrap .i64 ((v1.size : Int) - i179)))) || (!decide ((v1.extract i179.toNat ((IntKind.wrap .i64 (i179 + (((rd v3.1 i97).Text).size : Int))).toNat)) = (rd v3.1 i97).Text)))).bind fun b185 =>
              if b185 = true then (some (.inr (.inr false))) else (if InB i97 v3.1.length then ((some (IntKind.wrap .i64 (i179 + (((rd v3.1 i97).Text).size : Int)))).bind fun n191 =>
                palinglaw5_LexStand_j1 i97 n191 r169) else none)) else none) else none) else none) else none) else none

noncomputable def palinglaw5_LexStand_s1 (v3 : (List T_api_Token) × T_api_Fault) (v8 : (List T_palingref1_Spot)) (v1 : ByteArray) : (Int × Int × Int) → Option ((Int × Int × Int) ⊕ ((Int) ⊕ (Bool)))
  | (i95, i96, i97) =>
  if decide (i97 < (v3.1.length : Int)) = true then ((loopO (palinglaw5_LexStand_s2 v8 i97 v3) i96).bind fun r169 =>
          if decide (r169 < (v8.length : Int)) = true then (if InB r169 v8.length then (palinglaw5_LexStand_j2 i95 i97 v3 v1 r169 ((rd v8 r169).At)) else none) else (palinglaw5_LexStand_j2 i95 i97 v3 v1 r169 (v1.size : Int))) else (some (.inr (.inl i95)))

noncomputable def palinglaw5_LexStand (p0 : ByteArray) : Option (Bool) :=
(palingbook_Short p0 400).bind fun v1 =>
  (lex_Tokens v1).bind fun v3 =>
  if (v3.2.Code != 0) = true then ((palinglaw5_alive).bind fun v6 =>
    some v6) else ((palingref1_Spots v1).bind fun v8 =>
    (loopO (palinglaw5_LexStand_s1 v3 v8 v1) (0, 0, 0)).bind (onSum (fun er141 =>
    if (decide ((v3.1.length : Int) > 0) = true → InB (IntKind.wrap .i64 ((v3.1.length : Int) - 1)) v3.1.length) then (if ((decide ((v3.1.length : Int) > 0) && ((rd v3.1 (IntKind.wrap .i64 ((v3.1.length : Int) - 1))).Kind == 4)) = true → InB (IntKind.wrap .i64 ((v3.1.length : Int) - 1)) v3.1.length) then ((if (((decide ((v3.1.length : Int) > 0) && ((rd v3.1 (IntKind.wrap .i64 ((v3.1.length : Int) - 1))).Kind == 4)) && decide ((rd v3.1 (IntKind.wrap .i64 ((v3.1.length : Int) - 1))).Text = (⟨#[]⟩ : ByteArray))) && (er141 == (v1.size : Int))) = true then palinglaw5_alive else some default).bind fun v197 =>
        (some ((((decide ((v3.1.length : Int) > 0) && ((rd v3.1 (IntKind.wrap .i64 ((v3.1.length : Int) - 1))).Kind == 4)) && decide ((rd v3.1 (IntKind.wrap .i64 ((v3.1.length : Int) - 1))).Text = (⟨#[]⟩ : ByteArray))) && (er141 == (v1.size : Int))) && v197)).bind fun b199 =>
        some b199) else none) else none) (fun qr141 => some qr141)))
end Go.Vs
