import Derived.Test.YtocjejladeeckaaDoorPalC
import Derived.Test.YtocjejladeeckaaDoorPalRead
import Derived.Test.YtocjejladeeckaaDoorPalUtf
import Derived.Lib.DecodeN
/-! A text's runes: both ways of telling them come to the same. -/
set_option linter.unusedVariables false
set_option linter.unusedSimpArgs false
set_option linter.unusedSectionVars false
namespace Go.Vs
local instance tabPalLex : Tab := ⟨fun _ => none⟩
def Sm (s : ByteArray) : Prop := s.size ≤ 1000000
theorem decN_width {n b0 b1 b2 b3 : Nat} (hn : 0 < n) : 1 ≤ (Lib.decodeN n b0 b1 b2 b3).2 ∧ (Lib.decodeN n b0 b1 b2 b3).2 ≤ n := by
  unfold Lib.decodeN
  repeat' split
  all_goals dsimp only
  all_goals omega
theorem decN_len {n b0 b1 b2 b3 : Nat} (h : (Lib.decodeN n b0 b1 b2 b3).1 ≠ 65533) : Lib.runeLen ((Lib.decodeN n b0 b1 b2 b3).1 : Int) = ((Lib.decodeN n b0 b1 b2 b3).2 : Int) := by
  revert h
  unfold Lib.decodeN
  repeat' split
  all_goals dsimp only
  all_goals intro h
  all_goals (try (exact absurd rfl h))
  all_goals (unfold Lib.runeLen; repeat' split)
  all_goals omega
theorem width (s : ByteArray) (pos : Nat) (h : pos < s.size) : 1 ≤ (Utf8.decode s pos).2 ∧ pos + (Utf8.decode s pos).2 ≤ s.size := by
  rw [Lib.decode_at]
  have := decN_width (n := s.size - pos) (b0 := (s.get! pos).toNat) (b1 := (s.get! (pos + 1)).toNat) (b2 := (s.get! (pos + 2)).toNat) (b3 := (s.get! (pos + 3)).toNat) (by omega)
  omega
theorem runeLen_eq (s : ByteArray) (pos : Nat) (h : (Utf8.decode s pos).1 ≠ 65533) : Lib.runeLen ((Utf8.decode s pos).1 : Int) = ((Utf8.decode s pos).2 : Int) := by
  rw [Lib.decode_at] at h ⊢; exact decN_len h
def spotsF (s : ByteArray) : Nat → Nat → Int → Int → List T_glyph_Spot
  | 0, _, _, _ => []
  | f + 1, pos, line, col => if pos < s.size then
      { Rune := ((Utf8.decode s pos).1 : Int), At := (pos : Int), Size := ((Utf8.decode s pos).2 : Int), Line := line, Col := col, Bad := (Utf8.decode s pos).1 == 65533 && (Utf8.decode s pos).2 == 1 } ::
        spotsF s f (pos + (Utf8.decode s pos).2) (if (Utf8.decode s pos).1 = 10 then line + 1 else line) (if (Utf8.decode s pos).1 = 10 then 1 else col + 1)
    else []
def spots (s : ByteArray) : List T_glyph_Spot := spotsF s s.size 0 1 1
theorem step_eq {line col : Int} {r : Nat} (h1 : 0 ≤ line ∧ line ≤ 2000000) (h2 : 0 ≤ col ∧ col ≤ 2000000) : glyph_step line col (r : Int) = some ((if r = 10 then line + 1 else line), (if r = 10 then 1 else col + 1)) := by
  rw [glyph_step]
  have e1 : IntKind.wrap .i64 (line + 1) = line + 1 := wi64_id ⟨by omega, by omega⟩
  have e2 : IntKind.wrap .i64 (col + 1) = col + 1 := wi64_id ⟨by omega, by omega⟩
  rw [e1, e2]
  by_cases h : r = 10
  · subst h; rfl
  · have : ¬ (((r : Int) == 10) = true) := by simp; omega
    rw [if_neg this, if_neg h, if_neg h]
theorem glyph_loop (s : ByteArray) (hs : Sm s) : ∀ (f pos : Nat) (line col : Int) (out : List T_glyph_Spot), s.size - pos ≤ f → pos ≤ s.size → 0 ≤ line ∧ line ≤ 1 + pos → 0 ≤ col ∧ col ≤ 1 + pos → out.length ≤ pos →
    loopO (glyph_Spots_s1 s) (line, col, pos, out) = some (out ++ spotsF s f pos line col) := by
  intro f
  induction f with
  | zero =>
    intro pos line col out hf hp hl hc ho
    have h : ¬ pos < s.size := by omega
    rw [spotsF, List.append_nil]
    refine loopO_inr ?_
    rw [glyph_Spots_s1, if_neg h]
  | succ f ih =>
    intro pos line col out hf hp hl hc ho
    rw [spotsF]
    by_cases h : pos < s.size
    · rw [if_pos h]
      obtain ⟨w1, w2⟩ := width s pos h
      unfold Sm at hs
      have hj : ∀ b : Bool, glyph_Spots_j1 out s pos line col ((Utf8.decode s pos).2 : Int) b = some (.inl ((if (Utf8.decode s pos).1 = 10 then line + 1 else line), (if (Utf8.decode s pos).1 = 10 then 1 else col + 1), pos + (Utf8.decode s pos).2,
          out ++ [{ Rune := ((Utf8.decode s pos).1 : Int), At := (pos : Int), Size := ((Utf8.decode s pos).2 : Int), Line := line, Col := col, Bad := b }])) := by
        intro b
        rw [glyph_Spots_j1, if_pos (show Fits _ by unfold Fits; omega)]
        simp only [Option.bind_some]
        rw [step_eq (by omega) (by omega)]
        rfl
      have hst : glyph_Spots_s1 s (line, col, pos, out) = some (.inl ((if (Utf8.decode s pos).1 = 10 then line + 1 else line), (if (Utf8.decode s pos).1 = 10 then 1 else col + 1), pos + (Utf8.decode s pos).2,
          out ++ [{ Rune := ((Utf8.decode s pos).1 : Int), At := (pos : Int), Size := ((Utf8.decode s pos).2 : Int), Line := line, Col := col, Bad := (Utf8.decode s pos).1 == 65533 && (Utf8.decode s pos).2 == 1 }])) := by
        rw [glyph_Spots_s1, if_pos h]
        by_cases he : (Utf8.decode s pos).1 = 65533
        · rw [if_pos (by rw [he]; rfl), if_pos ⟨by omega, by omega⟩, unicode_utf8_DecodeRuneInString]
          have e : s.extract ((pos : Int).toNat) s.size = s.extract pos s.size := by rw [Int.toNat_natCast]
          simp only [Option.bind_some]
          rw [e, decode_tail s pos h, hj]
          congr 8
          rw [he, Bool.eq_iff_iff]; simp; omega
        · rw [if_neg (by simp; omega), unicode_utf8_RuneLen, Option.bind_some, runeLen_eq s pos he, hj]
          have : ((Utf8.decode s pos).1 == 65533) = false := by simpa using he
          rw [this]; rfl
      rw [loopO_inl hst, ih _ _ _ _ (by omega) w2 (by split <;> omega) (by split <;> omega) (by simp; omega), List.append_assoc]
      rfl
    · rw [if_neg h, List.append_nil]
      refine loopO_inr ?_
      rw [glyph_Spots_s1, if_neg h]
theorem glyph_Spots_eq (s : ByteArray) (hs : Sm s) : glyph_Spots s = some (spots s) := by
  rw [glyph_Spots, glyph_loop s hs s.size 0 1 1 [] (by omega) (by omega) (by omega) (by omega) (by simp)]
  rfl
def endOf (l : List T_glyph_Spot) : Int × Int := match l.getLast? with | none => (1, 1) | some x => if x.Rune = 10 then (x.Line + 1, 1) else (x.Line, x.Col + 1)
end Go.Vs
