import Derived.Test.YtocjejladeeckaaDoorPalLex
/-! A text's runes: the document's own way. -/
set_option linter.unusedVariables false
set_option linter.unusedSimpArgs false
set_option linter.unusedSectionVars false
namespace Go.Vs
local instance tabPalLex2 : Tab := ⟨fun _ => none⟩
def toR (x : T_glyph_Spot) : T_palingref1_Spot := { Rune := x.Rune, At := x.At, Size := x.Size, Line := x.Line, Col := x.Col, Bad := x.Bad }
def shutR (x : T_glyph_Spot) : T_palingref1_Spot := { Rune := x.Rune, At := x.At, Size := x.Size, Line := x.Line, Col := x.Col, Bad := false }
def opnR (x : T_glyph_Spot) : T_palingref1_Spot := { Rune := x.Rune, At := x.At, Size := 0, Line := x.Line, Col := x.Col, Bad := false }
theorem rd_mid {α : Type} [Inhabited α] (a b : List α) (x : α) : rd (a ++ x :: b) (a.length : Int) = x := by
  rw [rd, Int.toNat_natCast, List.getD_eq_getElem?_getD, List.getElem?_append_right (Nat.le_refl _)]; simp
theorem set_mid {α : Type} (a b : List α) (x y : α) : (a ++ x :: b).set a.length y = a ++ y :: b := by
  rw [List.set_append_right _ _ (Nat.le_refl _)]; simp
theorem spotsF_all (s : ByteArray) : ∀ (f pos : Nat) (line col : Int), ∀ x ∈ spotsF s f pos line col, (pos : Int) ≤ x.At ∧ 1 ≤ x.Size ∧ x.At + x.Size ≤ s.size ∧ x.Bad = (x.Rune == 65533 && x.Size == 1) := by
  intro f
  induction f with
  | zero => intro pos line col x hx; simp [spotsF] at hx
  | succ f ih =>
    intro pos line col x hx
    rw [spotsF] at hx
    split at hx
    · rename_i h
      obtain ⟨w1, w2⟩ := width s pos h
      rcases List.mem_cons.1 hx with rfl | hx
      · refine ⟨Int.le_refl _, by simp; omega, by simp; omega, ?_⟩
        simp only
        rw [Bool.eq_iff_iff]; simp; omega
      · obtain ⟨a, b, c, d⟩ := ih _ _ _ x hx
        exact ⟨by omega, b, c, d⟩
    · simp at hx
theorem spotsF_len (s : ByteArray) : ∀ (f pos : Nat) (line col : Int), (spotsF s f pos line col).length ≤ s.size - pos := by
  intro f
  induction f with
  | zero => intro pos line col; simp [spotsF]
  | succ f ih =>
    intro pos line col
    rw [spotsF]
    split
    · rename_i h
      obtain ⟨w1, w2⟩ := width s pos h
      have := ih (pos + (Utf8.decode s pos).2) (if (Utf8.decode s pos).1 = 10 then line + 1 else line) (if (Utf8.decode s pos).1 = 10 then 1 else col + 1)
      simp only [List.length_cons]; omega
    · simp
theorem ref_j1 (s : ByteArray) (hs : Sm s) (pos : Nat) (h : pos < s.size) (line col : Int) (hl : 0 ≤ line ∧ line ≤ 1 + pos) (hc : 0 ≤ col ∧ col ≤ 1 + pos) (out : List T_palingref1_Spot) (ho : out.length ≤ pos) :
    palingref1_Spots_j1 s pos line col out = some (.inl ((if (Utf8.decode s pos).1 = 10 then line + 1 else line), (if (Utf8.decode s pos).1 = 10 then 1 else col + 1), pos + (Utf8.decode s pos).2,
      out ++ [opnR { Rune := ((Utf8.decode s pos).1 : Int), At := (pos : Int), Size := ((Utf8.decode s pos).2 : Int), Line := line, Col := col, Bad := (Utf8.decode s pos).1 == 65533 && (Utf8.decode s pos).2 == 1 }])) := by
  unfold Sm at hs
  rw [palingref1_Spots_j1, if_pos (show Fits _ by unfold Fits; omega)]
  simp only [Option.bind_some]
  have e1 : IntKind.wrap .i64 (line + 1) = line + 1 := wi64_id ⟨by omega, by omega⟩
  have e2 : IntKind.wrap .i64 (col + 1) = col + 1 := wi64_id ⟨by omega, by omega⟩
  rw [e1, e2]
  by_cases he : (Utf8.decode s pos).1 = 10
  · rw [if_pos (by rw [he]; rfl), if_pos he, if_pos he]; rfl
  · rw [if_neg (by simp; omega), if_neg he, if_neg he]; rfl
theorem ref_loop1 (s : ByteArray) (hs : Sm s) : ∀ (f pos : Nat) (line col : Int) (ini : List T_glyph_Spot) (x : T_glyph_Spot), s.size - pos ≤ f → pos ≤ s.size → 0 ≤ line ∧ line ≤ 1 + pos → 0 ≤ col ∧ col ≤ 1 + pos → ini.length < pos →
    x.At + x.Size = pos → 0 ≤ x.At → 0 ≤ x.Size →
    ∃ ini' y, loopO (palingref1_Spots_s1 s) (line, col, pos, ini.map shutR ++ [opnR x]) = some (ini'.map shutR ++ [opnR y]) ∧ ini ++ x :: spotsF s f pos line col = ini' ++ [y] ∧ y.At + y.Size = s.size ∧ 0 ≤ y.At ∧ 0 ≤ y.Size := by
  intro f
  induction f with
  | zero =>
    intro pos line col ini x hf hp hl hc ho hx hx0 hx1
    have h : ¬ pos < s.size := by omega
    refine ⟨ini, x, loopO_inr (by rw [palingref1_Spots_s1, if_neg h]), by rw [spotsF], by omega, hx0, hx1⟩
  | succ f ih =>
    intro pos line col ini x hf hp hl hc ho hx hx0 hx1
    rw [spotsF]
    by_cases h : pos < s.size
    · rw [if_pos h]
      obtain ⟨w1, w2⟩ := width s pos h
      have hs' := hs
      unfold Sm at hs'
      have elen : ((ini.map shutR ++ [opnR x]).length : Int) = (ini.length : Int) + 1 := by simp
      have ewr : IntKind.wrap .i64 (((ini.map shutR ++ [opnR x]).length : Int) - 1) = ((ini.map shutR).length : Int) := by
        rw [elen, wi64_id ⟨by omega, by omega⟩]; simp
      have hin : InB (((ini.map shutR).length : Nat) : Int) (ini.map shutR ++ [opnR x]).length := ⟨by omega, by simp⟩
      have hst : palingref1_Spots_s1 s (line, col, pos, ini.map shutR ++ [opnR x]) = palingref1_Spots_j1 s pos line col ((ini ++ [x]).map shutR) := by
        rw [palingref1_Spots_s1, if_pos h, if_pos (by rw [elen]; simp <;> omega), ewr, if_pos hin, if_pos hin]
        simp only [Option.bind_some]
        rw [rd_mid, Int.toNat_natCast, set_mid]
        have e : IntKind.wrap .i64 ((pos : Int) - (opnR x).At) = x.Size := by
          have : (opnR x).At = x.At := rfl
          rw [this, wi64_id ⟨by omega, by omega⟩]; omega
        rw [e, List.map_append]
        rfl
      rw [ref_j1 s hs pos h line col hl hc _ (by simp; omega)] at hst
      obtain ⟨ini', y, h1, h2, h3⟩ := ih (pos + (Utf8.decode s pos).2) (if (Utf8.decode s pos).1 = 10 then line + 1 else line) (if (Utf8.decode s pos).1 = 10 then 1 else col + 1) (ini ++ [x])
        { Rune := ((Utf8.decode s pos).1 : Int), At := (pos : Int), Size := ((Utf8.decode s pos).2 : Int), Line := line, Col := col, Bad := (Utf8.decode s pos).1 == 65533 && (Utf8.decode s pos).2 == 1 }
        (by omega) w2 (by split <;> omega) (by split <;> omega) (by simp; omega) (by simp) (by simp) (by simp)
      exact ⟨ini', y, (loopO_inl hst).trans h1, by rw [← h2]; simp, h3⟩
    · rw [if_neg h]
      exact ⟨ini, x, loopO_inr (by rw [palingref1_Spots_s1, if_neg h]), rfl, by omega, hx0, hx1⟩
theorem ref_loop2 : ∀ (rest done : List T_glyph_Spot), done.length + rest.length ≤ 1000000 → (∀ x ∈ rest, x.Bad = (x.Rune == 65533 && x.Size == 1)) →
    loopO palingref1_Spots_s2 ((done.length : Int), done.map toR ++ rest.map shutR) = some ((done ++ rest).map toR) := by
  intro rest
  induction rest with
  | nil =>
    intro done hd hb
    refine loopO_inr ?_
    rw [palingref1_Spots_s2, if_neg (by simp)]
    simp
  | cons x rest ih =>
    intro done hd hb
    simp only [List.length_cons] at hd
    have hin : InB (((done.map toR).length : Nat) : Int) (done.map toR ++ shutR x :: rest.map shutR).length := ⟨by omega, by simp⟩
    have elen : (done.length : Int) = (((done.map toR).length : Nat) : Int) := by simp
    have hst : palingref1_Spots_s2 ((done.length : Int), done.map toR ++ (x :: rest).map shutR) = some (.inl (((done ++ [x]).length : Int), (done ++ [x]).map toR ++ rest.map shutR)) := by
      rw [List.map_cons, palingref1_Spots_s2, elen, if_pos (by simp; omega), if_pos hin, if_pos (fun _ => hin), if_pos hin]
      simp only [Option.bind_some]
      rw [rd_mid, Int.toNat_natCast, set_mid]
      have e : IntKind.wrap .i64 ((((done.map toR).length : Nat) : Int) + 1) = ((done ++ [x]).length : Int) := by
        rw [wi64_id ⟨by simp; omega, by simp; omega⟩]; simp
      rw [e]
      have hx := hb x (by simp)
      have e2 : T_palingref1_Spot.mk (shutR x).Rune (shutR x).At (shutR x).Size (shutR x).Line (shutR x).Col (((shutR x).Rune == 65533) && ((shutR x).Size == 1)) = toR x := by
        unfold toR shutR; rw [hx]
      rw [e2]
      simp
    rw [loopO_inl hst, ih (done ++ [x]) (by simp; omega) (fun y hy => hb y (by simp [hy]))]
    simp
theorem ref_Spots_eq (s : ByteArray) (hs : Sm s) : palingref1_Spots s = some ((spots s).map toR) := by
  have hs' := hs
  unfold Sm at hs'
  have fin : ∀ l : List T_glyph_Spot, l.length ≤ 1000000 → (∀ x ∈ l, x.Bad = (x.Rune == 65533 && x.Size == 1)) → palingref1_Spots_j2 (l.map shutR) = some (l.map toR) := by
    intro l hl hb
    have := ref_loop2 l [] (by simpa using hl) hb
    rw [palingref1_Spots_j2]
    have e : loopO palingref1_Spots_s2 (0, l.map shutR) = some (l.map toR) := by simpa using this
    rw [e]; rfl
  have hlen : (spots s).length ≤ 1000000 := by have := spotsF_len s s.size 0 1 1; unfold spots; omega
  have hbad : ∀ x ∈ spots s, x.Bad = (x.Rune == 65533 && x.Size == 1) := fun x hx => (spotsF_all s _ _ _ _ x hx).2.2.2
  rw [palingref1_Spots]
  cases hn : s.size with
  | zero =>
    have h : ¬ 0 < s.size := by omega
    have e1 : loopO (palingref1_Spots_s1 s) (1, 1, 0, []) = some [] := loopO_inr (by rw [palingref1_Spots_s1, if_neg h])
    have e2 : spots s = [] := by unfold spots; rw [hn, spotsF]
    rw [e1, e2]
    simp only [Option.bind_some]
    rw [if_neg (by simp)]
    exact fin [] (by simp) (by simp)
  | succ n =>
    have h : 0 < s.size := by omega
    obtain ⟨w1, w2⟩ := width s 0 h
    have hst : palingref1_Spots_s1 s (1, 1, 0, []) = palingref1_Spots_j1 s 0 1 1 [] := by
      rw [palingref1_Spots_s1, if_pos h, if_neg (by simp)]
    rw [ref_j1 s hs 0 h 1 1 (by omega) (by omega) [] (by simp)] at hst
    obtain ⟨ini', y, h1, h2, h3, h4, h5⟩ := ref_loop1 s hs n (0 + (Utf8.decode s 0).2) (if (Utf8.decode s 0).1 = 10 then 1 + 1 else 1) (if (Utf8.decode s 0).1 = 10 then 1 else 1 + 1) []
      { Rune := ((Utf8.decode s 0).1 : Int), At := ((0 : Nat) : Int), Size := ((Utf8.decode s 0).2 : Int), Line := 1, Col := 1, Bad := (Utf8.decode s 0).1 == 65533 && (Utf8.decode s 0).2 == 1 }
      (by omega) (by omega) (by split <;> omega) (by split <;> omega) (by simp; omega) (by simp) (by simp) (by simp)
    have hsp : spots s = ini' ++ [y] := by
      rw [← h2]
      unfold spots
      rw [hn, spotsF, if_pos h]; rfl
    rw [(loopO_inl hst).trans h1]
    simp only [Option.bind_some]
    have elen : ((ini'.map shutR ++ [opnR y]).length : Int) = (ini'.length : Int) + 1 := by simp
    have hil : ini'.length < 1000000 := by rw [hsp] at hlen; simp at hlen; omega
    have ewr : IntKind.wrap .i64 (((ini'.map shutR ++ [opnR y]).length : Int) - 1) = ((ini'.map shutR).length : Int) := by
      rw [elen, wi64_id ⟨by omega, by omega⟩]; simp
    have hin : InB (((ini'.map shutR).length : Nat) : Int) (ini'.map shutR ++ [opnR y]).length := ⟨by omega, by simp⟩
    rw [if_pos (by rw [elen]; simp <;> omega), ewr, if_pos hin, if_pos hin, rd_mid, Int.toNat_natCast, set_mid]
    have e : IntKind.wrap .i64 (((s.size : Nat) : Int) - (opnR y).At) = y.Size := by
      have : (opnR y).At = y.At := rfl
      rw [this, wi64_id ⟨by omega, by omega⟩]; omega
    have e3 : ini'.map shutR ++ [T_palingref1_Spot.mk (opnR y).Rune (opnR y).At (IntKind.wrap .i64 (((s.size : Nat) : Int) - (opnR y).At)) (opnR y).Line (opnR y).Col (opnR y).Bad] = (spots s).map shutR := by
      rw [e, hsp, List.map_append]; rfl
    rw [hn] at e3
    rw [e3]
    exact fin (spots s) hlen hbad
end Go.Vs
