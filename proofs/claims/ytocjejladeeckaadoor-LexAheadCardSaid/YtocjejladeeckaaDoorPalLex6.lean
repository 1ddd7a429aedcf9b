import Derived.Test.YtocjejladeeckaaDoorPalLex5
/-! What stands ahead of the wrong place. -/
set_option linter.unusedVariables false
set_option linter.unusedSimpArgs false
set_option linter.unusedSectionVars false
namespace Go.Vs
local instance tabPalLex6 : Tab := ⟨fun _ => none⟩
theorem decN_cut {n m b0 b1 b2 b3 c1 c2 c3 : Nat} (hm : m ≤ n) (hw : (Lib.decodeN n b0 b1 b2 b3).2 ≤ m) (h1 : 1 < m → c1 = b1) (h2 : 2 < m → c2 = b2) (h3 : 3 < m → c3 = b3) :
    Lib.decodeN m b0 c1 c2 c3 = Lib.decodeN n b0 b1 b2 b3 := by
  unfold Lib.decodeN at hw ⊢
  by_cases p0 : b0 < 128
  · rw [if_pos p0, if_pos p0]
  rw [if_neg p0] at hw
  rw [if_neg p0, if_neg p0]
  by_cases p1 : b0 / 32 = 6
  · have q1 : ¬ b0 / 16 = 14 := by omega
    have q2 : ¬ b0 / 8 = 30 := by omega
    simp only [p1, q1, q2, true_and, false_and, if_false] at hw ⊢
    by_cases mw : 2 ≤ m
    · have e1 := h1 (by omega)
      subst e1
      have t1 : (1 < m) = True := eq_true (by omega)
      have t2 : (1 < n) = True := eq_true (by omega)
      simp only [t1, t2]
    · rw [if_neg (show ¬ (1 < m ∧ c1 / 64 = 2) by omega)]
      by_cases r : 1 < n ∧ b1 / 64 = 2
      · rw [if_pos r] at hw ⊢
        split at hw
        · dsimp only at hw; omega
        · rename_i hn; rw [if_neg hn]
      · rw [if_neg r]
  by_cases p2 : b0 / 16 = 14
  · have q2 : ¬ b0 / 8 = 30 := by omega
    simp only [p1, p2, q2, true_and, false_and, if_false] at hw ⊢
    by_cases mw : 3 ≤ m
    · have e1 := h1 (by omega)
      have e2 := h2 (by omega)
      subst e1; subst e2
      have t1 : (1 < m) = True := eq_true (by omega)
      have t2 : (1 < n) = True := eq_true (by omega)
      have t3 : (2 < m) = True := eq_true (by omega)
      have t4 : (2 < n) = True := eq_true (by omega)
      simp only [t1, t2, t3, t4]
    · rw [if_neg (show ¬ ((1 < m ∧ c1 / 64 = 2) ∧ 2 < m ∧ c2 / 64 = 2) by omega)]
      by_cases r : (1 < n ∧ b1 / 64 = 2) ∧ 2 < n ∧ b2 / 64 = 2
      · rw [if_pos r] at hw ⊢
        split at hw
        · dsimp only at hw; omega
        · rename_i hn; rw [if_neg hn]
      · rw [if_neg r]
  by_cases p3 : b0 / 8 = 30
  · simp only [p1, p2, p3, true_and, false_and, if_false] at hw ⊢
    by_cases mw : 4 ≤ m
    · have e1 := h1 (by omega)
      have e2 := h2 (by omega)
      have e3 := h3 (by omega)
      subst e1; subst e2; subst e3
      have t1 : (1 < m) = True := eq_true (by omega)
      have t2 : (1 < n) = True := eq_true (by omega)
      have t3 : (2 < m) = True := eq_true (by omega)
      have t4 : (2 < n) = True := eq_true (by omega)
      have t5 : (3 < m) = True := eq_true (by omega)
      have t6 : (3 < n) = True := eq_true (by omega)
      simp only [t1, t2, t3, t4, t5, t6]
    · rw [if_neg (show ¬ ((1 < m ∧ c1 / 64 = 2) ∧ (2 < m ∧ c2 / 64 = 2) ∧ 3 < m ∧ c3 / 64 = 2) by omega)]
      by_cases r : (1 < n ∧ b1 / 64 = 2) ∧ (2 < n ∧ b2 / 64 = 2) ∧ 3 < n ∧ b3 / 64 = 2
      · rw [if_pos r] at hw ⊢
        split at hw
        · dsimp only at hw; omega
        · rename_i hn; rw [if_neg hn]
      · rw [if_neg r]
  · simp only [p1, p2, p3, false_and, if_false]
theorem get_cut (s : ByteArray) (m j : Nat) (h : j < m) (hm : m ≤ s.size) : (s.extract 0 m).get! j = s.get! j := by
  have h1 : j < (s.extract 0 m).size := by rw [ByteArray.size_extract]; omega
  rw [Go.Proofs.Utf8W.get!_of_lt _ _ h1, Go.Proofs.Utf8W.get!_of_lt _ _ (by omega)]
  rw [ByteArray.getElem_extract]
  simp
theorem decode_cut (s : ByteArray) (m pos : Nat) (hm : m ≤ s.size) (hw : pos + (Utf8.decode s pos).2 ≤ m) (hp : pos < m) : Utf8.decode (s.extract 0 m) pos = Utf8.decode s pos := by
  have hsz : (s.extract 0 m).size = m := by rw [ByteArray.size_extract]; omega
  rw [Lib.decode_at] at hw
  rw [Lib.decode_at, Lib.decode_at s, hsz, get_cut s m pos hp hm]
  exact decN_cut (by omega) (by omega) (fun h => by rw [get_cut s m (pos + 1) (by omega) hm]) (fun h => by rw [get_cut s m (pos + 2) (by omega) hm]) (fun h => by rw [get_cut s m (pos + 3) (by omega) hm])
/-- A text cut between two runes has the runes ahead of the cut. -/
theorem spotsF_cut (s : ByteArray) (m : Nat) (hm : m ≤ s.size) : ∀ (f pos : Nat) (line col : Int), s.size - pos ≤ f → (∀ x ∈ spotsF s f pos line col, x.At < m → x.At + x.Size ≤ m) →
    ∀ f' : Nat, m - pos ≤ f' → spotsF (s.extract 0 m) f' pos line col = (spotsF s f pos line col).filter fun x => decide (x.At < (m : Int)) := by
  have hsz : (s.extract 0 m).size = m := by rw [ByteArray.size_extract]; omega
  intro f
  induction f with
  | zero =>
    intro pos line col hf _ f' _
    have h : ¬ pos < m := by omega
    cases f' with
    | zero => rfl
    | succ f' => simp only [spotsF, hsz, h, if_false, List.filter_nil]
  | succ f ih =>
    intro pos line col hf hx f' hf'
    by_cases h : pos < s.size
    · have e : spotsF s (f + 1) pos line col = { Rune := ((Utf8.decode s pos).1 : Int), At := (pos : Int), Size := ((Utf8.decode s pos).2 : Int), Line := line, Col := col, Bad := (Utf8.decode s pos).1 == 65533 && (Utf8.decode s pos).2 == 1 } ::
          spotsF s f (pos + (Utf8.decode s pos).2) (if (Utf8.decode s pos).1 = 10 then line + 1 else line) (if (Utf8.decode s pos).1 = 10 then 1 else col + 1) := by rw [spotsF, if_pos h]
      rw [e] at hx ⊢
      obtain ⟨w1, w2⟩ := width s pos h
      by_cases hp : pos < m
      · have hh := hx _ (List.mem_cons_self ..) (by show (pos : Int) < m; omega)
        have hh' : pos + (Utf8.decode s pos).2 ≤ m := by
          have : (pos : Int) + ((Utf8.decode s pos).2 : Int) ≤ m := hh
          omega
        rw [List.filter_cons, if_pos (by simpa using hp)]
        cases f' with
        | zero => omega
        | succ f' =>
          have e5 : ∀ g', spotsF (s.extract 0 m) (g' + 1) pos line col = if pos < (s.extract 0 m).size then { Rune := ((Utf8.decode (s.extract 0 m) pos).1 : Int), At := (pos : Int), Size := ((Utf8.decode (s.extract 0 m) pos).2 : Int), Line := line, Col := col, Bad := (Utf8.decode (s.extract 0 m) pos).1 == 65533 && (Utf8.decode (s.extract 0 m) pos).2 == 1 } ::
              spotsF (s.extract 0 m) g' (pos + (Utf8.decode (s.extract 0 m) pos).2) (if (Utf8.decode (s.extract 0 m) pos).1 = 10 then line + 1 else line) (if (Utf8.decode (s.extract 0 m) pos).1 = 10 then 1 else col + 1) else [] := fun g' => rfl
          rw [e5, hsz, if_pos hp, decode_cut s m pos hm hh' hp]
          rw [ih (pos + (Utf8.decode s pos).2) _ _ (by omega) (fun x hm => hx x (List.mem_cons_of_mem _ hm)) f' (by omega)]
      · have hall : ∀ x ∈ spotsF s f (pos + (Utf8.decode s pos).2) (if (Utf8.decode s pos).1 = 10 then line + 1 else line) (if (Utf8.decode s pos).1 = 10 then 1 else col + 1), ¬ (decide (x.At < (m : Int)) = true) := fun x hx => by
          have := (spotsF_all s _ _ _ _ x hx).1
          simp; omega
        rw [List.filter_cons, if_neg (by simpa using hp), List.filter_eq_nil_iff.2 hall]
        cases f' with
        | zero => rfl
        | succ f' => rw [spotsF, hsz, if_neg hp]
    · have h' : ¬ pos < m := by omega
      rw [spotsF, if_neg h]
      cases f' with
      | zero => rfl
      | succ f' => rw [spotsF, hsz, if_neg h']; rfl
theorem filter_take {v : List T_glyph_Spot} (hp : v.Pairwise fun x y => x.At + x.Size ≤ y.At ∧ PLt x.Line x.Col y.Line y.Col) (hs : ∀ x ∈ v, 1 ≤ x.Size) {i : Nat} (hi : i < v.length) :
    (v.filter fun x => decide (x.At < (v[i]'hi).At)) = v.take i := by
  have e : v = v.take i ++ v.drop i := (List.take_append_drop i v).symm
  have h1 : ∀ x ∈ v.take i, decide (x.At < (v[i]'hi).At) = true := fun x hx => by
    obtain ⟨j, hj, rfl⟩ := List.getElem_of_mem hx
    simp only [List.length_take] at hj
    rw [List.getElem_take]
    have := (List.pairwise_iff_getElem.1 hp j i (by omega) hi (by omega)).1
    have := hs _ (List.getElem_mem (show j < v.length by omega))
    simp; omega
  have h2 : ∀ x ∈ v.drop i, ¬ decide (x.At < (v[i]'hi).At) = true := fun x hx => by
    obtain ⟨j, hj, rfl⟩ := List.getElem_of_mem hx
    rw [List.getElem_drop]
    simp only [List.length_drop] at hj
    by_cases e0 : j = 0
    · subst e0; simp
    · have := (List.pairwise_iff_getElem.1 hp i (i + j) hi (by omega) (by omega)).1
      have := hs _ (List.getElem_mem hi)
      simp; omega
  generalize hA : (v[i]'hi).At = a at h1 h2 ⊢
  conv => lhs; rw [e]
  rw [List.filter_append, List.filter_eq_self.2 h1, List.filter_eq_nil_iff.2 h2, List.append_nil]
theorem spots_cut (s : ByteArray) {i : Nat} (hi : i < (spots s).length) : spots (s.extract 0 ((spots s)[i]'hi).At.toNat) = (spots s).take i := by
  have hp : (spots s).Pairwise fun x y => x.At + x.Size ≤ y.At ∧ PLt x.Line x.Col y.Line y.Col := spotsF_pw s _ _ _ _
  have hall := spotsF_all s s.size 0 1 1
  obtain ⟨a, b, c, _⟩ := hall _ (List.getElem_mem hi)
  have hm : ((spots s)[i]'hi).At.toNat ≤ s.size := by
    have : ((spots s)[i]'hi).At + ((spots s)[i]'hi).Size ≤ s.size := c
    have : 1 ≤ ((spots s)[i]'hi).Size := b
    omega
  have h0 : 0 ≤ ((spots s)[i]'hi).At := by simpa using a
  have hsz : (s.extract 0 ((spots s)[i]'hi).At.toNat).size = ((spots s)[i]'hi).At.toNat := by rw [ByteArray.size_extract]; omega
  have := spotsF_cut s ((spots s)[i]'hi).At.toNat hm s.size 0 1 1 (by omega) (fun x hx hlt => by
    obtain ⟨j, hj, rfl⟩ := List.getElem_of_mem hx
    have hji : j < i := by
      rcases Nat.lt_or_ge j i with h | h
      · exact h
      · exfalso
        have e1 : (spotsF s s.size 0 1 1)[j] = (spots s)[j]'hj := rfl
        rw [e1] at hlt
        by_cases e : j = i
        · subst e; omega
        · have h2 := (List.pairwise_iff_getElem.1 hp i j hi hj (by omega)).1
          have : 1 ≤ ((spots s)[i]'hi).Size := b
          omega
    have h2 := (List.pairwise_iff_getElem.1 hp j i hj hi hji).1
    have e1 : (spotsF s s.size 0 1 1)[j] = (spots s)[j]'hj := rfl
    rw [e1]; omega) (s.extract 0 ((spots s)[i]'hi).At.toNat).size (by rw [hsz]; omega)
  have e2 : spots (s.extract 0 ((spots s)[i]'hi).At.toNat) = spotsF (s.extract 0 ((spots s)[i]'hi).At.toNat) (s.extract 0 ((spots s)[i]'hi).At.toNat).size 0 1 1 := rfl
  rw [e2, this]
  have e3 : (((((spots s)[i]'hi).At.toNat : Nat) : Int)) = ((spots s)[i]'hi).At := by omega
  rw [e3]
  exact filter_take hp (fun x hx => (hall x hx).2.1) hi
end Go.Vs
