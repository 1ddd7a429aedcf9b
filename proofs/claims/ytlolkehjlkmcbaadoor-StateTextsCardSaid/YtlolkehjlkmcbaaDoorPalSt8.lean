import Derived.Test.YtlolkehjlkmcbaaDoorPalSt6
import Derived.Test.YtlolkehjlkmcbaaDoorPalSt7
import Derived.Test.YtlolkehjlkmcbaaDoorPalH
/-! A state with one thing another one; StateTexts. -/
set_option linter.unusedVariables false
set_option linter.unusedSimpArgs false
set_option linter.unusedSectionVars false
set_option maxRecDepth 10000
namespace Go.Vs
open Go.Lib
local instance tabPalSt8 : Tab := ⟨fun _ => none⟩
theorem pick_st {p : Int} (h : I64 p) (n : Int) (hn : 0 < n) (hn2 : n ≤ 1000) : ∃ i, palingbook_Pick p n = some i ∧ 0 ≤ i ∧ i < n := by
  rw [palingbook_Pick, if_pos (by omega)]
  have h1 := Int.tmod_lt_of_pos p hn
  have h2 : -n < Int.tmod p n := by
    have := Int.tmod_lt_of_pos (-p) hn
    rw [Int.neg_tmod] at this; omega
  by_cases hc : Int.tmod p n < 0
  · rw [if_pos (by simpa using hc), wi64_id ⟨by omega, by omega⟩]
    exact ⟨_, rfl, by omega, by omega⟩
  · rw [if_neg (by simpa using hc)]
    exact ⟨_, rfl, by omega, by omega⟩
theorem pick_len {p : Int} (h : I64 p) {α : Type} (l : List α) (h0 : l.length ≠ 0) (h1 : l.length ≤ 100) : ∃ i : Nat, palingbook_Pick p (l.length : Int) = some (i : Int) ∧ i < l.length := by
  obtain ⟨i, h2, h3, h4⟩ := pick_st h (l.length : Int) (by omega) (by omega)
  exact ⟨i.toNat, by rw [h2]; congr 1; omega, by omega⟩
theorem rd_mem {α : Type} [Inhabited α] {l : List α} {i : Nat} (h : i < l.length) : rd l (i : Int) ∈ l := by
  rw [rd_at (List.getElem?_eq_getElem h)]; exact List.getElem_mem h
theorem bent_j1_eq {p1 p2 p3 : Int} {v : T_api_State} {l3 : List T_api_Thr} (hv : Tight v) (hi : StI v) (h1 : I64 p1) (h2 : I64 p2) (h3 : I64 p3) (hl : l3.length ≤ 8) (ht : ∀ x ∈ l3, ThrI x) :
    ∃ c, palinglaw13_bent_j1 p1 v p3 p2 l3 = some c ∧ Small c ∧ StI c := by
  obtain ⟨q1, q2, q3, q4⟩ := hv
  obtain ⟨v7, e7, -, -⟩ := pick_st h1 10 (by omega) (by omega)
  have base : ∀ (m : List Int) (b : List (List T_api_Entry)) (k : Int), m.length ≤ 31 → (∀ x ∈ m, I64 x) → b.length ≤ 9 → (∀ x ∈ b, x.length ≤ 13 ∧ ∀ e ∈ x, I64 e.Addr ∧ I64 e.Val) → I64 k → ∃ c, palinglaw13_bent_j2 l3 m b k = some c ∧ Small c ∧ StI c :=
    fun m b k a1 a2 a3 a4 a5 => ⟨_, rfl, ⟨a1, hl, a3, fun l hl => (a4 l hl).1⟩, ⟨a2, ht, fun l hl => (a4 l hl).2, a5⟩⟩
  have hb : ∀ x ∈ v.Bufs, x.length ≤ 13 ∧ ∀ e ∈ x, I64 e.Addr ∧ I64 e.Val := fun x hx => ⟨by have := q4 x hx; omega, hi.ent x hx⟩
  have same := base v.Mem v.Bufs v.Lock (by omega) hi.mem (by omega) hb hi.lock
  unfold palinglaw13_bent_j1
  rw [e7, Option.bind_some]
  by_cases c6 : (v7 == 6) = true
  · rw [if_pos c6, if_pos (fits_le (by omega)), Option.bind_some]
    exact base _ _ _ (by simp; omega) (fun x hx => by
      rcases List.mem_append.1 hx with h | h
      · exact hi.mem x h
      · obtain rfl : x = p3 := by simpa using h
        exact h3) (by omega) hb hi.lock
  rw [if_neg c6]
  by_cases c7 : (v7 == 7) = true
  · rw [if_pos c7]
    exact base _ _ _ (by omega) hi.mem (by omega) hb h3
  rw [if_neg c7]
  by_cases c8 : (v7 == 8) = true
  · rw [if_pos c8, if_pos (fits_le (by omega)), Option.bind_some]
    exact base _ _ _ (by omega) hi.mem (by simp; omega) (fun x hx => by
      rcases List.mem_append.1 hx with h | h
      · exact hb x h
      · obtain rfl : x = [] := by simpa using h
        exact ⟨by simp, by simp⟩) hi.lock
  rw [if_neg c8]
  by_cases c9 : (v7 == 9) = true
  · rw [if_pos c9]
    by_cases c0 : decide ((v.Bufs.length : Int) > 0) = true
    · rw [if_pos c0]
      obtain ⟨k, ek, hk⟩ := pick_len h2 v.Bufs (by simp only [decide_eq_true_eq] at c0; omega) (by omega)
      have hm := rd_mem hk
      rw [ek, Option.bind_some, if_pos (inb_n hk), if_pos (fits_le (by have := q4 _ hm; omega)), if_pos (inb_n hk), Option.bind_some]
      refine base _ _ _ (by omega) hi.mem (by simp; omega) (fun x hx => ?_) hi.lock
      rcases List.mem_or_eq_of_mem_set hx with h | h
      · exact hb x h
      · subst h
        refine ⟨by have := q4 _ hm; simp; omega, fun e he => ?_⟩
        rcases List.mem_append.1 he with h | h
        · exact hi.ent _ hm e h
        · obtain rfl : e = T_api_Entry.mk p3 p3 := by simpa using h
          exact ⟨h3, h3⟩
    · rw [if_neg c0]; exact same
  · rw [if_neg c9]; exact same
theorem bent_j3_eq {p1 p2 p3 : Int} {v : T_api_State} {i : Nat} {r : A8 Int} {b : Bool} {a1 a2 a3 a4 : Int} (hv : Tight v) (hi : StI v) (h1 : I64 p1) (h2 : I64 p2) (h3 : I64 p3) (hl : v.Thr.length ≠ 0)
    (hr : ∀ f, ThrI (T_api_Thr.mk r f a1 a2 a3 a4)) : ∃ c, palinglaw13_bent_j3 p2 v (i : Int) p1 p3 r.a0 r.a1 r.a2 r.a3 r.a4 r.a5 r.a6 r.a7 b a1 a2 a3 a4 = some c ∧ Small c ∧ StI c := by
  obtain ⟨k, ek, hk⟩ := pick_len h2 v.Thr hl (by have := hv.thr; omega)
  unfold palinglaw13_bent_j3
  rw [ek, Option.bind_some, if_pos (inb_n hk), Option.bind_some]
  refine bent_j1_eq hv hi h1 h2 h3 (by rw [List.length_set]; exact hv.thr) (fun x hx => ?_)
  rcases List.mem_or_eq_of_mem_set hx with h | h
  · exact hi.thr x h
  · subst h; exact hr _
theorem bent_eq {p1 p2 p3 : Int} {s : T_api_State} (hv : Tight s) (hi : StI s) (h1 : I64 p1) (h2 : I64 p2) (h3 : I64 p3) : ∃ c, palinglaw13_bent s p1 p2 p3 = some c ∧ Small c ∧ StI c := by
  unfold palinglaw13_bent
  rw [ref_Copy_eq s hv.small, Option.bind_some]
  by_cases c0 : decide ((s.Thr.length : Int) > 0) = true
  rotate_left
  · rw [if_neg c0]; exact bent_j1_eq hv hi h1 h2 h3 hv.thr hi.thr
  have hl : s.Thr.length ≠ 0 := by simp only [decide_eq_true_eq] at c0; omega
  rw [if_pos c0]
  obtain ⟨k, ek, hk⟩ := pick_len h2 s.Thr hl (by have := hv.thr; omega)
  obtain ⟨v, e, -, -⟩ := pick_st h1 10 (by omega) (by omega)
  rw [ek, Option.bind_some, if_pos (inb_n hk), e, Option.bind_some]
  have t := hi.thr _ (rd_mem hk)
  have go := fun (r : A8 Int) (b : Bool) (a1 a2 a3 a4 : Int) (hr : ∀ f, ThrI (T_api_Thr.mk r f a1 a2 a3 a4)) => bent_j3_eq (i := k) (b := b) hv hi h1 h2 h3 hl hr
  have tt : ∀ a1 a2 a3 a4, I64 a1 → I64 a2 → I64 a3 → I64 a4 → ∀ f, ThrI (T_api_Thr.mk (rd s.Thr (k : Int)).Regs f a1 a2 a3 a4) := fun a1 a2 a3 a4 b1 b2 b3 b4 f => ⟨t.r0, t.r1, t.r2, t.r3, t.r4, t.r5, t.r6, t.r7, b1, b2, b3, b4⟩
  by_cases c : (v == 0) = true
  · rw [if_pos c]; exact go _ _ _ _ _ _ (tt _ _ _ _ h3 t.ph t.la t.st)
  rw [if_neg c]
  by_cases c : (v == 1) = true
  · rw [if_pos c]; exact go _ _ _ _ _ _ (tt _ _ _ _ t.pc h3 t.la t.st)
  rw [if_neg c]
  by_cases c : (v == 2) = true
  · rw [if_pos c]; exact go _ _ _ _ _ _ (tt _ _ _ _ t.pc t.ph h3 t.st)
  rw [if_neg c]
  by_cases c : (v == 3) = true
  · rw [if_pos c]; exact go _ _ _ _ _ _ (tt _ _ _ _ t.pc t.ph t.la h3)
  rw [if_neg c]
  by_cases c : (v == 4) = true
  · rw [if_pos c]; exact go _ _ _ _ _ _ (tt _ _ _ _ t.pc t.ph t.la t.st)
  rw [if_neg c]
  by_cases c : (v == 5) = true
  · rw [if_pos c]
    have hw : I64 (IntKind.wrap .i64 (Int.tdiv p2 8)) := by rw [wi64]; exact ⟨by omega, by omega⟩
    obtain ⟨j, ej, j0, j8⟩ := pick_st hw 8 (by omega) (by omega)
    rw [ej, Option.bind_some, if_pos ⟨j0, by omega⟩, Option.bind_some]
    refine go (A8.put (rd s.Thr (k : Int)).Regs j p3) _ _ _ _ _ (fun f => ?_)
    rcases inb_8 (i := j) ⟨j0, by omega⟩ with rfl | rfl | rfl | rfl | rfl | rfl | rfl | rfl
    · exact ⟨h3, t.r1, t.r2, t.r3, t.r4, t.r5, t.r6, t.r7, t.pc, t.ph, t.la, t.st⟩
    · exact ⟨t.r0, h3, t.r2, t.r3, t.r4, t.r5, t.r6, t.r7, t.pc, t.ph, t.la, t.st⟩
    · exact ⟨t.r0, t.r1, h3, t.r3, t.r4, t.r5, t.r6, t.r7, t.pc, t.ph, t.la, t.st⟩
    · exact ⟨t.r0, t.r1, t.r2, h3, t.r4, t.r5, t.r6, t.r7, t.pc, t.ph, t.la, t.st⟩
    · exact ⟨t.r0, t.r1, t.r2, t.r3, h3, t.r5, t.r6, t.r7, t.pc, t.ph, t.la, t.st⟩
    · exact ⟨t.r0, t.r1, t.r2, t.r3, t.r4, h3, t.r6, t.r7, t.pc, t.ph, t.la, t.st⟩
    · exact ⟨t.r0, t.r1, t.r2, t.r3, t.r4, t.r5, h3, t.r7, t.pc, t.ph, t.la, t.st⟩
    · exact ⟨t.r0, t.r1, t.r2, t.r3, t.r4, t.r5, t.r6, h3, t.pc, t.ph, t.la, t.st⟩
  rw [if_neg c]
  exact go _ _ _ _ _ _ (tt _ _ _ _ t.pc t.ph t.la t.st)
theorem StateTexts_true (a b : T_api_State) (how at_ by_ : Int) (wa : W_api_State a) (wb : W_api_State b) (h1 : I64 how) (h2 : I64 at_) (h3 : I64 by_) : palinglaw13_StateTexts a b how at_ by_ = some true := by
  obtain ⟨ga, ea, ha⟩ := great_tight a
  obtain ⟨gb, eb, hb⟩ := great_eq b
  unfold palinglaw13_StateTexts
  rw [ea, Option.bind_some]
  cases ga with
  | true => simp [alive13_true]
  | false =>
    rw [if_pos (by rfl), eb, Option.bind_some]
    cases gb with
    | true => simp [alive13_true]
    | false =>
      have ta := ha rfl
      have qa := ta.small
      have qb := hb rfl
      have ia := StI.of wa
      have ib := StI.of wb
      obtain ⟨c, ec, qc, ic⟩ := bent_eq ta ia h1 h2 h3
      rw [if_neg (by simp), ec, Option.bind_some, st_Text_eq a qa ia, st_Text_eq b qb ib, st_Text_eq c qc ic, st_Same_eq a b qa, st_Same_eq a c qa, ref_Same_eq a c qa, alive13_true]
      have e1 := txt_eq ia ib
      have e2 := txt_eq ia ic
      simp only [Option.bind_some, e1, e2, beq_self_eq_true, if_true]
      simp [e2]
end Go.Vs
