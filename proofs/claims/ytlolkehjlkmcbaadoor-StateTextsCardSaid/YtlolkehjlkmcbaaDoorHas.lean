import Derived.Test.YtlolkehjlkmcbaaDoorVFacts
import Derived.Test.YtlolkehjlkmcbaaDoorPalWf
import Derived.Test.YtlolkehjlkmcbaaDoorVu3
set_option linter.unusedVariables false
set_option linter.unusedSimpArgs false
set_option maxRecDepth 100000
set_option linter.unusedSectionVars false
namespace Go.Proofs.YtlolkehjlkmcbaaDoor
open Go.Vs
theorem rows_of {α : Type} {n t : Nat} {f : α → List AV} {W : α → Prop} (h : ∀ xs, HasT Tryd.prog n t xs → ∃ x, xs = f x ∧ W x) : ∀ (rows : List (List AV)), (∀ r ∈ rows, HasT Tryd.prog n t r) → ∃ l : List α, rows = l.map f ∧ ∀ x ∈ l, W x
  | [], _ => ⟨[], rfl, by simp⟩
  | r :: rows, hr => by
    obtain ⟨x, e1, e2⟩ := h r (hr r (List.mem_cons_self ..))
    obtain ⟨l, e3, e4⟩ := rows_of h rows (fun r hm => hr r (List.mem_cons_of_mem _ hm))
    exact ⟨x :: l, by rw [e1, e3]; rfl, fun y hy => (List.mem_cons.1 hy).elim (fun e => e ▸ e2) (e4 y)⟩
theorem hasS {P : Program} {n : Nat} {t : TypeId} {fs : Array Field} {xs : List AV} (hu : P.underlying t = some (.struct fs)) (h : HasT P (n + 1) t xs) : HasT.HasF (fun t => HasT P n t) fs.toList xs := by
  simp only [HasT, hu] at h
  exact h
theorem hasL {P : Program} {n : Nat} {t e : TypeId} {xs : List AV} (hu : P.underlying t = some (.slice e)) (h : HasT P (n + 1) t xs) : ∃ rows, xs = [.sl rows] ∧ rows.length ≤ maxLen ∧ ∀ r ∈ rows, HasT P n e r := by
  simp only [HasT, hu] at h
  exact h
theorem has2 {n : Nat} {xs : List AV} (h : HasT Tryd.prog (n + 1) 2 xs) : ∃ x : Int, xs = eInt .i64 x ∧ Wi .i64 x := by
  simp only [HasT, Tryd.underlying2] at h
  obtain ⟨i, rfl, hw⟩ := h
  simp only [Lit.wf, Bool.and_eq_true, decide_eq_true_eq] at hw
  exact ⟨i, rfl, hw⟩
theorem pk2 (x : Int) : pk Tryd.prog 2 (eInt .i64 x) = (eInt .i64 x).headD .undef := by unfold pk; rw [if_neg (by intro h; revert h; simp [aggOf, Tryd.underlying2])]
theorem has22 {n : Nat} {xs : List AV} (h : HasT Tryd.prog (n + 2) 22 xs) : ∃ x : (List Int), xs = eSl (eInt .i64) x ∧ x.length ≤ maxLen ∧ ∀ yx ∈ x, Wi .i64 yx := by
  obtain ⟨rows, rfl, hl, hr⟩ := hasL (n := n + 1) Tryd.underlying22 h
  obtain ⟨l, rfl, hw⟩ := rows_of (n := n + 1) (f := eInt .i64) (W := fun x : Int => Wi .i64 x) (fun xs h => has2 (n := n + 0) h) rows hr
  exact ⟨l, rfl, by simpa using hl, hw⟩
theorem has35 {n : Nat} {xs : List AV} (h : HasT Tryd.prog (n + 2) 35 xs) : ∃ x : (A8 Int), xs = (fun x : (A8 Int) => [.int .i64 x.a0, .int .i64 x.a1, .int .i64 x.a2, .int .i64 x.a3, .int .i64 x.a4, .int .i64 x.a5, .int .i64 x.a6, .int .i64 x.a7]) x ∧ Wi .i64 x.a0 ∧ Wi .i64 x.a1 ∧ Wi .i64 x.a2 ∧ Wi .i64 x.a3 ∧ Wi .i64 x.a4 ∧ Wi .i64 x.a5 ∧ Wi .i64 x.a6 ∧ Wi .i64 x.a7 := by
  simp only [HasT, Tryd.underlying35] at h
  obtain ⟨rows, rfl, hl, hr⟩ := h
  match rows, hl, hr with
  | [r0, r1, r2, r3, r4, r5, r6, r7], _, hr =>
    have q0 := hr r0 (by simp)
    have q1 := hr r1 (by simp)
    have q2 := hr r2 (by simp)
    have q3 := hr r3 (by simp)
    have q4 := hr r4 (by simp)
    have q5 := hr r5 (by simp)
    have q6 := hr r6 (by simp)
    have q7 := hr r7 (by simp)
    clear hr
    obtain ⟨x0, rfl, w0⟩ := has2 (n := n + 0) q0
    obtain ⟨x1, rfl, w1⟩ := has2 (n := n + 0) q1
    obtain ⟨x2, rfl, w2⟩ := has2 (n := n + 0) q2
    obtain ⟨x3, rfl, w3⟩ := has2 (n := n + 0) q3
    obtain ⟨x4, rfl, w4⟩ := has2 (n := n + 0) q4
    obtain ⟨x5, rfl, w5⟩ := has2 (n := n + 0) q5
    obtain ⟨x6, rfl, w6⟩ := has2 (n := n + 0) q6
    obtain ⟨x7, rfl, w7⟩ := has2 (n := n + 0) q7
    exact ⟨⟨x0, x1, x2, x3, x4, x5, x6, x7⟩, rfl, w0, w1, w2, w3, w4, w5, w6, w7⟩
theorem has4 {n : Nat} {xs : List AV} (h : HasT Tryd.prog (n + 1) 4 xs) : ∃ x : Bool, xs = eBool x ∧ True := by
  simp only [HasT, Tryd.underlying4] at h
  obtain ⟨b, rfl⟩ := h
  exact ⟨b, rfl, trivial⟩
theorem has37 {n : Nat} {xs : List AV} (h : HasT Tryd.prog (n + 2) 37 xs) : ∃ x : T_api_Flags, xs = e_api_Flags x ∧ W_api_Flags x := by
  replace h := hasS (n := n + 1) Tryd.underlying37 h
  simp only [HasT.HasF] at h
  obtain ⟨a0, b0, rfl, h0, a1, b1, rfl, h1, a2, b2, rfl, h2, a3, b3, rfl, h3, rfl⟩ := h
  obtain ⟨x0, rfl, w0⟩ := has4 (n := n + 0) h0
  obtain ⟨x1, rfl, w1⟩ := has4 (n := n + 0) h1
  obtain ⟨x2, rfl, w2⟩ := has4 (n := n + 0) h2
  obtain ⟨x3, rfl, w3⟩ := has4 (n := n + 0) h3
  exact ⟨⟨x0, x1, x2, x3⟩, rfl, ⟨w0, w1, w2, w3⟩⟩
theorem has3 {n : Nat} {xs : List AV} (h : HasT Tryd.prog (n + 1) 3 xs) : ∃ x : Int, xs = eInt .i64 x ∧ Wi .i64 x := by
  simp only [HasT, Tryd.underlying3] at h
  obtain ⟨i, rfl, hw⟩ := h
  simp only [Lit.wf, Bool.and_eq_true, decide_eq_true_eq] at hw
  exact ⟨i, rfl, hw⟩
theorem pk3 (x : Int) : pk Tryd.prog 3 (eInt .i64 x) = (eInt .i64 x).headD .undef := by unfold pk; rw [if_neg (by intro h; revert h; simp [aggOf, Tryd.underlying3])]
theorem has39 {n : Nat} {xs : List AV} (h : HasT Tryd.prog (n + 3) 39 xs) : ∃ x : T_api_Thr, xs = e_api_Thr x ∧ W_api_Thr x := by
  replace h := hasS (n := n + 2) Tryd.underlying39 h
  simp only [HasT.HasF] at h
  obtain ⟨a0, b0, rfl, h0, a1, b1, rfl, h1, a2, b2, rfl, h2, a3, b3, rfl, h3, a4, b4, rfl, h4, a5, b5, rfl, h5, rfl⟩ := h
  obtain ⟨x0, rfl, w0⟩ := has35 (n := n + 0) h0
  obtain ⟨x1, rfl, w1⟩ := has37 (n := n + 0) h1
  obtain ⟨x2, rfl, w2⟩ := has3 (n := n + 1) h2
  obtain ⟨x3, rfl, w3⟩ := has3 (n := n + 1) h3
  obtain ⟨x4, rfl, w4⟩ := has2 (n := n + 1) h4
  obtain ⟨x5, rfl, w5⟩ := has3 (n := n + 1) h5
  exact ⟨⟨x0, x1, x2, x3, x4, x5⟩, rfl, ⟨w0, w1, w2, w3, w4, w5⟩⟩
theorem has23 {n : Nat} {xs : List AV} (h : HasT Tryd.prog (n + 4) 23 xs) : ∃ x : (List T_api_Thr), xs = eSl e_api_Thr x ∧ x.length ≤ maxLen ∧ ∀ yx ∈ x, W_api_Thr yx := by
  obtain ⟨rows, rfl, hl, hr⟩ := hasL (n := n + 3) Tryd.underlying23 h
  obtain ⟨l, rfl, hw⟩ := rows_of (n := n + 3) (f := e_api_Thr) (W := fun x : T_api_Thr => W_api_Thr x) (fun xs h => has39 (n := n + 0) h) rows hr
  exact ⟨l, rfl, by simpa using hl, hw⟩
theorem has42 {n : Nat} {xs : List AV} (h : HasT Tryd.prog (n + 2) 42 xs) : ∃ x : T_api_Entry, xs = e_api_Entry x ∧ W_api_Entry x := by
  replace h := hasS (n := n + 1) Tryd.underlying42 h
  simp only [HasT.HasF] at h
  obtain ⟨a0, b0, rfl, h0, a1, b1, rfl, h1, rfl⟩ := h
  obtain ⟨x0, rfl, w0⟩ := has3 (n := n + 0) h0
  obtain ⟨x1, rfl, w1⟩ := has2 (n := n + 0) h1
  exact ⟨⟨x0, x1⟩, rfl, ⟨w0, w1⟩⟩
theorem has40 {n : Nat} {xs : List AV} (h : HasT Tryd.prog (n + 3) 40 xs) : ∃ x : (List T_api_Entry), xs = eSl e_api_Entry x ∧ x.length ≤ maxLen ∧ ∀ yx ∈ x, W_api_Entry yx := by
  obtain ⟨rows, rfl, hl, hr⟩ := hasL (n := n + 2) Tryd.underlying40 h
  obtain ⟨l, rfl, hw⟩ := rows_of (n := n + 2) (f := e_api_Entry) (W := fun x : T_api_Entry => W_api_Entry x) (fun xs h => has42 (n := n + 0) h) rows hr
  exact ⟨l, rfl, by simpa using hl, hw⟩
theorem has24 {n : Nat} {xs : List AV} (h : HasT Tryd.prog (n + 4) 24 xs) : ∃ x : (List (List T_api_Entry)), xs = eSl (eSl e_api_Entry) x ∧ x.length ≤ maxLen ∧ ∀ yx ∈ x, yx.length ≤ maxLen ∧ ∀ yyx ∈ yx, W_api_Entry yyx := by
  obtain ⟨rows, rfl, hl, hr⟩ := hasL (n := n + 3) Tryd.underlying24 h
  obtain ⟨l, rfl, hw⟩ := rows_of (n := n + 3) (f := eSl e_api_Entry) (W := fun x : (List T_api_Entry) => x.length ≤ maxLen ∧ ∀ yx ∈ x, W_api_Entry yx) (fun xs h => has40 (n := n + 0) h) rows hr
  exact ⟨l, rfl, by simpa using hl, hw⟩
theorem has26 {n : Nat} {xs : List AV} (h : HasT Tryd.prog (n + 5) 26 xs) : ∃ x : T_api_State, xs = e_api_State x ∧ W_api_State x := by
  replace h := hasS (n := n + 4) Tryd.underlying26 h
  simp only [HasT.HasF] at h
  obtain ⟨a0, b0, rfl, h0, a1, b1, rfl, h1, a2, b2, rfl, h2, a3, b3, rfl, h3, rfl⟩ := h
  obtain ⟨x0, rfl, w0⟩ := has22 (n := n + 2) h0
  obtain ⟨x1, rfl, w1⟩ := has23 (n := n + 0) h1
  obtain ⟨x2, rfl, w2⟩ := has24 (n := n + 0) h2
  obtain ⟨x3, rfl, w3⟩ := has3 (n := n + 3) h3
  exact ⟨⟨x0, x1, x2, x3⟩, rfl, ⟨w0, w1, w2, w3⟩⟩
theorem pk26 (x : T_api_State) : pk Tryd.prog 26 (e_api_State x) = .agg (e_api_State x) := by unfold pk; rw [if_pos (by kernel_rfl)]
end Go.Proofs.YtlolkehjlkmcbaaDoor
