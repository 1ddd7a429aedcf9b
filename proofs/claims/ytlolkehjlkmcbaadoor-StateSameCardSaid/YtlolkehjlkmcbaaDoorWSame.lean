import Derived.Test.YtlolkehjlkmcbaaDoorWD
import Derived.Test.YtlolkehjlkmcbaaDoorWC
/-! StateSame. -/
set_option maxRecDepth 100000
set_option linter.unusedVariables false
set_option linter.unusedSimpArgs false
set_option linter.unusedSectionVars false
namespace Go.Proofs.YtlolkehjlkmcbaaDoor
open Go.Vs

def cloV (ops : Array Oper) (C : List (List Nat)) : Bool :=
  (List.range ops.size).all fun j => match ops[j]? with
    | some o => (C.getD j []).all fun i => o.after.toList.any fun e => Region.binds .any e && (e.on == i || (C.getD e.on []).contains i)
    | none => true
def drawC (C : List (List Nat)) (ops : Array Oper) : Bool :=
  (List.range ops.size).all fun j => (List.range j).all fun i =>
    match ops[i]?, ops[j]? with
    | some x, some y => !touch [] [] [] ops i j x y || (C.getD j []).contains i
    | _, _ => true
theorem drawOk_of {ops : Array Oper} (C : List (List Nat)) (hu : upOk ops = true) (hv : cloV ops C = true) (hd : drawC C ops = true) : drawOk [] [] [] ops = true := by
  have key : ∀ (j : Nat) (o : Oper), ops[j]? = some o → ∀ i ∈ C.getD j [], ∀ f, j < f → i ∈ cloOf ops f j := by
    intro j
    induction j using Nat.strongRecOn with
    | ind j ih =>
      intro o ho i hi f hf
      have hj : j < ops.size := (Array.getElem?_eq_some_iff.1 ho).1
      have h1 := (List.all_eq_true.1 hv) j (List.mem_range.2 hj)
      rw [ho] at h1
      have h2 := (List.all_eq_true.1 h1) i hi
      obtain ⟨e, he, h3⟩ := List.any_eq_true.1 h2
      rw [Bool.and_eq_true, Bool.or_eq_true] at h3
      obtain ⟨hb, h3⟩ := h3
      have h4 := (List.all_eq_true.1 hu) j (List.mem_range.2 hj)
      rw [ho] at h4
      have h5 := (List.all_eq_true.1 h4) e he
      rw [hb] at h5
      have hlt : e.on < j := by simpa using h5
      obtain ⟨f, rfl⟩ : ∃ g, f = g + 1 := ⟨f - 1, by omega⟩
      simp only [cloOf, ho, List.mem_flatMap]
      refine ⟨e, he, ?_⟩
      rw [if_pos hb]
      rcases h3 with h3 | h3
      · have : e.on = i := by simpa using h3
        rw [this]; exact List.mem_cons_self ..
      · refine List.mem_cons_of_mem _ ?_
        have hon : ops[e.on]? = some (ops[e.on]'(by omega)) := Array.getElem?_eq_getElem (by omega)
        exact ih e.on hlt _ hon i (by simpa using h3) f (by omega)
  unfold drawOk
  simp only [List.all_nil, Bool.true_and]
  refine List.all_eq_true.2 fun j hj => List.all_eq_true.2 fun i hi => ?_
  have h1 := (List.all_eq_true.1 ((List.all_eq_true.1 hd) j hj)) i hi
  have hj' : j < ops.size := List.mem_range.1 hj
  have hi' : i < j := List.mem_range.1 hi
  have e1 : ops[j]? = some (ops[j]'hj') := Array.getElem?_eq_getElem hj'
  have e2 : ops[i]? = some (ops[i]'(by omega)) := Array.getElem?_eq_getElem (by omega)
  rw [e1, e2] at h1 ⊢
  simp only [Bool.or_eq_true] at h1 ⊢
  refine h1.imp id fun h => ?_
  have := key j _ e1 i (by simpa using h) ops.size hj'
  simpa using this
abbrev cloSS : List (List Nat) := [[], [], [0, 1], [0, 1, 2], [0, 1, 2, 3], [0, 1, 2, 3], [0, 1, 2, 3, 4, 5], [0, 1, 2, 3], [0, 1, 2, 3], [0, 1, 2, 3, 4, 5, 6, 7, 8], [0, 1, 2, 3, 4, 5, 6, 7, 8, 9], [0, 1, 2, 3, 4, 5, 6, 7, 8, 9, 10], [0, 1, 2, 3, 4, 5, 6, 7, 8, 9, 10, 11], [0, 1, 2, 3, 4, 5, 6, 7, 8, 9, 10, 11, 12], [0, 1, 2, 3, 4, 5, 6, 7, 8, 9, 10, 11, 12], [0, 1, 2, 3, 4, 5, 6, 7, 8, 9, 10, 11, 12, 13, 14], [0, 1, 2, 3, 4, 5, 6, 7, 8, 9, 10, 11, 12, 13, 14, 15], [0, 1, 2, 3, 4, 5, 6, 7, 8, 9, 10, 11, 12, 13, 14, 15, 16], [0, 1, 2, 3, 4, 5, 6, 7, 8, 9, 10, 11, 12, 13, 14, 15, 16, 17], [0, 1, 2, 3, 4, 5, 6, 7, 8, 9, 10, 11, 12, 13, 14, 15, 16, 17], [0, 1, 2, 3, 4, 5, 6, 7, 8, 9, 10, 11, 12, 13, 14, 15, 16, 17, 18, 19], [0, 1, 2, 3, 4, 5, 6, 7, 8, 9, 10, 11, 12, 13, 14, 15, 16, 17, 18, 19, 20], [0, 1, 2, 3, 4, 5, 6, 7, 8, 9, 10, 11, 12, 13, 14, 15, 16, 17, 18, 19, 20, 21], [0, 1, 2, 3, 4, 5, 6, 7, 8, 9, 10, 11, 12, 13, 14, 15, 16, 17, 18, 19, 20, 21, 22], [0, 1, 2, 3, 4, 5, 6, 7, 8, 9, 10, 11, 12, 13, 14, 15, 16, 17, 18, 19, 20, 21, 22, 23], [0, 1, 2, 3, 4, 5, 6, 7, 8, 9, 10, 11, 12, 13, 14, 15, 16, 17, 18, 19, 20, 21, 22, 23], [0, 1, 2, 3, 4, 5, 6, 7, 8, 9, 10, 11, 12, 13, 14, 15, 16, 17, 18, 19, 20, 21, 22, 23, 24, 25], [0, 1, 2, 3, 4, 5, 6, 7, 8, 9, 10, 11, 12, 13, 14, 15, 16, 17, 18, 19, 20, 21, 22, 23, 24, 25, 26], [0, 1, 2, 3, 4, 5, 6, 7, 8, 9, 10, 11, 12, 13, 14, 15, 16, 17, 18, 19, 20, 21, 22, 23, 24, 25, 26, 27], [0, 1, 2, 3, 4, 5, 6, 7, 8, 9, 10, 11, 12, 13, 14, 15, 16, 17, 18, 19, 20, 21, 22, 23, 24, 25, 26, 27, 28], [0, 1, 2, 3, 4, 5, 6, 7, 8, 9, 10, 11, 12, 13, 14, 15, 16, 17, 18, 19, 20, 21, 22, 23, 24, 25, 26, 27, 28, 29], [0, 1, 2, 3, 4, 5, 6, 7, 8, 9, 10, 11, 12, 13, 14, 15, 16, 17, 18, 19, 20, 21, 22, 23, 24, 25, 26, 27, 28, 29, 30], [0, 1, 2, 3, 4, 5, 6, 7, 8, 9, 10, 11, 12, 13, 14, 15, 16, 17, 18, 19, 20, 21, 22, 23, 24, 25, 26, 27, 28, 29, 30, 31]]
theorem ss_great0 [TabP] {p0 p1 p2 : T_api_State} (g0 : palingbook_GreatState p0 = some true) (al : palinglaw13_alive = some true) : PureF Tryd.prog 5 [.agg [.sl (p0.Mem.map (eInt .i64)), .sl (p0.Thr.map e_api_Thr), .sl (p0.Bufs.map (eSl e_api_Entry)), .int .i64 p0.Lock], .agg [.sl (p1.Mem.map (eInt .i64)), .sl (p1.Thr.map e_api_Thr), .sl (p1.Bufs.map (eSl e_api_Entry)), .int .i64 p1.Lock], .agg [.sl (p2.Mem.map (eInt .i64)), .sl (p2.Thr.map e_api_Thr), .sl (p2.Bufs.map (eSl e_api_Entry)), .int .i64 p2.Lock]] (.bool true) := by
  refine PureF.of Tryd.func5 rfl Tryd.ntmps5 (Nat.le_of_ble_eq_true rfl) ?_
  have e0 : argS 0 [.agg [.sl (p0.Mem.map (eInt .i64)), .sl (p0.Thr.map e_api_Thr), .sl (p0.Bufs.map (eSl e_api_Entry)), .int .i64 p0.Lock], .agg [.sl (p1.Mem.map (eInt .i64)), .sl (p1.Thr.map e_api_Thr), .sl (p1.Bufs.map (eSl e_api_Entry)), .int .i64 p1.Lock], .agg [.sl (p2.Mem.map (eInt .i64)), .sl (p2.Thr.map e_api_Thr), .sl (p2.Bufs.map (eSl e_api_Entry)), .int .i64 p2.Lock]] = [(0, .agg [.sl (p0.Mem.map (eInt .i64)), .sl (p0.Thr.map e_api_Thr), .sl (p0.Bufs.map (eSl e_api_Entry)), .int .i64 p0.Lock]), (1, .agg [.sl (p1.Mem.map (eInt .i64)), .sl (p1.Thr.map e_api_Thr), .sl (p1.Bufs.map (eSl e_api_Entry)), .int .i64 p1.Lock]), (2, .agg [.sl (p2.Mem.map (eInt .i64)), .sl (p2.Thr.map e_api_Thr), .sl (p2.Bufs.map (eSl e_api_Entry)), .int .i64 p2.Lock])] := rfl
  rw [e0]
  refine W.sq [] [(3, .ptr 0 0 0), (4, .ptr 1 0 0), (5, .ptr 2 0 0)] [.cells (e_api_State p0) 0 26, .cells (e_api_State p1) 0 26, .cells (e_api_State p2) 0 26] ?_
  refine W.seq ?_
  have k0 := palingbook_GreatState_ok g0
  refine W.sq [] [(3, .ptr 0 0 0), (4, .ptr 1 0 0), (5, .ptr 2 0 0), (16, .bool true)] [.cells (e_api_State p0) 0 26, .cells (e_api_State p1) 0 26, .cells (e_api_State p2) 0 26] ?_
  have ka := palinglaw13_alive_ok al
  refine W.cnd true (fun hb9 => ?_) (fun hb9 => ?_)
  · refine W.sq [] [(6, .bool true)] [] ?_
    exact W.ret (EndsF.retW [] RO)
  · cases hb9
theorem ss_great1 [TabP] {p0 p1 p2 : T_api_State} (g0 : palingbook_GreatState p0 = some false) (g1 : palingbook_GreatState p1 = some true) (al : palinglaw13_alive = some true) : PureF Tryd.prog 5 [.agg [.sl (p0.Mem.map (eInt .i64)), .sl (p0.Thr.map e_api_Thr), .sl (p0.Bufs.map (eSl e_api_Entry)), .int .i64 p0.Lock], .agg [.sl (p1.Mem.map (eInt .i64)), .sl (p1.Thr.map e_api_Thr), .sl (p1.Bufs.map (eSl e_api_Entry)), .int .i64 p1.Lock], .agg [.sl (p2.Mem.map (eInt .i64)), .sl (p2.Thr.map e_api_Thr), .sl (p2.Bufs.map (eSl e_api_Entry)), .int .i64 p2.Lock]] (.bool true) := by
  refine PureF.of Tryd.func5 rfl Tryd.ntmps5 (Nat.le_of_ble_eq_true rfl) ?_
  have e0 : argS 0 [.agg [.sl (p0.Mem.map (eInt .i64)), .sl (p0.Thr.map e_api_Thr), .sl (p0.Bufs.map (eSl e_api_Entry)), .int .i64 p0.Lock], .agg [.sl (p1.Mem.map (eInt .i64)), .sl (p1.Thr.map e_api_Thr), .sl (p1.Bufs.map (eSl e_api_Entry)), .int .i64 p1.Lock], .agg [.sl (p2.Mem.map (eInt .i64)), .sl (p2.Thr.map e_api_Thr), .sl (p2.Bufs.map (eSl e_api_Entry)), .int .i64 p2.Lock]] = [(0, .agg [.sl (p0.Mem.map (eInt .i64)), .sl (p0.Thr.map e_api_Thr), .sl (p0.Bufs.map (eSl e_api_Entry)), .int .i64 p0.Lock]), (1, .agg [.sl (p1.Mem.map (eInt .i64)), .sl (p1.Thr.map e_api_Thr), .sl (p1.Bufs.map (eSl e_api_Entry)), .int .i64 p1.Lock]), (2, .agg [.sl (p2.Mem.map (eInt .i64)), .sl (p2.Thr.map e_api_Thr), .sl (p2.Bufs.map (eSl e_api_Entry)), .int .i64 p2.Lock])] := rfl
  rw [e0]
  refine W.sq [] [(3, .ptr 0 0 0), (4, .ptr 1 0 0), (5, .ptr 2 0 0)] [.cells (e_api_State p0) 0 26, .cells (e_api_State p1) 0 26, .cells (e_api_State p2) 0 26] ?_
  refine W.seq ?_
  have k0 := palingbook_GreatState_ok g0
  have k1 := palingbook_GreatState_ok g1
  refine W.sq [] [(3, .ptr 0 0 0), (4, .ptr 1 0 0), (5, .ptr 2 0 0), (16, .bool true)] [.cells (e_api_State p0) 0 26, .cells (e_api_State p1) 0 26, .cells (e_api_State p2) 0 26] ?_
  have ka := palinglaw13_alive_ok al
  refine W.cnd true (fun hb9 => ?_) (fun hb9 => ?_)
  · refine W.sq [] [(6, .bool true)] [] ?_
    exact W.ret (EndsF.retW [] RO)
  · cases hb9
theorem ss_great2 [TabP] {p0 p1 p2 : T_api_State} (g0 : palingbook_GreatState p0 = some false) (g1 : palingbook_GreatState p1 = some false) (g2 : palingbook_GreatState p2 = some true) (al : palinglaw13_alive = some true) : PureF Tryd.prog 5 [.agg [.sl (p0.Mem.map (eInt .i64)), .sl (p0.Thr.map e_api_Thr), .sl (p0.Bufs.map (eSl e_api_Entry)), .int .i64 p0.Lock], .agg [.sl (p1.Mem.map (eInt .i64)), .sl (p1.Thr.map e_api_Thr), .sl (p1.Bufs.map (eSl e_api_Entry)), .int .i64 p1.Lock], .agg [.sl (p2.Mem.map (eInt .i64)), .sl (p2.Thr.map e_api_Thr), .sl (p2.Bufs.map (eSl e_api_Entry)), .int .i64 p2.Lock]] (.bool true) := by
  refine PureF.of Tryd.func5 rfl Tryd.ntmps5 (Nat.le_of_ble_eq_true rfl) ?_
  have e0 : argS 0 [.agg [.sl (p0.Mem.map (eInt .i64)), .sl (p0.Thr.map e_api_Thr), .sl (p0.Bufs.map (eSl e_api_Entry)), .int .i64 p0.Lock], .agg [.sl (p1.Mem.map (eInt .i64)), .sl (p1.Thr.map e_api_Thr), .sl (p1.Bufs.map (eSl e_api_Entry)), .int .i64 p1.Lock], .agg [.sl (p2.Mem.map (eInt .i64)), .sl (p2.Thr.map e_api_Thr), .sl (p2.Bufs.map (eSl e_api_Entry)), .int .i64 p2.Lock]] = [(0, .agg [.sl (p0.Mem.map (eInt .i64)), .sl (p0.Thr.map e_api_Thr), .sl (p0.Bufs.map (eSl e_api_Entry)), .int .i64 p0.Lock]), (1, .agg [.sl (p1.Mem.map (eInt .i64)), .sl (p1.Thr.map e_api_Thr), .sl (p1.Bufs.map (eSl e_api_Entry)), .int .i64 p1.Lock]), (2, .agg [.sl (p2.Mem.map (eInt .i64)), .sl (p2.Thr.map e_api_Thr), .sl (p2.Bufs.map (eSl e_api_Entry)), .int .i64 p2.Lock])] := rfl
  rw [e0]
  refine W.sq [] [(3, .ptr 0 0 0), (4, .ptr 1 0 0), (5, .ptr 2 0 0)] [.cells (e_api_State p0) 0 26, .cells (e_api_State p1) 0 26, .cells (e_api_State p2) 0 26] ?_
  refine W.seq ?_
  have k0 := palingbook_GreatState_ok g0
  have k1 := palingbook_GreatState_ok g1
  have k2 := palingbook_GreatState_ok g2
  refine W.sq [] [(3, .ptr 0 0 0), (4, .ptr 1 0 0), (5, .ptr 2 0 0), (16, .bool true)] [.cells (e_api_State p0) 0 26, .cells (e_api_State p1) 0 26, .cells (e_api_State p2) 0 26] ?_
  have ka := palinglaw13_alive_ok al
  refine W.cnd true (fun hb9 => ?_) (fun hb9 => ?_)
  · refine W.sq [] [(6, .bool true)] [] ?_
    exact W.ret (EndsF.retW [] RO)
  · cases hb9
theorem ss_f [TabP] {p0 p1 p2 : T_api_State} (g0 : palingbook_GreatState p0 = some false) (g1 : palingbook_GreatState p1 = some false) (g2 : palingbook_GreatState p2 = some false) (e00 : state_Same p0 p0 = some true) (e01 : state_Same p0 p1 = some false) (e10 : state_Same p1 p0 = some false) (al : palinglaw13_alive = some true) : PureF Tryd.prog 5 [.agg [.sl (p0.Mem.map (eInt .i64)), .sl (p0.Thr.map e_api_Thr), .sl (p0.Bufs.map (eSl e_api_Entry)), .int .i64 p0.Lock], .agg [.sl (p1.Mem.map (eInt .i64)), .sl (p1.Thr.map e_api_Thr), .sl (p1.Bufs.map (eSl e_api_Entry)), .int .i64 p1.Lock], .agg [.sl (p2.Mem.map (eInt .i64)), .sl (p2.Thr.map e_api_Thr), .sl (p2.Bufs.map (eSl e_api_Entry)), .int .i64 p2.Lock]] (.bool true) := by
  refine PureF.of Tryd.func5 rfl Tryd.ntmps5 (Nat.le_of_ble_eq_true rfl) ?_
  have e0 : argS 0 [.agg [.sl (p0.Mem.map (eInt .i64)), .sl (p0.Thr.map e_api_Thr), .sl (p0.Bufs.map (eSl e_api_Entry)), .int .i64 p0.Lock], .agg [.sl (p1.Mem.map (eInt .i64)), .sl (p1.Thr.map e_api_Thr), .sl (p1.Bufs.map (eSl e_api_Entry)), .int .i64 p1.Lock], .agg [.sl (p2.Mem.map (eInt .i64)), .sl (p2.Thr.map e_api_Thr), .sl (p2.Bufs.map (eSl e_api_Entry)), .int .i64 p2.Lock]] = [(0, .agg [.sl (p0.Mem.map (eInt .i64)), .sl (p0.Thr.map e_api_Thr), .sl (p0.Bufs.map (eSl e_api_Entry)), .int .i64 p0.Lock]), (1, .agg [.sl (p1.Mem.map (eInt .i64)), .sl (p1.Thr.map e_api_Thr), .sl (p1.Bufs.map (eSl e_api_Entry)), .int .i64 p1.Lock]), (2, .agg [.sl (p2.Mem.map (eInt .i64)), .sl (p2.Thr.map e_api_Thr), .sl (p2.Bufs.map (eSl e_api_Entry)), .int .i64 p2.Lock])] := rfl
  rw [e0]
  refine W.sq [] [(3, .ptr 0 0 0), (4, .ptr 1 0 0), (5, .ptr 2 0 0)] [.cells (e_api_State p0) 0 26, .cells (e_api_State p1) 0 26, .cells (e_api_State p2) 0 26] ?_
  refine W.seq ?_
  have k0 := palingbook_GreatState_ok g0
  have k1 := palingbook_GreatState_ok g1
  have k2 := palingbook_GreatState_ok g2
  refine W.sq [] [(3, .ptr 0 0 0), (4, .ptr 1 0 0), (5, .ptr 2 0 0), (16, .bool false)] [.cells (e_api_State p0) 0 26, .cells (e_api_State p1) 0 26, .cells (e_api_State p2) 0 26] ?_
  refine W.cnd false (fun hb9 => ?_) (fun hb9 => ?_)
  · cases hb9
  · refine W.skip ?_
    clear k0 k1 k2
    have q00 := state_Same_ok e00
    have q01 := state_Same_ok e01
    have q10 := state_Same_ok e10
    have ka := palinglaw13_alive_ok al
    refine W.sqJ [] [] [] 0 [] [(6, .bool true)] [] v_mixed ?_ (hd := drawOk_of cloSS (by kernel_rfl) (by kernel_rfl) (by kernel_rfl))
    exact W.ret (EndsF.retW [] RO)
theorem ss_tf [TabP] {p0 p1 p2 : T_api_State} (g0 : palingbook_GreatState p0 = some false) (g1 : palingbook_GreatState p1 = some false) (g2 : palingbook_GreatState p2 = some false) (e00 : state_Same p0 p0 = some true) (e01 : state_Same p0 p1 = some true) (e10 : state_Same p1 p0 = some true) (e12 : state_Same p1 p2 = some false) (al : palinglaw13_alive = some true) : PureF Tryd.prog 5 [.agg [.sl (p0.Mem.map (eInt .i64)), .sl (p0.Thr.map e_api_Thr), .sl (p0.Bufs.map (eSl e_api_Entry)), .int .i64 p0.Lock], .agg [.sl (p1.Mem.map (eInt .i64)), .sl (p1.Thr.map e_api_Thr), .sl (p1.Bufs.map (eSl e_api_Entry)), .int .i64 p1.Lock], .agg [.sl (p2.Mem.map (eInt .i64)), .sl (p2.Thr.map e_api_Thr), .sl (p2.Bufs.map (eSl e_api_Entry)), .int .i64 p2.Lock]] (.bool true) := by
  refine PureF.of Tryd.func5 rfl Tryd.ntmps5 (Nat.le_of_ble_eq_true rfl) ?_
  have e0 : argS 0 [.agg [.sl (p0.Mem.map (eInt .i64)), .sl (p0.Thr.map e_api_Thr), .sl (p0.Bufs.map (eSl e_api_Entry)), .int .i64 p0.Lock], .agg [.sl (p1.Mem.map (eInt .i64)), .sl (p1.Thr.map e_api_Thr), .sl (p1.Bufs.map (eSl e_api_Entry)), .int .i64 p1.Lock], .agg [.sl (p2.Mem.map (eInt .i64)), .sl (p2.Thr.map e_api_Thr), .sl (p2.Bufs.map (eSl e_api_Entry)), .int .i64 p2.Lock]] = [(0, .agg [.sl (p0.Mem.map (eInt .i64)), .sl (p0.Thr.map e_api_Thr), .sl (p0.Bufs.map (eSl e_api_Entry)), .int .i64 p0.Lock]), (1, .agg [.sl (p1.Mem.map (eInt .i64)), .sl (p1.Thr.map e_api_Thr), .sl (p1.Bufs.map (eSl e_api_Entry)), .int .i64 p1.Lock]), (2, .agg [.sl (p2.Mem.map (eInt .i64)), .sl (p2.Thr.map e_api_Thr), .sl (p2.Bufs.map (eSl e_api_Entry)), .int .i64 p2.Lock])] := rfl
  rw [e0]
  refine W.sq [] [(3, .ptr 0 0 0), (4, .ptr 1 0 0), (5, .ptr 2 0 0)] [.cells (e_api_State p0) 0 26, .cells (e_api_State p1) 0 26, .cells (e_api_State p2) 0 26] ?_
  refine W.seq ?_
  have k0 := palingbook_GreatState_ok g0
  have k1 := palingbook_GreatState_ok g1
  have k2 := palingbook_GreatState_ok g2
  refine W.sq [] [(3, .ptr 0 0 0), (4, .ptr 1 0 0), (5, .ptr 2 0 0), (16, .bool false)] [.cells (e_api_State p0) 0 26, .cells (e_api_State p1) 0 26, .cells (e_api_State p2) 0 26] ?_
  refine W.cnd false (fun hb9 => ?_) (fun hb9 => ?_)
  · cases hb9
  · refine W.skip ?_
    clear k0 k1 k2
    have q00 := state_Same_ok e00
    have q01 := state_Same_ok e01
    have q10 := state_Same_ok e10
    have q12 := state_Same_ok e12
    have ka := palinglaw13_alive_ok al
    refine W.sqJ [] [] [] 0 [] [(6, .bool true)] [] v_mixed ?_ (hd := drawOk_of cloSS (by kernel_rfl) (by kernel_rfl) (by kernel_rfl))
    exact W.ret (EndsF.retW [] RO)
theorem ss_tt [TabP] {p0 p1 p2 : T_api_State} (g0 : palingbook_GreatState p0 = some false) (g1 : palingbook_GreatState p1 = some false) (g2 : palingbook_GreatState p2 = some false) (e00 : state_Same p0 p0 = some true) (e01 : state_Same p0 p1 = some true) (e10 : state_Same p1 p0 = some true) (e12 : state_Same p1 p2 = some true) (e02 : state_Same p0 p2 = some true) (al : palinglaw13_alive = some true) : PureF Tryd.prog 5 [.agg [.sl (p0.Mem.map (eInt .i64)), .sl (p0.Thr.map e_api_Thr), .sl (p0.Bufs.map (eSl e_api_Entry)), .int .i64 p0.Lock], .agg [.sl (p1.Mem.map (eInt .i64)), .sl (p1.Thr.map e_api_Thr), .sl (p1.Bufs.map (eSl e_api_Entry)), .int .i64 p1.Lock], .agg [.sl (p2.Mem.map (eInt .i64)), .sl (p2.Thr.map e_api_Thr), .sl (p2.Bufs.map (eSl e_api_Entry)), .int .i64 p2.Lock]] (.bool true) := by
  refine PureF.of Tryd.func5 rfl Tryd.ntmps5 (Nat.le_of_ble_eq_true rfl) ?_
  have e0 : argS 0 [.agg [.sl (p0.Mem.map (eInt .i64)), .sl (p0.Thr.map e_api_Thr), .sl (p0.Bufs.map (eSl e_api_Entry)), .int .i64 p0.Lock], .agg [.sl (p1.Mem.map (eInt .i64)), .sl (p1.Thr.map e_api_Thr), .sl (p1.Bufs.map (eSl e_api_Entry)), .int .i64 p1.Lock], .agg [.sl (p2.Mem.map (eInt .i64)), .sl (p2.Thr.map e_api_Thr), .sl (p2.Bufs.map (eSl e_api_Entry)), .int .i64 p2.Lock]] = [(0, .agg [.sl (p0.Mem.map (eInt .i64)), .sl (p0.Thr.map e_api_Thr), .sl (p0.Bufs.map (eSl e_api_Entry)), .int .i64 p0.Lock]), (1, .agg [.sl (p1.Mem.map (eInt .i64)), .sl (p1.Thr.map e_api_Thr), .sl (p1.Bufs.map (eSl e_api_Entry)), .int .i64 p1.Lock]), (2, .agg [.sl (p2.Mem.map (eInt .i64)), .sl (p2.Thr.map e_api_Thr), .sl (p2.Bufs.map (eSl e_api_Entry)), .int .i64 p2.Lock])] := rfl
  rw [e0]
  refine W.sq [] [(3, .ptr 0 0 0), (4, .ptr 1 0 0), (5, .ptr 2 0 0)] [.cells (e_api_State p0) 0 26, .cells (e_api_State p1) 0 26, .cells (e_api_State p2) 0 26] ?_
  refine W.seq ?_
  have k0 := palingbook_GreatState_ok g0
  have k1 := palingbook_GreatState_ok g1
  have k2 := palingbook_GreatState_ok g2
  refine W.sq [] [(3, .ptr 0 0 0), (4, .ptr 1 0 0), (5, .ptr 2 0 0), (16, .bool false)] [.cells (e_api_State p0) 0 26, .cells (e_api_State p1) 0 26, .cells (e_api_State p2) 0 26] ?_
  refine W.cnd false (fun hb9 => ?_) (fun hb9 => ?_)
  · cases hb9
  · refine W.skip ?_
    clear k0 k1 k2
    have q00 := state_Same_ok e00
    have q01 := state_Same_ok e01
    have q10 := state_Same_ok e10
    have q12 := state_Same_ok e12
    have q02 := state_Same_ok e02
    have ka := palinglaw13_alive_ok al
    refine W.sqJ [] [] [] 0 [] [(6, .bool true)] [] v_mixed ?_ (hd := drawOk_of cloSS (by kernel_rfl) (by kernel_rfl) (by kernel_rfl))
    exact W.ret (EndsF.retW [] RO)
end Go.Proofs.YtlolkehjlkmcbaaDoor
