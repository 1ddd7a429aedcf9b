import Derived.Test.YtocjejladeeckaaDoorVFacts
import Derived.Test.YtocjejladeeckaaDoorPalC
import Derived.Test.YtocjejladeeckaaDoorWB
import Derived.Test.YtocjejladeeckaaDoorWNum
set_option maxRecDepth 100000
set_option maxHeartbeats 4000000
set_option linter.unusedSimpArgs false
set_option linter.unusedVariables false
set_option linter.unusedSectionVars false
namespace Go.Proofs.YtocjejladeeckaaDoor
open Go.Vs
variable [TabU]
theorem valid_thread_ok {p0 : T_api_Prog} {p1 : T_api_Thread} {r : Int} (hm : valid_thread p0 p1 = some r) : PureF Tryd.prog 80 [.agg [.sl (p0.Syms.map e_api_Sym), .sl (p0.Threads.map e_api_Thread)], .agg [.sl (p1.Ins.map e_api_Ins)]] (.int .i64 r) := by
  rw [valid_thread] at hm
  refine PureF.of Tryd.func80 rfl Tryd.ntmps80 (Nat.le_of_ble_eq_true rfl) ?_
  have e0 : argS 0 [.agg [.sl (p0.Syms.map e_api_Sym), .sl (p0.Threads.map e_api_Thread)], .agg [.sl (p1.Ins.map e_api_Ins)]] = [(0, .agg [.sl (p0.Syms.map e_api_Sym), .sl (p0.Threads.map e_api_Thread)]), (1, .agg [.sl (p1.Ins.map e_api_Ins)])] := rfl
  rw [e0]
  refine W.sq [] [(2, .ptr 0 0 0), (3, .ptr 1 0 0)] [.cells (e_api_Prog p0) 0 38, .cells (e_api_Thread p1) 0 65] ?_
  refine W.seq ?_
  replace hm := of_bind hm
  obtain ⟨v1, h2, hm⟩ := hm
  have kh2 := valid_Count_ok h2
  refine W.sq [] [(2, .ptr 0 0 0), (3, .ptr 1 0 0), (18, .bool (decide (v1 > 4096)))] [.cells (e_api_Prog p0) 0 38, .cells (e_api_Thread p1) 0 65] ?_
  refine W.cnd (decide (v1 > 4096)) (fun hb3 => ?_) (fun hb3 => ?_)
  · replace hm := of_true hb3 hm
    refine W.sq [] [(4, .int .i64 10)] [] ?_
    obtain rfl := Option.some.inj hm
    exact W.ret (EndsF.retW [] RO)
  · replace hm := of_false hb3 hm
    refine W.skip ?_
    refine W.sq [] [(2, .ptr 0 0 0), (3, .ptr 1 0 0), (5, .map 2)] [.cells (e_api_Prog p0) 0 38, .cells (e_api_Thread p1) 0 65, .map (([] : (List (ByteArray × Bool))).map (eKV AV.str AV.bool))] ?_
    refine W.seq ?_
    refine W.sq [] [(2, .ptr 0 0 0), (3, .ptr 1 0 0), (5, .map 2), (21, .sl (p1.Ins.map e_api_Ins)), (22, .int .i64 (p1.Ins.length : Int)), (23, .int .i64 0)] [.cells (e_api_Prog p0) 0 38, .cells (e_api_Thread p1) 0 65, .map (([] : (List (ByteArray × Bool))).map (eKV AV.str AV.bool))] ?_
    refine W.block ?_
    replace hm := of_bind hm
    obtain ⟨r142, hlr142, hm⟩ := hm
    refine W.mono (Q := fun e0 s0 h0 => match r142 with | .inl e => e0 = .exit 0 ∧ ∃ w : Unit, s0 = [(3, .ptr 1 0 0), (5, .map 2)] ∧ h0 = [.dead, .cells (e_api_Thread p1) 0 65, .map (e.map (eKV AV.str AV.bool))] | .inr q => e0 = .ret ∧ s0 = [(4, .int .i64 q)] ∧ h0 = []) (W.loopM (step := valid_thread_s1 p1 p0) (a0 := (0, ([] : (List (ByteArray × Bool))))) (fun (a : Int × (List (ByteArray × Bool))) (v : Unit) => ([(2, .ptr 0 0 0), (3, .ptr 1 0 0), (5, .map 2), (21, .sl (p1.Ins.map e_api_Ins)), (22, .int .i64 (p1.Ins.length : Int)), (23, .int .i64 a.1)], [.cells (e_api_Prog p0) 0 38, .cells (e_api_Thread p1) 0 65, .map (a.2.map (eKV AV.str AV.bool))])) () hlr142 ⟨[], []⟩ RO ?_) ?_
    · rintro ⟨i95, l96⟩ _ x hm hx
      rw [valid_thread_s1] at hm
      show WK _ _ _ _ _ [(2, .ptr 0 0 0), (3, .ptr 1 0 0), (5, .map 2), (21, .sl (p1.Ins.map e_api_Ins)), (22, .int .i64 (p1.Ins.length : Int)), (23, .int .i64 i95)] [.cells (e_api_Prog p0) 0 38, .cells (e_api_Thread p1) 0 65, .map (l96.map (eKV AV.str AV.bool))]
      refine W.sq [] [(2, .ptr 0 0 0), (3, .ptr 1 0 0), (5, .map 2), (21, .sl (p1.Ins.map e_api_Ins)), (22, .int .i64 (p1.Ins.length : Int)), (23, .int .i64 i95), (24, .bool (decide (i95 < (p1.Ins.length : Int))))] [.cells (e_api_Prog p0) 0 38, .cells (e_api_Thread p1) 0 65, .map (l96.map (eKV AV.str AV.bool))] ?_
      refine W.seq ?_
      refine W.cnd (decide (i95 < (p1.Ins.length : Int))) (fun hb143 => ?_) (fun hb143 => ?_)
      · replace hm := of_true hb143 hm
        refine W.skip ?_
        refine W.cut (fun s h => ∃ (v : (List (ByteArray × Bool))) (w : Unit) (F : Gs), valid_thread_j1 i95 v = some x ∧ AT 0 F [(2, .ptr 0 0 0), (3, .ptr 1 0 0), (5, .map 2), (21, .sl (p1.Ins.map e_api_Ins)), (22, .int .i64 (p1.Ins.length : Int)), (23, .int .i64 i95)] [.cells (e_api_Prog p0) 0 38, .cells (e_api_Thread p1) 0 65, .map (v.map (eKV AV.str AV.bool))] s h) ?_ ?_
        · refine W.block ?_
          replace hm := of_ite hm
          obtain ⟨h145, hm⟩ := hm
          refine W.sq [] [(2, .ptr 0 0 0), (3, .ptr 1 0 0), (5, .map 2), (7, .ptr 3 0 0), (21, .sl (p1.Ins.map e_api_Ins)), (22, .int .i64 (p1.Ins.length : Int)), (23, .int .i64 i95)] [.cells (e_api_Prog p0) 0 38, .cells (e_api_Thread p1) 0 65, .map (l96.map (eKV AV.str AV.bool)), .cells (e_api_Ins (rd p1.Ins i95)) 0 55] ?_
          refine W.seq ?_
          refine W.sq [] [(2, .ptr 0 0 0), (3, .ptr 1 0 0), (5, .map 2), (7, .ptr 3 0 0), (21, .sl (p1.Ins.map e_api_Ins)), (22, .int .i64 (p1.Ins.length : Int)), (23, .int .i64 i95), (28, .sl (((rd p1.Ins i95).Labels).map eStr)), (29, .int .i64 (((rd p1.Ins i95).Labels).length : Int)), (30, .int .i64 0)] [.cells (e_api_Prog p0) 0 38, .cells (e_api_Thread p1) 0 65, .map (l96.map (eKV AV.str AV.bool)), .cells (e_api_Ins (rd p1.Ins i95)) 0 55] ?_
          refine W.block ?_
          replace hm := of_bind hm
          obtain ⟨r175, hlr175, hm⟩ := hm
          refine W.mono (Q := fun e0 s0 h0 => match r175 with | .inl e => e0 = .exit 2 ∧ ∃ w : Unit, s0 = [(2, .ptr 0 0 0), (3, .ptr 1 0 0), (5, .map 2), (7, .ptr 3 0 0), (21, .sl (p1.Ins.map e_api_Ins)), (22, .int .i64 (p1.Ins.length : Int)), (23, .int .i64 i95)] ∧ h0 = [.cells (e_api_Prog p0) 0 38, .cells (e_api_Thread p1) 0 65, .map (e.map (eKV AV.str AV.bool)), .cells (e_api_Ins (rd p1.Ins i95)) 0 55] | .inr q => e0 = .ret ∧ s0 = [(4, .int .i64 q)] ∧ h0 = []) (W.loopM (step := valid_thread_s2 p1 i95) (a0 := (0, l96)) (fun (a : Int × (List (ByteArray × Bool))) (v : Unit) => ([(2, .ptr 0 0 0), (3, .ptr 1 0 0), (5, .map 2), (7, .ptr 3 0 0), (21, .sl (p1.Ins.map e_api_Ins)), (22, .int .i64 (p1.Ins.length : Int)), (23, .int .i64 i95), (28, .sl (((rd p1.Ins i95).Labels).map eStr)), (29, .int .i64 (((rd p1.Ins i95).Labels).length : Int)), (30, .int .i64 a.1)], [.cells (e_api_Prog p0) 0 38, .cells (e_api_Thread p1) 0 65, .map (a.2.map (eKV AV.str AV.bool)), .cells (e_api_Ins (rd p1.Ins i95)) 0 55])) () hlr175 ⟨[], []⟩ RO ?_) ?_
          · rintro ⟨i164, l165⟩ _ x hm hx
            rw [valid_thread_s2] at hm
            show WK _ _ _ _ _ [(2, .ptr 0 0 0), (3, .ptr 1 0 0), (5, .map 2), (7, .ptr 3 0 0), (21, .sl (p1.Ins.map e_api_Ins)), (22, .int .i64 (p1.Ins.length : Int)), (23, .int .i64 i95), (28, .sl (((rd p1.Ins i95).Labels).map eStr)), (29, .int .i64 (((rd p1.Ins i95).Labels).length : Int)), (30, .int .i64 i164)] [.cells (e_api_Prog p0) 0 38, .cells (e_api_Thread p1) 0 65, .map (l165.map (eKV AV.str AV.bool)), .cells (e_api_Ins (rd p1.Ins i95)) 0 55]
            refine W.sq [] [(2, .ptr 0 0 0), (3, .ptr 1 0 0), (5, .map 2), (7, .ptr 3 0 0), (21, .sl (p1.Ins.map e_api_Ins)), (22, .int .i64 (p1.Ins.length : Int)), (23, .int .i64 i95), (28, .sl (((rd p1.Ins i95).Labels).map eStr)), (29, .int .i64 (((rd p1.Ins i95).Labels).length : Int)), (30, .int .i64 i164), (31, .bool (decide (i164 < (((rd p1.Ins i95).Labels).length : Int))))] [.cells (e_api_Prog p0) 0 38, .cells (e_api_Thread p1) 0 65, .map (l165.map (eKV AV.str AV.bool)), .cells (e_api_Ins (rd p1.Ins i95)) 0 55] ?_
            refine W.seq ?_
            refine W.cnd (decide (i164 < (((rd p1.Ins i95).Labels).length : Int))) (fun hb176 => ?_) (fun hb176 => ?_)
            · replace hm := of_true hb176 hm
              refine W.skip ?_
              refine W.seq ?_
              refine W.block ?_
              replace hm := of_ite hm
              obtain ⟨h177, hm⟩ := hm
              refine W.sq [] [(2, .ptr 0 0 0), (3, .ptr 1 0 0), (5, .map 2), (7, .ptr 3 0 0), (9, .str (rd ((rd p1.Ins i95).Labels) i164)), (21, .sl (p1.Ins.map e_api_Ins)), (22, .int .i64 (p1.Ins.length : Int)), (23, .int .i64 i95), (28, .sl (((rd p1.Ins i95).Labels).map eStr)), (29, .int .i64 (((rd p1.Ins i95).Labels).length : Int)), (30, .int .i64 i164)] [.cells (e_api_Prog p0) 0 38, .cells (e_api_Thread p1) 0 65, .map (l165.map (eKV AV.str AV.bool)), .cells (e_api_Ins (rd p1.Ins i95)) 0 55] ?_
              refine W.seq ?_
              replace hm := of_bind hm
              obtain ⟨v178, h179, hm⟩ := hm
              have kh179 := names_Right_ok h179
              try simp only [hb3, hb143, hb176] at kh179
              refine W.sq [] [(2, .ptr 0 0 0), (3, .ptr 1 0 0), (5, .map 2), (7, .ptr 3 0 0), (9, .str (rd ((rd p1.Ins i95).Labels) i164)), (21, .sl (p1.Ins.map e_api_Ins)), (22, .int .i64 (p1.Ins.length : Int)), (23, .int .i64 i95), (28, .sl (((rd p1.Ins i95).Labels).map eStr)), (29, .int .i64 (((rd p1.Ins i95).Labels).length : Int)), (30, .int .i64 i164), (36, .bool (!v178))] [.cells (e_api_Prog p0) 0 38, .cells (e_api_Thread p1) 0 65, .map (l165.map (eKV AV.str AV.bool)), .cells (e_api_Ins (rd p1.Ins i95)) 0 55] ?_
              refine W.cnd (!v178) (fun hb180 => ?_) (fun hb180 => ?_)
              · replace hm := of_true hb180 hm
                refine W.sq [] [(4, .int .i64 3)] [] ?_
                obtain rfl := Option.some.inj hm
                obtain rfl := hx _ rfl
                exact W.weak ⟨[], []⟩ (show AT _ ⟨[], []⟩ [(4, .int .i64 3)] [] _ _ from RO) (W.ret (show _ ∧ _ from ⟨rfl, rfl, rfl⟩))
              · replace hm := of_false hb180 hm
                refine W.skip ?_
                refine W.seq ?_
                refine W.sq [] [(2, .ptr 0 0 0), (3, .ptr 1 0 0), (5, .map 2), (7, .ptr 3 0 0), (9, .str (rd ((rd p1.Ins i95).Labels) i164)), (21, .sl (p1.Ins.map e_api_Ins)), (22, .int .i64 (p1.Ins.length : Int)), (23, .int .i64 i95), (28, .sl (((rd p1.Ins i95).Labels).map eStr)), (29, .int .i64 (((rd p1.Ins i95).Labels).length : Int)), (30, .int .i64 i164), (39, .bool ((mat l165 (mixS l165 (rd ((rd p1.Ins i95).Labels) i164))).getD false))] [.cells (e_api_Prog p0) 0 38, .cells (e_api_Thread p1) 0 65, .map (l165.map (eKV AV.str AV.bool)), .cells (e_api_Ins (rd p1.Ins i95)) 0 55] ?_
                refine W.cnd ((mat l165 (mixS l165 (rd ((rd p1.Ins i95).Labels) i164))).getD false) (fun hb181 => ?_) (fun hb181 => ?_)
                · replace hm := of_true hb181 hm
                  refine W.sq [] [(4, .int .i64 6)] [] ?_
                  obtain rfl := Option.some.inj hm
                  obtain rfl := hx _ rfl
                  exact W.weak ⟨[], []⟩ (show AT _ ⟨[], []⟩ [(4, .int .i64 6)] [] _ _ from RO) (W.ret (show _ ∧ _ from ⟨rfl, rfl, rfl⟩))
                · replace hm := of_false hb181 hm
                  refine W.skip ?_
                  replace hm := of_let hm
                  obtain ⟨l182, h183, hm⟩ := hm
                  refine W.rg [] [(2, .ptr 0 0 0), (3, .ptr 1 0 0), (5, .map 2), (7, .ptr 3 0 0), (21, .sl (p1.Ins.map e_api_Ins)), (22, .int .i64 (p1.Ins.length : Int)), (23, .int .i64 i95), (28, .sl (((rd p1.Ins i95).Labels).map eStr)), (29, .int .i64 (((rd p1.Ins i95).Labels).length : Int)), (30, .int .i64 i164)] [.cells (e_api_Prog p0) 0 38, .cells (e_api_Thread p1) 0 65, .map (l182.map (eKV AV.str AV.bool)), .cells (e_api_Ins (rd p1.Ins i95)) 0 55] ?_
                  clear h183
                  refine W.rg [] [(2, .ptr 0 0 0), (3, .ptr 1 0 0), (5, .map 2), (7, .ptr 3 0 0), (21, .sl (p1.Ins.map e_api_Ins)), (22, .int .i64 (p1.Ins.length : Int)), (23, .int .i64 i95), (28, .sl (((rd p1.Ins i95).Labels).map eStr)), (29, .int .i64 (((rd p1.Ins i95).Labels).length : Int)), (30, .int .i64 (IntKind.wrap .i64 (i164 + 1)))] [.cells (e_api_Prog p0) 0 38, .cells (e_api_Thread p1) 0 65, .map (l182.map (eKV AV.str AV.bool)), .cells (e_api_Ins (rd p1.Ins i95)) 0 55] ?_
                  obtain rfl := Option.some.inj hm
                  exact ⟨((IntKind.wrap .i64 (i164 + 1)), l182), (), ⟨[], []⟩, rfl, RO⟩
            · replace hm := of_false hb176 hm
              obtain rfl := Option.some.inj hm
              obtain rfl := hx _ rfl
              exact W.weak ⟨[], []⟩ (show AT _ ⟨[], []⟩ [(2, .ptr 0 0 0), (3, .ptr 1 0 0), (5, .map 2), (7, .ptr 3 0 0), (21, .sl (p1.Ins.map e_api_Ins)), (22, .int .i64 (p1.Ins.length : Int)), (23, .int .i64 i95)] [.cells (e_api_Prog p0) 0 38, .cells (e_api_Thread p1) 0 65, .map (l165.map (eKV AV.str AV.bool)), .cells (e_api_Ins (rd p1.Ins i95)) 0 55] _ _ from RO) (W.exit (show _ ∧ _ from ⟨rfl, (), rfl, rfl⟩))
          · intro e0 s0 h0 hq
            rcases r175 with er175 | qr175
            · obtain ⟨rfl, _, rfl, rfl⟩ := hq
              replace hm := of_inl hm
              show WK _ _ _ _ _ [(2, .ptr 0 0 0), (3, .ptr 1 0 0), (5, .map 2), (7, .ptr 3 0 0), (21, .sl (p1.Ins.map e_api_Ins)), (22, .int .i64 (p1.Ins.length : Int)), (23, .int .i64 i95)] [.cells (e_api_Prog p0) 0 38, .cells (e_api_Thread p1) 0 65, .map (er175.map (eKV AV.str AV.bool)), .cells (e_api_Ins (rd p1.Ins i95)) 0 55]
              replace hm := of_bind hm
              obtain ⟨v184, h185, hm⟩ := hm
              have kh185 := ins_Right_ok h185
              try simp only [hb3, hb143] at kh185
              refine W.sq [] [(2, .ptr 0 0 0), (3, .ptr 1 0 0), (5, .map 2), (7, .ptr 3 0 0), (10, .int .i64 v184), (21, .sl (p1.Ins.map e_api_Ins)), (22, .int .i64 (p1.Ins.length : Int)), (23, .int .i64 i95)] [.cells (e_api_Prog p0) 0 38, .cells (e_api_Thread p1) 0 65, .map (er175.map (eKV AV.str AV.bool)), .cells (e_api_Ins (rd p1.Ins i95)) 0 55] ?_
              refine W.cut (fun s h => ∃ (v : Int) (w : Unit) (F : Gs), valid_thread_j2 p0 p1 i95 er175 v = some x ∧ AT 0 F [(2, .ptr 0 0 0), (3, .ptr 1 0 0), (5, .map 2), (7, .ptr 3 0 0), (10, .int .i64 v), (21, .sl (p1.Ins.map e_api_Ins)), (22, .int .i64 (p1.Ins.length : Int)), (23, .int .i64 i95)] [.cells (e_api_Prog p0) 0 38, .cells (e_api_Thread p1) 0 65, .map (er175.map (eKV AV.str AV.bool)), .cells (e_api_Ins (rd p1.Ins i95)) 0 55] s h) ?_ ?_
              · refine W.sq [] [(2, .ptr 0 0 0), (3, .ptr 1 0 0), (5, .map 2), (7, .ptr 3 0 0), (10, .int .i64 v184), (21, .sl (p1.Ins.map e_api_Ins)), (22, .int .i64 (p1.Ins.length : Int)), (23, .int .i64 i95), (46, .bool (v184 == 0))] [.cells (e_api_Prog p0) 0 38, .cells (e_api_Thread p1) 0 65, .map (er175.map (eKV AV.str AV.bool)), .cells (e_api_Ins (rd p1.Ins i95)) 0 55] ?_
                refine W.cnd (v184 == 0) (fun hb192 => ?_) (fun hb192 => ?_)
                · replace hm := of_true hb192 hm
                  replace hm := of_bind hm
                  obtain ⟨v193, h194, hm⟩ := hm
                  have kh194 := valid_place_ok h194
                  try simp only [hb3, hb143, hb192] at kh194
                  refine W.rg [] [(2, .ptr 0 0 0), (3, .ptr 1 0 0), (5, .map 2), (7, .ptr 3 0 0), (10, .int .i64 v193), (21, .sl (p1.Ins.map e_api_Ins)), (22, .int .i64 (p1.Ins.length : Int)), (23, .int .i64 i95)] [.cells (e_api_Prog p0) 0 38, .cells (e_api_Thread p1) 0 65, .map (er175.map (eKV AV.str AV.bool)), .cells (e_api_Ins (rd p1.Ins i95)) 0 55] ?_
                  exact ⟨v193, (), ⟨[], []⟩, hm, RO⟩
                · replace hm := of_false hb192 hm
                  refine W.skip ?_
                  exact ⟨v184, (), ⟨[], []⟩, hm, RO⟩
              · rintro s h ⟨i186, _, F, hm, hat⟩
                refine W.weak F hat ?_
                show WK _ _ _ _ _ [(2, .ptr 0 0 0), (3, .ptr 1 0 0), (5, .map 2), (7, .ptr 3 0 0), (10, .int .i64 i186), (21, .sl (p1.Ins.map e_api_Ins)), (22, .int .i64 (p1.Ins.length : Int)), (23, .int .i64 i95)] [.cells (e_api_Prog p0) 0 38, .cells (e_api_Thread p1) 0 65, .map (er175.map (eKV AV.str AV.bool)), .cells (e_api_Ins (rd p1.Ins i95)) 0 55]
                rw [valid_thread_j2] at hm
                refine W.cut (fun s h => ∃ (v : Int) (w : Unit) (F : Gs), valid_thread_j3 i95 er175 v = some x ∧ AT 0 F [(2, .ptr 0 0 0), (3, .ptr 1 0 0), (5, .map 2), (10, .int .i64 v), (21, .sl (p1.Ins.map e_api_Ins)), (22, .int .i64 (p1.Ins.length : Int)), (23, .int .i64 i95)] [.cells (e_api_Prog p0) 0 38, .cells (e_api_Thread p1) 0 65, .map (er175.map (eKV AV.str AV.bool))] s h) ?_ ?_
                · refine W.sq [] [(2, .ptr 0 0 0), (3, .ptr 1 0 0), (5, .map 2), (7, .ptr 3 0 0), (10, .int .i64 i186), (21, .sl (p1.Ins.map e_api_Ins)), (22, .int .i64 (p1.Ins.length : Int)), (23, .int .i64 i95), (52, .bool (i186 == 0))] [.cells (e_api_Prog p0) 0 38, .cells (e_api_Thread p1) 0 65, .map (er175.map (eKV AV.str AV.bool)), .cells (e_api_Ins (rd p1.Ins i95)) 0 55] ?_
                  refine W.cnd (i186 == 0) (fun hb189 => ?_) (fun hb189 => ?_)
                  · replace hm := of_true hb189 hm
                    replace hm := of_bind hm
                    obtain ⟨v190, h191, hm⟩ := hm
                    have kh191 := valid_place_ok h191
                    try simp only [hb3, hb143, hb189] at kh191
                    refine W.rg [] [(2, .ptr 0 0 0), (3, .ptr 1 0 0), (5, .map 2), (10, .int .i64 v190), (21, .sl (p1.Ins.map e_api_Ins)), (22, .int .i64 (p1.Ins.length : Int)), (23, .int .i64 i95)] [.cells (e_api_Prog p0) 0 38, .cells (e_api_Thread p1) 0 65, .map (er175.map (eKV AV.str AV.bool))] ?_
                    exact ⟨v190, (), ⟨[], []⟩, hm, RO⟩
                  · replace hm := of_false hb189 hm
                    refine W.skip ?_
                    exact ⟨i186, (), ⟨[], []⟩, hm, RO⟩
                · rintro s h ⟨i187, _, F, hm, hat⟩
                  refine W.weak F hat ?_
                  show WK _ _ _ _ _ [(2, .ptr 0 0 0), (3, .ptr 1 0 0), (5, .map 2), (10, .int .i64 i187), (21, .sl (p1.Ins.map e_api_Ins)), (22, .int .i64 (p1.Ins.length : Int)), (23, .int .i64 i95)] [.cells (e_api_Prog p0) 0 38, .cells (e_api_Thread p1) 0 65, .map (er175.map (eKV AV.str AV.bool))]
                  rw [valid_thread_j3] at hm
                  refine W.sq [] [(2, .ptr 0 0 0), (3, .ptr 1 0 0), (5, .map 2), (10, .int .i64 i187), (21, .sl (p1.Ins.map e_api_Ins)), (22, .int .i64 (p1.Ins.length : Int)), (23, .int .i64 i95), (58, .bool (i187 != 0))] [.cells (e_api_Prog p0) 0 38, .cells (e_api_Thread p1) 0 65, .map (er175.map (eKV AV.str AV.bool))] ?_
                  refine W.cnd (i187 != 0) (fun hb188 => ?_) (fun hb188 => ?_)
                  · replace hm := of_true hb188 hm
                    refine W.sq [] [(4, .int .i64 i187)] [] ?_
                    obtain rfl := Option.some.inj hm
                    obtain rfl := hx _ rfl
                    exact W.weak ⟨[], []⟩ (show AT _ ⟨[], []⟩ [(4, .int .i64 i187)] [] _ _ from RO) (W.ret (show _ ∧ _ from ⟨rfl, rfl, rfl⟩))
                  · replace hm := of_false hb188 hm
                    refine W.skip ?_
                    exact ⟨er175, (), ⟨[], []⟩, hm, RO⟩
            · obtain ⟨rfl, rfl, rfl⟩ := hq
              replace hm := of_inr hm
              obtain rfl := Option.some.inj hm
              obtain rfl := hx _ rfl
              first | exact (show _ ∧ _ from ⟨rfl, rfl, rfl⟩) | exact ⟨trivial, rfl, rfl⟩
        · rintro s h ⟨l144, _, F, hm, hat⟩
          refine W.weak F hat ?_
          show WK _ _ _ _ _ [(2, .ptr 0 0 0), (3, .ptr 1 0 0), (5, .map 2), (21, .sl (p1.Ins.map e_api_Ins)), (22, .int .i64 (p1.Ins.length : Int)), (23, .int .i64 i95)] [.cells (e_api_Prog p0) 0 38, .cells (e_api_Thread p1) 0 65, .map (l144.map (eKV AV.str AV.bool))]
          rw [valid_thread_j1] at hm
          refine W.rg [] [(2, .ptr 0 0 0), (3, .ptr 1 0 0), (5, .map 2), (21, .sl (p1.Ins.map e_api_Ins)), (22, .int .i64 (p1.Ins.length : Int)), (23, .int .i64 (IntKind.wrap .i64 (i95 + 1)))] [.cells (e_api_Prog p0) 0 38, .cells (e_api_Thread p1) 0 65, .map (l144.map (eKV AV.str AV.bool))] ?_
          obtain rfl := Option.some.inj hm
          exact ⟨((IntKind.wrap .i64 (i95 + 1)), l144), (), ⟨[], []⟩, rfl, RO⟩
      · replace hm := of_false hb143 hm
        obtain rfl := Option.some.inj hm
        obtain rfl := hx _ rfl
        exact W.weak ⟨[], []⟩ (show AT _ ⟨[], []⟩ [(3, .ptr 1 0 0), (5, .map 2)] [.dead, .cells (e_api_Thread p1) 0 65, .map (l96.map (eKV AV.str AV.bool))] _ _ from RO) (W.exit (show _ ∧ _ from ⟨rfl, (), rfl, rfl⟩))
    · intro e0 s0 h0 hq
      rcases r142 with er142 | qr142
      · obtain ⟨rfl, _, rfl, rfl⟩ := hq
        replace hm := of_inl hm
        show WK _ _ _ _ _ [(3, .ptr 1 0 0), (5, .map 2)] [.dead, .cells (e_api_Thread p1) 0 65, .map (er142.map (eKV AV.str AV.bool))]
        refine W.sq [] [(3, .ptr 1 0 0), (5, .map 2), (11, .int .i64 (p1.Ins.length : Int))] [.dead, .cells (e_api_Thread p1) 0 65, .map (er142.map (eKV AV.str AV.bool))] ?_
        refine W.seq ?_
        replace hm := of_ite hm
        obtain ⟨h195, hm⟩ := hm
        replace hm := of_ite hm
        obtain ⟨h196, hm⟩ := hm
        replace hm := of_let hm
        obtain ⟨b197, h198, hm⟩ := hm
        refine W.sq [] [(3, .ptr 1 0 0), (5, .map 2), (85, .bool b197)] [.dead, .cells (e_api_Thread p1) 0 65, .map (er142.map (eKV AV.str AV.bool))] ?_
        clear h198
        refine W.cnd b197 (fun hb199 => ?_) (fun hb199 => ?_)
        · replace hm := of_true hb199 hm
          refine W.sq [] [(4, .int .i64 9)] [] ?_
          obtain rfl := Option.some.inj hm
          exact W.ret (EndsF.retW [] RO)
        · replace hm := of_false hb199 hm
          refine W.skip ?_
          refine W.seq ?_
          refine W.sq [] [(5, .map 2), (87, .sl (p1.Ins.map e_api_Ins)), (88, .int .i64 (p1.Ins.length : Int)), (89, .int .i64 0)] [.dead, .dead, .map (er142.map (eKV AV.str AV.bool))] ?_
          refine W.block ?_
          replace hm := of_bind hm
          obtain ⟨r217, hlr217, hm⟩ := hm
          refine W.mono (Q := fun e0 s0 h0 => match r217 with | .inl e => e0 = .exit 4 ∧ ∃ w : Unit, s0 = [] ∧ h0 = [] | .inr q => e0 = .ret ∧ s0 = [(4, .int .i64 q)] ∧ h0 = []) (W.loopM (step := valid_thread_s3 p1 er142) (a0 := 0) (fun (a : Int) (v : Unit) => ([(5, .map 2), (87, .sl (p1.Ins.map e_api_Ins)), (88, .int .i64 (p1.Ins.length : Int)), (89, .int .i64 a)], [.dead, .dead, .map (er142.map (eKV AV.str AV.bool))])) () hlr217 ⟨[], []⟩ RO ?_) ?_
          · rintro i211 _ x hm hx
            rw [valid_thread_s3] at hm
            show WK _ _ _ _ _ [(5, .map 2), (87, .sl (p1.Ins.map e_api_Ins)), (88, .int .i64 (p1.Ins.length : Int)), (89, .int .i64 i211)] [.dead, .dead, .map (er142.map (eKV AV.str AV.bool))]
            refine W.sq [] [(5, .map 2), (87, .sl (p1.Ins.map e_api_Ins)), (88, .int .i64 (p1.Ins.length : Int)), (89, .int .i64 i211), (90, .bool (decide (i211 < (p1.Ins.length : Int))))] [.dead, .dead, .map (er142.map (eKV AV.str AV.bool))] ?_
            refine W.seq ?_
            refine W.cnd (decide (i211 < (p1.Ins.length : Int))) (fun hb218 => ?_) (fun hb218 => ?_)
            · replace hm := of_true hb218 hm
              refine W.skip ?_
              refine W.seq ?_
              refine W.block ?_
              replace hm := of_ite hm
              obtain ⟨h219, hm⟩ := hm
              refine W.sq [] [(5, .map 2), (13, .ptr 3 0 0), (87, .sl (p1.Ins.map e_api_Ins)), (88, .int .i64 (p1.Ins.length : Int)), (89, .int .i64 i211)] [.dead, .dead, .map (er142.map (eKV AV.str AV.bool)), .cells (e_api_Ins (rd p1.Ins i211)) 0 55] ?_
              replace hm := of_bind hm
              obtain ⟨v220, h221, hm⟩ := hm
              have kh221 := ins_Leads_ok h221
              try simp only [hb3, hb199, hb218] at kh221
              refine W.sq [] [(5, .map 2), (13, .ptr 3 0 0), (15, .bool v220.2), (87, .sl (p1.Ins.map e_api_Ins)), (88, .int .i64 (p1.Ins.length : Int)), (89, .int .i64 i211)] [.dead, .dead, .map (er142.map (eKV AV.str AV.bool)), .cells (e_api_Ins (rd p1.Ins i211)) 0 55] ?_
              refine W.sq [] [(5, .map 2), (87, .sl (p1.Ins.map e_api_Ins)), (88, .int .i64 (p1.Ins.length : Int)), (89, .int .i64 i211), (105, .bool (v220.2 && (!((mat er142 (mixS er142 ((rd p1.Ins i211).To))).getD false))))] [.dead, .dead, .map (er142.map (eKV AV.str AV.bool))] ?_
              refine W.cnd (v220.2 && (!((mat er142 (mixS er142 ((rd p1.Ins i211).To))).getD false))) (fun hb222 => ?_) (fun hb222 => ?_)
              · replace hm := of_true hb222 hm
                refine W.sq [] [(4, .int .i64 7)] [] ?_
                obtain rfl := Option.some.inj hm
                obtain rfl := hx _ rfl
                exact W.weak ⟨[], []⟩ (show AT _ ⟨[], []⟩ [(4, .int .i64 7)] [] _ _ from RO) (W.ret (show _ ∧ _ from ⟨rfl, rfl, rfl⟩))
              · replace hm := of_false hb222 hm
                refine W.skip ?_
                refine W.rg [] [(5, .map 2), (87, .sl (p1.Ins.map e_api_Ins)), (88, .int .i64 (p1.Ins.length : Int)), (89, .int .i64 (IntKind.wrap .i64 (i211 + 1)))] [.dead, .dead, .map (er142.map (eKV AV.str AV.bool))] ?_
                obtain rfl := Option.some.inj hm
                exact ⟨(IntKind.wrap .i64 (i211 + 1)), (), ⟨[], []⟩, rfl, RO⟩
            · replace hm := of_false hb218 hm
              obtain rfl := Option.some.inj hm
              obtain rfl := hx _ rfl
              exact W.weak ⟨[], []⟩ (show AT _ ⟨[], []⟩ [] [] _ _ from RO) (W.exit (show _ ∧ _ from ⟨rfl, (), rfl, rfl⟩))
          · intro e0 s0 h0 hq
            rcases r217 with er217 | qr217
            · obtain ⟨rfl, _, rfl, rfl⟩ := hq
              replace hm := of_inl hm
              show WK _ _ _ _ _ [] []
              refine W.sq [] [(4, .int .i64 0)] [] ?_
              obtain rfl := Option.some.inj hm
              exact W.ret (EndsF.retW [] RO)
            · obtain ⟨rfl, rfl, rfl⟩ := hq
              replace hm := of_inr hm
              obtain rfl := Option.some.inj hm
              exact EndsF.retW [] RO
      · obtain ⟨rfl, rfl, rfl⟩ := hq
        replace hm := of_inr hm
        obtain rfl := Option.some.inj hm
        exact EndsF.retW [] RO

theorem valid_Check_ok {p0 : T_api_Prog} {r : Int} (hm : valid_Check p0 = some r) : PureF Tryd.prog 50 [.agg [.sl (p0.Syms.map e_api_Sym), .sl (p0.Threads.map e_api_Thread)]] (.int .i64 r) := by
  rw [valid_Check] at hm
  refine PureF.of Tryd.func50 rfl Tryd.ntmps50 (Nat.le_of_ble_eq_true rfl) ?_
  have e0 : argS 0 [.agg [.sl (p0.Syms.map e_api_Sym), .sl (p0.Threads.map e_api_Thread)]] = [(0, .agg [.sl (p0.Syms.map e_api_Sym), .sl (p0.Threads.map e_api_Thread)])] := rfl
  rw [e0]
  refine W.sq [] [(1, .ptr 0 0 0)] [.cells (e_api_Prog p0) 0 38] ?_
  refine W.seq ?_
  refine W.sq [] [(1, .ptr 0 0 0), (18, .bool (decide ((p0.Syms.length : Int) > 64) || decide ((p0.Threads.length : Int) > 64)))] [.cells (e_api_Prog p0) 0 38] ?_
  refine W.cnd (decide ((p0.Syms.length : Int) > 64) || decide ((p0.Threads.length : Int) > 64)) (fun hb1 => ?_) (fun hb1 => ?_)
  · replace hm := of_true hb1 hm
    refine W.sq [] [(2, .int .i64 10)] [] ?_
    obtain rfl := Option.some.inj hm
    exact W.ret (EndsF.retW [] RO)
  · replace hm := of_false hb1 hm
    refine W.skip ?_
    refine W.sq [] [(1, .ptr 0 0 0), (3, .map 1)] [.cells (e_api_Prog p0) 0 38, .map (([] : (List (ByteArray × Bool))).map (eKV AV.str AV.bool))] ?_
    refine W.seq ?_
    refine W.sq [] [(1, .ptr 0 0 0), (3, .map 1), (21, .sl (p0.Syms.map e_api_Sym)), (22, .int .i64 (p0.Syms.length : Int)), (23, .int .i64 0)] [.cells (e_api_Prog p0) 0 38, .map (([] : (List (ByteArray × Bool))).map (eKV AV.str AV.bool))] ?_
    refine W.block ?_
    replace hm := of_bind hm
    obtain ⟨r41, hlr41, hm⟩ := hm
    refine W.mono (Q := fun e0 s0 h0 => match r41 with | .inl e => e0 = .exit 0 ∧ ∃ w : Unit, s0 = [(1, .ptr 0 0 0)] ∧ h0 = [.cells (e_api_Prog p0) 0 38] | .inr q => e0 = .ret ∧ s0 = [(2, .int .i64 q)] ∧ h0 = []) (W.loopM (step := valid_Check_s1 p0) (a0 := (0, ([] : (List (ByteArray × Bool))))) (fun (a : Int × (List (ByteArray × Bool))) (v : Unit) => ([(1, .ptr 0 0 0), (3, .map 1), (21, .sl (p0.Syms.map e_api_Sym)), (22, .int .i64 (p0.Syms.length : Int)), (23, .int .i64 a.1)], [.cells (e_api_Prog p0) 0 38, .map (a.2.map (eKV AV.str AV.bool))])) () hlr41 ⟨[], []⟩ RO ?_) ?_
    · rintro ⟨i28, l29⟩ _ x hm hx
      rw [valid_Check_s1] at hm
      show WK _ _ _ _ _ [(1, .ptr 0 0 0), (3, .map 1), (21, .sl (p0.Syms.map e_api_Sym)), (22, .int .i64 (p0.Syms.length : Int)), (23, .int .i64 i28)] [.cells (e_api_Prog p0) 0 38, .map (l29.map (eKV AV.str AV.bool))]
      refine W.sq [] [(1, .ptr 0 0 0), (3, .map 1), (21, .sl (p0.Syms.map e_api_Sym)), (22, .int .i64 (p0.Syms.length : Int)), (23, .int .i64 i28), (24, .bool (decide (i28 < (p0.Syms.length : Int))))] [.cells (e_api_Prog p0) 0 38, .map (l29.map (eKV AV.str AV.bool))] ?_
      refine W.seq ?_
      refine W.cnd (decide (i28 < (p0.Syms.length : Int))) (fun hb42 => ?_) (fun hb42 => ?_)
      · replace hm := of_true hb42 hm
        refine W.skip ?_
        refine W.seq ?_
        refine W.block ?_
        replace hm := of_ite hm
        obtain ⟨h43, hm⟩ := hm
        refine W.sq [] [(1, .ptr 0 0 0), (3, .map 1), (5, .ptr 2 0 0), (21, .sl (p0.Syms.map e_api_Sym)), (22, .int .i64 (p0.Syms.length : Int)), (23, .int .i64 i28)] [.cells (e_api_Prog p0) 0 38, .map (l29.map (eKV AV.str AV.bool)), .cells (e_api_Sym (rd p0.Syms i28)) 0 86] ?_
        refine W.seq ?_
        refine W.block ?_
        replace hm := of_bind hm
        obtain ⟨v44, h45, hm⟩ := hm
        have kh45 := names_Right_ok h45
        try simp only [hb1, hb42] at kh45
        refine W.sq [] [(1, .ptr 0 0 0), (3, .map 1), (5, .ptr 2 0 0), (21, .sl (p0.Syms.map e_api_Sym)), (22, .int .i64 (p0.Syms.length : Int)), (23, .int .i64 i28), (27, .bool (!v44))] [.cells (e_api_Prog p0) 0 38, .map (l29.map (eKV AV.str AV.bool)), .cells (e_api_Sym (rd p0.Syms i28)) 0 86] ?_
        refine W.cnd (!v44) (fun hb46 => ?_) (fun hb46 => ?_)
        · replace hm := of_true hb46 hm
          refine W.sq [] [(2, .int .i64 3)] [] ?_
          obtain rfl := Option.some.inj hm
          obtain rfl := hx _ rfl
          exact W.weak ⟨[], []⟩ (show AT _ ⟨[], []⟩ [(2, .int .i64 3)] [] _ _ from RO) (W.ret (show _ ∧ _ from ⟨rfl, rfl, rfl⟩))
        · replace hm := of_false hb46 hm
          refine W.sq [] [(1, .ptr 0 0 0), (3, .map 1), (5, .ptr 2 0 0), (21, .sl (p0.Syms.map e_api_Sym)), (22, .int .i64 (p0.Syms.length : Int)), (23, .int .i64 i28), (32, .bool ((mat l29 (mixS l29 ((rd p0.Syms i28).Name))).getD false))] [.cells (e_api_Prog p0) 0 38, .map (l29.map (eKV AV.str AV.bool)), .cells (e_api_Sym (rd p0.Syms i28)) 0 86] ?_
          refine W.cnd ((mat l29 (mixS l29 ((rd p0.Syms i28).Name))).getD false) (fun hb47 => ?_) (fun hb47 => ?_)
          · replace hm := of_true hb47 hm
            refine W.sq [] [(2, .int .i64 6)] [] ?_
            obtain rfl := Option.some.inj hm
            obtain rfl := hx _ rfl
            exact W.weak ⟨[], []⟩ (show AT _ ⟨[], []⟩ [(2, .int .i64 6)] [] _ _ from RO) (W.ret (show _ ∧ _ from ⟨rfl, rfl, rfl⟩))
          · replace hm := of_false hb47 hm
            replace hm := of_let hm
            obtain ⟨b48, h49, hm⟩ := hm
            refine W.sq [] [(1, .ptr 0 0 0), (3, .map 1), (5, .ptr 2 0 0), (21, .sl (p0.Syms.map e_api_Sym)), (22, .int .i64 (p0.Syms.length : Int)), (23, .int .i64 i28), (37, .bool b48)] [.cells (e_api_Prog p0) 0 38, .map (l29.map (eKV AV.str AV.bool)), .cells (e_api_Sym (rd p0.Syms i28)) 0 86] ?_
            clear h49
            refine W.cnd b48 (fun hb50 => ?_) (fun hb50 => ?_)
            · replace hm := of_true hb50 hm
              refine W.sq [] [(2, .int .i64 5)] [] ?_
              obtain rfl := Option.some.inj hm
              obtain rfl := hx _ rfl
              exact W.weak ⟨[], []⟩ (show AT _ ⟨[], []⟩ [(2, .int .i64 5)] [] _ _ from RO) (W.ret (show _ ∧ _ from ⟨rfl, rfl, rfl⟩))
            · replace hm := of_false hb50 hm
              refine W.skip ?_
              replace hm := of_let hm
              obtain ⟨l51, h52, hm⟩ := hm
              refine W.rg [] [(1, .ptr 0 0 0), (3, .map 1), (21, .sl (p0.Syms.map e_api_Sym)), (22, .int .i64 (p0.Syms.length : Int)), (23, .int .i64 i28)] [.cells (e_api_Prog p0) 0 38, .map (l51.map (eKV AV.str AV.bool))] ?_
              clear h52
              refine W.rg [] [(1, .ptr 0 0 0), (3, .map 1), (21, .sl (p0.Syms.map e_api_Sym)), (22, .int .i64 (p0.Syms.length : Int)), (23, .int .i64 (IntKind.wrap .i64 (i28 + 1)))] [.cells (e_api_Prog p0) 0 38, .map (l51.map (eKV AV.str AV.bool))] ?_
              obtain rfl := Option.some.inj hm
              exact ⟨((IntKind.wrap .i64 (i28 + 1)), l51), (), ⟨[], []⟩, rfl, RO⟩
      · replace hm := of_false hb42 hm
        obtain rfl := Option.some.inj hm
        obtain rfl := hx _ rfl
        exact W.weak ⟨[], []⟩ (show AT _ ⟨[], []⟩ [(1, .ptr 0 0 0)] [.cells (e_api_Prog p0) 0 38] _ _ from RO) (W.exit (show _ ∧ _ from ⟨rfl, (), rfl, rfl⟩))
    · intro e0 s0 h0 hq
      rcases r41 with er41 | qr41
      · obtain ⟨rfl, _, rfl, rfl⟩ := hq
        replace hm := of_inl hm
        show WK _ _ _ _ _ [(1, .ptr 0 0 0)] [.cells (e_api_Prog p0) 0 38]
        refine W.seq ?_
        refine W.sq [] [(1, .ptr 0 0 0), (59, .sl (p0.Threads.map e_api_Thread)), (60, .int .i64 (p0.Threads.length : Int)), (61, .int .i64 0)] [.cells (e_api_Prog p0) 0 38] ?_
        refine W.block ?_
        replace hm := of_bind hm
        obtain ⟨r71, hlr71, hm⟩ := hm
        refine W.mono (Q := fun e0 s0 h0 => match r71 with | .inl e => e0 = .exit 3 ∧ ∃ w : Unit, s0 = [] ∧ h0 = [] | .inr q => e0 = .ret ∧ s0 = [(2, .int .i64 q)] ∧ h0 = []) (W.loopM (step := valid_Check_s2 p0) (a0 := 0) (fun (a : Int) (v : Unit) => ([(1, .ptr 0 0 0), (59, .sl (p0.Threads.map e_api_Thread)), (60, .int .i64 (p0.Threads.length : Int)), (61, .int .i64 a)], [.cells (e_api_Prog p0) 0 38])) () hlr71 ⟨[], []⟩ RO ?_) ?_
        · rintro i65 _ x hm hx
          rw [valid_Check_s2] at hm
          show WK _ _ _ _ _ [(1, .ptr 0 0 0), (59, .sl (p0.Threads.map e_api_Thread)), (60, .int .i64 (p0.Threads.length : Int)), (61, .int .i64 i65)] [.cells (e_api_Prog p0) 0 38]
          refine W.sq [] [(1, .ptr 0 0 0), (59, .sl (p0.Threads.map e_api_Thread)), (60, .int .i64 (p0.Threads.length : Int)), (61, .int .i64 i65), (62, .bool (decide (i65 < (p0.Threads.length : Int))))] [.cells (e_api_Prog p0) 0 38] ?_
          refine W.seq ?_
          refine W.cnd (decide (i65 < (p0.Threads.length : Int))) (fun hb72 => ?_) (fun hb72 => ?_)
          · replace hm := of_true hb72 hm
            refine W.skip ?_
            refine W.seq ?_
            refine W.block ?_
            replace hm := of_ite hm
            obtain ⟨h73, hm⟩ := hm
            refine W.sq [] [(1, .ptr 0 0 0), (7, .ptr 1 0 0), (59, .sl (p0.Threads.map e_api_Thread)), (60, .int .i64 (p0.Threads.length : Int)), (61, .int .i64 i65)] [.cells (e_api_Prog p0) 0 38, .cells (e_api_Thread (rd p0.Threads i65)) 0 65] ?_
            replace hm := of_bind hm
            obtain ⟨v74, h75, hm⟩ := hm
            have kh75 := valid_thread_ok h75
            try simp only [hb1, hb72] at kh75
            refine W.sq [] [(1, .ptr 0 0 0), (8, .int .i64 v74), (59, .sl (p0.Threads.map e_api_Thread)), (60, .int .i64 (p0.Threads.length : Int)), (61, .int .i64 i65)] [.cells (e_api_Prog p0) 0 38] ?_
            refine W.sq [] [(1, .ptr 0 0 0), (8, .int .i64 v74), (59, .sl (p0.Threads.map e_api_Thread)), (60, .int .i64 (p0.Threads.length : Int)), (61, .int .i64 i65), (69, .bool (v74 != 0))] [.cells (e_api_Prog p0) 0 38] ?_
            refine W.cnd (v74 != 0) (fun hb76 => ?_) (fun hb76 => ?_)
            · replace hm := of_true hb76 hm
              refine W.sq [] [(2, .int .i64 v74)] [] ?_
              obtain rfl := Option.some.inj hm
              obtain rfl := hx _ rfl
              exact W.weak ⟨[], []⟩ (show AT _ ⟨[], []⟩ [(2, .int .i64 v74)] [] _ _ from RO) (W.ret (show _ ∧ _ from ⟨rfl, rfl, rfl⟩))
            · replace hm := of_false hb76 hm
              refine W.skip ?_
              refine W.rg [] [(1, .ptr 0 0 0), (59, .sl (p0.Threads.map e_api_Thread)), (60, .int .i64 (p0.Threads.length : Int)), (61, .int .i64 (IntKind.wrap .i64 (i65 + 1)))] [.cells (e_api_Prog p0) 0 38] ?_
              obtain rfl := Option.some.inj hm
              exact ⟨(IntKind.wrap .i64 (i65 + 1)), (), ⟨[], []⟩, rfl, RO⟩
          · replace hm := of_false hb72 hm
            obtain rfl := Option.some.inj hm
            obtain rfl := hx _ rfl
            exact W.weak ⟨[], []⟩ (show AT _ ⟨[], []⟩ [] [] _ _ from RO) (W.exit (show _ ∧ _ from ⟨rfl, (), rfl, rfl⟩))
        · intro e0 s0 h0 hq
          rcases r71 with er71 | qr71
          · obtain ⟨rfl, _, rfl, rfl⟩ := hq
            replace hm := of_inl hm
            show WK _ _ _ _ _ [] []
            refine W.sq [] [(2, .int .i64 0)] [] ?_
            obtain rfl := Option.some.inj hm
            exact W.ret (EndsF.retW [] RO)
          · obtain ⟨rfl, rfl, rfl⟩ := hq
            replace hm := of_inr hm
            obtain rfl := Option.some.inj hm
            exact EndsF.retW [] RO
      · obtain ⟨rfl, rfl, rfl⟩ := hq
        replace hm := of_inr hm
        obtain rfl := Option.some.inj hm
        exact EndsF.retW [] RO

theorem names_OpText_ok {p0 : Int} {p1 : Int} {r : ByteArray} (hm : names_OpText p0 p1 = some r) : PureF Tryd.prog 58 [.int .i64 p0, .int .i64 p1] (.str r) := by
  rw [names_OpText] at hm
  refine PureF.of Tryd.func58 rfl Tryd.ntmps58 (Nat.le_of_ble_eq_true rfl) ?_
  have e0 : argS 0 [.int .i64 p0, .int .i64 p1] = [(0, .int .i64 p0), (1, .int .i64 p1)] := rfl
  rw [e0]
  refine W.sq [] [(0, .int .i64 p0), (1, .int .i64 p1)] [] ?_
  refine W.seq ?_
  replace hm := of_bind hm
  obtain ⟨v1, h2, hm⟩ := hm
  have kh2 := names_jumps_ok h2
  refine W.sq [] [(0, .int .i64 p0), (1, .int .i64 p1), (5, .sl (v1.map eStr))] [] ?_
  refine W.sq [] [(0, .int .i64 p0), (1, .int .i64 p1), (5, .sl (v1.map eStr)), (19, .bool (((p0 == 11) && decide (p1 ≥ 1)) && decide (p1 ≤ (v1.length : Int))))] [] ?_
  refine W.cnd (((p0 == 11) && decide (p1 ≥ 1)) && decide (p1 ≤ (v1.length : Int))) (fun hb3 => ?_) (fun hb3 => ?_)
  · replace hm := of_true hb3 hm
    replace hm := of_ite hm
    obtain ⟨h4, hm⟩ := hm
    refine W.sq [] [(4, .str (rd v1 (IntKind.wrap .i64 (p1 - 1))))] [] ?_
    obtain rfl := Option.some.inj hm
    exact W.ret (EndsF.retW [] RO)
  · replace hm := of_false hb3 hm
    refine W.skip ?_
    refine W.seq ?_
    replace hm := of_bind hm
    obtain ⟨v5, h6, hm⟩ := hm
    have kh6 := names_ops_ok h6
    try simp only [hb3] at kh6
    refine W.sq [] [(0, .int .i64 p0), (1, .int .i64 p1), (6, .sl (v5.map eStr))] [] ?_
    refine W.sq [] [(0, .int .i64 p0), (6, .sl (v5.map eStr)), (37, .bool (((p1 == 0) && decide (p0 ≥ 1)) && decide (p0 ≤ (v5.length : Int))))] [] ?_
    refine W.cnd (((p1 == 0) && decide (p0 ≥ 1)) && decide (p0 ≤ (v5.length : Int))) (fun hb7 => ?_) (fun hb7 => ?_)
    · replace hm := of_true hb7 hm
      replace hm := of_ite hm
      obtain ⟨h8, hm⟩ := hm
      refine W.sq [] [(4, .str (rd v5 (IntKind.wrap .i64 (p0 - 1))))] [] ?_
      obtain rfl := Option.some.inj hm
      exact W.ret (EndsF.retW [] RO)
    · replace hm := of_false hb7 hm
      refine W.skip ?_
      refine W.sq [] [(4, .str (⟨#[]⟩ : ByteArray))] [] ?_
      obtain rfl := Option.some.inj hm
      exact W.ret (EndsF.retW [] RO)

theorem show_lacks_ok {p0 : T_api_Opd} {p1 : (List ByteArray)} {r : Bool} (hm : show_lacks p0 p1 = some r) : PureF Tryd.prog 61 [.agg [.int .i64 p0.Kind, .int .i64 p0.Reg, .int .i64 p0.Sym, .int .i64 p0.N], .sl (p1.map eStr)] (.bool r) := by
  rw [show_lacks] at hm
  refine PureF.of Tryd.func61 rfl Tryd.ntmps61 (Nat.le_of_ble_eq_true rfl) ?_
  have e0 : argS 0 [.agg [.int .i64 p0.Kind, .int .i64 p0.Reg, .int .i64 p0.Sym, .int .i64 p0.N], .sl (p1.map eStr)] = [(0, .agg [.int .i64 p0.Kind, .int .i64 p0.Reg, .int .i64 p0.Sym, .int .i64 p0.N]), (1, .sl (p1.map eStr))] := rfl
  rw [e0]
  refine W.sq [] [(1, .sl (p1.map eStr)), (2, .ptr 0 0 0)] [.cells (e_api_Opd p0) 0 53] ?_
  refine W.sq [] [(4, .bool (((p0.Kind == 3) || (p0.Kind == 4)) && decide (p0.Sym ≥ (p1.length : Int))))] [] ?_
  obtain rfl := Option.some.inj hm
  exact W.ret (EndsF.retW [] RO)


end Go.Proofs.YtocjejladeeckaaDoor
