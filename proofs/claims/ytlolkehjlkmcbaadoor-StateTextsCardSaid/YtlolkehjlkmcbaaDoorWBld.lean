import Derived.Test.YtlolkehjlkmcbaaDoorVFacts
import Derived.Test.YtlolkehjlkmcbaaDoorVu3
import Derived.WalkKit
import Derived.Lib.Builder
import Derived.Shelf.Strings.BuilderX
/-! strings.Builder as functions over the caller's blocks. -/
set_option maxRecDepth 100000
set_option linter.unusedVariables false
set_option linter.unusedSimpArgs false
set_option linter.unusedSectionVars false
namespace Go.Proofs.YtlolkehjlkmcbaaDoor
open Go.Vs Go.RowKit
@[go_sem] theorem sz_nil2 : (#[] : Array UInt8).size = 0 := rfl
@[go_sem] theorem sz_nil : (⟨#[]⟩ : ByteArray).size = 0 := rfl
theorem copyCheck_used (b : Nat) (w : World) (h0 : w.cell? ⟨b, 0, none⟩ = some (.pointer (some ⟨b, 0, none⟩))) :
    Calls Tryd.prog 32 #[.pointer (some ⟨b, 0, none⟩)] w fun e w' => e = .returned (.tuple #[]) ∧ w' = w := by
  obtain ⟨j, hj⟩ : ∃ j, Tryd.prog.info? 49 = some j := Option.isSome_iff_exists.1 (by kernel_rfl)
  go_enter Tryd.func32, Tryd.ntmps32
  go_wp2
  rw [Lib.run_neq_ptr_same w _ Tryd.underlying46 hj]
  go_wp2
  go_end0
  exact ⟨rfl, rfl⟩
theorem copyCheck_fresh (b : Nat) (w : World) (h0 : w.cell? ⟨b, 0, none⟩ = some (.pointer none)) (hsh : w.shape? b = some (49, 2)) (hfz : w.frozen? ⟨b, 0, none⟩ = false) :
    Calls Tryd.prog 32 #[.pointer (some ⟨b, 0, none⟩)] w fun e w' => e = .returned (.tuple #[]) ∧ w' = w.setCell ⟨b, 0, none⟩ (.pointer (some ⟨b, 0, none⟩)) := by
  have hz : (Tryd.prog.info? 49).map (·.size) = some 2 := by kernel_rfl
  obtain ⟨j, hj, hjs⟩ := Option.map_eq_some_iff.1 hz
  go_enter Tryd.func32, Tryd.ntmps32
  go_wp2
  rw [Lib.run_to_unsafe w ⟨b, 0, none⟩ Tryd.underlying46 Tryd.underlying65 hj (by rw [hjs]; decide) hsh (Nat.zero_lt_succ 1)]
  simp only [Result.andThen]
  rw [Oper.upon_value]
  go_wp2
  rw [run_callFunc_extern Tryd.func34 (by kernel_rfl) (by kernel_rfl) (by kernel_rfl) (e := Extern.AbiNoEscape.same) (by kernel_rfl)]
  rw [Lib.run_noEscape]
  simp only [Result.andThen]
  rw [Oper.upon_value]
  go_wp2
  rw [Lib.run_from_unsafe w ⟨b, 0, none⟩ Tryd.underlying65 Tryd.underlying46 hj hsh (by kernel_rfl)]
  simp only [Result.andThen]
  rw [Oper.upon_value]
  go_wp2
  go_end0
  exact ⟨rfl, rfl⟩

theorem copyCheck_ok [Tab] (x : AV) (hs : Hp) : HF Tryd.prog 32 [.ptr 0 0 0] (.cells [.optp 0, x] 0 49 :: hs) (.tuple []) (.cells [.optp 0, x] 0 49 :: hs) := by
  intro I ι w vs hr hfree hvs
  obtain ⟨a, rfl, ha⟩ : ∃ a, vs = #[a] ∧ VR I w ι (.ptr 0 0 0) a := by
    obtain ⟨hs, hv⟩ := hvs
    obtain ⟨l⟩ := vs
    match l, hs with
    | [a], _ => exact ⟨a, rfl, hv 0 _ a rfl rfl⟩
  obtain ⟨q, c, cur, sz, rfl, hib, hv, hq⟩ := ha.ptr_inv
  obtain ⟨e1, arr, f, harr, hsz, hcs, hp, hx⟩ := hr.real 0 _ _ hib rfl
  obtain rfl := hq e1
  have h2 : arr.size = 2 := by rw [hsz]; exact hcs.symm
  obtain ⟨p0, p1, rfl⟩ : ∃ p0 p1, arr = #[p0, p1] := by
    obtain ⟨l⟩ := arr
    match l, h2 with
    | [a, b], _ => exact ⟨a, b, rfl⟩
  have hp0 : VR I w ι (.optp 0) p0 := (hx 0 _ p0 rfl rfl).plain rfl
  have hc0 : w.cell? ⟨c, 0, none⟩ = some p0 := by simp [World.cell?, harr]
  have fresh : ∀ {e : Ending}, e = .returned (.tuple #[]) → ∃ v I' ι', e = .returned v ∧ Out (hs.length + 1) I ι (.cells [.optp 0, x] 0 49 :: hs) w I' ι' (.cells [.optp 0, x] 0 49 :: hs) (w.setCell ⟨c, 0, none⟩ (.pointer (some ⟨c, 0, none⟩))) ∧ VR I' (w.setCell ⟨c, 0, none⟩ (.pointer (some ⟨c, 0, none⟩))) ι' (.tuple []) v := by
    rintro e rfl
    have hset : (w.setCell ⟨c, 0, none⟩ (.pointer (some ⟨c, 0, none⟩))).heap[c]? = some (.cells #[.pointer (some ⟨c, 0, none⟩), p1] 49 (0, 0)) := by
      simp [World.setCell, Array.getElem?_modify, harr]
    refine ⟨_, I, ι, rfl, Ext.out (Ext.turn (o' := .cells [.optp 0, x] 0 49) hr (b := 0) rfl rfl hib (by simp) rfl rfl rfl (by simp [World.setCell]) (fun k hk => Below.heap_setCell _ _ _ _ hk) fun mono cmono => ?_) hfree (Nat.le_refl _), .tuple rfl (by simp)⟩
    refine ⟨e1, _, f, hset, hsz, hcs, hp, fun j y v hy hv' => ?_⟩
    match j, hy, hv' with
    | 0, hy, hv' =>
      obtain rfl := Option.some.inj hy
      obtain rfl := Option.some.inj (show some _ = some _ from hv')
      exact .inl (.optp _ _ _ hib fun _ => .inr rfl)
    | 1, hy, hv' => exact cmono _ _ _ (hp.1 1) (hx 1 y v hy hv')
  cases hp0 with
  | optp0 =>
    refine (copyCheck_fresh c w hc0 (by simp [World.shape?, harr]) (by simp [World.frozen?, harr])).mono ?_
    rintro e w' ⟨rfl, rfl⟩
    exact fresh rfl
  | optp c' cur' sz' h hc' =>
    rw [hib] at h
    simp only [Option.some.injEq, Prod.mk.injEq] at h
    obtain ⟨rfl, rfl, rfl⟩ := h
    rcases hc' e1 with rfl | rfl
    · refine (copyCheck_fresh c w hc0 (by simp [World.shape?, harr]) (by simp [World.frozen?, harr])).mono ?_
      rintro e w' ⟨rfl, rfl⟩
      exact fresh rfl
    · refine (copyCheck_used c w hc0).mono ?_
      rintro e w' ⟨rfl, rfl⟩
      exact ⟨_, I, ι, rfl, Out.refl hr hfree (Nat.le_refl _), .tuple rfl (by simp)⟩

theorem WriteString_ok [Tab] (s t : ByteArray) (ver : Nat) (hf : Fits (s.size + t.size)) : HF Tryd.prog 24 [.ptr 0 0 0, .str t] [.cells [.optp 0, .msl 1 ver 0 1 s.size s.size] 0 49, .rows (sB s) 1 ver 5] (.tuple [.int .i64 t.size, .nili]) [.cells [.optp 0, .msl 1 (ver + 1) 0 1 (s.size + t.size) (s.size + t.size)] 0 49, .rows (sB (s ++ t)) 1 (ver + 1) 5] := by
  refine HF.of Tryd.func24 rfl Tryd.ntmps24 (Nat.le_of_ble_eq_true rfl) rfl ?_
  have e0 : argS 0 [.ptr 0 0 0, .str t] = [(0, .ptr 0 0 0), (1, .str t)] := rfl
  rw [e0]
  have hq : callQ Tryd.prog 32 [.cells [.optp 0, .msl 1 ver 0 1 s.size s.size] 0 49, .rows (sB s) 1 ver 5] [.ptr 0 0 0] (.heap ⟨[], [0, 1], [.ptr 0 0 0], [.cells [.optp 0, .msl 1 ver 0 1 s.size s.size] 0 49, .rows (sB s) 1 ver 5], .tuple [], [.cells [.optp 0, .msl 1 ver 0 1 s.size s.size] 0 49, .rows (sB s) 1 ver 5]⟩) := callQ.ofH RO (copyCheck_ok _ _)
  refine W.sq [] [(0, .ptr 0 0 0), (1, .str t)] [.cells [.optp 0, .msl 1 ver 0 1 s.size s.size] 0 49, .rows (sB s) 1 ver 5] ?_
  refine W.sq [] [(0, .ptr 0 0 0), (1, .str t)] [.cells [.optp 0, .msl 1 ver 0 1 s.size s.size] 0 49, .rows (sB s) 1 ver 5] ?_
  refine W.sq [] [(0, .ptr 0 0 0), (1, .str t)] [.cells [.optp 0, .msl 1 (ver + 1) 0 1 (s.size + t.size) (s.size + t.size)] 0 49, .rows (sB (s ++ t)) 1 (ver + 1) 5] ?_
  refine W.sq [] [(4, .int .i64 t.size), (5, .nili)] [.cells [.optp 0, .msl 1 (ver + 1) 0 1 (s.size + t.size) (s.size + t.size)] 0 49, .rows (sB (s ++ t)) 1 (ver + 1) 5] ?_
  exact W.ret (EndsH.retW ⟨[], []⟩ RO)
theorem String_ok [Tab] (s : ByteArray) (ver : Nat) (hf : Fits s.size) : HF Tryd.prog 27 [.ptr 0 0 0] [.cells [.optp 0, .msl 1 ver 0 1 s.size s.size] 0 49, .rows (sB s) 1 ver 5] (.str s) [.dead, .dead] := by
  refine HF.of Tryd.func27 rfl Tryd.ntmps27 (Nat.le_of_ble_eq_true rfl) rfl ?_
  have e0 : argS 0 [.ptr 0 0 0] = [(0, .ptr 0 0 0)] := rfl
  rw [e0]
  refine W.sq [] [(0, .ptr 0 0 0)] [.cells [.optp 0, .msl 1 ver 0 1 s.size s.size] 0 49, .rows (sB s) 1 ver 5] ?_
  have hce : Tryd.prog.cellsOf 5 = 1 := by kernel_rfl
  refine W.sqL [.light, .light, .light, .light, .look, .light, .light, .light, .light, .look, .any, .light] [([], []), ([], []), ([], []), ([0], []), ([1], []), ([], []), ([], []), ([], []), ([0], []), ([1], []), ([0, 1], [0, 1]), ([], [])] [] [(2, .str s)] [.dead, .dead] v_mixed ?_ (hrun := ?_)
  rotate_left
  · simp -implicitDefEqProofs -dsimp only [go_sem, ↓reduceIte, Nat.reduceAdd, Nat.reduceMul, Nat.reduceSub, Nat.reduceEqDiff, Nat.reduceLeDiff, Nat.reduceLT, Nat.reduceBEq, Int.reduceEq, reduceCtorEq, hf, hce]
    with_reducible refine exP.mk (s, 5, 1, ver) (by simp -implicitDefEqProofs -dsimp only [go_sem, ↓reduceIte, Nat.reduceAdd, Nat.reduceMul, Nat.reduceSub, Nat.reduceEqDiff, Nat.reduceLeDiff, Nat.reduceLT, Nat.reduceBEq, Int.reduceEq, reduceCtorEq, hf, hce]) ?_
    simp -implicitDefEqProofs -dsimp only [go_sem, ↓reduceIte, Nat.reduceAdd, Nat.reduceMul, Nat.reduceSub, Nat.reduceEqDiff, Nat.reduceLeDiff, Nat.reduceLT, Nat.reduceBEq, Int.reduceEq, reduceCtorEq, hf, hce]
  exact W.ret (EndsH.retW ⟨[], []⟩ RO)
end Go.Proofs.YtlolkehjlkmcbaaDoor
