import Derived.Test.YtocjejladeeckaaDoorVFacts
import Derived.Test.YtocjejladeeckaaDoorPalB
import Derived.Test.YtocjejladeeckaaDoorWA
import Derived.Test.YtocjejladeeckaaDoorWUtf
set_option maxRecDepth 100000
set_option maxHeartbeats 4000000
set_option linter.unusedSimpArgs false
set_option linter.unusedVariables false
set_option linter.unusedSectionVars false
namespace Go.Proofs.YtocjejladeeckaaDoor
open Go.Vs
variable [TabU]
theorem glyph_Spots_ok {p0 : ByteArray} {r : (List T_glyph_Spot)} (hm : glyph_Spots p0 = some r) : PureF Tryd.prog 35 [.str p0] (.sl (r.map e_glyph_Spot)) := by
  rw [glyph_Spots] at hm
  refine PureF.of Tryd.func35 rfl Tryd.ntmps35 (Nat.le_of_ble_eq_true rfl) ?_
  have e0 : argS 0 [.str p0] = [(0, .str p0)] := rfl
  rw [e0]
  refine W.sq [] [(0, .str p0)] [] ?_
  refine W.sq [] [(0, .str p0), (3, .nils)] [] ?_
  refine W.sq [] [(0, .str p0), (3, .nils), (4, .int .i64 1), (5, .int .i64 1)] [] ?_
  refine W.seq ?_
  refine W.sq [] [(0, .str p0), (3, .nils), (4, .int .i64 1), (5, .int .i64 1), (10, .ptr 0 0 0)] [.siter p0 0] ?_
  refine W.block ?_
  replace hm := of_bind hm
  obtain ⟨r56, hlr56, hm⟩ := hm
  refine W.mono (Q := fun e0 s0 h0 => e0 = .exit 0 ∧ ∃ w : Nat, s0 = [(3, .msl 2 w 0 6 r56.length r56.length)] ∧ h0 = [.dead, .dead, .rows (r56.map e_glyph_Spot) 6 w 74]) (W.loopM (step := glyph_Spots_s1 p0) (a0 := (1, 1, 0, [])) (fun (a : Int × Int × Nat × (List T_glyph_Spot)) (v : Nat) => ([(0, .str p0), (3, .msl 2 v 0 6 a.2.2.2.length a.2.2.2.length), (4, .int .i64 a.1), (5, .int .i64 a.2.1), (10, .ptr 0 0 0)], [.siter p0 a.2.2.1, .dead, .rows (a.2.2.2.map e_glyph_Spot) 6 v 74])) 0 hlr56 ⟨[], []⟩ RO ?_) ?_
  · rintro ⟨i35, i36, n37, l38⟩ w39 x hm hx
    rw [glyph_Spots_s1] at hm
    show WK _ _ _ _ _ [(0, .str p0), (3, .msl 2 w39 0 6 l38.length l38.length), (4, .int .i64 i35), (5, .int .i64 i36), (10, .ptr 0 0 0)] [.siter p0 n37, .dead, .rows (l38.map e_glyph_Spot) 6 w39 74]
    by_cases hb57 : n37 < p0.size
    · rw [if_pos hb57] at hm
      refine W.sq [] [(0, .str p0), (3, .msl 2 w39 0 6 l38.length l38.length), (4, .int .i64 i35), (5, .int .i64 i36), (10, .ptr 0 0 0), (11, .tuple [.bool true, .int .i64 (n37 : Int), .int .i32 ((Utf8.decode p0 n37).1 : Int)]), (12, .bool true)] [.siter p0 (n37 + (Utf8.decode p0 n37).2), .dead, .rows (l38.map e_glyph_Spot) 6 w39 74] ?_
      refine W.seq ?_
      refine W.cnd true (fun _ => ?_) (fun hx => by cases hx)
      refine W.skip ?_
      refine W.block ?_
      refine W.sq [] [(0, .str p0), (3, .msl 2 w39 0 6 l38.length l38.length), (4, .int .i64 i35), (5, .int .i64 i36), (6, .int .i64 (n37 : Int)), (7, .int .i32 ((Utf8.decode p0 n37).1 : Int)), (10, .ptr 0 0 0)] [.siter p0 (n37 + (Utf8.decode p0 n37).2), .dead, .rows (l38.map e_glyph_Spot) 6 w39 74] ?_
      refine W.sq [] [(0, .str p0), (3, .msl 2 w39 0 6 l38.length l38.length), (4, .int .i64 i35), (5, .int .i64 i36), (6, .int .i64 (n37 : Int)), (7, .int .i32 ((Utf8.decode p0 n37).1 : Int)), (8, .ptr 3 0 0), (10, .ptr 0 0 0)] [.siter p0 (n37 + (Utf8.decode p0 n37).2), .dead, .rows (l38.map e_glyph_Spot) 6 w39 74, .cells [.int .i32 ((Utf8.decode p0 n37).1 : Int), .int .i64 (n37 : Int), .int .i64 1, .int .i64 i35, .int .i64 i36, .bool false] 0 74] ?_
      refine W.cut (fun s h => ∃ (v : Int × Bool) (w : Unit) (F : Gs), glyph_Spots_j1 l38 p0 n37 i35 i36 v.1 v.2 = some x ∧ AT 0 F [(0, .str p0), (3, .msl 2 w39 0 6 l38.length l38.length), (4, .int .i64 i35), (5, .int .i64 i36), (7, .int .i32 ((Utf8.decode p0 n37).1 : Int)), (8, .ptr 3 0 0), (10, .ptr 0 0 0)] [.siter p0 (n37 + (Utf8.decode p0 n37).2), .dead, .rows (l38.map e_glyph_Spot) 6 w39 74, .cells [.int .i32 ((Utf8.decode p0 n37).1 : Int), .int .i64 (n37 : Int), .int .i64 v.1, .int .i64 i35, .int .i64 i36, .bool v.2] 0 74] s h) ?_ ?_
      · refine W.sq [] [(0, .str p0), (3, .msl 2 w39 0 6 l38.length l38.length), (4, .int .i64 i35), (5, .int .i64 i36), (6, .int .i64 (n37 : Int)), (7, .int .i32 ((Utf8.decode p0 n37).1 : Int)), (8, .ptr 3 0 0), (10, .ptr 0 0 0), (21, .bool (((Utf8.decode p0 n37).1 : Int) == 65533))] [.siter p0 (n37 + (Utf8.decode p0 n37).2), .dead, .rows (l38.map e_glyph_Spot) 6 w39 74, .cells [.int .i32 ((Utf8.decode p0 n37).1 : Int), .int .i64 (n37 : Int), .int .i64 1, .int .i64 i35, .int .i64 i36, .bool false] 0 74] ?_
        refine W.cnd (((Utf8.decode p0 n37).1 : Int) == 65533) (fun hb65 => ?_) (fun hb65 => ?_)
        · replace hm := of_true hb65 hm
          replace hm := of_ite hm
          obtain ⟨h66, hm⟩ := hm
          replace hm := of_bind hm
          obtain ⟨v67, h68, hm⟩ := hm
          have kh68 := unicode_utf8_DecodeRuneInString_ok h68
          try simp only [hb57, hb65] at kh68
          refine W.sq [] [(0, .str p0), (3, .msl 2 w39 0 6 l38.length l38.length), (4, .int .i64 i35), (5, .int .i64 i36), (7, .int .i32 ((Utf8.decode p0 n37).1 : Int)), (8, .ptr 3 0 0), (10, .ptr 0 0 0)] [.siter p0 (n37 + (Utf8.decode p0 n37).2), .dead, .rows (l38.map e_glyph_Spot) 6 w39 74, .cells [.int .i32 ((Utf8.decode p0 n37).1 : Int), .int .i64 (n37 : Int), .int .i64 v67.2, .int .i64 i35, .int .i64 i36, .bool false] 0 74] ?_
          refine W.rg [] [(0, .str p0), (3, .msl 2 w39 0 6 l38.length l38.length), (4, .int .i64 i35), (5, .int .i64 i36), (7, .int .i32 ((Utf8.decode p0 n37).1 : Int)), (8, .ptr 3 0 0), (10, .ptr 0 0 0)] [.siter p0 (n37 + (Utf8.decode p0 n37).2), .dead, .rows (l38.map e_glyph_Spot) 6 w39 74, .cells [.int .i32 ((Utf8.decode p0 n37).1 : Int), .int .i64 (n37 : Int), .int .i64 v67.2, .int .i64 i35, .int .i64 i36, .bool (v67.2 == 1)] 0 74] ?_
          exact ⟨(v67.2, (v67.2 == 1)), (), ⟨[], []⟩, hm, RO⟩
        · replace hm := of_false hb65 hm
          replace hm := of_bind hm
          obtain ⟨v69, h70, hm⟩ := hm
          have kh70 := unicode_utf8_RuneLen_ok h70
          try simp only [hb57, hb65] at kh70
          refine W.rg [] [(0, .str p0), (3, .msl 2 w39 0 6 l38.length l38.length), (4, .int .i64 i35), (5, .int .i64 i36), (7, .int .i32 ((Utf8.decode p0 n37).1 : Int)), (8, .ptr 3 0 0), (10, .ptr 0 0 0)] [.siter p0 (n37 + (Utf8.decode p0 n37).2), .dead, .rows (l38.map e_glyph_Spot) 6 w39 74, .cells [.int .i32 ((Utf8.decode p0 n37).1 : Int), .int .i64 (n37 : Int), .int .i64 v69, .int .i64 i35, .int .i64 i36, .bool false] 0 74] ?_
          exact ⟨(v69, false), (), ⟨[], []⟩, hm, RO⟩
      · rintro s h ⟨⟨i58, b59⟩, _, F, hm, hat⟩
        refine W.weak F hat ?_
        show WK _ _ _ _ _ [(0, .str p0), (3, .msl 2 w39 0 6 l38.length l38.length), (4, .int .i64 i35), (5, .int .i64 i36), (7, .int .i32 ((Utf8.decode p0 n37).1 : Int)), (8, .ptr 3 0 0), (10, .ptr 0 0 0)] [.siter p0 (n37 + (Utf8.decode p0 n37).2), .dead, .rows (l38.map e_glyph_Spot) 6 w39 74, .cells [.int .i32 ((Utf8.decode p0 n37).1 : Int), .int .i64 (n37 : Int), .int .i64 i58, .int .i64 i35, .int .i64 i36, .bool b59] 0 74]
        rw [glyph_Spots_j1] at hm
        replace hm := of_ite hm
        obtain ⟨h60, hm⟩ := hm
        replace hm := of_let hm
        obtain ⟨l61, h62, hm⟩ := hm
        refine W.sq [] [(0, .str p0), (3, .msl 2 (w39 + 1) 0 6 l61.length l61.length), (4, .int .i64 i35), (5, .int .i64 i36), (7, .int .i32 ((Utf8.decode p0 n37).1 : Int)), (10, .ptr 0 0 0)] [.siter p0 (n37 + (Utf8.decode p0 n37).2), .dead, .rows (l61.map e_glyph_Spot) 6 (w39 + 1) 74] ?_
        clear h62
        replace hm := of_bind hm
        obtain ⟨v63, h64, hm⟩ := hm
        have kh64 := glyph_step_ok h64
        try simp only [hb57] at kh64
        refine W.rg [] [(0, .str p0), (3, .msl 2 (w39 + 1) 0 6 l61.length l61.length), (4, .int .i64 v63.1), (5, .int .i64 v63.2), (10, .ptr 0 0 0)] [.siter p0 (n37 + (Utf8.decode p0 n37).2), .dead, .rows (l61.map e_glyph_Spot) 6 (w39 + 1) 74] ?_
        obtain rfl := Option.some.inj hm
        exact ⟨(v63.1, v63.2, (n37 + (Utf8.decode p0 n37).2), l61), (w39 + 1), ⟨[], []⟩, rfl, RO⟩
    · rw [if_neg hb57] at hm
      refine W.sq [] [(0, .str p0), (3, .msl 2 w39 0 6 l38.length l38.length), (4, .int .i64 i35), (5, .int .i64 i36), (10, .ptr 0 0 0), (11, .tuple [.bool false]), (12, .bool false)] [.siter p0 n37, .dead, .rows (l38.map e_glyph_Spot) 6 w39 74] ?_
      refine W.seq ?_
      refine W.cnd false (fun hx => by cases hx) (fun _ => ?_)
      obtain rfl := Option.some.inj hm
      obtain rfl := hx _ rfl
      exact W.weak ⟨[], []⟩ (show AT _ ⟨[], []⟩ [(3, .msl 2 w39 0 6 l38.length l38.length)] [.dead, .dead, .rows (l38.map e_glyph_Spot) 6 w39 74] _ _ from RO) (W.exit (show _ ∧ _ from ⟨rfl, w39, rfl, rfl⟩))
  · rintro e0 s0 h0 ⟨rfl, w55, rfl, rfl⟩
    show WK _ _ _ _ _ [(3, .msl 2 w55 0 6 r56.length r56.length)] [.dead, .dead, .rows (r56.map e_glyph_Spot) 6 w55 74]
    refine W.sq [] [(2, .msl 2 w55 0 6 r56.length r56.length)] [.dead, .dead, .rows (r56.map e_glyph_Spot) 6 w55 74] ?_
    obtain rfl := Option.some.inj hm
    exact W.ret (EndsF.retW [2] RO)

theorem names_regs_ok {r : (List ByteArray)} (hm : names_regs  = some r) : PureF Tryd.prog 136 [] (.sl (r.map eStr)) := by
  rw [names_regs] at hm
  refine PureF.of Tryd.func136 rfl Tryd.ntmps136 (Nat.le_of_ble_eq_true rfl) ?_
  have e0 : argS 0 [] = [] := rfl
  rw [e0]
  refine W.sq [] [] [] ?_
  replace hm := of_let hm
  obtain ⟨l1, h2, hm⟩ := hm
  refine W.sq [] [(0, .sl (l1.map eStr))] [] ?_
  clear h2
  obtain rfl := Option.some.inj hm
  exact W.ret (EndsF.retW [] RO)

theorem names_Reg_ok {p0 : ByteArray} {r : Int × Bool} (hm : names_Reg p0 = some r) : PureF Tryd.prog 122 [.str p0] (.tuple [.int .i64 r.1, .bool r.2]) := by
  rw [names_Reg] at hm
  refine PureF.of Tryd.func122 rfl Tryd.ntmps122 (Nat.le_of_ble_eq_true rfl) ?_
  have e0 : argS 0 [.str p0] = [(0, .str p0)] := rfl
  rw [e0]
  refine W.sq [] [(0, .str p0)] [] ?_
  refine W.seq ?_
  replace hm := of_bind hm
  obtain ⟨v1, h2, hm⟩ := hm
  have kh2 := names_regs_ok h2
  refine W.sq [] [(0, .str p0), (6, .sl (v1.map eStr)), (7, .int .i64 (v1.length : Int)), (8, .int .i64 0)] [] ?_
  refine W.block ?_
  replace hm := of_bind hm
  obtain ⟨r14, hlr14, hm⟩ := hm
  refine W.mono (Q := fun e0 s0 h0 => match r14 with | .inl e => e0 = .exit 0 ∧ ∃ w : Unit, s0 = [] ∧ h0 = [] | .inr q => e0 = .ret ∧ s0 = [(2, .int .i64 q.1), (3, .bool q.2)] ∧ h0 = []) (W.loopM (step := names_Reg_s1 v1 p0) (a0 := 0) (fun (a : Int) (v : Unit) => ([(0, .str p0), (6, .sl (v1.map eStr)), (7, .int .i64 (v1.length : Int)), (8, .int .i64 a)], [])) () hlr14 ⟨[], []⟩ RO ?_) ?_
  · rintro i10 _ x hm hx
    rw [names_Reg_s1] at hm
    show WK _ _ _ _ _ [(0, .str p0), (6, .sl (v1.map eStr)), (7, .int .i64 (v1.length : Int)), (8, .int .i64 i10)] []
    refine W.sq [] [(0, .str p0), (6, .sl (v1.map eStr)), (7, .int .i64 (v1.length : Int)), (8, .int .i64 i10), (9, .bool (decide (i10 < (v1.length : Int))))] [] ?_
    refine W.seq ?_
    refine W.cnd (decide (i10 < (v1.length : Int))) (fun hb15 => ?_) (fun hb15 => ?_)
    · replace hm := of_true hb15 hm
      refine W.skip ?_
      refine W.seq ?_
      refine W.block ?_
      replace hm := of_ite hm
      obtain ⟨h16, hm⟩ := hm
      refine W.sq [] [(0, .str p0), (4, .int .i64 i10), (5, .str (rd v1 i10)), (6, .sl (v1.map eStr)), (7, .int .i64 (v1.length : Int)), (8, .int .i64 i10)] [] ?_
      refine W.sq [] [(0, .str p0), (4, .int .i64 i10), (6, .sl (v1.map eStr)), (7, .int .i64 (v1.length : Int)), (8, .int .i64 i10), (15, .bool (decide ((rd v1 i10) = p0)))] [] ?_
      refine W.cnd (decide ((rd v1 i10) = p0)) (fun hb17 => ?_) (fun hb17 => ?_)
      · replace hm := of_true hb17 hm
        refine W.sq [] [(2, .int .i64 i10), (3, .bool true)] [] ?_
        obtain rfl := Option.some.inj hm
        obtain rfl := hx _ rfl
        exact W.weak ⟨[], []⟩ (show AT _ ⟨[], []⟩ [(2, .int .i64 i10), (3, .bool true)] [] _ _ from RO) (W.ret (show _ ∧ _ from ⟨rfl, rfl, rfl⟩))
      · replace hm := of_false hb17 hm
        refine W.skip ?_
        refine W.rg [] [(0, .str p0), (6, .sl (v1.map eStr)), (7, .int .i64 (v1.length : Int)), (8, .int .i64 (IntKind.wrap .i64 (i10 + 1)))] [] ?_
        obtain rfl := Option.some.inj hm
        exact ⟨(IntKind.wrap .i64 (i10 + 1)), (), ⟨[], []⟩, rfl, RO⟩
    · replace hm := of_false hb15 hm
      obtain rfl := Option.some.inj hm
      obtain rfl := hx _ rfl
      exact W.weak ⟨[], []⟩ (show AT _ ⟨[], []⟩ [] [] _ _ from RO) (W.exit (show _ ∧ _ from ⟨rfl, (), rfl, rfl⟩))
  · intro e0 s0 h0 hq
    rcases r14 with er14 | qr14
    · obtain ⟨rfl, _, rfl, rfl⟩ := hq
      replace hm := of_inl hm
      show WK _ _ _ _ _ [] []
      refine W.sq [] [(2, .int .i64 0), (3, .bool false)] [] ?_
      obtain rfl := Option.some.inj hm
      exact W.ret (EndsF.retW [] RO)
    · obtain ⟨rfl, rfl, rfl⟩ := hq
      replace hm := of_inr hm
      obtain rfl := Option.some.inj hm
      exact EndsF.retW [] RO

theorem names_ops_ok {r : (List ByteArray)} (hm : names_ops  = some r) : PureF Tryd.prog 85 [] (.sl (r.map eStr)) := by
  rw [names_ops] at hm
  refine PureF.of Tryd.func85 rfl Tryd.ntmps85 (Nat.le_of_ble_eq_true rfl) ?_
  have e0 : argS 0 [] = [] := rfl
  rw [e0]
  refine W.sq [] [] [] ?_
  replace hm := of_let hm
  obtain ⟨l1, h2, hm⟩ := hm
  refine W.sq [] [(0, .sl (l1.map eStr))] [] ?_
  clear h2
  obtain rfl := Option.some.inj hm
  exact W.ret (EndsF.retW [] RO)

theorem names_jumps_ok {r : (List ByteArray)} (hm : names_jumps  = some r) : PureF Tryd.prog 84 [] (.sl (r.map eStr)) := by
  rw [names_jumps] at hm
  refine PureF.of Tryd.func84 rfl Tryd.ntmps84 (Nat.le_of_ble_eq_true rfl) ?_
  have e0 : argS 0 [] = [] := rfl
  rw [e0]
  refine W.sq [] [] [] ?_
  replace hm := of_let hm
  obtain ⟨l1, h2, hm⟩ := hm
  refine W.sq [] [(0, .sl (l1.map eStr))] [] ?_
  clear h2
  obtain rfl := Option.some.inj hm
  exact W.ret (EndsF.retW [] RO)

theorem names_Op_ok {p0 : ByteArray} {r : Int × Int × Bool} (hm : names_Op p0 = some r) : PureF Tryd.prog 123 [.str p0] (.tuple [.int .i64 r.1, .int .i64 r.2.1, .bool r.2.2]) := by
  rw [names_Op] at hm
  refine PureF.of Tryd.func123 rfl Tryd.ntmps123 (Nat.le_of_ble_eq_true rfl) ?_
  have e0 : argS 0 [.str p0] = [(0, .str p0)] := rfl
  rw [e0]
  refine W.sq [] [(0, .str p0)] [] ?_
  refine W.seq ?_
  refine W.sq [] [(0, .str p0), (10, .bool (decide (p0 = (⟨#[]⟩ : ByteArray))))] [] ?_
  refine W.cnd (decide (p0 = (⟨#[]⟩ : ByteArray))) (fun hb1 => ?_) (fun hb1 => ?_)
  · replace hm := of_true hb1 hm
    refine W.sq [] [(2, .int .i64 0), (3, .int .i64 0), (4, .bool false)] [] ?_
    obtain rfl := Option.some.inj hm
    exact W.ret (EndsF.retW [] RO)
  · replace hm := of_false hb1 hm
    refine W.skip ?_
    refine W.seq ?_
    replace hm := of_bind hm
    obtain ⟨v2, h3, hm⟩ := hm
    have kh3 := names_ops_ok h3
    try simp only [hb1] at kh3
    refine W.sq [] [(0, .str p0), (11, .sl (v2.map eStr)), (12, .int .i64 (v2.length : Int)), (13, .int .i64 0)] [] ?_
    refine W.block ?_
    replace hm := of_bind hm
    obtain ⟨r15, hlr15, hm⟩ := hm
    refine W.mono (Q := fun e0 s0 h0 => match r15 with | .inl e => e0 = .exit 0 ∧ ∃ w : Unit, s0 = [(0, .str p0)] ∧ h0 = [] | .inr q => e0 = .ret ∧ s0 = [(2, .int .i64 q.1), (3, .int .i64 q.2.1), (4, .bool q.2.2)] ∧ h0 = []) (W.loopM (step := names_Op_s1 v2 p0) (a0 := 0) (fun (a : Int) (v : Unit) => ([(0, .str p0), (11, .sl (v2.map eStr)), (12, .int .i64 (v2.length : Int)), (13, .int .i64 a)], [])) () hlr15 ⟨[], []⟩ RO ?_) ?_
    · rintro i11 _ x hm hx
      rw [names_Op_s1] at hm
      show WK _ _ _ _ _ [(0, .str p0), (11, .sl (v2.map eStr)), (12, .int .i64 (v2.length : Int)), (13, .int .i64 i11)] []
      refine W.sq [] [(0, .str p0), (11, .sl (v2.map eStr)), (12, .int .i64 (v2.length : Int)), (13, .int .i64 i11), (14, .bool (decide (i11 < (v2.length : Int))))] [] ?_
      refine W.seq ?_
      refine W.cnd (decide (i11 < (v2.length : Int))) (fun hb16 => ?_) (fun hb16 => ?_)
      · replace hm := of_true hb16 hm
        refine W.skip ?_
        refine W.seq ?_
        refine W.block ?_
        replace hm := of_ite hm
        obtain ⟨h17, hm⟩ := hm
        refine W.sq [] [(0, .str p0), (5, .int .i64 i11), (6, .str (rd v2 i11)), (11, .sl (v2.map eStr)), (12, .int .i64 (v2.length : Int)), (13, .int .i64 i11)] [] ?_
        refine W.sq [] [(0, .str p0), (5, .int .i64 i11), (11, .sl (v2.map eStr)), (12, .int .i64 (v2.length : Int)), (13, .int .i64 i11), (20, .bool (decide ((rd v2 i11) = p0)))] [] ?_
        refine W.cnd (decide ((rd v2 i11) = p0)) (fun hb18 => ?_) (fun hb18 => ?_)
        · replace hm := of_true hb18 hm
          refine W.sq [] [(2, .int .i64 (IntKind.wrap .i64 (i11 + 1))), (3, .int .i64 0), (4, .bool true)] [] ?_
          obtain rfl := Option.some.inj hm
          obtain rfl := hx _ rfl
          exact W.weak ⟨[], []⟩ (show AT _ ⟨[], []⟩ [(2, .int .i64 (IntKind.wrap .i64 (i11 + 1))), (3, .int .i64 0), (4, .bool true)] [] _ _ from RO) (W.ret (show _ ∧ _ from ⟨rfl, rfl, rfl⟩))
        · replace hm := of_false hb18 hm
          refine W.skip ?_
          refine W.rg [] [(0, .str p0), (11, .sl (v2.map eStr)), (12, .int .i64 (v2.length : Int)), (13, .int .i64 (IntKind.wrap .i64 (i11 + 1)))] [] ?_
          obtain rfl := Option.some.inj hm
          exact ⟨(IntKind.wrap .i64 (i11 + 1)), (), ⟨[], []⟩, rfl, RO⟩
      · replace hm := of_false hb16 hm
        obtain rfl := Option.some.inj hm
        obtain rfl := hx _ rfl
        exact W.weak ⟨[], []⟩ (show AT _ ⟨[], []⟩ [(0, .str p0)] [] _ _ from RO) (W.exit (show _ ∧ _ from ⟨rfl, (), rfl, rfl⟩))
    · intro e0 s0 h0 hq
      rcases r15 with er15 | qr15
      · obtain ⟨rfl, _, rfl, rfl⟩ := hq
        replace hm := of_inl hm
        show WK _ _ _ _ _ [(0, .str p0)] []
        refine W.seq ?_
        replace hm := of_bind hm
        obtain ⟨v19, h20, hm⟩ := hm
        have kh20 := names_jumps_ok h20
        try simp only [hb1] at kh20
        refine W.sq [] [(0, .str p0), (24, .sl (v19.map eStr)), (25, .int .i64 (v19.length : Int)), (26, .int .i64 0)] [] ?_
        refine W.block ?_
        replace hm := of_bind hm
        obtain ⟨r32, hlr32, hm⟩ := hm
        refine W.mono (Q := fun e0 s0 h0 => match r32 with | .inl e => e0 = .exit 2 ∧ ∃ w : Unit, s0 = [] ∧ h0 = [] | .inr q => e0 = .ret ∧ s0 = [(2, .int .i64 q.1), (3, .int .i64 q.2.1), (4, .bool q.2.2)] ∧ h0 = []) (W.loopM (step := names_Op_s2 v19 p0) (a0 := 0) (fun (a : Int) (v : Unit) => ([(0, .str p0), (24, .sl (v19.map eStr)), (25, .int .i64 (v19.length : Int)), (26, .int .i64 a)], [])) () hlr32 ⟨[], []⟩ RO ?_) ?_
        · rintro i28 _ x hm hx
          rw [names_Op_s2] at hm
          show WK _ _ _ _ _ [(0, .str p0), (24, .sl (v19.map eStr)), (25, .int .i64 (v19.length : Int)), (26, .int .i64 i28)] []
          refine W.sq [] [(0, .str p0), (24, .sl (v19.map eStr)), (25, .int .i64 (v19.length : Int)), (26, .int .i64 i28), (27, .bool (decide (i28 < (v19.length : Int))))] [] ?_
          refine W.seq ?_
          refine W.cnd (decide (i28 < (v19.length : Int))) (fun hb33 => ?_) (fun hb33 => ?_)
          · replace hm := of_true hb33 hm
            refine W.skip ?_
            refine W.seq ?_
            refine W.block ?_
            replace hm := of_ite hm
            obtain ⟨h34, hm⟩ := hm
            refine W.sq [] [(0, .str p0), (7, .int .i64 i28), (8, .str (rd v19 i28)), (24, .sl (v19.map eStr)), (25, .int .i64 (v19.length : Int)), (26, .int .i64 i28)] [] ?_
            refine W.sq [] [(0, .str p0), (7, .int .i64 i28), (24, .sl (v19.map eStr)), (25, .int .i64 (v19.length : Int)), (26, .int .i64 i28), (33, .bool (decide ((rd v19 i28) = p0)))] [] ?_
            refine W.cnd (decide ((rd v19 i28) = p0)) (fun hb35 => ?_) (fun hb35 => ?_)
            · replace hm := of_true hb35 hm
              refine W.sq [] [(2, .int .i64 11), (3, .int .i64 (IntKind.wrap .i64 (i28 + 1))), (4, .bool true)] [] ?_
              obtain rfl := Option.some.inj hm
              obtain rfl := hx _ rfl
              exact W.weak ⟨[], []⟩ (show AT _ ⟨[], []⟩ [(2, .int .i64 11), (3, .int .i64 (IntKind.wrap .i64 (i28 + 1))), (4, .bool true)] [] _ _ from RO) (W.ret (show _ ∧ _ from ⟨rfl, rfl, rfl⟩))
            · replace hm := of_false hb35 hm
              refine W.skip ?_
              refine W.rg [] [(0, .str p0), (24, .sl (v19.map eStr)), (25, .int .i64 (v19.length : Int)), (26, .int .i64 (IntKind.wrap .i64 (i28 + 1)))] [] ?_
              obtain rfl := Option.some.inj hm
              exact ⟨(IntKind.wrap .i64 (i28 + 1)), (), ⟨[], []⟩, rfl, RO⟩
          · replace hm := of_false hb33 hm
            obtain rfl := Option.some.inj hm
            obtain rfl := hx _ rfl
            exact W.weak ⟨[], []⟩ (show AT _ ⟨[], []⟩ [] [] _ _ from RO) (W.exit (show _ ∧ _ from ⟨rfl, (), rfl, rfl⟩))
        · intro e0 s0 h0 hq
          rcases r32 with er32 | qr32
          · obtain ⟨rfl, _, rfl, rfl⟩ := hq
            replace hm := of_inl hm
            show WK _ _ _ _ _ [] []
            refine W.sq [] [(2, .int .i64 0), (3, .int .i64 0), (4, .bool false)] [] ?_
            obtain rfl := Option.some.inj hm
            exact W.ret (EndsF.retW [] RO)
          · obtain ⟨rfl, rfl, rfl⟩ := hq
            replace hm := of_inr hm
            obtain rfl := Option.some.inj hm
            exact EndsF.retW [] RO
      · obtain ⟨rfl, rfl, rfl⟩ := hq
        replace hm := of_inr hm
        obtain rfl := Option.some.inj hm
        exact EndsF.retW [] RO

theorem names_Word_ok {p0 : ByteArray} {r : Bool} (hm : names_Word p0 = some r) : PureF Tryd.prog 104 [.str p0] (.bool r) := by
  rw [names_Word] at hm
  refine PureF.of Tryd.func104 rfl Tryd.ntmps104 (Nat.le_of_ble_eq_true rfl) ?_
  have e0 : argS 0 [.str p0] = [(0, .str p0)] := rfl
  rw [e0]
  refine W.sq [] [(0, .str p0)] [] ?_
  refine W.seq ?_
  replace hm := of_let hm
  obtain ⟨b1, h2, hm⟩ := hm
  refine W.sq [] [(0, .str p0), (17, .bool b1)] [] ?_
  clear h2
  refine W.cnd b1 (fun hb3 => ?_) (fun hb3 => ?_)
  · replace hm := of_true hb3 hm
    refine W.sq [] [(2, .bool true)] [] ?_
    obtain rfl := Option.some.inj hm
    exact W.ret (EndsF.retW [] RO)
  · replace hm := of_false hb3 hm
    refine W.skip ?_
    refine W.seq ?_
    replace hm := of_bind hm
    obtain ⟨v4, h5, hm⟩ := hm
    have kh5 := names_Reg_ok h5
    try simp only [hb3] at kh5
    refine W.sq [] [(0, .str p0), (4, .bool v4.2)] [] ?_
    refine W.sq [] [(0, .str p0), (23, .bool v4.2)] [] ?_
    refine W.cnd v4.2 (fun hb6 => ?_) (fun hb6 => ?_)
    · replace hm := of_true hb6 hm
      refine W.sq [] [(2, .bool true)] [] ?_
      obtain rfl := Option.some.inj hm
      exact W.ret (EndsF.retW [] RO)
    · replace hm := of_false hb6 hm
      refine W.skip ?_
      replace hm := of_bind hm
      obtain ⟨v7, h8, hm⟩ := hm
      have kh8 := names_Op_ok h8
      try simp only [hb3, hb6] at kh8
      refine W.sq [] [(7, .bool v7.2.2)] [] ?_
      refine W.sq [] [(2, .bool v7.2.2)] [] ?_
      obtain rfl := Option.some.inj hm
      exact W.ret (EndsF.retW [] RO)

theorem names_Right_ok {p0 : ByteArray} {r : Bool} (hm : names_Right p0 = some r) : PureF Tryd.prog 79 [.str p0] (.bool r) := by
  rw [names_Right] at hm
  refine PureF.of Tryd.func79 rfl Tryd.ntmps79 (Nat.le_of_ble_eq_true rfl) ?_
  have e0 : argS 0 [.str p0] = [(0, .str p0)] := rfl
  rw [e0]
  refine W.sq [] [(0, .str p0)] [] ?_
  refine W.sq [] [(0, .str p0), (3, .int .i64 0)] [] ?_
  refine W.seq ?_
  replace hm := of_bind hm
  obtain ⟨v1, h2, hm⟩ := hm
  have kh2 := glyph_Spots_ok h2
  refine W.sq [] [(0, .str p0), (3, .int .i64 0), (7, .sl (v1.map e_glyph_Spot)), (8, .int .i64 (v1.length : Int)), (9, .int .i64 0)] [] ?_
  refine W.block ?_
  replace hm := of_bind hm
  obtain ⟨r29, hlr29, hm⟩ := hm
  refine W.mono (Q := fun e0 s0 h0 => match r29 with | .inl e => e0 = .exit 0 ∧ ∃ w : Unit, s0 = [(0, .str p0), (3, .int .i64 e)] ∧ h0 = [] | .inr q => e0 = .ret ∧ s0 = [(2, .bool q)] ∧ h0 = []) (W.loopM (step := names_Right_s1 v1) (a0 := (0, 0)) (fun (a : Int × Int) (v : Unit) => ([(0, .str p0), (3, .int .i64 a.1), (7, .sl (v1.map e_glyph_Spot)), (8, .int .i64 (v1.length : Int)), (9, .int .i64 a.2)], [])) () hlr29 ⟨[], []⟩ RO ?_) ?_
  · rintro ⟨i19, i20⟩ _ x hm hx
    rw [names_Right_s1] at hm
    show WK _ _ _ _ _ [(0, .str p0), (3, .int .i64 i19), (7, .sl (v1.map e_glyph_Spot)), (8, .int .i64 (v1.length : Int)), (9, .int .i64 i20)] []
    refine W.sq [] [(0, .str p0), (3, .int .i64 i19), (7, .sl (v1.map e_glyph_Spot)), (8, .int .i64 (v1.length : Int)), (9, .int .i64 i20), (10, .bool (decide (i20 < (v1.length : Int))))] [] ?_
    refine W.seq ?_
    refine W.cnd (decide (i20 < (v1.length : Int))) (fun hb30 => ?_) (fun hb30 => ?_)
    · replace hm := of_true hb30 hm
      refine W.skip ?_
      refine W.seq ?_
      refine W.block ?_
      replace hm := of_ite hm
      obtain ⟨h31, hm⟩ := hm
      refine W.sq [] [(0, .str p0), (3, .int .i64 i19), (5, .ptr 0 0 0), (7, .sl (v1.map e_glyph_Spot)), (8, .int .i64 (v1.length : Int)), (9, .int .i64 i20)] [.cells (e_glyph_Spot (rd v1 i20)) 0 74] ?_
      refine W.seq ?_
      replace hm := of_bind hm
      obtain ⟨v32, h33, hm⟩ := hm
      replace hm := of_bind hm
      obtain ⟨v34, h35, hm⟩ := hm
      have kh33 := fun hg => glyph_Letter_ok (of_true hg h33)
      try simp only [hb30] at kh33
      have kh35 := fun hg => glyph_Digit_ok (of_true hg h35)
      try simp only [hb30] at kh35
      refine W.sq [] [(0, .str p0), (3, .int .i64 i19), (7, .sl (v1.map e_glyph_Spot)), (8, .int .i64 (v1.length : Int)), (9, .int .i64 i20), (30, .bool ((rd v1 i20).Bad || ((!v32) && ((i19 == 0) || (!v34)))))] [] ?_
      refine W.cnd ((rd v1 i20).Bad || ((!v32) && ((i19 == 0) || (!v34)))) (fun hb36 => ?_) (fun hb36 => ?_)
      · replace hm := of_true hb36 hm
        refine W.sq [] [(2, .bool false)] [] ?_
        obtain rfl := Option.some.inj hm
        obtain rfl := hx _ rfl
        exact W.weak ⟨[], []⟩ (show AT _ ⟨[], []⟩ [(2, .bool false)] [] _ _ from RO) (W.ret (show _ ∧ _ from ⟨rfl, rfl, rfl⟩))
      · replace hm := of_false hb36 hm
        refine W.skip ?_
        refine W.rg [] [(0, .str p0), (3, .int .i64 (IntKind.wrap .i64 (i19 + 1))), (7, .sl (v1.map e_glyph_Spot)), (8, .int .i64 (v1.length : Int)), (9, .int .i64 i20)] [] ?_
        refine W.rg [] [(0, .str p0), (3, .int .i64 (IntKind.wrap .i64 (i19 + 1))), (7, .sl (v1.map e_glyph_Spot)), (8, .int .i64 (v1.length : Int)), (9, .int .i64 (IntKind.wrap .i64 (i20 + 1)))] [] ?_
        obtain rfl := Option.some.inj hm
        exact ⟨((IntKind.wrap .i64 (i19 + 1)), (IntKind.wrap .i64 (i20 + 1))), (), ⟨[], []⟩, rfl, RO⟩
    · replace hm := of_false hb30 hm
      obtain rfl := Option.some.inj hm
      obtain rfl := hx _ rfl
      exact W.weak ⟨[], []⟩ (show AT _ ⟨[], []⟩ [(0, .str p0), (3, .int .i64 i19)] [] _ _ from RO) (W.exit (show _ ∧ _ from ⟨rfl, (), rfl, rfl⟩))
  · intro e0 s0 h0 hq
    rcases r29 with er29 | qr29
    · obtain ⟨rfl, _, rfl, rfl⟩ := hq
      replace hm := of_inl hm
      show WK _ _ _ _ _ [(0, .str p0), (3, .int .i64 er29)] []
      replace hm := of_bind hm
      obtain ⟨v37, h38, hm⟩ := hm
      have kh38 := fun hg => names_Word_ok (of_true hg h38)
      refine W.sq [] [(2, .bool ((decide (er29 ≥ 1) && decide (er29 ≤ 16)) && (!v37)))] [] ?_
      obtain rfl := Option.some.inj hm
      exact W.ret (EndsF.retW [] RO)
    · obtain ⟨rfl, rfl, rfl⟩ := hq
      replace hm := of_inr hm
      obtain rfl := Option.some.inj hm
      exact EndsF.retW [] RO

theorem valid_Count_ok {p0 : T_api_Thread} {r : Int} (hm : valid_Count p0 = some r) : PureF Tryd.prog 105 [.agg [.sl (p0.Ins.map e_api_Ins)]] (.int .i64 r) := by
  rw [valid_Count] at hm
  refine PureF.of Tryd.func105 rfl Tryd.ntmps105 (Nat.le_of_ble_eq_true rfl) ?_
  have e0 : argS 0 [.agg [.sl (p0.Ins.map e_api_Ins)]] = [(0, .agg [.sl (p0.Ins.map e_api_Ins)])] := rfl
  rw [e0]
  refine W.sq [] [(1, .ptr 0 0 0)] [.cells (e_api_Thread p0) 0 65] ?_
  refine W.sq [] [(1, .ptr 0 0 0), (3, .int .i64 0)] [.cells (e_api_Thread p0) 0 65] ?_
  refine W.seq ?_
  refine W.sq [] [(3, .int .i64 0), (7, .sl (p0.Ins.map e_api_Ins)), (8, .int .i64 (p0.Ins.length : Int)), (9, .int .i64 0)] [] ?_
  refine W.block ?_
  replace hm := of_bind hm
  obtain ⟨r15, hlr15, hm⟩ := hm
  refine W.mono (Q := fun e0 s0 h0 => e0 = .exit 0 ∧ ∃ w : Unit, s0 = [(3, .int .i64 r15)] ∧ h0 = []) (W.loopM (step := valid_Count_s1 p0) (a0 := (0, 0)) (fun (a : Int × Int) (v : Unit) => ([(3, .int .i64 a.1), (7, .sl (p0.Ins.map e_api_Ins)), (8, .int .i64 (p0.Ins.length : Int)), (9, .int .i64 a.2)], [])) () hlr15 ⟨[], []⟩ RO ?_) ?_
  · rintro ⟨i9, i10⟩ _ x hm hx
    rw [valid_Count_s1] at hm
    show WK _ _ _ _ _ [(3, .int .i64 i9), (7, .sl (p0.Ins.map e_api_Ins)), (8, .int .i64 (p0.Ins.length : Int)), (9, .int .i64 i10)] []
    refine W.sq [] [(3, .int .i64 i9), (7, .sl (p0.Ins.map e_api_Ins)), (8, .int .i64 (p0.Ins.length : Int)), (9, .int .i64 i10), (10, .bool (decide (i10 < (p0.Ins.length : Int))))] [] ?_
    refine W.seq ?_
    refine W.cnd (decide (i10 < (p0.Ins.length : Int))) (fun hb16 => ?_) (fun hb16 => ?_)
    · replace hm := of_true hb16 hm
      refine W.skip ?_
      refine W.seq ?_
      refine W.block ?_
      replace hm := of_ite hm
      obtain ⟨h17, hm⟩ := hm
      refine W.sq [] [(3, .int .i64 i9), (5, .ptr 0 0 0), (7, .sl (p0.Ins.map e_api_Ins)), (8, .int .i64 (p0.Ins.length : Int)), (9, .int .i64 i10)] [.cells (e_api_Ins (rd p0.Ins i10)) 0 55] ?_
      refine W.sq [] [(3, .int .i64 i9), (7, .sl (p0.Ins.map e_api_Ins)), (8, .int .i64 (p0.Ins.length : Int)), (9, .int .i64 i10), (15, .bool ((rd p0.Ins i10).Op != 12))] [] ?_
      refine W.cnd ((rd p0.Ins i10).Op != 12) (fun hb18 => ?_) (fun hb18 => ?_)
      · replace hm := of_true hb18 hm
        refine W.rg [] [(3, .int .i64 (IntKind.wrap .i64 (i9 + 1))), (7, .sl (p0.Ins.map e_api_Ins)), (8, .int .i64 (p0.Ins.length : Int)), (9, .int .i64 i10)] [] ?_
        refine W.rg [] [(3, .int .i64 (IntKind.wrap .i64 (i9 + 1))), (7, .sl (p0.Ins.map e_api_Ins)), (8, .int .i64 (p0.Ins.length : Int)), (9, .int .i64 (IntKind.wrap .i64 (i10 + 1)))] [] ?_
        obtain rfl := Option.some.inj hm
        exact ⟨((IntKind.wrap .i64 (i9 + 1)), (IntKind.wrap .i64 (i10 + 1))), (), ⟨[], []⟩, rfl, RO⟩
      · replace hm := of_false hb18 hm
        refine W.skip ?_
        refine W.rg [] [(3, .int .i64 i9), (7, .sl (p0.Ins.map e_api_Ins)), (8, .int .i64 (p0.Ins.length : Int)), (9, .int .i64 (IntKind.wrap .i64 (i10 + 1)))] [] ?_
        obtain rfl := Option.some.inj hm
        exact ⟨(i9, (IntKind.wrap .i64 (i10 + 1))), (), ⟨[], []⟩, rfl, RO⟩
    · replace hm := of_false hb16 hm
      obtain rfl := Option.some.inj hm
      obtain rfl := hx _ rfl
      exact W.weak ⟨[], []⟩ (show AT _ ⟨[], []⟩ [(3, .int .i64 i9)] [] _ _ from RO) (W.exit (show _ ∧ _ from ⟨rfl, (), rfl, rfl⟩))
  · rintro e0 s0 h0 ⟨rfl, _, rfl, rfl⟩
    show WK _ _ _ _ _ [(3, .int .i64 r15)] []
    refine W.sq [] [(2, .int .i64 r15)] [] ?_
    obtain rfl := Option.some.inj hm
    exact W.ret (EndsF.retW [] RO)

theorem opnd_register_ok {p0 : Int} {r : Bool} (hm : opnd_register p0 = some r) : PureF Tryd.prog 129 [.int .i64 p0] (.bool r) := by
  rw [opnd_register] at hm
  refine PureF.of Tryd.func129 rfl Tryd.ntmps129 (Nat.le_of_ble_eq_true rfl) ?_
  have e0 : argS 0 [.int .i64 p0] = [(0, .int .i64 p0)] := rfl
  rw [e0]
  refine W.sq [] [(0, .int .i64 p0)] [] ?_
  refine W.sq [] [(2, .bool (decide (p0 ≥ 0) && decide (p0 ≤ 7)))] [] ?_
  obtain rfl := Option.some.inj hm
  exact W.ret (EndsF.retW [] RO)

theorem opnd_Right_ok {p0 : T_api_Opd} {r : Bool} (hm : opnd_Right p0 = some r) : PureF Tryd.prog 113 [.agg [.int .i64 p0.Kind, .int .i64 p0.Reg, .int .i64 p0.Sym, .int .i64 p0.N]] (.bool r) := by
  rw [opnd_Right] at hm
  refine PureF.of Tryd.func113 rfl Tryd.ntmps113 (Nat.le_of_ble_eq_true rfl) ?_
  have e0 : argS 0 [.agg [.int .i64 p0.Kind, .int .i64 p0.Reg, .int .i64 p0.Sym, .int .i64 p0.N]] = [(0, .agg [.int .i64 p0.Kind, .int .i64 p0.Reg, .int .i64 p0.Sym, .int .i64 p0.N])] := rfl
  rw [e0]
  refine W.sq [] [(1, .ptr 0 0 0)] [.cells (e_api_Opd p0) 0 53] ?_
  refine W.seq ?_
  refine W.sq [] [(1, .ptr 0 0 0), (4, .int .i64 p0.Kind)] [.cells (e_api_Opd p0) 0 53] ?_
  refine W.block ?_
  refine W.sq [] [(1, .ptr 0 0 0), (4, .int .i64 p0.Kind), (5, .bool (p0.Kind == 1))] [.cells (e_api_Opd p0) 0 53] ?_
  refine W.cnd (p0.Kind == 1) (fun hb1 => ?_) (fun hb1 => ?_)
  · replace hm := of_true hb1 hm
    replace hm := of_bind hm
    obtain ⟨v2, h3, hm⟩ := hm
    have kh3 := opnd_register_ok h3
    try simp only [hb1] at kh3
    refine W.sq [] [(2, .bool ((v2 && (p0.Sym == 0)) && (p0.N == 0)))] [] ?_
    obtain rfl := Option.some.inj hm
    exact W.ret (EndsF.retW [] RO)
  · replace hm := of_false hb1 hm
    refine W.sq [] [(1, .ptr 0 0 0), (4, .int .i64 p0.Kind), (20, .bool (p0.Kind == 2))] [.cells (e_api_Opd p0) 0 53] ?_
    refine W.cnd (p0.Kind == 2) (fun hb4 => ?_) (fun hb4 => ?_)
    · replace hm := of_true hb4 hm
      refine W.sq [] [(2, .bool ((p0.Reg == 0) && (p0.Sym == 0)))] [] ?_
      obtain rfl := Option.some.inj hm
      exact W.ret (EndsF.retW [] RO)
    · replace hm := of_false hb4 hm
      refine W.sq [] [(1, .ptr 0 0 0), (4, .int .i64 p0.Kind), (30, .bool (p0.Kind == 3))] [.cells (e_api_Opd p0) 0 53] ?_
      refine W.cnd (p0.Kind == 3) (fun hb5 => ?_) (fun hb5 => ?_)
      · replace hm := of_true hb5 hm
        refine W.sq [] [(2, .bool ((decide (p0.Sym ≥ 0) && decide (p0.N ≥ 0)) && (p0.Reg == 0)))] [] ?_
        obtain rfl := Option.some.inj hm
        exact W.ret (EndsF.retW [] RO)
      · replace hm := of_false hb5 hm
        refine W.sq [] [(1, .ptr 0 0 0), (45, .bool (p0.Kind == 4))] [.cells (e_api_Opd p0) 0 53] ?_
        refine W.cnd (p0.Kind == 4) (fun hb6 => ?_) (fun hb6 => ?_)
        · replace hm := of_true hb6 hm
          replace hm := of_bind hm
          obtain ⟨v7, h8, hm⟩ := hm
          have kh8 := fun hg => opnd_register_ok (of_true hg h8)
          try simp only [hb1, hb4, hb5, hb6] at kh8
          refine W.sq [] [(2, .bool ((decide (p0.Sym ≥ 0) && v7) && (p0.N == 0)))] [] ?_
          obtain rfl := Option.some.inj hm
          exact W.ret (EndsF.retW [] RO)
        · replace hm := of_false hb6 hm
          refine W.skip ?_
          refine W.sq [] [(2, .bool false)] [] ?_
          obtain rfl := Option.some.inj hm
          exact W.ret (EndsF.retW [] RO)

theorem opnd_Of_ok {p0 : T_api_Opd} {r : I_opnd_Part × Bool} (hm : opnd_Of p0 = some r) : PureF Tryd.prog 86 [.agg [.int .i64 p0.Kind, .int .i64 p0.Reg, .int .i64 p0.Sym, .int .i64 p0.N]] (.tuple [eI_opnd_Part r.1, .bool r.2]) := by
  rw [opnd_Of] at hm
  refine PureF.of Tryd.func86 rfl Tryd.ntmps86 (Nat.le_of_ble_eq_true rfl) ?_
  have e0 : argS 0 [.agg [.int .i64 p0.Kind, .int .i64 p0.Reg, .int .i64 p0.Sym, .int .i64 p0.N]] = [(0, .agg [.int .i64 p0.Kind, .int .i64 p0.Reg, .int .i64 p0.Sym, .int .i64 p0.N])] := rfl
  rw [e0]
  refine W.sq [] [(1, .ptr 0 0 0)] [.cells (e_api_Opd p0) 0 53] ?_
  refine W.seq ?_
  replace hm := of_bind hm
  obtain ⟨v1, h2, hm⟩ := hm
  have kh2 := opnd_Right_ok h2
  refine W.sq [] [(1, .ptr 0 0 0), (6, .bool (!v1))] [.cells (e_api_Opd p0) 0 53] ?_
  refine W.cnd (!v1) (fun hb3 => ?_) (fun hb3 => ?_)
  · replace hm := of_true hb3 hm
    refine W.sq [] [(2, .nili), (3, .bool false)] [] ?_
    obtain rfl := Option.some.inj hm
    exact W.ret (EndsF.retW [] RO)
  · replace hm := of_false hb3 hm
    refine W.skip ?_
    refine W.seq ?_
    refine W.sq [] [(1, .ptr 0 0 0), (8, .int .i64 p0.Kind)] [.cells (e_api_Opd p0) 0 53] ?_
    refine W.block ?_
    refine W.sq [] [(1, .ptr 0 0 0), (8, .int .i64 p0.Kind), (9, .bool (p0.Kind == 1))] [.cells (e_api_Opd p0) 0 53] ?_
    refine W.cnd (p0.Kind == 1) (fun hb4 => ?_) (fun hb4 => ?_)
    · replace hm := of_true hb4 hm
      refine W.sq [] [(2, .iface 145 (.agg [.int .i64 p0.Reg])), (3, .bool true)] [] ?_
      obtain rfl := Option.some.inj hm
      exact W.ret (EndsF.retW [] RO)
    · replace hm := of_false hb4 hm
      refine W.sq [] [(1, .ptr 0 0 0), (8, .int .i64 p0.Kind), (15, .bool (p0.Kind == 2))] [.cells (e_api_Opd p0) 0 53] ?_
      refine W.cnd (p0.Kind == 2) (fun hb5 => ?_) (fun hb5 => ?_)
      · replace hm := of_true hb5 hm
        refine W.sq [] [(2, .iface 147 (.agg [.int .i64 p0.N])), (3, .bool true)] [] ?_
        obtain rfl := Option.some.inj hm
        exact W.ret (EndsF.retW [] RO)
      · replace hm := of_false hb5 hm
        refine W.sq [] [(1, .ptr 0 0 0), (21, .bool (p0.Kind == 3))] [.cells (e_api_Opd p0) 0 53] ?_
        refine W.cnd (p0.Kind == 3) (fun hb6 => ?_) (fun hb6 => ?_)
        · replace hm := of_true hb6 hm
          refine W.sq [] [(2, .iface 149 (.agg [.int .i64 p0.Sym, .int .i64 p0.N])), (3, .bool true)] [] ?_
          obtain rfl := Option.some.inj hm
          exact W.ret (EndsF.retW [] RO)
        · replace hm := of_false hb6 hm
          refine W.skip ?_
          refine W.sq [] [(2, .iface 151 (.agg [.int .i64 p0.Sym, .int .i64 p0.Reg])), (3, .bool true)] [] ?_
          obtain rfl := Option.some.inj hm
          exact W.ret (EndsF.retW [] RO)

theorem ins_register_ok {p0 : T_api_Opd} {r : Bool} (hm : ins_register p0 = some r) : PureF Tryd.prog 109 [.agg [.int .i64 p0.Kind, .int .i64 p0.Reg, .int .i64 p0.Sym, .int .i64 p0.N]] (.bool r) := by
  rw [ins_register] at hm
  refine PureF.of Tryd.func109 rfl Tryd.ntmps109 (Nat.le_of_ble_eq_true rfl) ?_
  have e0 : argS 0 [.agg [.int .i64 p0.Kind, .int .i64 p0.Reg, .int .i64 p0.Sym, .int .i64 p0.N]] = [(0, .agg [.int .i64 p0.Kind, .int .i64 p0.Reg, .int .i64 p0.Sym, .int .i64 p0.N])] := rfl
  rw [e0]
  refine W.sq [] [(1, .ptr 0 0 0)] [.cells (e_api_Opd p0) 0 53] ?_
  replace hm := of_bind hm
  obtain ⟨v1, h2, hm⟩ := hm
  have kh2 := opnd_Of_ok h2
  try simp only [eI_opnd_Part_nil, eI_opnd_Part_RegPart, eI_opnd_Part_NumPart, eI_opnd_Part_AtPart, eI_opnd_Part_ByPart] at kh2
  refine W.sq [] [(3, eI_opnd_Part v1.1), (4, .bool v1.2)] [] ?_
  refine W.seq ?_
  refine W.sq [] [(3, eI_opnd_Part v1.1), (13, .bool (!v1.2))] [] ?_
  refine W.cnd (!v1.2) (fun hb3 => ?_) (fun hb3 => ?_)
  · replace hm := of_true hb3 hm
    refine W.sq [] [(2, .bool false)] [] ?_
    obtain rfl := Option.some.inj hm
    exact W.ret (EndsF.retW [] RO)
  · replace hm := of_false hb3 hm
    refine W.skip ?_
    replace hm := of_let hm
    obtain ⟨z4, h5, hm⟩ := hm
    rw [← h5]
    clear h5
    cases z4 with
    | nil =>
      dsimp only at hm
      show WK _ _ _ _ _ [(3, .nili), (13, .bool (!v1.2))] []
      refine W.sq [] [(6, .bool false)] [] ?_
      refine W.sq [] [(2, .bool false)] [] ?_
      obtain rfl := Option.some.inj hm
      exact W.ret (EndsF.retW [] RO)
    | RegPart x6 =>
      dsimp only at hm
      show WK _ _ _ _ _ [(3, .iface 145 (.agg [.int .i64 x6.Reg])), (13, .bool (!v1.2))] []
      refine W.sq [] [(6, .bool true)] [] ?_
      refine W.sq [] [(2, .bool true)] [] ?_
      obtain rfl := Option.some.inj hm
      exact W.ret (EndsF.retW [] RO)
    | NumPart x7 =>
      dsimp only at hm
      show WK _ _ _ _ _ [(3, .iface 147 (.agg [.int .i64 x7.N])), (13, .bool (!v1.2))] []
      refine W.sq [] [(6, .bool false)] [] ?_
      refine W.sq [] [(2, .bool false)] [] ?_
      obtain rfl := Option.some.inj hm
      exact W.ret (EndsF.retW [] RO)
    | AtPart x8 =>
      dsimp only at hm
      show WK _ _ _ _ _ [(3, .iface 149 (.agg [.int .i64 x8.Sym, .int .i64 x8.N])), (13, .bool (!v1.2))] []
      refine W.sq [] [(6, .bool false)] [] ?_
      refine W.sq [] [(2, .bool false)] [] ?_
      obtain rfl := Option.some.inj hm
      exact W.ret (EndsF.retW [] RO)
    | ByPart x9 =>
      dsimp only at hm
      show WK _ _ _ _ _ [(3, .iface 151 (.agg [.int .i64 x9.Sym, .int .i64 x9.Reg])), (13, .bool (!v1.2))] []
      refine W.sq [] [(6, .bool false)] [] ?_
      refine W.sq [] [(2, .bool false)] [] ?_
      obtain rfl := Option.some.inj hm
      exact W.ret (EndsF.retW [] RO)

theorem opnd_Memory_ok {p0 : I_opnd_Part} {r : Int × Bool} (hm : opnd_Memory p0 = some r) : PureF Tryd.prog 128 [eI_opnd_Part p0] (.tuple [.int .i64 r.1, .bool r.2]) := by
  rw [opnd_Memory.eq_def] at hm
  refine PureF.of Tryd.func128 rfl Tryd.ntmps128 (Nat.le_of_ble_eq_true rfl) ?_
  have e0 : argS 0 [eI_opnd_Part p0] = [(0, eI_opnd_Part p0)] := rfl
  rw [e0]
  refine W.sq [] [(0, eI_opnd_Part p0)] [] ?_
  refine W.seq ?_
  cases p0 with
  | nil =>
    dsimp only at hm
    show WK _ _ _ _ _ [(0, .nili)] []
    refine W.sq [] [(0, .nili), (4, .ptr 0 0 0), (5, .bool false)] [.cells [.int .i64 0, .int .i64 0] 0 149] ?_
    refine W.sq [] [(0, .nili), (4, .ptr 0 0 0), (13, .bool false)] [.cells [.int .i64 0, .int .i64 0] 0 149] ?_
    refine W.cnd false (fun hx => by cases hx) (fun _ => ?_)
    refine W.skip ?_
    refine W.sq [] [(6, .ptr 1 0 0), (7, .bool false)] [.dead, .cells [.int .i64 0, .int .i64 0] 0 151] ?_
    refine W.sq [] [(2, .int .i64 0), (3, .bool false)] [] ?_
    obtain rfl := Option.some.inj hm
    exact W.ret (EndsF.retW [] RO)
  | RegPart x1 =>
    dsimp only at hm
    show WK _ _ _ _ _ [(0, .iface 145 (.agg [.int .i64 x1.Reg]))] []
    refine W.sq [] [(0, .iface 145 (.agg [.int .i64 x1.Reg])), (4, .ptr 0 0 0), (5, .bool false)] [.cells [.int .i64 0, .int .i64 0] 0 149] ?_
    refine W.sq [] [(0, .iface 145 (.agg [.int .i64 x1.Reg])), (4, .ptr 0 0 0), (13, .bool false)] [.cells [.int .i64 0, .int .i64 0] 0 149] ?_
    refine W.cnd false (fun hx => by cases hx) (fun _ => ?_)
    refine W.skip ?_
    refine W.sq [] [(6, .ptr 1 0 0), (7, .bool false)] [.dead, .cells [.int .i64 0, .int .i64 0] 0 151] ?_
    refine W.sq [] [(2, .int .i64 0), (3, .bool false)] [] ?_
    obtain rfl := Option.some.inj hm
    exact W.ret (EndsF.retW [] RO)
  | NumPart x2 =>
    dsimp only at hm
    show WK _ _ _ _ _ [(0, .iface 147 (.agg [.int .i64 x2.N]))] []
    refine W.sq [] [(0, .iface 147 (.agg [.int .i64 x2.N])), (4, .ptr 0 0 0), (5, .bool false)] [.cells [.int .i64 0, .int .i64 0] 0 149] ?_
    refine W.sq [] [(0, .iface 147 (.agg [.int .i64 x2.N])), (4, .ptr 0 0 0), (13, .bool false)] [.cells [.int .i64 0, .int .i64 0] 0 149] ?_
    refine W.cnd false (fun hx => by cases hx) (fun _ => ?_)
    refine W.skip ?_
    refine W.sq [] [(6, .ptr 1 0 0), (7, .bool false)] [.dead, .cells [.int .i64 0, .int .i64 0] 0 151] ?_
    refine W.sq [] [(2, .int .i64 0), (3, .bool false)] [] ?_
    obtain rfl := Option.some.inj hm
    exact W.ret (EndsF.retW [] RO)
  | AtPart x3 =>
    dsimp only at hm
    show WK _ _ _ _ _ [(0, .iface 149 (.agg [.int .i64 x3.Sym, .int .i64 x3.N]))] []
    refine W.sq [] [(0, .iface 149 (.agg [.int .i64 x3.Sym, .int .i64 x3.N])), (4, .ptr 0 0 0), (5, .bool true)] [.cells (e_opnd_AtPart x3) 0 149] ?_
    refine W.sq [] [(0, .iface 149 (.agg [.int .i64 x3.Sym, .int .i64 x3.N])), (4, .ptr 0 0 0), (13, .bool true)] [.cells (e_opnd_AtPart x3) 0 149] ?_
    refine W.cnd true (fun _ => ?_) (fun hx => by cases hx)
    refine W.sq [] [(2, .int .i64 x3.Sym), (3, .bool true)] [] ?_
    obtain rfl := Option.some.inj hm
    exact W.ret (EndsF.retW [] RO)
  | ByPart x4 =>
    dsimp only at hm
    show WK _ _ _ _ _ [(0, .iface 151 (.agg [.int .i64 x4.Sym, .int .i64 x4.Reg]))] []
    refine W.sq [] [(0, .iface 151 (.agg [.int .i64 x4.Sym, .int .i64 x4.Reg])), (4, .ptr 0 0 0), (5, .bool false)] [.cells [.int .i64 0, .int .i64 0] 0 149] ?_
    refine W.sq [] [(0, .iface 151 (.agg [.int .i64 x4.Sym, .int .i64 x4.Reg])), (4, .ptr 0 0 0), (13, .bool false)] [.cells [.int .i64 0, .int .i64 0] 0 149] ?_
    refine W.cnd false (fun hx => by cases hx) (fun _ => ?_)
    refine W.skip ?_
    refine W.sq [] [(6, .ptr 1 0 0), (7, .bool true)] [.dead, .cells (e_opnd_ByPart x4) 0 151] ?_
    refine W.sq [] [(2, .int .i64 x4.Sym), (3, .bool true)] [] ?_
    obtain rfl := Option.some.inj hm
    exact W.ret (EndsF.retW [] RO)

theorem ins_memory_ok {p0 : T_api_Opd} {r : Bool} (hm : ins_memory p0 = some r) : PureF Tryd.prog 111 [.agg [.int .i64 p0.Kind, .int .i64 p0.Reg, .int .i64 p0.Sym, .int .i64 p0.N]] (.bool r) := by
  rw [ins_memory] at hm
  refine PureF.of Tryd.func111 rfl Tryd.ntmps111 (Nat.le_of_ble_eq_true rfl) ?_
  have e0 : argS 0 [.agg [.int .i64 p0.Kind, .int .i64 p0.Reg, .int .i64 p0.Sym, .int .i64 p0.N]] = [(0, .agg [.int .i64 p0.Kind, .int .i64 p0.Reg, .int .i64 p0.Sym, .int .i64 p0.N])] := rfl
  rw [e0]
  refine W.sq [] [(1, .ptr 0 0 0)] [.cells (e_api_Opd p0) 0 53] ?_
  replace hm := of_bind hm
  obtain ⟨v1, h2, hm⟩ := hm
  have kh2 := opnd_Of_ok h2
  try simp only [eI_opnd_Part_nil, eI_opnd_Part_RegPart, eI_opnd_Part_NumPart, eI_opnd_Part_AtPart, eI_opnd_Part_ByPart] at kh2
  refine W.sq [] [(3, eI_opnd_Part v1.1), (4, .bool v1.2)] [] ?_
  refine W.seq ?_
  refine W.sq [] [(3, eI_opnd_Part v1.1), (13, .bool (!v1.2))] [] ?_
  refine W.cnd (!v1.2) (fun hb3 => ?_) (fun hb3 => ?_)
  · replace hm := of_true hb3 hm
    refine W.sq [] [(2, .bool false)] [] ?_
    obtain rfl := Option.some.inj hm
    exact W.ret (EndsF.retW [] RO)
  · replace hm := of_false hb3 hm
    refine W.skip ?_
    replace hm := of_bind hm
    obtain ⟨v4, h5, hm⟩ := hm
    have kh5 := opnd_Memory_ok h5
    try simp only [hb3] at kh5
    try simp only [eI_opnd_Part_nil, eI_opnd_Part_RegPart, eI_opnd_Part_NumPart, eI_opnd_Part_AtPart, eI_opnd_Part_ByPart] at kh5
    refine W.sq [] [(6, .bool v4.2)] [] ?_
    refine W.sq [] [(2, .bool v4.2)] [] ?_
    obtain rfl := Option.some.inj hm
    exact W.ret (EndsF.retW [] RO)

theorem ins_plain_ok {p0 : T_api_Opd} {r : Bool} (hm : ins_plain p0 = some r) : PureF Tryd.prog 110 [.agg [.int .i64 p0.Kind, .int .i64 p0.Reg, .int .i64 p0.Sym, .int .i64 p0.N]] (.bool r) := by
  rw [ins_plain] at hm
  refine PureF.of Tryd.func110 rfl Tryd.ntmps110 (Nat.le_of_ble_eq_true rfl) ?_
  have e0 : argS 0 [.agg [.int .i64 p0.Kind, .int .i64 p0.Reg, .int .i64 p0.Sym, .int .i64 p0.N]] = [(0, .agg [.int .i64 p0.Kind, .int .i64 p0.Reg, .int .i64 p0.Sym, .int .i64 p0.N])] := rfl
  rw [e0]
  refine W.sq [] [(1, .ptr 0 0 0)] [.cells (e_api_Opd p0) 0 53] ?_
  replace hm := of_bind hm
  obtain ⟨v1, h2, hm⟩ := hm
  replace hm := of_bind hm
  obtain ⟨v3, h4, hm⟩ := hm
  have kh2 := opnd_Right_ok h2
  have kh4 := fun hg => ins_memory_ok (of_true hg h4)
  refine W.sq [] [(2, .bool (v1 && (!v3)))] [] ?_
  obtain rfl := Option.some.inj hm
  exact W.ret (EndsF.retW [] RO)

theorem ins_reckons_ok {p0 : Int} {r : Bool} (hm : ins_reckons p0 = some r) : PureF Tryd.prog 112 [.int .i64 p0] (.bool r) := by
  rw [ins_reckons] at hm
  refine PureF.of Tryd.func112 rfl Tryd.ntmps112 (Nat.le_of_ble_eq_true rfl) ?_
  have e0 : argS 0 [.int .i64 p0] = [(0, .int .i64 p0)] := rfl
  rw [e0]
  refine W.sq [] [(0, .int .i64 p0)] [] ?_
  refine W.sq [] [(2, .bool (decide (p0 ≥ 2) && decide (p0 ≤ 6)))] [] ?_
  obtain rfl := Option.some.inj hm
  exact W.ret (EndsF.retW [] RO)

theorem ins_fits_ok {p0 : T_api_Ins} {r : Bool} (hm : ins_fits p0 = some r) : PureF Tryd.prog 83 [.agg [.int .i64 p0.Op, .bool p0.Lock, .int .i64 p0.Cond, .int .i64 p0.A.Kind, .int .i64 p0.A.Reg, .int .i64 p0.A.Sym, .int .i64 p0.A.N, .int .i64 p0.B.Kind, .int .i64 p0.B.Reg, .int .i64 p0.B.Sym, .int .i64 p0.B.N, .str p0.To, .sl (p0.Labels.map eStr)]] (.bool r) := by
  rw [ins_fits] at hm
  refine PureF.of Tryd.func83 rfl Tryd.ntmps83 (Nat.le_of_ble_eq_true rfl) ?_
  have e0 : argS 0 [.agg [.int .i64 p0.Op, .bool p0.Lock, .int .i64 p0.Cond, .int .i64 p0.A.Kind, .int .i64 p0.A.Reg, .int .i64 p0.A.Sym, .int .i64 p0.A.N, .int .i64 p0.B.Kind, .int .i64 p0.B.Reg, .int .i64 p0.B.Sym, .int .i64 p0.B.N, .str p0.To, .sl (p0.Labels.map eStr)]] = [(0, .agg [.int .i64 p0.Op, .bool p0.Lock, .int .i64 p0.Cond, .int .i64 p0.A.Kind, .int .i64 p0.A.Reg, .int .i64 p0.A.Sym, .int .i64 p0.A.N, .int .i64 p0.B.Kind, .int .i64 p0.B.Reg, .int .i64 p0.B.Sym, .int .i64 p0.B.N, .str p0.To, .sl (p0.Labels.map eStr)])] := rfl
  rw [e0]
  refine W.sq [] [(1, .ptr 0 0 0)] [.cells (e_api_Ins p0) 0 55] ?_
  refine W.cut (fun s h => ∃ (v : Unit) (w : Unit) (F : Gs), ins_fits_j1 p0 = some r ∧ AT 0 F [(1, .ptr 0 0 0)] [.cells (e_api_Ins p0) 0 55] s h) ?_ ?_
  · refine W.sq [] [(1, .ptr 0 0 0), (6, .bool (p0.Op == 11))] [.cells (e_api_Ins p0) 0 55] ?_
    refine W.cnd (p0.Op == 11) (fun hb30 => ?_) (fun hb30 => ?_)
    · replace hm := of_true hb30 hm
      refine W.sq [] [(1, .ptr 0 0 0), (14, .bool (decide (p0.Cond < 1) || decide (p0.Cond > 10)))] [.cells (e_api_Ins p0) 0 55] ?_
      refine W.cnd (decide (p0.Cond < 1) || decide (p0.Cond > 10)) (fun hb31 => ?_) (fun hb31 => ?_)
      · replace hm := of_true hb31 hm
        refine W.sq [] [(2, .bool false)] [] ?_
        obtain rfl := Option.some.inj hm
        exact W.ret (EndsF.retW [] RO)
      · replace hm := of_false hb31 hm
        refine W.skip ?_
        exact ⟨(), (), ⟨[], []⟩, hm, RO⟩
    · replace hm := of_false hb30 hm
      refine W.sq [] [(1, .ptr 0 0 0), (17, .bool (p0.Cond != 0))] [.cells (e_api_Ins p0) 0 55] ?_
      refine W.cnd (p0.Cond != 0) (fun hb32 => ?_) (fun hb32 => ?_)
      · replace hm := of_true hb32 hm
        refine W.sq [] [(2, .bool false)] [] ?_
        obtain rfl := Option.some.inj hm
        exact W.ret (EndsF.retW [] RO)
      · replace hm := of_false hb32 hm
        refine W.skip ?_
        exact ⟨(), (), ⟨[], []⟩, hm, RO⟩
  · rintro s h ⟨_, _, F, hm, hat⟩
    refine W.weak F hat ?_
    show WK _ _ _ _ _ [(1, .ptr 0 0 0)] [.cells (e_api_Ins p0) 0 55]
    rw [ins_fits_j1] at hm
    replace hm := of_bind hm
    obtain ⟨v1, h2, hm⟩ := hm
    replace hm := of_bind hm
    obtain ⟨v3, h4, hm⟩ := hm
    replace hm := of_bind hm
    obtain ⟨v5, h6, hm⟩ := hm
    replace hm := of_bind hm
    obtain ⟨v7, h8, hm⟩ := hm
    replace hm := of_bind hm
    obtain ⟨v9, h10, hm⟩ := hm
    refine W.sq [] [(1, .ptr 0 0 0), (3, .bool ((v1 && (v3 || v5)) || (v7 && v9)))] [.cells (e_api_Ins p0) 0 55] ?_ (hrun := ?_)
    rotate_left
    · try simp -implicitDefEqProofs -dsimp only [go_sem, ↓reduceIte, Nat.reduceAdd, Nat.reduceMul, Nat.reduceSub, Nat.reduceEqDiff, Nat.reduceLeDiff, Nat.reduceLT, Nat.reduceBEq, Int.reduceEq, reduceCtorEq]
      with_reducible refine exP.mk _ (callQ.plain (by simp -implicitDefEqProofs -dsimp only [go_sem, ↓reduceIte, Nat.reduceAdd, Nat.reduceMul, Nat.reduceSub, Nat.reduceEqDiff, Nat.reduceLeDiff, Nat.reduceLT, Nat.reduceBEq, Int.reduceEq, reduceCtorEq]) (ins_register_ok h2)) ?_
      try simp -implicitDefEqProofs -dsimp only [go_sem, ↓reduceIte, Nat.reduceAdd, Nat.reduceMul, Nat.reduceSub, Nat.reduceEqDiff, Nat.reduceLeDiff, Nat.reduceLT, Nat.reduceBEq, Int.reduceEq, reduceCtorEq]
      refine onG_split (fun hg11 => ?_) (fun hg11 => ?_)
      · try simp -implicitDefEqProofs -dsimp only [go_sem, ↓reduceIte, Nat.reduceAdd, Nat.reduceMul, Nat.reduceSub, Nat.reduceEqDiff, Nat.reduceLeDiff, Nat.reduceLT, Nat.reduceBEq, Int.reduceEq, reduceCtorEq, hg11]
        with_reducible refine exP.mk _ (callQ.plain (by simp -implicitDefEqProofs -dsimp only [go_sem, ↓reduceIte, Nat.reduceAdd, Nat.reduceMul, Nat.reduceSub, Nat.reduceEqDiff, Nat.reduceLeDiff, Nat.reduceLT, Nat.reduceBEq, Int.reduceEq, reduceCtorEq, hg11]) (ins_plain_ok (of_true (by simp -implicitDefEqProofs -dsimp only [go_sem, ↓reduceIte, Nat.reduceAdd, Nat.reduceMul, Nat.reduceSub, Nat.reduceEqDiff, Nat.reduceLeDiff, Nat.reduceLT, Nat.reduceBEq, Int.reduceEq, reduceCtorEq, hg11]) h4))) ?_
        try simp -implicitDefEqProofs -dsimp only [go_sem, ↓reduceIte, Nat.reduceAdd, Nat.reduceMul, Nat.reduceSub, Nat.reduceEqDiff, Nat.reduceLeDiff, Nat.reduceLT, Nat.reduceBEq, Int.reduceEq, reduceCtorEq, hg11]
        refine onG_splitN (fun hg12 => ?_) (fun hg12 => ?_)
        · try simp only [Bool.not_not] at hg12
          try simp -implicitDefEqProofs -dsimp only [go_sem, ↓reduceIte, Nat.reduceAdd, Nat.reduceMul, Nat.reduceSub, Nat.reduceEqDiff, Nat.reduceLeDiff, Nat.reduceLT, Nat.reduceBEq, Int.reduceEq, reduceCtorEq, hg11, hg12]
          with_reducible refine exP.mk _ (callQ.plain (by simp -implicitDefEqProofs -dsimp only [go_sem, ↓reduceIte, Nat.reduceAdd, Nat.reduceMul, Nat.reduceSub, Nat.reduceEqDiff, Nat.reduceLeDiff, Nat.reduceLT, Nat.reduceBEq, Int.reduceEq, reduceCtorEq, hg11, hg12]) (ins_memory_ok (of_true (by simp -implicitDefEqProofs -dsimp only [go_sem, ↓reduceIte, Nat.reduceAdd, Nat.reduceMul, Nat.reduceSub, Nat.reduceEqDiff, Nat.reduceLeDiff, Nat.reduceLT, Nat.reduceBEq, Int.reduceEq, reduceCtorEq, hg11, hg12]) h6))) ?_
          try simp -implicitDefEqProofs -dsimp only [go_sem, ↓reduceIte, Nat.reduceAdd, Nat.reduceMul, Nat.reduceSub, Nat.reduceEqDiff, Nat.reduceLeDiff, Nat.reduceLT, Nat.reduceBEq, Int.reduceEq, reduceCtorEq, hg11, hg12]
          refine onG_splitN (fun hg13 => ?_) (fun hg13 => ?_)
          · try simp only [Bool.not_not] at hg13
            try simp -implicitDefEqProofs -dsimp only [go_sem, ↓reduceIte, Nat.reduceAdd, Nat.reduceMul, Nat.reduceSub, Nat.reduceEqDiff, Nat.reduceLeDiff, Nat.reduceLT, Nat.reduceBEq, Int.reduceEq, reduceCtorEq, hg11, hg12, hg13]
            with_reducible refine exP.mk _ (callQ.plain (by simp -implicitDefEqProofs -dsimp only [go_sem, ↓reduceIte, Nat.reduceAdd, Nat.reduceMul, Nat.reduceSub, Nat.reduceEqDiff, Nat.reduceLeDiff, Nat.reduceLT, Nat.reduceBEq, Int.reduceEq, reduceCtorEq, hg11, hg12, hg13]) (ins_memory_ok (of_true (by simp -implicitDefEqProofs -dsimp only [go_sem, ↓reduceIte, Nat.reduceAdd, Nat.reduceMul, Nat.reduceSub, Nat.reduceEqDiff, Nat.reduceLeDiff, Nat.reduceLT, Nat.reduceBEq, Int.reduceEq, reduceCtorEq, hg11, hg12, hg13]) h8))) ?_
            try simp -implicitDefEqProofs -dsimp only [go_sem, ↓reduceIte, Nat.reduceAdd, Nat.reduceMul, Nat.reduceSub, Nat.reduceEqDiff, Nat.reduceLeDiff, Nat.reduceLT, Nat.reduceBEq, Int.reduceEq, reduceCtorEq, hg11, hg12, hg13]
            refine onG_split (fun hg14 => ?_) (fun hg14 => ?_)
            · try simp only [Bool.not_not] at hg14
              try simp -implicitDefEqProofs -dsimp only [go_sem, ↓reduceIte, Nat.reduceAdd, Nat.reduceMul, Nat.reduceSub, Nat.reduceEqDiff, Nat.reduceLeDiff, Nat.reduceLT, Nat.reduceBEq, Int.reduceEq, reduceCtorEq, hg11, hg12, hg13, hg14]
              with_reducible refine exP.mk _ (callQ.plain (by simp -implicitDefEqProofs -dsimp only [go_sem, ↓reduceIte, Nat.reduceAdd, Nat.reduceMul, Nat.reduceSub, Nat.reduceEqDiff, Nat.reduceLeDiff, Nat.reduceLT, Nat.reduceBEq, Int.reduceEq, reduceCtorEq, hg11, hg12, hg13, hg14]) (ins_plain_ok (of_true (by simp -implicitDefEqProofs -dsimp only [go_sem, ↓reduceIte, Nat.reduceAdd, Nat.reduceMul, Nat.reduceSub, Nat.reduceEqDiff, Nat.reduceLeDiff, Nat.reduceLT, Nat.reduceBEq, Int.reduceEq, reduceCtorEq, hg11, hg12, hg13, hg14]) h10))) ?_
              try simp -implicitDefEqProofs -dsimp only [go_sem, ↓reduceIte, Nat.reduceAdd, Nat.reduceMul, Nat.reduceSub, Nat.reduceEqDiff, Nat.reduceLeDiff, Nat.reduceLT, Nat.reduceBEq, Int.reduceEq, reduceCtorEq, hg11, hg12, hg13, hg14]
            · try simp only [Bool.not_not] at hg14
              try simp -implicitDefEqProofs -dsimp only [go_sem, ↓reduceIte, Nat.reduceAdd, Nat.reduceMul, Nat.reduceSub, Nat.reduceEqDiff, Nat.reduceLeDiff, Nat.reduceLT, Nat.reduceBEq, Int.reduceEq, reduceCtorEq, hg11, hg12, hg13, hg14]
          · try simp only [Bool.not_not] at hg13
            try simp -implicitDefEqProofs -dsimp only [go_sem, ↓reduceIte, Nat.reduceAdd, Nat.reduceMul, Nat.reduceSub, Nat.reduceEqDiff, Nat.reduceLeDiff, Nat.reduceLT, Nat.reduceBEq, Int.reduceEq, reduceCtorEq, hg11, hg12, hg13]
        · try simp only [Bool.not_not] at hg12
          try simp -implicitDefEqProofs -dsimp only [go_sem, ↓reduceIte, Nat.reduceAdd, Nat.reduceMul, Nat.reduceSub, Nat.reduceEqDiff, Nat.reduceLeDiff, Nat.reduceLT, Nat.reduceBEq, Int.reduceEq, reduceCtorEq, hg11, hg12]
      · try simp -implicitDefEqProofs -dsimp only [go_sem, ↓reduceIte, Nat.reduceAdd, Nat.reduceMul, Nat.reduceSub, Nat.reduceEqDiff, Nat.reduceLeDiff, Nat.reduceLT, Nat.reduceBEq, Int.reduceEq, reduceCtorEq, hg11]
        with_reducible refine exP.mk _ (callQ.plain (by simp -implicitDefEqProofs -dsimp only [go_sem, ↓reduceIte, Nat.reduceAdd, Nat.reduceMul, Nat.reduceSub, Nat.reduceEqDiff, Nat.reduceLeDiff, Nat.reduceLT, Nat.reduceBEq, Int.reduceEq, reduceCtorEq, hg11]) (ins_memory_ok (of_true (by simp -implicitDefEqProofs -dsimp only [go_sem, ↓reduceIte, Nat.reduceAdd, Nat.reduceMul, Nat.reduceSub, Nat.reduceEqDiff, Nat.reduceLeDiff, Nat.reduceLT, Nat.reduceBEq, Int.reduceEq, reduceCtorEq, hg11]) h8))) ?_
        try simp -implicitDefEqProofs -dsimp only [go_sem, ↓reduceIte, Nat.reduceAdd, Nat.reduceMul, Nat.reduceSub, Nat.reduceEqDiff, Nat.reduceLeDiff, Nat.reduceLT, Nat.reduceBEq, Int.reduceEq, reduceCtorEq, hg11]
        refine onG_split (fun hg15 => ?_) (fun hg15 => ?_)
        · try simp only [Bool.not_not] at hg15
          try simp -implicitDefEqProofs -dsimp only [go_sem, ↓reduceIte, Nat.reduceAdd, Nat.reduceMul, Nat.reduceSub, Nat.reduceEqDiff, Nat.reduceLeDiff, Nat.reduceLT, Nat.reduceBEq, Int.reduceEq, reduceCtorEq, hg11, hg15]
          with_reducible refine exP.mk _ (callQ.plain (by simp -implicitDefEqProofs -dsimp only [go_sem, ↓reduceIte, Nat.reduceAdd, Nat.reduceMul, Nat.reduceSub, Nat.reduceEqDiff, Nat.reduceLeDiff, Nat.reduceLT, Nat.reduceBEq, Int.reduceEq, reduceCtorEq, hg11, hg15]) (ins_plain_ok (of_true (by simp -implicitDefEqProofs -dsimp only [go_sem, ↓reduceIte, Nat.reduceAdd, Nat.reduceMul, Nat.reduceSub, Nat.reduceEqDiff, Nat.reduceLeDiff, Nat.reduceLT, Nat.reduceBEq, Int.reduceEq, reduceCtorEq, hg11, hg15]) h10))) ?_
          try simp -implicitDefEqProofs -dsimp only [go_sem, ↓reduceIte, Nat.reduceAdd, Nat.reduceMul, Nat.reduceSub, Nat.reduceEqDiff, Nat.reduceLeDiff, Nat.reduceLT, Nat.reduceBEq, Int.reduceEq, reduceCtorEq, hg11, hg15]
        · try simp only [Bool.not_not] at hg15
          try simp -implicitDefEqProofs -dsimp only [go_sem, ↓reduceIte, Nat.reduceAdd, Nat.reduceMul, Nat.reduceSub, Nat.reduceEqDiff, Nat.reduceLeDiff, Nat.reduceLT, Nat.reduceBEq, Int.reduceEq, reduceCtorEq, hg11, hg15]
    refine W.seq ?_
    refine W.block ?_
    refine W.sq [] [(1, .ptr 0 0 0), (3, .bool ((v1 && (v3 || v5)) || (v7 && v9))), (41, .bool ((p0.Op == 1) || (p0.Op == 7)))] [.cells (e_api_Ins p0) 0 55] ?_
    refine W.cnd ((p0.Op == 1) || (p0.Op == 7)) (fun hb16 => ?_) (fun hb16 => ?_)
    · replace hm := of_true hb16 hm
      refine W.sq [] [(2, .bool (((v1 && (v3 || v5)) || (v7 && v9)) && (!p0.Lock)))] [] ?_
      obtain rfl := Option.some.inj hm
      exact W.ret (EndsF.retW [] RO)
    · replace hm := of_false hb16 hm
      replace hm := of_bind hm
      obtain ⟨v17, h18, hm⟩ := hm
      have kh18 := ins_reckons_ok h18
      try simp only [hb16] at kh18
      refine W.sq [] [(1, .ptr 0 0 0), (3, .bool ((v1 && (v3 || v5)) || (v7 && v9))), (56, .bool v17)] [.cells (e_api_Ins p0) 0 55] ?_
      refine W.cnd v17 (fun hb19 => ?_) (fun hb19 => ?_)
      · replace hm := of_true hb19 hm
        replace hm := of_bind hm
        obtain ⟨v20, h21, hm⟩ := hm
        have kh21 := fun hg => ins_memory_ok (of_true hg h21)
        try simp only [hb16, hb19] at kh21
        refine W.sq [] [(2, .bool (((v1 && (v3 || v5)) || (v7 && v9)) && ((!p0.Lock) || v20)))] [] ?_
        obtain rfl := Option.some.inj hm
        exact W.ret (EndsF.retW [] RO)
      · replace hm := of_false hb19 hm
        refine W.sq [] [(1, .ptr 0 0 0), (71, .bool ((p0.Op == 8) || (p0.Op == 9)))] [.cells (e_api_Ins p0) 0 55] ?_
        refine W.cnd ((p0.Op == 8) || (p0.Op == 9)) (fun hb22 => ?_) (fun hb22 => ?_)
        · replace hm := of_true hb22 hm
          replace hm := of_bind hm
          obtain ⟨v23, h24, hm⟩ := hm
          replace hm := of_bind hm
          obtain ⟨v25, h26, hm⟩ := hm
          have kh24 := ins_memory_ok h24
          try simp only [hb16, hb19, hb22] at kh24
          have kh26 := fun hg => ins_register_ok (of_true hg h26)
          try simp only [hb16, hb19, hb22] at kh26
          refine W.sq [] [(2, .bool ((v23 && v25) && (p0.Lock == (p0.Op == 9))))] [] ?_
          obtain rfl := Option.some.inj hm
          exact W.ret (EndsF.retW [] RO)
        · replace hm := of_false hb22 hm
          refine W.sq [] [(1, .ptr 0 0 0), (96, .bool (decide (p0.Op ≥ 10) && decide (p0.Op ≤ 14)))] [.cells (e_api_Ins p0) 0 55] ?_
          refine W.cnd (decide (p0.Op ≥ 10) && decide (p0.Op ≤ 14)) (fun hb27 => ?_) (fun hb27 => ?_)
          · replace hm := of_true hb27 hm
            replace hm := of_let hm
            obtain ⟨b28, h29, hm⟩ := hm
            refine W.sq [] [(2, .bool b28)] [] ?_
            clear h29
            obtain rfl := Option.some.inj hm
            exact W.ret (EndsF.retW [] RO)
          · replace hm := of_false hb27 hm
            refine W.skip ?_
            refine W.sq [] [(2, .bool false)] [] ?_
            obtain rfl := Option.some.inj hm
            exact W.ret (EndsF.retW [] RO)

theorem ins_Right_ok {p0 : T_api_Ins} {r : Int} (hm : ins_Right p0 = some r) : PureF Tryd.prog 57 [.agg [.int .i64 p0.Op, .bool p0.Lock, .int .i64 p0.Cond, .int .i64 p0.A.Kind, .int .i64 p0.A.Reg, .int .i64 p0.A.Sym, .int .i64 p0.A.N, .int .i64 p0.B.Kind, .int .i64 p0.B.Reg, .int .i64 p0.B.Sym, .int .i64 p0.B.N, .str p0.To, .sl (p0.Labels.map eStr)]] (.int .i64 r) := by
  rw [ins_Right] at hm
  refine PureF.of Tryd.func57 rfl Tryd.ntmps57 (Nat.le_of_ble_eq_true rfl) ?_
  have e0 : argS 0 [.agg [.int .i64 p0.Op, .bool p0.Lock, .int .i64 p0.Cond, .int .i64 p0.A.Kind, .int .i64 p0.A.Reg, .int .i64 p0.A.Sym, .int .i64 p0.A.N, .int .i64 p0.B.Kind, .int .i64 p0.B.Reg, .int .i64 p0.B.Sym, .int .i64 p0.B.N, .str p0.To, .sl (p0.Labels.map eStr)]] = [(0, .agg [.int .i64 p0.Op, .bool p0.Lock, .int .i64 p0.Cond, .int .i64 p0.A.Kind, .int .i64 p0.A.Reg, .int .i64 p0.A.Sym, .int .i64 p0.A.N, .int .i64 p0.B.Kind, .int .i64 p0.B.Reg, .int .i64 p0.B.Sym, .int .i64 p0.B.N, .str p0.To, .sl (p0.Labels.map eStr)])] := rfl
  rw [e0]
  refine W.sq [] [(1, .ptr 0 0 0)] [.cells (e_api_Ins p0) 0 55] ?_
  refine W.sq [] [(1, .ptr 0 0 0), (3, .bool ((p0.Op == 10) || (p0.Op == 11)))] [.cells (e_api_Ins p0) 0 55] ?_
  refine W.seq ?_
  replace hm := of_bind hm
  obtain ⟨v1, h2, hm⟩ := hm
  replace hm := of_let hm
  obtain ⟨b3, h4, hm⟩ := hm
  have kh2 := ins_fits_ok h2
  refine W.sq [] [(1, .ptr 0 0 0), (3, .bool ((p0.Op == 10) || (p0.Op == 11))), (23, .bool b3)] [.cells (e_api_Ins p0) 0 55] ?_
  clear h4
  refine W.cnd b3 (fun hb5 => ?_) (fun hb5 => ?_)
  · replace hm := of_true hb5 hm
    refine W.sq [] [(2, .int .i64 4)] [] ?_
    obtain rfl := Option.some.inj hm
    exact W.ret (EndsF.retW [] RO)
  · replace hm := of_false hb5 hm
    refine W.skip ?_
    refine W.seq ?_
    replace hm := of_bind hm
    obtain ⟨v6, h7, hm⟩ := hm
    have kh7 := fun hg => names_Right_ok (of_true hg h7)
    try simp only [hb5] at kh7
    refine W.sq [] [(30, .bool (((p0.Op == 10) || (p0.Op == 11)) && (!v6)))] [] ?_
    refine W.cnd (((p0.Op == 10) || (p0.Op == 11)) && (!v6)) (fun hb8 => ?_) (fun hb8 => ?_)
    · replace hm := of_true hb8 hm
      refine W.sq [] [(2, .int .i64 3)] [] ?_
      obtain rfl := Option.some.inj hm
      exact W.ret (EndsF.retW [] RO)
    · replace hm := of_false hb8 hm
      refine W.skip ?_
      refine W.sq [] [(2, .int .i64 0)] [] ?_
      obtain rfl := Option.some.inj hm
      exact W.ret (EndsF.retW [] RO)

theorem valid_place_ok {p0 : T_api_Prog} {p1 : T_api_Opd} {r : Int} (hm : valid_place p0 p1 = some r) : PureF Tryd.prog 106 [.agg [.sl (p0.Syms.map e_api_Sym), .sl (p0.Threads.map e_api_Thread)], .agg [.int .i64 p1.Kind, .int .i64 p1.Reg, .int .i64 p1.Sym, .int .i64 p1.N]] (.int .i64 r) := by
  rw [valid_place] at hm
  refine PureF.of Tryd.func106 rfl Tryd.ntmps106 (Nat.le_of_ble_eq_true rfl) ?_
  have e0 : argS 0 [.agg [.sl (p0.Syms.map e_api_Sym), .sl (p0.Threads.map e_api_Thread)], .agg [.int .i64 p1.Kind, .int .i64 p1.Reg, .int .i64 p1.Sym, .int .i64 p1.N]] = [(0, .agg [.sl (p0.Syms.map e_api_Sym), .sl (p0.Threads.map e_api_Thread)]), (1, .agg [.int .i64 p1.Kind, .int .i64 p1.Reg, .int .i64 p1.Sym, .int .i64 p1.N])] := rfl
  rw [e0]
  refine W.sq [] [(2, .ptr 0 0 0), (3, .ptr 1 0 0)] [.cells (e_api_Prog p0) 0 38, .cells (e_api_Opd p1) 0 53] ?_
  refine W.seq ?_
  refine W.sq [] [(2, .ptr 0 0 0), (3, .ptr 1 0 0), (12, .bool ((p1.Kind != 3) && (p1.Kind != 4)))] [.cells (e_api_Prog p0) 0 38, .cells (e_api_Opd p1) 0 53] ?_
  refine W.cnd ((p1.Kind != 3) && (p1.Kind != 4)) (fun hb1 => ?_) (fun hb1 => ?_)
  · replace hm := of_true hb1 hm
    refine W.sq [] [(4, .int .i64 0)] [] ?_
    obtain rfl := Option.some.inj hm
    exact W.ret (EndsF.retW [] RO)
  · replace hm := of_false hb1 hm
    refine W.skip ?_
    refine W.seq ?_
    refine W.sq [] [(2, .ptr 0 0 0), (3, .ptr 1 0 0), (23, .bool (decide (p1.Sym < 0) || decide (p1.Sym ≥ (p0.Syms.length : Int))))] [.cells (e_api_Prog p0) 0 38, .cells (e_api_Opd p1) 0 53] ?_
    refine W.cnd (decide (p1.Sym < 0) || decide (p1.Sym ≥ (p0.Syms.length : Int))) (fun hb2 => ?_) (fun hb2 => ?_)
    · replace hm := of_true hb2 hm
      refine W.sq [] [(4, .int .i64 7)] [] ?_
      obtain rfl := Option.some.inj hm
      exact W.ret (EndsF.retW [] RO)
    · replace hm := of_false hb2 hm
      refine W.skip ?_
      refine W.seq ?_
      replace hm := of_ite hm
      obtain ⟨h3, hm⟩ := hm
      refine W.sqJ [] [] [] 0 [] [(38, .bool ((p1.Kind == 3) && decide (p1.N ≥ (rd p0.Syms p1.Sym).Size)))] [] v_mixed ?_
      refine W.cnd ((p1.Kind == 3) && decide (p1.N ≥ (rd p0.Syms p1.Sym).Size)) (fun hb4 => ?_) (fun hb4 => ?_)
      · replace hm := of_true hb4 hm
        refine W.sq [] [(4, .int .i64 8)] [] ?_
        obtain rfl := Option.some.inj hm
        exact W.ret (EndsF.retW [] RO)
      · replace hm := of_false hb4 hm
        refine W.skip ?_
        refine W.sq [] [(4, .int .i64 0)] [] ?_
        obtain rfl := Option.some.inj hm
        exact W.ret (EndsF.retW [] RO)

theorem ins_Leads_ok {p0 : T_api_Ins} {r : Bool × Bool} (hm : ins_Leads p0 = some r) : PureF Tryd.prog 59 [.agg [.int .i64 p0.Op, .bool p0.Lock, .int .i64 p0.Cond, .int .i64 p0.A.Kind, .int .i64 p0.A.Reg, .int .i64 p0.A.Sym, .int .i64 p0.A.N, .int .i64 p0.B.Kind, .int .i64 p0.B.Reg, .int .i64 p0.B.Sym, .int .i64 p0.B.N, .str p0.To, .sl (p0.Labels.map eStr)]] (.tuple [.bool r.1, .bool r.2]) := by
  rw [ins_Leads] at hm
  refine PureF.of Tryd.func59 rfl Tryd.ntmps59 (Nat.le_of_ble_eq_true rfl) ?_
  have e0 : argS 0 [.agg [.int .i64 p0.Op, .bool p0.Lock, .int .i64 p0.Cond, .int .i64 p0.A.Kind, .int .i64 p0.A.Reg, .int .i64 p0.A.Sym, .int .i64 p0.A.N, .int .i64 p0.B.Kind, .int .i64 p0.B.Reg, .int .i64 p0.B.Sym, .int .i64 p0.B.N, .str p0.To, .sl (p0.Labels.map eStr)]] = [(0, .agg [.int .i64 p0.Op, .bool p0.Lock, .int .i64 p0.Cond, .int .i64 p0.A.Kind, .int .i64 p0.A.Reg, .int .i64 p0.A.Sym, .int .i64 p0.A.N, .int .i64 p0.B.Kind, .int .i64 p0.B.Reg, .int .i64 p0.B.Sym, .int .i64 p0.B.N, .str p0.To, .sl (p0.Labels.map eStr)])] := rfl
  rw [e0]
  refine W.sq [] [(1, .ptr 0 0 0)] [.cells (e_api_Ins p0) 0 55] ?_
  refine W.seq ?_
  replace hm := of_bind hm
  obtain ⟨v1, h2, hm⟩ := hm
  have kh2 := ins_Right_ok h2
  refine W.sq [] [(1, .ptr 0 0 0), (6, .bool (v1 != 0))] [.cells (e_api_Ins p0) 0 55] ?_
  refine W.cnd (v1 != 0) (fun hb3 => ?_) (fun hb3 => ?_)
  · replace hm := of_true hb3 hm
    refine W.sq [] [(2, .bool false), (3, .bool false)] [] ?_
    obtain rfl := Option.some.inj hm
    exact W.ret (EndsF.retW [] RO)
  · replace hm := of_false hb3 hm
    refine W.skip ?_
    refine W.sqJ [] [] [] 0 [] [(2, .bool ((p0.Op != 10) && (p0.Op != 14))), (3, .bool ((p0.Op == 10) || (p0.Op == 11)))] [] v_mixed ?_
    obtain rfl := Option.some.inj hm
    exact W.ret (EndsF.retW [] RO)


end Go.Proofs.YtocjejladeeckaaDoor
