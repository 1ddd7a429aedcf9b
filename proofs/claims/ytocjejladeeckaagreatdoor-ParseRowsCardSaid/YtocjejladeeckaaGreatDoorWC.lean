import Derived.Test.YtocjejladeeckaaGreatDoorVFacts
import Derived.Test.YtocjejladeeckaaGreatDoorVu3
import Derived.Test.YtocjejladeeckaaGreatDoorPalC
import Derived.Test.YtocjejladeeckaaGreatDoorWB
import Derived.Test.YtocjejladeeckaaGreatDoorWNum
set_option linter.all false
set_option maxRecDepth 100000
set_option maxHeartbeats 4000000
namespace Go.Proofs.YtocjejladeeckaaGreatDoor
open Go.Vs
variable [TabU]
theorem zeG {p0 : ByteArray} {r : (List zap)} (hm : zcr p0 = some r) : zaH Tryz.prog 25 [.str p0] (.sl (r.map zae)) := by
 rw [zcr] at hm
 refine zaH.of Tryz.func25 rfl Tryz.ntmps25 (Nat.le_of_ble_eq_true rfl) ?_
 refine W.sa 0 [0] ?_
 refine W.sa 0 [0, 3] ?_
 refine W.sa 0 [0, 3, 4, 5] ?_
 refine W.seq ?_
 refine W.sa 1 [0, 3, 4, 5, 10] ?_
 refine W.block ?_
 replace ⟨r40, hlr40, hm⟩ := zaf hm
 refine W.mono (Q := fun e0 s0 h0 => e0 = .exit 0 /\ ∃ w : Nat, s0 = [(0, .str p0), (3, zM 1 w 6 r40)] /\ h0 = [.dead, .rows (r40.map zae) 6 w 73]) (W.loopM (step := zaX p0) (a0 := (1, 1, 0, [])) (fun (a : Int × Int × Nat × (List zap)) (v : Nat) => ([(0, .str p0), (3, zM 1 v 6 a.2.2.2), (4, zi a.1), (5, zi a.2.1), (10, .ptr 0 0 0)], [.siter p0 a.2.2.1, .rows (a.2.2.2.map zae) 6 v 73])) 0 hlr40 ⟨[], []⟩ RO ?_) ?_
 ·rintro ⟨i22, i23, n24, l25⟩ w26 x hm hx
  rw [zaX] at hm
  show WK _ _ _ _ _ [(0, .str p0), (3, zM 1 w26 6 l25), (4, zi i22), (5, zi i23), (10, .ptr 0 0 0)] [.siter p0 n24, .rows (l25.map zae) 6 w26 73]
  by_cases hb41 : n24 < p0.size
  ·rw [if_pos hb41] at hm
   refine W.sa 2 [0, 3, 4, 5, 10, 11, 12] ?_
   refine W.seq ?_
   refine W.cnd true (fun _ => ?_) (fun hx => by cases hx)
   refine W.skip ?_
   refine W.block ?_
   refine W.sa 2 [0, 3, 4, 5, 6, 7, 10] ?_
   refine W.cut (fun s h => ∃ (v : (List zap)) (w : Unit) (F : Gs), zbn p0 n24 i22 i23 v = some x /\ AT 0 F [(0, .str p0), (3, zM 1 w26 6 v), (4, zi i22), (5, zi i23), (6, zi (n24 : Int)), (7, .int .i32 ((Utf8.decode p0 n24).1 : Int)), (10, .ptr 0 0 0)] [.siter p0 (n24 + (Utf8.decode p0 n24).2), .rows (v.map zae) 6 w26 73] s h) ?_ ?_
   ·refine W.sa 2 [0, 3, 4, 5, 6, 7, 10, 17] ?_
    refine W.cn hm ?_ ?_ <;> clear hm <;> intro hb47 hm
    ·replace ⟨h48, hm⟩ := zam hm
     replace ⟨h49, hm⟩ := zam hm
     replace ⟨l50, h51, hm⟩ := zaK hm
     refine W.rg [] [(0, .str p0), (3, zM 1 w26 6 l50), (4, zi i22), (5, zi i23), (6, zi (n24 : Int)), (7, .int .i32 ((Utf8.decode p0 n24).1 : Int)), (10, .ptr 0 0 0)] [.siter p0 (n24 + (Utf8.decode p0 n24).2), .rows (l50.map zae) 6 w26 73] ?_
     clear h51
     exact ⟨l50, (), ⟨[], []⟩, hm, RO⟩
    ·refine W.skip ?_
     exact ⟨l25, (), ⟨[], []⟩, hm, RO⟩
   ·rintro s h ⟨l42, _, F, hm, hat⟩
    refine W.weak F hat ?_
    show WK _ _ _ _ _ [(0, .str p0), (3, zM 1 w26 6 l42), (4, zi i22), (5, zi i23), (6, zi (n24 : Int)), (7, .int .i32 ((Utf8.decode p0 n24).1 : Int)), (10, .ptr 0 0 0)] [.siter p0 (n24 + (Utf8.decode p0 n24).2), .rows (l42.map zae) 6 w26 73]
    rw [zbn] at hm
    replace ⟨h43, hm⟩ := zam hm
    replace ⟨l44, h45, hm⟩ := zaK hm
    refine W.sq [] [(0, .str p0), (3, .msl 1 (w26 + 1) 0 6 l44.length l44.length), (4, zi i22), (5, zi i23), (7, .int .i32 ((Utf8.decode p0 n24).1 : Int)), (10, .ptr 0 0 0)] [.siter p0 (n24 + (Utf8.decode p0 n24).2), .rows (l44.map zae) 6 (w26 + 1) 73] ?_
    clear h45
    refine W.sa 2 [0, 3, 4, 5, 7, 10] ?_
    refine W.sa 2 [0, 3, 4, 5, 10, 44] ?_
    refine W.cn hm ?_ ?_ <;> clear hm <;> intro hb46 hm
    ·refine W.rg [] [(0, .str p0), (3, .msl 1 (w26 + 1) 0 6 l44.length l44.length), (4, zi (zw (i22 + 1))), (5, zi 1), (10, .ptr 0 0 0)] [.siter p0 (n24 + (Utf8.decode p0 n24).2), .rows (l44.map zae) 6 (w26 + 1) 73] ?_
     obtain rfl := zo hm
     exact ⟨((zw (i22 + 1)), 1, (n24 + (Utf8.decode p0 n24).2), l44), (w26 + 1), ⟨[], []⟩, rfl, RO⟩
    ·refine W.skip ?_
     obtain rfl := zo hm
     exact ⟨(i22, (zw (i23 + 1)), (n24 + (Utf8.decode p0 n24).2), l44), (w26 + 1), ⟨[], []⟩, rfl, RO⟩
  ·rw [if_neg hb41] at hm
   refine W.sa 2 [0, 3, 4, 5, 10, 11, 12] ?_
   refine W.seq ?_
   refine W.cnd false (fun hx => by cases hx) (fun _ => ?_)
   obtain rfl := zo hm
   obtain rfl := hx _ rfl
   exact W.wk ⟨[], []⟩ [(0, .str p0), (3, zM 1 w26 6 l25)] [.dead, .rows (l25.map zae) 6 w26 73] (W.exit (show _ /\ _ from ⟨rfl, w26, rfl, rfl⟩))
 ·rintro e0 s0 h0 ⟨rfl, w39, rfl, rfl⟩
  show WK _ _ _ _ _ [(0, .str p0), (3, zM 1 w39 6 r40)] [.dead, .rows (r40.map zae) 6 w39 73]
  refine W.cut (fun s h => ∃ (v : (List zap)) (w : Unit) (F : Gs), zcc v = some r /\ AT 0 F [(3, zM 1 w39 6 v)] [.dead, .rows (v.map zae) 6 w39 73] s h) ?_ ?_
  ·refine W.sa 2 [0, 3, 49] ?_
   refine W.cn hm ?_ ?_ <;> clear hm <;> intro hb83 hm
   ·replace ⟨h84, hm⟩ := zam hm
    replace ⟨h85, hm⟩ := zam hm
    replace ⟨l86, h87, hm⟩ := zaK hm
    refine W.rg [] [(3, zM 1 w39 6 l86)] [.dead, .rows (l86.map zae) 6 w39 73] ?_
    clear h87
    exact ⟨l86, (), ⟨[], []⟩, hm, RO⟩
   ·refine W.skip ?_
    exact ⟨r40, (), ⟨[], []⟩, hm, RO⟩
  ·rintro s h ⟨l52, _, F, hm, hat⟩
   refine W.weak F hat ?_
   show WK _ _ _ _ _ [(3, zM 1 w39 6 l52)] [.dead, .rows (l52.map zae) 6 w39 73]
   rw [zcc] at hm
   refine W.seq ?_
   refine W.sa 2 [3, 8] ?_
   refine W.block ?_
   replace ⟨r76, hlr76, hm⟩ := zaf hm
   refine W.mono (Q := fun e0 s0 h0 => e0 = .exit 2 /\ ∃ w : Unit, s0 = [(3, zM 1 w39 6 r76)] /\ h0 = [.dead, .rows (r76.map zae) 6 w39 73]) (W.loopM (step := zbm) (a0 := (0, l52)) (fun (a : Int × (List zap)) (v : Unit) => ([(3, zM 1 w39 6 a.2), (8, zi a.1)], [.dead, .rows (a.2.map zae) 6 w39 73])) () hlr76 ⟨[], []⟩ RO ?_) ?_
   ·rintro ⟨i67, l68⟩ _ x hm hx
    rw [zbm] at hm
    show WK _ _ _ _ _ [(3, zM 1 w39 6 l68), (8, zi i67)] [.dead, .rows (l68.map zae) 6 w39 73]
    refine W.seq ?_
    refine W.sa 2 [3, 8, 69] ?_
    refine W.cn hm ?_ ?_ <;> clear hm <;> intro hb77 hm
    ·refine W.skip ?_
     refine W.seq ?_
     refine W.block ?_
     replace ⟨h78, hm⟩ := zam hm
     replace ⟨h79, hm⟩ := zam hm
     replace ⟨h80, hm⟩ := zam hm
     replace ⟨l81, h82, hm⟩ := zaK hm
     refine W.rg [] [(3, zM 1 w39 6 l81), (8, zi i67)] [.dead, .rows (l81.map zae) 6 w39 73] ?_
     clear h82
     refine W.rg [] [(3, zM 1 w39 6 l81), (8, zi (zw (i67 + 1)))] [.dead, .rows (l81.map zae) 6 w39 73] ?_
     obtain rfl := zo hm
     exact ⟨((zw (i67 + 1)), l81), (), ⟨[], []⟩, rfl, RO⟩
    ·obtain rfl := zo hm
     obtain rfl := hx _ rfl
     exact W.wk ⟨[], []⟩ [(3, zM 1 w39 6 l68)] [.dead, .rows (l68.map zae) 6 w39 73] (W.exit (show _ /\ _ from ⟨rfl, (), rfl, rfl⟩))
   ·rintro e0 s0 h0 ⟨rfl, _, rfl, rfl⟩
    show WK _ _ _ _ _ [(3, zM 1 w39 6 r76)] [.dead, .rows (r76.map zae) 6 w39 73]
    refine W.sa 2 [2] ?_
    obtain rfl := zo hm
    exact W.ret (zaF.retW [1] RO)
theorem ze1 {r : (List ByteArray)} (hm : zdq  = some r) : zaH Tryz.prog 84 [] (.sl (r.map eStr)) := by
 rw [zdq] at hm
 refine zaH.of Tryz.func84 rfl Tryz.ntmps84 (Nat.le_of_ble_eq_true rfl) ?_
 refine W.sa 0 [] ?_
 replace ⟨l1, h2, hm⟩ := zaK hm
 refine W.sq [] [(0, .sl (l1.map eStr))] [] ?_
 clear h2
 obtain rfl := zo hm
 exact W.ret (zaF.retW [] RO)
theorem zba {p0 : (List ByteArray)} {p1 : ByteArray} {r : Int} (hm : zaW p0 p1 = some r) : zaH Tryz.prog 62 [.sl (p0.map eStr), .str p1] (zi r) := by
 rw [zaW] at hm
 refine zaH.of Tryz.func62 rfl Tryz.ntmps62 (Nat.le_of_ble_eq_true rfl) ?_
 refine W.sa 0 [0, 1] ?_
 refine W.seq ?_
 refine W.sa 0 [0, 1, 5] ?_
 refine W.block ?_
 replace ⟨r13, hlr13, hm⟩ := zaf hm
 refine W.mono (Q := fun e0 s0 h0 => match r13 with | .inl e => e0 = .exit 0 /\ ∃ w : Unit, s0 = [] /\ h0 = [] | .inr q => e0 = .ret /\ s0 = [(4, zi q)] /\ h0 = []) (W.loopM (step := zdb p0 p1) (a0 := 0) (fun (a : Int) (v : Unit) => ([(0, .sl (p0.map eStr)), (1, .str p1), (5, zi a)], [])) () hlr13 ⟨[], []⟩ RO ?_) ?_
 ·rintro i9 _ x hm hx
  rw [zdb] at hm
  show WK _ _ _ _ _ [(0, .sl (p0.map eStr)), (1, .str p1), (5, zi i9)] []
  refine W.seq ?_
  refine W.sa 0 [0, 1, 5, 9] ?_
  refine W.cn hm ?_ ?_ <;> clear hm <;> intro hb14 hm
  ·refine W.skip ?_
   refine W.seq ?_
   refine W.block ?_
   replace ⟨h15, hm⟩ := zam hm
   refine W.sa 0 [0, 1, 5, 17] ?_
   refine W.cn hm ?_ ?_ <;> clear hm <;> intro hb16 hm
   ·refine W.sa 0 [4] ?_
    obtain rfl := zo hm
    obtain rfl := hx _ rfl
    exact W.wk ⟨[], []⟩ [(4, zi i9)] [] (W.ret (show _ /\ _ from ⟨rfl, rfl, rfl⟩))
   ·refine W.skip ?_
    refine W.rg [] [(0, .sl (p0.map eStr)), (1, .str p1), (5, zi (zw (i9 + 1)))] [] ?_
    obtain rfl := zo hm
    exact ⟨(zw (i9 + 1)), (), ⟨[], []⟩, rfl, RO⟩
  ·obtain rfl := zo hm
   obtain rfl := hx _ rfl
   exact W.wk ⟨[], []⟩ [] [] (W.exit (show _ /\ _ from ⟨rfl, (), rfl, rfl⟩))
 ·intro e0 s0 h0 hq
  rcases r13 with er13 | qr13
  ·obtain ⟨rfl, _, rfl, rfl⟩ := hq
   replace hm := zcC hm
   show WK _ _ _ _ _ [] []
   refine W.sa 0 [4] ?_
   obtain rfl := zo hm
   exact W.ret (zaF.retW [] RO)
  ·obtain ⟨rfl, rfl, rfl⟩ := hq
   replace hm := zcB hm
   obtain rfl := zo hm
   exact zaF.retW [] RO
theorem zfn {r : (List ByteArray)} (hm : zdK  = some r) : zaH Tryz.prog 71 [] (.sl (r.map eStr)) := by
 rw [zdK] at hm
 refine zaH.of Tryz.func71 rfl Tryz.ntmps71 (Nat.le_of_ble_eq_true rfl) ?_
 refine W.sa 0 [] ?_
 replace ⟨l1, h2, hm⟩ := zaK hm
 refine W.sq [] [(0, .sl (l1.map eStr))] [] ?_
 clear h2
 obtain rfl := zo hm
 exact W.ret (zaF.retW [] RO)
theorem zeE {r : (List ByteArray)} (hm : zde  = some r) : zaH Tryz.prog 70 [] (.sl (r.map eStr)) := by
 rw [zde] at hm
 refine zaH.of Tryz.func70 rfl Tryz.ntmps70 (Nat.le_of_ble_eq_true rfl) ?_
 refine W.sa 0 [] ?_
 replace ⟨l1, h2, hm⟩ := zaK hm
 refine W.sq [] [(0, .sl (l1.map eStr))] [] ?_
 clear h2
 obtain rfl := zo hm
 exact W.ret (zaF.retW [] RO)
theorem ze0 {p0 : ByteArray} {r : Bool} (hm : zcz p0 = some r) : zaH Tryz.prog 60 [.str p0] (.bool r) := by
 rw [zcz] at hm
 refine zaH.of Tryz.func60 rfl Tryz.ntmps60 (Nat.le_of_ble_eq_true rfl) ?_
 refine W.sa 0 [0] ?_
 replace ⟨v1, h2, hm⟩ := zaf hm
 replace ⟨v3, h4, hm⟩ := zaf hm
 replace ⟨v5, h6, hm⟩ := zaf hm
 replace ⟨v7, h8, hm⟩ := zaf hm
 replace ⟨v9, h10, hm⟩ := zaf hm
 replace ⟨v11, h12, hm⟩ := zaf hm
 replace ⟨b13, h14, hm⟩ := zaK hm
 refine W.sq [] [(2, .bool b13)] [] ?_ (hrun := ?_)
 rotate_left
 ·try simp -implicitDefEqProofs -dsimp only [go_sem, h14]
  refine zc5 (fun hg15 => ?_) (fun hg15 => ?_)
  ·try simp only [Bool.not_not] at hg15
   try simp -implicitDefEqProofs -dsimp only [go_sem, hg15, h14]
   refine zc5 (fun hg16 => ?_) (fun hg16 => ?_)
   ·try simp only [Bool.not_not] at hg16
    try simp -implicitDefEqProofs -dsimp only [go_sem, hg15, hg16, h14]
    refine zc5 (fun hg17 => ?_) (fun hg17 => ?_)
    ·try simp only [Bool.not_not] at hg17
     try simp -implicitDefEqProofs -dsimp only [go_sem, hg15, hg16, hg17, h14]
     refine zc5 (fun hg18 => ?_) (fun hg18 => ?_)
     ·try simp only [Bool.not_not] at hg18
      try simp -implicitDefEqProofs -dsimp only [go_sem, hg15, hg16, hg17, hg18, h14]
      with_reducible refine exP.mk _ (callQ.plain (by simp -implicitDefEqProofs -dsimp only [go_sem, hg15, hg16, hg17, hg18, h14]) (ze1 (zbc (by simp -implicitDefEqProofs -dsimp only [go_sem, hg15, hg16, hg17, hg18, h14]) h2))) ?_
      try simp -implicitDefEqProofs -dsimp only [go_sem, hg15, hg16, hg17, hg18, h14]
      with_reducible refine exP.mk _ (callQ.plain (by simp -implicitDefEqProofs -dsimp only [go_sem, hg15, hg16, hg17, hg18, h14]) (zba (zbc (by simp -implicitDefEqProofs -dsimp only [go_sem, hg15, hg16, hg17, hg18, h14]) h4))) ?_
      try simp -implicitDefEqProofs -dsimp only [go_sem, hg15, hg16, hg17, hg18, h14]
      refine zc5 (fun hg19 => ?_) (fun hg19 => ?_)
      ·try simp only [Bool.not_not] at hg19
       try simp -implicitDefEqProofs -dsimp only [go_sem, hg15, hg16, hg17, hg18, hg19, h14]
       with_reducible refine exP.mk _ (callQ.plain (by simp -implicitDefEqProofs -dsimp only [go_sem, hg15, hg16, hg17, hg18, hg19, h14]) (zfn (zbc (by simp -implicitDefEqProofs -dsimp only [go_sem, hg15, hg16, hg17, hg18, hg19, h14]) h6))) ?_
       try simp -implicitDefEqProofs -dsimp only [go_sem, hg15, hg16, hg17, hg18, hg19, h14]
       with_reducible refine exP.mk _ (callQ.plain (by simp -implicitDefEqProofs -dsimp only [go_sem, hg15, hg16, hg17, hg18, hg19, h14]) (zba (zbc (by simp -implicitDefEqProofs -dsimp only [go_sem, hg15, hg16, hg17, hg18, hg19, h14]) h8))) ?_
       try simp -implicitDefEqProofs -dsimp only [go_sem, hg15, hg16, hg17, hg18, hg19, h14]
       refine zc5 (fun hg20 => ?_) (fun hg20 => ?_)
       ·try simp only [Bool.not_not] at hg20
        try simp -implicitDefEqProofs -dsimp only [go_sem, hg15, hg16, hg17, hg18, hg19, hg20, h14]
        with_reducible refine exP.mk _ (callQ.plain (by simp -implicitDefEqProofs -dsimp only [go_sem, hg15, hg16, hg17, hg18, hg19, hg20, h14]) (zeE (zbc (by simp -implicitDefEqProofs -dsimp only [go_sem, hg15, hg16, hg17, hg18, hg19, hg20, h14]) h10))) ?_
        try simp -implicitDefEqProofs -dsimp only [go_sem, hg15, hg16, hg17, hg18, hg19, hg20, h14]
        with_reducible refine exP.mk _ (callQ.plain (by simp -implicitDefEqProofs -dsimp only [go_sem, hg15, hg16, hg17, hg18, hg19, hg20, h14]) (zba (zbc (by simp -implicitDefEqProofs -dsimp only [go_sem, hg15, hg16, hg17, hg18, hg19, hg20, h14]) h12))) ?_
        try simp -implicitDefEqProofs -dsimp only [go_sem, hg15, hg16, hg17, hg18, hg19, hg20, h14]
       ·try simp only [Bool.not_not] at hg20
        try simp -implicitDefEqProofs -dsimp only [go_sem, hg15, hg16, hg17, hg18, hg19, hg20, h14]
      ·try simp only [Bool.not_not] at hg19
       try simp -implicitDefEqProofs -dsimp only [go_sem, hg15, hg16, hg17, hg18, hg19, h14]
     ·try simp only [Bool.not_not] at hg18
      try simp -implicitDefEqProofs -dsimp only [go_sem, hg15, hg16, hg17, hg18, h14]
    ·try simp only [Bool.not_not] at hg17
     try simp -implicitDefEqProofs -dsimp only [go_sem, hg15, hg16, hg17, h14]
   ·try simp only [Bool.not_not] at hg16
    try simp -implicitDefEqProofs -dsimp only [go_sem, hg15, hg16, h14]
  ·try simp only [Bool.not_not] at hg15
   try simp -implicitDefEqProofs -dsimp only [go_sem, hg15, h14]
 clear h14
 obtain rfl := zo hm
 exact W.ret (zaF.retW [] RO)
theorem zeb {p0 : zar} {r : Bool} (hm : zce p0 = some r) : zaH Tryz.prog 72 [.agg [zi p0.Kind, zi p0.Reg, zi p0.Sym, zi p0.N]] (.bool r) := by
 rw [zce] at hm
 refine zaH.of Tryz.func72 rfl Tryz.ntmps72 (Nat.le_of_ble_eq_true rfl) ?_
 refine W.sa 1 [1] ?_
 refine W.seq ?_
 refine W.sa 1 [1, 4] ?_
 refine W.block ?_
 refine W.sa 1 [1, 4, 5] ?_
 refine W.cn hm ?_ ?_ <;> clear hm <;> intro hb1 hm
 ·refine W.sq [] [(2, .bool (((decide (p0.Reg ≥ 0) && decide (p0.Reg <= 7)) && (p0.Sym == 0)) && (p0.N == 0)))] [] ?_
  obtain rfl := zo hm
  exact W.ret (zaF.retW [] RO)
 ·refine W.sa 1 [1, 4, 25] ?_
  refine W.cn hm ?_ ?_ <;> clear hm <;> intro hb2 hm
  ·refine W.sq [] [(2, .bool ((p0.Reg == 0) && (p0.Sym == 0)))] [] ?_
   obtain rfl := zo hm
   exact W.ret (zaF.retW [] RO)
  ·refine W.sa 1 [1, 4, 35] ?_
   refine W.cn hm ?_ ?_ <;> clear hm <;> intro hb3 hm
   ·refine W.sq [] [(2, .bool ((decide (p0.Sym ≥ 0) && decide (p0.N ≥ 0)) && (p0.Reg == 0)))] [] ?_
    obtain rfl := zo hm
    exact W.ret (zaF.retW [] RO)
   ·refine W.sa 1 [1, 50] ?_
    refine W.cn hm ?_ ?_ <;> clear hm <;> intro hb4 hm
    ·refine W.sq [] [(2, .bool (((decide (p0.Sym ≥ 0) && decide (p0.Reg ≥ 0)) && decide (p0.Reg <= 7)) && (p0.N == 0)))] [] ?_
     obtain rfl := zo hm
     exact W.ret (zaF.retW [] RO)
    ·refine W.skip ?_
     refine W.sa 0 [2] ?_
     obtain rfl := zo hm
     exact W.ret (zaF.retW [] RO)
theorem zcX {p0 : zar} {r : Bool} (hm : zbG p0 = some r) : zaH Tryz.prog 44 [.agg [zi p0.Kind, zi p0.Reg, zi p0.Sym, zi p0.N]] (.bool r) := by
 rw [zbG] at hm
 refine zaH.of Tryz.func44 rfl Tryz.ntmps44 (Nat.le_of_ble_eq_true rfl) ?_
 refine W.sa 1 [1] ?_
 refine W.sq [] [(2, .bool ((p0.Kind == 3) || (p0.Kind == 4)))] [] ?_
 obtain rfl := zo hm
 exact W.ret (zaF.retW [] RO)
theorem zeD {p0 : zar} {r : Bool} (hm : zcI p0 = some r) : zaH Tryz.prog 87 [.agg [zi p0.Kind, zi p0.Reg, zi p0.Sym, zi p0.N]] (.bool r) := by
 rw [zcI] at hm
 refine zaH.of Tryz.func87 rfl Tryz.ntmps87 (Nat.le_of_ble_eq_true rfl) ?_
 refine W.sa 1 [1] ?_
 refine W.sq [] [(2, .bool ((p0.Kind == 1) || (p0.Kind == 2)))] [] ?_
 obtain rfl := zo hm
 exact W.ret (zaF.retW [] RO)
theorem zel {p0 : Int} {r : Bool} (hm : zcn p0 = some r) : zaH Tryz.prog 88 [zi p0] (.bool r) := by
 rw [zcn] at hm
 refine zaH.of Tryz.func88 rfl Tryz.ntmps88 (Nat.le_of_ble_eq_true rfl) ?_
 refine W.sa 0 [0] ?_
 refine W.sq [] [(2, .bool (decide (p0 ≥ 2) && decide (p0 <= 6)))] [] ?_
 obtain rfl := zo hm
 exact W.ret (zaF.retW [] RO)
theorem zhi {p0 : zaj} {r : Bool} (hm : zdH p0 = some r) : zaH Tryz.prog 69 [.agg [zi p0.Op, .bool p0.Lock, zi p0.Cond, zi p0.A.Kind, zi p0.A.Reg, zi p0.A.Sym, zi p0.A.N, zi p0.B.Kind, zi p0.B.Reg, zi p0.B.Sym, zi p0.B.N, .str p0.To, .sl (p0.zLb.map eStr)]] (.bool r) := by
 rw [zdH] at hm
 refine zaH.of Tryz.func69 rfl Tryz.ntmps69 (Nat.le_of_ble_eq_true rfl) ?_
 refine W.sa 1 [1] ?_
 refine W.wa 3 [1] [.res, .res] ?_
 refine W.saL [.light, .light, .light, .light, .here 1, .here 2, .store, .store] [([], []), ([0], []), ([], []), ([0], []), ([1], [1]), ([2], [2]), ([1], [1]), ([2], [2])] 3 [1, 3, 4] zay ?_
 refine W.seq ?_
 refine W.sq [] [(1, .ptr 0 0 0), (3, .ptr 1 0 0), (4, .ptr 2 0 0), (16, .bool (decide (p0.Op < 1) || decide (p0.Op > 9)))] [.cells (zat p0) 0 63, .cells (zg7 p0.A) 0 61, .cells (zg7 p0.B) 0 61] ?_
 refine W.cn hm ?_ ?_ <;> clear hm <;> intro hb1 hm
 ·replace ⟨b2, h3, hm⟩ := zaK hm
  refine W.sq [] [(2, .bool b2)] [] ?_
  clear h3
  obtain rfl := zo hm
  exact W.ret (zaF.retW [] RO)
 ·refine W.skip ?_
  refine W.seq ?_
  replace ⟨v4, h5, hm⟩ := zaf hm
  replace ⟨v6, h7, hm⟩ := zaf hm
  refine W.sq [] [(1, .ptr 0 0 0), (3, .ptr 1 0 0), (4, .ptr 2 0 0), (37, .bool ((!v4) || (!v6)))] [.cells (zat p0) 0 63, .cells (zg7 p0.A) 0 61, .cells (zg7 p0.B) 0 61] ?_ (hrun := ?_)
  rotate_left
  ·try simp -implicitDefEqProofs -dsimp only [go_sem, hb1]
   with_reducible refine exP.mk _ (callQ.plain (by simp -implicitDefEqProofs -dsimp only [go_sem, hb1]) (by have hk := zeb h5; (try simp only [hb1] at hk); (try simp only [List.map_cons, List.map_nil, eStr, eInt] at hk); exact hk)) ?_
   try simp -implicitDefEqProofs -dsimp only [go_sem, hb1]
   refine zdg (fun hg8 => ?_) (fun hg8 => ?_)
   ·try simp only [Bool.not_not] at hg8
    try simp -implicitDefEqProofs -dsimp only [go_sem, hb1, hg8]
    with_reducible refine exP.mk _ (callQ.plain (by simp -implicitDefEqProofs -dsimp only [go_sem, hb1, hg8]) (by have hk := zeb (zbc (by simp -implicitDefEqProofs -dsimp only [go_sem, hb1, hg8]) h7); (try simp only [hb1] at hk); (try simp only [List.map_cons, List.map_nil, eStr, eInt] at hk); exact hk)) ?_
    try simp -implicitDefEqProofs -dsimp only [go_sem, hb1, hg8]
   ·try simp only [Bool.not_not] at hg8
    try simp -implicitDefEqProofs -dsimp only [go_sem, hb1, hg8]
  refine W.cn hm ?_ ?_ <;> clear hm <;> intro hb9 hm
  ·refine W.sa 0 [2] ?_
   obtain rfl := zo hm
   exact W.ret (zaF.retW [] RO)
  ·refine W.skip ?_
   refine W.seq ?_
   refine W.block ?_
   refine W.sa 3 [1, 3, 4, 38] ?_
   refine W.cn hm ?_ ?_ <;> clear hm <;> intro hb10 hm
   ·replace ⟨v11, h12, hm⟩ := zaf hm
    have kh12 := zcX h12
    try simp only [hb1, hb9, hb10] at kh12
    refine W.sq [] [(2, .bool ((v11 && (p0.B.Kind == 1)) && (!p0.Lock)))] [] ?_
    obtain rfl := zo hm
    exact W.ret (zaF.retW [] RO)
   ·refine W.sa 3 [1, 3, 4, 54] ?_
    refine W.cn hm ?_ ?_ <;> clear hm <;> intro hb13 hm
    ·replace ⟨v14, h15, hm⟩ := zaf hm
     have kh15 := zcX h15
     try simp only [hb1, hb9, hb10, hb13] at kh15
     refine W.sq [] [(2, .bool ((v14 && (p0.B.Kind == 1)) && p0.Lock))] [] ?_
     obtain rfl := zo hm
     exact W.ret (zaF.retW [] RO)
    ·refine W.sa 3 [1, 3, 4, 69] ?_
     refine W.cn hm ?_ ?_ <;> clear hm <;> intro hb16 hm
     ·replace ⟨v17, h18, hm⟩ := zaf hm
      replace ⟨v19, h20, hm⟩ := zaf hm
      have kh18 := zeD h18
      try simp only [hb1, hb9, hb10, hb13, hb16] at kh18
      have kh20 := fun hg => zcX (zbc hg h20)
      try simp only [hb1, hb9, hb10, hb13, hb16] at kh20
      refine W.sq [] [(2, .bool ((v17 || v19) && (!p0.Lock)))] [] ?_
      obtain rfl := zo hm
      exact W.ret (zaF.retW [] RO)
     ·refine W.skip ?_
      replace ⟨v21, h22, hm⟩ := zaf hm
      replace ⟨v23, h24, hm⟩ := zaf hm
      replace ⟨v25, h26, hm⟩ := zaf hm
      have kh22 := zcX h22
      try simp only [hb1, hb9, hb10, hb13, hb16] at kh22
      have kh24 := fun hg => zeD (zbc hg h24)
      try simp only [hb1, hb9, hb10, hb13, hb16] at kh24
      have kh26 := fun hg => zel (zbc hg h26)
      try simp only [hb1, hb9, hb10, hb13, hb16] at kh26
      refine W.sqh [] [(2, .bool ((v21 && v23) && ((!p0.Lock) || v25)))] ?_
      obtain rfl := zo hm
      exact W.ret (zaF.retW [] RO)
theorem zeH {p0 : Int} {r : Bool} (hm : zdf p0 = some r) : zaH Tryz.prog 43 [zi p0] (.bool r) := by
 rw [zdf] at hm
 refine zaH.of Tryz.func43 rfl Tryz.ntmps43 (Nat.le_of_ble_eq_true rfl) ?_
 refine W.sa 0 [0] ?_
 refine W.sq [] [(2, .bool ((p0 == 10) || (p0 == 11)))] [] ?_
 obtain rfl := zo hm
 exact W.ret (zaF.retW [] RO)
theorem zgV {p0 : zag} {p1 : ByteArray} {r : Int} (hm : zdr p0 p1 = some r) : zaH Tryz.prog 64 [.agg [.sl (p0.Ins.map zat)], .str p1] (zi r) := by
 rw [zdr] at hm
 refine zaH.of Tryz.func64 rfl Tryz.ntmps64 (Nat.le_of_ble_eq_true rfl) ?_
 refine W.sa 1 [1, 2] ?_
 refine W.seq ?_
 refine W.sa 1 [1, 2, 5] ?_
 refine W.block ?_
 replace ⟨r18, hlr18, hm⟩ := zaf hm
 refine W.mono (Q := fun e0 s0 h0 => match r18 with | .inl e => e0 = .exit 0 /\ ∃ w : Unit, s0 = [] /\ h0 = [] | .inr q => e0 = .ret /\ s0 = [(4, zi q)] /\ h0 = []) (W.loopM (step := zcp p0 p1) (a0 := 0) (fun (a : Int) (v : Unit) => ([(1, .str p1), (2, .ptr 0 0 0), (5, zi a)], [.cells (zaY p0) 0 59])) () hlr18 ⟨[], []⟩ RO ?_) ?_
 ·rintro i12 _ x hm hx
  rw [zcp] at hm
  show WK _ _ _ _ _ [(1, .str p1), (2, .ptr 0 0 0), (5, zi i12)] [.cells (zaY p0) 0 59]
  refine W.seq ?_
  refine W.sa 1 [1, 2, 5, 10] ?_
  refine W.cn hm ?_ ?_ <;> clear hm <;> intro hb19 hm
  ·refine W.skip ?_
   refine W.seq ?_
   refine W.block ?_
   replace ⟨h20, hm⟩ := zam hm
   replace ⟨v21, h22, hm⟩ := zaf hm
   have kh22 := zba h22
   try simp only [hb19] at kh22
   refine W.sa 1 [1, 2, 5, 21] ?_
   refine W.cn hm ?_ ?_ <;> clear hm <;> intro hb23 hm
   ·refine W.sa 0 [4] ?_
    obtain rfl := zo hm
    obtain rfl := hx _ rfl
    exact W.wk ⟨[], []⟩ [(4, zi i12)] [] (W.ret (show _ /\ _ from ⟨rfl, rfl, rfl⟩))
   ·refine W.skip ?_
    refine W.rg [] [(1, .str p1), (2, .ptr 0 0 0), (5, zi (zw (i12 + 1)))] [.cells (zaY p0) 0 59] ?_
    obtain rfl := zo hm
    exact ⟨(zw (i12 + 1)), (), ⟨[], []⟩, rfl, RO⟩
  ·obtain rfl := zo hm
   obtain rfl := hx _ rfl
   exact W.wk ⟨[], []⟩ [] [] (W.exit (show _ /\ _ from ⟨rfl, (), rfl, rfl⟩))
 ·intro e0 s0 h0 hq
  rcases r18 with er18 | qr18
  ·obtain ⟨rfl, _, rfl, rfl⟩ := hq
   replace hm := zcC hm
   show WK _ _ _ _ _ [] []
   refine W.sa 0 [4] ?_
   obtain rfl := zo hm
   exact W.ret (zaF.retW [] RO)
  ·obtain ⟨rfl, rfl, rfl⟩ := hq
   replace hm := zcB hm
   obtain rfl := zo hm
   exact zaF.retW [] RO
end Go.Proofs.YtocjejladeeckaaGreatDoor
