import Derived.Test.YtocjejladeeckaaGreatDoorVFacts
import Derived.Test.YtocjejladeeckaaGreatDoorPalC
import Derived.Test.YtocjejladeeckaaGreatDoorWB
import Derived.Test.YtocjejladeeckaaGreatDoorWNum
set_option linter.all false
set_option maxRecDepth 100000
set_option maxHeartbeats 4000000
namespace Go.Proofs.YtocjejladeeckaaGreatDoor
open Go.Vs
variable [TabU]
theorem zeF {p0 : ByteArray} {r : (List zax)} (hm : zcs p0 = some r) : zaL Tryz.prog 25 [.str p0] (.sl (r.map zag)) := by
 rw [zcs] at hm
 refine zaL.of Tryz.func25 rfl Tryz.ntmps25 (Nat.le_of_ble_eq_true rfl) ?_
 have e0 : argS 0 [.str p0] = [(0, .str p0)] := rfl
 rw [e0]
 refine W.sq [] [(0, .str p0)] [] ?_
 refine W.sqh [] [(0, .str p0), (3, .nils)] ?_
 refine W.sqh [] [(0, .str p0), (3, .nils), (4, zi 1), (5, zi 1)] ?_
 refine W.seq ?_
 refine W.sq [] [(0, .str p0), (3, .nils), (4, zi 1), (5, zi 1), (10, .ptr 0 0 0)] [.siter p0 0] ?_
 refine W.block ?_
 replace ⟨r40, hlr40, hm⟩ := zam hm
 refine W.mono (Q := fun e0 s0 h0 => e0 = .exit 0 /\ ∃ w : Nat, s0 = [(0, .str p0), (3, zM 1 w 6 r40)] /\ h0 = [.dead, .rows (r40.map zag) 6 w 73]) (W.loopM (step := za1 p0) (a0 := (1, 1, 0, [])) (fun (a : Int × Int × Nat × (List zax)) (v : Nat) => ([(0, .str p0), (3, zM 1 v 6 a.2.2.2), (4, zi a.1), (5, zi a.2.1), (10, .ptr 0 0 0)], [.siter p0 a.2.2.1, .rows (a.2.2.2.map zag) 6 v 73])) 0 hlr40 ⟨[], []⟩ RO ?_) ?_
 ·rintro ⟨i22, i23, n24, l25⟩ w26 x hm hx
  rw [za1] at hm
  show WK _ _ _ _ _ [(0, .str p0), (3, zM 1 w26 6 l25), (4, zi i22), (5, zi i23), (10, .ptr 0 0 0)] [.siter p0 n24, .rows (l25.map zag) 6 w26 73]
  by_cases hb41 : n24 < p0.size
  ·rw [if_pos hb41] at hm
   refine W.sq [] [(0, .str p0), (3, zM 1 w26 6 l25), (4, zi i22), (5, zi i23), (10, .ptr 0 0 0), (11, .tuple [.bool true, zi (n24 : Int), .int .i32 ((Utf8.decode p0 n24).1 : Int)]), (12, .bool true)] [.siter p0 (n24 + (Utf8.decode p0 n24).2), .rows (l25.map zag) 6 w26 73] ?_
   refine W.seq ?_
   refine W.cnd true (fun _ => ?_) (fun hx => by cases hx)
   refine W.skip ?_
   refine W.block ?_
   refine W.sq [] [(0, .str p0), (3, zM 1 w26 6 l25), (4, zi i22), (5, zi i23), (6, zi (n24 : Int)), (7, .int .i32 ((Utf8.decode p0 n24).1 : Int)), (10, .ptr 0 0 0)] [.siter p0 (n24 + (Utf8.decode p0 n24).2), .rows (l25.map zag) 6 w26 73] ?_
   refine W.cut (fun s h => ∃ (v : (List zax)) (w : Unit) (F : Gs), zbq p0 n24 i22 i23 v = some x /\ AT 0 F [(0, .str p0), (3, zM 1 w26 6 v), (4, zi i22), (5, zi i23), (6, zi (n24 : Int)), (7, .int .i32 ((Utf8.decode p0 n24).1 : Int)), (10, .ptr 0 0 0)] [.siter p0 (n24 + (Utf8.decode p0 n24).2), .rows (v.map zag) 6 w26 73] s h) ?_ ?_
   ·refine W.sq [] [(0, .str p0), (3, zM 1 w26 6 l25), (4, zi i22), (5, zi i23), (6, zi (n24 : Int)), (7, .int .i32 ((Utf8.decode p0 n24).1 : Int)), (10, .ptr 0 0 0), (17, .bool (decide ((l25.length : Int) > 0)))] [.siter p0 (n24 + (Utf8.decode p0 n24).2), .rows (l25.map zag) 6 w26 73] ?_
    refine W.cnd (decide ((l25.length : Int) > 0)) (fun hb47 => ?_) fun hb47 => ?_
    ·replace hm := zal hb47 hm
     replace ⟨h48, hm⟩ := zav hm
     replace ⟨h49, hm⟩ := zav hm
     replace ⟨l50, h51, hm⟩ := zaN hm
     refine W.rg [] [(0, .str p0), (3, zM 1 w26 6 l50), (4, zi i22), (5, zi i23), (6, zi (n24 : Int)), (7, .int .i32 ((Utf8.decode p0 n24).1 : Int)), (10, .ptr 0 0 0)] [.siter p0 (n24 + (Utf8.decode p0 n24).2), .rows (l50.map zag) 6 w26 73] ?_
     clear h51
     exact ⟨l50, (), ⟨[], []⟩, hm, RO⟩
    ·replace hm := zak hb47 hm
     refine W.skip ?_
     exact ⟨l25, (), ⟨[], []⟩, hm, RO⟩
   ·rintro s h ⟨l42, _, F, hm, hat⟩
    refine W.weak F hat ?_
    show WK _ _ _ _ _ [(0, .str p0), (3, zM 1 w26 6 l42), (4, zi i22), (5, zi i23), (6, zi (n24 : Int)), (7, .int .i32 ((Utf8.decode p0 n24).1 : Int)), (10, .ptr 0 0 0)] [.siter p0 (n24 + (Utf8.decode p0 n24).2), .rows (l42.map zag) 6 w26 73]
    rw [zbq] at hm
    replace ⟨h43, hm⟩ := zav hm
    replace ⟨l44, h45, hm⟩ := zaN hm
    refine W.sq [] [(0, .str p0), (3, .msl 1 (w26 + 1) 0 6 l44.length l44.length), (4, zi i22), (5, zi i23), (7, .int .i32 ((Utf8.decode p0 n24).1 : Int)), (10, .ptr 0 0 0)] [.siter p0 (n24 + (Utf8.decode p0 n24).2), .rows (l44.map zag) 6 (w26 + 1) 73] ?_
    clear h45
    refine W.sq [] [(0, .str p0), (3, .msl 1 (w26 + 1) 0 6 l44.length l44.length), (4, zi i22), (5, zi (zw (i23 + 1))), (7, .int .i32 ((Utf8.decode p0 n24).1 : Int)), (10, .ptr 0 0 0)] [.siter p0 (n24 + (Utf8.decode p0 n24).2), .rows (l44.map zag) 6 (w26 + 1) 73] ?_
    refine W.sqh [] [(0, .str p0), (3, .msl 1 (w26 + 1) 0 6 l44.length l44.length), (4, zi i22), (5, zi (zw (i23 + 1))), (10, .ptr 0 0 0), (44, .bool (((Utf8.decode p0 n24).1 : Int) == 10))] ?_
    refine W.cnd (((Utf8.decode p0 n24).1 : Int) == 10) (fun hb46 => ?_) fun hb46 => ?_
    ·replace hm := zal hb46 hm
     refine W.rg [] [(0, .str p0), (3, .msl 1 (w26 + 1) 0 6 l44.length l44.length), (4, zi (zw (i22 + 1))), (5, zi 1), (10, .ptr 0 0 0)] [.siter p0 (n24 + (Utf8.decode p0 n24).2), .rows (l44.map zag) 6 (w26 + 1) 73] ?_
     obtain rfl := zo hm
     exact ⟨((zw (i22 + 1)), 1, (n24 + (Utf8.decode p0 n24).2), l44), (w26 + 1), ⟨[], []⟩, rfl, RO⟩
    ·replace hm := zak hb46 hm
     refine W.skip ?_
     obtain rfl := zo hm
     exact ⟨(i22, (zw (i23 + 1)), (n24 + (Utf8.decode p0 n24).2), l44), (w26 + 1), ⟨[], []⟩, rfl, RO⟩
  ·rw [if_neg hb41] at hm
   refine W.sq [] [(0, .str p0), (3, zM 1 w26 6 l25), (4, zi i22), (5, zi i23), (10, .ptr 0 0 0), (11, .tuple [.bool false]), (12, .bool false)] [.siter p0 n24, .rows (l25.map zag) 6 w26 73] ?_
   refine W.seq ?_
   refine W.cnd false (fun hx => by cases hx) (fun _ => ?_)
   obtain rfl := zo hm
   obtain rfl := hx _ rfl
   exact W.wk ⟨[], []⟩ [(0, .str p0), (3, zM 1 w26 6 l25)] [.dead, .rows (l25.map zag) 6 w26 73] (W.exit (show _ /\ _ from ⟨rfl, w26, rfl, rfl⟩))
 ·rintro e0 s0 h0 ⟨rfl, w39, rfl, rfl⟩
  show WK _ _ _ _ _ [(0, .str p0), (3, zM 1 w39 6 r40)] [.dead, .rows (r40.map zag) 6 w39 73]
  refine W.cut (fun s h => ∃ (v : (List zax)) (w : Unit) (F : Gs), zcd v = some r /\ AT 0 F [(3, zM 1 w39 6 v)] [.dead, .rows (v.map zag) 6 w39 73] s h) ?_ ?_
  ·refine W.sq [] [(0, .str p0), (3, zM 1 w39 6 r40), (49, .bool (decide ((r40.length : Int) > 0)))] [.dead, .rows (r40.map zag) 6 w39 73] ?_
   refine W.cnd (decide ((r40.length : Int) > 0)) (fun hb83 => ?_) fun hb83 => ?_
   ·replace hm := zal hb83 hm
    replace ⟨h84, hm⟩ := zav hm
    replace ⟨h85, hm⟩ := zav hm
    replace ⟨l86, h87, hm⟩ := zaN hm
    refine W.rg [] [(3, zM 1 w39 6 l86)] [.dead, .rows (l86.map zag) 6 w39 73] ?_
    clear h87
    exact ⟨l86, (), ⟨[], []⟩, hm, RO⟩
   ·replace hm := zak hb83 hm
    refine W.skip ?_
    exact ⟨r40, (), ⟨[], []⟩, hm, RO⟩
  ·rintro s h ⟨l52, _, F, hm, hat⟩
   refine W.weak F hat ?_
   show WK _ _ _ _ _ [(3, zM 1 w39 6 l52)] [.dead, .rows (l52.map zag) 6 w39 73]
   rw [zcd] at hm
   refine W.seq ?_
   refine W.sqh [] [(3, zM 1 w39 6 l52), (8, zi 0)] ?_
   refine W.block ?_
   replace ⟨r76, hlr76, hm⟩ := zam hm
   refine W.mono (Q := fun e0 s0 h0 => e0 = .exit 2 /\ ∃ w : Unit, s0 = [(3, zM 1 w39 6 r76)] /\ h0 = [.dead, .rows (r76.map zag) 6 w39 73]) (W.loopM (step := zbp) (a0 := (0, l52)) (fun (a : Int × (List zax)) (v : Unit) => ([(3, zM 1 w39 6 a.2), (8, zi a.1)], [.dead, .rows (a.2.map zag) 6 w39 73])) () hlr76 ⟨[], []⟩ RO ?_) ?_
   ·rintro ⟨i67, l68⟩ _ x hm hx
    rw [zbp] at hm
    show WK _ _ _ _ _ [(3, zM 1 w39 6 l68), (8, zi i67)] [.dead, .rows (l68.map zag) 6 w39 73]
    refine W.seq ?_
    refine W.sqh [] [(3, zM 1 w39 6 l68), (8, zi i67), (69, .bool (decide (i67 < (l68.length : Int))))] ?_
    refine W.cnd (decide (i67 < (l68.length : Int))) (fun hb77 => ?_) fun hb77 => ?_
    ·replace hm := zal hb77 hm
     refine W.skip ?_
     refine W.seq ?_
     refine W.block ?_
     replace ⟨h78, hm⟩ := zav hm
     replace ⟨h79, hm⟩ := zav hm
     replace ⟨h80, hm⟩ := zav hm
     replace ⟨l81, h82, hm⟩ := zaN hm
     refine W.rg [] [(3, zM 1 w39 6 l81), (8, zi i67)] [.dead, .rows (l81.map zag) 6 w39 73] ?_
     clear h82
     refine W.rg [] [(3, zM 1 w39 6 l81), (8, zi (zw (i67 + 1)))] [.dead, .rows (l81.map zag) 6 w39 73] ?_
     obtain rfl := zo hm
     exact ⟨((zw (i67 + 1)), l81), (), ⟨[], []⟩, rfl, RO⟩
    ·replace hm := zak hb77 hm
     obtain rfl := zo hm
     obtain rfl := hx _ rfl
     exact W.wk ⟨[], []⟩ [(3, zM 1 w39 6 l68)] [.dead, .rows (l68.map zag) 6 w39 73] (W.exit (show _ /\ _ from ⟨rfl, (), rfl, rfl⟩))
   ·rintro e0 s0 h0 ⟨rfl, _, rfl, rfl⟩
    show WK _ _ _ _ _ [(3, zM 1 w39 6 r76)] [.dead, .rows (r76.map zag) 6 w39 73]
    refine W.sqh [] [(2, zM 1 w39 6 r76)] ?_
    obtain rfl := zo hm
    exact W.ret (zaI.retW [1] RO)
theorem ze0 {r : (List ByteArray)} (hm : zdp  = some r) : zaL Tryz.prog 84 [] (.sl (r.map eStr)) := by
 rw [zdp] at hm
 refine zaL.of Tryz.func84 rfl Tryz.ntmps84 (Nat.le_of_ble_eq_true rfl) ?_
 have e0 : argS 0 [] = [] := rfl
 rw [e0]
 refine W.sq [] [] [] ?_
 replace ⟨l1, h2, hm⟩ := zaN hm
 refine W.sqh [] [(0, .sl (l1.map eStr))] ?_
 clear h2
 obtain rfl := zo hm
 exact W.ret (zaI.retW [] RO)
theorem zbd {p0 : (List ByteArray)} {p1 : ByteArray} {r : Int} (hm : za0 p0 p1 = some r) : zaL Tryz.prog 62 [.sl (p0.map eStr), .str p1] (zi r) := by
 rw [za0] at hm
 refine zaL.of Tryz.func62 rfl Tryz.ntmps62 (Nat.le_of_ble_eq_true rfl) ?_
 have e0 : argS 0 [.sl (p0.map eStr), .str p1] = [(0, .sl (p0.map eStr)), (1, .str p1)] := rfl
 rw [e0]
 refine W.sq [] [(0, .sl (p0.map eStr)), (1, .str p1)] [] ?_
 refine W.seq ?_
 refine W.sqh [] [(0, .sl (p0.map eStr)), (1, .str p1), (5, zi 0)] ?_
 refine W.block ?_
 replace ⟨r13, hlr13, hm⟩ := zam hm
 refine W.mono (Q := fun e0 s0 h0 => match r13 with | .inl e => e0 = .exit 0 /\ ∃ w : Unit, s0 = [] /\ h0 = [] | .inr q => e0 = .ret /\ s0 = [(4, zi q)] /\ h0 = []) (W.loopM (step := zc9 p0 p1) (a0 := 0) (fun (a : Int) (v : Unit) => ([(0, .sl (p0.map eStr)), (1, .str p1), (5, zi a)], [])) () hlr13 ⟨[], []⟩ RO ?_) ?_
 ·rintro i9 _ x hm hx
  rw [zc9] at hm
  show WK _ _ _ _ _ [(0, .sl (p0.map eStr)), (1, .str p1), (5, zi i9)] []
  refine W.seq ?_
  refine W.sqh [] [(0, .sl (p0.map eStr)), (1, .str p1), (5, zi i9), (9, .bool (decide (i9 < (p0.length : Int))))] ?_
  refine W.cnd (decide (i9 < (p0.length : Int))) (fun hb14 => ?_) fun hb14 => ?_
  ·replace hm := zal hb14 hm
   refine W.skip ?_
   refine W.seq ?_
   refine W.block ?_
   replace ⟨h15, hm⟩ := zav hm
   refine W.sq [] [(0, .sl (p0.map eStr)), (1, .str p1), (5, zi i9), (17, .bool (decide ((rd p0 i9) = p1)))] [] ?_
   refine W.cnd (decide ((rd p0 i9) = p1)) (fun hb16 => ?_) fun hb16 => ?_
   ·replace hm := zal hb16 hm
    refine W.sqh [] [(4, zi i9)] ?_
    obtain rfl := zo hm
    obtain rfl := hx _ rfl
    exact W.wk ⟨[], []⟩ [(4, zi i9)] [] (W.ret (show _ /\ _ from ⟨rfl, rfl, rfl⟩))
   ·replace hm := zak hb16 hm
    refine W.skip ?_
    refine W.rg [] [(0, .sl (p0.map eStr)), (1, .str p1), (5, zi (zw (i9 + 1)))] [] ?_
    obtain rfl := zo hm
    exact ⟨(zw (i9 + 1)), (), ⟨[], []⟩, rfl, RO⟩
  ·replace hm := zak hb14 hm
   obtain rfl := zo hm
   obtain rfl := hx _ rfl
   exact W.wk ⟨[], []⟩ [] [] (W.exit (show _ /\ _ from ⟨rfl, (), rfl, rfl⟩))
 ·intro e0 s0 h0 hq
  rcases r13 with er13 | qr13
  ·obtain ⟨rfl, _, rfl, rfl⟩ := hq
   replace hm := zcC hm
   show WK _ _ _ _ _ [] []
   refine W.sqh [] [(4, zi (-1))] ?_
   obtain rfl := zo hm
   exact W.ret (zaI.retW [] RO)
  ·obtain ⟨rfl, rfl, rfl⟩ := hq
   replace hm := zcB hm
   obtain rfl := zo hm
   exact zaI.retW [] RO
theorem zfn {r : (List ByteArray)} (hm : zdI  = some r) : zaL Tryz.prog 71 [] (.sl (r.map eStr)) := by
 rw [zdI] at hm
 refine zaL.of Tryz.func71 rfl Tryz.ntmps71 (Nat.le_of_ble_eq_true rfl) ?_
 have e0 : argS 0 [] = [] := rfl
 rw [e0]
 refine W.sq [] [] [] ?_
 replace ⟨l1, h2, hm⟩ := zaN hm
 refine W.sqh [] [(0, .sl (l1.map eStr))] ?_
 clear h2
 obtain rfl := zo hm
 exact W.ret (zaI.retW [] RO)
theorem zeD {r : (List ByteArray)} (hm : zdc  = some r) : zaL Tryz.prog 70 [] (.sl (r.map eStr)) := by
 rw [zdc] at hm
 refine zaL.of Tryz.func70 rfl Tryz.ntmps70 (Nat.le_of_ble_eq_true rfl) ?_
 have e0 : argS 0 [] = [] := rfl
 rw [e0]
 refine W.sq [] [] [] ?_
 replace ⟨l1, h2, hm⟩ := zaN hm
 refine W.sqh [] [(0, .sl (l1.map eStr))] ?_
 clear h2
 obtain rfl := zo hm
 exact W.ret (zaI.retW [] RO)
theorem zeZ {p0 : ByteArray} {r : Bool} (hm : zcz p0 = some r) : zaL Tryz.prog 60 [.str p0] (.bool r) := by
 rw [zcz] at hm
 refine zaL.of Tryz.func60 rfl Tryz.ntmps60 (Nat.le_of_ble_eq_true rfl) ?_
 have e0 : argS 0 [.str p0] = [(0, .str p0)] := rfl
 rw [e0]
 refine W.sq [] [(0, .str p0)] [] ?_
 replace ⟨v1, h2, hm⟩ := zam hm
 replace ⟨v3, h4, hm⟩ := zam hm
 replace ⟨v5, h6, hm⟩ := zam hm
 replace ⟨v7, h8, hm⟩ := zam hm
 replace ⟨v9, h10, hm⟩ := zam hm
 replace ⟨v11, h12, hm⟩ := zam hm
 replace ⟨b13, h14, hm⟩ := zaN hm
 refine W.sqh [] [(2, .bool b13)] ?_ (hrun := ?_)
 rotate_left
 ·try simp -implicitDefEqProofs -dsimp only [go_sem, h14]
  refine zdi (fun hg15 => ?_) (fun hg15 => ?_)
  ·try simp only [Bool.not_not] at hg15
   try simp -implicitDefEqProofs -dsimp only [go_sem, hg15, h14]
   refine zdi (fun hg16 => ?_) (fun hg16 => ?_)
   ·try simp only [Bool.not_not] at hg16
    try simp -implicitDefEqProofs -dsimp only [go_sem, hg15, hg16, h14]
    refine zdi (fun hg17 => ?_) (fun hg17 => ?_)
    ·try simp only [Bool.not_not] at hg17
     try simp -implicitDefEqProofs -dsimp only [go_sem, hg15, hg16, hg17, h14]
     refine zdi (fun hg18 => ?_) (fun hg18 => ?_)
     ·try simp only [Bool.not_not] at hg18
      try simp -implicitDefEqProofs -dsimp only [go_sem, hg15, hg16, hg17, hg18, h14]
      with_reducible refine exP.mk _ (callQ.plain (by simp -implicitDefEqProofs -dsimp only [go_sem, hg15, hg16, hg17, hg18, h14]) (ze0 (zal (by simp -implicitDefEqProofs -dsimp only [go_sem, hg15, hg16, hg17, hg18, h14]) h2))) ?_
      try simp -implicitDefEqProofs -dsimp only [go_sem, hg15, hg16, hg17, hg18, h14]
      with_reducible refine exP.mk _ (callQ.plain (by simp -implicitDefEqProofs -dsimp only [go_sem, hg15, hg16, hg17, hg18, h14]) (zbd (zal (by simp -implicitDefEqProofs -dsimp only [go_sem, hg15, hg16, hg17, hg18, h14]) h4))) ?_
      try simp -implicitDefEqProofs -dsimp only [go_sem, hg15, hg16, hg17, hg18, h14]
      refine zdi (fun hg19 => ?_) (fun hg19 => ?_)
      ·try simp only [Bool.not_not] at hg19
       try simp -implicitDefEqProofs -dsimp only [go_sem, hg15, hg16, hg17, hg18, hg19, h14]
       with_reducible refine exP.mk _ (callQ.plain (by simp -implicitDefEqProofs -dsimp only [go_sem, hg15, hg16, hg17, hg18, hg19, h14]) (zfn (zal (by simp -implicitDefEqProofs -dsimp only [go_sem, hg15, hg16, hg17, hg18, hg19, h14]) h6))) ?_
       try simp -implicitDefEqProofs -dsimp only [go_sem, hg15, hg16, hg17, hg18, hg19, h14]
       with_reducible refine exP.mk _ (callQ.plain (by simp -implicitDefEqProofs -dsimp only [go_sem, hg15, hg16, hg17, hg18, hg19, h14]) (zbd (zal (by simp -implicitDefEqProofs -dsimp only [go_sem, hg15, hg16, hg17, hg18, hg19, h14]) h8))) ?_
       try simp -implicitDefEqProofs -dsimp only [go_sem, hg15, hg16, hg17, hg18, hg19, h14]
       refine zdi (fun hg20 => ?_) (fun hg20 => ?_)
       ·try simp only [Bool.not_not] at hg20
        try simp -implicitDefEqProofs -dsimp only [go_sem, hg15, hg16, hg17, hg18, hg19, hg20, h14]
        with_reducible refine exP.mk _ (callQ.plain (by simp -implicitDefEqProofs -dsimp only [go_sem, hg15, hg16, hg17, hg18, hg19, hg20, h14]) (zeD (zal (by simp -implicitDefEqProofs -dsimp only [go_sem, hg15, hg16, hg17, hg18, hg19, hg20, h14]) h10))) ?_
        try simp -implicitDefEqProofs -dsimp only [go_sem, hg15, hg16, hg17, hg18, hg19, hg20, h14]
        with_reducible refine exP.mk _ (callQ.plain (by simp -implicitDefEqProofs -dsimp only [go_sem, hg15, hg16, hg17, hg18, hg19, hg20, h14]) (zbd (zal (by simp -implicitDefEqProofs -dsimp only [go_sem, hg15, hg16, hg17, hg18, hg19, hg20, h14]) h12))) ?_
        try simp -implicitDefEqProofs -dsimp only [go_sem, hg15, hg16, hg17, hg18, hg19, hg20, h14]
       ·try simp only [Bool.not_not] at hg20
        try simp -implicitDefEqProofs -dsimp only [go_sem, hg15, hg16, hg17, hg18, hg19, hg20, h14]
      ·try simp only [Bool.not_not] at hg19
       try simp -implicitDefEqProofs -dsimp only [go_sem, hg15, hg16, hg17, hg18, hg19, h14]
     ·try simp only [Bool.not_not] at hg18
      try simp -implicitDefEqProofs -dsimp only [go_sem, hg15, hg16, hg17, hg18, h14]
    ·try simp only [Bool.not_not] at hg17
     try simp -implicitDefEqProofs -dsimp only [go_sem, hg15, hg16, hg17, h14]
   ·try simp only [Bool.not_not] at hg16
    try simp -implicitDefEqProofs -dsimp only [go_sem, hg15, hg16, h14]
  ·try simp only [Bool.not_not] at hg15
   try simp -implicitDefEqProofs -dsimp only [go_sem, hg15, h14]
 clear h14
 obtain rfl := zo hm
 exact W.ret (zaI.retW [] RO)
theorem zd9 {p0 : zau} {r : Bool} (hm : zcf p0 = some r) : zaL Tryz.prog 72 [.agg [zi p0.Kind, zi p0.Reg, zi p0.Sym, zi p0.N]] (.bool r) := by
 rw [zcf] at hm
 refine zaL.of Tryz.func72 rfl Tryz.ntmps72 (Nat.le_of_ble_eq_true rfl) ?_
 have e0 : argS 0 [.agg [zi p0.Kind, zi p0.Reg, zi p0.Sym, zi p0.N]] = [(0, .agg [zi p0.Kind, zi p0.Reg, zi p0.Sym, zi p0.N])] := rfl
 rw [e0]
 refine W.sq [] [(1, .ptr 0 0 0)] [.cells (za5 p0) 0 61] ?_
 refine W.seq ?_
 refine W.sqh [] [(1, .ptr 0 0 0), (4, zi p0.Kind)] ?_
 refine W.block ?_
 refine W.sq [] [(1, .ptr 0 0 0), (4, zi p0.Kind), (5, .bool (p0.Kind == 1))] [.cells (za5 p0) 0 61] ?_
 refine W.cnd (p0.Kind == 1) (fun hb1 => ?_) fun hb1 => ?_
 ·replace hm := zal hb1 hm
  refine W.sq [] [(2, .bool (((decide (p0.Reg ≥ 0) && decide (p0.Reg <= 7)) && (p0.Sym == 0)) && (p0.N == 0)))] [] ?_
  obtain rfl := zo hm
  exact W.ret (zaI.retW [] RO)
 ·replace hm := zak hb1 hm
  refine W.sq [] [(1, .ptr 0 0 0), (4, zi p0.Kind), (25, .bool (p0.Kind == 2))] [.cells (za5 p0) 0 61] ?_
  refine W.cnd (p0.Kind == 2) (fun hb2 => ?_) fun hb2 => ?_
  ·replace hm := zal hb2 hm
   refine W.sq [] [(2, .bool ((p0.Reg == 0) && (p0.Sym == 0)))] [] ?_
   obtain rfl := zo hm
   exact W.ret (zaI.retW [] RO)
  ·replace hm := zak hb2 hm
   refine W.sq [] [(1, .ptr 0 0 0), (4, zi p0.Kind), (35, .bool (p0.Kind == 3))] [.cells (za5 p0) 0 61] ?_
   refine W.cnd (p0.Kind == 3) (fun hb3 => ?_) fun hb3 => ?_
   ·replace hm := zal hb3 hm
    refine W.sq [] [(2, .bool ((decide (p0.Sym ≥ 0) && decide (p0.N ≥ 0)) && (p0.Reg == 0)))] [] ?_
    obtain rfl := zo hm
    exact W.ret (zaI.retW [] RO)
   ·replace hm := zak hb3 hm
    refine W.sq [] [(1, .ptr 0 0 0), (50, .bool (p0.Kind == 4))] [.cells (za5 p0) 0 61] ?_
    refine W.cnd (p0.Kind == 4) (fun hb4 => ?_) fun hb4 => ?_
    ·replace hm := zal hb4 hm
     refine W.sq [] [(2, .bool (((decide (p0.Sym ≥ 0) && decide (p0.Reg ≥ 0)) && decide (p0.Reg <= 7)) && (p0.N == 0)))] [] ?_
     obtain rfl := zo hm
     exact W.ret (zaI.retW [] RO)
    ·replace hm := zak hb4 hm
     refine W.skip ?_
     refine W.sqh [] [(2, .bool false)] ?_
     obtain rfl := zo hm
     exact W.ret (zaI.retW [] RO)
theorem zcW {p0 : zau} {r : Bool} (hm : zbJ p0 = some r) : zaL Tryz.prog 44 [.agg [zi p0.Kind, zi p0.Reg, zi p0.Sym, zi p0.N]] (.bool r) := by
 rw [zbJ] at hm
 refine zaL.of Tryz.func44 rfl Tryz.ntmps44 (Nat.le_of_ble_eq_true rfl) ?_
 have e0 : argS 0 [.agg [zi p0.Kind, zi p0.Reg, zi p0.Sym, zi p0.N]] = [(0, .agg [zi p0.Kind, zi p0.Reg, zi p0.Sym, zi p0.N])] := rfl
 rw [e0]
 refine W.sq [] [(1, .ptr 0 0 0)] [.cells (za5 p0) 0 61] ?_
 refine W.sq [] [(2, .bool ((p0.Kind == 3) || (p0.Kind == 4)))] [] ?_
 obtain rfl := zo hm
 exact W.ret (zaI.retW [] RO)
theorem zeC {p0 : zau} {r : Bool} (hm : zcJ p0 = some r) : zaL Tryz.prog 87 [.agg [zi p0.Kind, zi p0.Reg, zi p0.Sym, zi p0.N]] (.bool r) := by
 rw [zcJ] at hm
 refine zaL.of Tryz.func87 rfl Tryz.ntmps87 (Nat.le_of_ble_eq_true rfl) ?_
 have e0 : argS 0 [.agg [zi p0.Kind, zi p0.Reg, zi p0.Sym, zi p0.N]] = [(0, .agg [zi p0.Kind, zi p0.Reg, zi p0.Sym, zi p0.N])] := rfl
 rw [e0]
 refine W.sq [] [(1, .ptr 0 0 0)] [.cells (za5 p0) 0 61] ?_
 refine W.sq [] [(2, .bool ((p0.Kind == 1) || (p0.Kind == 2)))] [] ?_
 obtain rfl := zo hm
 exact W.ret (zaI.retW [] RO)
theorem zek {p0 : Int} {r : Bool} (hm : zco p0 = some r) : zaL Tryz.prog 88 [zi p0] (.bool r) := by
 rw [zco] at hm
 refine zaL.of Tryz.func88 rfl Tryz.ntmps88 (Nat.le_of_ble_eq_true rfl) ?_
 have e0 : argS 0 [zi p0] = [(0, zi p0)] := rfl
 rw [e0]
 refine W.sq [] [(0, zi p0)] [] ?_
 refine W.sqh [] [(2, .bool (decide (p0 ≥ 2) && decide (p0 <= 6)))] ?_
 obtain rfl := zo hm
 exact W.ret (zaI.retW [] RO)
theorem zhb {p0 : zap} {r : Bool} (hm : zdF p0 = some r) : zaL Tryz.prog 69 [.agg [zi p0.Op, .bool p0.Lock, zi p0.Cond, zi p0.A.Kind, zi p0.A.Reg, zi p0.A.Sym, zi p0.A.N, zi p0.B.Kind, zi p0.B.Reg, zi p0.B.Sym, zi p0.B.N, .str p0.To, .sl (p0.zLb.map eStr)]] (.bool r) := by
 rw [zdF] at hm
 refine zaL.of Tryz.func69 rfl Tryz.ntmps69 (Nat.le_of_ble_eq_true rfl) ?_
 have e0 : argS 0 [.agg [zi p0.Op, .bool p0.Lock, zi p0.Cond, zi p0.A.Kind, zi p0.A.Reg, zi p0.A.Sym, zi p0.A.N, zi p0.B.Kind, zi p0.B.Reg, zi p0.B.Sym, zi p0.B.N, .str p0.To, .sl (p0.zLb.map eStr)]] = [(0, .agg [zi p0.Op, .bool p0.Lock, zi p0.Cond, zi p0.A.Kind, zi p0.A.Reg, zi p0.A.Sym, zi p0.A.N, zi p0.B.Kind, zi p0.B.Reg, zi p0.B.Sym, zi p0.B.N, .str p0.To, .sl (p0.zLb.map eStr)])] := rfl
 rw [e0]
 refine W.sq [] [(1, .ptr 0 0 0)] [.cells (zan p0) 0 63] ?_
 refine W.wk ⟨[], [.res, .res]⟩ [(1, .ptr 0 0 0)] [.cells (zan p0) 0 63, .hole, .hole] ?_
 refine W.sqL [.light, .light, .light, .light, .here 1, .here 2, .store, .store] [([], []), ([0], []), ([], []), ([0], []), ([1], [1]), ([2], [2]), ([1], [1]), ([2], [2])] [] [(1, .ptr 0 0 0), (3, .ptr 1 0 0), (4, .ptr 2 0 0)] [.cells (zan p0) 0 63, .cells (za5 p0.A) 0 61, .cells (za5 p0.B) 0 61] zaC ?_
 refine W.seq ?_
 refine W.sqh [] [(1, .ptr 0 0 0), (3, .ptr 1 0 0), (4, .ptr 2 0 0), (16, .bool (decide (p0.Op < 1) || decide (p0.Op > 9)))] ?_
 refine W.cnd (decide (p0.Op < 1) || decide (p0.Op > 9)) (fun hb1 => ?_) fun hb1 => ?_
 ·replace hm := zal hb1 hm
  replace ⟨b2, h3, hm⟩ := zaN hm
  refine W.sq [] [(2, .bool b2)] [] ?_
  clear h3
  obtain rfl := zo hm
  exact W.ret (zaI.retW [] RO)
 ·replace hm := zak hb1 hm
  refine W.skip ?_
  refine W.seq ?_
  replace ⟨v4, h5, hm⟩ := zam hm
  replace ⟨v6, h7, hm⟩ := zam hm
  refine W.sq [] [(1, .ptr 0 0 0), (3, .ptr 1 0 0), (4, .ptr 2 0 0), (37, .bool ((!v4) || (!v6)))] [.cells (zan p0) 0 63, .cells (za5 p0.A) 0 61, .cells (za5 p0.B) 0 61] ?_ (hrun := ?_)
  rotate_left
  ·try simp -implicitDefEqProofs -dsimp only [go_sem, hb1]
   with_reducible refine exP.mk _ (callQ.plain (by simp -implicitDefEqProofs -dsimp only [go_sem, hb1]) (by have hk := zd9 h5; (try simp only [hb1] at hk); (try simp only [List.map_cons, List.map_nil, eStr, eInt] at hk); exact hk)) ?_
   try simp -implicitDefEqProofs -dsimp only [go_sem, hb1]
   refine zd1 (fun hg8 => ?_) (fun hg8 => ?_)
   ·try simp only [Bool.not_not] at hg8
    try simp -implicitDefEqProofs -dsimp only [go_sem, hb1, hg8]
    with_reducible refine exP.mk _ (callQ.plain (by simp -implicitDefEqProofs -dsimp only [go_sem, hb1, hg8]) (by have hk := zd9 (zal (by simp -implicitDefEqProofs -dsimp only [go_sem, hb1, hg8]) h7); (try simp only [hb1] at hk); (try simp only [List.map_cons, List.map_nil, eStr, eInt] at hk); exact hk)) ?_
    try simp -implicitDefEqProofs -dsimp only [go_sem, hb1, hg8]
   ·try simp only [Bool.not_not] at hg8
    try simp -implicitDefEqProofs -dsimp only [go_sem, hb1, hg8]
  refine W.cnd ((!v4) || (!v6)) (fun hb9 => ?_) fun hb9 => ?_
  ·replace hm := zal hb9 hm
   refine W.sq [] [(2, .bool false)] [] ?_
   obtain rfl := zo hm
   exact W.ret (zaI.retW [] RO)
  ·replace hm := zak hb9 hm
   refine W.skip ?_
   refine W.seq ?_
   refine W.block ?_
   refine W.sq [] [(1, .ptr 0 0 0), (3, .ptr 1 0 0), (4, .ptr 2 0 0), (38, .bool (p0.Op == 8))] [.cells (zan p0) 0 63, .cells (za5 p0.A) 0 61, .cells (za5 p0.B) 0 61] ?_
   refine W.cnd (p0.Op == 8) (fun hb10 => ?_) fun hb10 => ?_
   ·replace hm := zal hb10 hm
    replace ⟨v11, h12, hm⟩ := zam hm
    have kh12 := zcW h12
    try simp only [hb1, hb9, hb10] at kh12
    refine W.sq [] [(2, .bool ((v11 && (p0.B.Kind == 1)) && (!p0.Lock)))] [] ?_
    obtain rfl := zo hm
    exact W.ret (zaI.retW [] RO)
   ·replace hm := zak hb10 hm
    refine W.sq [] [(1, .ptr 0 0 0), (3, .ptr 1 0 0), (4, .ptr 2 0 0), (54, .bool (p0.Op == 9))] [.cells (zan p0) 0 63, .cells (za5 p0.A) 0 61, .cells (za5 p0.B) 0 61] ?_
    refine W.cnd (p0.Op == 9) (fun hb13 => ?_) fun hb13 => ?_
    ·replace hm := zal hb13 hm
     replace ⟨v14, h15, hm⟩ := zam hm
     have kh15 := zcW h15
     try simp only [hb1, hb9, hb10, hb13] at kh15
     refine W.sq [] [(2, .bool ((v14 && (p0.B.Kind == 1)) && p0.Lock))] [] ?_
     obtain rfl := zo hm
     exact W.ret (zaI.retW [] RO)
    ·replace hm := zak hb13 hm
     refine W.sq [] [(1, .ptr 0 0 0), (3, .ptr 1 0 0), (4, .ptr 2 0 0), (69, .bool (p0.A.Kind == 1))] [.cells (zan p0) 0 63, .cells (za5 p0.A) 0 61, .cells (za5 p0.B) 0 61] ?_
     refine W.cnd (p0.A.Kind == 1) (fun hb16 => ?_) fun hb16 => ?_
     ·replace hm := zal hb16 hm
      replace ⟨v17, h18, hm⟩ := zam hm
      replace ⟨v19, h20, hm⟩ := zam hm
      have kh18 := zeC h18
      try simp only [hb1, hb9, hb10, hb13, hb16] at kh18
      have kh20 := fun hg => zcW (zal hg h20)
      try simp only [hb1, hb9, hb10, hb13, hb16] at kh20
      refine W.sq [] [(2, .bool ((v17 || v19) && (!p0.Lock)))] [] ?_
      obtain rfl := zo hm
      exact W.ret (zaI.retW [] RO)
     ·replace hm := zak hb16 hm
      refine W.skip ?_
      replace ⟨v21, h22, hm⟩ := zam hm
      replace ⟨v23, h24, hm⟩ := zam hm
      replace ⟨v25, h26, hm⟩ := zam hm
      have kh22 := zcW h22
      try simp only [hb1, hb9, hb10, hb13, hb16] at kh22
      have kh24 := fun hg => zeC (zal hg h24)
      try simp only [hb1, hb9, hb10, hb13, hb16] at kh24
      have kh26 := fun hg => zek (zal hg h26)
      try simp only [hb1, hb9, hb10, hb13, hb16] at kh26
      refine W.sqh [] [(2, .bool ((v21 && v23) && ((!p0.Lock) || v25)))] ?_
      obtain rfl := zo hm
      exact W.ret (zaI.retW [] RO)
theorem zeG {p0 : Int} {r : Bool} (hm : zdd p0 = some r) : zaL Tryz.prog 43 [zi p0] (.bool r) := by
 rw [zdd] at hm
 refine zaL.of Tryz.func43 rfl Tryz.ntmps43 (Nat.le_of_ble_eq_true rfl) ?_
 have e0 : argS 0 [zi p0] = [(0, zi p0)] := rfl
 rw [e0]
 refine W.sq [] [(0, zi p0)] [] ?_
 refine W.sqh [] [(2, .bool ((p0 == 10) || (p0 == 11)))] ?_
 obtain rfl := zo hm
 exact W.ret (zaI.retW [] RO)
theorem zgP {p0 : zai} {p1 : ByteArray} {r : Int} (hm : zdq p0 p1 = some r) : zaL Tryz.prog 64 [.agg [.sl (p0.Ins.map zan)], .str p1] (zi r) := by
 rw [zdq] at hm
 refine zaL.of Tryz.func64 rfl Tryz.ntmps64 (Nat.le_of_ble_eq_true rfl) ?_
 have e0 : argS 0 [.agg [.sl (p0.Ins.map zan)], .str p1] = [(0, .agg [.sl (p0.Ins.map zan)]), (1, .str p1)] := rfl
 rw [e0]
 refine W.sq [] [(1, .str p1), (2, .ptr 0 0 0)] [.cells (zaT p0) 0 59] ?_
 refine W.seq ?_
 refine W.sqh [] [(1, .str p1), (2, .ptr 0 0 0), (5, zi 0)] ?_
 refine W.block ?_
 replace ⟨r18, hlr18, hm⟩ := zam hm
 refine W.mono (Q := fun e0 s0 h0 => match r18 with | .inl e => e0 = .exit 0 /\ ∃ w : Unit, s0 = [] /\ h0 = [] | .inr q => e0 = .ret /\ s0 = [(4, zi q)] /\ h0 = []) (W.loopM (step := zcq p0 p1) (a0 := 0) (fun (a : Int) (v : Unit) => ([(1, .str p1), (2, .ptr 0 0 0), (5, zi a)], [.cells (zaT p0) 0 59])) () hlr18 ⟨[], []⟩ RO ?_) ?_
 ·rintro i12 _ x hm hx
  rw [zcq] at hm
  show WK _ _ _ _ _ [(1, .str p1), (2, .ptr 0 0 0), (5, zi i12)] [.cells (zaT p0) 0 59]
  refine W.seq ?_
  refine W.sqh [] [(1, .str p1), (2, .ptr 0 0 0), (5, zi i12), (10, .bool (decide (i12 < (p0.Ins.length : Int))))] ?_
  refine W.cnd (decide (i12 < (p0.Ins.length : Int))) (fun hb19 => ?_) fun hb19 => ?_
  ·replace hm := zal hb19 hm
   refine W.skip ?_
   refine W.seq ?_
   refine W.block ?_
   replace ⟨h20, hm⟩ := zav hm
   replace ⟨v21, h22, hm⟩ := zam hm
   have kh22 := zbd h22
   try simp only [hb19] at kh22
   refine W.sq [] [(1, .str p1), (2, .ptr 0 0 0), (5, zi i12), (21, .bool (decide (v21 ≥ 0)))] [.cells (zaT p0) 0 59] ?_
   refine W.cnd (decide (v21 ≥ 0)) (fun hb23 => ?_) fun hb23 => ?_
   ·replace hm := zal hb23 hm
    refine W.sq [] [(4, zi i12)] [] ?_
    obtain rfl := zo hm
    obtain rfl := hx _ rfl
    exact W.wk ⟨[], []⟩ [(4, zi i12)] [] (W.ret (show _ /\ _ from ⟨rfl, rfl, rfl⟩))
   ·replace hm := zak hb23 hm
    refine W.skip ?_
    refine W.rg [] [(1, .str p1), (2, .ptr 0 0 0), (5, zi (zw (i12 + 1)))] [.cells (zaT p0) 0 59] ?_
    obtain rfl := zo hm
    exact ⟨(zw (i12 + 1)), (), ⟨[], []⟩, rfl, RO⟩
  ·replace hm := zak hb19 hm
   obtain rfl := zo hm
   obtain rfl := hx _ rfl
   exact W.wk ⟨[], []⟩ [] [] (W.exit (show _ /\ _ from ⟨rfl, (), rfl, rfl⟩))
 ·intro e0 s0 h0 hq
  rcases r18 with er18 | qr18
  ·obtain ⟨rfl, _, rfl, rfl⟩ := hq
   replace hm := zcC hm
   show WK _ _ _ _ _ [] []
   refine W.sqh [] [(4, zi (-1))] ?_
   obtain rfl := zo hm
   exact W.ret (zaI.retW [] RO)
  ·obtain ⟨rfl, rfl, rfl⟩ := hq
   replace hm := zcB hm
   obtain rfl := zo hm
   exact zaI.retW [] RO
end Go.Proofs.YtocjejladeeckaaGreatDoor
