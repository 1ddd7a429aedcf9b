import Derived.Test.YtocjejladeeckaaGreatDoorVFacts
import Derived.Test.YtocjejladeeckaaGreatDoorPalB
import Derived.Test.YtocjejladeeckaaGreatDoorWA
import Derived.Test.YtocjejladeeckaaGreatDoorWUtf
set_option linter.all false
set_option maxRecDepth 100000
set_option maxHeartbeats 4000000
namespace Go.Proofs.YtocjejladeeckaaGreatDoor
open Go.Vs
variable [TabU]
theorem zgt {p0 : ByteArray} {r : (List zaw)} (hm : zef p0 = some r) : zaL Tryz.prog 49 [.str p0] (.sl (r.map zar)) := by
 rw [zef] at hm
 refine zaL.of Tryz.func49 rfl Tryz.ntmps49 (Nat.le_of_ble_eq_true rfl) ?_
 have e0 : argS 0 [.str p0] = [(0, .str p0)] := rfl
 rw [e0]
 refine W.sq [] [(0, .str p0)] [] ?_
 refine W.sqh [] [(0, .str p0), (3, .nils)] ?_
 refine W.sqh [] [(0, .str p0), (3, .nils), (4, zi 1), (5, zi 1)] ?_
 refine W.seq ?_
 refine W.sq [] [(0, .str p0), (3, .nils), (4, zi 1), (5, zi 1), (10, .ptr 0 0 0)] [.siter p0 0] ?_
 refine W.block ?_
 replace ⟨r56, hlr56, hm⟩ := zam hm
 refine W.mono (Q := fun e0 s0 h0 => e0 = .exit 0 /\ ∃ w : Nat, s0 = [(3, zM 2 w 6 r56)] /\ h0 = [.dead, .dead, .rows (r56.map zar) 6 w 101]) (W.loopM (step := zcw p0) (a0 := (1, 1, 0, [])) (fun (a : Int × Int × Nat × (List zaw)) (v : Nat) => ([(0, .str p0), (3, zM 2 v 6 a.2.2.2), (4, zi a.1), (5, zi a.2.1), (10, .ptr 0 0 0)], [.siter p0 a.2.2.1, .dead, .rows (a.2.2.2.map zar) 6 v 101])) 0 hlr56 ⟨[], []⟩ RO ?_) ?_
 ·rintro ⟨i35, i36, n37, l38⟩ w39 x hm hx
  rw [zcw] at hm
  show WK _ _ _ _ _ [(0, .str p0), (3, zM 2 w39 6 l38), (4, zi i35), (5, zi i36), (10, .ptr 0 0 0)] [.siter p0 n37, .dead, .rows (l38.map zar) 6 w39 101]
  by_cases hb57 : n37 < p0.size
  ·rw [if_pos hb57] at hm
   refine W.sq [] [(0, .str p0), (3, zM 2 w39 6 l38), (4, zi i35), (5, zi i36), (10, .ptr 0 0 0), (11, .tuple [.bool true, zi (n37 : Int), .int .i32 ((Utf8.decode p0 n37).1 : Int)]), (12, .bool true)] [.siter p0 (n37 + (Utf8.decode p0 n37).2), .dead, .rows (l38.map zar) 6 w39 101] ?_
   refine W.seq ?_
   refine W.cnd true (fun _ => ?_) (fun hx => by cases hx)
   refine W.skip ?_
   refine W.block ?_
   refine W.sq [] [(0, .str p0), (3, zM 2 w39 6 l38), (4, zi i35), (5, zi i36), (6, zi (n37 : Int)), (7, .int .i32 ((Utf8.decode p0 n37).1 : Int)), (10, .ptr 0 0 0)] [.siter p0 (n37 + (Utf8.decode p0 n37).2), .dead, .rows (l38.map zar) 6 w39 101] ?_
   refine W.sq [] [(0, .str p0), (3, zM 2 w39 6 l38), (4, zi i35), (5, zi i36), (6, zi (n37 : Int)), (7, .int .i32 ((Utf8.decode p0 n37).1 : Int)), (8, .ptr 3 0 0), (10, .ptr 0 0 0)] [.siter p0 (n37 + (Utf8.decode p0 n37).2), .dead, .rows (l38.map zar) 6 w39 101, .cells [.int .i32 ((Utf8.decode p0 n37).1 : Int), zi (n37 : Int), zi 1, zi i35, zi i36, .bool false] 0 101] ?_
   refine W.cut (fun s h => ∃ (v : Int × Bool) (w : Unit) (F : Gs), zdl l38 p0 n37 i35 i36 v.1 v.2 = some x /\ AT 0 F [(0, .str p0), (3, zM 2 w39 6 l38), (4, zi i35), (5, zi i36), (7, .int .i32 ((Utf8.decode p0 n37).1 : Int)), (8, .ptr 3 0 0), (10, .ptr 0 0 0)] [.siter p0 (n37 + (Utf8.decode p0 n37).2), .dead, .rows (l38.map zar) 6 w39 101, .cells [.int .i32 ((Utf8.decode p0 n37).1 : Int), zi (n37 : Int), zi v.1, zi i35, zi i36, .bool v.2] 0 101] s h) ?_ ?_
   ·refine W.sq [] [(0, .str p0), (3, zM 2 w39 6 l38), (4, zi i35), (5, zi i36), (6, zi (n37 : Int)), (7, .int .i32 ((Utf8.decode p0 n37).1 : Int)), (8, .ptr 3 0 0), (10, .ptr 0 0 0), (21, .bool (((Utf8.decode p0 n37).1 : Int) == 65533))] [.siter p0 (n37 + (Utf8.decode p0 n37).2), .dead, .rows (l38.map zar) 6 w39 101, .cells [.int .i32 ((Utf8.decode p0 n37).1 : Int), zi (n37 : Int), zi 1, zi i35, zi i36, .bool false] 0 101] ?_
    refine W.cnd (((Utf8.decode p0 n37).1 : Int) == 65533) (fun hb65 => ?_) fun hb65 => ?_
    ·replace hm := zal hb65 hm
     replace ⟨h66, hm⟩ := zav hm
     replace ⟨v67, h68, hm⟩ := zam hm
     have kh68 := zdX h68
     try simp only [hb57, hb65] at kh68
     refine W.sq [] [(0, .str p0), (3, zM 2 w39 6 l38), (4, zi i35), (5, zi i36), (7, .int .i32 ((Utf8.decode p0 n37).1 : Int)), (8, .ptr 3 0 0), (10, .ptr 0 0 0)] [.siter p0 (n37 + (Utf8.decode p0 n37).2), .dead, .rows (l38.map zar) 6 w39 101, .cells [.int .i32 ((Utf8.decode p0 n37).1 : Int), zi (n37 : Int), zi v67.2, zi i35, zi i36, .bool false] 0 101] ?_
     refine W.rg [] [(0, .str p0), (3, zM 2 w39 6 l38), (4, zi i35), (5, zi i36), (7, .int .i32 ((Utf8.decode p0 n37).1 : Int)), (8, .ptr 3 0 0), (10, .ptr 0 0 0)] [.siter p0 (n37 + (Utf8.decode p0 n37).2), .dead, .rows (l38.map zar) 6 w39 101, .cells [.int .i32 ((Utf8.decode p0 n37).1 : Int), zi (n37 : Int), zi v67.2, zi i35, zi i36, .bool (v67.2 == 1)] 0 101] ?_
     exact ⟨(v67.2, (v67.2 == 1)), (), ⟨[], []⟩, hm, RO⟩
    ·replace hm := zak hb65 hm
     replace ⟨v69, h70, hm⟩ := zam hm
     have kh70 := zfw h70
     try simp only [hb57, hb65] at kh70
     refine W.rg [] [(0, .str p0), (3, zM 2 w39 6 l38), (4, zi i35), (5, zi i36), (7, .int .i32 ((Utf8.decode p0 n37).1 : Int)), (8, .ptr 3 0 0), (10, .ptr 0 0 0)] [.siter p0 (n37 + (Utf8.decode p0 n37).2), .dead, .rows (l38.map zar) 6 w39 101, .cells [.int .i32 ((Utf8.decode p0 n37).1 : Int), zi (n37 : Int), zi v69, zi i35, zi i36, .bool false] 0 101] ?_
     exact ⟨(v69, false), (), ⟨[], []⟩, hm, RO⟩
   ·rintro s h ⟨⟨i58, b59⟩, _, F, hm, hat⟩
    refine W.weak F hat ?_
    show WK _ _ _ _ _ [(0, .str p0), (3, zM 2 w39 6 l38), (4, zi i35), (5, zi i36), (7, .int .i32 ((Utf8.decode p0 n37).1 : Int)), (8, .ptr 3 0 0), (10, .ptr 0 0 0)] [.siter p0 (n37 + (Utf8.decode p0 n37).2), .dead, .rows (l38.map zar) 6 w39 101, .cells [.int .i32 ((Utf8.decode p0 n37).1 : Int), zi (n37 : Int), zi i58, zi i35, zi i36, .bool b59] 0 101]
    rw [zdl] at hm
    replace ⟨h60, hm⟩ := zav hm
    replace ⟨l61, h62, hm⟩ := zaN hm
    refine W.sq [] [(0, .str p0), (3, .msl 2 (w39 + 1) 0 6 l61.length l61.length), (4, zi i35), (5, zi i36), (7, .int .i32 ((Utf8.decode p0 n37).1 : Int)), (10, .ptr 0 0 0)] [.siter p0 (n37 + (Utf8.decode p0 n37).2), .dead, .rows (l61.map zar) 6 (w39 + 1) 101] ?_
    clear h62
    replace ⟨v63, h64, hm⟩ := zam hm
    have kh64 := zgZ h64
    try simp only [hb57] at kh64
    refine W.rg [] [(0, .str p0), (3, .msl 2 (w39 + 1) 0 6 l61.length l61.length), (4, zi v63.1), (5, zi v63.2), (10, .ptr 0 0 0)] [.siter p0 (n37 + (Utf8.decode p0 n37).2), .dead, .rows (l61.map zar) 6 (w39 + 1) 101] ?_
    obtain rfl := zo hm
    exact ⟨(v63.1, v63.2, (n37 + (Utf8.decode p0 n37).2), l61), (w39 + 1), ⟨[], []⟩, rfl, RO⟩
  ·rw [if_neg hb57] at hm
   refine W.sq [] [(0, .str p0), (3, zM 2 w39 6 l38), (4, zi i35), (5, zi i36), (10, .ptr 0 0 0), (11, .tuple [.bool false]), (12, .bool false)] [.siter p0 n37, .dead, .rows (l38.map zar) 6 w39 101] ?_
   refine W.seq ?_
   refine W.cnd false (fun hx => by cases hx) (fun _ => ?_)
   obtain rfl := zo hm
   obtain rfl := hx _ rfl
   exact W.wk ⟨[], []⟩ [(3, zM 2 w39 6 l38)] [.dead, .dead, .rows (l38.map zar) 6 w39 101] (W.exit (show _ /\ _ from ⟨rfl, w39, rfl, rfl⟩))
 ·rintro e0 s0 h0 ⟨rfl, w55, rfl, rfl⟩
  show WK _ _ _ _ _ [(3, zM 2 w55 6 r56)] [.dead, .dead, .rows (r56.map zar) 6 w55 101]
  refine W.sqh [] [(2, zM 2 w55 6 r56)] ?_
  obtain rfl := zo hm
  exact W.ret (zaI.retW [2] RO)
theorem zjq {r : (List ByteArray)} (hm : zgc  = some r) : zaL Tryz.prog 100 [] (.sl (r.map eStr)) := by
 rw [zgc] at hm
 refine zaL.of Tryz.func100 rfl Tryz.ntmps100 (Nat.le_of_ble_eq_true rfl) ?_
 have e0 : argS 0 [] = [] := rfl
 rw [e0]
 refine W.sq [] [] [] ?_
 replace ⟨l1, h2, hm⟩ := zaN hm
 refine W.sqh [] [(0, .sl (l1.map eStr))] ?_
 clear h2
 obtain rfl := zo hm
 exact W.ret (zaI.retW [] RO)
theorem zel {p0 : ByteArray} {r : Int × Bool} (hm : zd2 p0 = some r) : zaL Tryz.prog 92 [.str p0] (.tuple [zi r.1, .bool r.2]) := by
 rw [zd2] at hm
 refine zaL.of Tryz.func92 rfl Tryz.ntmps92 (Nat.le_of_ble_eq_true rfl) ?_
 have e0 : argS 0 [.str p0] = [(0, .str p0)] := rfl
 rw [e0]
 refine W.sq [] [(0, .str p0)] [] ?_
 refine W.seq ?_
 replace ⟨v1, h2, hm⟩ := zam hm
 have kh2 := zjq h2
 refine W.sqh [] [(0, .str p0), (6, .sl (v1.map eStr)), (7, zi (v1.length : Int)), (8, zi 0)] ?_
 refine W.block ?_
 replace ⟨r14, hlr14, hm⟩ := zam hm
 refine W.mono (Q := fun e0 s0 h0 => match r14 with | .inl e => e0 = .exit 0 /\ ∃ w : Unit, s0 = [] /\ h0 = [] | .inr q => e0 = .ret /\ s0 = [(2, zi q.1), (3, .bool q.2)] /\ h0 = []) (W.loopM (step := ze2 v1 p0) (a0 := 0) (fun (a : Int) (v : Unit) => ([(0, .str p0), (6, .sl (v1.map eStr)), (7, zi (v1.length : Int)), (8, zi a)], [])) () hlr14 ⟨[], []⟩ RO ?_) ?_
 ·rintro i10 _ x hm hx
  rw [ze2] at hm
  show WK _ _ _ _ _ [(0, .str p0), (6, .sl (v1.map eStr)), (7, zi (v1.length : Int)), (8, zi i10)] []
  refine W.sqh [] [(0, .str p0), (6, .sl (v1.map eStr)), (7, zi (v1.length : Int)), (8, zi i10), (9, .bool (decide (i10 < (v1.length : Int))))] ?_
  refine W.seq ?_
  refine W.cnd (decide (i10 < (v1.length : Int))) (fun hb15 => ?_) fun hb15 => ?_
  ·replace hm := zal hb15 hm
   refine W.skip ?_
   refine W.seq ?_
   refine W.block ?_
   replace ⟨h16, hm⟩ := zav hm
   refine W.sq [] [(0, .str p0), (4, zi i10), (5, .str (rd v1 i10)), (6, .sl (v1.map eStr)), (7, zi (v1.length : Int)), (8, zi i10)] [] ?_
   refine W.sqh [] [(0, .str p0), (4, zi i10), (6, .sl (v1.map eStr)), (7, zi (v1.length : Int)), (8, zi i10), (15, .bool (decide ((rd v1 i10) = p0)))] ?_
   refine W.cnd (decide ((rd v1 i10) = p0)) (fun hb17 => ?_) fun hb17 => ?_
   ·replace hm := zal hb17 hm
    refine W.sqh [] [(2, zi i10), (3, .bool true)] ?_
    obtain rfl := zo hm
    obtain rfl := hx _ rfl
    exact W.wk ⟨[], []⟩ [(2, zi i10), (3, .bool true)] [] (W.ret (show _ /\ _ from ⟨rfl, rfl, rfl⟩))
   ·replace hm := zak hb17 hm
    refine W.skip ?_
    refine W.rg [] [(0, .str p0), (6, .sl (v1.map eStr)), (7, zi (v1.length : Int)), (8, zi (zw (i10 + 1)))] [] ?_
    obtain rfl := zo hm
    exact ⟨(zw (i10 + 1)), (), ⟨[], []⟩, rfl, RO⟩
  ·replace hm := zak hb15 hm
   obtain rfl := zo hm
   obtain rfl := hx _ rfl
   exact W.wk ⟨[], []⟩ [] [] (W.exit (show _ /\ _ from ⟨rfl, (), rfl, rfl⟩))
 ·intro e0 s0 h0 hq
  rcases r14 with er14 | qr14
  ·obtain ⟨rfl, _, rfl, rfl⟩ := hq
   replace hm := zcC hm
   show WK _ _ _ _ _ [] []
   refine W.sqh [] [(2, zi 0), (3, .bool false)] ?_
   obtain rfl := zo hm
   exact W.ret (zaI.retW [] RO)
  ·obtain ⟨rfl, rfl, rfl⟩ := hq
   replace hm := zcB hm
   obtain rfl := zo hm
   exact zaI.retW [] RO
theorem zj8 {r : (List ByteArray)} (hm : zgT  = some r) : zaL Tryz.prog 101 [] (.sl (r.map eStr)) := by
 rw [zgT] at hm
 refine zaL.of Tryz.func101 rfl Tryz.ntmps101 (Nat.le_of_ble_eq_true rfl) ?_
 have e0 : argS 0 [] = [] := rfl
 rw [e0]
 refine W.sq [] [] [] ?_
 replace ⟨l1, h2, hm⟩ := zaN hm
 refine W.sqh [] [(0, .sl (l1.map eStr))] ?_
 clear h2
 obtain rfl := zo hm
 exact W.ret (zaI.retW [] RO)
theorem ziG {r : (List ByteArray)} (hm : zfD  = some r) : zaL Tryz.prog 102 [] (.sl (r.map eStr)) := by
 rw [zfD] at hm
 refine zaL.of Tryz.func102 rfl Tryz.ntmps102 (Nat.le_of_ble_eq_true rfl) ?_
 have e0 : argS 0 [] = [] := rfl
 rw [e0]
 refine W.sq [] [] [] ?_
 replace ⟨l1, h2, hm⟩ := zaN hm
 refine W.sqh [] [(0, .sl (l1.map eStr))] ?_
 clear h2
 obtain rfl := zo hm
 exact W.ret (zaI.retW [] RO)
theorem zif {p0 : ByteArray} {r : Int × Int × Bool} (hm : ze3 p0 = some r) : zaL Tryz.prog 93 [.str p0] (.tuple [zi r.1, zi r.2.1, .bool r.2.2]) := by
 rw [ze3] at hm
 refine zaL.of Tryz.func93 rfl Tryz.ntmps93 (Nat.le_of_ble_eq_true rfl) ?_
 have e0 : argS 0 [.str p0] = [(0, .str p0)] := rfl
 rw [e0]
 refine W.sq [] [(0, .str p0)] [] ?_
 refine W.seq ?_
 refine W.sqh [] [(0, .str p0), (10, .bool (decide (p0 = (⟨#[]⟩ : ByteArray))))] ?_
 refine W.cnd (decide (p0 = (⟨#[]⟩ : ByteArray))) (fun hb1 => ?_) fun hb1 => ?_
 ·replace hm := zal hb1 hm
  refine W.sqh [] [(2, zi 0), (3, zi 0), (4, .bool false)] ?_
  obtain rfl := zo hm
  exact W.ret (zaI.retW [] RO)
 ·replace hm := zak hb1 hm
  refine W.skip ?_
  refine W.seq ?_
  replace ⟨v2, h3, hm⟩ := zam hm
  have kh3 := zj8 h3
  try simp only [hb1] at kh3
  refine W.sqh [] [(0, .str p0), (11, .sl (v2.map eStr)), (12, zi (v2.length : Int)), (13, zi 0)] ?_
  refine W.block ?_
  replace ⟨r15, hlr15, hm⟩ := zam hm
  refine W.mono (Q := fun e0 s0 h0 => match r15 with | .inl e => e0 = .exit 0 /\ ∃ w : Unit, s0 = [(0, .str p0)] /\ h0 = [] | .inr q => e0 = .ret /\ s0 = [(2, zi q.1), (3, zi q.2.1), (4, .bool q.2.2)] /\ h0 = []) (W.loopM (step := zfF v2 p0) (a0 := 0) (fun (a : Int) (v : Unit) => ([(0, .str p0), (11, .sl (v2.map eStr)), (12, zi (v2.length : Int)), (13, zi a)], [])) () hlr15 ⟨[], []⟩ RO ?_) ?_
  ·rintro i11 _ x hm hx
   rw [zfF] at hm
   show WK _ _ _ _ _ [(0, .str p0), (11, .sl (v2.map eStr)), (12, zi (v2.length : Int)), (13, zi i11)] []
   refine W.sqh [] [(0, .str p0), (11, .sl (v2.map eStr)), (12, zi (v2.length : Int)), (13, zi i11), (14, .bool (decide (i11 < (v2.length : Int))))] ?_
   refine W.seq ?_
   refine W.cnd (decide (i11 < (v2.length : Int))) (fun hb16 => ?_) fun hb16 => ?_
   ·replace hm := zal hb16 hm
    refine W.skip ?_
    refine W.seq ?_
    refine W.block ?_
    replace ⟨h17, hm⟩ := zav hm
    refine W.sq [] [(0, .str p0), (5, zi i11), (6, .str (rd v2 i11)), (11, .sl (v2.map eStr)), (12, zi (v2.length : Int)), (13, zi i11)] [] ?_
    refine W.sqh [] [(0, .str p0), (5, zi i11), (11, .sl (v2.map eStr)), (12, zi (v2.length : Int)), (13, zi i11), (20, .bool (decide ((rd v2 i11) = p0)))] ?_
    refine W.cnd (decide ((rd v2 i11) = p0)) (fun hb18 => ?_) fun hb18 => ?_
    ·replace hm := zal hb18 hm
     refine W.sqh [] [(2, zi (zw (i11 + 1))), (3, zi 0), (4, .bool true)] ?_
     obtain rfl := zo hm
     obtain rfl := hx _ rfl
     exact W.wk ⟨[], []⟩ [(2, zi (zw (i11 + 1))), (3, zi 0), (4, .bool true)] [] (W.ret (show _ /\ _ from ⟨rfl, rfl, rfl⟩))
    ·replace hm := zak hb18 hm
     refine W.skip ?_
     refine W.rg [] [(0, .str p0), (11, .sl (v2.map eStr)), (12, zi (v2.length : Int)), (13, zi (zw (i11 + 1)))] [] ?_
     obtain rfl := zo hm
     exact ⟨(zw (i11 + 1)), (), ⟨[], []⟩, rfl, RO⟩
   ·replace hm := zak hb16 hm
    obtain rfl := zo hm
    obtain rfl := hx _ rfl
    exact W.wk ⟨[], []⟩ [(0, .str p0)] [] (W.exit (show _ /\ _ from ⟨rfl, (), rfl, rfl⟩))
  ·intro e0 s0 h0 hq
   rcases r15 with er15 | qr15
   ·obtain ⟨rfl, _, rfl, rfl⟩ := hq
    replace hm := zcC hm
    show WK _ _ _ _ _ [(0, .str p0)] []
    refine W.seq ?_
    replace ⟨v19, h20, hm⟩ := zam hm
    have kh20 := ziG h20
    try simp only [hb1] at kh20
    refine W.sqh [] [(0, .str p0), (24, .sl (v19.map eStr)), (25, zi (v19.length : Int)), (26, zi 0)] ?_
    refine W.block ?_
    replace ⟨r32, hlr32, hm⟩ := zam hm
    refine W.mono (Q := fun e0 s0 h0 => match r32 with | .inl e => e0 = .exit 2 /\ ∃ w : Unit, s0 = [] /\ h0 = [] | .inr q => e0 = .ret /\ s0 = [(2, zi q.1), (3, zi q.2.1), (4, .bool q.2.2)] /\ h0 = []) (W.loopM (step := zfE v19 p0) (a0 := 0) (fun (a : Int) (v : Unit) => ([(0, .str p0), (24, .sl (v19.map eStr)), (25, zi (v19.length : Int)), (26, zi a)], [])) () hlr32 ⟨[], []⟩ RO ?_) ?_
    ·rintro i28 _ x hm hx
     rw [zfE] at hm
     show WK _ _ _ _ _ [(0, .str p0), (24, .sl (v19.map eStr)), (25, zi (v19.length : Int)), (26, zi i28)] []
     refine W.sqh [] [(0, .str p0), (24, .sl (v19.map eStr)), (25, zi (v19.length : Int)), (26, zi i28), (27, .bool (decide (i28 < (v19.length : Int))))] ?_
     refine W.seq ?_
     refine W.cnd (decide (i28 < (v19.length : Int))) (fun hb33 => ?_) fun hb33 => ?_
     ·replace hm := zal hb33 hm
      refine W.skip ?_
      refine W.seq ?_
      refine W.block ?_
      replace ⟨h34, hm⟩ := zav hm
      refine W.sq [] [(0, .str p0), (7, zi i28), (8, .str (rd v19 i28)), (24, .sl (v19.map eStr)), (25, zi (v19.length : Int)), (26, zi i28)] [] ?_
      refine W.sqh [] [(0, .str p0), (7, zi i28), (24, .sl (v19.map eStr)), (25, zi (v19.length : Int)), (26, zi i28), (33, .bool (decide ((rd v19 i28) = p0)))] ?_
      refine W.cnd (decide ((rd v19 i28) = p0)) (fun hb35 => ?_) fun hb35 => ?_
      ·replace hm := zal hb35 hm
       refine W.sqh [] [(2, zi 11), (3, zi (zw (i28 + 1))), (4, .bool true)] ?_
       obtain rfl := zo hm
       obtain rfl := hx _ rfl
       exact W.wk ⟨[], []⟩ [(2, zi 11), (3, zi (zw (i28 + 1))), (4, .bool true)] [] (W.ret (show _ /\ _ from ⟨rfl, rfl, rfl⟩))
      ·replace hm := zak hb35 hm
       refine W.skip ?_
       refine W.rg [] [(0, .str p0), (24, .sl (v19.map eStr)), (25, zi (v19.length : Int)), (26, zi (zw (i28 + 1)))] [] ?_
       obtain rfl := zo hm
       exact ⟨(zw (i28 + 1)), (), ⟨[], []⟩, rfl, RO⟩
     ·replace hm := zak hb33 hm
      obtain rfl := zo hm
      obtain rfl := hx _ rfl
      exact W.wk ⟨[], []⟩ [] [] (W.exit (show _ /\ _ from ⟨rfl, (), rfl, rfl⟩))
    ·intro e0 s0 h0 hq
     rcases r32 with er32 | qr32
     ·obtain ⟨rfl, _, rfl, rfl⟩ := hq
      replace hm := zcC hm
      show WK _ _ _ _ _ [] []
      refine W.sqh [] [(2, zi 0), (3, zi 0), (4, .bool false)] ?_
      obtain rfl := zo hm
      exact W.ret (zaI.retW [] RO)
     ·obtain ⟨rfl, rfl, rfl⟩ := hq
      replace hm := zcB hm
      obtain rfl := zo hm
      exact zaI.retW [] RO
   ·obtain ⟨rfl, rfl, rfl⟩ := hq
    replace hm := zcB hm
    obtain rfl := zo hm
    exact zaI.retW [] RO
theorem zdv {p0 : ByteArray} {r : Bool} (hm : zdj p0 = some r) : zaL Tryz.prog 80 [.str p0] (.bool r) := by
 rw [zdj] at hm
 refine zaL.of Tryz.func80 rfl Tryz.ntmps80 (Nat.le_of_ble_eq_true rfl) ?_
 have e0 : argS 0 [.str p0] = [(0, .str p0)] := rfl
 rw [e0]
 refine W.sq [] [(0, .str p0)] [] ?_
 refine W.seq ?_
 replace ⟨b1, h2, hm⟩ := zaN hm
 refine W.sqh [] [(0, .str p0), (17, .bool b1)] ?_
 clear h2
 refine W.cnd b1 (fun hb3 => ?_) fun hb3 => ?_
 ·replace hm := zal hb3 hm
  refine W.sq [] [(2, .bool true)] [] ?_
  obtain rfl := zo hm
  exact W.ret (zaI.retW [] RO)
 ·replace hm := zak hb3 hm
  refine W.skip ?_
  refine W.seq ?_
  replace ⟨v4, h5, hm⟩ := zam hm
  have kh5 := zel h5
  try simp only [hb3] at kh5
  refine W.sqh [] [(0, .str p0), (4, .bool v4.2)] ?_
  refine W.sqh [] [(0, .str p0), (23, .bool v4.2)] ?_
  refine W.cnd v4.2 (fun hb6 => ?_) fun hb6 => ?_
  ·replace hm := zal hb6 hm
   refine W.sqh [] [(2, .bool true)] ?_
   obtain rfl := zo hm
   exact W.ret (zaI.retW [] RO)
  ·replace hm := zak hb6 hm
   refine W.skip ?_
   replace ⟨v7, h8, hm⟩ := zam hm
   have kh8 := zif h8
   try simp only [hb3, hb6] at kh8
   refine W.sqh [] [(7, .bool v7.2.2)] ?_
   refine W.sqh [] [(2, .bool v7.2.2)] ?_
   obtain rfl := zo hm
   exact W.ret (zaI.retW [] RO)
theorem ziH {p0 : ByteArray} {r : Bool} (hm : zeI p0 = some r) : zaL Tryz.prog 114 [.str p0] (.bool r) := by
 rw [zeI] at hm
 refine zaL.of Tryz.func114 rfl Tryz.ntmps114 (Nat.le_of_ble_eq_true rfl) ?_
 have e0 : argS 0 [.str p0] = [(0, .str p0)] := rfl
 rw [e0]
 refine W.sq [] [(0, .str p0)] [] ?_
 refine W.sqh [] [(0, .str p0), (3, zi 0)] ?_
 refine W.seq ?_
 replace ⟨v1, h2, hm⟩ := zam hm
 have kh2 := zgt h2
 refine W.sqh [] [(0, .str p0), (3, zi 0), (7, .sl (v1.map zar)), (8, zi (v1.length : Int)), (9, zi 0)] ?_
 refine W.block ?_
 replace ⟨r29, hlr29, hm⟩ := zam hm
 refine W.mono (Q := fun e0 s0 h0 => match r29 with | .inl e => e0 = .exit 0 /\ ∃ w : Unit, s0 = [(0, .str p0), (3, zi e)] /\ h0 = [] | .inr q => e0 = .ret /\ s0 = [(2, .bool q)] /\ h0 = []) (W.loopM (step := zdk v1) (a0 := (0, 0)) (fun (a : Int × Int) (v : Unit) => ([(0, .str p0), (3, zi a.1), (7, .sl (v1.map zar)), (8, zi (v1.length : Int)), (9, zi a.2)], [])) () hlr29 ⟨[], []⟩ RO ?_) ?_
 ·rintro ⟨i19, i20⟩ _ x hm hx
  rw [zdk] at hm
  show WK _ _ _ _ _ [(0, .str p0), (3, zi i19), (7, .sl (v1.map zar)), (8, zi (v1.length : Int)), (9, zi i20)] []
  refine W.sqh [] [(0, .str p0), (3, zi i19), (7, .sl (v1.map zar)), (8, zi (v1.length : Int)), (9, zi i20), (10, .bool (decide (i20 < (v1.length : Int))))] ?_
  refine W.seq ?_
  refine W.cnd (decide (i20 < (v1.length : Int))) (fun hb30 => ?_) fun hb30 => ?_
  ·replace hm := zal hb30 hm
   refine W.skip ?_
   refine W.seq ?_
   refine W.block ?_
   replace ⟨h31, hm⟩ := zav hm
   refine W.sq [] [(0, .str p0), (3, zi i19), (5, .ptr 0 0 0), (7, .sl (v1.map zar)), (8, zi (v1.length : Int)), (9, zi i20)] [.cells (zar (rd v1 i20)) 0 101] ?_
   refine W.seq ?_
   replace ⟨v32, h33, hm⟩ := zam hm
   replace ⟨v34, h35, hm⟩ := zam hm
   have kh33 := fun hg => zeN (zal hg h33)
   try simp only [hb30] at kh33
   have kh35 := fun hg => zfc (zal hg h35)
   try simp only [hb30] at kh35
   refine W.sq [] [(0, .str p0), (3, zi i19), (7, .sl (v1.map zar)), (8, zi (v1.length : Int)), (9, zi i20), (30, .bool ((rd v1 i20).Bad || ((!v32) && ((i19 == 0) || (!v34)))))] [] ?_
   refine W.cnd ((rd v1 i20).Bad || ((!v32) && ((i19 == 0) || (!v34)))) (fun hb36 => ?_) fun hb36 => ?_
   ·replace hm := zal hb36 hm
    refine W.sqh [] [(2, .bool false)] ?_
    obtain rfl := zo hm
    obtain rfl := hx _ rfl
    exact W.wk ⟨[], []⟩ [(2, .bool false)] [] (W.ret (show _ /\ _ from ⟨rfl, rfl, rfl⟩))
   ·replace hm := zak hb36 hm
    refine W.skip ?_
    refine W.rg [] [(0, .str p0), (3, zi (zw (i19 + 1))), (7, .sl (v1.map zar)), (8, zi (v1.length : Int)), (9, zi i20)] [] ?_
    refine W.rg [] [(0, .str p0), (3, zi (zw (i19 + 1))), (7, .sl (v1.map zar)), (8, zi (v1.length : Int)), (9, zi (zw (i20 + 1)))] [] ?_
    obtain rfl := zo hm
    exact ⟨((zw (i19 + 1)), (zw (i20 + 1))), (), ⟨[], []⟩, rfl, RO⟩
  ·replace hm := zak hb30 hm
   obtain rfl := zo hm
   obtain rfl := hx _ rfl
   exact W.wk ⟨[], []⟩ [(0, .str p0), (3, zi i19)] [] (W.exit (show _ /\ _ from ⟨rfl, (), rfl, rfl⟩))
 ·intro e0 s0 h0 hq
  rcases r29 with er29 | qr29
  ·obtain ⟨rfl, _, rfl, rfl⟩ := hq
   replace hm := zcC hm
   show WK _ _ _ _ _ [(0, .str p0), (3, zi er29)] []
   replace ⟨v37, h38, hm⟩ := zam hm
   have kh38 := fun hg => zdv (zal hg h38)
   refine W.sqh [] [(2, .bool ((decide (er29 ≥ 1) && decide (er29 <= 16)) && (!v37)))] ?_
   obtain rfl := zo hm
   exact W.ret (zaI.retW [] RO)
  ·obtain ⟨rfl, rfl, rfl⟩ := hq
   replace hm := zcB hm
   obtain rfl := zo hm
   exact zaI.retW [] RO
theorem zfL {p0 : Int} {r : Bool} (hm : zd0 p0 = some r) : zaL Tryz.prog 140 [zi p0] (.bool r) := by
 rw [zd0] at hm
 refine zaL.of Tryz.func140 rfl Tryz.ntmps140 (Nat.le_of_ble_eq_true rfl) ?_
 have e0 : argS 0 [zi p0] = [(0, zi p0)] := rfl
 rw [e0]
 refine W.sq [] [(0, zi p0)] [] ?_
 refine W.sqh [] [(2, .bool (decide (p0 ≥ 0) && decide (p0 <= 7)))] ?_
 obtain rfl := zo hm
 exact W.ret (zaI.retW [] RO)
theorem zgQ {p0 : zau} {r : Bool} (hm : zet p0 = some r) : zaL Tryz.prog 136 [.agg [zi p0.Kind, zi p0.Reg, zi p0.Sym, zi p0.N]] (.bool r) := by
 rw [zet] at hm
 refine zaL.of Tryz.func136 rfl Tryz.ntmps136 (Nat.le_of_ble_eq_true rfl) ?_
 have e0 : argS 0 [.agg [zi p0.Kind, zi p0.Reg, zi p0.Sym, zi p0.N]] = [(0, .agg [zi p0.Kind, zi p0.Reg, zi p0.Sym, zi p0.N])] := rfl
 rw [e0]
 refine W.sq [] [(1, .ptr 0 0 0)] [.cells (za5 p0) 0 61] ?_
 refine W.seq ?_
 refine W.sqh [] [(1, .ptr 0 0 0), (4, zi p0.Kind)] ?_
 refine W.block ?_
 refine W.sq [] [(1, .ptr 0 0 0), (4, zi p0.Kind), (5, .bool (p0.Kind == 1))] [.cells (za5 p0) 0 61] ?_
 refine W.cnd (p0.Kind == 1) (fun hb1 => ?_) fun hb1 => ?_
 ·replace hm := zal hb1 hm
  replace ⟨v2, h3, hm⟩ := zam hm
  have kh3 := zfL h3
  try simp only [hb1] at kh3
  refine W.sq [] [(2, .bool ((v2 && (p0.Sym == 0)) && (p0.N == 0)))] [] ?_
  obtain rfl := zo hm
  exact W.ret (zaI.retW [] RO)
 ·replace hm := zak hb1 hm
  refine W.sq [] [(1, .ptr 0 0 0), (4, zi p0.Kind), (20, .bool (p0.Kind == 2))] [.cells (za5 p0) 0 61] ?_
  refine W.cnd (p0.Kind == 2) (fun hb4 => ?_) fun hb4 => ?_
  ·replace hm := zal hb4 hm
   refine W.sq [] [(2, .bool ((p0.Reg == 0) && (p0.Sym == 0)))] [] ?_
   obtain rfl := zo hm
   exact W.ret (zaI.retW [] RO)
  ·replace hm := zak hb4 hm
   refine W.sq [] [(1, .ptr 0 0 0), (4, zi p0.Kind), (30, .bool (p0.Kind == 3))] [.cells (za5 p0) 0 61] ?_
   refine W.cnd (p0.Kind == 3) (fun hb5 => ?_) fun hb5 => ?_
   ·replace hm := zal hb5 hm
    refine W.sq [] [(2, .bool ((decide (p0.Sym ≥ 0) && decide (p0.N ≥ 0)) && (p0.Reg == 0)))] [] ?_
    obtain rfl := zo hm
    exact W.ret (zaI.retW [] RO)
   ·replace hm := zak hb5 hm
    refine W.sq [] [(1, .ptr 0 0 0), (45, .bool (p0.Kind == 4))] [.cells (za5 p0) 0 61] ?_
    refine W.cnd (p0.Kind == 4) (fun hb6 => ?_) fun hb6 => ?_
    ·replace hm := zal hb6 hm
     replace ⟨v7, h8, hm⟩ := zam hm
     have kh8 := fun hg => zfL (zal hg h8)
     try simp only [hb1, hb4, hb5, hb6] at kh8
     refine W.sq [] [(2, .bool ((decide (p0.Sym ≥ 0) && v7) && (p0.N == 0)))] [] ?_
     obtain rfl := zo hm
     exact W.ret (zaI.retW [] RO)
    ·replace hm := zak hb6 hm
     refine W.skip ?_
     refine W.sqh [] [(2, .bool false)] ?_
     obtain rfl := zo hm
     exact W.ret (zaI.retW [] RO)
theorem ziV {p0 : zau} {r : zch × Bool} (hm : zhd p0 = some r) : zaL Tryz.prog 135 [.agg [zi p0.Kind, zi p0.Reg, zi p0.Sym, zi p0.N]] (.tuple [zbj r.1, .bool r.2]) := by
 rw [zhd] at hm
 refine zaL.of Tryz.func135 rfl Tryz.ntmps135 (Nat.le_of_ble_eq_true rfl) ?_
 have e0 : argS 0 [.agg [zi p0.Kind, zi p0.Reg, zi p0.Sym, zi p0.N]] = [(0, .agg [zi p0.Kind, zi p0.Reg, zi p0.Sym, zi p0.N])] := rfl
 rw [e0]
 refine W.sq [] [(1, .ptr 0 0 0)] [.cells (za5 p0) 0 61] ?_
 refine W.seq ?_
 replace ⟨v1, h2, hm⟩ := zam hm
 have kh2 := zgQ h2
 refine W.sqh [] [(1, .ptr 0 0 0), (6, .bool (!v1))] ?_
 refine W.cnd (!v1) (fun hb3 => ?_) fun hb3 => ?_
 ·replace hm := zal hb3 hm
  refine W.sq [] [(2, .nili), (3, .bool false)] [] ?_
  obtain rfl := zo hm
  exact W.ret (zaI.retW [] RO)
 ·replace hm := zak hb3 hm
  refine W.skip ?_
  refine W.seq ?_
  refine W.sq [] [(1, .ptr 0 0 0), (8, zi p0.Kind)] [.cells (za5 p0) 0 61] ?_
  refine W.block ?_
  refine W.sq [] [(1, .ptr 0 0 0), (8, zi p0.Kind), (9, .bool (p0.Kind == 1))] [.cells (za5 p0) 0 61] ?_
  refine W.cnd (p0.Kind == 1) (fun hb4 => ?_) fun hb4 => ?_
  ·replace hm := zal hb4 hm
   refine W.sq [] [(2, .iface 180 (.agg [zi p0.Reg])), (3, .bool true)] [] ?_
   obtain rfl := zo hm
   exact W.ret (zaI.retW [] RO)
  ·replace hm := zak hb4 hm
   refine W.sq [] [(1, .ptr 0 0 0), (8, zi p0.Kind), (15, .bool (p0.Kind == 2))] [.cells (za5 p0) 0 61] ?_
   refine W.cnd (p0.Kind == 2) (fun hb5 => ?_) fun hb5 => ?_
   ·replace hm := zal hb5 hm
    refine W.sq [] [(2, .iface 185 (.agg [zi p0.N])), (3, .bool true)] [] ?_
    obtain rfl := zo hm
    exact W.ret (zaI.retW [] RO)
   ·replace hm := zak hb5 hm
    refine W.sq [] [(1, .ptr 0 0 0), (21, .bool (p0.Kind == 3))] [.cells (za5 p0) 0 61] ?_
    refine W.cnd (p0.Kind == 3) (fun hb6 => ?_) fun hb6 => ?_
    ·replace hm := zal hb6 hm
     refine W.sq [] [(2, .iface 187 (.agg [zi p0.Sym, zi p0.N])), (3, .bool true)] [] ?_
     obtain rfl := zo hm
     exact W.ret (zaI.retW [] RO)
    ·replace hm := zak hb6 hm
     refine W.skip ?_
     refine W.sqh [] [(2, .iface 189 (.agg [zi p0.Sym, zi p0.Reg])), (3, .bool true)] ?_
     obtain rfl := zo hm
     exact W.ret (zaI.retW [] RO)
theorem zfZ {p0 : zau} {r : Bool} (hm : zdW p0 = some r) : zaL Tryz.prog 125 [.agg [zi p0.Kind, zi p0.Reg, zi p0.Sym, zi p0.N]] (.bool r) := by
 rw [zdW] at hm
 refine zaL.of Tryz.func125 rfl Tryz.ntmps125 (Nat.le_of_ble_eq_true rfl) ?_
 have e0 : argS 0 [.agg [zi p0.Kind, zi p0.Reg, zi p0.Sym, zi p0.N]] = [(0, .agg [zi p0.Kind, zi p0.Reg, zi p0.Sym, zi p0.N])] := rfl
 rw [e0]
 refine W.sq [] [(1, .ptr 0 0 0)] [.cells (za5 p0) 0 61] ?_
 replace ⟨v1, h2, hm⟩ := zam hm
 have kh2 := ziV h2
 try simp only [zeq, zdC, zdD, zdS, zdR] at kh2
 refine W.sq [] [(3, zbj v1.1), (4, .bool v1.2)] [] ?_
 refine W.seq ?_
 refine W.sqh [] [(3, zbj v1.1), (13, .bool (!v1.2))] ?_
 refine W.cnd (!v1.2) (fun hb3 => ?_) fun hb3 => ?_
 ·replace hm := zal hb3 hm
  refine W.sqh [] [(2, .bool false)] ?_
  obtain rfl := zo hm
  exact W.ret (zaI.retW [] RO)
 ·replace hm := zak hb3 hm
  refine W.skip ?_
  replace ⟨z4, h5, hm⟩ := zaN hm
  rw [← h5]
  clear h5
  cases z4 with
  | nil =>
   dsimp only at hm
   show WK _ _ _ _ _ [(3, .nili), (13, .bool (!v1.2))] []
   refine W.sqh [] [(6, .bool false)] ?_
   refine W.sqh [] [(2, .bool false)] ?_
   obtain rfl := zo hm
   exact W.ret (zaI.retW [] RO)
  | RegPart x6 =>
   dsimp only at hm
   show WK _ _ _ _ _ [(3, .iface 180 (.agg [zi x6.Reg])), (13, .bool (!v1.2))] []
   refine W.sqh [] [(6, .bool true)] ?_
   refine W.sqh [] [(2, .bool true)] ?_
   obtain rfl := zo hm
   exact W.ret (zaI.retW [] RO)
  | NumPart x7 =>
   dsimp only at hm
   show WK _ _ _ _ _ [(3, .iface 185 (.agg [zi x7.N])), (13, .bool (!v1.2))] []
   refine W.sqh [] [(6, .bool false)] ?_
   refine W.sqh [] [(2, .bool false)] ?_
   obtain rfl := zo hm
   exact W.ret (zaI.retW [] RO)
  | AtPart x8 =>
   dsimp only at hm
   show WK _ _ _ _ _ [(3, .iface 187 (.agg [zi x8.Sym, zi x8.N])), (13, .bool (!v1.2))] []
   refine W.sqh [] [(6, .bool false)] ?_
   refine W.sqh [] [(2, .bool false)] ?_
   obtain rfl := zo hm
   exact W.ret (zaI.retW [] RO)
  | ByPart x9 =>
   dsimp only at hm
   show WK _ _ _ _ _ [(3, .iface 189 (.agg [zi x9.Sym, zi x9.Reg])), (13, .bool (!v1.2))] []
   refine W.sqh [] [(6, .bool false)] ?_
   refine W.sqh [] [(2, .bool false)] ?_
   obtain rfl := zo hm
   exact W.ret (zaI.retW [] RO)
theorem ziD {p0 : zch} {r : Int × Bool} (hm : zfC p0 = some r) : zaL Tryz.prog 137 [zbj p0] (.tuple [zi r.1, .bool r.2]) := by
 rw [zfC.eq_def] at hm
 refine zaL.of Tryz.func137 rfl Tryz.ntmps137 (Nat.le_of_ble_eq_true rfl) ?_
 have e0 : argS 0 [zbj p0] = [(0, zbj p0)] := rfl
 rw [e0]
 refine W.sq [] [(0, zbj p0)] [] ?_
 refine W.seq ?_
 cases p0 with
 | nil =>
  dsimp only at hm
  show WK _ _ _ _ _ [(0, .nili)] []
  refine W.sq [] [(0, .nili), (4, .ptr 0 0 0), (5, .bool false)] [.cells [zi 0, zi 0] 0 187] ?_
  refine W.sqh [] [(0, .nili), (4, .ptr 0 0 0), (13, .bool false)] ?_
  refine W.cnd false (fun hx => by cases hx) (fun _ => ?_)
  refine W.skip ?_
  refine W.sq [] [(6, .ptr 1 0 0), (7, .bool false)] [.dead, .cells [zi 0, zi 0] 0 189] ?_
  refine W.sq [] [(2, zi 0), (3, .bool false)] [] ?_
  obtain rfl := zo hm
  exact W.ret (zaI.retW [] RO)
 | RegPart x1 =>
  dsimp only at hm
  show WK _ _ _ _ _ [(0, .iface 180 (.agg [zi x1.Reg]))] []
  refine W.sq [] [(0, .iface 180 (.agg [zi x1.Reg])), (4, .ptr 0 0 0), (5, .bool false)] [.cells [zi 0, zi 0] 0 187] ?_
  refine W.sqh [] [(0, .iface 180 (.agg [zi x1.Reg])), (4, .ptr 0 0 0), (13, .bool false)] ?_
  refine W.cnd false (fun hx => by cases hx) (fun _ => ?_)
  refine W.skip ?_
  refine W.sq [] [(6, .ptr 1 0 0), (7, .bool false)] [.dead, .cells [zi 0, zi 0] 0 189] ?_
  refine W.sq [] [(2, zi 0), (3, .bool false)] [] ?_
  obtain rfl := zo hm
  exact W.ret (zaI.retW [] RO)
 | NumPart x2 =>
  dsimp only at hm
  show WK _ _ _ _ _ [(0, .iface 185 (.agg [zi x2.N]))] []
  refine W.sq [] [(0, .iface 185 (.agg [zi x2.N])), (4, .ptr 0 0 0), (5, .bool false)] [.cells [zi 0, zi 0] 0 187] ?_
  refine W.sqh [] [(0, .iface 185 (.agg [zi x2.N])), (4, .ptr 0 0 0), (13, .bool false)] ?_
  refine W.cnd false (fun hx => by cases hx) (fun _ => ?_)
  refine W.skip ?_
  refine W.sq [] [(6, .ptr 1 0 0), (7, .bool false)] [.dead, .cells [zi 0, zi 0] 0 189] ?_
  refine W.sq [] [(2, zi 0), (3, .bool false)] [] ?_
  obtain rfl := zo hm
  exact W.ret (zaI.retW [] RO)
 | AtPart x3 =>
  dsimp only at hm
  show WK _ _ _ _ _ [(0, .iface 187 (.agg [zi x3.Sym, zi x3.N]))] []
  refine W.sq [] [(0, .iface 187 (.agg [zi x3.Sym, zi x3.N])), (4, .ptr 0 0 0), (5, .bool true)] [.cells (zjG x3) 0 187] ?_
  refine W.sqh [] [(0, .iface 187 (.agg [zi x3.Sym, zi x3.N])), (4, .ptr 0 0 0), (13, .bool true)] ?_
  refine W.cnd true (fun _ => ?_) (fun hx => by cases hx)
  refine W.sq [] [(2, zi x3.Sym), (3, .bool true)] [] ?_
  obtain rfl := zo hm
  exact W.ret (zaI.retW [] RO)
 | ByPart x4 =>
  dsimp only at hm
  show WK _ _ _ _ _ [(0, .iface 189 (.agg [zi x4.Sym, zi x4.Reg]))] []
  refine W.sq [] [(0, .iface 189 (.agg [zi x4.Sym, zi x4.Reg])), (4, .ptr 0 0 0), (5, .bool false)] [.cells [zi 0, zi 0] 0 187] ?_
  refine W.sqh [] [(0, .iface 189 (.agg [zi x4.Sym, zi x4.Reg])), (4, .ptr 0 0 0), (13, .bool false)] ?_
  refine W.cnd false (fun hx => by cases hx) (fun _ => ?_)
  refine W.skip ?_
  refine W.sq [] [(6, .ptr 1 0 0), (7, .bool true)] [.dead, .cells (zjF x4) 0 189] ?_
  refine W.sq [] [(2, zi x4.Sym), (3, .bool true)] [] ?_
  obtain rfl := zo hm
  exact W.ret (zaI.retW [] RO)
theorem zdx {p0 : zau} {r : Bool} (hm : zdy p0 = some r) : zaL Tryz.prog 127 [.agg [zi p0.Kind, zi p0.Reg, zi p0.Sym, zi p0.N]] (.bool r) := by
 rw [zdy] at hm
 refine zaL.of Tryz.func127 rfl Tryz.ntmps127 (Nat.le_of_ble_eq_true rfl) ?_
 have e0 : argS 0 [.agg [zi p0.Kind, zi p0.Reg, zi p0.Sym, zi p0.N]] = [(0, .agg [zi p0.Kind, zi p0.Reg, zi p0.Sym, zi p0.N])] := rfl
 rw [e0]
 refine W.sq [] [(1, .ptr 0 0 0)] [.cells (za5 p0) 0 61] ?_
 replace ⟨v1, h2, hm⟩ := zam hm
 have kh2 := ziV h2
 try simp only [zeq, zdC, zdD, zdS, zdR] at kh2
 refine W.sq [] [(3, zbj v1.1), (4, .bool v1.2)] [] ?_
 refine W.seq ?_
 refine W.sqh [] [(3, zbj v1.1), (13, .bool (!v1.2))] ?_
 refine W.cnd (!v1.2) (fun hb3 => ?_) fun hb3 => ?_
 ·replace hm := zal hb3 hm
  refine W.sqh [] [(2, .bool false)] ?_
  obtain rfl := zo hm
  exact W.ret (zaI.retW [] RO)
 ·replace hm := zak hb3 hm
  refine W.skip ?_
  replace ⟨v4, h5, hm⟩ := zam hm
  have kh5 := ziD h5
  try simp only [hb3] at kh5
  try simp only [zeq, zdC, zdD, zdS, zdR] at kh5
  refine W.sqh [] [(6, .bool v4.2)] ?_
  refine W.sqh [] [(2, .bool v4.2)] ?_
  obtain rfl := zo hm
  exact W.ret (zaI.retW [] RO)
theorem zf0 {p0 : zau} {r : Bool} (hm : zfu p0 = some r) : zaL Tryz.prog 126 [.agg [zi p0.Kind, zi p0.Reg, zi p0.Sym, zi p0.N]] (.bool r) := by
 rw [zfu] at hm
 refine zaL.of Tryz.func126 rfl Tryz.ntmps126 (Nat.le_of_ble_eq_true rfl) ?_
 have e0 : argS 0 [.agg [zi p0.Kind, zi p0.Reg, zi p0.Sym, zi p0.N]] = [(0, .agg [zi p0.Kind, zi p0.Reg, zi p0.Sym, zi p0.N])] := rfl
 rw [e0]
 refine W.sq [] [(1, .ptr 0 0 0)] [.cells (za5 p0) 0 61] ?_
 replace ⟨v1, h2, hm⟩ := zam hm
 replace ⟨v3, h4, hm⟩ := zam hm
 have kh2 := zgQ h2
 have kh4 := fun hg => zdx (zal hg h4)
 refine W.sq [] [(2, .bool (v1 && (!v3)))] [] ?_
 obtain rfl := zo hm
 exact W.ret (zaI.retW [] RO)
theorem ziK {p0 : Int} {r : Bool} (hm : zfH p0 = some r) : zaL Tryz.prog 128 [zi p0] (.bool r) := by
 rw [zfH] at hm
 refine zaL.of Tryz.func128 rfl Tryz.ntmps128 (Nat.le_of_ble_eq_true rfl) ?_
 have e0 : argS 0 [zi p0] = [(0, zi p0)] := rfl
 rw [e0]
 refine W.sq [] [(0, zi p0)] [] ?_
 refine W.sqh [] [(2, .bool (decide (p0 ≥ 2) && decide (p0 <= 6)))] ?_
 obtain rfl := zo hm
 exact W.ret (zaI.retW [] RO)
theorem zkU {p0 : zap} {r : Bool} (hm : zgX p0 = some r) : zaL Tryz.prog 113 [.agg [zi p0.Op, .bool p0.Lock, zi p0.Cond, zi p0.A.Kind, zi p0.A.Reg, zi p0.A.Sym, zi p0.A.N, zi p0.B.Kind, zi p0.B.Reg, zi p0.B.Sym, zi p0.B.N, .str p0.To, .sl (p0.zLb.map eStr)]] (.bool r) := by
 rw [zgX] at hm
 refine zaL.of Tryz.func113 rfl Tryz.ntmps113 (Nat.le_of_ble_eq_true rfl) ?_
 have e0 : argS 0 [.agg [zi p0.Op, .bool p0.Lock, zi p0.Cond, zi p0.A.Kind, zi p0.A.Reg, zi p0.A.Sym, zi p0.A.N, zi p0.B.Kind, zi p0.B.Reg, zi p0.B.Sym, zi p0.B.N, .str p0.To, .sl (p0.zLb.map eStr)]] = [(0, .agg [zi p0.Op, .bool p0.Lock, zi p0.Cond, zi p0.A.Kind, zi p0.A.Reg, zi p0.A.Sym, zi p0.A.N, zi p0.B.Kind, zi p0.B.Reg, zi p0.B.Sym, zi p0.B.N, .str p0.To, .sl (p0.zLb.map eStr)])] := rfl
 rw [e0]
 refine W.sq [] [(1, .ptr 0 0 0)] [.cells (zan p0) 0 63] ?_
 refine W.cut (fun s h => ∃ (v : Unit) (w : Unit) (F : Gs), zee p0 = some r /\ AT 0 F [(1, .ptr 0 0 0)] [.cells (zan p0) 0 63] s h) ?_ ?_
 ·refine W.sq [] [(1, .ptr 0 0 0), (6, .bool (p0.Op == 11))] [.cells (zan p0) 0 63] ?_
  refine W.cnd (p0.Op == 11) (fun hb30 => ?_) fun hb30 => ?_
  ·replace hm := zal hb30 hm
   refine W.sq [] [(1, .ptr 0 0 0), (14, .bool (decide (p0.Cond < 1) || decide (p0.Cond > 10)))] [.cells (zan p0) 0 63] ?_
   refine W.cnd (decide (p0.Cond < 1) || decide (p0.Cond > 10)) (fun hb31 => ?_) fun hb31 => ?_
   ·replace hm := zal hb31 hm
    refine W.sq [] [(2, .bool false)] [] ?_
    obtain rfl := zo hm
    exact W.ret (zaI.retW [] RO)
   ·replace hm := zak hb31 hm
    refine W.skip ?_
    exact ⟨(), (), ⟨[], []⟩, hm, RO⟩
  ·replace hm := zak hb30 hm
   refine W.sqh [] [(1, .ptr 0 0 0), (17, .bool (p0.Cond != 0))] ?_
   refine W.cnd (p0.Cond != 0) (fun hb32 => ?_) fun hb32 => ?_
   ·replace hm := zal hb32 hm
    refine W.sq [] [(2, .bool false)] [] ?_
    obtain rfl := zo hm
    exact W.ret (zaI.retW [] RO)
   ·replace hm := zak hb32 hm
    refine W.skip ?_
    exact ⟨(), (), ⟨[], []⟩, hm, RO⟩
 ·rintro s h ⟨_, _, F, hm, hat⟩
  refine W.weak F hat ?_
  show WK _ _ _ _ _ [(1, .ptr 0 0 0)] [.cells (zan p0) 0 63]
  rw [zee] at hm
  replace ⟨v1, h2, hm⟩ := zam hm
  replace ⟨v3, h4, hm⟩ := zam hm
  replace ⟨v5, h6, hm⟩ := zam hm
  replace ⟨v7, h8, hm⟩ := zam hm
  replace ⟨v9, h10, hm⟩ := zam hm
  refine W.sqh [] [(1, .ptr 0 0 0), (3, .bool ((v1 && (v3 || v5)) || (v7 && v9)))] ?_ (hrun := ?_)
  rotate_left
  ·try simp -implicitDefEqProofs -dsimp only [go_sem]
   with_reducible refine exP.mk _ (callQ.plain (by simp -implicitDefEqProofs -dsimp only [go_sem]) (zfZ h2)) ?_
   try simp -implicitDefEqProofs -dsimp only [go_sem]
   refine zd1 (fun hg11 => ?_) (fun hg11 => ?_)
   ·try simp -implicitDefEqProofs -dsimp only [go_sem, hg11]
    with_reducible refine exP.mk _ (callQ.plain (by simp -implicitDefEqProofs -dsimp only [go_sem, hg11]) (zf0 (zal (by simp -implicitDefEqProofs -dsimp only [go_sem, hg11]) h4))) ?_
    try simp -implicitDefEqProofs -dsimp only [go_sem, hg11]
    refine zdi (fun hg12 => ?_) (fun hg12 => ?_)
    ·try simp only [Bool.not_not] at hg12
     try simp -implicitDefEqProofs -dsimp only [go_sem, hg11, hg12]
     with_reducible refine exP.mk _ (callQ.plain (by simp -implicitDefEqProofs -dsimp only [go_sem, hg11, hg12]) (zdx (zal (by simp -implicitDefEqProofs -dsimp only [go_sem, hg11, hg12]) h6))) ?_
     try simp -implicitDefEqProofs -dsimp only [go_sem, hg11, hg12]
     refine zdi (fun hg13 => ?_) (fun hg13 => ?_)
     ·try simp only [Bool.not_not] at hg13
      try simp -implicitDefEqProofs -dsimp only [go_sem, hg11, hg12, hg13]
      with_reducible refine exP.mk _ (callQ.plain (by simp -implicitDefEqProofs -dsimp only [go_sem, hg11, hg12, hg13]) (zdx (zal (by simp -implicitDefEqProofs -dsimp only [go_sem, hg11, hg12, hg13]) h8))) ?_
      try simp -implicitDefEqProofs -dsimp only [go_sem, hg11, hg12, hg13]
      refine zd1 (fun hg14 => ?_) (fun hg14 => ?_)
      ·try simp only [Bool.not_not] at hg14
       try simp -implicitDefEqProofs -dsimp only [go_sem, hg11, hg12, hg13, hg14]
       with_reducible refine exP.mk _ (callQ.plain (by simp -implicitDefEqProofs -dsimp only [go_sem, hg11, hg12, hg13, hg14]) (zf0 (zal (by simp -implicitDefEqProofs -dsimp only [go_sem, hg11, hg12, hg13, hg14]) h10))) ?_
       try simp -implicitDefEqProofs -dsimp only [go_sem, hg11, hg12, hg13, hg14]
      ·try simp only [Bool.not_not] at hg14
       try simp -implicitDefEqProofs -dsimp only [go_sem, hg11, hg12, hg13, hg14]
     ·try simp only [Bool.not_not] at hg13
      try simp -implicitDefEqProofs -dsimp only [go_sem, hg11, hg12, hg13]
    ·try simp only [Bool.not_not] at hg12
     try simp -implicitDefEqProofs -dsimp only [go_sem, hg11, hg12]
   ·try simp -implicitDefEqProofs -dsimp only [go_sem, hg11]
    with_reducible refine exP.mk _ (callQ.plain (by simp -implicitDefEqProofs -dsimp only [go_sem, hg11]) (zdx (zal (by simp -implicitDefEqProofs -dsimp only [go_sem, hg11]) h8))) ?_
    try simp -implicitDefEqProofs -dsimp only [go_sem, hg11]
    refine zd1 (fun hg15 => ?_) (fun hg15 => ?_)
    ·try simp only [Bool.not_not] at hg15
     try simp -implicitDefEqProofs -dsimp only [go_sem, hg11, hg15]
     with_reducible refine exP.mk _ (callQ.plain (by simp -implicitDefEqProofs -dsimp only [go_sem, hg11, hg15]) (zf0 (zal (by simp -implicitDefEqProofs -dsimp only [go_sem, hg11, hg15]) h10))) ?_
     try simp -implicitDefEqProofs -dsimp only [go_sem, hg11, hg15]
    ·try simp only [Bool.not_not] at hg15
     try simp -implicitDefEqProofs -dsimp only [go_sem, hg11, hg15]
  refine W.seq ?_
  refine W.block ?_
  refine W.sq [] [(1, .ptr 0 0 0), (3, .bool ((v1 && (v3 || v5)) || (v7 && v9))), (41, .bool ((p0.Op == 1) || (p0.Op == 7)))] [.cells (zan p0) 0 63] ?_
  refine W.cnd ((p0.Op == 1) || (p0.Op == 7)) (fun hb16 => ?_) fun hb16 => ?_
  ·replace hm := zal hb16 hm
   refine W.sq [] [(2, .bool (((v1 && (v3 || v5)) || (v7 && v9)) && (!p0.Lock)))] [] ?_
   obtain rfl := zo hm
   exact W.ret (zaI.retW [] RO)
  ·replace hm := zak hb16 hm
   replace ⟨v17, h18, hm⟩ := zam hm
   have kh18 := ziK h18
   try simp only [hb16] at kh18
   refine W.sq [] [(1, .ptr 0 0 0), (3, .bool ((v1 && (v3 || v5)) || (v7 && v9))), (56, .bool v17)] [.cells (zan p0) 0 63] ?_
   refine W.cnd v17 (fun hb19 => ?_) fun hb19 => ?_
   ·replace hm := zal hb19 hm
    replace ⟨v20, h21, hm⟩ := zam hm
    have kh21 := fun hg => zdx (zal hg h21)
    try simp only [hb16, hb19] at kh21
    refine W.sq [] [(2, .bool (((v1 && (v3 || v5)) || (v7 && v9)) && ((!p0.Lock) || v20)))] [] ?_
    obtain rfl := zo hm
    exact W.ret (zaI.retW [] RO)
   ·replace hm := zak hb19 hm
    refine W.sq [] [(1, .ptr 0 0 0), (71, .bool ((p0.Op == 8) || (p0.Op == 9)))] [.cells (zan p0) 0 63] ?_
    refine W.cnd ((p0.Op == 8) || (p0.Op == 9)) (fun hb22 => ?_) fun hb22 => ?_
    ·replace hm := zal hb22 hm
     replace ⟨v23, h24, hm⟩ := zam hm
     replace ⟨v25, h26, hm⟩ := zam hm
     have kh24 := zdx h24
     try simp only [hb16, hb19, hb22] at kh24
     have kh26 := fun hg => zfZ (zal hg h26)
     try simp only [hb16, hb19, hb22] at kh26
     refine W.sq [] [(2, .bool ((v23 && v25) && (p0.Lock == (p0.Op == 9))))] [] ?_
     obtain rfl := zo hm
     exact W.ret (zaI.retW [] RO)
    ·replace hm := zak hb22 hm
     refine W.sq [] [(1, .ptr 0 0 0), (96, .bool (decide (p0.Op ≥ 10) && decide (p0.Op <= 14)))] [.cells (zan p0) 0 63] ?_
     refine W.cnd (decide (p0.Op ≥ 10) && decide (p0.Op <= 14)) (fun hb27 => ?_) fun hb27 => ?_
     ·replace hm := zal hb27 hm
      replace ⟨b28, h29, hm⟩ := zaN hm
      refine W.sq [] [(2, .bool b28)] [] ?_
      clear h29
      obtain rfl := zo hm
      exact W.ret (zaI.retW [] RO)
     ·replace hm := zak hb27 hm
      refine W.skip ?_
      refine W.sq [] [(2, .bool false)] [] ?_
      obtain rfl := zo hm
      exact W.ret (zaI.retW [] RO)
theorem zkk {p0 : zap} {r : Int} (hm : zf1 p0 = some r) : zaL Tryz.prog 104 [.agg [zi p0.Op, .bool p0.Lock, zi p0.Cond, zi p0.A.Kind, zi p0.A.Reg, zi p0.A.Sym, zi p0.A.N, zi p0.B.Kind, zi p0.B.Reg, zi p0.B.Sym, zi p0.B.N, .str p0.To, .sl (p0.zLb.map eStr)]] (zi r) := by
 rw [zf1] at hm
 refine zaL.of Tryz.func104 rfl Tryz.ntmps104 (Nat.le_of_ble_eq_true rfl) ?_
 have e0 : argS 0 [.agg [zi p0.Op, .bool p0.Lock, zi p0.Cond, zi p0.A.Kind, zi p0.A.Reg, zi p0.A.Sym, zi p0.A.N, zi p0.B.Kind, zi p0.B.Reg, zi p0.B.Sym, zi p0.B.N, .str p0.To, .sl (p0.zLb.map eStr)]] = [(0, .agg [zi p0.Op, .bool p0.Lock, zi p0.Cond, zi p0.A.Kind, zi p0.A.Reg, zi p0.A.Sym, zi p0.A.N, zi p0.B.Kind, zi p0.B.Reg, zi p0.B.Sym, zi p0.B.N, .str p0.To, .sl (p0.zLb.map eStr)])] := rfl
 rw [e0]
 refine W.sq [] [(1, .ptr 0 0 0)] [.cells (zan p0) 0 63] ?_
 refine W.sqh [] [(1, .ptr 0 0 0), (3, .bool ((p0.Op == 10) || (p0.Op == 11)))] ?_
 refine W.seq ?_
 replace ⟨v1, h2, hm⟩ := zam hm
 replace ⟨b3, h4, hm⟩ := zaN hm
 have kh2 := zkU h2
 refine W.sqh [] [(1, .ptr 0 0 0), (3, .bool ((p0.Op == 10) || (p0.Op == 11))), (23, .bool b3)] ?_
 clear h4
 refine W.cnd b3 (fun hb5 => ?_) fun hb5 => ?_
 ·replace hm := zal hb5 hm
  refine W.sq [] [(2, zi 4)] [] ?_
  obtain rfl := zo hm
  exact W.ret (zaI.retW [] RO)
 ·replace hm := zak hb5 hm
  refine W.skip ?_
  refine W.seq ?_
  replace ⟨v6, h7, hm⟩ := zam hm
  have kh7 := fun hg => ziH (zal hg h7)
  try simp only [hb5] at kh7
  refine W.sqh [] [(30, .bool (((p0.Op == 10) || (p0.Op == 11)) && (!v6)))] ?_
  refine W.cnd (((p0.Op == 10) || (p0.Op == 11)) && (!v6)) (fun hb8 => ?_) fun hb8 => ?_
  ·replace hm := zal hb8 hm
   refine W.sqh [] [(2, zi 3)] ?_
   obtain rfl := zo hm
   exact W.ret (zaI.retW [] RO)
  ·replace hm := zak hb8 hm
   refine W.skip ?_
   refine W.sqh [] [(2, zi 0)] ?_
   obtain rfl := zo hm
   exact W.ret (zaI.retW [] RO)
end Go.Proofs.YtocjejladeeckaaGreatDoor
