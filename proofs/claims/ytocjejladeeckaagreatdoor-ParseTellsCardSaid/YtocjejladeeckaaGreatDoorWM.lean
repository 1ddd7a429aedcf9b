import Derived.Test.YtocjejladeeckaaGreatDoorVFacts
import Derived.Test.YtocjejladeeckaaGreatDoorPalM
import Derived.Test.YtocjejladeeckaaGreatDoorWC
import Derived.Test.YtocjejladeeckaaGreatDoorWK
import Derived.Test.YtocjejladeeckaaGreatDoorWL
set_option linter.all false
set_option maxRecDepth 100000
set_option maxHeartbeats 4000000
namespace Go.Proofs.YtocjejladeeckaaGreatDoor
open Go.Vs
variable [TabX]
theorem zhC {p0 : ByteArray} {r : Int × Int × Bool} (hm : zdu p0 = some r) : zaL Tryz.prog 95 [.str p0] (.tuple [zi r.1, zi r.2.1, .bool r.2.2]) := by
 rw [zdu] at hm
 refine zaL.of Tryz.func95 rfl Tryz.ntmps95 (Nat.le_of_ble_eq_true rfl) ?_
 have e0 : argS 0 [.str p0] = [(0, .str p0)] := rfl
 rw [e0]
 refine W.sq [] [(0, .str p0)] [] ?_
 refine W.seq ?_
 refine W.sqh [] [(0, .str p0), (8, .bool (decide (p0 = (⟨#[]⟩ : ByteArray))))] ?_
 refine W.cnd (decide (p0 = (⟨#[]⟩ : ByteArray))) (fun hb1 => ?_) fun hb1 => ?_
 ·replace hm := zal hb1 hm
  refine W.sqh [] [(2, zi 0), (3, zi 0), (4, .bool false)] ?_
  obtain rfl := zo hm
  exact W.ret (zaI.retW [] RO)
 ·replace hm := zak hb1 hm
  refine W.skip ?_
  refine W.seq ?_
  replace ⟨v2, h3, hm⟩ := zam hm
  replace ⟨v4, h5, hm⟩ := zam hm
  have kh3 := zfn h3
  try simp only [hb1] at kh3
  have kh5 := zbd h5
  try simp only [hb1] at kh5
  refine W.sqh [] [(0, .str p0), (5, zi v4)] ?_
  refine W.sqh [] [(0, .str p0), (5, zi v4), (13, .bool (decide (v4 > 0)))] ?_
  refine W.cnd (decide (v4 > 0)) (fun hb6 => ?_) fun hb6 => ?_
  ·replace hm := zal hb6 hm
   refine W.sqh [] [(2, zi v4), (3, zi 0), (4, .bool true)] ?_
   obtain rfl := zo hm
   exact W.ret (zaI.retW [] RO)
  ·replace hm := zak hb6 hm
   refine W.skip ?_
   refine W.seq ?_
   replace ⟨v7, h8, hm⟩ := zam hm
   replace ⟨v9, h10, hm⟩ := zam hm
   have kh8 := zeD h8
   try simp only [hb1, hb6] at kh8
   have kh10 := zbd h10
   try simp only [hb1, hb6] at kh10
   refine W.sqh [] [(6, zi v9)] ?_
   refine W.sqh [] [(6, zi v9), (19, .bool (decide (v9 > 0)))] ?_
   refine W.cnd (decide (v9 > 0)) (fun hb11 => ?_) fun hb11 => ?_
   ·replace hm := zal hb11 hm
    refine W.sqh [] [(2, zi 11), (3, zi v9), (4, .bool true)] ?_
    obtain rfl := zo hm
    exact W.ret (zaI.retW [] RO)
   ·replace hm := zak hb11 hm
    refine W.skip ?_
    refine W.sqh [] [(2, zi 0), (3, zi 0), (4, .bool false)] ?_
    obtain rfl := zo hm
    exact W.ret (zaI.retW [] RO)
theorem zfo {p0 : ByteArray} {r : Int × Bool} (hm : zdh p0 = some r) : zaL Tryz.prog 115 [.str p0] (.tuple [zi r.1, .bool r.2]) := by
 rw [zdh] at hm
 refine zaL.of Tryz.func115 rfl Tryz.ntmps115 (Nat.le_of_ble_eq_true rfl) ?_
 have e0 : argS 0 [.str p0] = [(0, .str p0)] := rfl
 rw [e0]
 refine W.sq [] [(0, .str p0)] [] ?_
 replace ⟨v1, h2, hm⟩ := zam hm
 replace ⟨v3, h4, hm⟩ := zam hm
 have kh2 := ze0 h2
 have kh4 := zbd h4
 refine W.sqh [] [(4, zi v3)] ?_
 refine W.seq ?_
 refine W.sqh [] [(4, zi v3), (9, .bool (decide (v3 < 0)))] ?_
 refine W.cnd (decide (v3 < 0)) (fun hb5 => ?_) fun hb5 => ?_
 ·replace hm := zal hb5 hm
  refine W.sqh [] [(2, zi 0), (3, .bool false)] ?_
  obtain rfl := zo hm
  exact W.ret (zaI.retW [] RO)
 ·replace hm := zak hb5 hm
  refine W.skip ?_
  refine W.sqh [] [(2, zi v3), (3, .bool true)] ?_
  obtain rfl := zo hm
  exact W.ret (zaI.retW [] RO)
theorem zdU {p0 : zat} {w0_ : Nat} {w1_ : Nat} {r : (List ByteArray)} (hm : zcn p0 = some r) : HF Tryz.prog 21 [.agg [zM 0 w0_ 3 p0.zSy, zM 1 w1_ 1 p0.zTh]] [.rows (p0.zSy.map zas) 3 w0_ 54, .rows (p0.zTh.map zaj) 1 w1_ 59] (.sl (r.map eStr)) [.rows (p0.zSy.map zas) 3 w0_ 54, .rows (p0.zTh.map zaj) 1 w1_ 59] := by
 rw [zcn] at hm
 refine HF.of Tryz.func21 rfl Tryz.ntmps21 (Nat.le_of_ble_eq_true rfl) rfl ?_
 have e0 : argS 0 [.agg [zM 0 w0_ 3 p0.zSy, zM 1 w1_ 1 p0.zTh]] = [(0, .agg [zM 0 w0_ 3 p0.zSy, zM 1 w1_ 1 p0.zTh])] := rfl
 rw [e0]
 refine W.sq [] [(1, .ptr 2 0 0)] [.rows (p0.zSy.map zas) 3 w0_ 54, .rows (p0.zTh.map zaj) 1 w1_ 59, .cells [zM 0 w0_ 3 p0.zSy, zM 1 w1_ 1 p0.zTh] 0 30] ?_
 refine W.sqh [] [(1, .ptr 2 0 0), (3, .nils)] ?_
 refine W.seq ?_
 refine W.sqh [] [(1, .ptr 2 0 0), (3, .nils), (4, zi 0)] ?_
 refine W.block ?_
 replace ⟨r24, hlr24, hm⟩ := zam hm
 refine W.mono (Q := fun e0 s0 h0 => e0 = .exit 0 /\ ∃ w : Nat, s0 = [(3, zM 3 w 1 r24)] /\ h0 = [.rows (p0.zSy.map zas) 3 w0_ 54, .rows (p0.zTh.map zaj) 1 w1_ 59, .dead, .rows (r24.map eStr) 1 w 9]) (W.loopM (step := zc1 p0) (a0 := (0, [])) (fun (a : Int × (List ByteArray)) (v : Nat) => ([(1, .ptr 2 0 0), (3, zM 3 v 1 a.2), (4, zi a.1)], [.rows (p0.zSy.map zas) 3 w0_ 54, .rows (p0.zTh.map zaj) 1 w1_ 59, .cells [zM 0 w0_ 3 p0.zSy, zM 1 w1_ 1 p0.zTh] 0 30, .rows (a.2.map eStr) 1 v 9])) 0 hlr24 ⟨[], []⟩ RO ?_) ?_
 ·rintro ⟨i14, l15⟩ w16 x hm hx
  rw [zc1] at hm
  show WK _ _ _ _ _ [(1, .ptr 2 0 0), (3, zM 3 w16 1 l15), (4, zi i14)] [.rows (p0.zSy.map zas) 3 w0_ 54, .rows (p0.zTh.map zaj) 1 w1_ 59, .cells [zM 0 w0_ 3 p0.zSy, zM 1 w1_ 1 p0.zTh] 0 30, .rows (l15.map eStr) 1 w16 9]
  refine W.seq ?_
  refine W.sqh [] [(1, .ptr 2 0 0), (3, zM 3 w16 1 l15), (4, zi i14), (9, .bool (decide (i14 < (p0.zSy.length : Int))))] ?_
  refine W.cnd (decide (i14 < (p0.zSy.length : Int))) (fun hb25 => ?_) fun hb25 => ?_
  ·replace hm := zal hb25 hm
   refine W.skip ?_
   refine W.seq ?_
   refine W.block ?_
   replace ⟨h26, hm⟩ := zav hm
   replace ⟨h27, hm⟩ := zav hm
   replace ⟨l28, h29, hm⟩ := zaN hm
   refine W.rg [] [(1, .ptr 2 0 0), (3, .msl 3 (w16 + 1) 0 1 l28.length l28.length), (4, zi i14)] [.rows (p0.zSy.map zas) 3 w0_ 54, .rows (p0.zTh.map zaj) 1 w1_ 59, .cells [zM 0 w0_ 3 p0.zSy, zM 1 w1_ 1 p0.zTh] 0 30, .rows (l28.map eStr) 1 (w16 + 1) 9] ?_
   clear h29
   refine W.rg [] [(1, .ptr 2 0 0), (3, .msl 3 (w16 + 1) 0 1 l28.length l28.length), (4, zi (zw (i14 + 1)))] [.rows (p0.zSy.map zas) 3 w0_ 54, .rows (p0.zTh.map zaj) 1 w1_ 59, .cells [zM 0 w0_ 3 p0.zSy, zM 1 w1_ 1 p0.zTh] 0 30, .rows (l28.map eStr) 1 (w16 + 1) 9] ?_
   obtain rfl := zo hm
   exact ⟨((zw (i14 + 1)), l28), (w16 + 1), ⟨[], []⟩, rfl, RO⟩
  ·replace hm := zak hb25 hm
   obtain rfl := zo hm
   obtain rfl := hx _ rfl
   exact W.wk ⟨[], []⟩ [(3, zM 3 w16 1 l15)] [.rows (p0.zSy.map zas) 3 w0_ 54, .rows (p0.zTh.map zaj) 1 w1_ 59, .dead, .rows (l15.map eStr) 1 w16 9] (W.exit (show _ /\ _ from ⟨rfl, w16, rfl, rfl⟩))
 ·rintro e0 s0 h0 ⟨rfl, w23, rfl, rfl⟩
  show WK _ _ _ _ _ [(3, zM 3 w23 1 r24)] [.rows (p0.zSy.map zas) 3 w0_ 54, .rows (p0.zTh.map zaj) 1 w1_ 59, .dead, .rows (r24.map eStr) 1 w23 9]
  refine W.sqh [] [(2, zM 3 w23 1 r24)] ?_
  obtain rfl := zo hm
  exact W.ret (zaR.retW ⟨[3], []⟩ RO)
theorem zfX {p0 : (List ByteArray)} {p1 : ByteArray} {w0_ : Nat} {r : Int} (hm : zcN p0 p1 = some r) : HF Tryz.prog 62 [zM 0 w0_ 1 p0, .str p1] [.rows (p0.map eStr) 1 w0_ 9] (zi r) [.rows (p0.map eStr) 1 w0_ 9] := by
 rw [zcN] at hm
 refine HF.of Tryz.func62 rfl Tryz.ntmps62 (Nat.le_of_ble_eq_true rfl) rfl ?_
 have e0 : argS 0 [zM 0 w0_ 1 p0, .str p1] = [(0, zM 0 w0_ 1 p0), (1, .str p1)] := rfl
 rw [e0]
 refine W.sq [] [(0, zM 0 w0_ 1 p0), (1, .str p1)] [.rows (p0.map eStr) 1 w0_ 9] ?_
 refine W.seq ?_
 refine W.sqh [] [(0, zM 0 w0_ 1 p0), (1, .str p1), (5, zi 0)] ?_
 refine W.block ?_
 replace ⟨r13, hlr13, hm⟩ := zam hm
 refine W.mono (Q := fun e0 s0 h0 => match r13 with | .inl e => e0 = .exit 0 /\ ∃ w : Unit, s0 = [] /\ h0 = [.rows (p0.map eStr) 1 w0_ 9] | .inr q => e0 = .ret /\ s0 = [(4, zi q)] /\ h0 = [.rows (p0.map eStr) 1 w0_ 9]) (W.loopM (step := zdo p0 p1) (a0 := 0) (fun (a : Int) (v : Unit) => ([(0, zM 0 w0_ 1 p0), (1, .str p1), (5, zi a)], [.rows (p0.map eStr) 1 w0_ 9])) () hlr13 ⟨[], []⟩ RO ?_) ?_
 ·rintro i9 _ x hm hx
  rw [zdo] at hm
  show WK _ _ _ _ _ [(0, zM 0 w0_ 1 p0), (1, .str p1), (5, zi i9)] [.rows (p0.map eStr) 1 w0_ 9]
  refine W.seq ?_
  refine W.sqh [] [(0, zM 0 w0_ 1 p0), (1, .str p1), (5, zi i9), (9, .bool (decide (i9 < (p0.length : Int))))] ?_
  refine W.cnd (decide (i9 < (p0.length : Int))) (fun hb14 => ?_) fun hb14 => ?_
  ·replace hm := zal hb14 hm
   refine W.skip ?_
   refine W.seq ?_
   refine W.block ?_
   replace ⟨h15, hm⟩ := zav hm
   refine W.sq [] [(0, zM 0 w0_ 1 p0), (1, .str p1), (5, zi i9), (17, .bool (decide ((rd p0 i9) = p1)))] [.rows (p0.map eStr) 1 w0_ 9] ?_
   refine W.cnd (decide ((rd p0 i9) = p1)) (fun hb16 => ?_) fun hb16 => ?_
   ·replace hm := zal hb16 hm
    refine W.sqh [] [(4, zi i9)] ?_
    obtain rfl := zo hm
    obtain rfl := hx _ rfl
    exact W.wk ⟨[], []⟩ [(4, zi i9)] [.rows (p0.map eStr) 1 w0_ 9] (W.ret (show _ /\ _ from ⟨rfl, rfl, rfl⟩))
   ·replace hm := zak hb16 hm
    refine W.skip ?_
    refine W.rg [] [(0, zM 0 w0_ 1 p0), (1, .str p1), (5, zi (zw (i9 + 1)))] [.rows (p0.map eStr) 1 w0_ 9] ?_
    obtain rfl := zo hm
    exact ⟨(zw (i9 + 1)), (), ⟨[], []⟩, rfl, RO⟩
  ·replace hm := zak hb14 hm
   obtain rfl := zo hm
   obtain rfl := hx _ rfl
   exact W.wk ⟨[], []⟩ [] [.rows (p0.map eStr) 1 w0_ 9] (W.exit (show _ /\ _ from ⟨rfl, (), rfl, rfl⟩))
 ·intro e0 s0 h0 hq
  rcases r13 with er13 | qr13
  ·obtain ⟨rfl, _, rfl, rfl⟩ := hq
   replace hm := zcC hm
   show WK _ _ _ _ _ [] [.rows (p0.map eStr) 1 w0_ 9]
   refine W.sqh [] [(4, zi (-1))] ?_
   obtain rfl := zo hm
   exact W.ret (zaR.retW ⟨[], []⟩ RO)
  ·obtain ⟨rfl, rfl, rfl⟩ := hq
   replace hm := zcB hm
   obtain rfl := zo hm
   exact zaR.retW ⟨[], []⟩ RO
theorem zaE {p0 : zaa} {p1 : Int} {p2 : zad} {r : Bool × zaa} (hm : zaF p0 p1 p2 = some r) : HF Tryz.prog 68 [.ptr 0 0 0, zi p1, zqT p2] [.cells (zaf p0) 0 90] (.bool r.1) [.cells (zaf r.2) 0 90] := by
 rw [zaF] at hm
 refine HF.of Tryz.func68 rfl Tryz.ntmps68 (Nat.le_of_ble_eq_true rfl) rfl ?_
 have e0 : argS 0 [.ptr 0 0 0, zi p1, zqT p2] = [(0, .ptr 0 0 0), (1, zi p1), (2, zqT p2)] := rfl
 rw [e0]
 refine W.sq [] [(0, .ptr 0 0 0), (1, zi p1), (5, .ptr 1 0 0)] [.cells (zaf p0) 0 90, .cells (zab p2) 0 41] ?_
 refine W.sq [] [] [zqd p0.T p0.I (zbS p0.P.zSy) (zbT p0.P.zTh) (zbK p0.zHd) (zbL p0.First) (zbL p0.To) (zbI p0.Left) (zbW p0.All) (zbW p0.Wait) p1 p2.Line p2.Col] ?_
 refine W.sqh [] [(6, .bool false)] ?_
 obtain rfl := zo hm
 exact W.ret (zaR.retW ⟨[], []⟩ RO)
theorem zaS {p0 : zaa} {p1 : Int} {p2 : zad} {w1_ : Nat} {r : Bool × zaa} (hm : zaM p0 p1 p2 = some r) : HF Tryz.prog 68 [.ptr 0 0 0, zi p1, zqT p2] [zqa p0 p0.I (zM 1 w1_ 1 p0.Wait), .rows (p0.Wait.map eStr) 1 w1_ 9] (.bool r.1) [zqa r.2 r.2.I (zM 1 w1_ 1 p0.Wait), .rows (p0.Wait.map eStr) 1 w1_ 9] := by
 rw [zaM] at hm
 refine HF.of Tryz.func68 rfl Tryz.ntmps68 (Nat.le_of_ble_eq_true rfl) rfl ?_
 have e0 : argS 0 [.ptr 0 0 0, zi p1, zqT p2] = [(0, .ptr 0 0 0), (1, zi p1), (2, zqT p2)] := rfl
 rw [e0]
 refine W.sq [] [(0, .ptr 0 0 0), (1, zi p1), (5, .ptr 2 0 0)] [zqa p0 p0.I (zM 1 w1_ 1 p0.Wait), .rows (p0.Wait.map eStr) 1 w1_ 9, .cells (zab p2) 0 41] ?_
 refine W.sq [] [] [zqd p0.T p0.I (zbS p0.P.zSy) (zbT p0.P.zTh) (zbK p0.zHd) (zbL p0.First) (zbL p0.To) (zbI p0.Left) (zbW p0.All) (zM 1 w1_ 1 p0.Wait) p1 p2.Line p2.Col, .rows (p0.Wait.map eStr) 1 w1_ 9] ?_
 refine W.sqh [] [(6, .bool false)] ?_
 obtain rfl := zo hm
 exact W.ret (zaR.retW ⟨[], []⟩ RO)
theorem zdH {p0 : zaa} {r : Bool × zaa} (hm : zbz p0 = some r) : HF Tryz.prog 85 [.ptr 0 0 0] [.cells (zaf p0) 0 90] (.bool r.1) [.cells (zaf r.2) 0 90] := by
 rw [zbz] at hm
 refine HF.of Tryz.func85 rfl Tryz.ntmps85 (Nat.le_of_ble_eq_true rfl) rfl ?_
 have e0 : argS 0 [.ptr 0 0 0] = [(0, .ptr 0 0 0)] := rfl
 rw [e0]
 refine W.sq [] [(0, .ptr 0 0 0)] [.cells (zaf p0) 0 90] ?_
 replace ⟨h1, hm⟩ := zav hm
 refine W.sqJ [10, 11] [10, 11] [0, 1, 2, 3, 4, 5, 6, 7, 8, 9] 1 [] [(0, .ptr 0 0 0), (3, .ptr 1 0 0)] [.cells (zaf p0) 0 90, .cells (zab (rd p0.T p0.I)) 0 41] zaC ?_
 refine W.seq ?_
 refine W.sqh [] [(0, .ptr 0 0 0), (3, .ptr 1 0 0), (16, .bool ((rd p0.T p0.I).Kind != 1))] ?_
 refine W.cnd ((rd p0.T p0.I).Kind != 1) (fun hb2 => ?_) fun hb2 => ?_
 ·replace hm := zal hb2 hm
  replace ⟨v3, h4, hm⟩ := zam hm
  refine W.sq [] [(2, .bool v3.1)] [.cells (zaf v3.2) 0 90] ?_ (hrun := ?_)
  rotate_left
  ·try simp -implicitDefEqProofs -dsimp only [go_sem, h1, hb2]
   with_reducible refine exP.mk (.gheap [] ⟨[], [0], [.ptr 0 0 0, zi 4, zqT (rd p0.T p0.I)], [.cells (zaf p0) 0 90], .bool v3.1, [.cells (zaf v3.2) 0 90]⟩ []) (callQ.ofG (by simp -implicitDefEqProofs -dsimp only [go_sem, h1, hb2]) (zaE h4)) ?_
   try simp -implicitDefEqProofs -dsimp only [go_sem, h1, hb2]
  obtain rfl := zo hm
  exact W.ret (zaR.retW ⟨[], []⟩ RO)
 ·replace hm := zak hb2 hm
  refine W.skip ?_
  refine W.seq ?_
  replace ⟨v5, h6, hm⟩ := zam hm
  have kh6 := zeZ h6
  try simp only [hb2] at kh6
  refine W.sq [] [(0, .ptr 0 0 0), (3, .ptr 1 0 0), (22, .bool v5)] [.cells (zaf p0) 0 90, .cells (zab (rd p0.T p0.I)) 0 41] ?_
  refine W.cnd v5 (fun hb7 => ?_) fun hb7 => ?_
  ·replace hm := zal hb7 hm
   replace ⟨v8, h9, hm⟩ := zam hm
   refine W.sq [] [(2, .bool v8.1)] [.cells (zaf v8.2) 0 90] ?_ (hrun := ?_)
   rotate_left
   ·try simp -implicitDefEqProofs -dsimp only [go_sem, h1, hb2, hb7]
    with_reducible refine exP.mk (.gheap [] ⟨[], [0], [.ptr 0 0 0, zi 3, zqT (rd p0.T p0.I)], [.cells (zaf p0) 0 90], .bool v8.1, [.cells (zaf v8.2) 0 90]⟩ []) (callQ.ofG (by simp -implicitDefEqProofs -dsimp only [go_sem, h1, hb2, hb7]) (zaE h9)) ?_
    try simp -implicitDefEqProofs -dsimp only [go_sem, h1, hb2, hb7]
   obtain rfl := zo hm
   exact W.ret (zaR.retW ⟨[], []⟩ RO)
  ·replace hm := zak hb7 hm
   refine W.skip ?_
   refine W.sq [] [(2, .bool true)] [.cells (zaf p0) 0 90] ?_
   obtain rfl := zo hm
   exact W.ret (zaR.retW ⟨[], []⟩ RO)
theorem zdn {p0 : zaa} {w1_ : Nat} {r : Bool × zaa} (hm : zbn p0 = some r) : HF Tryz.prog 85 [.ptr 0 0 0] [zqa p0 p0.I (zM 1 w1_ 1 p0.Wait), .rows (p0.Wait.map eStr) 1 w1_ 9] (.bool r.1) [zqa r.2 r.2.I (zM 1 w1_ 1 p0.Wait), .rows (p0.Wait.map eStr) 1 w1_ 9] := by
 rw [zbn] at hm
 refine HF.of Tryz.func85 rfl Tryz.ntmps85 (Nat.le_of_ble_eq_true rfl) rfl ?_
 have e0 : argS 0 [.ptr 0 0 0] = [(0, .ptr 0 0 0)] := rfl
 rw [e0]
 refine W.sq [] [(0, .ptr 0 0 0)] [zqa p0 p0.I (zM 1 w1_ 1 p0.Wait), .rows (p0.Wait.map eStr) 1 w1_ 9] ?_
 replace ⟨h1, hm⟩ := zav hm
 refine W.sqJ [10, 11] [10, 11] [0, 1, 2, 3, 4, 5, 6, 7, 8, 9] 2 [] [(0, .ptr 0 0 0), (3, .ptr 2 0 0)] [zqa p0 p0.I (zM 1 w1_ 1 p0.Wait), .rows (p0.Wait.map eStr) 1 w1_ 9, .cells (zab (rd p0.T p0.I)) 0 41] zaC ?_
 refine W.seq ?_
 refine W.sqh [] [(0, .ptr 0 0 0), (3, .ptr 2 0 0), (16, .bool ((rd p0.T p0.I).Kind != 1))] ?_
 refine W.cnd ((rd p0.T p0.I).Kind != 1) (fun hb2 => ?_) fun hb2 => ?_
 ·replace hm := zal hb2 hm
  replace ⟨v3, h4, hm⟩ := zam hm
  refine W.sq [] [(2, .bool v3.1)] [zqa v3.2 v3.2.I (zM 1 w1_ 1 p0.Wait), .rows (p0.Wait.map eStr) 1 w1_ 9] ?_ (hrun := ?_)
  rotate_left
  ·try simp -implicitDefEqProofs -dsimp only [go_sem, h1, hb2]
   with_reducible refine exP.mk (.gheap [] ⟨[], [0, 1], [.ptr 0 0 0, zi 4, zqT (rd p0.T p0.I)], [zqa p0 p0.I (zM 1 w1_ 1 p0.Wait), .rows (p0.Wait.map eStr) 1 w1_ 9], .bool v3.1, [zqa v3.2 v3.2.I (zM 1 w1_ 1 p0.Wait), .rows (p0.Wait.map eStr) 1 w1_ 9]⟩ []) (callQ.ofG (by simp -implicitDefEqProofs -dsimp only [go_sem, h1, hb2]) (zaS h4)) ?_
   try simp -implicitDefEqProofs -dsimp only [go_sem, h1, hb2]
  obtain rfl := zo hm
  exact W.ret (zaR.retW ⟨[], []⟩ RO)
 ·replace hm := zak hb2 hm
  refine W.skip ?_
  refine W.seq ?_
  replace ⟨v5, h6, hm⟩ := zam hm
  have kh6 := zeZ h6
  try simp only [hb2] at kh6
  refine W.sq [] [(0, .ptr 0 0 0), (3, .ptr 2 0 0), (22, .bool v5)] [zqa p0 p0.I (zM 1 w1_ 1 p0.Wait), .rows (p0.Wait.map eStr) 1 w1_ 9, .cells (zab (rd p0.T p0.I)) 0 41] ?_
  refine W.cnd v5 (fun hb7 => ?_) fun hb7 => ?_
  ·replace hm := zal hb7 hm
   replace ⟨v8, h9, hm⟩ := zam hm
   refine W.sq [] [(2, .bool v8.1)] [zqa v8.2 v8.2.I (zM 1 w1_ 1 p0.Wait), .rows (p0.Wait.map eStr) 1 w1_ 9] ?_ (hrun := ?_)
   rotate_left
   ·try simp -implicitDefEqProofs -dsimp only [go_sem, h1, hb2, hb7]
    with_reducible refine exP.mk (.gheap [] ⟨[], [0, 1], [.ptr 0 0 0, zi 3, zqT (rd p0.T p0.I)], [zqa p0 p0.I (zM 1 w1_ 1 p0.Wait), .rows (p0.Wait.map eStr) 1 w1_ 9], .bool v8.1, [zqa v8.2 v8.2.I (zM 1 w1_ 1 p0.Wait), .rows (p0.Wait.map eStr) 1 w1_ 9]⟩ []) (callQ.ofG (by simp -implicitDefEqProofs -dsimp only [go_sem, h1, hb2, hb7]) (zaS h9)) ?_
    try simp -implicitDefEqProofs -dsimp only [go_sem, h1, hb2, hb7]
   obtain rfl := zo hm
   exact W.ret (zaR.retW ⟨[], []⟩ RO)
  ·replace hm := zak hb7 hm
   refine W.skip ?_
   refine W.sq [] [(2, .bool true)] [zqa p0 p0.I (zM 1 w1_ 1 p0.Wait), .rows (p0.Wait.map eStr) 1 w1_ 9] ?_
   obtain rfl := zo hm
   exact W.ret (zaR.retW ⟨[], []⟩ RO)
theorem zc6 {p0 : zaa} {w1_ : Nat} {r : zau × Bool × zaa} (hm : za8 p0 = some r) : HF Tryz.prog 105 [.ptr 0 0 0] [zqa p0 p0.I (zM 1 w1_ 1 p0.Wait), .rows (p0.Wait.map eStr) 1 w1_ 9] (.tuple [.agg [zi r.1.Kind, zi r.1.Reg, zi r.1.Sym, zi r.1.N], .bool r.2.1]) [zqa r.2.2 r.2.2.I (zM 1 w1_ 1 p0.Wait), .rows (p0.Wait.map eStr) 1 w1_ 9] := by
 rw [za8] at hm
 refine HF.of Tryz.func105 rfl Tryz.ntmps105 (Nat.le_of_ble_eq_true rfl) rfl ?_
 have e0 : argS 0 [.ptr 0 0 0] = [(0, .ptr 0 0 0)] := rfl
 rw [e0]
 refine W.sq [] [(0, .ptr 0 0 0), (2, .ptr 2 0 0)] [zqa p0 p0.I (zM 1 w1_ 1 p0.Wait), .rows (p0.Wait.map eStr) 1 w1_ 9, .cells [zi 0, zi 0, zi 0, zi 0] 0 61] ?_
 replace ⟨h1, hm⟩ := zav hm
 refine W.sqJ [10, 11] [10, 11] [0, 1, 2, 3, 4, 5, 6, 7, 8, 9] 3 [] [(0, .ptr 0 0 0), (2, .ptr 2 0 0), (4, .ptr 3 0 0)] [zqa p0 p0.I (zM 1 w1_ 1 p0.Wait), .rows (p0.Wait.map eStr) 1 w1_ 9, .cells [zi 0, zi 0, zi 0, zi 0] 0 61, .cells (zab (rd p0.T p0.I)) 0 41] zaC ?_
 refine W.seq ?_
 refine W.sqh [] [(0, .ptr 0 0 0), (2, .ptr 2 0 0), (4, .ptr 3 0 0), (24, .bool ((rd p0.T p0.I).Kind == 2))] ?_
 refine W.cnd ((rd p0.T p0.I).Kind == 2) (fun hb2 => ?_) fun hb2 => ?_
 ·replace hm := zal hb2 hm
  replace ⟨v3, h4, hm⟩ := zam hm
  have kh4 := zcP h4
  try simp only [hb2] at kh4
  refine W.sq [] [(0, .ptr 0 0 0), (2, .ptr 2 0 0), (5, zi v3.1)] [zqa p0 p0.I (zM 1 w1_ 1 p0.Wait), .rows (p0.Wait.map eStr) 1 w1_ 9, .cells [zi 0, zi 0, zi 0, zi 0] 0 61] ?_
  refine W.sq [] [(2, .ptr 2 0 0), (5, zi v3.1)] [zqa p0 (zw (p0.I + 1)) (zM 1 w1_ 1 p0.Wait), .rows (p0.Wait.map eStr) 1 w1_ 9, .cells [zi 0, zi 0, zi 0, zi 0] 0 61] ?_
  refine W.sq [] [(2, .ptr 2 0 0), (3, .bool true)] [zqa p0 (zw (p0.I + 1)) (zM 1 w1_ 1 p0.Wait), .rows (p0.Wait.map eStr) 1 w1_ 9, .cells [zi 2, zi 0, zi 0, zi v3.1] 0 61] ?_
  obtain rfl := zo hm
  exact W.ret (zaR.retW ⟨[], []⟩ RO)
 ·replace hm := zak hb2 hm
  refine W.skip ?_
  refine W.seq ?_
  replace ⟨v5, h6, hm⟩ := zam hm
  have kh6 := zfo h6
  try simp only [hb2] at kh6
  refine W.sq [] [(0, .ptr 0 0 0), (2, .ptr 2 0 0), (4, .ptr 3 0 0), (7, zi v5.1), (8, .bool v5.2)] [zqa p0 p0.I (zM 1 w1_ 1 p0.Wait), .rows (p0.Wait.map eStr) 1 w1_ 9, .cells [zi 0, zi 0, zi 0, zi 0] 0 61, .cells (zab (rd p0.T p0.I)) 0 41] ?_
  refine W.sqh [] [(0, .ptr 0 0 0), (2, .ptr 2 0 0), (4, .ptr 3 0 0), (7, zi v5.1), (51, .bool (v5.2 && ((rd p0.T p0.I).Kind == 1)))] ?_
  refine W.cnd (v5.2 && ((rd p0.T p0.I).Kind == 1)) (fun hb7 => ?_) fun hb7 => ?_
  ·replace hm := zal hb7 hm
   refine W.sq [] [(2, .ptr 2 0 0), (7, zi v5.1)] [zqa p0 (zw (p0.I + 1)) (zM 1 w1_ 1 p0.Wait), .rows (p0.Wait.map eStr) 1 w1_ 9, .cells [zi 0, zi 0, zi 0, zi 0] 0 61] ?_
   refine W.sq [] [(2, .ptr 2 0 0), (3, .bool true)] [zqa p0 (zw (p0.I + 1)) (zM 1 w1_ 1 p0.Wait), .rows (p0.Wait.map eStr) 1 w1_ 9, .cells [zi 1, zi v5.1, zi 0, zi 0] 0 61] ?_
   obtain rfl := zo hm
   exact W.ret (zaR.retW ⟨[], []⟩ RO)
  ·replace hm := zak hb7 hm
   refine W.skip ?_
   refine W.seq ?_
   replace ⟨v8, h9, hm⟩ := zam hm
   refine W.sq [] [(0, .ptr 0 0 0), (2, .ptr 2 0 0), (4, .ptr 3 0 0), (63, .bool (!v8.1))] [zqa v8.2 v8.2.I (zM 1 w1_ 1 p0.Wait), .rows (p0.Wait.map eStr) 1 w1_ 9, .cells [zi 0, zi 0, zi 0, zi 0] 0 61, .cells (zab (rd p0.T p0.I)) 0 41] ?_ (hrun := ?_)
   rotate_left
   ·try simp -implicitDefEqProofs -dsimp only [go_sem, h1, hb2, hb7]
    with_reducible refine exP.mk (.gheap [] ⟨[], [0, 1], [.ptr 0 0 0], [zqa p0 p0.I (zM 1 w1_ 1 p0.Wait), .rows (p0.Wait.map eStr) 1 w1_ 9], .bool v8.1, [zqa v8.2 v8.2.I (zM 1 w1_ 1 p0.Wait), .rows (p0.Wait.map eStr) 1 w1_ 9]⟩ []) (callQ.ofG (by simp -implicitDefEqProofs -dsimp only [go_sem, h1, hb2, hb7]) (zdn h9)) ?_
    try simp -implicitDefEqProofs -dsimp only [go_sem, h1, hb2, hb7]
   refine W.cnd (!v8.1) (fun hb10 => ?_) fun hb10 => ?_
   ·replace hm := zal hb10 hm
    refine W.sq [] [(2, .ptr 2 0 0), (3, .bool false)] [zqa v8.2 v8.2.I (zM 1 w1_ 1 p0.Wait), .rows (p0.Wait.map eStr) 1 w1_ 9, .cells [zi 0, zi 0, zi 0, zi 0] 0 61] ?_
    obtain rfl := zo hm
    exact W.ret (zaR.retW ⟨[], []⟩ RO)
   ·replace hm := zak hb10 hm
    refine W.skip ?_
    replace ⟨v11, h12, hm⟩ := zam hm
    replace ⟨v13, h14, hm⟩ := zam hm
    refine W.wk ⟨[], [.foc 0 0 2, .foc 0 0 3]⟩ [(0, .ptr 0 0 0), (2, .ptr 2 0 0), (4, .ptr 3 0 0), (63, .bool (!v8.1))] [zqb v8.2 v8.2.I (zM 4 1 3 v8.2.P.zSy) (zM 5 1 1 v8.2.P.zTh) (zM 1 w1_ 1 p0.Wait), .rows (p0.Wait.map eStr) 1 w1_ 9, .cells [zi 0, zi 0, zi 0, zi 0] 0 61, .cells (zab (rd p0.T p0.I)) 0 41, .rows (v8.2.P.zSy.map zas) 3 1 54, .rows (v8.2.P.zTh.map zaj) 1 1 59] ?_
    refine W.wk ⟨[], [.res]⟩ [(0, .ptr 0 0 0), (2, .ptr 2 0 0), (4, .ptr 3 0 0), (63, .bool (!v8.1))] [zqb v8.2 v8.2.I (zM 4 1 3 v8.2.P.zSy) (zM 5 1 1 v8.2.P.zTh) (zM 1 w1_ 1 p0.Wait), .rows (p0.Wait.map eStr) 1 w1_ 9, .cells [zi 0, zi 0, zi 0, zi 0] 0 61, .cells (zab (rd p0.T p0.I)) 0 41, .rows (v8.2.P.zSy.map zas) 3 1 54, .rows (v8.2.P.zTh.map zaj) 1 1 59, .hole] ?_
    refine W.sqLG [.light, .light, .light, .light, .callh, .light, .light, .call, .light, .here 6, .store] [([], []), ([], []), ([], []), ([0], []), ([4, 5], [4, 5]), ([], []), ([3], []), ([], []), ([], []), ([6], [6]), ([6], [6])] [] [.fol 0 0 2, .fol 0 0 3] [(0, .ptr 0 0 0), (2, .ptr 2 0 0), (4, .ptr 3 0 0), (9, .ptr 6 0 0)] [zqa v8.2 v8.2.I (zM 1 w1_ 1 p0.Wait), .rows (p0.Wait.map eStr) 1 w1_ 9, .cells [zi 0, zi 0, zi 0, zi 0] 0 61, .cells (zab (rd p0.T p0.I)) 0 41, .dead, .dead, .cells [zi 0, zi 0, zi v13, zi 0] 0 61] zaC ?_ (hrun := ?_)
    rotate_left
    ·try simp -implicitDefEqProofs -dsimp only [go_sem, h1, hb2, hb7, hb10]
     with_reducible refine exP.mk ⟨[], [4, 5], [.agg [zM 0 1 3 v8.2.P.zSy, zM 1 1 1 v8.2.P.zTh]], [.rows (v8.2.P.zSy.map zas) 3 1 54, .rows (v8.2.P.zTh.map zaj) 1 1 59], .sl (v11.map eStr), [.rows (v8.2.P.zSy.map zas) 3 1 54, .rows (v8.2.P.zTh.map zaj) 1 1 59]⟩ (zgH.of (by simp -implicitDefEqProofs -dsimp only [go_sem, h1, hb2, hb7, hb10]) (zdU h12)) ?_
     try simp -implicitDefEqProofs -dsimp only [go_sem, h1, hb2, hb7, hb10]
     with_reducible refine exP.mk _ (by have hk := zbd h14; (try simp only [hb2, hb7, hb10] at hk); (try simp only [List.map_cons, List.map_nil, eStr, eInt] at hk); exact hk) ?_
     try simp -implicitDefEqProofs -dsimp only [go_sem, h1, hb2, hb7, hb10]
    refine W.seq ?_
    refine W.sqh [] [(0, .ptr 0 0 0), (2, .ptr 2 0 0), (4, .ptr 3 0 0), (9, .ptr 6 0 0), (76, .bool (decide (v13 < 0)))] ?_
    refine W.cnd (decide (v13 < 0)) (fun hb15 => ?_) fun hb15 => ?_
    ·replace hm := zal hb15 hm
     replace ⟨v16, h17, hm⟩ := zam hm
     refine W.sq [] [(2, .ptr 2 0 0), (3, .bool v16.1)] [zqa v16.2 v16.2.I (zM 1 w1_ 1 p0.Wait), .rows (p0.Wait.map eStr) 1 w1_ 9, .cells [zi 0, zi 0, zi 0, zi 0] 0 61] ?_ (hrun := ?_)
     rotate_left
     ·try simp -implicitDefEqProofs -dsimp only [go_sem, h1, hb2, hb7, hb10, hb15]
      with_reducible refine exP.mk (.gheap [] ⟨[], [0, 1], [.ptr 0 0 0, zi 7, zqT (rd p0.T p0.I)], [zqa v8.2 v8.2.I (zM 1 w1_ 1 p0.Wait), .rows (p0.Wait.map eStr) 1 w1_ 9], .bool v16.1, [zqa v16.2 v16.2.I (zM 1 w1_ 1 p0.Wait), .rows (p0.Wait.map eStr) 1 w1_ 9]⟩ []) (callQ.ofG (by simp -implicitDefEqProofs -dsimp only [go_sem, h1, hb2, hb7, hb10, hb15]) (zaS h17)) ?_
      try simp -implicitDefEqProofs -dsimp only [go_sem, h1, hb2, hb7, hb10, hb15]
     obtain rfl := zo hm
     exact W.ret (zaR.retW ⟨[], []⟩ RO)
    ·replace hm := zak hb15 hm
     refine W.skip ?_
     refine W.sq [] [(0, .ptr 0 0 0), (2, .ptr 2 0 0), (4, .ptr 3 0 0), (9, .ptr 6 0 0)] [zqa v8.2 (zw (v8.2.I + 1)) (zM 1 w1_ 1 p0.Wait), .rows (p0.Wait.map eStr) 1 w1_ 9, .cells [zi 0, zi 0, zi 0, zi 0] 0 61, .cells (zab (rd p0.T p0.I)) 0 41, .dead, .dead, .cells [zi 0, zi 0, zi v13, zi 0] 0 61] ?_
     refine W.seq ?_
     replace ⟨h18, hm⟩ := zav hm
     replace ⟨h19, hm⟩ := zav hm
     replace ⟨b20, h21, hm⟩ := zaN hm
     refine W.sqJ [] [] [] 0 [] [(0, .ptr 0 0 0), (2, .ptr 2 0 0), (4, .ptr 3 0 0), (9, .ptr 6 0 0), (113, .bool b20)] [zqa v8.2 (zw (v8.2.I + 1)) (zM 1 w1_ 1 p0.Wait), .rows (p0.Wait.map eStr) 1 w1_ 9, .cells [zi 0, zi 0, zi 0, zi 0] 0 61, .cells (zab (rd p0.T p0.I)) 0 41, .dead, .dead, .cells [zi 0, zi 0, zi v13, zi 0] 0 61] zaC ?_
     clear h21
     refine W.cnd b20 (fun hb22 => ?_) fun hb22 => ?_
     ·replace hm := zal hb22 hm
      replace ⟨h23, hm⟩ := zav hm
      replace ⟨v24, h25, hm⟩ := zam hm
      refine W.sqL [.light, .light, .light, .light, .light, .light, .light, .light, .light, .light, .light, .light, .callh, .store, .light] [([], []), ([], []), ([], []), ([], []), ([], []), ([0], []), ([], []), ([], []), ([], []), ([0], []), ([], []), ([], []), ([0, 1], [0, 1]), ([2], [2]), ([], [])] [] [(2, .ptr 2 0 0), (3, .bool v24.1)] [zqa v24.2 v24.2.I (zM 1 w1_ 1 p0.Wait), .rows (p0.Wait.map eStr) 1 w1_ 9, .cells [zi 0, zi 0, zi 0, zi 0] 0 61] zaC ?_ (hrun := ?_)
      rotate_left
      ·try simp -implicitDefEqProofs -dsimp only [go_sem, h1, hb2, hb7, hb10, hb15, h18, h19, hb22, h23]
       with_reducible refine exP.mk ⟨[], [0, 1], [.ptr 0 0 0, zi 4, zqT (rd v8.2.T (zw (v8.2.I + 1)))], [zqa v8.2 (zw (v8.2.I + 1)) (zM 1 w1_ 1 p0.Wait), .rows (p0.Wait.map eStr) 1 w1_ 9], .bool v24.1, [zqa v24.2 v24.2.I (zM 1 w1_ 1 p0.Wait), .rows (p0.Wait.map eStr) 1 w1_ 9]⟩ (zgH.of (by simp -implicitDefEqProofs -dsimp only [go_sem, h1, hb2, hb7, hb10, hb15, h18, h19, hb22, h23]) (zaS h25)) ?_
       try simp -implicitDefEqProofs -dsimp only [go_sem, h1, hb2, hb7, hb10, hb15, h18, h19, hb22, h23]
      obtain rfl := zo hm
      exact W.ret (zaR.retW ⟨[], []⟩ RO)
     ·replace hm := zak hb22 hm
      refine W.skip ?_
      refine W.sq [] [(0, .ptr 0 0 0), (2, .ptr 2 0 0), (4, .ptr 3 0 0), (9, .ptr 6 0 0)] [zqa v8.2 (zw ((zw (v8.2.I + 1)) + 1)) (zM 1 w1_ 1 p0.Wait), .rows (p0.Wait.map eStr) 1 w1_ 9, .cells [zi 0, zi 0, zi 0, zi 0] 0 61, .cells (zab (rd p0.T p0.I)) 0 41, .dead, .dead, .cells [zi 0, zi 0, zi v13, zi 0] 0 61] ?_
      replace ⟨h26, hm⟩ := zav hm
      replace ⟨n27, h28, hm⟩ := zaN hm
      replace ⟨n29, h30, hm⟩ := zaN hm
      replace ⟨n31, h32, hm⟩ := zaN hm
      replace ⟨s33, h34, hm⟩ := zaN hm
      refine W.sqJ [10] [] [] 0 [] [(0, .ptr 0 0 0), (2, .ptr 2 0 0), (4, .ptr 3 0 0), (9, .ptr 6 0 0)] [zqa v8.2 (zw ((zw (v8.2.I + 1)) + 1)) (zM 1 w1_ 1 p0.Wait), .rows (p0.Wait.map eStr) 1 w1_ 9, .cells [zi 0, zi 0, zi 0, zi 0] 0 61, .cells [zi n27, zi n29, zi n31, .str s33] 0 41, .dead, .dead, .cells [zi 0, zi 0, zi v13, zi 0] 0 61] zaC ?_
      clear h28 h30 h32 h34
      replace ⟨v35, h36, hm⟩ := zam hm
      have kh36 := zfo h36
      try simp only [hb2, hb7, hb10, hb15, hb22] at kh36
      refine W.sq [] [(0, .ptr 0 0 0), (2, .ptr 2 0 0), (4, .ptr 3 0 0), (9, .ptr 6 0 0), (10, zi v35.1), (11, .bool v35.2)] [zqa v8.2 (zw ((zw (v8.2.I + 1)) + 1)) (zM 1 w1_ 1 p0.Wait), .rows (p0.Wait.map eStr) 1 w1_ 9, .cells [zi 0, zi 0, zi 0, zi 0] 0 61, .cells [zi n27, zi n29, zi n31, .str s33] 0 41, .dead, .dead, .cells [zi 0, zi 0, zi v13, zi 0] 0 61] ?_
      refine W.cut (fun s h => ∃ (v : Int × Int × Int) (w : Unit) (F : Gs), zaX v8 p0 v13 v.1 v.2.1 v.2.2 = some r /\ AT 2 F [(0, .ptr 0 0 0), (2, .ptr 2 0 0), (9, .ptr 6 0 0)] [zqa v8.2 (zw ((zw (v8.2.I + 1)) + 1)) (zM 1 w1_ 1 p0.Wait), .rows (p0.Wait.map eStr) 1 w1_ 9, .cells [zi 0, zi 0, zi 0, zi 0] 0 61, .dead, .dead, .dead, .cells [zi v.1, zi v.2.1, zi v13, zi v.2.2] 0 61] s h) ?_ ?_
      ·refine W.block ?_
       refine W.sq [] [(0, .ptr 0 0 0), (2, .ptr 2 0 0), (4, .ptr 3 0 0), (9, .ptr 6 0 0), (10, zi v35.1), (11, .bool v35.2), (154, .bool (n27 == 2))] [zqa v8.2 (zw ((zw (v8.2.I + 1)) + 1)) (zM 1 w1_ 1 p0.Wait), .rows (p0.Wait.map eStr) 1 w1_ 9, .cells [zi 0, zi 0, zi 0, zi 0] 0 61, .cells [zi n27, zi n29, zi n31, .str s33] 0 41, .dead, .dead, .cells [zi 0, zi 0, zi v13, zi 0] 0 61] ?_
       refine W.cnd (n27 == 2) (fun hb48 => ?_) fun hb48 => ?_
       ·replace hm := zal hb48 hm
        refine W.sq [] [(0, .ptr 0 0 0), (2, .ptr 2 0 0), (4, .ptr 3 0 0), (9, .ptr 6 0 0)] [zqa v8.2 (zw ((zw (v8.2.I + 1)) + 1)) (zM 1 w1_ 1 p0.Wait), .rows (p0.Wait.map eStr) 1 w1_ 9, .cells [zi 0, zi 0, zi 0, zi 0] 0 61, .cells [zi n27, zi n29, zi n31, .str s33] 0 41, .dead, .dead, .cells [zi 3, zi 0, zi v13, zi 0] 0 61] ?_
        replace ⟨v49, h50, hm⟩ := zam hm
        have kh50 := zcP h50
        try simp only [hb2, hb7, hb10, hb15, hb22, hb48] at kh50
        refine W.sq [] [(0, .ptr 0 0 0), (2, .ptr 2 0 0), (4, .ptr 3 0 0), (9, .ptr 6 0 0)] [zqa v8.2 (zw ((zw (v8.2.I + 1)) + 1)) (zM 1 w1_ 1 p0.Wait), .rows (p0.Wait.map eStr) 1 w1_ 9, .cells [zi 0, zi 0, zi 0, zi 0] 0 61, .cells [zi n27, zi n29, zi n31, .str s33] 0 41, .dead, .dead, .cells [zi 3, zi 0, zi v13, zi v49.1] 0 61] ?_
        replace ⟨h51, hm⟩ := zav hm
        refine W.wk ⟨[], [.foc 0 0 2]⟩ [(0, .ptr 0 0 0), (2, .ptr 2 0 0), (4, .ptr 3 0 0), (9, .ptr 6 0 0)] [zqb v8.2 (zw ((zw (v8.2.I + 1)) + 1)) (zM 7 1 3 v8.2.P.zSy) (zbT v8.2.P.zTh) (zM 1 w1_ 1 p0.Wait), .rows (p0.Wait.map eStr) 1 w1_ 9, .cells [zi 0, zi 0, zi 0, zi 0] 0 61, .cells [zi n27, zi n29, zi n31, .str s33] 0 41, .dead, .dead, .cells [zi 3, zi 0, zi v13, zi v49.1] 0 61, .rows (v8.2.P.zSy.map zas) 3 1 54] ?_
        refine W.sqJG [] [] [] 0 [] [.fol 0 0 2] [(0, .ptr 0 0 0), (2, .ptr 2 0 0), (4, .ptr 3 0 0), (9, .ptr 6 0 0), (183, .bool (decide (v49.1 < 0) || decide (v49.1 ≥ (rd v8.2.P.zSy v13).Size)))] [zqa v8.2 (zw ((zw (v8.2.I + 1)) + 1)) (zM 1 w1_ 1 p0.Wait), .rows (p0.Wait.map eStr) 1 w1_ 9, .cells [zi 0, zi 0, zi 0, zi 0] 0 61, .cells [zi n27, zi n29, zi n31, .str s33] 0 41, .dead, .dead, .cells [zi 3, zi 0, zi v13, zi v49.1] 0 61] zaC ?_
        refine W.cnd (decide (v49.1 < 0) || decide (v49.1 ≥ (rd v8.2.P.zSy v13).Size)) (fun hb52 => ?_) fun hb52 => ?_
        ·replace hm := zal hb52 hm
         replace ⟨v53, h54, hm⟩ := zam hm
         refine W.sq [] [(2, .ptr 2 0 0), (3, .bool v53.1)] [zqa v53.2 v53.2.I (zM 1 w1_ 1 p0.Wait), .rows (p0.Wait.map eStr) 1 w1_ 9, .cells [zi 0, zi 0, zi 0, zi 0] 0 61] ?_ (hrun := ?_)
         rotate_left
         ·try simp -implicitDefEqProofs -dsimp only [go_sem, h1, hb2, hb7, hb10, hb15, h18, h19, hb22, h26, hb48, h51, hb52]
          with_reducible refine exP.mk (.gheap [] ⟨[], [0, 1], [.ptr 0 0 0, zi 8, zqT (zad.mk n27 n29 n31 s33)], [zqa v8.2 (zw ((zw (v8.2.I + 1)) + 1)) (zM 1 w1_ 1 p0.Wait), .rows (p0.Wait.map eStr) 1 w1_ 9], .bool v53.1, [zqa v53.2 v53.2.I (zM 1 w1_ 1 p0.Wait), .rows (p0.Wait.map eStr) 1 w1_ 9]⟩ []) (callQ.ofG (by simp -implicitDefEqProofs -dsimp only [go_sem, h1, hb2, hb7, hb10, hb15, h18, h19, hb22, h26, hb48, h51, hb52]) (zaS h54)) ?_
          try simp -implicitDefEqProofs -dsimp only [go_sem, h1, hb2, hb7, hb10, hb15, h18, h19, hb22, h26, hb48, h51, hb52]
         obtain rfl := zo hm
         exact W.ret (zaR.retW ⟨[], []⟩ RO)
        ·replace hm := zak hb52 hm
         refine W.skip ?_
         exact ⟨(3, 0, v49.1), (), ⟨[], []⟩, hm, RO⟩
       ·replace hm := zak hb48 hm
        refine W.sq [] [(0, .ptr 0 0 0), (2, .ptr 2 0 0), (4, .ptr 3 0 0), (9, .ptr 6 0 0), (10, zi v35.1), (188, .bool (v35.2 && (n27 == 1)))] [zqa v8.2 (zw ((zw (v8.2.I + 1)) + 1)) (zM 1 w1_ 1 p0.Wait), .rows (p0.Wait.map eStr) 1 w1_ 9, .cells [zi 0, zi 0, zi 0, zi 0] 0 61, .cells [zi n27, zi n29, zi n31, .str s33] 0 41, .dead, .dead, .cells [zi 0, zi 0, zi v13, zi 0] 0 61] ?_
        refine W.cnd (v35.2 && (n27 == 1)) (fun hb55 => ?_) fun hb55 => ?_
        ·replace hm := zal hb55 hm
         refine W.rg [] [(0, .ptr 0 0 0), (2, .ptr 2 0 0), (9, .ptr 6 0 0)] [zqa v8.2 (zw ((zw (v8.2.I + 1)) + 1)) (zM 1 w1_ 1 p0.Wait), .rows (p0.Wait.map eStr) 1 w1_ 9, .cells [zi 0, zi 0, zi 0, zi 0] 0 61, .dead, .dead, .dead, .cells [zi 4, zi v35.1, zi v13, zi 0] 0 61] ?_
         exact ⟨(4, v35.1, 0), (), ⟨[], []⟩, hm, RO⟩
        ·replace hm := zak hb55 hm
         replace ⟨v56, h57, hm⟩ := zam hm
         refine W.sq [] [(2, .ptr 2 0 0), (3, .bool v56.1)] [zqa v56.2 v56.2.I (zM 1 w1_ 1 p0.Wait), .rows (p0.Wait.map eStr) 1 w1_ 9, .cells [zi 0, zi 0, zi 0, zi 0] 0 61] ?_ (hrun := ?_)
         rotate_left
         ·try simp -implicitDefEqProofs -dsimp only [go_sem, h1, hb2, hb7, hb10, hb15, h18, h19, hb22, h26, hb48, hb55]
          with_reducible refine exP.mk (.gheap [] ⟨[], [0, 1], [.ptr 0 0 0, zi 4, zqT (zad.mk n27 n29 n31 s33)], [zqa v8.2 (zw ((zw (v8.2.I + 1)) + 1)) (zM 1 w1_ 1 p0.Wait), .rows (p0.Wait.map eStr) 1 w1_ 9], .bool v56.1, [zqa v56.2 v56.2.I (zM 1 w1_ 1 p0.Wait), .rows (p0.Wait.map eStr) 1 w1_ 9]⟩ []) (callQ.ofG (by simp -implicitDefEqProofs -dsimp only [go_sem, h1, hb2, hb7, hb10, hb15, h18, h19, hb22, h26, hb48, hb55]) (zaS h57)) ?_
          try simp -implicitDefEqProofs -dsimp only [go_sem, h1, hb2, hb7, hb10, hb15, h18, h19, hb22, h26, hb48, hb55]
         obtain rfl := zo hm
         exact W.ret (zaR.retW ⟨[], []⟩ RO)
      ·rintro s h ⟨⟨i37, i38, i39⟩, _, F, hm, hat⟩
       refine W.weak F hat ?_
       show WK _ _ _ _ _ [(0, .ptr 0 0 0), (2, .ptr 2 0 0), (9, .ptr 6 0 0)] [zqa v8.2 (zw ((zw (v8.2.I + 1)) + 1)) (zM 1 w1_ 1 p0.Wait), .rows (p0.Wait.map eStr) 1 w1_ 9, .cells [zi 0, zi 0, zi 0, zi 0] 0 61, .dead, .dead, .dead, .cells [zi i37, zi i38, zi v13, zi i39] 0 61]
       rw [zaX] at hm
       replace ⟨n40, h41, hm⟩ := zaN hm
       refine W.sq [] [(0, .ptr 0 0 0), (2, .ptr 2 0 0), (9, .ptr 6 0 0)] [zqa v8.2 n40 (zM 1 w1_ 1 p0.Wait), .rows (p0.Wait.map eStr) 1 w1_ 9, .cells [zi 0, zi 0, zi 0, zi 0] 0 61, .dead, .dead, .dead, .cells [zi i37, zi i38, zi v13, zi i39] 0 61] ?_
       clear h41
       refine W.seq ?_
       replace ⟨h42, hm⟩ := zav hm
       replace ⟨h43, hm⟩ := zav hm
       refine W.sqJ [] [] [] 0 [] [(0, .ptr 0 0 0), (2, .ptr 2 0 0), (9, .ptr 6 0 0), (230, .bool (((rd v8.2.T n40).Kind != 3) || (!decide ((rd v8.2.T n40).Text = (⟨#[93]⟩ : ByteArray)))))] [zqa v8.2 n40 (zM 1 w1_ 1 p0.Wait), .rows (p0.Wait.map eStr) 1 w1_ 9, .cells [zi 0, zi 0, zi 0, zi 0] 0 61, .dead, .dead, .dead, .cells [zi i37, zi i38, zi v13, zi i39] 0 61] zaC ?_
       refine W.cnd (((rd v8.2.T n40).Kind != 3) || (!decide ((rd v8.2.T n40).Text = (⟨#[93]⟩ : ByteArray)))) (fun hb44 => ?_) fun hb44 => ?_
       ·replace hm := zal hb44 hm
        replace ⟨h45, hm⟩ := zav hm
        replace ⟨v46, h47, hm⟩ := zam hm
        refine W.sqL [.light, .light, .light, .light, .light, .light, .light, .light, .light, .light, .light, .light, .callh, .store, .light] [([], []), ([], []), ([], []), ([], []), ([], []), ([0], []), ([], []), ([], []), ([], []), ([0], []), ([], []), ([], []), ([0, 1], [0, 1]), ([2], [2]), ([], [])] [] [(2, .ptr 2 0 0), (3, .bool v46.1)] [zqa v46.2 v46.2.I (zM 1 w1_ 1 p0.Wait), .rows (p0.Wait.map eStr) 1 w1_ 9, .cells [zi 0, zi 0, zi 0, zi 0] 0 61] zaC ?_ (hrun := ?_)
        rotate_left
        ·try simp -implicitDefEqProofs -dsimp only [go_sem, h1, hb2, hb7, hb10, hb15, h18, h19, hb22, h26, h42, h43, hb44, h45]
         with_reducible refine exP.mk ⟨[], [0, 1], [.ptr 0 0 0, zi 4, zqT (rd v8.2.T n40)], [zqa v8.2 n40 (zM 1 w1_ 1 p0.Wait), .rows (p0.Wait.map eStr) 1 w1_ 9], .bool v46.1, [zqa v46.2 v46.2.I (zM 1 w1_ 1 p0.Wait), .rows (p0.Wait.map eStr) 1 w1_ 9]⟩ (zgH.of (by simp -implicitDefEqProofs -dsimp only [go_sem, h1, hb2, hb7, hb10, hb15, h18, h19, hb22, h26, h42, h43, hb44, h45]) (zaS h47)) ?_
         try simp -implicitDefEqProofs -dsimp only [go_sem, h1, hb2, hb7, hb10, hb15, h18, h19, hb22, h26, h42, h43, hb44, h45]
        obtain rfl := zo hm
        exact W.ret (zaR.retW ⟨[], []⟩ RO)
       ·replace hm := zak hb44 hm
        refine W.skip ?_
        refine W.sq [] [(2, .ptr 2 0 0), (9, .ptr 6 0 0)] [zqa v8.2 (zw (n40 + 1)) (zM 1 w1_ 1 p0.Wait), .rows (p0.Wait.map eStr) 1 w1_ 9, .cells [zi 0, zi 0, zi 0, zi 0] 0 61, .dead, .dead, .dead, .cells [zi i37, zi i38, zi v13, zi i39] 0 61] ?_
        refine W.sq [] [(2, .ptr 2 0 0), (3, .bool true)] [zqa v8.2 (zw (n40 + 1)) (zM 1 w1_ 1 p0.Wait), .rows (p0.Wait.map eStr) 1 w1_ 9, .cells [zi i37, zi i38, zi v13, zi i39] 0 61] ?_
        obtain rfl := zo hm
        exact W.ret (zaR.retW ⟨[], []⟩ RO)
theorem zec {p0 : zaa} {p1 : zap} {w1_ : Nat} {r : Bool × zaa × zap} (hm : zbm p0 p1 = some r) : HF Tryz.prog 96 [.ptr 0 0 0, .ptr 2 0 0] [zqa p0 p0.I (zM 1 w1_ 1 p0.Wait), .rows (p0.Wait.map eStr) 1 w1_ 9, .cells [zi p1.Op, .bool p1.Lock, zi p1.Cond, zi p1.A.Kind, zi p1.A.Reg, zi p1.A.Sym, zi p1.A.N, zi p1.B.Kind, zi p1.B.Reg, zi p1.B.Sym, zi p1.B.N, .str p1.To, zM 1 w1_ 1 p0.Wait] 0 63] (.bool r.1) [zqa r.2.1 r.2.1.I (zM 1 w1_ 1 p0.Wait), .rows (p0.Wait.map eStr) 1 w1_ 9, .cells [zi r.2.2.Op, .bool r.2.2.Lock, zi r.2.2.Cond, zi r.2.2.A.Kind, zi r.2.2.A.Reg, zi r.2.2.A.Sym, zi r.2.2.A.N, zi r.2.2.B.Kind, zi r.2.2.B.Reg, zi r.2.2.B.Sym, zi r.2.2.B.N, .str r.2.2.To, zM 1 w1_ 1 p0.Wait] 0 63] := by
 rw [zbm] at hm
 refine HF.of Tryz.func96 rfl Tryz.ntmps96 (Nat.le_of_ble_eq_true rfl) rfl ?_
 have e0 : argS 0 [.ptr 0 0 0, .ptr 2 0 0] = [(0, .ptr 0 0 0), (1, .ptr 2 0 0)] := rfl
 rw [e0]
 refine W.sq [] [(0, .ptr 0 0 0), (1, .ptr 2 0 0)] [zqa p0 p0.I (zM 1 w1_ 1 p0.Wait), .rows (p0.Wait.map eStr) 1 w1_ 9, .cells [zi p1.Op, .bool p1.Lock, zi p1.Cond, zi p1.A.Kind, zi p1.A.Reg, zi p1.A.Sym, zi p1.A.N, zi p1.B.Kind, zi p1.B.Reg, zi p1.B.Sym, zi p1.B.N, .str p1.To, zM 1 w1_ 1 p0.Wait] 0 63] ?_
 replace ⟨h1, hm⟩ := zav hm
 refine W.sqJ [10, 11] [10, 11] [0, 1, 2, 3, 4, 5, 6, 7, 8, 9] 3 [] [(0, .ptr 0 0 0), (1, .ptr 2 0 0), (5, .ptr 3 0 0)] [zqa p0 p0.I (zM 1 w1_ 1 p0.Wait), .rows (p0.Wait.map eStr) 1 w1_ 9, .cells [zi p1.Op, .bool p1.Lock, zi p1.Cond, zi p1.A.Kind, zi p1.A.Reg, zi p1.A.Sym, zi p1.A.N, zi p1.B.Kind, zi p1.B.Reg, zi p1.B.Sym, zi p1.B.N, .str p1.To, zM 1 w1_ 1 p0.Wait] 0 63, .cells (zab (rd p0.T p0.I)) 0 41] zaC ?_
 refine W.sqh [] [(0, .ptr 0 0 0), (1, .ptr 2 0 0), (5, .ptr 3 0 0)] ?_
 refine W.seq ?_
 replace ⟨v2, h3, hm⟩ := zam hm
 refine W.sq [] [(0, .ptr 0 0 0), (1, .ptr 2 0 0), (5, .ptr 3 0 0), (6, .bool v2.2.1)] [zqa v2.2.2 v2.2.2.I (zM 1 w1_ 1 p0.Wait), .rows (p0.Wait.map eStr) 1 w1_ 9, .cells [zi p1.Op, .bool p1.Lock, zi p1.Cond, zi v2.1.Kind, zi v2.1.Reg, zi v2.1.Sym, zi v2.1.N, zi p1.B.Kind, zi p1.B.Reg, zi p1.B.Sym, zi p1.B.N, .str p1.To, zM 1 w1_ 1 p0.Wait] 0 63, .cells (zab (rd p0.T p0.I)) 0 41] ?_ (hrun := ?_)
 rotate_left
 ·try simp -implicitDefEqProofs -dsimp only [go_sem, h1]
  with_reducible refine exP.mk (.gheap [] ⟨[], [0, 1], [.ptr 0 0 0], [zqa p0 p0.I (zM 1 w1_ 1 p0.Wait), .rows (p0.Wait.map eStr) 1 w1_ 9], .tuple [.agg [zi v2.1.Kind, zi v2.1.Reg, zi v2.1.Sym, zi v2.1.N], .bool v2.2.1], [zqa v2.2.2 v2.2.2.I (zM 1 w1_ 1 p0.Wait), .rows (p0.Wait.map eStr) 1 w1_ 9]⟩ []) (callQ.ofG (by simp -implicitDefEqProofs -dsimp only [go_sem, h1]) (zc6 h3)) ?_
  try simp -implicitDefEqProofs -dsimp only [go_sem, h1]
 refine W.sqh [] [(0, .ptr 0 0 0), (1, .ptr 2 0 0), (5, .ptr 3 0 0), (26, .bool (!v2.2.1))] ?_
 refine W.cnd (!v2.2.1) (fun hb4 => ?_) fun hb4 => ?_
 ·replace hm := zal hb4 hm
  refine W.sq [] [(4, .bool false)] [zqa v2.2.2 v2.2.2.I (zM 1 w1_ 1 p0.Wait), .rows (p0.Wait.map eStr) 1 w1_ 9, .cells [zi p1.Op, .bool p1.Lock, zi p1.Cond, zi v2.1.Kind, zi v2.1.Reg, zi v2.1.Sym, zi v2.1.N, zi p1.B.Kind, zi p1.B.Reg, zi p1.B.Sym, zi p1.B.N, .str p1.To, zM 1 w1_ 1 p0.Wait] 0 63] ?_
  obtain rfl := zo hm
  exact W.ret (zaR.retW ⟨[], []⟩ RO)
 ·replace hm := zak hb4 hm
  refine W.skip ?_
  refine W.seq ?_
  refine W.sq [] [(0, .ptr 0 0 0), (1, .ptr 2 0 0), (5, .ptr 3 0 0), (53, .bool ((v2.1.Kind == 2) || ((v2.1.Kind == 1) && (p1.Lock || (p1.Op == 8)))))] [zqa v2.2.2 v2.2.2.I (zM 1 w1_ 1 p0.Wait), .rows (p0.Wait.map eStr) 1 w1_ 9, .cells [zi p1.Op, .bool p1.Lock, zi p1.Cond, zi v2.1.Kind, zi v2.1.Reg, zi v2.1.Sym, zi v2.1.N, zi p1.B.Kind, zi p1.B.Reg, zi p1.B.Sym, zi p1.B.N, .str p1.To, zM 1 w1_ 1 p0.Wait] 0 63, .cells (zab (rd p0.T p0.I)) 0 41] ?_
  refine W.cnd ((v2.1.Kind == 2) || ((v2.1.Kind == 1) && (p1.Lock || (p1.Op == 8)))) (fun hb5 => ?_) fun hb5 => ?_
  ·replace hm := zal hb5 hm
   replace ⟨v6, h7, hm⟩ := zam hm
   refine W.sq [] [(4, .bool v6.1)] [zqa v6.2 v6.2.I (zM 1 w1_ 1 p0.Wait), .rows (p0.Wait.map eStr) 1 w1_ 9, .cells [zi p1.Op, .bool p1.Lock, zi p1.Cond, zi v2.1.Kind, zi v2.1.Reg, zi v2.1.Sym, zi v2.1.N, zi p1.B.Kind, zi p1.B.Reg, zi p1.B.Sym, zi p1.B.N, .str p1.To, zM 1 w1_ 1 p0.Wait] 0 63] ?_ (hrun := ?_)
   rotate_left
   ·try simp -implicitDefEqProofs -dsimp only [go_sem, h1, hb4, hb5]
    with_reducible refine exP.mk (.gheap [] ⟨[], [0, 1], [.ptr 0 0 0, zi 4, zqT (rd p0.T p0.I)], [zqa v2.2.2 v2.2.2.I (zM 1 w1_ 1 p0.Wait), .rows (p0.Wait.map eStr) 1 w1_ 9], .bool v6.1, [zqa v6.2 v6.2.I (zM 1 w1_ 1 p0.Wait), .rows (p0.Wait.map eStr) 1 w1_ 9]⟩ []) (callQ.ofG (by simp -implicitDefEqProofs -dsimp only [go_sem, h1, hb4, hb5]) (zaS h7)) ?_
    try simp -implicitDefEqProofs -dsimp only [go_sem, h1, hb4, hb5]
   obtain rfl := zo hm
   exact W.ret (zaR.retW ⟨[], []⟩ RO)
  ·replace hm := zak hb5 hm
   refine W.skip ?_
   refine W.seq ?_
   replace ⟨h8, hm⟩ := zav hm
   replace ⟨h9, hm⟩ := zav hm
   replace ⟨b10, h11, hm⟩ := zaN hm
   refine W.sqJ [] [] [] 0 [] [(0, .ptr 0 0 0), (1, .ptr 2 0 0), (5, .ptr 3 0 0), (82, .bool b10)] [zqa v2.2.2 v2.2.2.I (zM 1 w1_ 1 p0.Wait), .rows (p0.Wait.map eStr) 1 w1_ 9, .cells [zi p1.Op, .bool p1.Lock, zi p1.Cond, zi v2.1.Kind, zi v2.1.Reg, zi v2.1.Sym, zi v2.1.N, zi p1.B.Kind, zi p1.B.Reg, zi p1.B.Sym, zi p1.B.N, .str p1.To, zM 1 w1_ 1 p0.Wait] 0 63, .cells (zab (rd p0.T p0.I)) 0 41] zaC ?_
   clear h11
   refine W.cnd b10 (fun hb12 => ?_) fun hb12 => ?_
   ·replace hm := zal hb12 hm
    replace ⟨h13, hm⟩ := zav hm
    replace ⟨v14, h15, hm⟩ := zam hm
    refine W.sqJ [11] [] [] 0 [] [(4, .bool v14.1)] [zqa v14.2 v14.2.I (zM 1 w1_ 1 p0.Wait), .rows (p0.Wait.map eStr) 1 w1_ 9, .cells [zi p1.Op, .bool p1.Lock, zi p1.Cond, zi v2.1.Kind, zi v2.1.Reg, zi v2.1.Sym, zi v2.1.N, zi p1.B.Kind, zi p1.B.Reg, zi p1.B.Sym, zi p1.B.N, .str p1.To, zM 1 w1_ 1 p0.Wait] 0 63] zaC ?_ (hrun := ?_)
    rotate_left
    ·try simp -implicitDefEqProofs -dsimp only [go_sem, h1, hb4, hb5, h8, h9, hb12, h13]
     with_reducible refine exP.mk (.gheap [] ⟨[], [0, 1], [.ptr 0 0 0, zi 4, zqT (rd v2.2.2.T v2.2.2.I)], [zqa v2.2.2 v2.2.2.I (zM 1 w1_ 1 p0.Wait), .rows (p0.Wait.map eStr) 1 w1_ 9], .bool v14.1, [zqa v14.2 v14.2.I (zM 1 w1_ 1 p0.Wait), .rows (p0.Wait.map eStr) 1 w1_ 9]⟩ []) (callQ.ofG (by simp -implicitDefEqProofs -dsimp only [go_sem, h1, hb4, hb5, h8, h9, hb12, h13]) (zaS h15)) ?_
     try simp -implicitDefEqProofs -dsimp only [go_sem, h1, hb4, hb5, h8, h9, hb12, h13]
    obtain rfl := zo hm
    exact W.ret (zaR.retW ⟨[], []⟩ RO)
   ·replace hm := zak hb12 hm
    refine W.skip ?_
    refine W.sq [] [(0, .ptr 0 0 0), (1, .ptr 2 0 0), (5, .ptr 3 0 0)] [zqa v2.2.2 (zw (v2.2.2.I + 1)) (zM 1 w1_ 1 p0.Wait), .rows (p0.Wait.map eStr) 1 w1_ 9, .cells [zi p1.Op, .bool p1.Lock, zi p1.Cond, zi v2.1.Kind, zi v2.1.Reg, zi v2.1.Sym, zi v2.1.N, zi p1.B.Kind, zi p1.B.Reg, zi p1.B.Sym, zi p1.B.N, .str p1.To, zM 1 w1_ 1 p0.Wait] 0 63, .cells (zab (rd p0.T p0.I)) 0 41] ?_
    replace ⟨h16, hm⟩ := zav hm
    refine W.sqJ [10] [] [] 0 [] [(0, .ptr 0 0 0), (1, .ptr 2 0 0), (5, .ptr 3 0 0)] [zqa v2.2.2 (zw (v2.2.2.I + 1)) (zM 1 w1_ 1 p0.Wait), .rows (p0.Wait.map eStr) 1 w1_ 9, .cells [zi p1.Op, .bool p1.Lock, zi p1.Cond, zi v2.1.Kind, zi v2.1.Reg, zi v2.1.Sym, zi v2.1.N, zi p1.B.Kind, zi p1.B.Reg, zi p1.B.Sym, zi p1.B.N, .str p1.To, zM 1 w1_ 1 p0.Wait] 0 63, .cells (zab (rd v2.2.2.T (zw (v2.2.2.I + 1)))) 0 41] zaC ?_
    refine W.seq ?_
    replace ⟨v17, h18, hm⟩ := zam hm
    refine W.sq [] [(0, .ptr 0 0 0), (1, .ptr 2 0 0), (5, .ptr 3 0 0), (6, .bool v17.2.1)] [zqa v17.2.2 v17.2.2.I (zM 1 w1_ 1 p0.Wait), .rows (p0.Wait.map eStr) 1 w1_ 9, .cells [zi p1.Op, .bool p1.Lock, zi p1.Cond, zi v2.1.Kind, zi v2.1.Reg, zi v2.1.Sym, zi v2.1.N, zi v17.1.Kind, zi v17.1.Reg, zi v17.1.Sym, zi v17.1.N, .str p1.To, zM 1 w1_ 1 p0.Wait] 0 63, .cells (zab (rd v2.2.2.T (zw (v2.2.2.I + 1)))) 0 41] ?_ (hrun := ?_)
    rotate_left
    ·try simp -implicitDefEqProofs -dsimp only [go_sem, h1, hb4, hb5, h8, h9, hb12, h16]
     with_reducible refine exP.mk (.gheap [] ⟨[], [0, 1], [.ptr 0 0 0], [zqa v2.2.2 (zw (v2.2.2.I + 1)) (zM 1 w1_ 1 p0.Wait), .rows (p0.Wait.map eStr) 1 w1_ 9], .tuple [.agg [zi v17.1.Kind, zi v17.1.Reg, zi v17.1.Sym, zi v17.1.N], .bool v17.2.1], [zqa v17.2.2 v17.2.2.I (zM 1 w1_ 1 p0.Wait), .rows (p0.Wait.map eStr) 1 w1_ 9]⟩ []) (callQ.ofG (by simp -implicitDefEqProofs -dsimp only [go_sem, h1, hb4, hb5, h8, h9, hb12, h16]) (zc6 h18)) ?_
     try simp -implicitDefEqProofs -dsimp only [go_sem, h1, hb4, hb5, h8, h9, hb12, h16]
    refine W.sqh [] [(0, .ptr 0 0 0), (1, .ptr 2 0 0), (5, .ptr 3 0 0), (121, .bool (!v17.2.1))] ?_
    refine W.cnd (!v17.2.1) (fun hb19 => ?_) fun hb19 => ?_
    ·replace hm := zal hb19 hm
     refine W.sq [] [(4, .bool false)] [zqa v17.2.2 v17.2.2.I (zM 1 w1_ 1 p0.Wait), .rows (p0.Wait.map eStr) 1 w1_ 9, .cells [zi p1.Op, .bool p1.Lock, zi p1.Cond, zi v2.1.Kind, zi v2.1.Reg, zi v2.1.Sym, zi v2.1.N, zi v17.1.Kind, zi v17.1.Reg, zi v17.1.Sym, zi v17.1.N, .str p1.To, zM 1 w1_ 1 p0.Wait] 0 63] ?_
     obtain rfl := zo hm
     exact W.ret (zaR.retW ⟨[], []⟩ RO)
    ·replace hm := zak hb19 hm
     refine W.skip ?_
     refine W.seq ?_
     replace ⟨v20, h21, hm⟩ := zam hm
     refine W.sq [] [(0, .ptr 0 0 0), (5, .ptr 3 0 0), (126, .bool (!v20))] [zqa v17.2.2 v17.2.2.I (zM 1 w1_ 1 p0.Wait), .rows (p0.Wait.map eStr) 1 w1_ 9, .cells [zi p1.Op, .bool p1.Lock, zi p1.Cond, zi v2.1.Kind, zi v2.1.Reg, zi v2.1.Sym, zi v2.1.N, zi v17.1.Kind, zi v17.1.Reg, zi v17.1.Sym, zi v17.1.N, .str p1.To, zM 1 w1_ 1 p0.Wait] 0 63, .cells (zab (rd v2.2.2.T (zw (v2.2.2.I + 1)))) 0 41] ?_ (hrun := ?_)
     rotate_left
     ·try simp -implicitDefEqProofs -dsimp only [go_sem, h1, hb4, hb5, h8, h9, hb12, h16, hb19]
      with_reducible refine exP.mk (.pure ⟨[1], true, [.agg [zi (zap.mk p1.Op p1.Lock p1.Cond v2.1 v17.1 p1.To p0.Wait).Op, .bool (zap.mk p1.Op p1.Lock p1.Cond v2.1 v17.1 p1.To p0.Wait).Lock, zi (zap.mk p1.Op p1.Lock p1.Cond v2.1 v17.1 p1.To p0.Wait).Cond, zi (zap.mk p1.Op p1.Lock p1.Cond v2.1 v17.1 p1.To p0.Wait).A.Kind, zi (zap.mk p1.Op p1.Lock p1.Cond v2.1 v17.1 p1.To p0.Wait).A.Reg, zi (zap.mk p1.Op p1.Lock p1.Cond v2.1 v17.1 p1.To p0.Wait).A.Sym, zi (zap.mk p1.Op p1.Lock p1.Cond v2.1 v17.1 p1.To p0.Wait).A.N, zi (zap.mk p1.Op p1.Lock p1.Cond v2.1 v17.1 p1.To p0.Wait).B.Kind, zi (zap.mk p1.Op p1.Lock p1.Cond v2.1 v17.1 p1.To p0.Wait).B.Reg, zi (zap.mk p1.Op p1.Lock p1.Cond v2.1 v17.1 p1.To p0.Wait).B.Sym, zi (zap.mk p1.Op p1.Lock p1.Cond v2.1 v17.1 p1.To p0.Wait).B.N, .str (zap.mk p1.Op p1.Lock p1.Cond v2.1 v17.1 p1.To p0.Wait).To, .sl (((zap.mk p1.Op p1.Lock p1.Cond v2.1 v17.1 p1.To p0.Wait).zLb).map eStr)]], .bool v20⟩) (callQ.of (by simp -implicitDefEqProofs -dsimp only [go_sem, h1, hb4, hb5, h8, h9, hb12, h16, hb19]) (by simp -implicitDefEqProofs -dsimp only [go_sem, h1, hb4, hb5, h8, h9, hb12, h16, hb19]) (by simp -implicitDefEqProofs -dsimp only [go_sem, h1, hb4, hb5, h8, h9, hb12, h16, hb19]) (fun _ => by simp -implicitDefEqProofs -dsimp only [go_sem, h1, hb4, hb5, h8, h9, hb12, h16, hb19]) (zhb h21)) ?_
      try simp -implicitDefEqProofs -dsimp only [go_sem, h1, hb4, hb5, h8, h9, hb12, h16, hb19]
     refine W.cnd (!v20) (fun hb22 => ?_) fun hb22 => ?_
     ·replace hm := zal hb22 hm
      replace ⟨v23, h24, hm⟩ := zam hm
      refine W.sq [] [(4, .bool v23.1)] [zqa v23.2 v23.2.I (zM 1 w1_ 1 p0.Wait), .rows (p0.Wait.map eStr) 1 w1_ 9, .cells [zi p1.Op, .bool p1.Lock, zi p1.Cond, zi v2.1.Kind, zi v2.1.Reg, zi v2.1.Sym, zi v2.1.N, zi v17.1.Kind, zi v17.1.Reg, zi v17.1.Sym, zi v17.1.N, .str p1.To, zM 1 w1_ 1 p0.Wait] 0 63] ?_ (hrun := ?_)
      rotate_left
      ·try simp -implicitDefEqProofs -dsimp only [go_sem, h1, hb4, hb5, h8, h9, hb12, h16, hb19, hb22]
       with_reducible refine exP.mk (.gheap [] ⟨[], [0, 1], [.ptr 0 0 0, zi 4, zqT (rd v2.2.2.T (zw (v2.2.2.I + 1)))], [zqa v17.2.2 v17.2.2.I (zM 1 w1_ 1 p0.Wait), .rows (p0.Wait.map eStr) 1 w1_ 9], .bool v23.1, [zqa v23.2 v23.2.I (zM 1 w1_ 1 p0.Wait), .rows (p0.Wait.map eStr) 1 w1_ 9]⟩ []) (callQ.ofG (by simp -implicitDefEqProofs -dsimp only [go_sem, h1, hb4, hb5, h8, h9, hb12, h16, hb19, hb22]) (zaS h24)) ?_
       try simp -implicitDefEqProofs -dsimp only [go_sem, h1, hb4, hb5, h8, h9, hb12, h16, hb19, hb22]
      obtain rfl := zo hm
      exact W.ret (zaR.retW ⟨[], []⟩ RO)
     ·replace hm := zak hb22 hm
      refine W.skip ?_
      refine W.sq [] [(4, .bool true)] [zqa v17.2.2 v17.2.2.I (zM 1 w1_ 1 p0.Wait), .rows (p0.Wait.map eStr) 1 w1_ 9, .cells [zi p1.Op, .bool p1.Lock, zi p1.Cond, zi v2.1.Kind, zi v2.1.Reg, zi v2.1.Sym, zi v2.1.N, zi v17.1.Kind, zi v17.1.Reg, zi v17.1.Sym, zi v17.1.N, .str p1.To, zM 1 w1_ 1 p0.Wait] 0 63] ?_
      obtain rfl := zo hm
      exact W.ret (zaR.retW ⟨[], []⟩ RO)
theorem zfm {p0 : zaa} {r : Bool × zaa} (hm : zcm p0 = some r) : HF Tryz.prog 86 [.ptr 0 0 0] [.cells (zaf p0) 0 90] (.bool r.1) [.cells (zaf r.2) 0 90] := by
 rw [zcm] at hm
 refine HF.of Tryz.func86 rfl Tryz.ntmps86 (Nat.le_of_ble_eq_true rfl) rfl ?_
 have e0 : argS 0 [.ptr 0 0 0] = [(0, .ptr 0 0 0)] := rfl
 rw [e0]
 refine W.sq [] [(0, .ptr 0 0 0)] [.cells (zaf p0) 0 90] ?_
 replace ⟨h1, hm⟩ := zav hm
 refine W.sqJ [10, 11] [10, 11] [0, 1, 2, 3, 4, 5, 6, 7, 8, 9] 1 [] [(0, .ptr 0 0 0), (3, .ptr 1 0 0)] [.cells (zaf p0) 0 90, .cells (zab (rd p0.T p0.I)) 0 41] zaC ?_
 refine W.seq ?_
 refine W.sqh [] [(0, .ptr 0 0 0), (3, .ptr 1 0 0), (23, .bool ((rd p0.T p0.I).Kind != 1))] ?_
 refine W.cnd ((rd p0.T p0.I).Kind != 1) (fun hb2 => ?_) fun hb2 => ?_
 ·replace hm := zal hb2 hm
  replace ⟨v3, h4, hm⟩ := zam hm
  refine W.sq [] [(2, .bool v3.1)] [.cells (zaf v3.2) 0 90] ?_ (hrun := ?_)
  rotate_left
  ·try simp -implicitDefEqProofs -dsimp only [go_sem, h1, hb2]
   with_reducible refine exP.mk (.gheap [] ⟨[], [0], [.ptr 0 0 0, zi 4, zqT (rd p0.T p0.I)], [.cells (zaf p0) 0 90], .bool v3.1, [.cells (zaf v3.2) 0 90]⟩ []) (callQ.ofG (by simp -implicitDefEqProofs -dsimp only [go_sem, h1, hb2]) (zaE h4)) ?_
   try simp -implicitDefEqProofs -dsimp only [go_sem, h1, hb2]
  obtain rfl := zo hm
  exact W.ret (zaR.retW ⟨[], []⟩ RO)
 ·replace hm := zak hb2 hm
  refine W.skip ?_
  refine W.wk ⟨[], [.foc 0 0 9]⟩ [(0, .ptr 0 0 0), (3, .ptr 1 0 0), (23, .bool ((rd p0.T p0.I).Kind != 1))] [zqa p0 p0.I (zM 2 1 1 p0.Wait), .cells (zab (rd p0.T p0.I)) 0 41, .rows (p0.Wait.map eStr) 1 1 9] ?_
  refine W.sq [] [(0, .ptr 0 0 0), (3, .ptr 1 0 0), (4, .ptr 3 0 0)] [zqa p0 p0.I (zM 2 1 1 p0.Wait), .cells (zab (rd p0.T p0.I)) 0 41, .rows (p0.Wait.map eStr) 1 1 9, .cells [zi 0, .bool false, zi 0, zi 0, zi 0, zi 0, zi 0, zi 0, zi 0, zi 0, zi 0, .str (⟨#[]⟩ : ByteArray), zM 2 1 1 p0.Wait] 0 63] ?_
  refine W.sq [] [(0, .ptr 0 0 0), (3, .ptr 1 0 0), (4, .ptr 3 0 0), (5, .ptr 4 0 0)] [zqa p0 p0.I (zM 2 1 1 p0.Wait), .cells (zab (rd p0.T p0.I)) 0 41, .rows (p0.Wait.map eStr) 1 1 9, .cells [zi 0, .bool false, zi 0, zi 0, zi 0, zi 0, zi 0, zi 0, zi 0, zi 0, zi 0, .str (⟨#[]⟩ : ByteArray), zM 2 1 1 p0.Wait] 0 63, .cells (zab (rd p0.T p0.I)) 0 41] ?_
  refine W.cut (fun s h => ∃ (v : Int × Bool × Int × Int × Int × ByteArray) (w : Unit) (F : Gs), zbo p0 v.1 v.2.1 v.2.2.1 v.2.2.2.1 v.2.2.2.2.1 v.2.2.2.2.2 = some r /\ AT 1 F [(0, .ptr 0 0 0), (3, .ptr 1 0 0), (4, .ptr 3 0 0), (5, .ptr 4 0 0)] [zqa p0 v.1 (zM 2 1 1 p0.Wait), .cells (zab (rd p0.T p0.I)) 0 41, .rows (p0.Wait.map eStr) 1 1 9, .cells [zi 0, .bool v.2.1, zi 0, zi 0, zi 0, zi 0, zi 0, zi 0, zi 0, zi 0, zi 0, .str (⟨#[]⟩ : ByteArray), zM 2 1 1 p0.Wait] 0 63, .cells [zi v.2.2.1, zi v.2.2.2.1, zi v.2.2.2.2.1, .str v.2.2.2.2.2] 0 41] s h) ?_ ?_
  ·refine W.sq [] [(0, .ptr 0 0 0), (3, .ptr 1 0 0), (4, .ptr 3 0 0), (5, .ptr 4 0 0), (35, .bool (decide ((rd p0.T p0.I).Text = (⟨#[108, 111, 99, 107]⟩ : ByteArray))))] [zqa p0 p0.I (zM 2 1 1 p0.Wait), .cells (zab (rd p0.T p0.I)) 0 41, .rows (p0.Wait.map eStr) 1 1 9, .cells [zi 0, .bool false, zi 0, zi 0, zi 0, zi 0, zi 0, zi 0, zi 0, zi 0, zi 0, .str (⟨#[]⟩ : ByteArray), zM 2 1 1 p0.Wait] 0 63, .cells (zab (rd p0.T p0.I)) 0 41] ?_
   refine W.cnd (decide ((rd p0.T p0.I).Text = (⟨#[108, 111, 99, 107]⟩ : ByteArray))) (fun hb76 => ?_) fun hb76 => ?_
   ·replace hm := zal hb76 hm
    refine W.sq [] [(0, .ptr 0 0 0), (3, .ptr 1 0 0), (4, .ptr 3 0 0), (5, .ptr 4 0 0)] [zqa p0 p0.I (zM 2 1 1 p0.Wait), .cells (zab (rd p0.T p0.I)) 0 41, .rows (p0.Wait.map eStr) 1 1 9, .cells [zi 0, .bool true, zi 0, zi 0, zi 0, zi 0, zi 0, zi 0, zi 0, zi 0, zi 0, .str (⟨#[]⟩ : ByteArray), zM 2 1 1 p0.Wait] 0 63, .cells (zab (rd p0.T p0.I)) 0 41] ?_
    refine W.sq [] [(0, .ptr 0 0 0), (3, .ptr 1 0 0), (4, .ptr 3 0 0), (5, .ptr 4 0 0)] [zqa p0 (zw (p0.I + 1)) (zM 2 1 1 p0.Wait), .cells (zab (rd p0.T p0.I)) 0 41, .rows (p0.Wait.map eStr) 1 1 9, .cells [zi 0, .bool true, zi 0, zi 0, zi 0, zi 0, zi 0, zi 0, zi 0, zi 0, zi 0, .str (⟨#[]⟩ : ByteArray), zM 2 1 1 p0.Wait] 0 63, .cells (zab (rd p0.T p0.I)) 0 41] ?_
    replace ⟨h77, hm⟩ := zav hm
    refine W.rgJ [10] [] [] 0 [] [(0, .ptr 0 0 0), (3, .ptr 1 0 0), (4, .ptr 3 0 0), (5, .ptr 4 0 0)] [zqa p0 (zw (p0.I + 1)) (zM 2 1 1 p0.Wait), .cells (zab (rd p0.T p0.I)) 0 41, .rows (p0.Wait.map eStr) 1 1 9, .cells [zi 0, .bool true, zi 0, zi 0, zi 0, zi 0, zi 0, zi 0, zi 0, zi 0, zi 0, .str (⟨#[]⟩ : ByteArray), zM 2 1 1 p0.Wait] 0 63, .cells (zab (rd p0.T (zw (p0.I + 1)))) 0 41] zaC ?_
    exact ⟨((zw (p0.I + 1)), true, (rd p0.T (zw (p0.I + 1))).Kind, (rd p0.T (zw (p0.I + 1))).Line, (rd p0.T (zw (p0.I + 1))).Col, (rd p0.T (zw (p0.I + 1))).Text), (), ⟨[], []⟩, hm, RO⟩
   ·replace hm := zak hb76 hm
    refine W.skip ?_
    exact ⟨(p0.I, false, (rd p0.T p0.I).Kind, (rd p0.T p0.I).Line, (rd p0.T p0.I).Col, (rd p0.T p0.I).Text), (), ⟨[], []⟩, hm, RO⟩
  ·rintro s h ⟨⟨i5, b6, i7, i9, i10, s11⟩, _, F, hm, hat⟩
   refine W.weak F hat ?_
   show WK _ _ _ _ _ [(0, .ptr 0 0 0), (3, .ptr 1 0 0), (4, .ptr 3 0 0), (5, .ptr 4 0 0)] [zqa p0 i5 (zM 2 1 1 p0.Wait), .cells (zab (rd p0.T p0.I)) 0 41, .rows (p0.Wait.map eStr) 1 1 9, .cells [zi 0, .bool b6, zi 0, zi 0, zi 0, zi 0, zi 0, zi 0, zi 0, zi 0, zi 0, .str (⟨#[]⟩ : ByteArray), zM 2 1 1 p0.Wait] 0 63, .cells [zi i7, zi i9, zi i10, .str s11] 0 41]
   rw [zbo] at hm
   replace ⟨v12, h13, hm⟩ := zam hm
   have kh13 := zhC h13
   try simp only [hb2] at kh13
   refine W.sqh [] [(0, .ptr 0 0 0), (3, .ptr 1 0 0), (4, .ptr 3 0 0), (5, .ptr 4 0 0), (6, zi v12.1), (7, zi v12.2.1), (8, .bool v12.2.2)] ?_
   refine W.seq ?_
   replace ⟨v14, h15, hm⟩ := zam hm
   replace ⟨b16, h17, hm⟩ := zaN hm
   have kh15 := fun hg => zek (zal hg h15)
   try simp only [hb2] at kh15
   refine W.sqh [] [(0, .ptr 0 0 0), (3, .ptr 1 0 0), (4, .ptr 3 0 0), (5, .ptr 4 0 0), (6, zi v12.1), (7, zi v12.2.1), (89, .bool b16)] ?_
   clear h17
   refine W.cnd b16 (fun hb18 => ?_) fun hb18 => ?_
   ·replace hm := zal hb18 hm
    replace ⟨v19, h20, hm⟩ := zam hm
    refine W.sq [] [(2, .bool v19.1)] [.cells (zaf v19.2) 0 90] ?_ (hrun := ?_)
    rotate_left
    ·try simp -implicitDefEqProofs -dsimp only [go_sem, h1, hb2, hb18]
     with_reducible refine exP.mk (.gheap [.fol 0 0 9] ⟨[], [0], [.ptr 0 0 0, zi 4, zqT (zad.mk i7 i9 i10 s11)], [.cells (zaf (zaa.mk p0.T i5 p0.P p0.zHd p0.First p0.To p0.Left p0.All p0.Wait p0.Bad)) 0 90], .bool v19.1, [.cells (zaf v19.2) 0 90]⟩ []) (callQ.ofG (by simp -implicitDefEqProofs -dsimp only [go_sem, h1, hb2, hb18]) (zaE h20)) ?_
     try simp -implicitDefEqProofs -dsimp only [go_sem, h1, hb2, hb18]
    obtain rfl := zo hm
    exact W.ret (zaR.retW ⟨[], []⟩ RO)
   ·replace hm := zak hb18 hm
    refine W.skip ?_
    refine W.sq [] [(0, .ptr 0 0 0), (3, .ptr 1 0 0), (4, .ptr 3 0 0), (6, zi v12.1)] [zqa p0 i5 (zM 2 1 1 p0.Wait), .cells (zab (rd p0.T p0.I)) 0 41, .rows (p0.Wait.map eStr) 1 1 9, .cells [zi v12.1, .bool b6, zi v12.2.1, zi 0, zi 0, zi 0, zi 0, zi 0, zi 0, zi 0, zi 0, .str (⟨#[]⟩ : ByteArray), zM 2 1 1 p0.Wait] 0 63] ?_
    refine W.sq [] [(0, .ptr 0 0 0), (3, .ptr 1 0 0), (4, .ptr 3 0 0), (6, zi v12.1)] [zqa p0 (zw (i5 + 1)) (zM 2 1 1 p0.Wait), .cells (zab (rd p0.T p0.I)) 0 41, .rows (p0.Wait.map eStr) 1 1 9, .cells [zi v12.1, .bool b6, zi v12.2.1, zi 0, zi 0, zi 0, zi 0, zi 0, zi 0, zi 0, zi 0, .str (⟨#[]⟩ : ByteArray), zM 2 1 1 p0.Wait] 0 63] ?_
    refine W.sq [] [(0, .ptr 0 0 0), (3, .ptr 1 0 0), (4, .ptr 3 0 0), (6, zi v12.1), (9, .ptr 4 0 0)] [zqa p0 (zw (i5 + 1)) (zM 2 1 1 p0.Wait), .cells (zab (rd p0.T p0.I)) 0 41, .rows (p0.Wait.map eStr) 1 1 9, .cells [zi v12.1, .bool b6, zi v12.2.1, zi 0, zi 0, zi 0, zi 0, zi 0, zi 0, zi 0, zi 0, .str (⟨#[]⟩ : ByteArray), zM 2 1 1 p0.Wait] 0 63, .cells [zi 0, zi 0, zi 0, .str (⟨#[]⟩ : ByteArray)] 0 41] ?_
    refine W.cut (fun s h => ∃ (v : (List zad) × Int × (List zaq) × (List zai) × (List zad) × (List (List zad)) × (List (List zad)) × (List Int) × (List ByteArray) × Int × Int × Int × Int × Bool × Int × Int × Int × Int × Int × Int × Int × Int × Int × ByteArray × Int × Int × Int × ByteArray) (w : Unit) (F : Gs), za9 p0 v.1 v.2.1 v.2.2.1 v.2.2.2.1 v.2.2.2.2.1 v.2.2.2.2.2.1 v.2.2.2.2.2.2.1 v.2.2.2.2.2.2.2.1 v.2.2.2.2.2.2.2.2.1 v.2.2.2.2.2.2.2.2.2.1 v.2.2.2.2.2.2.2.2.2.2.1 v.2.2.2.2.2.2.2.2.2.2.2.1 v.2.2.2.2.2.2.2.2.2.2.2.2.1 v.2.2.2.2.2.2.2.2.2.2.2.2.2.1 v.2.2.2.2.2.2.2.2.2.2.2.2.2.2.1 v.2.2.2.2.2.2.2.2.2.2.2.2.2.2.2.1 v.2.2.2.2.2.2.2.2.2.2.2.2.2.2.2.2.1 v.2.2.2.2.2.2.2.2.2.2.2.2.2.2.2.2.2.1 v.2.2.2.2.2.2.2.2.2.2.2.2.2.2.2.2.2.2.1 v.2.2.2.2.2.2.2.2.2.2.2.2.2.2.2.2.2.2.2.1 v.2.2.2.2.2.2.2.2.2.2.2.2.2.2.2.2.2.2.2.2.1 v.2.2.2.2.2.2.2.2.2.2.2.2.2.2.2.2.2.2.2.2.2.1 v.2.2.2.2.2.2.2.2.2.2.2.2.2.2.2.2.2.2.2.2.2.2.1 v.2.2.2.2.2.2.2.2.2.2.2.2.2.2.2.2.2.2.2.2.2.2.2.1 v.2.2.2.2.2.2.2.2.2.2.2.2.2.2.2.2.2.2.2.2.2.2.2.2.1 v.2.2.2.2.2.2.2.2.2.2.2.2.2.2.2.2.2.2.2.2.2.2.2.2.2.1 v.2.2.2.2.2.2.2.2.2.2.2.2.2.2.2.2.2.2.2.2.2.2.2.2.2.2.1 v.2.2.2.2.2.2.2.2.2.2.2.2.2.2.2.2.2.2.2.2.2.2.2.2.2.2.2 = some r /\ AT 1 F [(0, .ptr 0 0 0), (3, .ptr 1 0 0), (4, .ptr 3 0 0), (9, .ptr 4 0 0)] [zqd v.1 v.2.1 (zbS v.2.2.1) (zbT v.2.2.2.1) (zbK v.2.2.2.2.1) (zbL v.2.2.2.2.2.1) (zbL v.2.2.2.2.2.2.1) (zbI v.2.2.2.2.2.2.2.1) (zbW v.2.2.2.2.2.2.2.2.1) (zM 2 1 1 p0.Wait) v.2.2.2.2.2.2.2.2.2.1 v.2.2.2.2.2.2.2.2.2.2.1 v.2.2.2.2.2.2.2.2.2.2.2.1, .cells (zab (rd p0.T p0.I)) 0 41, .rows (p0.Wait.map eStr) 1 1 9, .cells [zi v.2.2.2.2.2.2.2.2.2.2.2.2.1, .bool v.2.2.2.2.2.2.2.2.2.2.2.2.2.1, zi v.2.2.2.2.2.2.2.2.2.2.2.2.2.2.1, zi v.2.2.2.2.2.2.2.2.2.2.2.2.2.2.2.1, zi v.2.2.2.2.2.2.2.2.2.2.2.2.2.2.2.2.1, zi v.2.2.2.2.2.2.2.2.2.2.2.2.2.2.2.2.2.1, zi v.2.2.2.2.2.2.2.2.2.2.2.2.2.2.2.2.2.2.1, zi v.2.2.2.2.2.2.2.2.2.2.2.2.2.2.2.2.2.2.2.1, zi v.2.2.2.2.2.2.2.2.2.2.2.2.2.2.2.2.2.2.2.2.1, zi v.2.2.2.2.2.2.2.2.2.2.2.2.2.2.2.2.2.2.2.2.2.1, zi v.2.2.2.2.2.2.2.2.2.2.2.2.2.2.2.2.2.2.2.2.2.2.1, .str v.2.2.2.2.2.2.2.2.2.2.2.2.2.2.2.2.2.2.2.2.2.2.2.1, zM 2 1 1 p0.Wait] 0 63, .cells [zi v.2.2.2.2.2.2.2.2.2.2.2.2.2.2.2.2.2.2.2.2.2.2.2.2.1, zi v.2.2.2.2.2.2.2.2.2.2.2.2.2.2.2.2.2.2.2.2.2.2.2.2.2.1, zi v.2.2.2.2.2.2.2.2.2.2.2.2.2.2.2.2.2.2.2.2.2.2.2.2.2.2.1, .str v.2.2.2.2.2.2.2.2.2.2.2.2.2.2.2.2.2.2.2.2.2.2.2.2.2.2.2] 0 41] s h) ?_ ?_
    ·refine W.block ?_
     replace ⟨v65, h66, hm⟩ := zam hm
     have kh66 := zeG h66
     try simp only [hb2, hb18] at kh66
     refine W.sq [] [(0, .ptr 0 0 0), (3, .ptr 1 0 0), (4, .ptr 3 0 0), (6, zi v12.1), (9, .ptr 4 0 0), (105, .bool v65)] [zqa p0 (zw (i5 + 1)) (zM 2 1 1 p0.Wait), .cells (zab (rd p0.T p0.I)) 0 41, .rows (p0.Wait.map eStr) 1 1 9, .cells [zi v12.1, .bool b6, zi v12.2.1, zi 0, zi 0, zi 0, zi 0, zi 0, zi 0, zi 0, zi 0, .str (⟨#[]⟩ : ByteArray), zM 2 1 1 p0.Wait] 0 63, .cells [zi 0, zi 0, zi 0, .str (⟨#[]⟩ : ByteArray)] 0 41] ?_
     refine W.cnd v65 (fun hb67 => ?_) fun hb67 => ?_
     ·replace hm := zal hb67 hm
      refine W.seq ?_
      replace ⟨v68, h69, hm⟩ := zam hm
      refine W.sq [] [(0, .ptr 0 0 0), (3, .ptr 1 0 0), (4, .ptr 3 0 0), (9, .ptr 4 0 0), (110, .bool (!v68.1))] [zqa v68.2 v68.2.I (zM 2 1 1 p0.Wait), .cells (zab (rd p0.T p0.I)) 0 41, .rows (p0.Wait.map eStr) 1 1 9, .cells [zi v12.1, .bool b6, zi v12.2.1, zi 0, zi 0, zi 0, zi 0, zi 0, zi 0, zi 0, zi 0, .str (⟨#[]⟩ : ByteArray), zM 2 1 1 p0.Wait] 0 63, .cells [zi 0, zi 0, zi 0, .str (⟨#[]⟩ : ByteArray)] 0 41] ?_ (hrun := ?_)
      rotate_left
      ·try simp -implicitDefEqProofs -dsimp only [go_sem, h1, hb2, hb18, hb67]
       with_reducible refine exP.mk (.gheap [] ⟨[], [0, 2], [.ptr 0 0 0], [zqa p0 (zw (i5 + 1)) (zM 1 1 1 p0.Wait), .rows (p0.Wait.map eStr) 1 1 9], .bool v68.1, [zqa v68.2 v68.2.I (zM 1 1 1 p0.Wait), .rows (p0.Wait.map eStr) 1 1 9]⟩ []) (callQ.ofG (by simp -implicitDefEqProofs -dsimp only [go_sem, h1, hb2, hb18, hb67]) (zdn h69)) ?_
       try simp -implicitDefEqProofs -dsimp only [go_sem, h1, hb2, hb18, hb67]
      refine W.cnd (!v68.1) (fun hb70 => ?_) fun hb70 => ?_
      ·replace hm := zal hb70 hm
       refine W.sqG [] [.fol 0 0 9] [(2, .bool false)] [zqa v68.2 v68.2.I (zbW p0.Wait)] ?_
       obtain rfl := zo hm
       exact W.ret (zaR.retW ⟨[], []⟩ RO)
      ·replace hm := zak hb70 hm
       refine W.skip ?_
       replace ⟨h71, hm⟩ := zav hm
       refine W.sqJ [10] [] [] 0 [] [(0, .ptr 0 0 0), (3, .ptr 1 0 0), (4, .ptr 3 0 0), (9, .ptr 4 0 0)] [zqa v68.2 v68.2.I (zM 2 1 1 p0.Wait), .cells (zab (rd p0.T p0.I)) 0 41, .rows (p0.Wait.map eStr) 1 1 9, .cells [zi v12.1, .bool b6, zi v12.2.1, zi 0, zi 0, zi 0, zi 0, zi 0, zi 0, zi 0, zi 0, .str (⟨#[]⟩ : ByteArray), zM 2 1 1 p0.Wait] 0 63, .cells (zab (rd v68.2.T v68.2.I)) 0 41] zaC ?_
       refine W.sq [] [(0, .ptr 0 0 0), (3, .ptr 1 0 0), (4, .ptr 3 0 0), (9, .ptr 4 0 0)] [zqa v68.2 v68.2.I (zM 2 1 1 p0.Wait), .cells (zab (rd p0.T p0.I)) 0 41, .rows (p0.Wait.map eStr) 1 1 9, .cells [zi v12.1, .bool b6, zi v12.2.1, zi 0, zi 0, zi 0, zi 0, zi 0, zi 0, zi 0, zi 0, .str (rd v68.2.T v68.2.I).Text, zM 2 1 1 p0.Wait] 0 63, .cells (zab (rd v68.2.T v68.2.I)) 0 41] ?_
       refine W.rg [] [(0, .ptr 0 0 0), (3, .ptr 1 0 0), (4, .ptr 3 0 0), (9, .ptr 4 0 0)] [zqa v68.2 (zw (v68.2.I + 1)) (zM 2 1 1 p0.Wait), .cells (zab (rd p0.T p0.I)) 0 41, .rows (p0.Wait.map eStr) 1 1 9, .cells [zi v12.1, .bool b6, zi v12.2.1, zi 0, zi 0, zi 0, zi 0, zi 0, zi 0, zi 0, zi 0, .str (rd v68.2.T v68.2.I).Text, zM 2 1 1 p0.Wait] 0 63, .cells (zab (rd v68.2.T v68.2.I)) 0 41] ?_
       exact ⟨(v68.2.T, (zw (v68.2.I + 1)), v68.2.P.zSy, v68.2.P.zTh, v68.2.zHd, v68.2.First, v68.2.To, v68.2.Left, v68.2.All, v68.2.Bad.Code, v68.2.Bad.Line, v68.2.Bad.Col, v12.1, b6, v12.2.1, 0, 0, 0, 0, 0, 0, 0, 0, (rd v68.2.T v68.2.I).Text, (rd v68.2.T v68.2.I).Kind, (rd v68.2.T v68.2.I).Line, (rd v68.2.T v68.2.I).Col, (rd v68.2.T v68.2.I).Text), (), ⟨[], []⟩, hm, RO⟩
     ·replace hm := zak hb67 hm
      refine W.sq [] [(0, .ptr 0 0 0), (3, .ptr 1 0 0), (4, .ptr 3 0 0), (9, .ptr 4 0 0), (131, .bool (decide (v12.1 <= 9)))] [zqa p0 (zw (i5 + 1)) (zM 2 1 1 p0.Wait), .cells (zab (rd p0.T p0.I)) 0 41, .rows (p0.Wait.map eStr) 1 1 9, .cells [zi v12.1, .bool b6, zi v12.2.1, zi 0, zi 0, zi 0, zi 0, zi 0, zi 0, zi 0, zi 0, .str (⟨#[]⟩ : ByteArray), zM 2 1 1 p0.Wait] 0 63, .cells [zi 0, zi 0, zi 0, .str (⟨#[]⟩ : ByteArray)] 0 41] ?_
      refine W.cnd (decide (v12.1 <= 9)) (fun hb72 => ?_) fun hb72 => ?_
      ·replace hm := zal hb72 hm
       replace ⟨v73, h74, hm⟩ := zam hm
       refine W.sq [] [(0, .ptr 0 0 0), (3, .ptr 1 0 0), (4, .ptr 3 0 0), (9, .ptr 4 0 0), (136, .bool (!v73.1))] [zqa v73.2.1 v73.2.1.I (zM 2 1 1 p0.Wait), .cells (zab (rd p0.T p0.I)) 0 41, .rows (p0.Wait.map eStr) 1 1 9, .cells [zi v73.2.2.Op, .bool v73.2.2.Lock, zi v73.2.2.Cond, zi v73.2.2.A.Kind, zi v73.2.2.A.Reg, zi v73.2.2.A.Sym, zi v73.2.2.A.N, zi v73.2.2.B.Kind, zi v73.2.2.B.Reg, zi v73.2.2.B.Sym, zi v73.2.2.B.N, .str v73.2.2.To, zM 2 1 1 p0.Wait] 0 63, .cells [zi 0, zi 0, zi 0, .str (⟨#[]⟩ : ByteArray)] 0 41] ?_ (hrun := ?_)
       rotate_left
       ·try simp -implicitDefEqProofs -dsimp only [go_sem, h1, hb2, hb18, hb67, hb72]
        with_reducible refine exP.mk (.gheap [] ⟨[], [0, 2, 3], [.ptr 0 0 0, .ptr 2 0 0], [zqa p0 (zw (i5 + 1)) (zM 1 1 1 p0.Wait), .rows (p0.Wait.map eStr) 1 1 9, .cells [zi v12.1, .bool b6, zi v12.2.1, zi 0, zi 0, zi 0, zi 0, zi 0, zi 0, zi 0, zi 0, .str (⟨#[]⟩ : ByteArray), zM 1 1 1 p0.Wait] 0 63], .bool v73.1, [zqa v73.2.1 v73.2.1.I (zM 1 1 1 p0.Wait), .rows (p0.Wait.map eStr) 1 1 9, .cells [zi v73.2.2.Op, .bool v73.2.2.Lock, zi v73.2.2.Cond, zi v73.2.2.A.Kind, zi v73.2.2.A.Reg, zi v73.2.2.A.Sym, zi v73.2.2.A.N, zi v73.2.2.B.Kind, zi v73.2.2.B.Reg, zi v73.2.2.B.Sym, zi v73.2.2.B.N, .str v73.2.2.To, zM 1 1 1 p0.Wait] 0 63]⟩ []) (callQ.ofG (by simp -implicitDefEqProofs -dsimp only [go_sem, h1, hb2, hb18, hb67, hb72]) (zec h74)) ?_
        try simp -implicitDefEqProofs -dsimp only [go_sem, h1, hb2, hb18, hb67, hb72]
       refine W.cnd (!v73.1) (fun hb75 => ?_) fun hb75 => ?_
       ·replace hm := zal hb75 hm
        refine W.sqG [] [.fol 0 0 9] [(2, .bool false)] [zqa v73.2.1 v73.2.1.I (zbW p0.Wait)] ?_
        obtain rfl := zo hm
        exact W.ret (zaR.retW ⟨[], []⟩ RO)
       ·replace hm := zak hb75 hm
        refine W.skip ?_
        exact ⟨(v73.2.1.T, v73.2.1.I, v73.2.1.P.zSy, v73.2.1.P.zTh, v73.2.1.zHd, v73.2.1.First, v73.2.1.To, v73.2.1.Left, v73.2.1.All, v73.2.1.Bad.Code, v73.2.1.Bad.Line, v73.2.1.Bad.Col, v73.2.2.Op, v73.2.2.Lock, v73.2.2.Cond, v73.2.2.A.Kind, v73.2.2.A.Reg, v73.2.2.A.Sym, v73.2.2.A.N, v73.2.2.B.Kind, v73.2.2.B.Reg, v73.2.2.B.Sym, v73.2.2.B.N, v73.2.2.To, 0, 0, 0, (⟨#[]⟩ : ByteArray)), (), ⟨[], []⟩, hm, RO⟩
      ·replace hm := zak hb72 hm
       refine W.skip ?_
       exact ⟨(p0.T, (zw (i5 + 1)), p0.P.zSy, p0.P.zTh, p0.zHd, p0.First, p0.To, p0.Left, p0.All, p0.Bad.Code, p0.Bad.Line, p0.Bad.Col, v12.1, b6, v12.2.1, 0, 0, 0, 0, 0, 0, 0, 0, (⟨#[]⟩ : ByteArray), 0, 0, 0, (⟨#[]⟩ : ByteArray)), (), ⟨[], []⟩, hm, RO⟩
    ·rintro s h ⟨⟨l21, i22, l23, l24, l25, l26, l27, l28, l29, i30, i31, i33, i34, b35, i36, i37, i38, i39, i40, i41, i42, i43, i44, s45, i46, i47, i48, s49⟩, _, F, hm, hat⟩
     refine W.weak F hat ?_
     show WK _ _ _ _ _ [(0, .ptr 0 0 0), (3, .ptr 1 0 0), (4, .ptr 3 0 0), (9, .ptr 4 0 0)] [zqd l21 i22 (zbS l23) (zbT l24) (zbK l25) (zbL l26) (zbL l27) (zbI l28) (zbW l29) (zM 2 1 1 p0.Wait) i30 i31 i33, .cells (zab (rd p0.T p0.I)) 0 41, .rows (p0.Wait.map eStr) 1 1 9, .cells [zi i34, .bool b35, zi i36, zi i37, zi i38, zi i39, zi i40, zi i41, zi i42, zi i43, zi i44, .str s45, zM 2 1 1 p0.Wait] 0 63, .cells [zi i46, zi i47, zi i48, .str s49] 0 41]
     rw [za9] at hm
     refine W.wk ⟨[], [.foc 0 0 3]⟩ [(0, .ptr 0 0 0), (3, .ptr 1 0 0), (4, .ptr 3 0 0), (9, .ptr 4 0 0)] [zqd l21 i22 (zbS l23) (zM 5 1 1 l24) (zbK l25) (zbL l26) (zbL l27) (zbI l28) (zbW l29) (zM 2 1 1 p0.Wait) i30 i31 i33, .cells (zab (rd p0.T p0.I)) 0 41, .rows (p0.Wait.map eStr) 1 1 9, .cells [zi i34, .bool b35, zi i36, zi i37, zi i38, zi i39, zi i40, zi i41, zi i42, zi i43, zi i44, .str s45, zM 2 1 1 p0.Wait] 0 63, .cells [zi i46, zi i47, zi i48, .str s49] 0 41, .rows (l24.map zaj) 1 1 59] ?_
     refine W.sqG [] [.fol 0 0 3] [(0, .ptr 0 0 0), (3, .ptr 1 0 0), (4, .ptr 3 0 0), (9, .ptr 4 0 0), (10, zi (zw ((l24.length : Int) - 1)))] [zqd l21 i22 (zbS l23) (zbT l24) (zbK l25) (zbL l26) (zbL l27) (zbI l28) (zbW l29) (zM 2 1 1 p0.Wait) i30 i31 i33, .cells (zab (rd p0.T p0.I)) 0 41, .rows (p0.Wait.map eStr) 1 1 9, .cells [zi i34, .bool b35, zi i36, zi i37, zi i38, zi i39, zi i40, zi i41, zi i42, zi i43, zi i44, .str s45, zM 2 1 1 p0.Wait] 0 63, .cells [zi i46, zi i47, zi i48, .str s49] 0 41] ?_
     replace ⟨h50, hm⟩ := zav hm
     replace ⟨h51, hm⟩ := zav hm
     replace ⟨h52, hm⟩ := zav hm
     replace ⟨l53, h54, hm⟩ := zaN hm
     refine W.wk ⟨[2], [.foc 0 0 3, .foc 5 ((zw ((l24.length : Int) - 1)).toNat) 0]⟩ [(0, .ptr 0 0 0), (3, .ptr 1 0 0), (4, .ptr 3 0 0), (9, .ptr 4 0 0), (10, zi (zw ((l24.length : Int) - 1)))] [zqd l21 i22 (zbS l23) (zM 5 1 1 l24) (zbK l25) (zbL l26) (zbL l27) (zbI l28) (zbW l29) (.sl (p0.Wait.map eStr)) i30 i31 i33, .cells (zab (rd p0.T p0.I)) 0 41, .dead, .cells [zi i34, .bool b35, zi i36, zi i37, zi i38, zi i39, zi i40, zi i41, zi i42, zi i43, zi i44, .str s45, .sl (p0.Wait.map eStr)] 0 63, .cells [zi i46, zi i47, zi i48, .str s49] 0 41, .rows ((l24.map zaj).set ((zw ((l24.length : Int) - 1)).toNat) [.msl 6 1 0 13 (((rd l24 (zw ((l24.length : Int) - 1))).Ins).length) (((rd l24 (zw ((l24.length : Int) - 1))).Ins).length)]) 1 1 59, .rows (((rd l24 (zw ((l24.length : Int) - 1))).Ins).map zan) 13 1 63] ?_
     refine W.sqLG [.light, .light, .light, .light, .light, .light, .light, .light, .light, .light, .light, .light, .light, .light, .light, .light, .lit, .app, .light, .light, .store] [([], []), ([], []), ([], []), ([], []), ([0], []), ([], []), ([], []), ([], []), ([], []), ([], []), ([0], []), ([], []), ([5], []), ([], []), ([5], []), ([3], []), ([], []), ([6], [6]), ([5], []), ([], []), ([5], [5])] [] [.fol 5 ((zw ((l24.length : Int) - 1)).toNat) 0, .fol 0 0 3] [(0, .ptr 0 0 0), (3, .ptr 1 0 0), (9, .ptr 4 0 0), (10, zi (zw ((l24.length : Int) - 1)))] [zqd l21 i22 (zbS l23) (zbT l53) (zbK l25) (zbL l26) (zbL l27) (zbI l28) (zbW l29) (.sl (p0.Wait.map eStr)) i30 i31 i33, .cells (zab (rd p0.T p0.I)) 0 41, .dead, .dead, .cells [zi i46, zi i47, zi i48, .str s49] 0 41] zaC ?_
     clear h54
     replace ⟨h55, hm⟩ := zav hm
     replace ⟨h56, hm⟩ := zav hm
     replace ⟨h57, hm⟩ := zav hm
     replace ⟨h58, hm⟩ := zav hm
     replace ⟨h59, hm⟩ := zav hm
     replace ⟨h60, hm⟩ := zav hm
     replace ⟨l61, h62, hm⟩ := zaN hm
     replace ⟨l63, h64, hm⟩ := zaN hm
     refine W.wk ⟨[], [.foc 0 0 5, .foc 0 0 6, .foc 5 ((zw ((l24.length : Int) - 1)).toNat) 0, .foc 6 ((zw ((l24.length : Int) - 1)).toNat) 0]⟩ [(0, .ptr 0 0 0), (3, .ptr 1 0 0), (9, .ptr 4 0 0), (10, zi (zw ((l24.length : Int) - 1)))] [zqd l21 i22 (zbS l23) (zbT l53) (zbK l25) (zM 5 1 1 l26) (zM 6 1 1 l27) (zbI l28) (zbW l29) (.sl (p0.Wait.map eStr)) i30 i31 i33, .cells (zab (rd p0.T p0.I)) 0 41, .dead, .dead, .cells [zi i46, zi i47, zi i48, .str s49] 0 41, .rows ((l26.map (oSl 4 41 zab)).set ((zw ((l24.length : Int) - 1)).toNat) [.msl 7 1 0 4 ((rd l26 (zw ((l24.length : Int) - 1))).length) ((rd l26 (zw ((l24.length : Int) - 1))).length)]) 1 1 34, .rows ((l27.map (oSl 4 41 zab)).set ((zw ((l24.length : Int) - 1)).toNat) [.msl 8 1 0 4 ((rd l27 (zw ((l24.length : Int) - 1))).length) ((rd l27 (zw ((l24.length : Int) - 1))).length)]) 1 1 34, .rows ((rd l26 (zw ((l24.length : Int) - 1))).map zab) 4 1 41, .rows ((rd l27 (zw ((l24.length : Int) - 1))).map zab) 4 1 41] ?_
     refine W.sqLG [.light, .light, .light, .light, .light, .light, .light, .light, .light, .light, .light, .light, .light, .light, .light, .light, .light, .light, .lit, .app, .light, .light, .light, .light, .light, .light, .light, .light, .lit, .app, .light, .store, .light, .store] [([], []), ([], []), ([], []), ([0], []), ([], []), ([], []), ([], []), ([], []), ([0], []), ([], []), ([], []), ([], []), ([], []), ([0], []), ([], []), ([5], []), ([5], []), ([1], []), ([], []), ([7], [7]), ([], []), ([], []), ([], []), ([0], []), ([], []), ([6], []), ([6], []), ([4], []), ([], []), ([8], [8]), ([5], []), ([5], [5]), ([6], []), ([6], [6])] [] [.fol 5 ((zw ((l24.length : Int) - 1)).toNat) 0, .fol 0 0 5, .fol 6 ((zw ((l24.length : Int) - 1)).toNat) 0, .fol 0 0 6] [(0, .ptr 0 0 0)] [zqd l21 i22 (zbS l23) (zbT l53) (zbK l25) (zbL l61) (zbL l63) (zbI l28) (zbW l29) (.sl (p0.Wait.map eStr)) i30 i31 i33] zaC ?_
     clear h62 h64
     refine W.sqG [] [.nbx 0 0 9 1 9] [] [zqd l21 i22 (zbS l23) (zbT l53) (zbK l25) (zbL l61) (zbL l63) (zbI l28) (zbW l29) (zbW ([] : List ByteArray)) i30 i31 i33] ?_
     refine W.sqh [] [(2, .bool true)] ?_
     obtain rfl := zo hm
     exact W.ret (zaR.retW ⟨[], []⟩ RO)
theorem ze8 {p0 : zaa} {r : Bool × zaa} (hm : zby p0 = some r) : HF Tryz.prog 67 [.ptr 0 0 0] [.cells (zaf p0) 0 90] (.bool r.1) [.cells (zaf r.2) 0 90] := by
 rw [zby] at hm
 refine HF.of Tryz.func67 rfl Tryz.ntmps67 (Nat.le_of_ble_eq_true rfl) rfl ?_
 have e0 : argS 0 [.ptr 0 0 0] = [(0, .ptr 0 0 0)] := rfl
 rw [e0]
 refine W.sq [] [(0, .ptr 0 0 0)] [.cells (zaf p0) 0 90] ?_
 refine W.seq ?_
 refine W.wk ⟨[], [.foc 0 0 3]⟩ [(0, .ptr 0 0 0)] [zqb p0 p0.I (zbS p0.P.zSy) (zM 1 1 1 p0.P.zTh) (zbW p0.Wait), .rows (p0.P.zTh.map zaj) 1 1 59] ?_
 refine W.sqG [] [.fol 0 0 3] [(0, .ptr 0 0 0), (10, .bool ((p0.P.zTh.length : Int) == 0))] [.cells (zaf p0) 0 90] ?_
 refine W.cnd ((p0.P.zTh.length : Int) == 0) (fun hb1 => ?_) fun hb1 => ?_
 ·replace hm := zal hb1 hm
  replace ⟨h2, hm⟩ := zav hm
  replace ⟨v3, h4, hm⟩ := zam hm
  refine W.sqJ [11] [] [] 0 [] [(2, .bool v3.1)] [.cells (zaf v3.2) 0 90] zaC ?_ (hrun := ?_)
  rotate_left
  ·try simp -implicitDefEqProofs -dsimp only [go_sem, hb1, h2]
   with_reducible refine exP.mk (.gheap [] ⟨[], [0], [.ptr 0 0 0, zi 4, zqT (rd p0.T p0.I)], [.cells (zaf p0) 0 90], .bool v3.1, [.cells (zaf v3.2) 0 90]⟩ []) (callQ.ofG (by simp -implicitDefEqProofs -dsimp only [go_sem, hb1, h2]) (zaE h4)) ?_
   try simp -implicitDefEqProofs -dsimp only [go_sem, hb1, h2]
  obtain rfl := zo hm
  exact W.ret (zaR.retW ⟨[], []⟩ RO)
 ·replace hm := zak hb1 hm
  refine W.skip ?_
  refine W.seq ?_
  refine W.block ?_
  replace ⟨r110, hlr110, hm⟩ := zam hm
  refine W.mono (Q := fun e0 s0 h0 => match r110 with | .inl e => e0 = .exit 0 /\ ∃ w : Unit, s0 = [(0, .ptr 0 0 0)] /\ h0 = [zqd e.1 e.2.1 (zbS e.2.2.1) (zbT e.2.2.2.1) (zbK e.2.2.2.2.1) (zbL e.2.2.2.2.2.1) (zbL e.2.2.2.2.2.2.1) (zbI e.2.2.2.2.2.2.2.1) (zbW e.2.2.2.2.2.2.2.2.1) (zbW e.2.2.2.2.2.2.2.2.2.1) e.2.2.2.2.2.2.2.2.2.2.1 e.2.2.2.2.2.2.2.2.2.2.2.1 e.2.2.2.2.2.2.2.2.2.2.2.2] | .inr q => e0 = .ret /\ s0 = [(2, .bool q.1)] /\ h0 = [.cells (zaf q.2) 0 90]) (W.loopM (step := za2) (a0 := (p0.T, p0.I, p0.P.zSy, p0.P.zTh, p0.zHd, p0.First, p0.To, p0.Left, p0.All, p0.Wait, p0.Bad.Code, p0.Bad.Line, p0.Bad.Col)) (fun (a : (List zad) × Int × (List zaq) × (List zai) × (List zad) × (List (List zad)) × (List (List zad)) × (List Int) × (List ByteArray) × (List ByteArray) × Int × Int × Int) (v : Unit) => ([(0, .ptr 0 0 0)], [zqd a.1 a.2.1 (zbS a.2.2.1) (zbT a.2.2.2.1) (zbK a.2.2.2.2.1) (zbL a.2.2.2.2.2.1) (zbL a.2.2.2.2.2.2.1) (zbI a.2.2.2.2.2.2.2.1) (zbW a.2.2.2.2.2.2.2.2.1) (zbW a.2.2.2.2.2.2.2.2.2.1) a.2.2.2.2.2.2.2.2.2.2.1 a.2.2.2.2.2.2.2.2.2.2.2.1 a.2.2.2.2.2.2.2.2.2.2.2.2])) () hlr110 ⟨[], []⟩ RO ?_) ?_
  ·rintro ⟨l62, i63, l64, l65, l66, l67, l68, l69, l70, l71, i72, i73, i74⟩ _ x hm hx
   rw [za2] at hm
   show WK _ _ _ _ _ [(0, .ptr 0 0 0)] [zqd l62 i63 (zbS l64) (zbT l65) (zbK l66) (zbL l67) (zbL l68) (zbI l69) (zbW l70) (zbW l71) i72 i73 i74]
   refine W.seq ?_
   replace ⟨h111, hm⟩ := zav hm
   replace ⟨h112, hm⟩ := zav hm
   replace ⟨h113, hm⟩ := zav hm
   replace ⟨b114, h115, hm⟩ := zaN hm
   refine W.sqJ [] [] [] 0 [] [(0, .ptr 0 0 0), (64, .bool b114)] [zqd l62 i63 (zbS l64) (zbT l65) (zbK l66) (zbL l67) (zbL l68) (zbI l69) (zbW l70) (zbW l71) i72 i73 i74] zaC ?_
   clear h115
   refine W.cnd b114 (fun hb116 => ?_) fun hb116 => ?_
   ·replace hm := zal hb116 hm
    refine W.skip ?_
    refine W.block ?_
    refine W.seq ?_
    replace ⟨v117, h118, hm⟩ := zam hm
    refine W.sq [] [(0, .ptr 0 0 0), (67, .bool (!v117.1))] [.cells (zaf v117.2) 0 90] ?_ (hrun := ?_)
    rotate_left
    ·try simp -implicitDefEqProofs -dsimp only [go_sem, hb1, h111, h112, h113, hb116]
     with_reducible refine exP.mk (.gheap [] ⟨[], [0], [.ptr 0 0 0], [.cells (zaf (zaa.mk l62 i63 (zat.mk l64 l65) l66 l67 l68 l69 l70 l71 (zao.mk i72 i73 i74))) 0 90], .bool v117.1, [.cells (zaf v117.2) 0 90]⟩ []) (callQ.ofG (by simp -implicitDefEqProofs -dsimp only [go_sem, hb1, h111, h112, h113, hb116]) (zdH h118)) ?_
     try simp -implicitDefEqProofs -dsimp only [go_sem, hb1, h111, h112, h113, hb116]
    refine W.cnd (!v117.1) (fun hb119 => ?_) fun hb119 => ?_
    ·replace hm := zal hb119 hm
     refine W.sqh [] [(2, .bool false)] ?_
     obtain rfl := zo hm
     obtain rfl := hx _ rfl
     exact W.wk ⟨[], []⟩ [(2, .bool false)] [.cells (zaf v117.2) 0 90] (W.ret (show _ /\ _ from ⟨rfl, rfl, rfl⟩))
    ·replace hm := zak hb119 hm
     refine W.skip ?_
     replace ⟨h120, hm⟩ := zav hm
     refine W.sqJ [] [] [] 0 [] [(0, .ptr 0 0 0), (3, .str (rd v117.2.T v117.2.I).Text)] [.cells (zaf v117.2) 0 90] zaC ?_
     refine W.seq ?_
     replace ⟨v121, h122, hm⟩ := zam hm
     refine W.wk ⟨[], [.foc 0 0 8]⟩ [(0, .ptr 0 0 0), (3, .str (rd v117.2.T v117.2.I).Text)] [zqc v117.2 v117.2.I (zbS v117.2.P.zSy) (zbT v117.2.P.zTh) (zbK v117.2.zHd) (zbL v117.2.First) (zbL v117.2.To) (zbI v117.2.Left) (zM 1 1 1 v117.2.All) (zbW v117.2.Wait), .rows (v117.2.All.map eStr) 1 1 9] ?_
     refine W.sqG [] [.fol 0 0 8] [(0, .ptr 0 0 0), (3, .str (rd v117.2.T v117.2.I).Text), (85, .bool (decide (v121 ≥ 0)))] [.cells (zaf v117.2) 0 90] ?_ (hrun := ?_)
     rotate_left
     ·try simp -implicitDefEqProofs -dsimp only [go_sem, hb1, h111, h112, h113, hb116, hb119, h120]
      with_reducible refine exP.mk (.gheap [] ⟨[], [1], [zM 0 1 1 v117.2.All, .str (rd v117.2.T v117.2.I).Text], [.rows (v117.2.All.map eStr) 1 1 9], zi v121, [.rows (v117.2.All.map eStr) 1 1 9]⟩ []) (callQ.ofG (by simp -implicitDefEqProofs -dsimp only [go_sem, hb1, h111, h112, h113, hb116, hb119, h120]) (zfX h122)) ?_
      try simp -implicitDefEqProofs -dsimp only [go_sem, hb1, h111, h112, h113, hb116, hb119, h120]
     refine W.cnd (decide (v121 ≥ 0)) (fun hb123 => ?_) fun hb123 => ?_
     ·replace hm := zal hb123 hm
      replace ⟨h124, hm⟩ := zav hm
      replace ⟨v125, h126, hm⟩ := zam hm
      refine W.sqJ [11] [] [] 0 [] [(2, .bool v125.1)] [.cells (zaf v125.2) 0 90] zaC ?_ (hrun := ?_)
      rotate_left
      ·try simp -implicitDefEqProofs -dsimp only [go_sem, hb1, h111, h112, h113, hb116, hb119, h120, hb123, h124]
       with_reducible refine exP.mk (.gheap [] ⟨[], [0], [.ptr 0 0 0, zi 6, zqT (rd v117.2.T v117.2.I)], [.cells (zaf v117.2) 0 90], .bool v125.1, [.cells (zaf v125.2) 0 90]⟩ []) (callQ.ofG (by simp -implicitDefEqProofs -dsimp only [go_sem, hb1, h111, h112, h113, hb116, hb119, h120, hb123, h124]) (zaE h126)) ?_
       try simp -implicitDefEqProofs -dsimp only [go_sem, hb1, h111, h112, h113, hb116, hb119, h120, hb123, h124]
      obtain rfl := zo hm
      obtain rfl := hx _ rfl
      exact W.wk ⟨[], []⟩ [(2, .bool v125.1)] [.cells (zaf v125.2) 0 90] (W.ret (show _ /\ _ from ⟨rfl, rfl, rfl⟩))
     ·replace hm := zak hb123 hm
      refine W.skip ?_
      replace ⟨h127, hm⟩ := zav hm
      replace ⟨h128, hm⟩ := zav hm
      replace ⟨l129, h130, hm⟩ := zaN hm
      replace ⟨l131, h132, hm⟩ := zaN hm
      refine W.wk ⟨[], [.foc 0 0 8, .foc 0 0 9]⟩ [(0, .ptr 0 0 0), (3, .str (rd v117.2.T v117.2.I).Text), (85, .bool (decide (v121 ≥ 0)))] [zqc v117.2 v117.2.I (zbS v117.2.P.zSy) (zbT v117.2.P.zTh) (zbK v117.2.zHd) (zbL v117.2.First) (zbL v117.2.To) (zbI v117.2.Left) (zM 1 1 1 v117.2.All) (zM 2 1 1 v117.2.Wait), .rows (v117.2.All.map eStr) 1 1 9, .rows (v117.2.Wait.map eStr) 1 1 9] ?_
      refine W.sqLG [.light, .light, .light, .light, .light, .light, .light, .lit, .app, .light, .light, .light, .light, .light, .lit, .app, .light, .light, .store, .light, .light, .store] [([], []), ([], []), ([], []), ([], []), ([], []), ([0], []), ([], []), ([], []), ([1], [1]), ([], []), ([], []), ([], []), ([0], []), ([], []), ([], []), ([2], [2]), ([], []), ([], []), ([0], [0]), ([], []), ([], []), ([0], [0])] [] [.fol 0 0 8, .fol 0 0 9] [(0, .ptr 0 0 0)] [zqc v117.2 v117.2.I (zbS v117.2.P.zSy) (zbT v117.2.P.zTh) (zbK v117.2.zHd) (zbL v117.2.First) (zbL v117.2.To) (zbI v117.2.Left) (zbW l129) (zbW l131)] zaC ?_
      clear h130 h132
      refine W.rg [] [(0, .ptr 0 0 0)] [zqc v117.2 (zw (v117.2.I + 2)) (zbS v117.2.P.zSy) (zbT v117.2.P.zTh) (zbK v117.2.zHd) (zbL v117.2.First) (zbL v117.2.To) (zbI v117.2.Left) (zbW l129) (zbW l131)] ?_
      obtain rfl := zo hm
      exact ⟨(v117.2.T, (zw (v117.2.I + 2)), v117.2.P.zSy, v117.2.P.zTh, v117.2.zHd, v117.2.First, v117.2.To, v117.2.Left, l129, l131, v117.2.Bad.Code, v117.2.Bad.Line, v117.2.Bad.Col), (), ⟨[], []⟩, rfl, RO⟩
   ·replace hm := zak hb116 hm
    obtain rfl := zo hm
    obtain rfl := hx _ rfl
    exact W.wk ⟨[], []⟩ [(0, .ptr 0 0 0)] [zqd l62 i63 (zbS l64) (zbT l65) (zbK l66) (zbL l67) (zbL l68) (zbI l69) (zbW l70) (zbW l71) i72 i73 i74] (W.exit (show _ /\ _ from ⟨rfl, (), rfl, rfl⟩))
  ·intro e0 s0 h0 hq
   rcases r110 with er110 | qr110
   ·obtain ⟨rfl, _, rfl, rfl⟩ := hq
    replace hm := zcC hm
    show WK _ _ _ _ _ [(0, .ptr 0 0 0)] [zqd er110.1 er110.2.1 (zbS er110.2.2.1) (zbT er110.2.2.2.1) (zbK er110.2.2.2.2.1) (zbL er110.2.2.2.2.2.1) (zbL er110.2.2.2.2.2.2.1) (zbI er110.2.2.2.2.2.2.2.1) (zbW er110.2.2.2.2.2.2.2.2.1) (zbW er110.2.2.2.2.2.2.2.2.2.1) er110.2.2.2.2.2.2.2.2.2.2.1 er110.2.2.2.2.2.2.2.2.2.2.2.1 er110.2.2.2.2.2.2.2.2.2.2.2.2]
    refine W.seq ?_
    replace ⟨h133, hm⟩ := zav hm
    refine W.sqJ [] [] [] 0 [] [(0, .ptr 0 0 0), (136, .bool ((rd er110.1 er110.2.1).Kind == 4))] [zqd er110.1 er110.2.1 (zbS er110.2.2.1) (zbT er110.2.2.2.1) (zbK er110.2.2.2.2.1) (zbL er110.2.2.2.2.2.1) (zbL er110.2.2.2.2.2.2.1) (zbI er110.2.2.2.2.2.2.2.1) (zbW er110.2.2.2.2.2.2.2.2.1) (zbW er110.2.2.2.2.2.2.2.2.2.1) er110.2.2.2.2.2.2.2.2.2.2.1 er110.2.2.2.2.2.2.2.2.2.2.2.1 er110.2.2.2.2.2.2.2.2.2.2.2.2] zaC ?_
    refine W.cnd ((rd er110.1 er110.2.1).Kind == 4) (fun hb134 => ?_) fun hb134 => ?_
    ·replace hm := zal hb134 hm
     refine W.sqh [] [(2, .bool true)] ?_
     obtain rfl := zo hm
     exact W.ret (zaR.retW ⟨[], []⟩ RO)
    ·replace hm := zak hb134 hm
     refine W.skip ?_
     replace ⟨v135, h136, hm⟩ := zam hm
     refine W.sq [] [(2, .bool v135.1)] [.cells (zaf v135.2) 0 90] ?_ (hrun := ?_)
     rotate_left
     ·try simp -implicitDefEqProofs -dsimp only [go_sem, hb1, h133, hb134]
      with_reducible refine exP.mk (.gheap [] ⟨[], [0], [.ptr 0 0 0], [.cells (zaf (zaa.mk er110.1 er110.2.1 (zat.mk er110.2.2.1 er110.2.2.2.1) er110.2.2.2.2.1 er110.2.2.2.2.2.1 er110.2.2.2.2.2.2.1 er110.2.2.2.2.2.2.2.1 er110.2.2.2.2.2.2.2.2.1 er110.2.2.2.2.2.2.2.2.2.1 (zao.mk er110.2.2.2.2.2.2.2.2.2.2.1 er110.2.2.2.2.2.2.2.2.2.2.2.1 er110.2.2.2.2.2.2.2.2.2.2.2.2))) 0 90], .bool v135.1, [.cells (zaf v135.2) 0 90]⟩ []) (callQ.ofG (by simp -implicitDefEqProofs -dsimp only [go_sem, hb1, h133, hb134]) (zfm h136)) ?_
      try simp -implicitDefEqProofs -dsimp only [go_sem, hb1, h133, hb134]
     obtain rfl := zo hm
     exact W.ret (zaR.retW ⟨[], []⟩ RO)
   ·obtain ⟨rfl, rfl, rfl⟩ := hq
    replace hm := zcB hm
    obtain rfl := zo hm
    exact zaR.retW ⟨[], []⟩ RO
theorem zdG {p0 : zaa} {r : zaa} (hm : za3 p0 = some r) : HF Tryz.prog 39 [.ptr 0 0 0] [.cells (zaf p0) 0 90] (.tuple []) [.cells (zaf r) 0 90] := by
 rw [za3] at hm
 refine HF.of Tryz.func39 rfl Tryz.ntmps39 (Nat.le_of_ble_eq_true rfl) rfl ?_
 have e0 : argS 0 [.ptr 0 0 0] = [(0, .ptr 0 0 0)] := rfl
 rw [e0]
 refine W.seq ?_
 refine W.wk ⟨[], [.foc 0 0 3]⟩ [(0, .ptr 0 0 0)] [zqb p0 p0.I (zbS p0.P.zSy) (zM 1 1 1 p0.P.zTh) (zbW p0.Wait), .rows (p0.P.zTh.map zaj) 1 1 59] ?_
 refine W.sqG [] [.fol 0 0 3] [(0, .ptr 0 0 0), (8, .bool (decide ((p0.P.zTh.length : Int) > 0)))] [.cells (zaf p0) 0 90] ?_
 refine W.cnd (decide ((p0.P.zTh.length : Int) > 0)) (fun hb1 => ?_) fun hb1 => ?_
 ·replace hm := zal hb1 hm
  replace ⟨h2, hm⟩ := zav hm
  replace ⟨l3, h4, hm⟩ := zaN hm
  refine W.wk ⟨[], [.foc 0 0 7, .foc 0 0 9]⟩ [(0, .ptr 0 0 0), (8, .bool (decide ((p0.P.zTh.length : Int) > 0)))] [zqc p0 p0.I (zbS p0.P.zSy) (zbT p0.P.zTh) (zbK p0.zHd) (zbL p0.First) (zbL p0.To) (zM 1 1 1 p0.Left) (zbW p0.All) (zM 2 1 1 p0.Wait), .rows (p0.Left.map (eInt .i64)) 1 1 3, .rows (p0.Wait.map eStr) 1 1 9] ?_
  refine W.rgLG [.light, .light, .light, .light, .light, .light, .light, .light, .light, .look, .lit, .app, .light, .light, .store] [([], []), ([], []), ([], []), ([], []), ([0], []), ([], []), ([], []), ([], []), ([0], []), ([2], []), ([], []), ([1], [1]), ([], []), ([], []), ([0], [0])] [] [.fol 0 0 7, .fol 0 0 9] [(0, .ptr 0 0 0)] [zqc p0 p0.I (zbS p0.P.zSy) (zbT p0.P.zTh) (zbK p0.zHd) (zbL p0.First) (zbL p0.To) (zbI l3) (zbW p0.All) (zbW p0.Wait)] zaC ?_
  clear h4
  refine W.rgG [] [.nbx 0 0 8 1 9, .nbx 0 0 9 1 9] [] [zqc p0 p0.I (zbS p0.P.zSy) (zbT p0.P.zTh) (zbK p0.zHd) (zbL p0.First) (zbL p0.To) (zbI l3) (zbW ([] : List ByteArray)) (zbW ([] : List ByteArray))] ?_
  obtain rfl := zo hm
  exact zaR.normalW ⟨[], []⟩ RO
 ·replace hm := zak hb1 hm
  refine W.skip ?_
  refine W.rgG [] [.nbx 0 0 8 1 9, .nbx 0 0 9 1 9] [] [zqc p0 p0.I (zbS p0.P.zSy) (zbT p0.P.zTh) (zbK p0.zHd) (zbL p0.First) (zbL p0.To) (zbI p0.Left) (zbW ([] : List ByteArray)) (zbW ([] : List ByteArray))] ?_
  obtain rfl := zo hm
  exact zaR.normalW ⟨[], []⟩ RO
theorem zeB {p0 : zaa} {r : Bool × zaa} (hm : zbH p0 = some r) : HF Tryz.prog 66 [.ptr 0 0 0] [.cells (zaf p0) 0 90] (.bool r.1) [.cells (zaf r.2) 0 90] := by
 rw [zbH] at hm
 refine HF.of Tryz.func66 rfl Tryz.ntmps66 (Nat.le_of_ble_eq_true rfl) rfl ?_
 have e0 : argS 0 [.ptr 0 0 0] = [(0, .ptr 0 0 0)] := rfl
 rw [e0]
 refine W.sq [] [(0, .ptr 0 0 0)] [.cells (zaf p0) 0 90] ?_
 refine W.seq ?_
 refine W.wk ⟨[], [.foc 0 0 3]⟩ [(0, .ptr 0 0 0)] [zqb p0 p0.I (zbS p0.P.zSy) (zM 1 1 1 p0.P.zTh) (zbW p0.Wait), .rows (p0.P.zTh.map zaj) 1 1 59] ?_
 refine W.sqG [] [.fol 0 0 3] [(0, .ptr 0 0 0), (9, .bool ((p0.P.zTh.length : Int) == 64))] [.cells (zaf p0) 0 90] ?_
 refine W.cnd ((p0.P.zTh.length : Int) == 64) (fun hb1 => ?_) fun hb1 => ?_
 ·replace hm := zal hb1 hm
  replace ⟨h2, hm⟩ := zav hm
  replace ⟨v3, h4, hm⟩ := zam hm
  refine W.sqJ [11] [] [] 0 [] [(2, .bool v3.1)] [.cells (zaf v3.2) 0 90] zaC ?_ (hrun := ?_)
  rotate_left
  ·try simp -implicitDefEqProofs -dsimp only [go_sem, hb1, h2]
   with_reducible refine exP.mk (.gheap [] ⟨[], [0], [.ptr 0 0 0, zi 10, zqT (rd p0.T p0.I)], [.cells (zaf p0) 0 90], .bool v3.1, [.cells (zaf v3.2) 0 90]⟩ []) (callQ.ofG (by simp -implicitDefEqProofs -dsimp only [go_sem, hb1, h2]) (zaE h4)) ?_
   try simp -implicitDefEqProofs -dsimp only [go_sem, hb1, h2]
  obtain rfl := zo hm
  exact W.ret (zaR.retW ⟨[], []⟩ RO)
 ·replace hm := zak hb1 hm
  refine W.skip ?_
  replace ⟨v5, h6, hm⟩ := zam hm
  refine W.sq [] [(0, .ptr 0 0 0)] [.cells (zaf v5) 0 90] ?_ (hrun := ?_)
  rotate_left
  ·try simp -implicitDefEqProofs -dsimp only [go_sem, hb1]
   with_reducible refine exP.mk (.gheap [] ⟨[], [0], [.ptr 0 0 0], [.cells (zaf p0) 0 90], .tuple [], [.cells (zaf v5) 0 90]⟩ []) (callQ.ofG (by simp -implicitDefEqProofs -dsimp only [go_sem, hb1]) (zdG h6)) ?_
   try simp -implicitDefEqProofs -dsimp only [go_sem, hb1]
  replace ⟨h7, hm⟩ := zav hm
  replace ⟨l8, h9, hm⟩ := zaN hm
  refine W.wk ⟨[], [.foc 0 0 3]⟩ [(0, .ptr 0 0 0)] [zqb v5 v5.I (zbS v5.P.zSy) (zM 1 1 1 v5.P.zTh) (zbW v5.Wait), .rows (v5.P.zTh.map zaj) 1 1 59] ?_
  refine W.sqG [] [.nbx 1 v5.P.zTh.length 0 13 63, .fol 0 0 3] [(0, .ptr 0 0 0)] [zqb v5 v5.I (zbS v5.P.zSy) (zbT l8) (zbW v5.Wait)] ?_ (hrun := by exact ROT)
  clear h9
  replace ⟨h10, hm⟩ := zav hm
  replace ⟨h11, hm⟩ := zav hm
  replace ⟨l12, h13, hm⟩ := zaN hm
  refine W.wk ⟨[], [.foc 0 0 4]⟩ [(0, .ptr 0 0 0)] [zqc v5 v5.I (zbS v5.P.zSy) (zbT l8) (zM 1 1 4 v5.zHd) (zbL v5.First) (zbL v5.To) (zbI v5.Left) (zbW v5.All) (zbW v5.Wait), .rows (v5.zHd.map zab) 4 1 41] ?_
  refine W.sqLG [.light, .light, .light, .light, .light, .light, .light, .light, .light, .light, .light, .light, .light, .light, .light, .lit, .app, .light, .light, .store] [([], []), ([], []), ([], []), ([], []), ([0], []), ([], []), ([], []), ([], []), ([0], []), ([], []), ([], []), ([], []), ([0], []), ([], []), ([], []), ([], []), ([1], [1]), ([], []), ([], []), ([0], [0])] [] [.fol 0 0 4] [(0, .ptr 0 0 0)] [zqc v5 v5.I (zbS v5.P.zSy) (zbT l8) (zbK l12) (zbL v5.First) (zbL v5.To) (zbI v5.Left) (zbW v5.All) (zbW v5.Wait)] zaC ?_
  clear h13
  replace ⟨h14, hm⟩ := zav hm
  replace ⟨h15, hm⟩ := zav hm
  replace ⟨l16, h17, hm⟩ := zaN hm
  replace ⟨l18, h19, hm⟩ := zaN hm
  refine W.wk ⟨[], [.foc 0 0 5, .foc 0 0 6]⟩ [(0, .ptr 0 0 0)] [zqc v5 v5.I (zbS v5.P.zSy) (zbT l8) (zbK l12) (zM 1 1 1 v5.First) (zM 2 1 1 v5.To) (zbI v5.Left) (zbW v5.All) (zbW v5.Wait), .rows (v5.First.map (oSl 4 41 zab)) 1 1 34, .rows (v5.To.map (oSl 4 41 zab)) 1 1 34] ?_
  refine W.wk ⟨[], [.res, .res]⟩ [(0, .ptr 0 0 0)] [zqc v5 v5.I (zbS v5.P.zSy) (zbT l8) (zbK l12) (zM 1 1 1 v5.First) (zM 2 1 1 v5.To) (zbI v5.Left) (zbW v5.All) (zbW v5.Wait), .rows (v5.First.map (oSl 4 41 zab)) 1 1 34, .rows (v5.To.map (oSl 4 41 zab)) 1 1 34, .hole, .hole] ?_
  refine W.sqLG [.light, .light, .light, .light, .light, .light, .here 3, .app, .light, .light, .light, .light, .here 4, .app, .light, .light, .store, .light, .light, .store] [([], []), ([], []), ([], []), ([], []), ([], []), ([0], []), ([3], [3]), ([1, 3], [1]), ([], []), ([], []), ([], []), ([0], []), ([4], [4]), ([2, 4], [2]), ([], []), ([], []), ([0], [0]), ([], []), ([], []), ([0], [0])] [] [.nbx 1 v5.First.length 0 4 41, .fol 0 0 5, .nbx 2 v5.To.length 0 4 41, .fol 0 0 6] [(0, .ptr 0 0 0)] [zqc v5 v5.I (zbS v5.P.zSy) (zbT l8) (zbK l12) (zbL l16) (zbL l18) (zbI v5.Left) (zbW v5.All) (zbW v5.Wait)] zaC ?_
  clear h17 h19
  refine W.sq [] [] [zqc v5 (zw (v5.I + 1)) (zbS v5.P.zSy) (zbT l8) (zbK l12) (zbL l16) (zbL l18) (zbI v5.Left) (zbW v5.All) (zbW v5.Wait)] ?_
  refine W.sqh [] [(2, .bool true)] ?_
  obtain rfl := zo hm
  exact W.ret (zaR.retW ⟨[], []⟩ RO)
theorem zfl {p0 : zaa} {r : Bool × zaa} (hm : zcl p0 = some r) : HF Tryz.prog 65 [.ptr 0 0 0] [.cells (zaf p0) 0 90] (.bool r.1) [.cells (zaf r.2) 0 90] := by
 rw [zcl] at hm
 refine HF.of Tryz.func65 rfl Tryz.ntmps65 (Nat.le_of_ble_eq_true rfl) rfl ?_
 have e0 : argS 0 [.ptr 0 0 0] = [(0, .ptr 0 0 0)] := rfl
 rw [e0]
 refine W.sq [] [(0, .ptr 0 0 0)] [.cells (zaf p0) 0 90] ?_
 refine W.seq ?_
 refine W.wk ⟨[], [.foc 0 0 3]⟩ [(0, .ptr 0 0 0)] [zqb p0 p0.I (zbS p0.P.zSy) (zM 1 1 1 p0.P.zTh) (zbW p0.Wait), .rows (p0.P.zTh.map zaj) 1 1 59] ?_
 refine W.sqG [] [.fol 0 0 3] [(0, .ptr 0 0 0), (15, .bool (decide ((p0.P.zTh.length : Int) > 0)))] [.cells (zaf p0) 0 90] ?_
 refine W.cnd (decide ((p0.P.zTh.length : Int) > 0)) (fun hb1 => ?_) fun hb1 => ?_
 ·replace hm := zal hb1 hm
  replace ⟨h2, hm⟩ := zav hm
  replace ⟨v3, h4, hm⟩ := zam hm
  refine W.sqJ [11] [] [] 0 [] [(2, .bool v3.1)] [.cells (zaf v3.2) 0 90] zaC ?_ (hrun := ?_)
  rotate_left
  ·try simp -implicitDefEqProofs -dsimp only [go_sem, hb1, h2]
   with_reducible refine exP.mk (.gheap [] ⟨[], [0], [.ptr 0 0 0, zi 4, zqT (rd p0.T p0.I)], [.cells (zaf p0) 0 90], .bool v3.1, [.cells (zaf v3.2) 0 90]⟩ []) (callQ.ofG (by simp -implicitDefEqProofs -dsimp only [go_sem, hb1, h2]) (zaE h4)) ?_
   try simp -implicitDefEqProofs -dsimp only [go_sem, hb1, h2]
  obtain rfl := zo hm
  exact W.ret (zaR.retW ⟨[], []⟩ RO)
 ·replace hm := zak hb1 hm
  refine W.skip ?_
  refine W.seq ?_
  refine W.wk ⟨[], [.foc 0 0 2]⟩ [(0, .ptr 0 0 0), (15, .bool (decide ((p0.P.zTh.length : Int) > 0)))] [zqb p0 p0.I (zM 1 1 3 p0.P.zSy) (zbT p0.P.zTh) (zbW p0.Wait), .rows (p0.P.zSy.map zas) 3 1 54] ?_
  refine W.sqG [] [.fol 0 0 2] [(0, .ptr 0 0 0), (34, .bool ((p0.P.zSy.length : Int) == 64))] [.cells (zaf p0) 0 90] ?_
  refine W.cnd ((p0.P.zSy.length : Int) == 64) (fun hb5 => ?_) fun hb5 => ?_
  ·replace hm := zal hb5 hm
   replace ⟨h6, hm⟩ := zav hm
   replace ⟨v7, h8, hm⟩ := zam hm
   refine W.sqJ [11] [] [] 0 [] [(2, .bool v7.1)] [.cells (zaf v7.2) 0 90] zaC ?_ (hrun := ?_)
   rotate_left
   ·try simp -implicitDefEqProofs -dsimp only [go_sem, hb1, hb5, h6]
    with_reducible refine exP.mk (.gheap [] ⟨[], [0], [.ptr 0 0 0, zi 10, zqT (rd p0.T p0.I)], [.cells (zaf p0) 0 90], .bool v7.1, [.cells (zaf v7.2) 0 90]⟩ []) (callQ.ofG (by simp -implicitDefEqProofs -dsimp only [go_sem, hb1, hb5, h6]) (zaE h8)) ?_
    try simp -implicitDefEqProofs -dsimp only [go_sem, hb1, hb5, h6]
   obtain rfl := zo hm
   exact W.ret (zaR.retW ⟨[], []⟩ RO)
  ·replace hm := zak hb5 hm
   refine W.skip ?_
   refine W.sq [] [(0, .ptr 0 0 0)] [zqa p0 (zw (p0.I + 1)) (zbW p0.Wait)] ?_
   refine W.seq ?_
   replace ⟨v9, h10, hm⟩ := zam hm
   refine W.sq [] [(0, .ptr 0 0 0), (56, .bool (!v9.1))] [.cells (zaf v9.2) 0 90] ?_ (hrun := ?_)
   rotate_left
   ·try simp -implicitDefEqProofs -dsimp only [go_sem, hb1, hb5]
    with_reducible refine exP.mk (.gheap [] ⟨[], [0], [.ptr 0 0 0], [.cells (zaf (zaa.mk p0.T (zw (p0.I + 1)) p0.P p0.zHd p0.First p0.To p0.Left p0.All p0.Wait p0.Bad)) 0 90], .bool v9.1, [.cells (zaf v9.2) 0 90]⟩ []) (callQ.ofG (by simp -implicitDefEqProofs -dsimp only [go_sem, hb1, hb5]) (zdH h10)) ?_
    try simp -implicitDefEqProofs -dsimp only [go_sem, hb1, hb5]
   refine W.cnd (!v9.1) (fun hb11 => ?_) fun hb11 => ?_
   ·replace hm := zal hb11 hm
    refine W.sqh [] [(2, .bool false)] ?_
    obtain rfl := zo hm
    exact W.ret (zaR.retW ⟨[], []⟩ RO)
   ·replace hm := zak hb11 hm
    refine W.skip ?_
    replace ⟨h12, hm⟩ := zav hm
    refine W.sqJ [12, 13] [12, 13] [0, 1, 2, 3, 4, 5, 6, 7, 8, 9, 10, 11] 1 [] [(0, .ptr 0 0 0), (3, .ptr 1 0 0)] [.cells (zaf v9.2) 0 90, .cells [.str (rd v9.2.T v9.2.I).Text, zi 0, .nils] 0 54] zaC ?_
    refine W.seq ?_
    replace ⟨v13, h14, hm⟩ := zam hm
    replace ⟨v15, h16, hm⟩ := zam hm
    refine W.wk ⟨[], [.foc 0 0 2, .foc 0 0 3]⟩ [(0, .ptr 0 0 0), (3, .ptr 1 0 0)] [zqb v9.2 v9.2.I (zM 2 1 3 v9.2.P.zSy) (zM 3 1 1 v9.2.P.zTh) (zbW v9.2.Wait), .cells [.str (rd v9.2.T v9.2.I).Text, zi 0, .nils] 0 54, .rows (v9.2.P.zSy.map zas) 3 1 54, .rows (v9.2.P.zTh.map zaj) 1 1 59] ?_
    refine W.sqJG [4] [4] [0, 1, 2, 3, 5, 6, 8] 4 [] [.fol 0 0 2, .fol 0 0 3] [(0, .ptr 0 0 0), (3, .ptr 1 0 0), (77, .bool (decide (v15 ≥ 0)))] [.cells (zaf v9.2) 0 90, .cells [.str (rd v9.2.T v9.2.I).Text, zi 0, .nils] 0 54] zaC ?_ (hrun := ?_)
    rotate_left
    ·try simp -implicitDefEqProofs -dsimp only [go_sem, hb1, hb5, hb11, h12]
     with_reducible refine exP.mk (.gheap [] ⟨[], [2, 3], [.agg [zM 0 1 3 v9.2.P.zSy, zM 1 1 1 v9.2.P.zTh]], [.rows (v9.2.P.zSy.map zas) 3 1 54, .rows (v9.2.P.zTh.map zaj) 1 1 59], .sl (v13.map eStr), [.rows (v9.2.P.zSy.map zas) 3 1 54, .rows (v9.2.P.zTh.map zaj) 1 1 59]⟩ []) (callQ.ofG (by simp -implicitDefEqProofs -dsimp only [go_sem, hb1, hb5, hb11, h12]) (zdU h14)) ?_
     try simp -implicitDefEqProofs -dsimp only [go_sem, hb1, hb5, hb11, h12]
     with_reducible refine exP.mk _ (callQ.plain (by simp -implicitDefEqProofs -dsimp only [go_sem, hb1, hb5, hb11, h12]) (by have hk := zbd h16; (try simp only [hb1, hb5, hb11] at hk); (try simp only [List.map_cons, List.map_nil, eStr, eInt] at hk); exact hk)) ?_
     try simp -implicitDefEqProofs -dsimp only [go_sem, hb1, hb5, hb11, h12]
    refine W.cnd (decide (v15 ≥ 0)) (fun hb17 => ?_) fun hb17 => ?_
    ·replace hm := zal hb17 hm
     replace ⟨h18, hm⟩ := zav hm
     replace ⟨v19, h20, hm⟩ := zam hm
     refine W.sqJ [11] [] [] 0 [] [(2, .bool v19.1)] [.cells (zaf v19.2) 0 90] zaC ?_ (hrun := ?_)
     rotate_left
     ·try simp -implicitDefEqProofs -dsimp only [go_sem, hb1, hb5, hb11, h12, hb17, h18]
      with_reducible refine exP.mk (.gheap [] ⟨[], [0], [.ptr 0 0 0, zi 6, zqT (rd v9.2.T v9.2.I)], [.cells (zaf v9.2) 0 90], .bool v19.1, [.cells (zaf v19.2) 0 90]⟩ []) (callQ.ofG (by simp -implicitDefEqProofs -dsimp only [go_sem, hb1, hb5, hb11, h12, hb17, h18]) (zaE h20)) ?_
      try simp -implicitDefEqProofs -dsimp only [go_sem, hb1, hb5, hb11, h12, hb17, h18]
     obtain rfl := zo hm
     exact W.ret (zaR.retW ⟨[], []⟩ RO)
    ·replace hm := zak hb17 hm
     refine W.skip ?_
     refine W.sq [] [(0, .ptr 0 0 0), (3, .ptr 1 0 0)] [zqa v9.2 (zw (v9.2.I + 1)) (zbW v9.2.Wait), .cells [.str (rd v9.2.T v9.2.I).Text, zi 0, .nils] 0 54] ?_
     replace ⟨h21, hm⟩ := zav hm
     refine W.sqJ [10, 11] [10, 11] [0, 1, 2, 3, 4, 5, 6, 7, 8, 9] 2 [] [(0, .ptr 0 0 0), (3, .ptr 1 0 0), (4, .ptr 2 0 0)] [zqa v9.2 (zw (v9.2.I + 1)) (zbW v9.2.Wait), .cells [.str (rd v9.2.T v9.2.I).Text, zi 0, .nils] 0 54, .cells (zab (rd v9.2.T (zw (v9.2.I + 1)))) 0 41] zaC ?_
     refine W.seq ?_
     refine W.sqh [] [(0, .ptr 0 0 0), (3, .ptr 1 0 0), (4, .ptr 2 0 0), (109, .bool ((rd v9.2.T (zw (v9.2.I + 1))).Kind != 2))] ?_
     refine W.cnd ((rd v9.2.T (zw (v9.2.I + 1))).Kind != 2) (fun hb22 => ?_) fun hb22 => ?_
     ·replace hm := zal hb22 hm
      replace ⟨v23, h24, hm⟩ := zam hm
      refine W.sq [] [(2, .bool v23.1)] [.cells (zaf v23.2) 0 90] ?_ (hrun := ?_)
      rotate_left
      ·try simp -implicitDefEqProofs -dsimp only [go_sem, hb1, hb5, hb11, h12, hb17, h21, hb22]
       with_reducible refine exP.mk (.gheap [] ⟨[], [0], [.ptr 0 0 0, zi 4, zqT (rd v9.2.T (zw (v9.2.I + 1)))], [.cells (zaf (zaa.mk v9.2.T (zw (v9.2.I + 1)) v9.2.P v9.2.zHd v9.2.First v9.2.To v9.2.Left v9.2.All v9.2.Wait v9.2.Bad)) 0 90], .bool v23.1, [.cells (zaf v23.2) 0 90]⟩ []) (callQ.ofG (by simp -implicitDefEqProofs -dsimp only [go_sem, hb1, hb5, hb11, h12, hb17, h21, hb22]) (zaE h24)) ?_
       try simp -implicitDefEqProofs -dsimp only [go_sem, hb1, hb5, hb11, h12, hb17, h21, hb22]
      obtain rfl := zo hm
      exact W.ret (zaR.retW ⟨[], []⟩ RO)
     ·replace hm := zak hb22 hm
      refine W.skip ?_
      replace ⟨v25, h26, hm⟩ := zam hm
      have kh26 := zcP h26
      try simp only [hb1, hb5, hb11, hb17, hb22] at kh26
      refine W.sq [] [(0, .ptr 0 0 0), (3, .ptr 1 0 0), (4, .ptr 2 0 0), (5, zi v25.1)] [zqa v9.2 (zw (v9.2.I + 1)) (zbW v9.2.Wait), .cells [.str (rd v9.2.T v9.2.I).Text, zi 0, .nils] 0 54, .cells (zab (rd v9.2.T (zw (v9.2.I + 1)))) 0 41] ?_
      refine W.seq ?_
      refine W.sqh [] [(0, .ptr 0 0 0), (3, .ptr 1 0 0), (4, .ptr 2 0 0), (5, zi v25.1), (124, .bool (decide (v25.1 < 1) || decide (v25.1 > 64)))] ?_
      refine W.cnd (decide (v25.1 < 1) || decide (v25.1 > 64)) (fun hb27 => ?_) fun hb27 => ?_
      ·replace hm := zal hb27 hm
       replace ⟨v28, h29, hm⟩ := zam hm
       refine W.sq [] [(2, .bool v28.1)] [.cells (zaf v28.2) 0 90] ?_ (hrun := ?_)
       rotate_left
       ·try simp -implicitDefEqProofs -dsimp only [go_sem, hb1, hb5, hb11, h12, hb17, h21, hb22, hb27]
        with_reducible refine exP.mk (.gheap [] ⟨[], [0], [.ptr 0 0 0, zi 5, zqT (rd v9.2.T (zw (v9.2.I + 1)))], [.cells (zaf (zaa.mk v9.2.T (zw (v9.2.I + 1)) v9.2.P v9.2.zHd v9.2.First v9.2.To v9.2.Left v9.2.All v9.2.Wait v9.2.Bad)) 0 90], .bool v28.1, [.cells (zaf v28.2) 0 90]⟩ []) (callQ.ofG (by simp -implicitDefEqProofs -dsimp only [go_sem, hb1, hb5, hb11, h12, hb17, h21, hb22, hb27]) (zaE h29)) ?_
        try simp -implicitDefEqProofs -dsimp only [go_sem, hb1, hb5, hb11, h12, hb17, h21, hb22, hb27]
       obtain rfl := zo hm
       exact W.ret (zaR.retW ⟨[], []⟩ RO)
      ·replace hm := zak hb27 hm
       refine W.skip ?_
       refine W.sq [] [(0, .ptr 0 0 0), (3, .ptr 1 0 0)] [zqa v9.2 (zw (v9.2.I + 1)) (zbW v9.2.Wait), .cells [.str (rd v9.2.T v9.2.I).Text, zi v25.1, .nils] 0 54] ?_
       refine W.sq [] [(0, .ptr 0 0 0), (3, .ptr 1 0 0)] [zqa v9.2 (zw ((zw (v9.2.I + 1)) + 1)) (zbW v9.2.Wait), .cells [.str (rd v9.2.T v9.2.I).Text, zi v25.1, .nils] 0 54] ?_
       refine W.seq ?_
       refine W.block ?_
       replace ⟨r77, hlr77, hm⟩ := zam hm
       refine W.mono (Q := fun e0 s0 h0 => match r77 with | .inl e => e0 = .exit 0 /\ ∃ w : Nat, s0 = [(0, .ptr 0 0 0), (3, .ptr 1 0 0)] /\ h0 = [zqa v9.2 e.1 (zbW v9.2.Wait), .cells [.str (rd v9.2.T v9.2.I).Text, zi v25.1, zM 2 w 1 e.2] 0 54, .rows (e.2.map (eInt .i64)) 1 w 2] | .inr q => e0 = .ret /\ s0 = [(2, .bool q.1)] /\ h0 = [.cells (zaf q.2) 0 90]) (W.loopM (step := za7 v9 v25) (a0 := ((zw ((zw (v9.2.I + 1)) + 1)), [])) (fun (a : Int × (List Int)) (v : Nat) => ([(0, .ptr 0 0 0), (3, .ptr 1 0 0)], [zqa v9.2 a.1 (zbW v9.2.Wait), .cells [.str (rd v9.2.T v9.2.I).Text, zi v25.1, zM 2 v 1 a.2] 0 54, .rows (a.2.map (eInt .i64)) 1 v 2])) 0 hlr77 ⟨[], []⟩ RO ?_) ?_
       ·rintro ⟨i59, l60⟩ w61 x hm hx
        rw [za7] at hm
        show WK _ _ _ _ _ [(0, .ptr 0 0 0), (3, .ptr 1 0 0)] [zqa v9.2 i59 (zbW v9.2.Wait), .cells [.str (rd v9.2.T v9.2.I).Text, zi v25.1, zM 2 w61 1 l60] 0 54, .rows (l60.map (eInt .i64)) 1 w61 2]
        refine W.seq ?_
        replace ⟨h78, hm⟩ := zav hm
        refine W.sqJ [] [] [] 0 [] [(0, .ptr 0 0 0), (3, .ptr 1 0 0), (148, .bool ((rd v9.2.T i59).Kind == 2))] [zqa v9.2 i59 (zbW v9.2.Wait), .cells [.str (rd v9.2.T v9.2.I).Text, zi v25.1, zM 2 w61 1 l60] 0 54, .rows (l60.map (eInt .i64)) 1 w61 2] zaC ?_
        refine W.cnd ((rd v9.2.T i59).Kind == 2) (fun hb79 => ?_) fun hb79 => ?_
        ·replace hm := zal hb79 hm
         refine W.skip ?_
         refine W.block ?_
         refine W.seq ?_
         refine W.sq [] [(0, .ptr 0 0 0), (3, .ptr 1 0 0), (154, .bool ((l60.length : Int) == v25.1))] [zqa v9.2 i59 (zbW v9.2.Wait), .cells [.str (rd v9.2.T v9.2.I).Text, zi v25.1, zM 2 w61 1 l60] 0 54, .rows (l60.map (eInt .i64)) 1 w61 2] ?_
         refine W.cnd ((l60.length : Int) == v25.1) (fun hb80 => ?_) fun hb80 => ?_
         ·replace hm := zal hb80 hm
          replace ⟨h81, hm⟩ := zav hm
          replace ⟨v82, h83, hm⟩ := zam hm
          refine W.sqJ [11] [] [] 0 [] [(2, .bool v82.1)] [.cells (zaf v82.2) 0 90] zaC ?_ (hrun := ?_)
          rotate_left
          ·try simp -implicitDefEqProofs -dsimp only [go_sem, hb1, hb5, hb11, h12, hb17, h21, hb22, hb27, h78, hb79, hb80, h81]
           with_reducible refine exP.mk (.gheap [] ⟨[], [0], [.ptr 0 0 0, zi 5, zqT (rd v9.2.T i59)], [.cells (zaf (zaa.mk v9.2.T i59 v9.2.P v9.2.zHd v9.2.First v9.2.To v9.2.Left v9.2.All v9.2.Wait v9.2.Bad)) 0 90], .bool v82.1, [.cells (zaf v82.2) 0 90]⟩ []) (callQ.ofG (by simp -implicitDefEqProofs -dsimp only [go_sem, hb1, hb5, hb11, h12, hb17, h21, hb22, hb27, h78, hb79, hb80, h81]) (zaE h83)) ?_
           try simp -implicitDefEqProofs -dsimp only [go_sem, hb1, hb5, hb11, h12, hb17, h21, hb22, hb27, h78, hb79, hb80, h81]
          obtain rfl := zo hm
          obtain rfl := hx _ rfl
          exact W.wk ⟨[], []⟩ [(2, .bool v82.1)] [.cells (zaf v82.2) 0 90] (W.ret (show _ /\ _ from ⟨rfl, rfl, rfl⟩))
         ·replace hm := zak hb80 hm
          refine W.skip ?_
          replace ⟨h84, hm⟩ := zav hm
          replace ⟨v85, h86, hm⟩ := zam hm
          have kh86 := zcP h86
          try simp only [hb1, hb5, hb11, hb17, hb22, hb27, hb79, hb80] at kh86
          refine W.sqJ [] [] [] 0 [] [(0, .ptr 0 0 0), (3, .ptr 1 0 0), (7, zi v85.1)] [zqa v9.2 i59 (zbW v9.2.Wait), .cells [.str (rd v9.2.T v9.2.I).Text, zi v25.1, zM 2 w61 1 l60] 0 54, .rows (l60.map (eInt .i64)) 1 w61 2] zaC ?_
          replace ⟨h87, hm⟩ := zav hm
          replace ⟨l88, h89, hm⟩ := zaN hm
          refine W.sq [] [(0, .ptr 0 0 0), (3, .ptr 1 0 0)] [zqa v9.2 i59 (zbW v9.2.Wait), .cells [.str (rd v9.2.T v9.2.I).Text, zi v25.1, .msl 2 (w61 + 1) 0 1 l88.length l88.length] 0 54, .rows (l88.map (eInt .i64)) 1 (w61 + 1) 2] ?_
          clear h89
          refine W.rg [] [(0, .ptr 0 0 0), (3, .ptr 1 0 0)] [zqa v9.2 (zw (i59 + 1)) (zbW v9.2.Wait), .cells [.str (rd v9.2.T v9.2.I).Text, zi v25.1, .msl 2 (w61 + 1) 0 1 l88.length l88.length] 0 54, .rows (l88.map (eInt .i64)) 1 (w61 + 1) 2] ?_
          obtain rfl := zo hm
          exact ⟨((zw (i59 + 1)), l88), (w61 + 1), ⟨[], []⟩, rfl, RO⟩
        ·replace hm := zak hb79 hm
         obtain rfl := zo hm
         obtain rfl := hx _ rfl
         exact W.wk ⟨[], []⟩ [(0, .ptr 0 0 0), (3, .ptr 1 0 0)] [zqa v9.2 i59 (zbW v9.2.Wait), .cells [.str (rd v9.2.T v9.2.I).Text, zi v25.1, zM 2 w61 1 l60] 0 54, .rows (l60.map (eInt .i64)) 1 w61 2] (W.exit (show _ /\ _ from ⟨rfl, w61, rfl, rfl⟩))
       ·intro e0 s0 h0 hq
        rcases r77 with er77 | qr77
        ·obtain ⟨rfl, w76, rfl, rfl⟩ := hq
         replace hm := zcC hm
         show WK _ _ _ _ _ [(0, .ptr 0 0 0), (3, .ptr 1 0 0)] [zqa v9.2 er77.1 (zbW v9.2.Wait), .cells [.str (rd v9.2.T v9.2.I).Text, zi v25.1, zM 2 w76 1 er77.2] 0 54, .rows (er77.2.map (eInt .i64)) 1 w76 2]
         replace ⟨h90, hm⟩ := zav hm
         replace ⟨l91, h92, hm⟩ := zaN hm
         refine W.wk ⟨[2], [.foc 0 0 2]⟩ [(0, .ptr 0 0 0), (3, .ptr 1 0 0)] [zqb v9.2 er77.1 (zM 3 1 3 v9.2.P.zSy) (zbT v9.2.P.zTh) (zbW v9.2.Wait), .cells [.str (rd v9.2.T v9.2.I).Text, zi v25.1, .sl (er77.2.map (eInt .i64))] 0 54, .dead, .rows (v9.2.P.zSy.map zas) 3 1 54] ?_
         refine W.sqLG [.light, .light, .light, .light, .light, .light, .light, .lit, .app, .light, .light, .light, .store] [([], []), ([], []), ([], []), ([], []), ([], []), ([0], []), ([1], []), ([], []), ([3], [3]), ([], []), ([], []), ([], []), ([0], [0])] [] [.fol 0 0 2] [] [zqb v9.2 er77.1 (zbS l91) (zbT v9.2.P.zTh) (zbW v9.2.Wait)] zaC ?_
         clear h92
         refine W.sq [] [(2, .bool true)] [zqb v9.2 er77.1 (zbS l91) (zbT v9.2.P.zTh) (zbW v9.2.Wait)] ?_
         obtain rfl := zo hm
         exact W.ret (zaR.retW ⟨[], []⟩ RO)
        ·obtain ⟨rfl, rfl, rfl⟩ := hq
         replace hm := zcB hm
         obtain rfl := zo hm
         exact zaR.retW ⟨[], []⟩ RO
theorem ze9 {p0 : zaa} {r : Bool × zaa} (hm : zbA p0 = some r) : HF Tryz.prog 38 [.ptr 0 0 0] [.cells (zaf p0) 0 90] (.bool r.1) [.cells (zaf r.2) 0 90] := by
 rw [zbA] at hm
 refine HF.of Tryz.func38 rfl Tryz.ntmps38 (Nat.le_of_ble_eq_true rfl) rfl ?_
 have e0 : argS 0 [.ptr 0 0 0] = [(0, .ptr 0 0 0)] := rfl
 rw [e0]
 refine W.sq [] [(0, .ptr 0 0 0)] [.cells (zaf p0) 0 90] ?_
 replace ⟨h1, hm⟩ := zav hm
 refine W.sqJ [10, 11] [10, 11] [0, 1, 2, 3, 4, 5, 6, 7, 8, 9] 1 [] [(0, .ptr 0 0 0), (3, .ptr 1 0 0)] [.cells (zaf p0) 0 90, .cells (zab (rd p0.T p0.I)) 0 41] zaC ?_
 refine W.sqh [] [(0, .ptr 0 0 0), (3, .ptr 1 0 0), (4, .bool true)] ?_
 refine W.cut (fun s h => ∃ (v : Bool × (List zad) × Int × (List zaq) × (List zai) × (List zad) × (List (List zad)) × (List (List zad)) × (List Int) × (List ByteArray) × (List ByteArray) × Int × Int × Int) (w : Unit) (F : Gs), zaW v.1 v.2.1 v.2.2.1 v.2.2.2.1 v.2.2.2.2.1 v.2.2.2.2.2.1 v.2.2.2.2.2.2.1 v.2.2.2.2.2.2.2.1 v.2.2.2.2.2.2.2.2.1 v.2.2.2.2.2.2.2.2.2.1 v.2.2.2.2.2.2.2.2.2.2.1 v.2.2.2.2.2.2.2.2.2.2.2.1 v.2.2.2.2.2.2.2.2.2.2.2.2.1 v.2.2.2.2.2.2.2.2.2.2.2.2.2 = some r /\ AT 1 F [(0, .ptr 0 0 0), (4, .bool v.1)] [zqd v.2.1 v.2.2.1 (zbS v.2.2.2.1) (zbT v.2.2.2.2.1) (zbK v.2.2.2.2.2.1) (zbL v.2.2.2.2.2.2.1) (zbL v.2.2.2.2.2.2.2.1) (zbI v.2.2.2.2.2.2.2.2.1) (zbW v.2.2.2.2.2.2.2.2.2.1) (zbW v.2.2.2.2.2.2.2.2.2.2.1) v.2.2.2.2.2.2.2.2.2.2.2.1 v.2.2.2.2.2.2.2.2.2.2.2.2.1 v.2.2.2.2.2.2.2.2.2.2.2.2.2] s h) ?_ ?_
 ·refine W.block ?_
  refine W.sq [] [(0, .ptr 0 0 0), (3, .ptr 1 0 0), (4, .bool true), (17, .bool ((rd p0.T p0.I).Kind == 4))] [.cells (zaf p0) 0 90, .cells (zab (rd p0.T p0.I)) 0 41] ?_
  refine W.cnd ((rd p0.T p0.I).Kind == 4) (fun hb21 => ?_) fun hb21 => ?_
  ·replace hm := zal hb21 hm
   refine W.skip ?_
   exact ⟨(true, p0.T, p0.I, p0.P.zSy, p0.P.zTh, p0.zHd, p0.First, p0.To, p0.Left, p0.All, p0.Wait, p0.Bad.Code, p0.Bad.Line, p0.Bad.Col), (), ⟨[], []⟩, hm, RO⟩
  ·replace hm := zak hb21 hm
   replace ⟨b22, h23, hm⟩ := zaN hm
   refine W.sqh [] [(0, .ptr 0 0 0), (3, .ptr 1 0 0), (21, .bool b22)] ?_
   clear h23
   refine W.cnd b22 (fun hb24 => ?_) fun hb24 => ?_
   ·replace hm := zal hb24 hm
    replace ⟨v25, h26, hm⟩ := zam hm
    refine W.rg [] [(0, .ptr 0 0 0), (4, .bool v25.1)] [.cells (zaf v25.2) 0 90] ?_ (hrun := ?_)
    rotate_left
    ·try simp -implicitDefEqProofs -dsimp only [go_sem, h1, hb21, hb24]
     with_reducible refine exP.mk (.gheap [] ⟨[], [0], [.ptr 0 0 0], [.cells (zaf p0) 0 90], .bool v25.1, [.cells (zaf v25.2) 0 90]⟩ []) (callQ.ofG (by simp -implicitDefEqProofs -dsimp only [go_sem, h1, hb21, hb24]) (zfl h26)) ?_
     try simp -implicitDefEqProofs -dsimp only [go_sem, h1, hb21, hb24]
    exact ⟨(v25.1, v25.2.T, v25.2.I, v25.2.P.zSy, v25.2.P.zTh, v25.2.zHd, v25.2.First, v25.2.To, v25.2.Left, v25.2.All, v25.2.Wait, v25.2.Bad.Code, v25.2.Bad.Line, v25.2.Bad.Col), (), ⟨[], []⟩, hm, RO⟩
   ·replace hm := zak hb24 hm
    replace ⟨b27, h28, hm⟩ := zaN hm
    refine W.sq [] [(0, .ptr 0 0 0), (32, .bool b27)] [.cells (zaf p0) 0 90] ?_
    clear h28
    refine W.cnd b27 (fun hb29 => ?_) fun hb29 => ?_
    ·replace hm := zal hb29 hm
     replace ⟨v30, h31, hm⟩ := zam hm
     refine W.rg [] [(0, .ptr 0 0 0), (4, .bool v30.1)] [.cells (zaf v30.2) 0 90] ?_ (hrun := ?_)
     rotate_left
     ·try simp -implicitDefEqProofs -dsimp only [go_sem, h1, hb21, hb24, hb29]
      with_reducible refine exP.mk (.gheap [] ⟨[], [0], [.ptr 0 0 0], [.cells (zaf p0) 0 90], .bool v30.1, [.cells (zaf v30.2) 0 90]⟩ []) (callQ.ofG (by simp -implicitDefEqProofs -dsimp only [go_sem, h1, hb21, hb24, hb29]) (zeB h31)) ?_
      try simp -implicitDefEqProofs -dsimp only [go_sem, h1, hb21, hb24, hb29]
     exact ⟨(v30.1, v30.2.T, v30.2.I, v30.2.P.zSy, v30.2.P.zTh, v30.2.zHd, v30.2.First, v30.2.To, v30.2.Left, v30.2.All, v30.2.Wait, v30.2.Bad.Code, v30.2.Bad.Line, v30.2.Bad.Col), (), ⟨[], []⟩, hm, RO⟩
    ·replace hm := zak hb29 hm
     replace ⟨v32, h33, hm⟩ := zam hm
     refine W.rg [] [(0, .ptr 0 0 0), (4, .bool v32.1)] [.cells (zaf v32.2) 0 90] ?_ (hrun := ?_)
     rotate_left
     ·try simp -implicitDefEqProofs -dsimp only [go_sem, h1, hb21, hb24, hb29]
      with_reducible refine exP.mk (.gheap [] ⟨[], [0], [.ptr 0 0 0], [.cells (zaf p0) 0 90], .bool v32.1, [.cells (zaf v32.2) 0 90]⟩ []) (callQ.ofG (by simp -implicitDefEqProofs -dsimp only [go_sem, h1, hb21, hb24, hb29]) (ze8 h33)) ?_
      try simp -implicitDefEqProofs -dsimp only [go_sem, h1, hb21, hb24, hb29]
     exact ⟨(v32.1, v32.2.T, v32.2.I, v32.2.P.zSy, v32.2.P.zTh, v32.2.zHd, v32.2.First, v32.2.To, v32.2.Left, v32.2.All, v32.2.Wait, v32.2.Bad.Code, v32.2.Bad.Line, v32.2.Bad.Col), (), ⟨[], []⟩, hm, RO⟩
 ·rintro s h ⟨⟨b2, l3, i4, l5, l6, l7, l8, l9, l10, l11, l12, i13, i14, i15⟩, _, F, hm, hat⟩
  refine W.weak F hat ?_
  show WK _ _ _ _ _ [(0, .ptr 0 0 0), (4, .bool b2)] [zqd l3 i4 (zbS l5) (zbT l6) (zbK l7) (zbL l8) (zbL l9) (zbI l10) (zbW l11) (zbW l12) i13 i14 i15]
  rw [zaW] at hm
  refine W.seq ?_
  replace ⟨h16, hm⟩ := zav hm
  refine W.sqJ [] [] [] 0 [] [(0, .ptr 0 0 0), (4, .bool b2), (57, .bool (b2 && ((rd l3 i4).Kind != 4)))] [zqd l3 i4 (zbS l5) (zbT l6) (zbK l7) (zbL l8) (zbL l9) (zbI l10) (zbW l11) (zbW l12) i13 i14 i15] zaC ?_
  refine W.cnd (b2 && ((rd l3 i4).Kind != 4)) (fun hb17 => ?_) fun hb17 => ?_
  ·replace hm := zal hb17 hm
   replace ⟨h18, hm⟩ := zav hm
   replace ⟨v19, h20, hm⟩ := zam hm
   refine W.sqJ [11] [] [] 0 [] [(2, .bool v19.1)] [.cells (zaf v19.2) 0 90] zaC ?_ (hrun := ?_)
   rotate_left
   ·try simp -implicitDefEqProofs -dsimp only [go_sem, h1, h16, hb17, h18]
    with_reducible refine exP.mk (.gheap [] ⟨[], [0], [.ptr 0 0 0, zi 4, zqT (rd l3 i4)], [.cells (zaf (zaa.mk l3 i4 (zat.mk l5 l6) l7 l8 l9 l10 l11 l12 (zao.mk i13 i14 i15))) 0 90], .bool v19.1, [.cells (zaf v19.2) 0 90]⟩ []) (callQ.ofG (by simp -implicitDefEqProofs -dsimp only [go_sem, h1, h16, hb17, h18]) (zaE h20)) ?_
    try simp -implicitDefEqProofs -dsimp only [go_sem, h1, h16, hb17, h18]
   obtain rfl := zo hm
   exact W.ret (zaR.retW ⟨[], []⟩ RO)
  ·replace hm := zak hb17 hm
   refine W.skip ?_
   refine W.sq [] [(4, .bool b2)] [zqd l3 (zw (i4 + 1)) (zbS l5) (zbT l6) (zbK l7) (zbL l8) (zbL l9) (zbI l10) (zbW l11) (zbW l12) i13 i14 i15] ?_
   refine W.sqh [] [(2, .bool b2)] ?_
   obtain rfl := zo hm
   exact W.ret (zaR.retW ⟨[], []⟩ RO)
theorem zfa {p0 : zaa} {p1 : Int} {r : Bool × zaa} (hm : zbl p0 p1 = some r) : HF Tryz.prog 40 [.ptr 0 0 0, zi p1] [.cells (zaf p0) 0 90] (.bool r.1) [.cells (zaf r.2) 0 90] := by
 rw [zbl] at hm
 refine HF.of Tryz.func40 rfl Tryz.ntmps40 (Nat.le_of_ble_eq_true rfl) rfl ?_
 have e0 : argS 0 [.ptr 0 0 0, zi p1] = [(0, .ptr 0 0 0), (1, zi p1)] := rfl
 rw [e0]
 refine W.sq [] [(0, .ptr 0 0 0), (1, zi p1)] [.cells (zaf p0) 0 90] ?_
 replace ⟨h1, hm⟩ := zav hm
 replace ⟨l2, h3, hm⟩ := zaN hm
 refine W.wk ⟨[], [.foc 0 0 3, .foc 1 p1.toNat 0]⟩ [(0, .ptr 0 0 0), (1, zi p1)] [zqb p0 p0.I (zbS p0.P.zSy) (zM 1 1 1 p0.P.zTh) (zbW p0.Wait), .rows ((p0.P.zTh.map zaj).set p1.toNat [.msl 2 1 0 13 (((rd p0.P.zTh p1).Ins).length) (((rd p0.P.zTh p1).Ins).length)]) 1 1 59, .rows (((rd p0.P.zTh p1).Ins).map zan) 13 1 63] ?_
 refine W.sq [] [(0, .ptr 0 0 0), (1, zi p1), (5, zM 2 1 13 l2)] [zqb p0 p0.I (zbS p0.P.zSy) (zM 1 1 1 p0.P.zTh) (zbW p0.Wait), .rows ((p0.P.zTh.map zaj).set p1.toNat [zM 2 1 13 l2]) 1 1 59, .rows (l2.map zan) 13 1 63] ?_
 clear h3
 refine W.seq ?_
 replace ⟨h4, hm⟩ := zav hm
 replace ⟨h5, hm⟩ := zav hm
 replace ⟨h6, hm⟩ := zav hm
 replace ⟨b7, h8, hm⟩ := zaN hm
 refine W.wk ⟨[], [.foc 0 0 7]⟩ [(0, .ptr 0 0 0), (1, zi p1), (5, zM 2 1 13 l2)] [zqc p0 p0.I (zbS p0.P.zSy) (zM 1 1 1 p0.P.zTh) (zbK p0.zHd) (zbL p0.First) (zbL p0.To) (zM 3 1 1 p0.Left) (zbW p0.All) (zbW p0.Wait), .rows ((p0.P.zTh.map zaj).set p1.toNat [zM 2 1 13 l2]) 1 1 59, .rows (l2.map zan) 13 1 63, .rows (p0.Left.map (eInt .i64)) 1 1 3] ?_
 refine W.sqG [] [.fol 0 0 7] [(0, .ptr 0 0 0), (1, zi p1), (5, zM 2 1 13 l2), (50, .bool b7)] [zqb p0 p0.I (zbS p0.P.zSy) (zM 1 1 1 p0.P.zTh) (zbW p0.Wait), .rows ((p0.P.zTh.map zaj).set p1.toNat [zM 2 1 13 l2]) 1 1 59, .rows (l2.map zan) 13 1 63] ?_
 clear h8
 refine W.cnd b7 (fun hb9 => ?_) fun hb9 => ?_
 ·replace hm := zal hb9 hm
  replace ⟨h10, hm⟩ := zav hm
  replace ⟨v11, h12, hm⟩ := zam hm
  refine W.wk ⟨[], [.foc 0 0 4]⟩ [(0, .ptr 0 0 0), (1, zi p1), (5, zM 2 1 13 l2), (50, .bool b7)] [zqc p0 p0.I (zbS p0.P.zSy) (zM 1 1 1 p0.P.zTh) (zM 3 1 4 p0.zHd) (zbL p0.First) (zbL p0.To) (zbI p0.Left) (zbW p0.All) (zbW p0.Wait), .rows ((p0.P.zTh.map zaj).set p1.toNat [zM 2 1 13 l2]) 1 1 59, .rows (l2.map zan) 13 1 63, .rows (p0.zHd.map zab) 4 1 41] ?_
  refine W.sq [] [(4, .bool v11.1)] [.cells (zaf v11.2) 0 90] ?_ (hrun := ?_)
  rotate_left
  ·try simp -implicitDefEqProofs -dsimp only [go_sem, h1, h4, h5, h6, hb9, h10]
   with_reducible refine exP.mk (.gheap [.fol 0 0 4, .fol 1 p1.toNat 0, .fol 0 0 3] ⟨[], [0], [.ptr 0 0 0, zi 9, zqT (rd p0.zHd p1)], [.cells (zaf (zaa.mk p0.T p0.I (zat.mk p0.P.zSy (p0.P.zTh.set p1.toNat (zai.mk l2))) p0.zHd p0.First p0.To p0.Left p0.All p0.Wait p0.Bad)) 0 90], .bool v11.1, [.cells (zaf v11.2) 0 90]⟩ []) (callQ.ofG (by simp -implicitDefEqProofs -dsimp only [go_sem, h1, h4, h5, h6, hb9, h10]) (zaE h12)) ?_
   try simp -implicitDefEqProofs -dsimp only [go_sem, h1, h4, h5, h6, hb9, h10]
  obtain rfl := zo hm
  exact W.ret (zaR.retW ⟨[], []⟩ RO)
 ·replace hm := zak hb9 hm
  refine W.skip ?_
  refine W.sq [] [(0, .ptr 0 0 0), (1, zi p1), (5, zM 2 1 13 l2), (6, zi 0)] [zqb p0 p0.I (zbS p0.P.zSy) (zM 1 1 1 p0.P.zTh) (zbW p0.Wait), .rows ((p0.P.zTh.map zaj).set p1.toNat [zM 2 1 13 l2]) 1 1 59, .rows (l2.map zan) 13 1 63] ?_
  refine W.seq ?_
  refine W.sqh [] [(0, .ptr 0 0 0), (1, zi p1), (5, zM 2 1 13 l2), (6, zi 0), (7, zi 0)] ?_
  refine W.block ?_
  replace ⟨r47, hlr47, hm⟩ := zam hm
  refine W.mono (Q := fun e0 s0 h0 => match r47 with | .inl e => e0 = .exit 0 /\ ∃ w : Unit, s0 = [(0, .ptr 0 0 0), (1, zi p1), (5, zM 2 1 13 l2)] /\ h0 = [zqb p0 p0.I (zbS p0.P.zSy) (zM 1 1 1 p0.P.zTh) (zbW p0.Wait), .rows ((p0.P.zTh.map zaj).set p1.toNat [zM 2 1 13 l2]) 1 1 59, .rows (l2.map zan) 13 1 63] | .inr q => e0 = .ret /\ s0 = [(4, .bool q.1)] /\ h0 = [.cells (zaf q.2) 0 90]) (W.loopM (step := zbg l2 p1 p0) (a0 := (0, 0)) (fun (a : Int × Int) (v : Unit) => ([(0, .ptr 0 0 0), (1, zi p1), (5, zM 2 1 13 l2), (6, zi a.1), (7, zi a.2)], [zqb p0 p0.I (zbS p0.P.zSy) (zM 1 1 1 p0.P.zTh) (zbW p0.Wait), .rows ((p0.P.zTh.map zaj).set p1.toNat [zM 2 1 13 l2]) 1 1 59, .rows (l2.map zan) 13 1 63])) () hlr47 ⟨[], []⟩ RO ?_) ?_
  ·rintro ⟨i35, i36⟩ _ x hm hx
   rw [zbg] at hm
   show WK _ _ _ _ _ [(0, .ptr 0 0 0), (1, zi p1), (5, zM 2 1 13 l2), (6, zi i35), (7, zi i36)] [zqb p0 p0.I (zbS p0.P.zSy) (zM 1 1 1 p0.P.zTh) (zbW p0.Wait), .rows ((p0.P.zTh.map zaj).set p1.toNat [zM 2 1 13 l2]) 1 1 59, .rows (l2.map zan) 13 1 63]
   refine W.seq ?_
   refine W.sqh [] [(0, .ptr 0 0 0), (1, zi p1), (5, zM 2 1 13 l2), (6, zi i35), (7, zi i36), (63, .bool (decide (i36 < (l2.length : Int))))] ?_
   refine W.cnd (decide (i36 < (l2.length : Int))) (fun hb48 => ?_) fun hb48 => ?_
   ·replace hm := zal hb48 hm
    refine W.skip ?_
    refine W.cut (fun s h => ∃ (v : Int) (w : Unit) (F : Gs), zbh i36 v = some x /\ AT 1 F [(0, .ptr 0 0 0), (1, zi p1), (5, zM 2 1 13 l2), (6, zi v), (7, zi i36)] [zqb p0 p0.I (zbS p0.P.zSy) (zM 1 1 1 p0.P.zTh) (zbW p0.Wait), .rows ((p0.P.zTh.map zaj).set p1.toNat [zM 2 1 13 l2]) 1 1 59, .rows (l2.map zan) 13 1 63] s h) ?_ ?_
    ·refine W.block ?_
     refine W.seq ?_
     replace ⟨h50, hm⟩ := zav hm
     refine W.sq [] [(0, .ptr 0 0 0), (1, zi p1), (5, zM 2 1 13 l2), (6, zi i35), (7, zi i36), (71, .bool ((rd l2 i36).Op == 12))] [zqb p0 p0.I (zbS p0.P.zSy) (zM 1 1 1 p0.P.zTh) (zbW p0.Wait), .rows ((p0.P.zTh.map zaj).set p1.toNat [zM 2 1 13 l2]) 1 1 59, .rows (l2.map zan) 13 1 63] ?_
     refine W.cnd ((rd l2 i36).Op == 12) (fun hb51 => ?_) fun hb51 => ?_
     ·replace hm := zal hb51 hm
      refine W.exit ?_
      exact ⟨i35, (), ⟨[], []⟩, hm, RO⟩
     ·replace hm := zak hb51 hm
      refine W.skip ?_
      refine W.seq ?_
      refine W.sq [] [(0, .ptr 0 0 0), (1, zi p1), (5, zM 2 1 13 l2), (6, zi i35), (7, zi i36), (73, .bool (i35 == 4096))] [zqb p0 p0.I (zbS p0.P.zSy) (zM 1 1 1 p0.P.zTh) (zbW p0.Wait), .rows ((p0.P.zTh.map zaj).set p1.toNat [zM 2 1 13 l2]) 1 1 59, .rows (l2.map zan) 13 1 63] ?_
      refine W.cnd (i35 == 4096) (fun hb52 => ?_) fun hb52 => ?_
      ·replace hm := zal hb52 hm
       replace ⟨h53, hm⟩ := zav hm
       replace ⟨h54, hm⟩ := zav hm
       replace ⟨h55, hm⟩ := zav hm
       replace ⟨v56, h57, hm⟩ := zam hm
       refine W.wk ⟨[], [.foc 0 0 5, .foc 3 p1.toNat 0]⟩ [(0, .ptr 0 0 0), (1, zi p1), (5, zM 2 1 13 l2), (6, zi i35), (7, zi i36), (73, .bool (i35 == 4096))] [zqc p0 p0.I (zbS p0.P.zSy) (zM 1 1 1 p0.P.zTh) (zbK p0.zHd) (zM 3 1 1 p0.First) (zbL p0.To) (zbI p0.Left) (zbW p0.All) (zbW p0.Wait), .rows ((p0.P.zTh.map zaj).set p1.toNat [zM 2 1 13 l2]) 1 1 59, .rows (l2.map zan) 13 1 63, .rows ((p0.First.map (oSl 4 41 zab)).set p1.toNat [.msl 4 1 0 4 ((rd p0.First p1).length) ((rd p0.First p1).length)]) 1 1 34, .rows ((rd p0.First p1).map zab) 4 1 41] ?_
       refine W.sq [] [(4, .bool v56.1)] [.cells (zaf v56.2) 0 90] ?_ (hrun := ?_)
       rotate_left
       ·try simp -implicitDefEqProofs -dsimp only [go_sem, h1, h4, h5, h6, hb9, hb48, h50, hb51, hb52, h53, h54, h55]
        with_reducible refine exP.mk (.gheap [.fol 1 p1.toNat 0, .fol 0 0 3, .fol 3 p1.toNat 0, .fol 0 0 5] ⟨[], [0], [.ptr 0 0 0, zi 10, zqT (rd (rd p0.First p1) i36)], [.cells (zaf (zaa.mk p0.T p0.I (zat.mk p0.P.zSy (p0.P.zTh.set p1.toNat (zai.mk l2))) p0.zHd p0.First p0.To p0.Left p0.All p0.Wait p0.Bad)) 0 90], .bool v56.1, [.cells (zaf v56.2) 0 90]⟩ []) (callQ.ofG (by simp -implicitDefEqProofs -dsimp only [go_sem, h1, h4, h5, h6, hb9, hb48, h50, hb51, hb52, h53, h54, h55]) (zaE h57)) ?_
        try simp -implicitDefEqProofs -dsimp only [go_sem, h1, h4, h5, h6, hb9, hb48, h50, hb51, hb52, h53, h54, h55]
       obtain rfl := zo hm
       obtain rfl := hx _ rfl
       exact W.wk ⟨[], []⟩ [(4, .bool v56.1)] [.cells (zaf v56.2) 0 90] (W.ret (show _ /\ _ from ⟨rfl, rfl, rfl⟩))
      ·replace hm := zak hb52 hm
       refine W.skip ?_
       refine W.rg [] [(0, .ptr 0 0 0), (1, zi p1), (5, zM 2 1 13 l2), (6, zi (zw (i35 + 1))), (7, zi i36)] [zqb p0 p0.I (zbS p0.P.zSy) (zM 1 1 1 p0.P.zTh) (zbW p0.Wait), .rows ((p0.P.zTh.map zaj).set p1.toNat [zM 2 1 13 l2]) 1 1 59, .rows (l2.map zan) 13 1 63] ?_
       exact ⟨(zw (i35 + 1)), (), ⟨[], []⟩, hm, RO⟩
    ·rintro s h ⟨i49, _, F, hm, hat⟩
     refine W.weak F hat ?_
     show WK _ _ _ _ _ [(0, .ptr 0 0 0), (1, zi p1), (5, zM 2 1 13 l2), (6, zi i49), (7, zi i36)] [zqb p0 p0.I (zbS p0.P.zSy) (zM 1 1 1 p0.P.zTh) (zbW p0.Wait), .rows ((p0.P.zTh.map zaj).set p1.toNat [zM 2 1 13 l2]) 1 1 59, .rows (l2.map zan) 13 1 63]
     rw [zbh] at hm
     refine W.rg [] [(0, .ptr 0 0 0), (1, zi p1), (5, zM 2 1 13 l2), (6, zi i49), (7, zi (zw (i36 + 1)))] [zqb p0 p0.I (zbS p0.P.zSy) (zM 1 1 1 p0.P.zTh) (zbW p0.Wait), .rows ((p0.P.zTh.map zaj).set p1.toNat [zM 2 1 13 l2]) 1 1 59, .rows (l2.map zan) 13 1 63] ?_
     obtain rfl := zo hm
     exact ⟨(i49, (zw (i36 + 1))), (), ⟨[], []⟩, rfl, RO⟩
   ·replace hm := zak hb48 hm
    obtain rfl := zo hm
    obtain rfl := hx _ rfl
    exact W.wk ⟨[], []⟩ [(0, .ptr 0 0 0), (1, zi p1), (5, zM 2 1 13 l2)] [zqb p0 p0.I (zbS p0.P.zSy) (zM 1 1 1 p0.P.zTh) (zbW p0.Wait), .rows ((p0.P.zTh.map zaj).set p1.toNat [zM 2 1 13 l2]) 1 1 59, .rows (l2.map zan) 13 1 63] (W.exit (show _ /\ _ from ⟨rfl, (), rfl, rfl⟩))
  ·intro e0 s0 h0 hq
   rcases r47 with er47 | qr47
   ·obtain ⟨rfl, _, rfl, rfl⟩ := hq
    replace hm := zcC hm
    show WK _ _ _ _ _ [(0, .ptr 0 0 0), (1, zi p1), (5, zM 2 1 13 l2)] [zqb p0 p0.I (zbS p0.P.zSy) (zM 1 1 1 p0.P.zTh) (zbW p0.Wait), .rows ((p0.P.zTh.map zaj).set p1.toNat [zM 2 1 13 l2]) 1 1 59, .rows (l2.map zan) 13 1 63]
    refine W.seq ?_
    refine W.sqh [] [(0, .ptr 0 0 0), (1, zi p1), (5, zM 2 1 13 l2), (8, zi 0)] ?_
    refine W.block ?_
    replace ⟨r102, hlr102, hm⟩ := zam hm
    refine W.mono (Q := fun e0 s0 h0 => match r102 with | .inl e => e0 = .exit 2 /\ ∃ w : Unit, s0 = [] /\ h0 = [zqb p0 p0.I (zbS p0.P.zSy) (zbT (p0.P.zTh.set p1.toNat (zai.mk l2))) (zbW p0.Wait)] | .inr q => e0 = .ret /\ s0 = [(4, .bool q.1)] /\ h0 = [.cells (zaf q.2) 0 90]) (W.loopM (step := zbf l2 p1 p0) (a0 := 0) (fun (a : Int) (v : Unit) => ([(0, .ptr 0 0 0), (1, zi p1), (5, zM 2 1 13 l2), (8, zi a)], [zqb p0 p0.I (zbS p0.P.zSy) (zM 1 1 1 p0.P.zTh) (zbW p0.Wait), .rows ((p0.P.zTh.map zaj).set p1.toNat [zM 2 1 13 l2]) 1 1 59, .rows (l2.map zan) 13 1 63])) () hlr102 ⟨[], []⟩ RO ?_) ?_
    ·rintro i87 _ x hm hx
     rw [zbf] at hm
     show WK _ _ _ _ _ [(0, .ptr 0 0 0), (1, zi p1), (5, zM 2 1 13 l2), (8, zi i87)] [zqb p0 p0.I (zbS p0.P.zSy) (zM 1 1 1 p0.P.zTh) (zbW p0.Wait), .rows ((p0.P.zTh.map zaj).set p1.toNat [zM 2 1 13 l2]) 1 1 59, .rows (l2.map zan) 13 1 63]
     refine W.seq ?_
     refine W.sqh [] [(0, .ptr 0 0 0), (1, zi p1), (5, zM 2 1 13 l2), (8, zi i87), (91, .bool (decide (i87 < (l2.length : Int))))] ?_
     refine W.cnd (decide (i87 < (l2.length : Int))) (fun hb103 => ?_) fun hb103 => ?_
     ·replace hm := zal hb103 hm
      refine W.skip ?_
      refine W.seq ?_
      refine W.block ?_
      replace ⟨h104, hm⟩ := zav hm
      replace ⟨v105, h106, hm⟩ := zam hm
      replace ⟨h107, hm⟩ := zav hm
      replace ⟨h108, hm⟩ := zav hm
      replace ⟨v109, h110, hm⟩ := zam hm
      refine W.sqJ [] [] [] 0 [] [(0, .ptr 0 0 0), (1, zi p1), (5, zM 2 1 13 l2), (8, zi i87), (116, .bool (v105 && decide (v109 < 0)))] [zqb p0 p0.I (zbS p0.P.zSy) (zM 1 1 1 p0.P.zTh) (zbW p0.Wait), .rows ((p0.P.zTh.map zaj).set p1.toNat [zM 2 1 13 l2]) 1 1 59, .rows (l2.map zan) 13 1 63] zaC ?_ (hrun := ?_)
      rotate_left
      ·try simp -implicitDefEqProofs -dsimp only [go_sem, h1, h4, h5, h6, hb9, hb103, h104, h107, h108]
       with_reducible refine exP.mk _ (callQ.plain (by simp -implicitDefEqProofs -dsimp only [go_sem, h1, h4, h5, h6, hb9, hb103, h104, h107, h108]) (by have hk := zeG h106; (try simp only [hb9, hb103] at hk); (try simp only [List.map_cons, List.map_nil, eStr, eInt] at hk); exact hk)) ?_
       try simp -implicitDefEqProofs -dsimp only [go_sem, h1, h4, h5, h6, hb9, hb103, h104, h107, h108]
       refine zd1 (fun hg111 => ?_) (fun hg111 => ?_)
       ·try simp -implicitDefEqProofs -dsimp only [go_sem, h1, h4, h5, h6, hb9, hb103, h104, h107, h108, hg111]
        with_reducible refine exP.mk (.pure ⟨[2], true, [.agg [.sl (((zai.mk l2).Ins).map zan)], .str (rd l2 i87).To], zi v109⟩) (callQ.of (by simp -implicitDefEqProofs -dsimp only [go_sem, h1, h4, h5, h6, hb9, hb103, h104, h107, h108, hg111]) (by simp -implicitDefEqProofs -dsimp only [go_sem, h1, h4, h5, h6, hb9, hb103, h104, h107, h108, hg111]) (by simp -implicitDefEqProofs -dsimp only [go_sem, h1, h4, h5, h6, hb9, hb103, h104, h107, h108, hg111]) (fun _ => by simp -implicitDefEqProofs -dsimp only [go_sem, h1, h4, h5, h6, hb9, hb103, h104, h107, h108, hg111]) (zgP (zal (by simp -implicitDefEqProofs -dsimp only [go_sem, h1, h4, h5, h6, hb9, hb103, h104, h107, h108, hg111]) h110))) ?_
        try simp -implicitDefEqProofs -dsimp only [go_sem, h1, h4, h5, h6, hb9, hb103, h104, h107, h108, hg111]
       ·try simp -implicitDefEqProofs -dsimp only [go_sem, h1, h4, h5, h6, hb9, hb103, h104, h107, h108, hg111]
      refine W.cnd (v105 && decide (v109 < 0)) (fun hb112 => ?_) fun hb112 => ?_
      ·replace hm := zal hb112 hm
       replace ⟨h113, hm⟩ := zav hm
       replace ⟨h114, hm⟩ := zav hm
       replace ⟨h115, hm⟩ := zav hm
       replace ⟨v116, h117, hm⟩ := zam hm
       refine W.wk ⟨[], [.foc 0 0 6, .foc 3 p1.toNat 0]⟩ [(0, .ptr 0 0 0), (1, zi p1), (5, zM 2 1 13 l2), (8, zi i87), (116, .bool (v105 && decide (v109 < 0)))] [zqc p0 p0.I (zbS p0.P.zSy) (zM 1 1 1 p0.P.zTh) (zbK p0.zHd) (zbL p0.First) (zM 3 1 1 p0.To) (zbI p0.Left) (zbW p0.All) (zbW p0.Wait), .rows ((p0.P.zTh.map zaj).set p1.toNat [zM 2 1 13 l2]) 1 1 59, .rows (l2.map zan) 13 1 63, .rows ((p0.To.map (oSl 4 41 zab)).set p1.toNat [.msl 4 1 0 4 ((rd p0.To p1).length) ((rd p0.To p1).length)]) 1 1 34, .rows ((rd p0.To p1).map zab) 4 1 41] ?_
       refine W.sq [] [(4, .bool v116.1)] [.cells (zaf v116.2) 0 90] ?_ (hrun := ?_)
       rotate_left
       ·try simp -implicitDefEqProofs -dsimp only [go_sem, h1, h4, h5, h6, hb9, hb103, h104, h107, h108, hb112, h113, h114, h115]
        with_reducible refine exP.mk (.gheap [.fol 1 p1.toNat 0, .fol 0 0 3, .fol 3 p1.toNat 0, .fol 0 0 6] ⟨[], [0], [.ptr 0 0 0, zi 7, zqT (rd (rd p0.To p1) i87)], [.cells (zaf (zaa.mk p0.T p0.I (zat.mk p0.P.zSy (p0.P.zTh.set p1.toNat (zai.mk l2))) p0.zHd p0.First p0.To p0.Left p0.All p0.Wait p0.Bad)) 0 90], .bool v116.1, [.cells (zaf v116.2) 0 90]⟩ []) (callQ.ofG (by simp -implicitDefEqProofs -dsimp only [go_sem, h1, h4, h5, h6, hb9, hb103, h104, h107, h108, hb112, h113, h114, h115]) (zaE h117)) ?_
        try simp -implicitDefEqProofs -dsimp only [go_sem, h1, h4, h5, h6, hb9, hb103, h104, h107, h108, hb112, h113, h114, h115]
       obtain rfl := zo hm
       obtain rfl := hx _ rfl
       exact W.wk ⟨[], []⟩ [(4, .bool v116.1)] [.cells (zaf v116.2) 0 90] (W.ret (show _ /\ _ from ⟨rfl, rfl, rfl⟩))
      ·replace hm := zak hb112 hm
       refine W.skip ?_
       refine W.rg [] [(0, .ptr 0 0 0), (1, zi p1), (5, zM 2 1 13 l2), (8, zi (zw (i87 + 1)))] [zqb p0 p0.I (zbS p0.P.zSy) (zM 1 1 1 p0.P.zTh) (zbW p0.Wait), .rows ((p0.P.zTh.map zaj).set p1.toNat [zM 2 1 13 l2]) 1 1 59, .rows (l2.map zan) 13 1 63] ?_
       obtain rfl := zo hm
       exact ⟨(zw (i87 + 1)), (), ⟨[], []⟩, rfl, RO⟩
     ·replace hm := zak hb103 hm
      obtain rfl := zo hm
      obtain rfl := hx _ rfl
      exact W.wk ⟨[], [.fol 1 p1.toNat 0, .fol 0 0 3]⟩ [] [zqb p0 p0.I (zbS p0.P.zSy) (zbT (p0.P.zTh.set p1.toNat (zai.mk l2))) (zbW p0.Wait)] (W.exit (show _ /\ _ from ⟨rfl, (), rfl, rfl⟩))
    ·intro e0 s0 h0 hq
     rcases r102 with er102 | qr102
     ·obtain ⟨rfl, _, rfl, rfl⟩ := hq
      replace hm := zcC hm
      show WK _ _ _ _ _ [] [zqb p0 p0.I (zbS p0.P.zSy) (zbT (p0.P.zTh.set p1.toNat (zai.mk l2))) (zbW p0.Wait)]
      replace ⟨l118, h119, hm⟩ := zaN hm
      refine W.sq [] [(4, .bool true)] [zqb p0 p0.I (zbS p0.P.zSy) (zbT l118) (zbW p0.Wait)] ?_
      clear h119
      obtain rfl := zo hm
      exact W.ret (zaR.retW ⟨[], []⟩ RO)
     ·obtain ⟨rfl, rfl, rfl⟩ := hq
      replace hm := zcB hm
      obtain rfl := zo hm
      exact zaR.retW ⟨[], []⟩ RO
   ·obtain ⟨rfl, rfl, rfl⟩ := hq
    replace hm := zcB hm
    obtain rfl := zo hm
    exact zaR.retW ⟨[], []⟩ RO
theorem zgz {p0 : ByteArray} {r : zat × zao} (hm : zcK p0 = some r) : zaL Tryz.prog 19 [.str p0] (.tuple [.agg [.sl (r.1.zSy.map zas), .sl (r.1.zTh.map zaT)], .agg [zi r.2.Code, zi r.2.Line, zi r.2.Col]]) := by
 rw [zcK] at hm
 refine zaL.of Tryz.func19 rfl Tryz.ntmps19 (Nat.le_of_ble_eq_true rfl) ?_
 have e0 : argS 0 [.str p0] = [(0, .str p0)] := rfl
 rw [e0]
 refine W.sqG [] [.nbx 0 0 0 3 54, .nbx 0 0 1 1 59] [(0, .str p0), (2, .ptr 0 0 0), (3, .ptr 1 0 0)] [.cells [.zBx (([] : List zaq).map zas) 3 54, .zBx (([] : List zai).map zaj) 1 59] 0 30, .cells [zi 0, zi 0, zi 0] 0 37] ?_
 replace ⟨v1, h2, hm⟩ := zam hm
 have kh2 := zgl h2
 refine W.sq [] [(2, .ptr 0 0 0), (3, .ptr 1 0 0), (4, .sl (v1.1.map zab)), (5, .ptr 2 0 0)] [.cells [.zBx (([] : List zaq).map zas) 3 54, .zBx (([] : List zai).map zaj) 1 59] 0 30, .cells [zi 0, zi 0, zi 0] 0 37, .cells (zaH v1.2) 0 37] ?_
 refine W.seq ?_
 refine W.sqh [] [(2, .ptr 0 0 0), (3, .ptr 1 0 0), (4, .sl (v1.1.map zab)), (5, .ptr 2 0 0), (15, .bool (v1.2.Code != 0))] ?_
 refine W.cnd (v1.2.Code != 0) (fun hb3 => ?_) fun hb3 => ?_
 ·replace hm := zal hb3 hm
  refine W.sqLG [.light, .light, .store, .store] [([], []), ([2], []), ([0], [0]), ([1], [1])] [] [.nbx 0 0 0 3 54, .nbx 0 0 1 1 59] [(2, .ptr 0 0 0), (3, .ptr 1 0 0)] [.cells [.zBx (([] : List zaq).map zas) 3 54, .zBx (([] : List zai).map zaj) 1 59] 0 30, .cells (zaH v1.2) 0 37] zaC ?_
  obtain rfl := zo hm
  refine W.wk ⟨[2, 3], [.foc 0 0 0, .foc 0 0 1]⟩ [(2, .ptr 0 0 0), (3, .ptr 1 0 0)] [.cells [.sl (([] : List zaq).map zas), .sl (([] : List zai).map zaT)] 0 30, .cells (zaH v1.2) 0 37] ?_
  exact W.ret (zaI.retW [] RO)
 ·replace hm := zak hb3 hm
  refine W.skip ?_
  refine W.sqG [] [.nbx 3 0 2 3 54, .nbx 3 0 3 1 59, .nbx 3 0 4 4 41, .nbx 3 0 5 1 34, .nbx 3 0 6 1 34, .nbx 3 0 7 1 3, .nbx 3 0 8 1 9, .nbx 3 0 9 1 9] [(2, .ptr 0 0 0), (3, .ptr 1 0 0), (4, .sl (v1.1.map zab)), (6, .ptr 3 0 0)] [.cells [.zBx (([] : List zaq).map zas) 3 54, .zBx (([] : List zai).map zaj) 1 59] 0 30, .cells [zi 0, zi 0, zi 0] 0 37, .dead, zqd v1.1 0 (zbS ([] : List zaq)) (zbT ([] : List zai)) (zbK ([] : List zad)) (zbL ([] : List (List zad))) (zbL ([] : List (List zad))) (zbI ([] : List Int)) (zbW ([] : List ByteArray)) (zbW ([] : List ByteArray)) 0 0 0] ?_
  refine W.seq ?_
  refine W.block ?_
  replace ⟨r55, hlr55, hm⟩ := zam hm
  refine W.mono (Q := fun e0 s0 h0 => match r55 with | .inl e => e0 = .exit 0 /\ ∃ w : Unit, s0 = [(2, .ptr 0 0 0), (3, .ptr 1 0 0), (6, .ptr 3 0 0)] /\ h0 = [.cells [.zBx (([] : List zaq).map zas) 3 54, .zBx (([] : List zai).map zaj) 1 59] 0 30, .cells [zi 0, zi 0, zi 0] 0 37, .dead, zqd e.1 e.2.1 (zbS e.2.2.1) (zbT e.2.2.2.1) (zbK e.2.2.2.2.1) (zbL e.2.2.2.2.2.1) (zbL e.2.2.2.2.2.2.1) (zbI e.2.2.2.2.2.2.2.1) (zbW e.2.2.2.2.2.2.2.2.1) (zbW e.2.2.2.2.2.2.2.2.2.1) e.2.2.2.2.2.2.2.2.2.2.1 e.2.2.2.2.2.2.2.2.2.2.2.1 e.2.2.2.2.2.2.2.2.2.2.2.2] | .inr q => e0 = .ret /\ s0 = [(2, .ptr 0 0 0), (3, .ptr 1 0 0)] /\ h0 = [.cells (zaG q.1) 0 30, .cells (zaH q.2) 0 37]) (W.loopM (step := zbe v1) (a0 := (v1.1, 0, ([] : List zaq), ([] : List zai), ([] : List zad), ([] : List (List zad)), ([] : List (List zad)), ([] : List Int), ([] : List ByteArray), ([] : List ByteArray), 0, 0, 0)) (fun (a : (List zad) × Int × (List zaq) × (List zai) × (List zad) × (List (List zad)) × (List (List zad)) × (List Int) × (List ByteArray) × (List ByteArray) × Int × Int × Int) (v : Unit) => ([(2, .ptr 0 0 0), (3, .ptr 1 0 0), (4, .sl (v1.1.map zab)), (6, .ptr 3 0 0)], [.cells [.zBx (([] : List zaq).map zas) 3 54, .zBx (([] : List zai).map zaj) 1 59] 0 30, .cells [zi 0, zi 0, zi 0] 0 37, .dead, zqd a.1 a.2.1 (zbS a.2.2.1) (zbT a.2.2.2.1) (zbK a.2.2.2.2.1) (zbL a.2.2.2.2.2.1) (zbL a.2.2.2.2.2.2.1) (zbI a.2.2.2.2.2.2.2.1) (zbW a.2.2.2.2.2.2.2.2.1) (zbW a.2.2.2.2.2.2.2.2.2.1) a.2.2.2.2.2.2.2.2.2.2.1 a.2.2.2.2.2.2.2.2.2.2.2.1 a.2.2.2.2.2.2.2.2.2.2.2.2])) () hlr55 ⟨[], []⟩ RO ?_) ?_
  ·rintro ⟨l25, i26, l27, l28, l29, l30, l31, l32, l33, l34, i35, i36, i37⟩ _ x hm hx
   rw [zbe] at hm
   show WK _ _ _ _ _ [(2, .ptr 0 0 0), (3, .ptr 1 0 0), (4, .sl (v1.1.map zab)), (6, .ptr 3 0 0)] [.cells [.zBx (([] : List zaq).map zas) 3 54, .zBx (([] : List zai).map zaj) 1 59] 0 30, .cells [zi 0, zi 0, zi 0] 0 37, .dead, zqd l25 i26 (zbS l27) (zbT l28) (zbK l29) (zbL l30) (zbL l31) (zbI l32) (zbW l33) (zbW l34) i35 i36 i37]
   refine W.seq ?_
   refine W.sqh [] [(2, .ptr 0 0 0), (3, .ptr 1 0 0), (4, .sl (v1.1.map zab)), (6, .ptr 3 0 0), (27, .bool (decide (i26 < (v1.1.length : Int))))] ?_
   refine W.cnd (decide (i26 < (v1.1.length : Int))) (fun hb56 => ?_) fun hb56 => ?_
   ·replace hm := zal hb56 hm
    refine W.skip ?_
    refine W.block ?_
    replace ⟨v57, h58, hm⟩ := zam hm
    refine W.sq [] [(2, .ptr 0 0 0), (3, .ptr 1 0 0), (4, .sl (v1.1.map zab)), (6, .ptr 3 0 0), (30, .bool (!v57.1))] [.cells [.zBx (([] : List zaq).map zas) 3 54, .zBx (([] : List zai).map zaj) 1 59] 0 30, .cells [zi 0, zi 0, zi 0] 0 37, .dead, .cells (zaf v57.2) 0 90] ?_ (hrun := ?_)
    rotate_left
    ·try simp -implicitDefEqProofs -dsimp only [go_sem, hb3, hb56]
     with_reducible refine exP.mk (.gheap [] ⟨[], [3], [.ptr 0 0 0], [.cells (zaf (zaa.mk l25 i26 (zat.mk l27 l28) l29 l30 l31 l32 l33 l34 (zao.mk i35 i36 i37))) 0 90], .bool v57.1, [.cells (zaf v57.2) 0 90]⟩ []) (callQ.ofG (by simp -implicitDefEqProofs -dsimp only [go_sem, hb3, hb56]) (ze9 h58)) ?_
     try simp -implicitDefEqProofs -dsimp only [go_sem, hb3, hb56]
    refine W.cnd (!v57.1) (fun hb59 => ?_) fun hb59 => ?_
    ·replace hm := zal hb59 hm
     refine W.sqLG [.light, .light, .light, .light, .light, .store, .store] [([], []), ([], []), ([], []), ([], []), ([3], []), ([0], [0]), ([1], [1])] [] [.nbx 0 0 0 3 54, .nbx 0 0 1 1 59] [(2, .ptr 0 0 0), (3, .ptr 1 0 0)] [.cells [.zBx (([] : List zaq).map zas) 3 54, .zBx (([] : List zai).map zaj) 1 59] 0 30, .cells (zaH v57.2.Bad) 0 37] zaC ?_
     obtain rfl := zo hm
     obtain rfl := hx _ rfl
     refine W.wk ⟨[2, 3], [.foc 0 0 0, .foc 0 0 1]⟩ [(2, .ptr 0 0 0), (3, .ptr 1 0 0)] [.cells [.sl (([] : List zaq).map zas), .sl (([] : List zai).map zaT)] 0 30, .cells (zaH v57.2.Bad) 0 37] ?_
     exact W.wk ⟨[], []⟩ [(2, .ptr 0 0 0), (3, .ptr 1 0 0)] [.cells [.sl (([] : List zaq).map zas), .sl (([] : List zai).map zaT)] 0 30, .cells (zaH v57.2.Bad) 0 37] (W.ret (show _ /\ _ from ⟨rfl, rfl, rfl⟩))
    ·replace hm := zak hb59 hm
     refine W.skip ?_
     obtain rfl := zo hm
     exact ⟨(v57.2.T, v57.2.I, v57.2.P.zSy, v57.2.P.zTh, v57.2.zHd, v57.2.First, v57.2.To, v57.2.Left, v57.2.All, v57.2.Wait, v57.2.Bad.Code, v57.2.Bad.Line, v57.2.Bad.Col), (), ⟨[], []⟩, rfl, RO⟩
   ·replace hm := zak hb56 hm
    obtain rfl := zo hm
    obtain rfl := hx _ rfl
    exact W.wk ⟨[], []⟩ [(2, .ptr 0 0 0), (3, .ptr 1 0 0), (6, .ptr 3 0 0)] [.cells [.zBx (([] : List zaq).map zas) 3 54, .zBx (([] : List zai).map zaj) 1 59] 0 30, .cells [zi 0, zi 0, zi 0] 0 37, .dead, zqd l25 i26 (zbS l27) (zbT l28) (zbK l29) (zbL l30) (zbL l31) (zbI l32) (zbW l33) (zbW l34) i35 i36 i37] (W.exit (show _ /\ _ from ⟨rfl, (), rfl, rfl⟩))
  ·intro e0 s0 h0 hq
   rcases r55 with er55 | qr55
   ·obtain ⟨rfl, _, rfl, rfl⟩ := hq
    replace hm := zcC hm
    show WK _ _ _ _ _ [(2, .ptr 0 0 0), (3, .ptr 1 0 0), (6, .ptr 3 0 0)] [.cells [.zBx (([] : List zaq).map zas) 3 54, .zBx (([] : List zai).map zaj) 1 59] 0 30, .cells [zi 0, zi 0, zi 0] 0 37, .dead, zqd er55.1 er55.2.1 (zbS er55.2.2.1) (zbT er55.2.2.2.1) (zbK er55.2.2.2.2.1) (zbL er55.2.2.2.2.2.1) (zbL er55.2.2.2.2.2.2.1) (zbI er55.2.2.2.2.2.2.2.1) (zbW er55.2.2.2.2.2.2.2.2.1) (zbW er55.2.2.2.2.2.2.2.2.2.1) er55.2.2.2.2.2.2.2.2.2.2.1 er55.2.2.2.2.2.2.2.2.2.2.2.1 er55.2.2.2.2.2.2.2.2.2.2.2.2]
    replace ⟨v60, h61, hm⟩ := zam hm
    refine W.sq [] [(2, .ptr 0 0 0), (3, .ptr 1 0 0), (6, .ptr 3 0 0)] [.cells [.zBx (([] : List zaq).map zas) 3 54, .zBx (([] : List zai).map zaj) 1 59] 0 30, .cells [zi 0, zi 0, zi 0] 0 37, .dead, .cells (zaf v60) 0 90] ?_ (hrun := ?_)
    rotate_left
    ·try simp -implicitDefEqProofs -dsimp only [go_sem, hb3]
     with_reducible refine exP.mk (.gheap [] ⟨[], [3], [.ptr 0 0 0], [.cells (zaf (zaa.mk er55.1 er55.2.1 (zat.mk er55.2.2.1 er55.2.2.2.1) er55.2.2.2.2.1 er55.2.2.2.2.2.1 er55.2.2.2.2.2.2.1 er55.2.2.2.2.2.2.2.1 er55.2.2.2.2.2.2.2.2.1 er55.2.2.2.2.2.2.2.2.2.1 (zao.mk er55.2.2.2.2.2.2.2.2.2.2.1 er55.2.2.2.2.2.2.2.2.2.2.2.1 er55.2.2.2.2.2.2.2.2.2.2.2.2))) 0 90], .tuple [], [.cells (zaf v60) 0 90]⟩ []) (callQ.ofG (by simp -implicitDefEqProofs -dsimp only [go_sem, hb3]) (zdG h61)) ?_
     try simp -implicitDefEqProofs -dsimp only [go_sem, hb3]
    refine W.seq ?_
    refine W.sqh [] [(2, .ptr 0 0 0), (3, .ptr 1 0 0), (6, .ptr 3 0 0), (7, zi 0)] ?_
    refine W.block ?_
    replace ⟨r115, hlr115, hm⟩ := zam hm
    refine W.mono (Q := fun e0 s0 h0 => match r115 with | .inl e => e0 = .exit 2 /\ ∃ w : Unit, s0 = [(2, .ptr 0 0 0), (3, .ptr 1 0 0), (6, .ptr 3 0 0)] /\ h0 = [.cells [.zBx (([] : List zaq).map zas) 3 54, .zBx (([] : List zai).map zaj) 1 59] 0 30, .cells [zi 0, zi 0, zi 0] 0 37, .dead, zqd e.1 e.2.1 (zbS e.2.2.1) (zbT e.2.2.2.1) (zbK e.2.2.2.2.1) (zbL e.2.2.2.2.2.1) (zbL e.2.2.2.2.2.2.1) (zbI e.2.2.2.2.2.2.2.1) (zbW e.2.2.2.2.2.2.2.2.1) (zbW e.2.2.2.2.2.2.2.2.2.1) e.2.2.2.2.2.2.2.2.2.2.1 e.2.2.2.2.2.2.2.2.2.2.2.1 e.2.2.2.2.2.2.2.2.2.2.2.2] | .inr q => e0 = .ret /\ s0 = [(2, .ptr 0 0 0), (3, .ptr 1 0 0)] /\ h0 = [.cells (zaG q.1) 0 30, .cells (zaH q.2) 0 37]) (W.loopM (step := zce) (a0 := (0, v60.T, v60.I, v60.P.zSy, v60.P.zTh, v60.zHd, v60.First, v60.To, v60.Left, v60.All, v60.Wait, v60.Bad.Code, v60.Bad.Line, v60.Bad.Col)) (fun (a : Int × (List zad) × Int × (List zaq) × (List zai) × (List zad) × (List (List zad)) × (List (List zad)) × (List Int) × (List ByteArray) × (List ByteArray) × Int × Int × Int) (v : Unit) => ([(2, .ptr 0 0 0), (3, .ptr 1 0 0), (6, .ptr 3 0 0), (7, zi a.1)], [.cells [.zBx (([] : List zaq).map zas) 3 54, .zBx (([] : List zai).map zaj) 1 59] 0 30, .cells [zi 0, zi 0, zi 0] 0 37, .dead, zqd a.2.1 a.2.2.1 (zbS a.2.2.2.1) (zbT a.2.2.2.2.1) (zbK a.2.2.2.2.2.1) (zbL a.2.2.2.2.2.2.1) (zbL a.2.2.2.2.2.2.2.1) (zbI a.2.2.2.2.2.2.2.2.1) (zbW a.2.2.2.2.2.2.2.2.2.1) (zbW a.2.2.2.2.2.2.2.2.2.2.1) a.2.2.2.2.2.2.2.2.2.2.2.1 a.2.2.2.2.2.2.2.2.2.2.2.2.1 a.2.2.2.2.2.2.2.2.2.2.2.2.2])) () hlr115 ⟨[], []⟩ RO ?_) ?_
    ·rintro ⟨i84, l85, i86, l87, l88, l89, l90, l91, l92, l93, l94, i95, i96, i97⟩ _ x hm hx
     rw [zce] at hm
     show WK _ _ _ _ _ [(2, .ptr 0 0 0), (3, .ptr 1 0 0), (6, .ptr 3 0 0), (7, zi i84)] [.cells [.zBx (([] : List zaq).map zas) 3 54, .zBx (([] : List zai).map zaj) 1 59] 0 30, .cells [zi 0, zi 0, zi 0] 0 37, .dead, zqd l85 i86 (zbS l87) (zbT l88) (zbK l89) (zbL l90) (zbL l91) (zbI l92) (zbW l93) (zbW l94) i95 i96 i97]
     refine W.seq ?_
     refine W.wk ⟨[], [.foc 3 0 3]⟩ [(2, .ptr 0 0 0), (3, .ptr 1 0 0), (6, .ptr 3 0 0), (7, zi i84)] [.cells [.zBx (([] : List zaq).map zas) 3 54, .zBx (([] : List zai).map zaj) 1 59] 0 30, .cells [zi 0, zi 0, zi 0] 0 37, .dead, zqd l85 i86 (zbS l87) (zM 4 1 1 l88) (zbK l89) (zbL l90) (zbL l91) (zbI l92) (zbW l93) (zbW l94) i95 i96 i97, .rows (l88.map zaj) 1 1 59] ?_
     refine W.sqG [] [.fol 3 0 3] [(2, .ptr 0 0 0), (3, .ptr 1 0 0), (6, .ptr 3 0 0), (7, zi i84), (45, .bool (decide (i84 < (l88.length : Int))))] [.cells [.zBx (([] : List zaq).map zas) 3 54, .zBx (([] : List zai).map zaj) 1 59] 0 30, .cells [zi 0, zi 0, zi 0] 0 37, .dead, zqd l85 i86 (zbS l87) (zbT l88) (zbK l89) (zbL l90) (zbL l91) (zbI l92) (zbW l93) (zbW l94) i95 i96 i97] ?_
     refine W.cnd (decide (i84 < (l88.length : Int))) (fun hb116 => ?_) fun hb116 => ?_
     ·replace hm := zal hb116 hm
      refine W.skip ?_
      refine W.seq ?_
      refine W.block ?_
      replace ⟨v117, h118, hm⟩ := zam hm
      refine W.sq [] [(2, .ptr 0 0 0), (3, .ptr 1 0 0), (6, .ptr 3 0 0), (7, zi i84), (51, .bool (!v117.1))] [.cells [.zBx (([] : List zaq).map zas) 3 54, .zBx (([] : List zai).map zaj) 1 59] 0 30, .cells [zi 0, zi 0, zi 0] 0 37, .dead, .cells (zaf v117.2) 0 90] ?_ (hrun := ?_)
      rotate_left
      ·try simp -implicitDefEqProofs -dsimp only [go_sem, hb3, hb116]
       with_reducible refine exP.mk (.gheap [] ⟨[], [3], [.ptr 0 0 0, zi i84], [.cells (zaf (zaa.mk l85 i86 (zat.mk l87 l88) l89 l90 l91 l92 l93 l94 (zao.mk i95 i96 i97))) 0 90], .bool v117.1, [.cells (zaf v117.2) 0 90]⟩ []) (callQ.ofG (by simp -implicitDefEqProofs -dsimp only [go_sem, hb3, hb116]) (zfa h118)) ?_
       try simp -implicitDefEqProofs -dsimp only [go_sem, hb3, hb116]
      refine W.cnd (!v117.1) (fun hb119 => ?_) fun hb119 => ?_
      ·replace hm := zal hb119 hm
       refine W.sqLG [.light, .light, .light, .light, .light, .store, .store] [([], []), ([], []), ([], []), ([], []), ([3], []), ([0], [0]), ([1], [1])] [] [.nbx 0 0 0 3 54, .nbx 0 0 1 1 59] [(2, .ptr 0 0 0), (3, .ptr 1 0 0)] [.cells [.zBx (([] : List zaq).map zas) 3 54, .zBx (([] : List zai).map zaj) 1 59] 0 30, .cells (zaH v117.2.Bad) 0 37] zaC ?_
       obtain rfl := zo hm
       obtain rfl := hx _ rfl
       refine W.wk ⟨[2, 3], [.foc 0 0 0, .foc 0 0 1]⟩ [(2, .ptr 0 0 0), (3, .ptr 1 0 0)] [.cells [.sl (([] : List zaq).map zas), .sl (([] : List zai).map zaT)] 0 30, .cells (zaH v117.2.Bad) 0 37] ?_
       exact W.wk ⟨[], []⟩ [(2, .ptr 0 0 0), (3, .ptr 1 0 0)] [.cells [.sl (([] : List zaq).map zas), .sl (([] : List zai).map zaT)] 0 30, .cells (zaH v117.2.Bad) 0 37] (W.ret (show _ /\ _ from ⟨rfl, rfl, rfl⟩))
      ·replace hm := zak hb119 hm
       refine W.skip ?_
       refine W.rg [] [(2, .ptr 0 0 0), (3, .ptr 1 0 0), (6, .ptr 3 0 0), (7, zi (zw (i84 + 1)))] [.cells [.zBx (([] : List zaq).map zas) 3 54, .zBx (([] : List zai).map zaj) 1 59] 0 30, .cells [zi 0, zi 0, zi 0] 0 37, .dead, .cells (zaf v117.2) 0 90] ?_
       obtain rfl := zo hm
       exact ⟨((zw (i84 + 1)), v117.2.T, v117.2.I, v117.2.P.zSy, v117.2.P.zTh, v117.2.zHd, v117.2.First, v117.2.To, v117.2.Left, v117.2.All, v117.2.Wait, v117.2.Bad.Code, v117.2.Bad.Line, v117.2.Bad.Col), (), ⟨[], []⟩, rfl, RO⟩
     ·replace hm := zak hb116 hm
      obtain rfl := zo hm
      obtain rfl := hx _ rfl
      exact W.wk ⟨[], []⟩ [(2, .ptr 0 0 0), (3, .ptr 1 0 0), (6, .ptr 3 0 0)] [.cells [.zBx (([] : List zaq).map zas) 3 54, .zBx (([] : List zai).map zaj) 1 59] 0 30, .cells [zi 0, zi 0, zi 0] 0 37, .dead, zqd l85 i86 (zbS l87) (zbT l88) (zbK l89) (zbL l90) (zbL l91) (zbI l92) (zbW l93) (zbW l94) i95 i96 i97] (W.exit (show _ /\ _ from ⟨rfl, (), rfl, rfl⟩))
    ·intro e0 s0 h0 hq
     rcases r115 with er115 | qr115
     ·obtain ⟨rfl, _, rfl, rfl⟩ := hq
      replace hm := zcC hm
      show WK _ _ _ _ _ [(2, .ptr 0 0 0), (3, .ptr 1 0 0), (6, .ptr 3 0 0)] [.cells [.zBx (([] : List zaq).map zas) 3 54, .zBx (([] : List zai).map zaj) 1 59] 0 30, .cells [zi 0, zi 0, zi 0] 0 37, .dead, zqd er115.1 er115.2.1 (zbS er115.2.2.1) (zbT er115.2.2.2.1) (zbK er115.2.2.2.2.1) (zbL er115.2.2.2.2.2.1) (zbL er115.2.2.2.2.2.2.1) (zbI er115.2.2.2.2.2.2.2.1) (zbW er115.2.2.2.2.2.2.2.2.1) (zbW er115.2.2.2.2.2.2.2.2.2.1) er115.2.2.2.2.2.2.2.2.2.2.1 er115.2.2.2.2.2.2.2.2.2.2.2.1 er115.2.2.2.2.2.2.2.2.2.2.2.2]
      refine W.wk ⟨[], [.foc 3 0 2, .foc 3 0 3]⟩ [(2, .ptr 0 0 0), (3, .ptr 1 0 0), (6, .ptr 3 0 0)] [.cells [.zBx (([] : List zaq).map zas) 3 54, .zBx (([] : List zai).map zaj) 1 59] 0 30, .cells [zi 0, zi 0, zi 0] 0 37, .dead, zqd er115.1 er115.2.1 (zM 4 1 3 er115.2.2.1) (zM 5 1 1 er115.2.2.2.1) (zbK er115.2.2.2.2.1) (zbL er115.2.2.2.2.2.1) (zbL er115.2.2.2.2.2.2.1) (zbI er115.2.2.2.2.2.2.2.1) (zbW er115.2.2.2.2.2.2.2.2.1) (zbW er115.2.2.2.2.2.2.2.2.2.1) er115.2.2.2.2.2.2.2.2.2.2.1 er115.2.2.2.2.2.2.2.2.2.2.2.1 er115.2.2.2.2.2.2.2.2.2.2.2.2, .rows (er115.2.2.1.map zas) 3 1 54, .rows (er115.2.2.2.1.map zaj) 1 1 59] ?_
      refine W.sqG [] [.fol 0 0 0, .fol 0 0 1] [(2, .ptr 0 0 0), (3, .ptr 1 0 0)] [.cells [.zBx (er115.2.2.1.map zas) 3 54, .zBx (er115.2.2.2.1.map zaj) 1 59] 0 30, .cells [zi 0, zi 0, zi 0] 0 37] ?_
      obtain rfl := zo hm
      refine W.wk ⟨[2, 3], [.foc 0 0 0, .foc 0 0 1]⟩ [(2, .ptr 0 0 0), (3, .ptr 1 0 0)] [.cells [.sl (er115.2.2.1.map zas), .sl (er115.2.2.2.1.map zaT)] 0 30, .cells [zi 0, zi 0, zi 0] 0 37] ?_
      exact W.ret (zaI.retW [] RO)
     ·obtain ⟨rfl, rfl, rfl⟩ := hq
      replace hm := zcB hm
      obtain rfl := zo hm
      exact zaI.retW [] RO
   ·obtain ⟨rfl, rfl, rfl⟩ := hq
    replace hm := zcB hm
    obtain rfl := zo hm
    exact zaI.retW [] RO
end Go.Proofs.YtocjejladeeckaaGreatDoor
