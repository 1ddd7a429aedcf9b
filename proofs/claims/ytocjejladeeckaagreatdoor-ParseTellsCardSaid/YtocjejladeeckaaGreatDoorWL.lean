import Derived.Test.YtocjejladeeckaaGreatDoorVFacts
import Derived.Test.YtocjejladeeckaaGreatDoorPalL
import Derived.Test.YtocjejladeeckaaGreatDoorWB
import Derived.Test.YtocjejladeeckaaGreatDoorWC
import Derived.Test.YtocjejladeeckaaGreatDoorWX
set_option linter.all false
set_option maxRecDepth 100000
set_option maxHeartbeats 4000000
namespace Go.Proofs.YtocjejladeeckaaGreatDoor
open Go.Vs
variable [TabX]
theorem zkg {p0 : zad} {p1 : Int} {r : Int} (hm : zeM p0 p1 = some r) : zaL Tryz.prog 53 [zqT p0, zi p1] (zi r) := by
 rw [zeM] at hm
 refine zaL.of Tryz.func53 rfl Tryz.ntmps53 (Nat.le_of_ble_eq_true rfl) ?_
 have e0 : argS 0 [zqT p0, zi p1] = [(0, zqT p0), (1, zi p1)] := rfl
 rw [e0]
 refine W.sq [] [(1, zi p1), (2, .ptr 0 0 0)] [.cells (zab p0) 0 41] ?_
 refine W.seq ?_
 refine W.sqh [] [(2, .ptr 0 0 0), (13, .bool ((p0.Kind == 1) && decide (p1 > 16)))] ?_
 refine W.cnd ((p0.Kind == 1) && decide (p1 > 16)) (fun hb1 => ?_) fun hb1 => ?_
 ·replace hm := zal hb1 hm
  refine W.sq [] [(4, zi 3)] [] ?_
  obtain rfl := zo hm
  exact W.ret (zaI.retW [] RO)
 ·replace hm := zak hb1 hm
  refine W.skip ?_
  refine W.seq ?_
  refine W.sq [] [(2, .ptr 0 0 0), (16, .bool (p0.Kind == 2))] [.cells (zab p0) 0 41] ?_
  refine W.cnd (p0.Kind == 2) (fun hb2 => ?_) fun hb2 => ?_
  ·replace hm := zal hb2 hm
   replace ⟨v3, h4, hm⟩ := zam hm
   have kh4 := zdP h4
   try simp only [hb1, hb2] at kh4
   refine W.sq [] [(6, .bool v3.2)] [] ?_
   refine W.sqh [] [(24, .bool (!v3.2))] ?_
   refine W.cnd (!v3.2) (fun hb5 => ?_) fun hb5 => ?_
   ·replace hm := zal hb5 hm
    refine W.sqh [] [(4, zi 2)] ?_
    obtain rfl := zo hm
    exact W.ret (zaI.retW [] RO)
   ·replace hm := zak hb5 hm
    refine W.skip ?_
    refine W.sqh [] [(4, zi 0)] ?_
    obtain rfl := zo hm
    exact W.ret (zaI.retW [] RO)
  ·replace hm := zak hb2 hm
   refine W.skip ?_
   refine W.sqh [] [(4, zi 0)] ?_
   obtain rfl := zo hm
   exact W.ret (zaI.retW [] RO)
theorem zhc {p0 : ByteArray} {r : Int × Int} (hm : zdJ p0 = some r) : zaL Tryz.prog 30 [.str p0] (.tuple [zi r.1, zi r.2]) := by
 rw [zdJ] at hm
 refine zaL.of Tryz.func30 rfl Tryz.ntmps30 (Nat.le_of_ble_eq_true rfl) ?_
 have e0 : argS 0 [.str p0] = [(0, .str p0)] := rfl
 rw [e0]
 refine W.sq [] [(0, .str p0)] [] ?_
 replace ⟨v1, h2, hm⟩ := zam hm
 have kh2 := zeF h2
 refine W.sqh [] [(4, .sl (v1.map zag))] ?_
 refine W.seq ?_
 refine W.sqh [] [(4, .sl (v1.map zag)), (10, .bool ((v1.length : Int) == 0))] ?_
 refine W.cnd ((v1.length : Int) == 0) (fun hb3 => ?_) fun hb3 => ?_
 ·replace hm := zal hb3 hm
  refine W.sqh [] [(2, zi 1), (3, zi 1)] ?_
  obtain rfl := zo hm
  exact W.ret (zaI.retW [] RO)
 ·replace hm := zak hb3 hm
  refine W.skip ?_
  replace ⟨h4, hm⟩ := zav hm
  refine W.sq [] [(5, .ptr 0 0 0)] [.cells (zag (rd v1 (zw ((v1.length : Int) - 1)))) 0 73] ?_
  refine W.seq ?_
  refine W.sqh [] [(5, .ptr 0 0 0), (19, .bool ((rd v1 (zw ((v1.length : Int) - 1))).Rune == 10))] ?_
  refine W.cnd ((rd v1 (zw ((v1.length : Int) - 1))).Rune == 10) (fun hb5 => ?_) fun hb5 => ?_
  ·replace hm := zal hb5 hm
   replace ⟨n6, h7, hm⟩ := zaN hm
   refine W.sq [] [(2, zi n6), (3, zi 1)] [] ?_
   clear h7
   obtain rfl := zo hm
   exact W.ret (zaI.retW [] RO)
  ·replace hm := zak hb5 hm
   refine W.skip ?_
   replace ⟨n8, h9, hm⟩ := zaN hm
   refine W.sqJ [] [] [] 0 [] [(2, zi ((rd v1 (zw ((v1.length : Int) - 1))).Line)), (3, zi n8)] [] zaC ?_
   clear h9
   obtain rfl := zo hm
   exact W.ret (zaI.retW [] RO)
theorem zjt {p0 : ByteArray} {r : (List zad) × zao} (hm : zfq p0 = some r) : zaL Tryz.prog 31 [.str p0] (.tuple [.sl (r.1.map zab), .agg [zi r.2.Code, zi r.2.Line, zi r.2.Col]]) := by
 rw [zfq] at hm
 refine zaL.of Tryz.func31 rfl Tryz.ntmps31 (Nat.le_of_ble_eq_true rfl) ?_
 have e0 : argS 0 [.str p0] = [(0, .str p0)] := rfl
 rw [e0]
 refine W.sq [] [(0, .str p0), (3, .ptr 0 0 0)] [.cells [zi 0, zi 0, zi 0] 0 37] ?_
 replace ⟨v1, h2, hm⟩ := zam hm
 have kh2 := zgt h2
 refine W.sqh [] [(0, .str p0), (3, .ptr 0 0 0), (4, .sl (v1.map zar))] ?_
 refine W.sqh [] [(0, .str p0), (3, .ptr 0 0 0), (4, .sl (v1.map zar)), (5, .nils)] ?_
 refine W.seq ?_
 refine W.sqh [] [(0, .str p0), (3, .ptr 0 0 0), (4, .sl (v1.map zar)), (5, .nils), (6, zi 0)] ?_
 refine W.block ?_
 replace ⟨r170, hlr170, hm⟩ := zam hm
 refine W.mono (Q := fun e0 s0 h0 => match r170 with | .inl e => e0 = .exit 0 /\ ∃ w : Nat, s0 = [(0, .str p0), (3, .ptr 0 0 0), (5, zM 3 w 4 e)] /\ h0 = [.cells [zi 0, zi 0, zi 0] 0 37, .dead, .dead, .rows (e.map zab) 4 w 41] | .inr q => e0 = .ret /\ s0 = [(2, .sl (q.1.map zab)), (3, .ptr 0 0 0)] /\ h0 = [.cells (zaH q.2) 0 37]) (W.loopM (step := zcQ v1 p0) (a0 := (0, [])) (fun (a : Int × (List zad)) (v : Nat) => ([(0, .str p0), (3, .ptr 0 0 0), (4, .sl (v1.map zar)), (5, zM 3 v 4 a.2), (6, zi a.1)], [.cells [zi 0, zi 0, zi 0] 0 37, .dead, .dead, .rows (a.2.map zab) 4 v 41])) 0 hlr170 ⟨[], []⟩ RO ?_) ?_
 ·rintro ⟨i112, l113⟩ w114 x hm hx
  rw [zcQ] at hm
  show WK _ _ _ _ _ [(0, .str p0), (3, .ptr 0 0 0), (4, .sl (v1.map zar)), (5, zM 3 w114 4 l113), (6, zi i112)] [.cells [zi 0, zi 0, zi 0] 0 37, .dead, .dead, .rows (l113.map zab) 4 w114 41]
  refine W.seq ?_
  refine W.sqh [] [(0, .str p0), (3, .ptr 0 0 0), (4, .sl (v1.map zar)), (5, zM 3 w114 4 l113), (6, zi i112), (19, .bool (decide (i112 < (v1.length : Int))))] ?_
  refine W.cnd (decide (i112 < (v1.length : Int))) (fun hb171 => ?_) fun hb171 => ?_
  ·replace hm := zal hb171 hm
   refine W.skip ?_
   refine W.block ?_
   replace ⟨h172, hm⟩ := zav hm
   refine W.sq [] [(0, .str p0), (3, .ptr 0 0 0), (4, .sl (v1.map zar)), (5, zM 3 w114 4 l113), (6, zi i112), (7, .ptr 4 0 0)] [.cells [zi 0, zi 0, zi 0] 0 37, .dead, .dead, .rows (l113.map zab) 4 w114 41, .cells (zar (rd v1 i112)) 0 101] ?_
   refine W.block ?_
   refine W.sq [] [(0, .str p0), (3, .ptr 0 0 0), (4, .sl (v1.map zar)), (5, zM 3 w114 4 l113), (6, zi i112), (7, .ptr 4 0 0), (72, .bool (rd v1 i112).Bad)] [.cells [zi 0, zi 0, zi 0] 0 37, .dead, .dead, .rows (l113.map zab) 4 w114 41, .cells (zar (rd v1 i112)) 0 101] ?_
   refine W.cnd ((rd v1 i112).Bad) (fun hb173 => ?_) fun hb173 => ?_
   ·replace hm := zal hb173 hm
    replace ⟨v174, h175, hm⟩ := zam hm
    have kh175 := ze4 h175
    try simp only [hb171, hb173] at kh175
    refine W.sq [] [(2, .nils), (3, .ptr 0 0 0)] [.cells (zaH v174) 0 37] ?_
    obtain rfl := zo hm
    obtain rfl := hx _ rfl
    exact W.wk ⟨[], []⟩ [(2, .sl (([]).map zab)), (3, .ptr 0 0 0)] [.cells (zaH v174) 0 37] (W.ret (show _ /\ _ from ⟨rfl, rfl, rfl⟩))
   ·replace hm := zak hb173 hm
    replace ⟨v176, h177, hm⟩ := zam hm
    have kh177 := ziM h177
    try simp only [hb171, hb173] at kh177
    refine W.sq [] [(0, .str p0), (3, .ptr 0 0 0), (4, .sl (v1.map zar)), (5, zM 3 w114 4 l113), (6, zi i112), (7, .ptr 4 0 0), (77, .bool v176)] [.cells [zi 0, zi 0, zi 0] 0 37, .dead, .dead, .rows (l113.map zab) 4 w114 41, .cells (zar (rd v1 i112)) 0 101] ?_
    refine W.cnd v176 (fun hb178 => ?_) fun hb178 => ?_
    ·replace hm := zal hb178 hm
     refine W.rg [] [(0, .str p0), (3, .ptr 0 0 0), (4, .sl (v1.map zar)), (5, zM 3 w114 4 l113), (6, zi (zw (i112 + 1)))] [.cells [zi 0, zi 0, zi 0] 0 37, .dead, .dead, .rows (l113.map zab) 4 w114 41] ?_
     obtain rfl := zo hm
     exact ⟨((zw (i112 + 1)), l113), w114, ⟨[], []⟩, rfl, RO⟩
    ·replace hm := zak hb178 hm
     refine W.sq [] [(0, .str p0), (3, .ptr 0 0 0), (4, .sl (v1.map zar)), (5, zM 3 w114 4 l113), (6, zi i112), (7, .ptr 4 0 0), (83, .bool ((rd v1 i112).Rune == 59))] [.cells [zi 0, zi 0, zi 0] 0 37, .dead, .dead, .rows (l113.map zab) 4 w114 41, .cells (zar (rd v1 i112)) 0 101] ?_
     refine W.cnd ((rd v1 i112).Rune == 59) (fun hb179 => ?_) fun hb179 => ?_
     ·replace hm := zal hb179 hm
      refine W.block ?_
      replace ⟨r204, hlr204, hm⟩ := zam hm
      refine W.mono (Q := fun e0 s0 h0 => match r204 with | .inl e => e0 = .exit 3 /\ ∃ w : Unit, s0 = [(0, .str p0), (3, .ptr 0 0 0), (4, .sl (v1.map zar)), (5, zM 3 w114 4 l113), (6, zi e)] /\ h0 = [.cells [zi 0, zi 0, zi 0] 0 37, .dead, .dead, .rows (l113.map zab) 4 w114 41] | .inr q => e0 = .ret /\ s0 = [(2, .sl (q.1.map zab)), (3, .ptr 0 0 0)] /\ h0 = [.cells (zaH q.2) 0 37]) (W.loopM (step := zda v1) (a0 := i112) (fun (a : Int) (v : Unit) => ([(0, .str p0), (3, .ptr 0 0 0), (4, .sl (v1.map zar)), (5, zM 3 w114 4 l113), (6, zi a)], [.cells [zi 0, zi 0, zi 0] 0 37, .dead, .dead, .rows (l113.map zab) 4 w114 41])) () hlr204 ⟨[], []⟩ RO ?_) ?_
      ·rintro i195 _ x hm hx
       rw [zda] at hm
       show WK _ _ _ _ _ [(0, .str p0), (3, .ptr 0 0 0), (4, .sl (v1.map zar)), (5, zM 3 w114 4 l113), (6, zi i195)] [.cells [zi 0, zi 0, zi 0] 0 37, .dead, .dead, .rows (l113.map zab) 4 w114 41]
       refine W.seq ?_
       replace ⟨h205, hm⟩ := zav hm
       refine W.sqh [] [(0, .str p0), (3, .ptr 0 0 0), (4, .sl (v1.map zar)), (5, zM 3 w114 4 l113), (6, zi i195), (98, .bool (decide (i195 < (v1.length : Int)) && ((rd v1 i195).Rune != 10)))] ?_
       refine W.cnd (decide (i195 < (v1.length : Int)) && ((rd v1 i195).Rune != 10)) (fun hb206 => ?_) fun hb206 => ?_
       ·replace hm := zal hb206 hm
        refine W.skip ?_
        refine W.block ?_
        refine W.seq ?_
        replace ⟨h207, hm⟩ := zav hm
        refine W.sq [] [(0, .str p0), (3, .ptr 0 0 0), (4, .sl (v1.map zar)), (5, zM 3 w114 4 l113), (6, zi i195), (103, .bool (rd v1 i195).Bad)] [.cells [zi 0, zi 0, zi 0] 0 37, .dead, .dead, .rows (l113.map zab) 4 w114 41] ?_
        refine W.cnd ((rd v1 i195).Bad) (fun hb208 => ?_) fun hb208 => ?_
        ·replace hm := zal hb208 hm
         replace ⟨h209, hm⟩ := zav hm
         replace ⟨v210, h211, hm⟩ := zam hm
         have kh211 := ze4 h211
         try simp only [hb171, hb173, hb178, hb179, hb206, hb208] at kh211
         refine W.sq [] [(2, .nils), (3, .ptr 0 0 0)] [.cells (zaH v210) 0 37] ?_
         obtain rfl := zo hm
         obtain rfl := hx _ rfl
         exact W.wk ⟨[], []⟩ [(2, .sl (([]).map zab)), (3, .ptr 0 0 0)] [.cells (zaH v210) 0 37] (W.ret (show _ /\ _ from ⟨rfl, rfl, rfl⟩))
        ·replace hm := zak hb208 hm
         refine W.skip ?_
         refine W.rg [] [(0, .str p0), (3, .ptr 0 0 0), (4, .sl (v1.map zar)), (5, zM 3 w114 4 l113), (6, zi (zw (i195 + 1)))] [.cells [zi 0, zi 0, zi 0] 0 37, .dead, .dead, .rows (l113.map zab) 4 w114 41] ?_
         obtain rfl := zo hm
         exact ⟨(zw (i195 + 1)), (), ⟨[], []⟩, rfl, RO⟩
       ·replace hm := zak hb206 hm
        obtain rfl := zo hm
        obtain rfl := hx _ rfl
        exact W.wk ⟨[], []⟩ [(0, .str p0), (3, .ptr 0 0 0), (4, .sl (v1.map zar)), (5, zM 3 w114 4 l113), (6, zi i195)] [.cells [zi 0, zi 0, zi 0] 0 37, .dead, .dead, .rows (l113.map zab) 4 w114 41] (W.exit (show _ /\ _ from ⟨rfl, (), rfl, rfl⟩))
      ·intro e0 s0 h0 hq
       rcases r204 with er204 | qr204
       ·obtain ⟨rfl, _, rfl, rfl⟩ := hq
        replace hm := zcC hm
        obtain rfl := zo hm
        exact ⟨(er204, l113), w114, ⟨[], []⟩, rfl, RO⟩
       ·obtain ⟨rfl, rfl, rfl⟩ := hq
        replace hm := zcB hm
        obtain rfl := zo hm
        obtain rfl := hx _ rfl
        first | exact (show _ /\ _ from ⟨rfl, rfl, rfl⟩) | exact ⟨trivial, rfl, rfl⟩
     ·replace hm := zak hb179 hm
      replace ⟨v212, h213, hm⟩ := zam hm
      have kh213 := zl0 h213
      try simp only [hb171, hb173, hb178, hb179] at kh213
      refine W.sq [] [(0, .str p0), (3, .ptr 0 0 0), (4, .sl (v1.map zar)), (5, zM 3 w114 4 l113), (6, zi i112), (7, .ptr 4 0 0), (8, zi v212.1), (9, zi v212.2)] [.cells [zi 0, zi 0, zi 0] 0 37, .dead, .dead, .rows (l113.map zab) 4 w114 41, .cells (zar (rd v1 i112)) 0 101] ?_
      refine W.seq ?_
      refine W.sqh [] [(0, .str p0), (3, .ptr 0 0 0), (4, .sl (v1.map zar)), (5, zM 3 w114 4 l113), (6, zi i112), (7, .ptr 4 0 0), (8, zi v212.1), (9, zi v212.2), (31, .bool (v212.2 == 0))] ?_
      refine W.cnd (v212.2 == 0) (fun hb214 => ?_) fun hb214 => ?_
      ·replace hm := zal hb214 hm
       replace ⟨v215, h216, hm⟩ := zam hm
       have kh216 := ze4 h216
       try simp only [hb171, hb173, hb178, hb179, hb214] at kh216
       refine W.sq [] [(2, .nils), (3, .ptr 0 0 0)] [.cells (zaH v215) 0 37] ?_
       obtain rfl := zo hm
       obtain rfl := hx _ rfl
       exact W.wk ⟨[], []⟩ [(2, .sl (([]).map zab)), (3, .ptr 0 0 0)] [.cells (zaH v215) 0 37] (W.ret (show _ /\ _ from ⟨rfl, rfl, rfl⟩))
      ·replace hm := zak hb214 hm
       refine W.skip ?_
       replace ⟨h217, hm⟩ := zav hm
       replace ⟨h218, hm⟩ := zav hm
       replace ⟨h219, hm⟩ := zav hm
       replace ⟨h220, hm⟩ := zav hm
       replace ⟨s221, h222, hm⟩ := zaN hm
       refine W.sqJ [23, 24] [23, 24] [0, 1, 2, 3, 4, 5, 6, 7, 8, 9, 10, 11, 12, 13, 14, 15, 16, 17, 18, 19, 20, 21, 22] 5 [] [(0, .str p0), (3, .ptr 0 0 0), (4, .sl (v1.map zar)), (5, zM 3 w114 4 l113), (6, zi i112), (7, .ptr 4 0 0), (8, zi v212.1), (10, .ptr 5 0 0)] [.cells [zi 0, zi 0, zi 0] 0 37, .dead, .dead, .rows (l113.map zab) 4 w114 41, .cells (zar (rd v1 i112)) 0 101, .cells [zi v212.2, zi (rd v1 i112).Line, zi (rd v1 i112).Col, .str s221] 0 41] zaC ?_
       clear h222
       refine W.seq ?_
       replace ⟨v223, h224, hm⟩ := zam hm
       have kh224 := zkg h224
       try simp only [hb171, hb173, hb178, hb179, hb214] at kh224
       refine W.sq [] [(0, .str p0), (3, .ptr 0 0 0), (4, .sl (v1.map zar)), (5, zM 3 w114 4 l113), (7, .ptr 4 0 0), (8, zi v212.1), (10, .ptr 5 0 0), (11, zi v223)] [.cells [zi 0, zi 0, zi 0] 0 37, .dead, .dead, .rows (l113.map zab) 4 w114 41, .cells (zar (rd v1 i112)) 0 101, .cells [zi v212.2, zi (rd v1 i112).Line, zi (rd v1 i112).Col, .str s221] 0 41] ?_
       refine W.sqh [] [(0, .str p0), (3, .ptr 0 0 0), (4, .sl (v1.map zar)), (5, zM 3 w114 4 l113), (7, .ptr 4 0 0), (8, zi v212.1), (10, .ptr 5 0 0), (11, zi v223), (63, .bool (v223 != 0))] ?_
       refine W.cnd (v223 != 0) (fun hb225 => ?_) fun hb225 => ?_
       ·replace hm := zal hb225 hm
        replace ⟨v226, h227, hm⟩ := zam hm
        have kh227 := ze4 h227
        try simp only [hb171, hb173, hb178, hb179, hb214, hb225] at kh227
        refine W.sq [] [(2, .nils), (3, .ptr 0 0 0)] [.cells (zaH v226) 0 37] ?_
        obtain rfl := zo hm
        obtain rfl := hx _ rfl
        exact W.wk ⟨[], []⟩ [(2, .sl (([]).map zab)), (3, .ptr 0 0 0)] [.cells (zaH v226) 0 37] (W.ret (show _ /\ _ from ⟨rfl, rfl, rfl⟩))
       ·replace hm := zak hb225 hm
        refine W.skip ?_
        replace ⟨h228, hm⟩ := zav hm
        replace ⟨l229, h230, hm⟩ := zaN hm
        refine W.sq [] [(0, .str p0), (3, .ptr 0 0 0), (4, .sl (v1.map zar)), (5, .msl 3 (w114 + 1) 0 4 l229.length l229.length), (8, zi v212.1)] [.cells [zi 0, zi 0, zi 0] 0 37, .dead, .dead, .rows (l229.map zab) 4 (w114 + 1) 41] ?_
        clear h230
        refine W.rg [] [(0, .str p0), (3, .ptr 0 0 0), (4, .sl (v1.map zar)), (5, .msl 3 (w114 + 1) 0 4 l229.length l229.length), (6, zi v212.1)] [.cells [zi 0, zi 0, zi 0] 0 37, .dead, .dead, .rows (l229.map zab) 4 (w114 + 1) 41] ?_
        obtain rfl := zo hm
        exact ⟨(v212.1, l229), (w114 + 1), ⟨[], []⟩, rfl, RO⟩
  ·replace hm := zak hb171 hm
   obtain rfl := zo hm
   obtain rfl := hx _ rfl
   exact W.wk ⟨[], []⟩ [(0, .str p0), (3, .ptr 0 0 0), (5, zM 3 w114 4 l113)] [.cells [zi 0, zi 0, zi 0] 0 37, .dead, .dead, .rows (l113.map zab) 4 w114 41] (W.exit (show _ /\ _ from ⟨rfl, w114, rfl, rfl⟩))
 ·intro e0 s0 h0 hq
  rcases r170 with er170 | qr170
  ·obtain ⟨rfl, w169, rfl, rfl⟩ := hq
   replace hm := zcC hm
   show WK _ _ _ _ _ [(0, .str p0), (3, .ptr 0 0 0), (5, zM 3 w169 4 er170)] [.cells [zi 0, zi 0, zi 0] 0 37, .dead, .dead, .rows (er170.map zab) 4 w169 41]
   replace ⟨v231, h232, hm⟩ := zam hm
   have kh232 := zko h232
   refine W.sqh [] [(3, .ptr 0 0 0), (5, zM 3 w169 4 er170), (12, zi v231.1), (13, zi v231.2)] ?_
   replace ⟨h233, hm⟩ := zav hm
   replace ⟨l234, h235, hm⟩ := zaN hm
   refine W.sq [] [(2, .msl 3 (w169 + 1) 0 4 l234.length l234.length), (3, .ptr 0 0 0)] [.cells [zi 0, zi 0, zi 0] 0 37, .dead, .dead, .rows (l234.map zab) 4 (w169 + 1) 41] ?_
   clear h235
   obtain rfl := zo hm
   exact W.ret (zaI.retW [3] RO)
  ·obtain ⟨rfl, rfl, rfl⟩ := hq
   replace hm := zcB hm
   obtain rfl := zo hm
   exact zaI.retW [] RO
theorem zgl {p0 : ByteArray} {r : (List zad) × zao} (hm : zc0 p0 = some r) : zaL Tryz.prog 15 [.str p0] (.tuple [.sl (r.1.map zab), .agg [zi r.2.Code, zi r.2.Line, zi r.2.Col]]) := by
 rw [zc0] at hm
 refine zaL.of Tryz.func15 rfl Tryz.ntmps15 (Nat.le_of_ble_eq_true rfl) ?_
 have e0 : argS 0 [.str p0] = [(0, .str p0)] := rfl
 rw [e0]
 refine W.sq [] [(0, .str p0), (3, .ptr 0 0 0)] [.cells [zi 0, zi 0, zi 0] 0 37] ?_
 replace ⟨v1, h2, hm⟩ := zam hm
 have kh2 := zeF h2
 refine W.sqh [] [(0, .str p0), (3, .ptr 0 0 0), (4, .sl (v1.map zag))] ?_
 refine W.sqh [] [(0, .str p0), (3, .ptr 0 0 0), (4, .sl (v1.map zag)), (5, .nils)] ?_
 refine W.seq ?_
 refine W.sqh [] [(0, .str p0), (3, .ptr 0 0 0), (4, .sl (v1.map zag)), (5, .nils), (6, zi 0)] ?_
 refine W.block ?_
 replace ⟨r288, hlr288, hm⟩ := zam hm
 refine W.mono (Q := fun e0 s0 h0 => match r288 with | .inl e => e0 = .exit 0 /\ ∃ w : Nat, s0 = [(0, .str p0), (3, .ptr 0 0 0), (5, zM 2 w 4 e)] /\ h0 = [.cells [zi 0, zi 0, zi 0] 0 37, .dead, .rows (e.map zab) 4 w 41] | .inr q => e0 = .ret /\ s0 = [(2, .sl (q.1.map zab)), (3, .ptr 0 0 0)] /\ h0 = [.cells (zaH q.2) 0 37]) (W.loopM (step := zbi v1 p0) (a0 := (0, [])) (fun (a : Int × (List zad)) (v : Nat) => ([(0, .str p0), (3, .ptr 0 0 0), (4, .sl (v1.map zag)), (5, zM 2 v 4 a.2), (6, zi a.1)], [.cells [zi 0, zi 0, zi 0] 0 37, .dead, .rows (a.2.map zab) 4 v 41])) 0 hlr288 ⟨[], []⟩ RO ?_) ?_
 ·rintro ⟨i191, l192⟩ w193 x hm hx
  rw [zbi] at hm
  show WK _ _ _ _ _ [(0, .str p0), (3, .ptr 0 0 0), (4, .sl (v1.map zag)), (5, zM 2 w193 4 l192), (6, zi i191)] [.cells [zi 0, zi 0, zi 0] 0 37, .dead, .rows (l192.map zab) 4 w193 41]
  refine W.seq ?_
  refine W.sqh [] [(0, .str p0), (3, .ptr 0 0 0), (4, .sl (v1.map zag)), (5, zM 2 w193 4 l192), (6, zi i191), (20, .bool (decide (i191 < (v1.length : Int))))] ?_
  refine W.cnd (decide (i191 < (v1.length : Int))) (fun hb289 => ?_) fun hb289 => ?_
  ·replace hm := zal hb289 hm
   refine W.skip ?_
   refine W.block ?_
   replace ⟨h290, hm⟩ := zav hm
   refine W.sq [] [(0, .str p0), (3, .ptr 0 0 0), (4, .sl (v1.map zag)), (5, zM 2 w193 4 l192), (6, zi i191), (7, .ptr 3 0 0)] [.cells [zi 0, zi 0, zi 0] 0 37, .dead, .rows (l192.map zab) 4 w193 41, .cells (zag (rd v1 i191)) 0 73] ?_
   refine W.sqh [] [(0, .str p0), (3, .ptr 0 0 0), (4, .sl (v1.map zag)), (5, zM 2 w193 4 l192), (6, zi i191), (7, .ptr 3 0 0), (8, zi (zw (i191 + 1)))] ?_
   refine W.sqh [] [(0, .str p0), (3, .ptr 0 0 0), (4, .sl (v1.map zag)), (5, zM 2 w193 4 l192), (6, zi i191), (7, .ptr 3 0 0), (8, zi (zw (i191 + 1))), (9, zi 0)] ?_
   refine W.cut (fun s h => ∃ (v : Int × Int) (w : Unit) (F : Gs), zaV v1 p0 i191 l192 v.1 v.2 = some x /\ AT 0 F [(0, .str p0), (3, .ptr 0 0 0), (4, .sl (v1.map zag)), (5, zM 2 w193 4 l192), (6, zi i191), (7, .ptr 3 0 0), (8, zi v.1), (9, zi v.2)] [.cells [zi 0, zi 0, zi 0] 0 37, .dead, .rows (l192.map zab) 4 w193 41, .cells (zag (rd v1 i191)) 0 73] s h) ?_ ?_
   ·refine W.block ?_
    refine W.sq [] [(0, .str p0), (3, .ptr 0 0 0), (4, .sl (v1.map zag)), (5, zM 2 w193 4 l192), (6, zi i191), (7, .ptr 3 0 0), (8, zi (zw (i191 + 1))), (9, zi 0), (32, .bool (rd v1 i191).Bad)] [.cells [zi 0, zi 0, zi 0] 0 37, .dead, .rows (l192.map zab) 4 w193 41, .cells (zag (rd v1 i191)) 0 73] ?_
    refine W.cnd ((rd v1 i191).Bad) (fun hb310 => ?_) fun hb310 => ?_
    ·replace hm := zal hb310 hm
     refine W.sqJ [6] [] [] 0 [] [(2, .nils), (3, .ptr 0 0 0)] [.cells [zi 1, zi (rd v1 i191).Line, zi (rd v1 i191).Col] 0 37] zaC ?_
     obtain rfl := zo hm
     obtain rfl := hx _ rfl
     exact W.wk ⟨[], []⟩ [(2, .sl (([]).map zab)), (3, .ptr 0 0 0)] [.cells [zi 1, zi (rd v1 i191).Line, zi (rd v1 i191).Col] 0 37] (W.ret (show _ /\ _ from ⟨rfl, rfl, rfl⟩))
    ·replace hm := zak hb310 hm
     replace ⟨v311, h312, hm⟩ := zam hm
     have kh312 := zgA h312
     try simp only [hb289, hb310] at kh312
     refine W.sq [] [(0, .str p0), (3, .ptr 0 0 0), (4, .sl (v1.map zag)), (5, zM 2 w193 4 l192), (6, zi i191), (7, .ptr 3 0 0), (8, zi (zw (i191 + 1))), (9, zi 0), (40, .bool v311)] [.cells [zi 0, zi 0, zi 0] 0 37, .dead, .rows (l192.map zab) 4 w193 41, .cells (zag (rd v1 i191)) 0 73] ?_
     refine W.cnd v311 (fun hb313 => ?_) fun hb313 => ?_
     ·replace hm := zal hb313 hm
      refine W.skip ?_
      exact ⟨((zw (i191 + 1)), 0), (), ⟨[], []⟩, hm, RO⟩
     ·replace hm := zak hb313 hm
      refine W.sqh [] [(0, .str p0), (3, .ptr 0 0 0), (4, .sl (v1.map zag)), (5, zM 2 w193 4 l192), (6, zi i191), (7, .ptr 3 0 0), (8, zi (zw (i191 + 1))), (9, zi 0), (44, .bool ((rd v1 i191).Rune == 59))] ?_
      refine W.cnd ((rd v1 i191).Rune == 59) (fun hb314 => ?_) fun hb314 => ?_
      ·replace hm := zal hb314 hm
       refine W.block ?_
       replace ⟨r338, hlr338, hm⟩ := zam hm
       refine W.mono (Q := fun e0 s0 h0 => match r338 with | .inl e => e0 = .exit 3 /\ ∃ w : Unit, s0 = [(0, .str p0), (3, .ptr 0 0 0), (4, .sl (v1.map zag)), (5, zM 2 w193 4 l192), (6, zi i191), (7, .ptr 3 0 0), (8, zi e), (9, zi 0)] /\ h0 = [.cells [zi 0, zi 0, zi 0] 0 37, .dead, .rows (l192.map zab) 4 w193 41, .cells (zag (rd v1 i191)) 0 73] | .inr q => e0 = .ret /\ s0 = [(2, .sl (q.1.map zab)), (3, .ptr 0 0 0)] /\ h0 = [.cells (zaH q.2) 0 37]) (W.loopM (step := zb0 v1) (a0 := (zw (i191 + 1))) (fun (a : Int) (v : Unit) => ([(0, .str p0), (3, .ptr 0 0 0), (4, .sl (v1.map zag)), (5, zM 2 w193 4 l192), (6, zi i191), (7, .ptr 3 0 0), (8, zi a), (9, zi 0)], [.cells [zi 0, zi 0, zi 0] 0 37, .dead, .rows (l192.map zab) 4 w193 41, .cells (zag (rd v1 i191)) 0 73])) () hlr338 ⟨[], []⟩ RO ?_) ?_
       ·rintro i330 _ x hm hx
        rw [zb0] at hm
        show WK _ _ _ _ _ [(0, .str p0), (3, .ptr 0 0 0), (4, .sl (v1.map zag)), (5, zM 2 w193 4 l192), (6, zi i191), (7, .ptr 3 0 0), (8, zi i330), (9, zi 0)] [.cells [zi 0, zi 0, zi 0] 0 37, .dead, .rows (l192.map zab) 4 w193 41, .cells (zag (rd v1 i191)) 0 73]
        refine W.seq ?_
        replace ⟨h339, hm⟩ := zav hm
        refine W.sqh [] [(0, .str p0), (3, .ptr 0 0 0), (4, .sl (v1.map zag)), (5, zM 2 w193 4 l192), (6, zi i191), (7, .ptr 3 0 0), (8, zi i330), (9, zi 0), (59, .bool (decide (i330 < (v1.length : Int)) && ((rd v1 i330).Rune != 10)))] ?_
        refine W.cnd (decide (i330 < (v1.length : Int)) && ((rd v1 i330).Rune != 10)) (fun hb340 => ?_) fun hb340 => ?_
        ·replace hm := zal hb340 hm
         refine W.skip ?_
         refine W.block ?_
         refine W.seq ?_
         replace ⟨h341, hm⟩ := zav hm
         refine W.sq [] [(0, .str p0), (3, .ptr 0 0 0), (4, .sl (v1.map zag)), (5, zM 2 w193 4 l192), (6, zi i191), (7, .ptr 3 0 0), (8, zi i330), (9, zi 0), (64, .bool (rd v1 i330).Bad)] [.cells [zi 0, zi 0, zi 0] 0 37, .dead, .rows (l192.map zab) 4 w193 41, .cells (zag (rd v1 i191)) 0 73] ?_
         refine W.cnd ((rd v1 i330).Bad) (fun hb342 => ?_) fun hb342 => ?_
         ·replace hm := zal hb342 hm
          replace ⟨h343, hm⟩ := zav hm
          replace ⟨h344, hm⟩ := zav hm
          refine W.sqJ [12] [] [] 0 [] [(2, .nils), (3, .ptr 0 0 0)] [.cells [zi 1, zi (rd v1 i330).Line, zi (rd v1 i330).Col] 0 37] zaC ?_
          obtain rfl := zo hm
          obtain rfl := hx _ rfl
          exact W.wk ⟨[], []⟩ [(2, .sl (([]).map zab)), (3, .ptr 0 0 0)] [.cells [zi 1, zi (rd v1 i330).Line, zi (rd v1 i330).Col] 0 37] (W.ret (show _ /\ _ from ⟨rfl, rfl, rfl⟩))
         ·replace hm := zak hb342 hm
          refine W.skip ?_
          refine W.rg [] [(0, .str p0), (3, .ptr 0 0 0), (4, .sl (v1.map zag)), (5, zM 2 w193 4 l192), (6, zi i191), (7, .ptr 3 0 0), (8, zi (zw (i330 + 1))), (9, zi 0)] [.cells [zi 0, zi 0, zi 0] 0 37, .dead, .rows (l192.map zab) 4 w193 41, .cells (zag (rd v1 i191)) 0 73] ?_
          obtain rfl := zo hm
          exact ⟨(zw (i330 + 1)), (), ⟨[], []⟩, rfl, RO⟩
        ·replace hm := zak hb340 hm
         obtain rfl := zo hm
         obtain rfl := hx _ rfl
         exact W.wk ⟨[], []⟩ [(0, .str p0), (3, .ptr 0 0 0), (4, .sl (v1.map zag)), (5, zM 2 w193 4 l192), (6, zi i191), (7, .ptr 3 0 0), (8, zi i330), (9, zi 0)] [.cells [zi 0, zi 0, zi 0] 0 37, .dead, .rows (l192.map zab) 4 w193 41, .cells (zag (rd v1 i191)) 0 73] (W.exit (show _ /\ _ from ⟨rfl, (), rfl, rfl⟩))
       ·intro e0 s0 h0 hq
        rcases r338 with er338 | qr338
        ·obtain ⟨rfl, _, rfl, rfl⟩ := hq
         replace hm := zcC hm
         exact ⟨(er338, 0), (), ⟨[], []⟩, hm, RO⟩
        ·obtain ⟨rfl, rfl, rfl⟩ := hq
         replace hm := zcB hm
         obtain rfl := zo hm
         obtain rfl := hx _ rfl
         first | exact (show _ /\ _ from ⟨rfl, rfl, rfl⟩) | exact ⟨trivial, rfl, rfl⟩
      ·replace hm := zak hb314 hm
       refine W.sq [] [(0, .str p0), (3, .ptr 0 0 0), (4, .sl (v1.map zag)), (5, zM 2 w193 4 l192), (6, zi i191), (7, .ptr 3 0 0), (8, zi (zw (i191 + 1))), (78, .bool ((rd v1 i191).Rune == 10))] [.cells [zi 0, zi 0, zi 0] 0 37, .dead, .rows (l192.map zab) 4 w193 41, .cells (zag (rd v1 i191)) 0 73] ?_
       refine W.cnd ((rd v1 i191).Rune == 10) (fun hb345 => ?_) fun hb345 => ?_
       ·replace hm := zal hb345 hm
        refine W.rg [] [(0, .str p0), (3, .ptr 0 0 0), (4, .sl (v1.map zag)), (5, zM 2 w193 4 l192), (6, zi i191), (7, .ptr 3 0 0), (8, zi (zw (i191 + 1))), (9, zi 4)] [.cells [zi 0, zi 0, zi 0] 0 37, .dead, .rows (l192.map zab) 4 w193 41, .cells (zag (rd v1 i191)) 0 73] ?_
        exact ⟨((zw (i191 + 1)), 4), (), ⟨[], []⟩, hm, RO⟩
       ·replace hm := zak hb345 hm
        replace ⟨b346, h347, hm⟩ := zaN hm
        refine W.sq [] [(0, .str p0), (3, .ptr 0 0 0), (4, .sl (v1.map zag)), (5, zM 2 w193 4 l192), (6, zi i191), (7, .ptr 3 0 0), (8, zi (zw (i191 + 1))), (82, .bool b346)] [.cells [zi 0, zi 0, zi 0] 0 37, .dead, .rows (l192.map zab) 4 w193 41, .cells (zag (rd v1 i191)) 0 73] ?_
        clear h347
        refine W.cnd b346 (fun hb348 => ?_) fun hb348 => ?_
        ·replace hm := zal hb348 hm
         refine W.rg [] [(0, .str p0), (3, .ptr 0 0 0), (4, .sl (v1.map zag)), (5, zM 2 w193 4 l192), (6, zi i191), (7, .ptr 3 0 0), (8, zi (zw (i191 + 1))), (9, zi 3)] [.cells [zi 0, zi 0, zi 0] 0 37, .dead, .rows (l192.map zab) 4 w193 41, .cells (zag (rd v1 i191)) 0 73] ?_
         exact ⟨((zw (i191 + 1)), 3), (), ⟨[], []⟩, hm, RO⟩
        ·replace hm := zak hb348 hm
         replace ⟨v349, h350, hm⟩ := zam hm
         replace ⟨v351, h352, hm⟩ := zam hm
         have kh350 := zdB h350
         try simp only [hb289, hb310, hb313, hb314, hb345, hb348] at kh350
         have kh352 := fun hg => zeH (zal hg h352)
         try simp only [hb289, hb310, hb313, hb314, hb345, hb348] at kh352
         refine W.sq [] [(0, .str p0), (3, .ptr 0 0 0), (4, .sl (v1.map zag)), (5, zM 2 w193 4 l192), (6, zi i191), (7, .ptr 3 0 0), (8, zi (zw (i191 + 1))), (101, .bool ((v349 || v351) || ((rd v1 i191).Rune == 45)))] [.cells [zi 0, zi 0, zi 0] 0 37, .dead, .rows (l192.map zab) 4 w193 41, .cells (zag (rd v1 i191)) 0 73] ?_
         refine W.cnd ((v349 || v351) || ((rd v1 i191).Rune == 45)) (fun hb353 => ?_) fun hb353 => ?_
         ·replace hm := zal hb353 hm
          refine W.seq ?_
          refine W.block ?_
          replace ⟨r383, hlr383, hm⟩ := zam hm
          refine W.mono (Q := fun e0 s0 h0 => e0 = .exit 5 /\ ∃ w : Unit, s0 = [(0, .str p0), (3, .ptr 0 0 0), (4, .sl (v1.map zag)), (5, zM 2 w193 4 l192), (6, zi i191), (7, .ptr 3 0 0), (8, zi r383)] /\ h0 = [.cells [zi 0, zi 0, zi 0] 0 37, .dead, .rows (l192.map zab) 4 w193 41, .cells (zag (rd v1 i191)) 0 73]) (W.loopM (step := zbZ v1) (a0 := (zw (i191 + 1))) (fun (a : Int) (v : Unit) => ([(0, .str p0), (3, .ptr 0 0 0), (4, .sl (v1.map zag)), (5, zM 2 w193 4 l192), (6, zi i191), (7, .ptr 3 0 0), (8, zi a)], [.cells [zi 0, zi 0, zi 0] 0 37, .dead, .rows (l192.map zab) 4 w193 41, .cells (zag (rd v1 i191)) 0 73])) () hlr383 ⟨[], []⟩ RO ?_) ?_
          ·rintro i373 _ x hm hx
           rw [zbZ] at hm
           show WK _ _ _ _ _ [(0, .str p0), (3, .ptr 0 0 0), (4, .sl (v1.map zag)), (5, zM 2 w193 4 l192), (6, zi i191), (7, .ptr 3 0 0), (8, zi i373)] [.cells [zi 0, zi 0, zi 0] 0 37, .dead, .rows (l192.map zab) 4 w193 41, .cells (zag (rd v1 i191)) 0 73]
           refine W.seq ?_
           replace ⟨h384, hm⟩ := zav hm
           replace ⟨h385, hm⟩ := zav hm
           replace ⟨v386, h387, hm⟩ := zam hm
           replace ⟨h388, hm⟩ := zav hm
           replace ⟨v389, h390, hm⟩ := zam hm
           have kh387 := fun hg => zdB (zal hg h387)
           try simp only [hb289, hb310, hb313, hb314, hb345, hb348, hb353] at kh387
           have kh390 := fun hg => zeH (zal hg h390)
           try simp only [hb289, hb310, hb313, hb314, hb345, hb348, hb353] at kh390
           refine W.sqh [] [(0, .str p0), (3, .ptr 0 0 0), (4, .sl (v1.map zag)), (5, zM 2 w193 4 l192), (6, zi i191), (7, .ptr 3 0 0), (8, zi i373), (142, .bool ((decide (i373 < (v1.length : Int)) && (!(rd v1 i373).Bad)) && (v386 || v389)))] ?_
           refine W.cnd ((decide (i373 < (v1.length : Int)) && (!(rd v1 i373).Bad)) && (v386 || v389)) (fun hb391 => ?_) fun hb391 => ?_
           ·replace hm := zal hb391 hm
            refine W.skip ?_
            refine W.block ?_
            refine W.rg [] [(0, .str p0), (3, .ptr 0 0 0), (4, .sl (v1.map zag)), (5, zM 2 w193 4 l192), (6, zi i191), (7, .ptr 3 0 0), (8, zi (zw (i373 + 1)))] [.cells [zi 0, zi 0, zi 0] 0 37, .dead, .rows (l192.map zab) 4 w193 41, .cells (zag (rd v1 i191)) 0 73] ?_
            obtain rfl := zo hm
            exact ⟨(zw (i373 + 1)), (), ⟨[], []⟩, rfl, RO⟩
           ·replace hm := zak hb391 hm
            obtain rfl := zo hm
            obtain rfl := hx _ rfl
            exact W.wk ⟨[], []⟩ [(0, .str p0), (3, .ptr 0 0 0), (4, .sl (v1.map zag)), (5, zM 2 w193 4 l192), (6, zi i191), (7, .ptr 3 0 0), (8, zi i373)] [.cells [zi 0, zi 0, zi 0] 0 37, .dead, .rows (l192.map zab) 4 w193 41, .cells (zag (rd v1 i191)) 0 73] (W.exit (show _ /\ _ from ⟨rfl, (), rfl, rfl⟩))
          ·rintro e0 s0 h0 ⟨rfl, _, rfl, rfl⟩
           show WK _ _ _ _ _ [(0, .str p0), (3, .ptr 0 0 0), (4, .sl (v1.map zag)), (5, zM 2 w193 4 l192), (6, zi i191), (7, .ptr 3 0 0), (8, zi r383)] [.cells [zi 0, zi 0, zi 0] 0 37, .dead, .rows (l192.map zab) 4 w193 41, .cells (zag (rd v1 i191)) 0 73]
           refine W.sqh [] [(0, .str p0), (3, .ptr 0 0 0), (4, .sl (v1.map zag)), (5, zM 2 w193 4 l192), (6, zi i191), (7, .ptr 3 0 0), (8, zi r383), (9, zi 2)] ?_
           replace ⟨v392, h393, hm⟩ := zam hm
           have kh393 := zdB h393
           try simp only [hb289, hb310, hb313, hb314, hb345, hb348, hb353] at kh393
           refine W.sqh [] [(0, .str p0), (3, .ptr 0 0 0), (4, .sl (v1.map zag)), (5, zM 2 w193 4 l192), (6, zi i191), (7, .ptr 3 0 0), (8, zi r383), (9, zi 2), (147, .bool v392)] ?_
           refine W.cnd v392 (fun hb394 => ?_) fun hb394 => ?_
           ·replace hm := zal hb394 hm
            refine W.rg [] [(0, .str p0), (3, .ptr 0 0 0), (4, .sl (v1.map zag)), (5, zM 2 w193 4 l192), (6, zi i191), (7, .ptr 3 0 0), (8, zi r383), (9, zi 1)] [.cells [zi 0, zi 0, zi 0] 0 37, .dead, .rows (l192.map zab) 4 w193 41, .cells (zag (rd v1 i191)) 0 73] ?_
            exact ⟨(r383, 1), (), ⟨[], []⟩, hm, RO⟩
           ·replace hm := zak hb394 hm
            refine W.skip ?_
            exact ⟨(r383, 2), (), ⟨[], []⟩, hm, RO⟩
         ·replace hm := zak hb353 hm
          refine W.sqJ [6] [] [] 0 [] [(2, .nils), (3, .ptr 0 0 0)] [.cells [zi 1, zi (rd v1 i191).Line, zi (rd v1 i191).Col] 0 37] zaC ?_
          obtain rfl := zo hm
          obtain rfl := hx _ rfl
          exact W.wk ⟨[], []⟩ [(2, .sl (([]).map zab)), (3, .ptr 0 0 0)] [.cells [zi 1, zi (rd v1 i191).Line, zi (rd v1 i191).Col] 0 37] (W.ret (show _ /\ _ from ⟨rfl, rfl, rfl⟩))
   ·rintro s h ⟨⟨i291, i292⟩, _, F, hm, hat⟩
    refine W.weak F hat ?_
    show WK _ _ _ _ _ [(0, .str p0), (3, .ptr 0 0 0), (4, .sl (v1.map zag)), (5, zM 2 w193 4 l192), (6, zi i191), (7, .ptr 3 0 0), (8, zi i291), (9, zi i292)] [.cells [zi 0, zi 0, zi 0] 0 37, .dead, .rows (l192.map zab) 4 w193 41, .cells (zag (rd v1 i191)) 0 73]
    rw [zaV] at hm
    replace ⟨h293, hm⟩ := zav hm
    replace ⟨h294, hm⟩ := zav hm
    replace ⟨h295, hm⟩ := zav hm
    replace ⟨h296, hm⟩ := zav hm
    replace ⟨s297, h298, hm⟩ := zaN hm
    refine W.sqJ [] [] [] 0 [] [(0, .str p0), (3, .ptr 0 0 0), (4, .sl (v1.map zag)), (5, zM 2 w193 4 l192), (6, zi i191), (7, .ptr 3 0 0), (8, zi i291), (9, zi i292), (10, .str s297)] [.cells [zi 0, zi 0, zi 0] 0 37, .dead, .rows (l192.map zab) 4 w193 41, .cells (zag (rd v1 i191)) 0 73] zaC ?_
    clear h298
    refine W.seq ?_
    refine W.sq [] [(0, .str p0), (3, .ptr 0 0 0), (4, .sl (v1.map zag)), (5, zM 2 w193 4 l192), (7, .ptr 3 0 0), (8, zi i291), (9, zi i292), (10, .str s297), (172, .bool ((i292 == 1) && decide ((zw (i291 - i191)) > 16)))] [.cells [zi 0, zi 0, zi 0] 0 37, .dead, .rows (l192.map zab) 4 w193 41, .cells (zag (rd v1 i191)) 0 73] ?_
    refine W.cnd ((i292 == 1) && decide ((zw (i291 - i191)) > 16)) (fun hb299 => ?_) fun hb299 => ?_
    ·replace hm := zal hb299 hm
     refine W.sqJ [6] [] [] 0 [] [(2, .nils), (3, .ptr 0 0 0)] [.cells [zi 3, zi (rd v1 i191).Line, zi (rd v1 i191).Col] 0 37] zaC ?_
     obtain rfl := zo hm
     obtain rfl := hx _ rfl
     exact W.wk ⟨[], []⟩ [(2, .sl (([]).map zab)), (3, .ptr 0 0 0)] [.cells [zi 3, zi (rd v1 i191).Line, zi (rd v1 i191).Col] 0 37] (W.ret (show _ /\ _ from ⟨rfl, rfl, rfl⟩))
    ·replace hm := zak hb299 hm
     refine W.skip ?_
     refine W.cut (fun s h => ∃ (v : Unit) (w : Unit) (F : Gs), zbw i292 l192 v1 i191 s297 i291 = some x /\ AT 0 F [(0, .str p0), (3, .ptr 0 0 0), (4, .sl (v1.map zag)), (5, zM 2 w193 4 l192), (7, .ptr 3 0 0), (8, zi i291), (9, zi i292), (10, .str s297)] [.cells [zi 0, zi 0, zi 0] 0 37, .dead, .rows (l192.map zab) 4 w193 41, .cells (zag (rd v1 i191)) 0 73] s h) ?_ ?_
     ·refine W.sq [] [(0, .str p0), (3, .ptr 0 0 0), (4, .sl (v1.map zag)), (5, zM 2 w193 4 l192), (7, .ptr 3 0 0), (8, zi i291), (9, zi i292), (10, .str s297), (179, .bool (i292 == 2))] [.cells [zi 0, zi 0, zi 0] 0 37, .dead, .rows (l192.map zab) 4 w193 41, .cells (zag (rd v1 i191)) 0 73] ?_
      refine W.cnd (i292 == 2) (fun hb306 => ?_) fun hb306 => ?_
      ·replace hm := zal hb306 hm
       replace ⟨v307, h308, hm⟩ := zam hm
       have kh308 := zcP h308
       try simp only [hb289, hb299, hb306] at kh308
       refine W.sq [] [(0, .str p0), (3, .ptr 0 0 0), (4, .sl (v1.map zag)), (5, zM 2 w193 4 l192), (7, .ptr 3 0 0), (8, zi i291), (9, zi i292), (10, .str s297), (12, .bool v307.2)] [.cells [zi 0, zi 0, zi 0] 0 37, .dead, .rows (l192.map zab) 4 w193 41, .cells (zag (rd v1 i191)) 0 73] ?_
       refine W.sqh [] [(0, .str p0), (3, .ptr 0 0 0), (4, .sl (v1.map zag)), (5, zM 2 w193 4 l192), (7, .ptr 3 0 0), (8, zi i291), (9, zi i292), (10, .str s297), (186, .bool (!v307.2))] ?_
       refine W.cnd (!v307.2) (fun hb309 => ?_) fun hb309 => ?_
       ·replace hm := zal hb309 hm
        refine W.sqJ [6] [] [] 0 [] [(2, .nils), (3, .ptr 0 0 0)] [.cells [zi 2, zi (rd v1 i191).Line, zi (rd v1 i191).Col] 0 37] zaC ?_
        obtain rfl := zo hm
        obtain rfl := hx _ rfl
        exact W.wk ⟨[], []⟩ [(2, .sl (([]).map zab)), (3, .ptr 0 0 0)] [.cells [zi 2, zi (rd v1 i191).Line, zi (rd v1 i191).Col] 0 37] (W.ret (show _ /\ _ from ⟨rfl, rfl, rfl⟩))
       ·replace hm := zak hb309 hm
        refine W.skip ?_
        exact ⟨(), (), ⟨[], []⟩, hm, RO⟩
      ·replace hm := zak hb306 hm
       refine W.skip ?_
       exact ⟨(), (), ⟨[], []⟩, hm, RO⟩
     ·rintro s h ⟨_, _, F, hm, hat⟩
      refine W.weak F hat ?_
      show WK _ _ _ _ _ [(0, .str p0), (3, .ptr 0 0 0), (4, .sl (v1.map zag)), (5, zM 2 w193 4 l192), (7, .ptr 3 0 0), (8, zi i291), (9, zi i292), (10, .str s297)] [.cells [zi 0, zi 0, zi 0] 0 37, .dead, .rows (l192.map zab) 4 w193 41, .cells (zag (rd v1 i191)) 0 73]
      rw [zbw] at hm
      refine W.cut (fun s h => ∃ (v : (List zad)) (w : Nat) (F : Gs), zcV i291 v = some x /\ AT 0 F [(0, .str p0), (3, .ptr 0 0 0), (4, .sl (v1.map zag)), (5, zM 2 w 4 v), (8, zi i291)] [.cells [zi 0, zi 0, zi 0] 0 37, .dead, .rows (v.map zab) 4 w 41] s h) ?_ ?_
      ·refine W.sq [] [(0, .str p0), (3, .ptr 0 0 0), (4, .sl (v1.map zag)), (5, zM 2 w193 4 l192), (7, .ptr 3 0 0), (8, zi i291), (9, zi i292), (10, .str s297), (193, .bool (i292 != 0))] [.cells [zi 0, zi 0, zi 0] 0 37, .dead, .rows (l192.map zab) 4 w193 41, .cells (zag (rd v1 i191)) 0 73] ?_
       refine W.cnd (i292 != 0) (fun hb302 => ?_) fun hb302 => ?_
       ·replace hm := zal hb302 hm
        replace ⟨h303, hm⟩ := zav hm
        replace ⟨l304, h305, hm⟩ := zaN hm
        refine W.rg [] [(0, .str p0), (3, .ptr 0 0 0), (4, .sl (v1.map zag)), (5, .msl 2 (w193 + 1) 0 4 l304.length l304.length), (8, zi i291)] [.cells [zi 0, zi 0, zi 0] 0 37, .dead, .rows (l304.map zab) 4 (w193 + 1) 41] ?_
        clear h305
        exact ⟨l304, (w193 + 1), ⟨[], []⟩, hm, RO⟩
       ·replace hm := zak hb302 hm
        refine W.skip ?_
        exact ⟨l192, w193, ⟨[], []⟩, hm, RO⟩
      ·rintro s h ⟨l300, w301, F, hm, hat⟩
       refine W.weak F hat ?_
       show WK _ _ _ _ _ [(0, .str p0), (3, .ptr 0 0 0), (4, .sl (v1.map zag)), (5, zM 2 w301 4 l300), (8, zi i291)] [.cells [zi 0, zi 0, zi 0] 0 37, .dead, .rows (l300.map zab) 4 w301 41]
       rw [zcV] at hm
       refine W.rg [] [(0, .str p0), (3, .ptr 0 0 0), (4, .sl (v1.map zag)), (5, zM 2 w301 4 l300), (6, zi i291)] [.cells [zi 0, zi 0, zi 0] 0 37, .dead, .rows (l300.map zab) 4 w301 41] ?_
       obtain rfl := zo hm
       exact ⟨(i291, l300), w301, ⟨[], []⟩, rfl, RO⟩
  ·replace hm := zak hb289 hm
   obtain rfl := zo hm
   obtain rfl := hx _ rfl
   exact W.wk ⟨[], []⟩ [(0, .str p0), (3, .ptr 0 0 0), (5, zM 2 w193 4 l192)] [.cells [zi 0, zi 0, zi 0] 0 37, .dead, .rows (l192.map zab) 4 w193 41] (W.exit (show _ /\ _ from ⟨rfl, w193, rfl, rfl⟩))
 ·intro e0 s0 h0 hq
  rcases r288 with er288 | qr288
  ·obtain ⟨rfl, w287, rfl, rfl⟩ := hq
   replace hm := zcC hm
   show WK _ _ _ _ _ [(0, .str p0), (3, .ptr 0 0 0), (5, zM 2 w287 4 er288)] [.cells [zi 0, zi 0, zi 0] 0 37, .dead, .rows (er288.map zab) 4 w287 41]
   replace ⟨v395, h396, hm⟩ := zam hm
   have kh396 := zhc h396
   refine W.sqh [] [(3, .ptr 0 0 0), (5, zM 2 w287 4 er288), (13, zi v395.1), (14, zi v395.2)] ?_
   replace ⟨h397, hm⟩ := zav hm
   replace ⟨l398, h399, hm⟩ := zaN hm
   refine W.sq [] [(2, .msl 2 (w287 + 1) 0 4 l398.length l398.length), (3, .ptr 0 0 0)] [.cells [zi 0, zi 0, zi 0] 0 37, .dead, .rows (l398.map zab) 4 (w287 + 1) 41] ?_
   clear h399
   obtain rfl := zo hm
   exact W.ret (zaI.retW [2] RO)
  ·obtain ⟨rfl, rfl, rfl⟩ := hq
   replace hm := zcB hm
   obtain rfl := zo hm
   exact zaI.retW [] RO
end Go.Proofs.YtocjejladeeckaaGreatDoor
