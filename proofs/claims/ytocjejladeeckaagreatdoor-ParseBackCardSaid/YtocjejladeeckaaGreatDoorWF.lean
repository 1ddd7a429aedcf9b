import Derived.Test.YtocjejladeeckaaGreatDoorVFacts
import Derived.Test.YtocjejladeeckaaGreatDoorVu3
import Derived.Test.YtocjejladeeckaaGreatDoorPalF
import Derived.Test.YtocjejladeeckaaGreatDoorWA
import Derived.Test.YtocjejladeeckaaGreatDoorWUtf
set_option linter.all false
set_option maxRecDepth 100000
set_option maxHeartbeats 4000000
namespace Go.Proofs.YtocjejladeeckaaGreatDoor
open Go.Vs
variable [TabU]
theorem za1{p0:Int}{r:zal}(hm:zaL p0=some r):zaG Tryz.prog 46 [zi p0] (.agg [zi r.Kind,zi r.Reg,zi r.Sym,zi r.N]):=by
 rw [zaL] at hm
 refine zaG.of Tryz.func46 rfl Tryz.ntmps46 (Nat.le_of_ble_eq_true rfl) ?_
 refine W.sa 1 [0,2] ?_
 replace ⟨v1,h2,hm⟩:=zaf hm
 have kh2:=zbx h2
 refine W.sa 1 [2] ?_
 cases hm
 exact W.rt
theorem zbJ{p0:Int}{p1:Int}{r:zal}(hm:za6 p0 p1=some r):zaG Tryz.prog 47 [zi p0,zi p1] (.agg [zi r.Kind,zi r.Reg,zi r.Sym,zi r.N]):=by
 rw [za6] at hm
 refine zaG.of Tryz.func47 rfl Tryz.ntmps47 (Nat.le_of_ble_eq_true rfl) ?_
 refine W.sa 1 [0,1,4] ?_
 refine W.seq ?_
 replace ⟨v1,h2,hm⟩:=zaf hm
 have kh2:=zbx h2
 refine W.sa 1 [0,1,4,7] ?_
 refine W.cn hm ?_ ?_ <;> clear hm <;> intro hb3 hm
 ·replace ⟨v4,h5,hm⟩:=zaf hm
  have kh5:=za1 h5
  try simp only [hb3] at kh5
  refine W.sa 1 [4] ?_
  cases hm
  exact W.rt
 ·refine W.skip (W.sa 1 [4] ?_)
  cases hm
  exact W.rt
theorem za8{p0:Int}{r:zal}(hm:zaS p0=some r):zaG Tryz.prog 48 [zi p0] (.agg [zi r.Kind,zi r.Reg,zi r.Sym,zi r.N]):=by
 rw [zaS] at hm
 refine zaG.of Tryz.func48 rfl Tryz.ntmps48 (Nat.le_of_ble_eq_true rfl) ?_
 refine W.sa 1 [0,2] ?_
 replace ⟨v1,h2,hm⟩:=zaf hm
 have kh2:=zbx h2
 refine W.sa 1 [0,2] ?_
 replace ⟨l3,h4,hm⟩:=zaQ hm
 refine W.sq [] [(0,zi v1),(2,.ptr 0 0 0),(3,.sl (l3.map (eInt .i64)))] [.cells [zi 0,zi 0,zi 0,zi 0] 0 61] ?_
 clear h4
 refine W.seq (W.sa 1 [0,2,3,9] ?_)
 refine W.cn hm ?_ ?_ <;> clear hm <;> intro hb5 hm
 ·refine W.sa 1 [2] ?_
  cases hm
  exact W.rt
 ·refine W.skip ?_
  replace ⟨h6,hm⟩:=zas hm
  replace ⟨h7,hm⟩:=zas hm
  replace ⟨n8,h9,hm⟩:=zaQ hm
  refine W.sq [] [(2,.ptr 0 0 0)] [.cells [zi 3,zi 0,zi (Int.tmod (zw (Int.tdiv v1 5)) 3),zi n8] 0 61] ?_
  clear h9
  cases hm
  exact W.rt
theorem zdI{p0:Int}{r:ByteArray}(hm:zbo p0=some r):zaG Tryz.prog 24 [zi p0] (.str r):=by
 rw [zbo] at hm
 refine zaG.of Tryz.func24 rfl Tryz.ntmps24 (Nat.le_of_ble_eq_true rfl) ?_
 refine W.sa 0 [0] ?_
 replace ⟨h1,hm⟩:=zas hm
 replace ⟨s2,h3,hm⟩:=zaQ hm
 refine W.sq [] [(2,.str s2)] [] ?_
 clear h3
 cases hm
 exact W.rt
theorem ziV{p0:zay}{p1:Int}{r:zae}(hm:zcR p0 p1=some r):zaG Tryz.prog 23 [.agg [zi p0.Kind,zi p0.A,zi p0.B,zi p0.C,zi p0.N],zi p1] (.agg [zi r.Op,.bool r.Lock,zi r.Cond,zi r.A.Kind,zi r.A.Reg,zi r.A.Sym,zi r.A.N,zi r.B.Kind,zi r.B.Reg,zi r.B.Sym,zi r.B.N,.str r.To,.sl (r.zLb.map eStr)]):=by
 rw [zcR] at hm
 refine zaG.of Tryz.func23 rfl Tryz.ntmps23 (Nat.le_of_ble_eq_true rfl) ?_
 refine W.sa 2 [1,2,4] ?_
 replace ⟨v1,h2,hm⟩:=zaf hm
 have kh2:=zbx h2
 refine W.sa 2 [1,2,4,5] ?_
 refine W.cut (fun s h=>∃(v:Unit) (w:Unit) (F:Gs),zdv=some r/\AT 0 F [(4,.ptr 1 0 0)] [.dead,.cells [zi 0,.bool false,zi 0,zi 0,zi 0,zi 0,zi 0,zi 0,zi 0,zi 0,zi 0,.str (⟨#[]⟩:ByteArray),.nils] 0 63] s h) ?_ ?_
 ·replace ⟨v3,h4,hm⟩:=zaf hm
  have kh4:=zbx h4
  refine W.sa 2 [1,2,4,5,12] ?_
  refine W.block (W.sa 2 [1,2,4,5,12,13] ?_)
  refine W.cn hm ?_ ?_ <;> clear hm <;> intro hb5 hm
  ·replace ⟨v6,h7,hm⟩:=zaf hm
   replace ⟨v8,h9,hm⟩:=zaf hm
   have kh7:=za1 h7
   try simp only [hb5] at kh7
   have kh9:=zbJ h9
   try simp only [hb5] at kh9
   refine W.saJ [9] [] [] 0 2 [4] zaH ?_
   cases hm
   exact W.rt
  ·refine W.cut (fun s h=>∃(v:Bool) (w:Unit) (F:Gs),zbr p0 v3 v1 p1 v=some r/\AT 0 F [(1,zi p1),(2,.ptr 0 0 0),(4,.ptr 1 0 0),(5,zi (zw (2+v1))),(12,zi v3),(24,.bool v)] [.cells (zap p0) 0 68,.cells [zi 0,.bool false,zi 0,zi 0,zi 0,zi 0,zi 0,zi 0,zi 0,zi 0,zi 0,.str (⟨#[]⟩:ByteArray),.nils] 0 63] s h) ?_ ?_
   ·refine W.sa 2 [1,2,4,5,12,24] ?_
    refine W.cn hm ?_ ?_ <;> clear hm <;> intro hb85 hm
    ·refine W.skip ?_
     exact ⟨(v3==1),(),⟨[],[]⟩,hm,RO⟩
    ·refine W.sa 2 [1,2,4,5,12,24] ?_
     refine W.cn hm ?_ ?_ <;> clear hm <;> intro hb86 hm
     ·refine W.skip ?_
      exact ⟨(v3==16),(),⟨[],[]⟩,hm,RO⟩
     ·refine W.rg [] [(1,zi p1),(2,.ptr 0 0 0),(4,.ptr 1 0 0),(5,zi (zw (2+v1))),(12,zi v3),(24,.bool (v3==17))] [.cells (zap p0) 0 68,.cells [zi 0,.bool false,zi 0,zi 0,zi 0,zi 0,zi 0,zi 0,zi 0,zi 0,zi 0,.str (⟨#[]⟩:ByteArray),.nils] 0 63] ?_
      exact ⟨(v3==17),(),⟨[],[]⟩,hm,RO⟩
   ·rintro s h ⟨b10,_,F,hm,hat⟩
    refine W.weak F hat ?_
    show WK _ _ _ _ _ [(1,zi p1),(2,.ptr 0 0 0),(4,.ptr 1 0 0),(5,zi (zw (2+v1))),(12,zi v3),(24,.bool b10)] [.cells (zap p0) 0 68,.cells [zi 0,.bool false,zi 0,zi 0,zi 0,zi 0,zi 0,zi 0,zi 0,zi 0,zi 0,.str (⟨#[]⟩:ByteArray),.nils] 0 63]
    rw [zbr] at hm
    refine W.cn hm ?_ ?_ <;> clear hm <;> intro hb11 hm
    ·replace ⟨v12,h13,hm⟩:=zaf hm
     replace ⟨v14,h15,hm⟩:=zaf hm
     have kh13:=za1 h13
     try simp only [hb5,hb11] at kh13
     have kh15:=za8 h15
     try simp only [hb5,hb11] at kh15
     refine W.saJ [7] [] [] 0 2 [4] zaH ?_
     cases hm
     exact W.rt
    ·refine W.cut (fun s h=>∃(v:Bool) (w:Unit) (F:Gs),zbf p0 v3 v1 p1 v=some r/\AT 0 F [(1,zi p1),(2,.ptr 0 0 0),(4,.ptr 1 0 0),(5,zi (zw (2+v1))),(12,zi v3),(35,.bool v)] [.cells (zap p0) 0 68,.cells [zi 0,.bool false,zi 0,zi 0,zi 0,zi 0,zi 0,zi 0,zi 0,zi 0,zi 0,.str (⟨#[]⟩:ByteArray),.nils] 0 63] s h) ?_ ?_
     ·refine W.sa 2 [1,2,4,5,12,35] ?_
      refine W.cn hm ?_ ?_ <;> clear hm <;> intro hb82 hm
      ·refine W.skip ?_
       exact ⟨(v3==2),(),⟨[],[]⟩,hm,RO⟩
      ·refine W.sa 2 [1,2,4,5,12,35] ?_
       refine W.cn hm ?_ ?_ <;> clear hm <;> intro hb83 hm
       ·refine W.skip ?_
        exact ⟨(v3==18),(),⟨[],[]⟩,hm,RO⟩
       ·refine W.sa 2 [1,2,4,5,12,35] ?_
        refine W.cn hm ?_ ?_ <;> clear hm <;> intro hb84 hm
        ·refine W.skip ?_
         exact ⟨(v3==19),(),⟨[],[]⟩,hm,RO⟩
        ·refine W.rg [] [(1,zi p1),(2,.ptr 0 0 0),(4,.ptr 1 0 0),(5,zi (zw (2+v1))),(12,zi v3),(35,.bool (v3==20))] [.cells (zap p0) 0 68,.cells [zi 0,.bool false,zi 0,zi 0,zi 0,zi 0,zi 0,zi 0,zi 0,zi 0,zi 0,.str (⟨#[]⟩:ByteArray),.nils] 0 63] ?_
         exact ⟨(v3==20),(),⟨[],[]⟩,hm,RO⟩
     ·rintro s h ⟨b16,_,F,hm,hat⟩
      refine W.weak F hat ?_
      show WK _ _ _ _ _ [(1,zi p1),(2,.ptr 0 0 0),(4,.ptr 1 0 0),(5,zi (zw (2+v1))),(12,zi v3),(35,.bool b16)] [.cells (zap p0) 0 68,.cells [zi 0,.bool false,zi 0,zi 0,zi 0,zi 0,zi 0,zi 0,zi 0,zi 0,zi 0,.str (⟨#[]⟩:ByteArray),.nils] 0 63]
      rw [zbf] at hm
      refine W.cn hm ?_ ?_ <;> clear hm <;> intro hb17 hm
      ·replace ⟨v18,h19,hm⟩:=zaf hm
       replace ⟨v20,h21,hm⟩:=zaf hm
       have kh19:=za8 h19
       try simp only [hb5,hb11,hb17] at kh19
       have kh21:=zbJ h21
       try simp only [hb5,hb11,hb17] at kh21
       refine W.saJ [9] [] [] 0 2 [4] zaH ?_
       cases hm
       exact W.rt
      ·refine W.sa 2 [1,2,4,5,12,49] ?_
       refine W.cn hm ?_ ?_ <;> clear hm <;> intro hb22 hm
       ·replace ⟨v23,h24,hm⟩:=zaf hm
        replace ⟨v25,h26,hm⟩:=zaf hm
        have kh24:=za1 h24
        try simp only [hb5,hb11,hb17,hb22] at kh24
        have kh26:=zbJ h26
        try simp only [hb5,hb11,hb17,hb22] at kh26
        refine W.saJ [10] [] [] 0 2 [4] zaH ?_
        cases hm
        exact W.rt
       ·refine W.sa 2 [1,2,4,5,12,61] ?_
        refine W.cn hm ?_ ?_ <;> clear hm <;> intro hb27 hm
        ·replace ⟨v28,h29,hm⟩:=zaf hm
         replace ⟨v30,h31,hm⟩:=zaf hm
         have kh29:=za1 h29
         try simp only [hb5,hb11,hb17,hb22,hb27] at kh29
         have kh31:=za8 h31
         try simp only [hb5,hb11,hb17,hb22,hb27] at kh31
         refine W.saJ [8] [] [] 0 2 [4] zaH ?_
         cases hm
         exact W.rt
        ·refine W.cut (fun s h=>∃(v:Bool) (w:Unit) (F:Gs),zbU p0 v1 v3 p1 v=some r/\AT 0 F [(1,zi p1),(2,.ptr 0 0 0),(4,.ptr 1 0 0),(5,zi (zw (2+v1))),(12,zi v3),(71,.bool v)] [.cells (zap p0) 0 68,.cells [zi 0,.bool false,zi 0,zi 0,zi 0,zi 0,zi 0,zi 0,zi 0,zi 0,zi 0,.str (⟨#[]⟩:ByteArray),.nils] 0 63] s h) ?_ ?_
         ·refine W.sa 2 [1,2,4,5,12,71] ?_
          refine W.cn hm ?_ ?_ <;> clear hm <;> intro hb81 hm
          ·refine W.skip ?_
           exact ⟨(v3==5),(),⟨[],[]⟩,hm,RO⟩
          ·refine W.rg [] [(1,zi p1),(2,.ptr 0 0 0),(4,.ptr 1 0 0),(5,zi (zw (2+v1))),(12,zi v3),(71,.bool (v3==21))] [.cells (zap p0) 0 68,.cells [zi 0,.bool false,zi 0,zi 0,zi 0,zi 0,zi 0,zi 0,zi 0,zi 0,zi 0,.str (⟨#[]⟩:ByteArray),.nils] 0 63] ?_
           exact ⟨(v3==21),(),⟨[],[]⟩,hm,RO⟩
         ·rintro s h ⟨b32,_,F,hm,hat⟩
          refine W.weak F hat ?_
          show WK _ _ _ _ _ [(1,zi p1),(2,.ptr 0 0 0),(4,.ptr 1 0 0),(5,zi (zw (2+v1))),(12,zi v3),(71,.bool b32)] [.cells (zap p0) 0 68,.cells [zi 0,.bool false,zi 0,zi 0,zi 0,zi 0,zi 0,zi 0,zi 0,zi 0,zi 0,.str (⟨#[]⟩:ByteArray),.nils] 0 63]
          rw [zbU] at hm
          refine W.cn hm ?_ ?_ <;> clear hm <;> intro hb33 hm
          ·replace ⟨v34,h35,hm⟩:=zaf hm
           replace ⟨v36,h37,hm⟩:=zaf hm
           have kh35:=za8 h35
           try simp only [hb5,hb11,hb17,hb22,hb27,hb33] at kh35
           have kh37:=zbJ h37
           try simp only [hb5,hb11,hb17,hb22,hb27,hb33] at kh37
           refine W.saJ [10] [] [] 0 2 [4] zaH ?_
           cases hm
           exact W.rt
          ·refine W.sa 2 [1,2,4,5,12,84] ?_
           refine W.cn hm ?_ ?_ <;> clear hm <;> intro hb38 hm
           ·replace ⟨v39,h40,hm⟩:=zaf hm
            replace ⟨v41,h42,hm⟩:=zaf hm
            have kh40:=za1 h40
            try simp only [hb5,hb11,hb17,hb22,hb27,hb33,hb38] at kh40
            have kh42:=za8 h42
            try simp only [hb5,hb11,hb17,hb22,hb27,hb33,hb38] at kh42
            refine W.saJ [7] [] [] 0 2 [4] zaH ?_
            cases hm
            exact W.rt
           ·refine W.sa 2 [1,2,4,5,12,93] ?_
            refine W.cn hm ?_ ?_ <;> clear hm <;> intro hb43 hm
            ·replace ⟨v44,h45,hm⟩:=zaf hm
             replace ⟨v46,h47,hm⟩:=zaf hm
             have kh45:=za8 h45
             try simp only [hb5,hb11,hb17,hb22,hb27,hb33,hb38,hb43] at kh45
             have kh47:=zbJ h47
             try simp only [hb5,hb11,hb17,hb22,hb27,hb33,hb38,hb43] at kh47
             refine W.saJ [9] [] [] 0 2 [4] zaH ?_
             cases hm
             exact W.rt
            ·refine W.sa 2 [1,2,4,5,12,104] ?_
             refine W.cn hm ?_ ?_ <;> clear hm <;> intro hb48 hm
             ·replace ⟨v49,h50,hm⟩:=zaf hm
              replace ⟨v51,h52,hm⟩:=zaf hm
              have kh50:=za8 h50
              try simp only [hb5,hb11,hb17,hb22,hb27,hb33,hb38,hb43,hb48] at kh50
              have kh52:=za1 h52
              try simp only [hb5,hb11,hb17,hb22,hb27,hb33,hb38,hb43,hb48] at kh52
              refine W.saJ [7] [] [] 0 2 [4] zaH ?_
              cases hm
              exact W.rt
             ·refine W.sa 2 [1,2,4,5,12,113] ?_
              refine W.cn hm ?_ ?_ <;> clear hm <;> intro hb53 hm
              ·replace ⟨v54,h55,hm⟩:=zaf hm
               replace ⟨v56,h57,hm⟩:=zaf hm
               have kh55:=za8 h55
               try simp only [hb5,hb11,hb17,hb22,hb27,hb33,hb38,hb43,hb48,hb53] at kh55
               have kh57:=za1 h57
               try simp only [hb5,hb11,hb17,hb22,hb27,hb33,hb38,hb43,hb48,hb53] at kh57
               refine W.saJ [7] [] [] 0 2 [4] zaH ?_
               cases hm
               exact W.rt
              ·refine W.sa 2 [1,2,4,5,12,122] ?_
               refine W.cn hm ?_ ?_ <;> clear hm <;> intro hb58 hm
               ·replace ⟨v59,h60,hm⟩:=zaf hm
                replace ⟨v61,h62,hm⟩:=zaf hm
                have kh60:=za8 h60
                try simp only [hb5,hb11,hb17,hb22,hb27,hb33,hb38,hb43,hb48,hb53,hb58] at kh60
                have kh62:=zbJ h62
                try simp only [hb5,hb11,hb17,hb22,hb27,hb33,hb38,hb43,hb48,hb53,hb58] at kh62
                refine W.saJ [10] [] [] 0 2 [4] zaH ?_
                cases hm
                exact W.rt
               ·refine W.sa 2 [1,2,4,12,134] ?_
                refine W.cn hm ?_ ?_ <;> clear hm <;> intro hb63 hm
                ·replace ⟨v64,h65,hm⟩:=zaf hm
                 replace ⟨v66,h67,hm⟩:=zaf hm
                 have kh65:=zbx h65
                 try simp only [hb5,hb11,hb17,hb22,hb27,hb33,hb38,hb43,hb48,hb53,hb58,hb63] at kh65
                 have kh67:=zdI h67
                 try simp only [hb5,hb11,hb17,hb22,hb27,hb33,hb38,hb43,hb48,hb53,hb58,hb63] at kh67
                 refine W.sa 2 [4] ?_
                 cases hm
                 exact W.rt
                ·refine W.sa 2 [1,2,4,12,142] ?_
                 refine W.cn hm ?_ ?_ <;> clear hm <;> intro hb68 hm
                 ·replace ⟨v69,h70,hm⟩:=zaf hm
                  replace ⟨v71,h72,hm⟩:=zaf hm
                  replace ⟨v73,h74,hm⟩:=zaf hm
                  have kh70:=zbx h70
                  try simp only [hb5,hb11,hb17,hb22,hb27,hb33,hb38,hb43,hb48,hb53,hb58,hb63,hb68] at kh70
                  have kh72:=zbx h72
                  try simp only [hb5,hb11,hb17,hb22,hb27,hb33,hb38,hb43,hb48,hb53,hb58,hb63,hb68] at kh72
                  have kh74:=zdI h74
                  try simp only [hb5,hb11,hb17,hb22,hb27,hb33,hb38,hb43,hb48,hb53,hb58,hb63,hb68] at kh74
                  refine W.saJ [10] [] [] 0 2 [4] zaH ?_
                  cases hm
                  exact W.rt
                 ·refine W.sa 2 [2,4,12,154] ?_
                  refine W.cn hm ?_ ?_ <;> clear hm <;> intro hb75 hm
                  ·refine W.sa 2 [4] ?_
                   cases hm
                   exact W.rt
                  ·refine W.sa 2 [2,4,157] ?_
                   refine W.cn hm ?_ ?_ <;> clear hm <;> intro hb76 hm
                   ·replace ⟨v77,h78,hm⟩:=zaf hm
                    replace ⟨v79,h80,hm⟩:=zaf hm
                    have kh78:=za1 h78
                    try simp only [hb5,hb11,hb17,hb22,hb27,hb33,hb38,hb43,hb48,hb53,hb58,hb63,hb68,hb75,hb76] at kh78
                    have kh80:=zbJ h80
                    try simp only [hb5,hb11,hb17,hb22,hb27,hb33,hb38,hb43,hb48,hb53,hb58,hb63,hb68,hb75,hb76] at kh80
                    refine W.saJ [9] [] [] 0 2 [4] zaH ?_
                    cases hm
                    exact W.rt
                   ·refine W.skip ?_
                    exact ⟨(),(),⟨[],[]⟩,hm,RO⟩
 ·rintro s h ⟨_,_,F,hm,hat⟩
  refine W.weak F hat ?_
  show WK _ _ _ _ _ [(4,.ptr 1 0 0)] [.dead,.cells [zi 0,.bool false,zi 0,zi 0,zi 0,zi 0,zi 0,zi 0,zi 0,zi 0,zi 0,.str (⟨#[]⟩:ByteArray),.nils] 0 63]
  rw [zdv] at hm
  refine W.sa 2 [4] ?_
  cases hm
  exact W.rt
theorem zip{p0:(List (List zay))}{p1:Int}{p2:Int}{r:zag}(hm:zbC p0 p1 p2=some r):zaG Tryz.prog 13 [.sl (p0.map (eSl zap)),zi p1,zi p2] (.agg [.sl (r.zSy.map zan),.sl (r.zTh.map zaB)]):=by
 rw [zbC] at hm
 refine zaG.of Tryz.func13 rfl Tryz.ntmps13 (Nat.le_of_ble_eq_true rfl) ?_
 refine W.sa 1 [0,1,2,6] ?_ [.nbx 0 0 0 3 54,.nbx 0 0 1 1 59]
 replace ⟨l1,h2,hm⟩:=zaQ hm
 refine W.sqG [] [.nbx 1 0 1 1 59] [(0,.sl (p0.map (eSl zap))),(1,zi p1),(2,zi p2),(6,.ptr 0 0 0),(7,.ptr 1 0 0)] [.cells [.zBx (([]:List zak).map zan) 3 54,.zBx (([]:List zad).map zai) 1 59] 0 30,.cells [.sl (l1.map zan),.zBx (([]:List zad).map zai) 1 59] 0 30] ?_
 clear h2
 refine W.seq (W.sa 2 [0,1,2,6,7,8] ?_)
 refine W.block ?_
 replace ⟨r560,hlr560,hm⟩:=zaf hm
 refine W.mono (Q:=fun e0 s0 h0=>e0=.exit 0/\∃w:Unit,s0=[(6,.ptr 0 0 0),(7,.ptr 1 0 0)]/\h0=[.cells [.zBx (([]:List zak).map zan) 3 54,.zBx (([]:List zad).map zai) 1 59] 0 30,.cells [.sl (l1.map zan),.zBx (r560.map zai) 1 59] 0 30]) (W.loopM (step:=zaO p0 p1 p2) (a0:=(0,([]:List zad))) (fun (a:Int × (List zad)) (v:Unit)=>([(0,.sl (p0.map (eSl zap))),(1,zi p1),(2,zi p2),(6,.ptr 0 0 0),(7,.ptr 1 0 0),(8,zi a.1)],[.cells [.zBx (([]:List zak).map zan) 3 54,.zBx (([]:List zad).map zai) 1 59] 0 30,.cells [.sl (l1.map zan),.zBx (a.2.map zai) 1 59] 0 30])) () hlr560 ⟨[],[]⟩ RO ?_) ?_
 ·rintro ⟨i373,l374⟩ _ x hm hx
  rw [zaO] at hm
  show WK _ _ _ _ _ [(0,.sl (p0.map (eSl zap))),(1,zi p1),(2,zi p2),(6,.ptr 0 0 0),(7,.ptr 1 0 0),(8,zi i373)] [.cells [.zBx (([]:List zak).map zan) 3 54,.zBx (([]:List zad).map zai) 1 59] 0 30,.cells [.sl (l1.map zan),.zBx (l374.map zai) 1 59] 0 30]
  refine W.seq (W.sqh [] [(0,.sl (p0.map (eSl zap))),(1,zi p1),(2,zi p2),(6,.ptr 0 0 0),(7,.ptr 1 0 0),(8,zi i373),(29,.bool (decide (i373<(p0.length:Int))&&decide (i373<p1)))] ?_)
  refine W.cn hm ?_ ?_ <;> clear hm <;> intro hb561 hm
  ·refine W.skip (W.seq (W.block ?_))
   replace ⟨h562,hm⟩:=zas hm
   replace ⟨n563,h564,hm⟩:=zaQ hm
   refine W.sq [] [(0,.sl (p0.map (eSl zap))),(1,zi p1),(2,zi p2),(6,.ptr 0 0 0),(7,.ptr 1 0 0),(8,zi i373),(9,zi n563)] [.cells [.zBx (([]:List zak).map zan) 3 54,.zBx (([]:List zad).map zai) 1 59] 0 30,.cells [.sl (l1.map zan),.zBx (l374.map zai) 1 59] 0 30] ?_
   clear h564
   refine W.sa 3 [0,1,2,6,7,8,9,10] ?_ [.nbx 2 0 0 13 63]
   refine W.seq (W.sa 3 [0,1,2,6,7,8,9,10,11] ?_)
   refine W.block ?_
   replace ⟨r594,hlr594,hm⟩:=zaf hm
   refine W.mono (Q:=fun e0 s0 h0=>e0=.exit 2/\∃w:Unit,s0=[(0,.sl (p0.map (eSl zap))),(1,zi p1),(2,zi p2),(6,.ptr 0 0 0),(7,.ptr 1 0 0),(8,zi i373),(9,zi n563),(10,.ptr 2 0 0)]/\h0=[.cells [.zBx (([]:List zak).map zan) 3 54,.zBx (([]:List zad).map zai) 1 59] 0 30,.cells [.sl (l1.map zan),.zBx (l374.map zai) 1 59] 0 30,.cells [.zBx (r594.map zar) 13 63] 0 59]) (W.loopM (step:=zaV n563 i373 p0) (a0:=(0,([]:List zae))) (fun (a:Int × (List zae)) (v:Unit)=>([(0,.sl (p0.map (eSl zap))),(1,zi p1),(2,zi p2),(6,.ptr 0 0 0),(7,.ptr 1 0 0),(8,zi i373),(9,zi n563),(10,.ptr 2 0 0),(11,zi a.1)],[.cells [.zBx (([]:List zak).map zan) 3 54,.zBx (([]:List zad).map zai) 1 59] 0 30,.cells [.sl (l1.map zan),.zBx (l374.map zai) 1 59] 0 30,.cells [.zBx (a.2.map zar) 13 63] 0 59])) () hlr594 ⟨[],[]⟩ RO ?_) ?_
   ·rintro ⟨i583,l584⟩ _ x hm hx
    rw [zaV] at hm
    show WK _ _ _ _ _ [(0,.sl (p0.map (eSl zap))),(1,zi p1),(2,zi p2),(6,.ptr 0 0 0),(7,.ptr 1 0 0),(8,zi i373),(9,zi n563),(10,.ptr 2 0 0),(11,zi i583)] [.cells [.zBx (([]:List zak).map zan) 3 54,.zBx (([]:List zad).map zai) 1 59] 0 30,.cells [.sl (l1.map zan),.zBx (l374.map zai) 1 59] 0 30,.cells [.zBx (l584.map zar) 13 63] 0 59]
    refine W.seq (W.sa 3 [0,1,2,6,7,8,9,10,11,41] ?_)
    refine W.cn hm ?_ ?_ <;> clear hm <;> intro hb595 hm
    ·refine W.skip (W.seq (W.block ?_))
     replace ⟨h596,hm⟩:=zas hm
     replace ⟨h597,hm⟩:=zas hm
     replace ⟨v598,h599,hm⟩:=zaf hm
     replace ⟨h600,hm⟩:=zas hm
     replace ⟨l601,h602,hm⟩:=zaQ hm
     refine W.wa 4 [0,1,2,6,7,8,9,10,11,41] [.foc 2 0 0] ?_
     have kh599:=ziV h599
     try simp only [hb561,hb595] at kh599
     refine W.rgJG [13,15] [] [] 0 [] [.fol 2 0 0] [(0,.sl (p0.map (eSl zap))),(1,zi p1),(2,zi p2),(6,.ptr 0 0 0),(7,.ptr 1 0 0),(8,zi i373),(9,zi n563),(10,.ptr 2 0 0),(11,zi i583)] [.cells [.zBx (([]:List zak).map zan) 3 54,.zBx (([]:List zad).map zai) 1 59] 0 30,.cells [.sl (l1.map zan),.zBx (l374.map zai) 1 59] 0 30,.cells [.zBx (l601.map zar) 13 63] 0 59] zaH ?_
     clear h602
     refine W.rg [] [(0,.sl (p0.map (eSl zap))),(1,zi p1),(2,zi p2),(6,.ptr 0 0 0),(7,.ptr 1 0 0),(8,zi i373),(9,zi n563),(10,.ptr 2 0 0),(11,zi (zw (i583+1)))] [.cells [.zBx (([]:List zak).map zan) 3 54,.zBx (([]:List zad).map zai) 1 59] 0 30,.cells [.sl (l1.map zan),.zBx (l374.map zai) 1 59] 0 30,.cells [.zBx (l601.map zar) 13 63] 0 59] ?_
     cases hm
     exact ⟨((zw (i583+1)),l601),(),⟨[],[]⟩,rfl,RO⟩
    ·cases hm
     obtain rfl:=hx _ rfl
     exact W.wk ⟨[],[]⟩ [(0,.sl (p0.map (eSl zap))),(1,zi p1),(2,zi p2),(6,.ptr 0 0 0),(7,.ptr 1 0 0),(8,zi i373),(9,zi n563),(10,.ptr 2 0 0)] [.cells [.zBx (([]:List zak).map zan) 3 54,.zBx (([]:List zad).map zai) 1 59] 0 30,.cells [.sl (l1.map zan),.zBx (l374.map zai) 1 59] 0 30,.cells [.zBx (l584.map zar) 13 63] 0 59] (W.exit (show _/\_ from ⟨rfl,(),rfl,rfl⟩))
   ·rintro e0 s0 h0 ⟨rfl,_,rfl,rfl⟩
    show WK _ _ _ _ _ [(0,.sl (p0.map (eSl zap))),(1,zi p1),(2,zi p2),(6,.ptr 0 0 0),(7,.ptr 1 0 0),(8,zi i373),(9,zi n563),(10,.ptr 2 0 0)] [.cells [.zBx (([]:List zak).map zan) 3 54,.zBx (([]:List zad).map zai) 1 59] 0 30,.cells [.sl (l1.map zan),.zBx (l374.map zai) 1 59] 0 30,.cells [.zBx (r594.map zar) 13 63] 0 59]
    replace ⟨h603,hm⟩:=zas hm
    replace ⟨l604,h605,hm⟩:=zaQ hm
    refine W.wa 4 [0,1,2,6,7,8,9,10] [.foc 2 0 0] ?_
    refine W.sqG [] [.fol 2 0 0] [(0,.sl (p0.map (eSl zap))),(1,zi p1),(2,zi p2),(6,.ptr 0 0 0),(7,.ptr 1 0 0),(8,zi i373),(9,zi n563),(10,.ptr 2 0 0)] [.cells [.zBx (([]:List zak).map zan) 3 54,.zBx (([]:List zad).map zai) 1 59] 0 30,.cells [.sl (l1.map zan),.zBx (l374.map zai) 1 59] 0 30,.cells [.zBx (l604.map zar) 13 63] 0 59] ?_
    clear h605
    refine W.seq (W.sa 3 [0,1,2,6,7,8,9,10,12] ?_)
    refine W.block ?_
    replace ⟨r749,hlr749,hm⟩:=zaf hm
    refine W.mono (Q:=fun e0 s0 h0=>e0=.exit 4/\∃w:Unit,s0=[(0,.sl (p0.map (eSl zap))),(1,zi p1),(2,zi p2),(6,.ptr 0 0 0),(7,.ptr 1 0 0),(8,zi i373),(10,.ptr 2 0 0)]/\h0=[.cells [.zBx (([]:List zak).map zan) 3 54,.zBx (([]:List zad).map zai) 1 59] 0 30,.cells [.sl (l1.map zan),.zBx (l374.map zai) 1 59] 0 30,.cells [.zBx (r749.map zar) 13 63] 0 59]) (W.loopM (step:=zaU n563) (a0:=(0,l604)) (fun (a:Int × (List zae)) (v:Unit)=>([(0,.sl (p0.map (eSl zap))),(1,zi p1),(2,zi p2),(6,.ptr 0 0 0),(7,.ptr 1 0 0),(8,zi i373),(9,zi n563),(10,.ptr 2 0 0),(12,zi a.1)],[.cells [.zBx (([]:List zak).map zan) 3 54,.zBx (([]:List zad).map zai) 1 59] 0 30,.cells [.sl (l1.map zan),.zBx (l374.map zai) 1 59] 0 30,.cells [.zBx (a.2.map zar) 13 63] 0 59])) () hlr749 ⟨[],[]⟩ RO ?_) ?_
    ·rintro ⟨i700,l701⟩ _ x hm hx
     rw [zaU] at hm
     show WK _ _ _ _ _ [(0,.sl (p0.map (eSl zap))),(1,zi p1),(2,zi p2),(6,.ptr 0 0 0),(7,.ptr 1 0 0),(8,zi i373),(9,zi n563),(10,.ptr 2 0 0),(12,zi i700)] [.cells [.zBx (([]:List zak).map zan) 3 54,.zBx (([]:List zad).map zai) 1 59] 0 30,.cells [.sl (l1.map zan),.zBx (l374.map zai) 1 59] 0 30,.cells [.zBx (l701.map zar) 13 63] 0 59]
     refine W.seq (W.sa 3 [0,1,2,6,7,8,9,10,12,67] ?_)
     refine W.cn hm ?_ ?_ <;> clear hm <;> intro hb750 hm
     ·refine W.skip ?_
      refine W.cut (fun s h=>∃(v:(List zae)) (w:Unit) (F:Gs),zcH i700 v=some x/\AT 0 F [(0,.sl (p0.map (eSl zap))),(1,zi p1),(2,zi p2),(6,.ptr 0 0 0),(7,.ptr 1 0 0),(8,zi i373),(9,zi n563),(10,.ptr 2 0 0),(12,zi i700)] [.cells [.zBx (([]:List zak).map zan) 3 54,.zBx (([]:List zad).map zai) 1 59] 0 30,.cells [.sl (l1.map zan),.zBx (l374.map zai) 1 59] 0 30,.cells [.zBx (v.map zar) 13 63] 0 59] s h) ?_ ?_
      ·refine W.block (W.seq ?_)
       replace ⟨h752,hm⟩:=zas hm
       refine W.wa 4 [0,1,2,6,7,8,9,10,12,67] [.foc 2 0 0] ?_
       refine W.sa 3 [0,1,2,6,7,8,9,10,12,76] ?_ [.fol 2 0 0]
       refine W.cn hm ?_ ?_ <;> clear hm <;> intro hb753 hm
       ·refine W.exit ?_
        exact ⟨l701,(),⟨[],[]⟩,hm,RO⟩
       ·refine W.skip (W.sa 3 [0,1,2,6,7,8,9,10,12,13] ?_)
        refine W.block ?_
        replace ⟨r795,hlr795,hm⟩:=zaf hm
        refine W.mono (Q:=fun e0 s0 h0=>e0=.exit 6/\∃w:Unit,s0=[(0,.sl (p0.map (eSl zap))),(1,zi p1),(2,zi p2),(6,.ptr 0 0 0),(7,.ptr 1 0 0),(8,zi i373),(9,zi n563),(10,.ptr 2 0 0),(12,zi i700)]/\h0=[.cells [.zBx (([]:List zak).map zan) 3 54,.zBx (([]:List zad).map zai) 1 59] 0 30,.cells [.sl (l1.map zan),.zBx (l374.map zai) 1 59] 0 30,.cells [.zBx (r795.map zar) 13 63] 0 59]) (W.loopM (step:=zaT n563 i700) (a0:=(0,l701)) (fun (a:Int × (List zae)) (v:Unit)=>([(0,.sl (p0.map (eSl zap))),(1,zi p1),(2,zi p2),(6,.ptr 0 0 0),(7,.ptr 1 0 0),(8,zi i373),(9,zi n563),(10,.ptr 2 0 0),(12,zi i700),(13,zi a.1)],[.cells [.zBx (([]:List zak).map zan) 3 54,.zBx (([]:List zad).map zai) 1 59] 0 30,.cells [.sl (l1.map zan),.zBx (l374.map zai) 1 59] 0 30,.cells [.zBx (a.2.map zar) 13 63] 0 59])) () hlr795 ⟨[],[]⟩ RO ?_) ?_
        ·rintro ⟨i780,l781⟩ _ x hm hx
         rw [zaT] at hm
         show WK _ _ _ _ _ [(0,.sl (p0.map (eSl zap))),(1,zi p1),(2,zi p2),(6,.ptr 0 0 0),(7,.ptr 1 0 0),(8,zi i373),(9,zi n563),(10,.ptr 2 0 0),(12,zi i700),(13,zi i780)] [.cells [.zBx (([]:List zak).map zan) 3 54,.zBx (([]:List zad).map zai) 1 59] 0 30,.cells [.sl (l1.map zan),.zBx (l374.map zai) 1 59] 0 30,.cells [.zBx (l781.map zar) 13 63] 0 59]
         refine W.seq (W.sa 3 [0,1,2,6,7,8,9,10,12,13,79] ?_)
         refine W.cn hm ?_ ?_ <;> clear hm <;> intro hb796 hm
         ·refine W.skip ?_
          refine W.cut (fun s h=>∃(v:(List zae)) (w:Unit) (F:Gs),zcG i780 v=some x/\AT 0 F [(0,.sl (p0.map (eSl zap))),(1,zi p1),(2,zi p2),(6,.ptr 0 0 0),(7,.ptr 1 0 0),(8,zi i373),(9,zi n563),(10,.ptr 2 0 0),(12,zi i700),(13,zi i780)] [.cells [.zBx (([]:List zak).map zan) 3 54,.zBx (([]:List zad).map zai) 1 59] 0 30,.cells [.sl (l1.map zan),.zBx (l374.map zai) 1 59] 0 30,.cells [.zBx (v.map zar) 13 63] 0 59] s h) ?_ ?_
          ·refine W.block ?_
           replace ⟨v798,h799,hm⟩:=zaf hm
           replace ⟨h800,hm⟩:=zas hm
           replace ⟨h801,hm⟩:=zas hm
           refine W.wa 4 [0,1,2,6,7,8,9,10,12,13,79] [.foc 2 0 0] ?_
           have kh799:=zdI h799
           try simp only [hb561,hb750,hb753,hb796] at kh799
           refine W.sqJG [] [] [] 0 [] [.fol 2 0 0] [(0,.sl (p0.map (eSl zap))),(1,zi p1),(2,zi p2),(6,.ptr 0 0 0),(7,.ptr 1 0 0),(8,zi i373),(9,zi n563),(10,.ptr 2 0 0),(12,zi i700),(13,zi i780),(100,.bool (decide (v798=(rd l781 i700).To)&&((((rd l781 i780).zLb).length:Int)==0)))] [.cells [.zBx (([]:List zak).map zan) 3 54,.zBx (([]:List zad).map zai) 1 59] 0 30,.cells [.sl (l1.map zan),.zBx (l374.map zai) 1 59] 0 30,.cells [.zBx (l781.map zar) 13 63] 0 59] zaH ?_
           refine W.cn hm ?_ ?_ <;> clear hm <;> intro hb802 hm
           ·replace ⟨v803,h804,hm⟩:=zaf hm
            replace ⟨h805,hm⟩:=zas hm
            replace ⟨l806,h807,hm⟩:=zaQ hm
            refine W.wa 4 [0,1,2,6,7,8,9,10,12,13,100] [.foc 2 0 0] ?_
            have kh804:=zdI h804
            try simp only [hb561,hb750,hb753,hb796,hb802] at kh804
            refine W.rgJG [8] [] [] 0 [] [.fol 2 0 0] [(0,.sl (p0.map (eSl zap))),(1,zi p1),(2,zi p2),(6,.ptr 0 0 0),(7,.ptr 1 0 0),(8,zi i373),(9,zi n563),(10,.ptr 2 0 0),(12,zi i700),(13,zi i780)] [.cells [.zBx (([]:List zak).map zan) 3 54,.zBx (([]:List zad).map zai) 1 59] 0 30,.cells [.sl (l1.map zan),.zBx (l374.map zai) 1 59] 0 30,.cells [.zBx (l806.map zar) 13 63] 0 59] zaH ?_
            clear h807
            exact ⟨l806,(),⟨[],[]⟩,hm,RO⟩
           ·refine W.skip ?_
            exact ⟨l781,(),⟨[],[]⟩,hm,RO⟩
          ·rintro s h ⟨l797,_,F,hm,hat⟩
           refine W.weak F hat ?_
           show WK _ _ _ _ _ [(0,.sl (p0.map (eSl zap))),(1,zi p1),(2,zi p2),(6,.ptr 0 0 0),(7,.ptr 1 0 0),(8,zi i373),(9,zi n563),(10,.ptr 2 0 0),(12,zi i700),(13,zi i780)] [.cells [.zBx (([]:List zak).map zan) 3 54,.zBx (([]:List zad).map zai) 1 59] 0 30,.cells [.sl (l1.map zan),.zBx (l374.map zai) 1 59] 0 30,.cells [.zBx (l797.map zar) 13 63] 0 59]
           rw [zcG] at hm
           refine W.rg [] [(0,.sl (p0.map (eSl zap))),(1,zi p1),(2,zi p2),(6,.ptr 0 0 0),(7,.ptr 1 0 0),(8,zi i373),(9,zi n563),(10,.ptr 2 0 0),(12,zi i700),(13,zi (zw (i780+1)))] [.cells [.zBx (([]:List zak).map zan) 3 54,.zBx (([]:List zad).map zai) 1 59] 0 30,.cells [.sl (l1.map zan),.zBx (l374.map zai) 1 59] 0 30,.cells [.zBx (l797.map zar) 13 63] 0 59] ?_
           cases hm
           exact ⟨((zw (i780+1)),l797),(),⟨[],[]⟩,rfl,RO⟩
         ·cases hm
          obtain rfl:=hx _ rfl
          exact W.wk ⟨[],[]⟩ [(0,.sl (p0.map (eSl zap))),(1,zi p1),(2,zi p2),(6,.ptr 0 0 0),(7,.ptr 1 0 0),(8,zi i373),(9,zi n563),(10,.ptr 2 0 0),(12,zi i700)] [.cells [.zBx (([]:List zak).map zan) 3 54,.zBx (([]:List zad).map zai) 1 59] 0 30,.cells [.sl (l1.map zan),.zBx (l374.map zai) 1 59] 0 30,.cells [.zBx (l781.map zar) 13 63] 0 59] (W.exit (show _/\_ from ⟨rfl,(),rfl,rfl⟩))
        ·rintro e0 s0 h0 ⟨rfl,_,rfl,rfl⟩
         exact ⟨r795,(),⟨[],[]⟩,hm,RO⟩
      ·rintro s h ⟨l751,_,F,hm,hat⟩
       refine W.weak F hat ?_
       show WK _ _ _ _ _ [(0,.sl (p0.map (eSl zap))),(1,zi p1),(2,zi p2),(6,.ptr 0 0 0),(7,.ptr 1 0 0),(8,zi i373),(9,zi n563),(10,.ptr 2 0 0),(12,zi i700)] [.cells [.zBx (([]:List zak).map zan) 3 54,.zBx (([]:List zad).map zai) 1 59] 0 30,.cells [.sl (l1.map zan),.zBx (l374.map zai) 1 59] 0 30,.cells [.zBx (l751.map zar) 13 63] 0 59]
       rw [zcH] at hm
       refine W.rg [] [(0,.sl (p0.map (eSl zap))),(1,zi p1),(2,zi p2),(6,.ptr 0 0 0),(7,.ptr 1 0 0),(8,zi i373),(9,zi n563),(10,.ptr 2 0 0),(12,zi (zw (i700+1)))] [.cells [.zBx (([]:List zak).map zan) 3 54,.zBx (([]:List zad).map zai) 1 59] 0 30,.cells [.sl (l1.map zan),.zBx (l374.map zai) 1 59] 0 30,.cells [.zBx (l751.map zar) 13 63] 0 59] ?_
       cases hm
       exact ⟨((zw (i700+1)),l751),(),⟨[],[]⟩,rfl,RO⟩
     ·cases hm
      obtain rfl:=hx _ rfl
      exact W.wk ⟨[],[]⟩ [(0,.sl (p0.map (eSl zap))),(1,zi p1),(2,zi p2),(6,.ptr 0 0 0),(7,.ptr 1 0 0),(8,zi i373),(10,.ptr 2 0 0)] [.cells [.zBx (([]:List zak).map zan) 3 54,.zBx (([]:List zad).map zai) 1 59] 0 30,.cells [.sl (l1.map zan),.zBx (l374.map zai) 1 59] 0 30,.cells [.zBx (l701.map zar) 13 63] 0 59] (W.exit (show _/\_ from ⟨rfl,(),rfl,rfl⟩))
    ·rintro e0 s0 h0 ⟨rfl,_,rfl,rfl⟩
     show WK _ _ _ _ _ [(0,.sl (p0.map (eSl zap))),(1,zi p1),(2,zi p2),(6,.ptr 0 0 0),(7,.ptr 1 0 0),(8,zi i373),(10,.ptr 2 0 0)] [.cells [.zBx (([]:List zak).map zan) 3 54,.zBx (([]:List zad).map zai) 1 59] 0 30,.cells [.sl (l1.map zan),.zBx (l374.map zai) 1 59] 0 30,.cells [.zBx (r749.map zar) 13 63] 0 59]
     replace ⟨h808,hm⟩:=zas hm
     replace ⟨l809,h810,hm⟩:=zaQ hm
     refine W.wa 5 [0,1,2,6,7,8,10] [.foc 1 0 1,.foc 2 0 0] ?_
     refine W.rgG [] [.fol 3 l374.length 0,.fol 1 0 1] [(0,.sl (p0.map (eSl zap))),(1,zi p1),(2,zi p2),(6,.ptr 0 0 0),(7,.ptr 1 0 0),(8,zi i373)] [.cells [.zBx (([]:List zak).map zan) 3 54,.zBx (([]:List zad).map zai) 1 59] 0 30,.cells [.sl (l1.map zan),.zBx (l809.map zai) 1 59] 0 30] ?_ (hrun:=by exact ROT)
     clear h810
     refine W.rg [] [(0,.sl (p0.map (eSl zap))),(1,zi p1),(2,zi p2),(6,.ptr 0 0 0),(7,.ptr 1 0 0),(8,zi (zw (i373+1)))] [.cells [.zBx (([]:List zak).map zan) 3 54,.zBx (([]:List zad).map zai) 1 59] 0 30,.cells [.sl (l1.map zan),.zBx (l809.map zai) 1 59] 0 30] ?_
     cases hm
     exact ⟨((zw (i373+1)),l809),(),⟨[],[]⟩,rfl,RO⟩
  ·cases hm
   obtain rfl:=hx _ rfl
   exact W.wk ⟨[],[]⟩ [(6,.ptr 0 0 0),(7,.ptr 1 0 0)] [.cells [.zBx (([]:List zak).map zan) 3 54,.zBx (([]:List zad).map zai) 1 59] 0 30,.cells [.sl (l1.map zan),.zBx (l374.map zai) 1 59] 0 30] (W.exit (show _/\_ from ⟨rfl,(),rfl,rfl⟩))
 ·rintro e0 s0 h0 ⟨rfl,_,rfl,rfl⟩
  show WK _ _ _ _ _ [(6,.ptr 0 0 0),(7,.ptr 1 0 0)] [.cells [.zBx (([]:List zak).map zan) 3 54,.zBx (([]:List zad).map zai) 1 59] 0 30,.cells [.sl (l1.map zan),.zBx (r560.map zai) 1 59] 0 30]
  refine W.wa 3 [6,7] [.foc 1 0 1] ?_
  refine W.sa 1 [6] ?_ [.fol 0 0 1]
  cases hm
  refine W.wa 2 [6] [.foc 0 0 1] ?_
  exact W.ret (zej.retW [1] RO)
end Go.Proofs.YtocjejladeeckaaGreatDoor
