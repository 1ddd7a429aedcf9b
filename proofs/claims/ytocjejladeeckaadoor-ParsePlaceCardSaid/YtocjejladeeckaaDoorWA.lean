import Derived.Test.YtocjejladeeckaaDoorVFacts
import Derived.Test.YtocjejladeeckaaDoorVu3
import Derived.Test.YtocjejladeeckaaDoorPalA
set_option linter.all false
set_option maxRecDepth 100000
set_option maxHeartbeats 4000000
namespace Go.Proofs.YtocjejladeeckaaDoor
open Go.Vs
variable [Tab]
theorem zeY{p0:ByteArray}{p1:Int}{r:ByteArray}(hm:zb3 p0 p1=some r):zaI Tryd.prog 15 [.str p0,zi p1] (.str r):=by
 rw [zb3] at hm
 refine zaI.of Tryd.func15 rfl Tryd.ntmps15 (Nat.le_of_ble_eq_true rfl) ?_
 refine W.sa 0 [0,1] ?_
 replace ⟨h1,hm⟩:=zay hm
 replace ⟨s2,h3,hm⟩:=zaR hm
 refine W.sq [] [(4,.str s2)] [] ?_
 clear h3
 cases hm
 exact W.rt
theorem zfg{p0:Int}{p1:Int}{r:Int}(hm:zcc p0 p1=some r):zaI Tryd.prog 22 [zi p0,zi p1] (zi r):=by
 rw [zcc] at hm
 refine zaI.of Tryd.func22 rfl Tryd.ntmps22 (Nat.le_of_ble_eq_true rfl) ?_
 refine W.sa 0 [0,1] ?_
 replace ⟨h1,hm⟩:=zay hm
 refine W.sa 0 [0,1] ?_
 refine W.seq (W.sa 0 [0,1,9] ?_)
 refine W.cn hm ?_ ?_ <;> clear hm <;> intro hb2 hm
 ·refine W.rg [] [(0,zi (zw ((Int.tmod p0 p1)+p1)))] [] ?_
  refine W.sa 0 [4] ?_
  cases hm
  exact W.rt
 ·refine W.skip (W.sa 0 [4] ?_)
  cases hm
  exact W.rt
theorem zfq{p0:Int}{p1:Int}{p2:Int}{r:Int × Int}(hm:zdc p0 p1 p2=some r):zaI Tryd.prog 73 [zi p0,zi p1,.int .i32 p2] (.tuple [zi r.1,zi r.2]):=by
 rw [zdc] at hm
 refine zaI.of Tryd.func73 rfl Tryd.ntmps73 (Nat.le_of_ble_eq_true rfl) ?_
 refine W.sa 0 [0,1,2] ?_
 refine W.seq (W.sa 0 [0,1,9] ?_)
 refine W.cn hm ?_ ?_ <;> clear hm <;> intro hb1 hm
 ·refine W.sa 0 [6,7] ?_
  cases hm
  exact W.rt
 ·refine W.skip (W.sa 0 [6,7] ?_)
  cases hm
  exact W.rt
theorem zdj{p0:Int}{r:Bool}(hm:zcd p0=some r):zaI Tryd.prog 74 [.int .i32 p0] (.bool r):=by
 rw [zcd] at hm
 refine zaI.of Tryd.func74 rfl Tryd.ntmps74 (Nat.le_of_ble_eq_true rfl) ?_
 refine W.sa 0 [0] ?_
 replace ⟨b1,h2,hm⟩:=zaR hm
 refine W.sq [] [(2,.bool b1)] [] ?_
 clear h2
 cases hm
 exact W.rt
theorem zdD{p0:Int}{r:Bool}(hm:zcv p0=some r):zaI Tryd.prog 75 [.int .i32 p0] (.bool r):=by
 rw [zcv] at hm
 refine zaI.of Tryd.func75 rfl Tryd.ntmps75 (Nat.le_of_ble_eq_true rfl) ?_
 refine W.sa 0 [0] ?_
 refine W.sq [] [(2,.bool (decide (p0≥48)&&decide (p0<=57)))] [] ?_
 cases hm
 exact W.rt
theorem zgZ{p0:Int}{r:Bool}(hm:zd3 p0=some r):zaI Tryd.prog 37 [.int .i32 p0] (.bool r):=by
 rw [zd3] at hm
 refine zaI.of Tryd.func37 rfl Tryd.ntmps37 (Nat.le_of_ble_eq_true rfl) ?_
 refine W.sa 0 [0] ?_
 refine W.sq [] [(2,.bool ((p0==32)||(p0==9)))] [] ?_
 cases hm
 exact W.rt
theorem zdA{p0:Int}{p1:zah}{r:zag}(hm:zcM p0 p1=some r):zaI Tryd.prog 36 [zi p0,.agg [.int .i32 p1.Rune,zi p1.At,zi p1.Size,zi p1.Line,zi p1.Col,.bool p1.Bad]] (.agg [zi r.Code,zi r.Line,zi r.Col]):=by
 rw [zcM] at hm
 refine zaI.of Tryd.func36 rfl Tryd.ntmps36 (Nat.le_of_ble_eq_true rfl) ?_
 refine W.sa 2 [0,3,4] ?_
 refine W.sa 2 [4] ?_
 cases hm
 exact W.rt
theorem zjZ{p0:(List zah)}{p1:Int}{r:Int × Int}(hm:ze2 p0 p1=some r):zaI Tryd.prog 38 [.sl (p0.map zap),zi p1] (.tuple [zi r.1,zi r.2]):=by
 rw [ze2] at hm
 refine zaI.of Tryd.func38 rfl Tryd.ntmps38 (Nat.le_of_ble_eq_true rfl) ?_
 refine W.sa 0 [0,1] ?_
 refine W.sa 0 [0,1] ?_
 refine W.cut (fun s h=>∃(v:Int) (w:Unit) (F:Gs),zdb p0 p1 v=some r/\AT 0 F [(0,.sl (p0.map zap)),(1,zi p1),(6,zi v)] [] s h) ?_ ?_
 ·replace ⟨h40,hm⟩:=zay hm
  refine W.sa 0 [0,1,7] ?_
  refine W.block (W.sa 0 [0,1,7,15] ?_)
  refine W.cn hm ?_ ?_ <;> clear hm <;> intro hb41 hm
  ·refine W.sa 0 [4,5] ?_
   cases hm
   exact W.rt
  ·replace ⟨b42,h43,hm⟩:=zaR hm
   refine W.sq [] [(0,.sl (p0.map zap)),(1,zi p1),(7,.int .i32 ((rd p0 p1).Rune)),(20,.bool b42)] [] ?_
   clear h43
   refine W.cn hm ?_ ?_ <;> clear hm <;> intro hb44 hm
   ·refine W.sa 0 [4,5] ?_
    cases hm
    exact W.rt
   ·replace ⟨v45,h46,hm⟩:=zai hm
    have kh46:=zdj h46
    try simp only [hb41,hb44] at kh46
    refine W.sa 0 [0,1,7,37] ?_
    refine W.cn hm ?_ ?_ <;> clear hm <;> intro hb47 hm
    ·refine W.rg [] [(0,.sl (p0.map zap)),(1,zi p1),(6,zi 1)] [] ?_
     exact ⟨1,(),⟨[],[]⟩,hm,RO⟩
    ·replace ⟨v48,h49,hm⟩:=zai hm
     have kh49:=zdD h49
     try simp only [hb41,hb44,hb47] at kh49
     refine W.sq [] [(0,.sl (p0.map zap)),(1,zi p1),(40,.bool (v48||((rd p0 p1).Rune==45)))] [] ?_
     refine W.cn hm ?_ ?_ <;> clear hm <;> intro hb50 hm
     ·refine W.rg [] [(0,.sl (p0.map zap)),(1,zi p1),(6,zi 2)] [] ?_
      exact ⟨2,(),⟨[],[]⟩,hm,RO⟩
     ·refine W.sa 0 [4,5] ?_
      cases hm
      exact W.rt
 ·rintro s h ⟨i1,_,F,hm,hat⟩
  refine W.weak F hat ?_
  show WK _ _ _ _ _ [(0,.sl (p0.map zap)),(1,zi p1),(6,zi i1)] []
  rw [zdb] at hm
  refine W.sa 0 [0,6,8] ?_
  refine W.seq (W.block ?_)
  replace ⟨r31,hlr31,hm⟩:=zai hm
  refine W.mono (Q:=fun e0 s0 h0=>e0=.exit 1/\∃w:Unit,s0=[(6,zi i1),(8,zi r31)]/\h0=[]) (W.loopM (step:=zda p0) (a0:=(zw (p1+1))) (fun (a:Int) (v:Unit)=>([(0,.sl (p0.map zap)),(6,zi i1),(8,zi a)],[])) () hlr31 ⟨[],[]⟩ RO ?_) ?_
  ·rintro i21 _ x hm hx
   rw [zda] at hm
   show WK _ _ _ _ _ [(0,.sl (p0.map zap)),(6,zi i1),(8,zi i21)] []
   refine W.seq ?_
   replace ⟨h32,hm⟩:=zay hm
   replace ⟨h33,hm⟩:=zay hm
   replace ⟨v34,h35,hm⟩:=zai hm
   replace ⟨h36,hm⟩:=zay hm
   replace ⟨v37,h38,hm⟩:=zai hm
   have kh35:=fun hg=>zdj (zbC hg h35)
   have kh38:=fun hg=>zdD (zbC hg h38)
   refine W.sqh [] [(0,.sl (p0.map zap)),(6,zi i1),(8,zi i21),(76,.bool ((decide (i21<(p0.length:Int))&&(!(rd p0 i21).Bad))&&(v34||v37)))] ?_
   refine W.cn hm ?_ ?_ <;> clear hm <;> intro hb39 hm
   ·refine W.skip (W.block (W.rg [] [(0,.sl (p0.map zap)),(6,zi i1),(8,zi (zw (i21+1)))] [] ?_))
    cases hm
    exact ⟨(zw (i21+1)),(),⟨[],[]⟩,rfl,RO⟩
   ·cases hm
    obtain rfl:=hx _ rfl
    exact W.wk ⟨[],[]⟩ [(6,zi i1),(8,zi i21)] [] (W.exit (show _/\_ from ⟨rfl,(),rfl,rfl⟩))
  ·rintro e0 s0 h0 ⟨rfl,_,rfl,rfl⟩
   show WK _ _ _ _ _ [(6,zi i1),(8,zi r31)] []
   refine W.sa 0 [4,5] ?_
   cases hm
   exact W.rt
theorem ziv{p0:ByteArray}{r:Int × Int}(hm:zer p0=some r):zaI Tryd.prog 40 [.str p0] (.tuple [zi r.1,zi r.2]):=by
 rw [zer] at hm
 refine zaI.of Tryd.func40 rfl Tryd.ntmps40 (Nat.le_of_ble_eq_true rfl) ?_
 refine W.sa 0 [0] ?_
 refine W.sa 0 [0,4,5] ?_
 refine W.seq (W.sa 1 [4,5,9] ?_)
 refine W.block ?_
 replace ⟨r19,hlr19,hm⟩:=zai hm
 refine W.mono (Q:=fun e0 s0 h0=>e0=.exit 0/\∃w:Unit,s0=[(4,zi r19.1),(5,zi r19.2)]/\h0=[]) (W.loopM (step:=zb0 p0) (a0:=(1,1,0)) (fun (a:Int × Int × Nat) (v:Unit)=>([(4,zi a.1),(5,zi a.2.1),(9,.ptr 0 0 0)],[.siter p0 a.2.2])) () hlr19 ⟨[],[]⟩ RO ?_) ?_
 ·rintro ⟨i10,i11,n12⟩ _ x hm hx
  rw [zb0] at hm
  show WK _ _ _ _ _ [(4,zi i10),(5,zi i11),(9,.ptr 0 0 0)] [.siter p0 n12]
  by_cases hb20:n12<p0.size
  ·rw [if_pos hb20] at hm
   refine W.sa 1 [4,5,9,10,11] ?_
   refine W.seq (W.cnd true (fun _=>?_) (fun hx=>by cases hx))
   refine W.skip (W.block (W.sa 1 [4,5,7,9] ?_))
   replace ⟨v21,h22,hm⟩:=zai hm
   have kh22:=zfq h22
   try simp only [hb20] at kh22
   refine W.rg [] [(4,zi v21.1),(5,zi v21.2),(9,.ptr 0 0 0)] [.siter p0 (n12+(Utf8.decode p0 n12).2)] ?_
   cases hm
   exact ⟨(v21.1,v21.2,(n12+(Utf8.decode p0 n12).2)),(),⟨[],[]⟩,rfl,RO⟩
  ·rw [if_neg hb20] at hm
   refine W.sa 1 [4,5,9,10,11] ?_
   refine W.seq (W.cnd false (fun hx=>by cases hx) (fun _=>?_))
   cases hm
   obtain rfl:=hx _ rfl
   exact W.wk ⟨[],[]⟩ [(4,zi i10),(5,zi i11)] [] (W.exit (show _/\_ from ⟨rfl,(),rfl,rfl⟩))
 ·rintro e0 s0 h0 ⟨rfl,_,rfl,rfl⟩
  show WK _ _ _ _ _ [(4,zi r19.1),(5,zi r19.2)] []
  refine W.sa 0 [2,3] ?_
  cases hm
  exact W.rt
end Go.Proofs.YtocjejladeeckaaDoor
