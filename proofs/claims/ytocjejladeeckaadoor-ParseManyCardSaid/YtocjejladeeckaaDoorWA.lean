import Derived.Test.YtocjejladeeckaaDoorVFacts
import Derived.Test.YtocjejladeeckaaDoorVu3
import Derived.Test.YtocjejladeeckaaDoorPalA
set_option linter.all false
set_option maxRecDepth 100000
set_option maxHeartbeats 4000000
namespace Go.Proofs.YtocjejladeeckaaDoor
open Go.Vs
variable [Tab]
theorem zdI{p0:Int}{p1:Int}{r:Int}(hm:zbR p0 p1=some r):zaT Tryd.prog 22 [zi p0,zi p1] (zi r):=by
 rw [zbR] at hm
 refine zaT.of Tryd.func22 rfl Tryd.ntmps22 (Nat.le_of_ble_eq_true rfl) ?_
 refine W.sa 0 [0,1] ?_
 replace ⟨h1,hm⟩:=zaA hm
 refine W.sa 0 [0,1] ?_
 refine W.seq (W.sa 0 [0,1,9] ?_)
 refine W.cn hm ?_ ?_ <;> clear hm <;> intro hb2 hm
 ·refine W.rg [] [(0,zi (zw ((Int.tmod p0 p1)+p1)))] [] ?_
  refine W.sa 0 [4] ?_
  cases hm
  exact W.rt
 ·refine W.skip (W.sa 0 [4] ?_)
  cases hm
  exact W.rt
theorem zfB{p0:Int}{r:ByteArray}(hm:zcm p0=some r):zaT Tryd.prog 34 [zi p0] (.str r):=by
 rw [zcm] at hm
 refine zaT.of Tryd.func34 rfl Tryd.ntmps34 (Nat.le_of_ble_eq_true rfl) ?_
 refine W.sa 0 [0] ?_
 refine W.sa 0 [0,3] ?_
 refine W.cut (fun s h=>∃(v:Int) (w:Unit) (F:Gs),zbI p0 v=some r/\AT 0 F [(0,zi p0),(3,.int .u64 v)] [] s h) ?_ ?_
 ·refine W.sa 0 [0,3,8] ?_
  refine W.cn hm ?_ ?_ <;> clear hm <;> intro hb26 hm
  ·refine W.rg [] [(0,zi p0),(3,.int .u64 (IntKind.wrap .u64 (0-(IntKind.wrap .u64 p0))))] [] ?_
   exact ⟨(IntKind.wrap .u64 (0-(IntKind.wrap .u64 p0))),(),⟨[],[]⟩,hm,RO⟩
  ·refine W.skip ?_
   exact ⟨(IntKind.wrap .u64 p0),(),⟨[],[]⟩,hm,RO⟩
 ·rintro s h ⟨i1,_,F,hm,hat⟩
  refine W.weak F hat ?_
  show WK _ _ _ _ _ [(0,zi p0),(3,.int .u64 i1)] []
  rw [zbI] at hm
  refine W.sa 0 [0,3,4] ?_
  refine W.seq (W.block ?_)
  replace ⟨r19,hlr19,hm⟩:=zai hm
  refine W.mono (Q:=fun e0 s0 h0=>e0=.exit 0/\∃w:Unit,s0=[(0,zi p0),(4,.str r19)]/\h0=[]) (W.loopM (step:=za1) (a0:=(i1,(⟨#[]⟩:ByteArray))) (fun (a:Int × ByteArray) (v:Unit)=>([(0,zi p0),(3,.int .u64 a.1),(4,.str a.2)],[])) () hlr19 ⟨[],[]⟩ RO ?_) ?_
  ·rintro ⟨i12,s13⟩ _ x hm hx
   rw [za1] at hm
   show WK _ _ _ _ _ [(0,zi p0),(3,.int .u64 i12),(4,.str s13)] []
   refine W.seq (W.sqh [] [(0,zi p0),(3,.int .u64 i12),(4,.str s13),(16,.bool (decide (i12>0)||decide (s13=(⟨#[]⟩:ByteArray))))] ?_)
   refine W.cn hm ?_ ?_ <;> clear hm <;> intro hb20 hm
   ·refine W.skip (W.block ?_)
    replace ⟨h21,hm⟩:=zaA hm
    replace ⟨s22,h23,hm⟩:=za8 hm
    refine W.sq [] [(0,zi p0),(3,.int .u64 i12),(4,.str s22)] [] ?_
    clear h23
    refine W.rg [] [(0,zi p0),(3,.int .u64 (IntKind.wrap .u64 (Int.tdiv i12 10))),(4,.str s22)] [] ?_
    cases hm
    exact ⟨((IntKind.wrap .u64 (Int.tdiv i12 10)),s22),(),⟨[],[]⟩,rfl,RO⟩
   ·cases hm
    obtain rfl:=hx _ rfl
    exact W.wk ⟨[],[]⟩ [(0,zi p0),(4,.str s13)] [] (W.exit (show _/\_ from ⟨rfl,(),rfl,rfl⟩))
  ·rintro e0 s0 h0 ⟨rfl,_,rfl,rfl⟩
   show WK _ _ _ _ _ [(0,zi p0),(4,.str r19)] []
   refine W.seq (W.sa 0 [4,28] ?_)
   refine W.cn hm ?_ ?_ <;> clear hm <;> intro hb24 hm
   ·replace ⟨h25,hm⟩:=zaA hm
    refine W.sa 0 [2] ?_
    cases hm
    exact W.rt
   ·refine W.skip (W.sa 0 [2] ?_)
    cases hm
    exact W.rt
theorem zfP{p0:Int}{p1:Int}{p2:Int}{r:Int × Int}(hm:zdn p0 p1 p2=some r):zaT Tryd.prog 73 [zi p0,zi p1,.int .i32 p2] (.tuple [zi r.1,zi r.2]):=by
 rw [zdn] at hm
 refine zaT.of Tryd.func73 rfl Tryd.ntmps73 (Nat.le_of_ble_eq_true rfl) ?_
 refine W.sa 0 [0,1,2] ?_
 refine W.seq (W.sa 0 [0,1,9] ?_)
 refine W.cn hm ?_ ?_ <;> clear hm <;> intro hb1 hm
 ·refine W.sa 0 [6,7] ?_
  cases hm
  exact W.rt
 ·refine W.skip (W.sa 0 [6,7] ?_)
  cases hm
  exact W.rt
theorem zdv{p0:Int}{r:Bool}(hm:zcn p0=some r):zaT Tryd.prog 74 [.int .i32 p0] (.bool r):=by
 rw [zcn] at hm
 refine zaT.of Tryd.func74 rfl Tryd.ntmps74 (Nat.le_of_ble_eq_true rfl) ?_
 refine W.sa 0 [0] ?_
 replace ⟨b1,h2,hm⟩:=za8 hm
 refine W.sq [] [(2,.bool b1)] [] ?_
 clear h2
 cases hm
 exact W.rt
theorem zdS{p0:Int}{r:Bool}(hm:zcI p0=some r):zaT Tryd.prog 75 [.int .i32 p0] (.bool r):=by
 rw [zcI] at hm
 refine zaT.of Tryd.func75 rfl Tryd.ntmps75 (Nat.le_of_ble_eq_true rfl) ?_
 refine W.sa 0 [0] ?_
 refine W.sq [] [(2,.bool (decide (p0≥48)&&decide (p0<=57)))] [] ?_
 cases hm
 exact W.rt
theorem zhu{p0:Int}{r:Bool}(hm:zem p0=some r):zaT Tryd.prog 37 [.int .i32 p0] (.bool r):=by
 rw [zem] at hm
 refine zaT.of Tryd.func37 rfl Tryd.ntmps37 (Nat.le_of_ble_eq_true rfl) ?_
 refine W.sa 0 [0] ?_
 refine W.sq [] [(2,.bool ((p0==32)||(p0==9)))] [] ?_
 cases hm
 exact W.rt
theorem zdM{p0:Int}{p1:zah}{r:zag}(hm:zcU p0 p1=some r):zaT Tryd.prog 36 [zi p0,.agg [.int .i32 p1.Rune,zi p1.At,zi p1.Size,zi p1.Line,zi p1.Col,.bool p1.Bad]] (.agg [zi r.Code,zi r.Line,zi r.Col]):=by
 rw [zcU] at hm
 refine zaT.of Tryd.func36 rfl Tryd.ntmps36 (Nat.le_of_ble_eq_true rfl) ?_
 refine W.sa 2 [0,3,4] ?_
 refine W.sa 2 [4] ?_
 cases hm
 exact W.rt
theorem zk9{p0:(List zah)}{p1:Int}{r:Int × Int}(hm:zfp p0 p1=some r):zaT Tryd.prog 38 [.sl (p0.map zal),zi p1] (.tuple [zi r.1,zi r.2]):=by
 rw [zfp] at hm
 refine zaT.of Tryd.func38 rfl Tryd.ntmps38 (Nat.le_of_ble_eq_true rfl) ?_
 refine W.sa 0 [0,1] ?_
 refine W.sa 0 [0,1] ?_
 refine W.cut (fun s h=>∃(v:Int) (w:Unit) (F:Gs),zdm p0 p1 v=some r/\AT 0 F [(0,.sl (p0.map zal)),(1,zi p1),(6,zi v)] [] s h) ?_ ?_
 ·replace ⟨h40,hm⟩:=zaA hm
  refine W.sa 0 [0,1,7] ?_
  refine W.block (W.sa 0 [0,1,7,15] ?_)
  refine W.cn hm ?_ ?_ <;> clear hm <;> intro hb41 hm
  ·refine W.sa 0 [4,5] ?_
   cases hm
   exact W.rt
  ·replace ⟨b42,h43,hm⟩:=za8 hm
   refine W.sq [] [(0,.sl (p0.map zal)),(1,zi p1),(7,.int .i32 ((rd p0 p1).Rune)),(20,.bool b42)] [] ?_
   clear h43
   refine W.cn hm ?_ ?_ <;> clear hm <;> intro hb44 hm
   ·refine W.sa 0 [4,5] ?_
    cases hm
    exact W.rt
   ·replace ⟨v45,h46,hm⟩:=zai hm
    have kh46:=zdv h46
    try simp only [hb41,hb44] at kh46
    refine W.sa 0 [0,1,7,37] ?_
    refine W.cn hm ?_ ?_ <;> clear hm <;> intro hb47 hm
    ·refine W.rg [] [(0,.sl (p0.map zal)),(1,zi p1),(6,zi 1)] [] ?_
     exact ⟨1,(),⟨[],[]⟩,hm,RO⟩
    ·replace ⟨v48,h49,hm⟩:=zai hm
     have kh49:=zdS h49
     try simp only [hb41,hb44,hb47] at kh49
     refine W.sq [] [(0,.sl (p0.map zal)),(1,zi p1),(40,.bool (v48||((rd p0 p1).Rune==45)))] [] ?_
     refine W.cn hm ?_ ?_ <;> clear hm <;> intro hb50 hm
     ·refine W.rg [] [(0,.sl (p0.map zal)),(1,zi p1),(6,zi 2)] [] ?_
      exact ⟨2,(),⟨[],[]⟩,hm,RO⟩
     ·refine W.sa 0 [4,5] ?_
      cases hm
      exact W.rt
 ·rintro s h ⟨i1,_,F,hm,hat⟩
  refine W.weak F hat ?_
  show WK _ _ _ _ _ [(0,.sl (p0.map zal)),(1,zi p1),(6,zi i1)] []
  rw [zdm] at hm
  refine W.sa 0 [0,6,8] ?_
  refine W.seq (W.block ?_)
  replace ⟨r31,hlr31,hm⟩:=zai hm
  refine W.mono (Q:=fun e0 s0 h0=>e0=.exit 1/\∃w:Unit,s0=[(6,zi i1),(8,zi r31)]/\h0=[]) (W.loopM (step:=zdl p0) (a0:=(zw (p1+1))) (fun (a:Int) (v:Unit)=>([(0,.sl (p0.map zal)),(6,zi i1),(8,zi a)],[])) () hlr31 ⟨[],[]⟩ RO ?_) ?_
  ·rintro i21 _ x hm hx
   rw [zdl] at hm
   show WK _ _ _ _ _ [(0,.sl (p0.map zal)),(6,zi i1),(8,zi i21)] []
   refine W.seq ?_
   replace ⟨h32,hm⟩:=zaA hm
   replace ⟨h33,hm⟩:=zaA hm
   replace ⟨v34,h35,hm⟩:=zai hm
   replace ⟨h36,hm⟩:=zaA hm
   replace ⟨v37,h38,hm⟩:=zai hm
   have kh35:=fun hg=>zdv (zb9 hg h35)
   have kh38:=fun hg=>zdS (zb9 hg h38)
   refine W.sqh [] [(0,.sl (p0.map zal)),(6,zi i1),(8,zi i21),(76,.bool ((decide (i21<(p0.length:Int))&&(!(rd p0 i21).Bad))&&(v34||v37)))] ?_
   refine W.cn hm ?_ ?_ <;> clear hm <;> intro hb39 hm
   ·refine W.skip (W.block (W.rg [] [(0,.sl (p0.map zal)),(6,zi i1),(8,zi (zw (i21+1)))] [] ?_))
    cases hm
    exact ⟨(zw (i21+1)),(),⟨[],[]⟩,rfl,RO⟩
   ·cases hm
    obtain rfl:=hx _ rfl
    exact W.wk ⟨[],[]⟩ [(6,zi i1),(8,zi i21)] [] (W.exit (show _/\_ from ⟨rfl,(),rfl,rfl⟩))
  ·rintro e0 s0 h0 ⟨rfl,_,rfl,rfl⟩
   show WK _ _ _ _ _ [(6,zi i1),(8,zi r31)] []
   refine W.sa 0 [4,5] ?_
   cases hm
   exact W.rt
theorem zjc{p0:ByteArray}{r:Int × Int}(hm:zeP p0=some r):zaT Tryd.prog 40 [.str p0] (.tuple [zi r.1,zi r.2]):=by
 rw [zeP] at hm
 refine zaT.of Tryd.func40 rfl Tryd.ntmps40 (Nat.le_of_ble_eq_true rfl) ?_
 refine W.sa 0 [0] ?_
 refine W.sa 0 [0,4,5] ?_
 refine W.seq (W.sa 1 [4,5,9] ?_)
 refine W.block ?_
 replace ⟨r19,hlr19,hm⟩:=zai hm
 refine W.mono (Q:=fun e0 s0 h0=>e0=.exit 0/\∃w:Unit,s0=[(4,zi r19.1),(5,zi r19.2)]/\h0=[]) (W.loopM (step:=zcb p0) (a0:=(1,1,0)) (fun (a:Int × Int × Nat) (v:Unit)=>([(4,zi a.1),(5,zi a.2.1),(9,.ptr 0 0 0)],[.siter p0 a.2.2])) () hlr19 ⟨[],[]⟩ RO ?_) ?_
 ·rintro ⟨i10,i11,n12⟩ _ x hm hx
  rw [zcb] at hm
  show WK _ _ _ _ _ [(4,zi i10),(5,zi i11),(9,.ptr 0 0 0)] [.siter p0 n12]
  by_cases hb20:n12<p0.size
  ·rw [if_pos hb20] at hm
   refine W.sa 1 [4,5,9,10,11] ?_
   refine W.seq (W.cnd true (fun _=>?_) (fun hx=>by cases hx))
   refine W.skip (W.block (W.sa 1 [4,5,7,9] ?_))
   replace ⟨v21,h22,hm⟩:=zai hm
   have kh22:=zfP h22
   try simp only [hb20] at kh22
   refine W.rg [] [(4,zi v21.1),(5,zi v21.2),(9,.ptr 0 0 0)] [.siter p0 (n12+(Utf8.decode p0 n12).2)] ?_
   cases hm
   exact ⟨(v21.1,v21.2,(n12+(Utf8.decode p0 n12).2)),(),⟨[],[]⟩,rfl,RO⟩
  ·rw [if_neg hb20] at hm
   refine W.sa 1 [4,5,9,10,11] ?_
   refine W.seq (W.cnd false (fun hx=>by cases hx) (fun _=>?_))
   cases hm
   obtain rfl:=hx _ rfl
   exact W.wk ⟨[],[]⟩ [(4,zi i10),(5,zi i11)] [] (W.exit (show _/\_ from ⟨rfl,(),rfl,rfl⟩))
 ·rintro e0 s0 h0 ⟨rfl,_,rfl,rfl⟩
  show WK _ _ _ _ _ [(4,zi r19.1),(5,zi r19.2)] []
  refine W.sa 0 [2,3] ?_
  cases hm
  exact W.rt
end Go.Proofs.YtocjejladeeckaaDoor
