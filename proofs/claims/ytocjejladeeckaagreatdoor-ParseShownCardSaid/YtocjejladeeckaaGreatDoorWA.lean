import Derived.Test.YtocjejladeeckaaGreatDoorVFacts
import Derived.Test.YtocjejladeeckaaGreatDoorVu3
import Derived.Test.YtocjejladeeckaaGreatDoorPalA
set_option linter.all false
set_option maxRecDepth 100000
set_option maxHeartbeats 4000000
namespace Go.Proofs.YtocjejladeeckaaGreatDoor
open Go.Vs
variable [Tab]
theorem zh1{p0:ByteArray}{p1:Int}{r:ByteArray}(hm:zcT p0 p1=some r):zaE Tryz.prog 9 [.str p0,zi p1] (.str r):=by
 rw [zcT] at hm
 refine zaE.of Tryz.func9 rfl Tryz.ntmps9 (Nat.le_of_ble_eq_true rfl) ?_
 refine W.sa 0 [0,1] ?_
 replace ⟨h1,hm⟩:=zap hm
 replace ⟨s2,h3,hm⟩:=zaN hm
 refine W.sq [] [(4,.str s2)] [] ?_
 clear h3
 cases hm
 exact W.rt
theorem zdD{p0:Int}{r:ByteArray}(hm:zcl p0=some r):zaE Tryz.prog 20 [zi p0] (.str r):=by
 rw [zcl] at hm
 refine zaE.of Tryz.func20 rfl Tryz.ntmps20 (Nat.le_of_ble_eq_true rfl) ?_
 refine W.sa 0 [0] ?_
 refine W.sa 0 [0,3] ?_
 refine W.cut (fun s h=>∃(v:Int) (w:Unit) (F:Gs),zcn p0 v=some r/\AT 0 F [(0,zi p0),(3,.int .u64 v)] [] s h) ?_ ?_
 ·refine W.sa 0 [0,3,8] ?_
  refine W.cn hm ?_ ?_ <;> clear hm <;> intro hb26 hm
  ·refine W.rg [] [(0,zi p0),(3,.int .u64 (IntKind.wrap .u64 (0-(IntKind.wrap .u64 p0))))] [] ?_
   exact ⟨(IntKind.wrap .u64 (0-(IntKind.wrap .u64 p0))),(),⟨[],[]⟩,hm,RO⟩
  ·refine W.skip ?_
   exact ⟨(IntKind.wrap .u64 p0),(),⟨[],[]⟩,hm,RO⟩
 ·rintro s h ⟨i1,_,F,hm,hat⟩
  refine W.weak F hat ?_
  show WK _ _ _ _ _ [(0,zi p0),(3,.int .u64 i1)] []
  rw [zcn] at hm
  refine W.sa 0 [0,3,4] ?_
  refine W.seq (W.block ?_)
  replace ⟨r19,hlr19,hm⟩:=zah hm
  refine W.mono (Q:=fun e0 s0 h0=>e0=.exit 0/\∃w:Unit,s0=[(0,zi p0),(4,.str r19)]/\h0=[]) (W.loopM (step:=za7) (a0:=(i1,(⟨#[]⟩:ByteArray))) (fun (a:Int × ByteArray) (v:Unit)=>([(0,zi p0),(3,.int .u64 a.1),(4,.str a.2)],[])) () hlr19 ⟨[],[]⟩ RO ?_) ?_
  ·rintro ⟨i12,s13⟩ _ x hm hx
   rw [za7] at hm
   show WK _ _ _ _ _ [(0,zi p0),(3,.int .u64 i12),(4,.str s13)] []
   refine W.seq (W.sqh [] [(0,zi p0),(3,.int .u64 i12),(4,.str s13),(16,.bool (decide (i12>0)||decide (s13=(⟨#[]⟩:ByteArray))))] ?_)
   refine W.cn hm ?_ ?_ <;> clear hm <;> intro hb20 hm
   ·refine W.skip (W.block ?_)
    replace ⟨h21,hm⟩:=zap hm
    replace ⟨s22,h23,hm⟩:=zaN hm
    refine W.sq [] [(0,zi p0),(3,.int .u64 i12),(4,.str s22)] [] ?_
    clear h23
    refine W.rg [] [(0,zi p0),(3,.int .u64 (IntKind.wrap .u64 (Int.tdiv i12 10))),(4,.str s22)] [] ?_
    cases hm
    exact ⟨((IntKind.wrap .u64 (Int.tdiv i12 10)),s22),(),⟨[],[]⟩,rfl,RO⟩
   ·cases hm
    obtain rfl:=hx _ rfl
    exact W.wk ⟨[],[]⟩ [(0,zi p0),(4,.str s13)] [] (W.exit (show _/\_ from ⟨rfl,(),rfl,rfl⟩))
  ·rintro e0 s0 h0 ⟨rfl,_,rfl,rfl⟩
   show WK _ _ _ _ _ [(0,zi p0),(4,.str r19)] []
   refine W.seq (W.sa 0 [4,28] ?_)
   refine W.cn hm ?_ ?_ <;> clear hm <;> intro hb24 hm
   ·replace ⟨h25,hm⟩:=zap hm
    refine W.sa 0 [2] ?_
    cases hm
    exact W.rt
   ·refine W.skip (W.sa 0 [2] ?_)
    cases hm
    exact W.rt
theorem ziC{p0:Int}{p1:Int}{p2:Int}{r:Int × Int}(hm:zfc p0 p1 p2=some r):zaE Tryz.prog 76 [zi p0,zi p1,.int .i32 p2] (.tuple [zi r.1,zi r.2]):=by
 rw [zfc] at hm
 refine zaE.of Tryz.func76 rfl Tryz.ntmps76 (Nat.le_of_ble_eq_true rfl) ?_
 refine W.sa 0 [0,1,2] ?_
 refine W.seq (W.sa 0 [0,1,9] ?_)
 refine W.cn hm ?_ ?_ <;> clear hm <;> intro hb1 hm
 ·refine W.sa 0 [6,7] ?_
  cases hm
  exact W.rt
 ·refine W.skip (W.sa 0 [6,7] ?_)
  cases hm
  exact W.rt
theorem zft{p0:Int}{r:Bool}(hm:zdJ p0=some r):zaE Tryz.prog 77 [.int .i32 p0] (.bool r):=by
 rw [zdJ] at hm
 refine zaE.of Tryz.func77 rfl Tryz.ntmps77 (Nat.le_of_ble_eq_true rfl) ?_
 refine W.sa 0 [0] ?_
 replace ⟨b1,h2,hm⟩:=zaN hm
 refine W.sq [] [(2,.bool b1)] [] ?_
 clear h2
 cases hm
 exact W.rt
theorem zfY{p0:Int}{r:Bool}(hm:zeb p0=some r):zaE Tryz.prog 78 [.int .i32 p0] (.bool r):=by
 rw [zeb] at hm
 refine zaE.of Tryz.func78 rfl Tryz.ntmps78 (Nat.le_of_ble_eq_true rfl) ?_
 refine W.sa 0 [0] ?_
 refine W.sq [] [(2,.bool (decide (p0≥48)&&decide (p0<=57)))] [] ?_
 cases hm
 exact W.rt
theorem zkZ{p0:Int}{r:Bool}(hm:zgA p0=some r):zaE Tryz.prog 51 [.int .i32 p0] (.bool r):=by
 rw [zgA] at hm
 refine zaE.of Tryz.func51 rfl Tryz.ntmps51 (Nat.le_of_ble_eq_true rfl) ?_
 refine W.sa 0 [0] ?_
 refine W.sq [] [(2,.bool ((p0==32)||(p0==9)))] [] ?_
 cases hm
 exact W.rt
theorem zhE{p0:Int}{r:Bool}(hm:zbz p0=some r):zaE Tryz.prog 27 [.int .i32 p0] (.bool r):=by
 rw [zbz] at hm
 refine zaE.of Tryz.func27 rfl Tryz.ntmps27 (Nat.le_of_ble_eq_true rfl) ?_
 refine W.sa 0 [0] ?_
 replace ⟨b1,h2,hm⟩:=zaN hm
 refine W.sq [] [(2,.bool b1)] [] ?_
 clear h2
 cases hm
 exact W.rt
theorem zhZ{p0:Int}{r:Bool}(hm:zcv p0=some r):zaE Tryz.prog 28 [.int .i32 p0] (.bool r):=by
 rw [zcv] at hm
 refine zaE.of Tryz.func28 rfl Tryz.ntmps28 (Nat.le_of_ble_eq_true rfl) ?_
 refine W.sa 0 [0] ?_
 refine W.sq [] [(2,.bool (decide (p0≥48)&&decide (p0<=57)))] [] ?_
 cases hm
 exact W.rt
theorem zfL{p0:Int}{p1:zal}{r:zai}(hm:zes p0 p1=some r):zaE Tryz.prog 50 [zi p0,.agg [.int .i32 p1.Rune,zi p1.At,zi p1.Size,zi p1.Line,zi p1.Col,.bool p1.Bad]] (.agg [zi r.Code,zi r.Line,zi r.Col]):=by
 rw [zes] at hm
 refine zaE.of Tryz.func50 rfl Tryz.ntmps50 (Nat.le_of_ble_eq_true rfl) ?_
 refine W.sa 2 [0,3,4] ?_
 refine W.sa 2 [4] ?_
 cases hm
 exact W.rt
theorem zpr{p0:(List zal)}{p1:Int}{r:Int × Int}(hm:zh5 p0 p1=some r):zaE Tryz.prog 52 [.sl (p0.map zax),zi p1] (.tuple [zi r.1,zi r.2]):=by
 rw [zh5] at hm
 refine zaE.of Tryz.func52 rfl Tryz.ntmps52 (Nat.le_of_ble_eq_true rfl) ?_
 refine W.sa 0 [0,1] ?_
 refine W.sa 0 [0,1] ?_
 refine W.cut (fun s h=>∃(v:Int) (w:Unit) (F:Gs),zfb p0 p1 v=some r/\AT 0 F [(0,.sl (p0.map zax)),(1,zi p1),(6,zi v)] [] s h) ?_ ?_
 ·replace ⟨h40,hm⟩:=zap hm
  refine W.sa 0 [0,1,7] ?_
  refine W.block (W.sa 0 [0,1,7,15] ?_)
  refine W.cn hm ?_ ?_ <;> clear hm <;> intro hb41 hm
  ·refine W.sa 0 [4,5] ?_
   cases hm
   exact W.rt
  ·replace ⟨b42,h43,hm⟩:=zaN hm
   refine W.sq [] [(0,.sl (p0.map zax)),(1,zi p1),(7,.int .i32 ((rd p0 p1).Rune)),(20,.bool b42)] [] ?_
   clear h43
   refine W.cn hm ?_ ?_ <;> clear hm <;> intro hb44 hm
   ·refine W.sa 0 [4,5] ?_
    cases hm
    exact W.rt
   ·replace ⟨v45,h46,hm⟩:=zah hm
    have kh46:=zft h46
    try simp only [hb41,hb44] at kh46
    refine W.sa 0 [0,1,7,37] ?_
    refine W.cn hm ?_ ?_ <;> clear hm <;> intro hb47 hm
    ·refine W.rg [] [(0,.sl (p0.map zax)),(1,zi p1),(6,zi 1)] [] ?_
     exact ⟨1,(),⟨[],[]⟩,hm,RO⟩
    ·replace ⟨v48,h49,hm⟩:=zah hm
     have kh49:=zfY h49
     try simp only [hb41,hb44,hb47] at kh49
     refine W.sq [] [(0,.sl (p0.map zax)),(1,zi p1),(40,.bool (v48||((rd p0 p1).Rune==45)))] [] ?_
     refine W.cn hm ?_ ?_ <;> clear hm <;> intro hb50 hm
     ·refine W.rg [] [(0,.sl (p0.map zax)),(1,zi p1),(6,zi 2)] [] ?_
      exact ⟨2,(),⟨[],[]⟩,hm,RO⟩
     ·refine W.sa 0 [4,5] ?_
      cases hm
      exact W.rt
 ·rintro s h ⟨i1,_,F,hm,hat⟩
  refine W.weak F hat ?_
  show WK _ _ _ _ _ [(0,.sl (p0.map zax)),(1,zi p1),(6,zi i1)] []
  rw [zfb] at hm
  refine W.sa 0 [0,6,8] ?_
  refine W.seq (W.block ?_)
  replace ⟨r31,hlr31,hm⟩:=zah hm
  refine W.mono (Q:=fun e0 s0 h0=>e0=.exit 1/\∃w:Unit,s0=[(6,zi i1),(8,zi r31)]/\h0=[]) (W.loopM (step:=zfa p0) (a0:=(zw (p1+1))) (fun (a:Int) (v:Unit)=>([(0,.sl (p0.map zax)),(6,zi i1),(8,zi a)],[])) () hlr31 ⟨[],[]⟩ RO ?_) ?_
  ·rintro i21 _ x hm hx
   rw [zfa] at hm
   show WK _ _ _ _ _ [(0,.sl (p0.map zax)),(6,zi i1),(8,zi i21)] []
   refine W.seq ?_
   replace ⟨h32,hm⟩:=zap hm
   replace ⟨h33,hm⟩:=zap hm
   replace ⟨v34,h35,hm⟩:=zah hm
   replace ⟨h36,hm⟩:=zap hm
   replace ⟨v37,h38,hm⟩:=zah hm
   have kh35:=fun hg=>zft (zaW hg h35)
   have kh38:=fun hg=>zfY (zaW hg h38)
   refine W.sqh [] [(0,.sl (p0.map zax)),(6,zi i1),(8,zi i21),(76,.bool ((decide (i21<(p0.length:Int))&&(!(rd p0 i21).Bad))&&(v34||v37)))] ?_
   refine W.cn hm ?_ ?_ <;> clear hm <;> intro hb39 hm
   ·refine W.skip (W.block (W.rg [] [(0,.sl (p0.map zax)),(6,zi i1),(8,zi (zw (i21+1)))] [] ?_))
    cases hm
    exact ⟨(zw (i21+1)),(),⟨[],[]⟩,rfl,RO⟩
   ·cases hm
    obtain rfl:=hx _ rfl
    exact W.wk ⟨[],[]⟩ [(6,zi i1),(8,zi i21)] [] (W.exit (show _/\_ from ⟨rfl,(),rfl,rfl⟩))
  ·rintro e0 s0 h0 ⟨rfl,_,rfl,rfl⟩
   show WK _ _ _ _ _ [(6,zi i1),(8,zi r31)] []
   refine W.sa 0 [4,5] ?_
   cases hm
   exact W.rt
theorem znd{p0:ByteArray}{r:Int × Int}(hm:zhb p0=some r):zaE Tryz.prog 54 [.str p0] (.tuple [zi r.1,zi r.2]):=by
 rw [zhb] at hm
 refine zaE.of Tryz.func54 rfl Tryz.ntmps54 (Nat.le_of_ble_eq_true rfl) ?_
 refine W.sa 0 [0] ?_
 refine W.sa 0 [0,4,5] ?_
 refine W.seq (W.sa 1 [4,5,9] ?_)
 refine W.block ?_
 replace ⟨r19,hlr19,hm⟩:=zah hm
 refine W.mono (Q:=fun e0 s0 h0=>e0=.exit 0/\∃w:Unit,s0=[(4,zi r19.1),(5,zi r19.2)]/\h0=[]) (W.loopM (step:=zdl p0) (a0:=(1,1,0)) (fun (a:Int × Int × Nat) (v:Unit)=>([(4,zi a.1),(5,zi a.2.1),(9,.ptr 0 0 0)],[.siter p0 a.2.2])) () hlr19 ⟨[],[]⟩ RO ?_) ?_
 ·rintro ⟨i10,i11,n12⟩ _ x hm hx
  rw [zdl] at hm
  show WK _ _ _ _ _ [(4,zi i10),(5,zi i11),(9,.ptr 0 0 0)] [.siter p0 n12]
  by_cases hb20:n12<p0.size
  ·rw [if_pos hb20] at hm
   refine W.sa 1 [4,5,9,10,11] ?_
   refine W.seq (W.cnd true (fun _=>?_) (fun hx=>by cases hx))
   refine W.skip (W.block (W.sa 1 [4,5,7,9] ?_))
   replace ⟨v21,h22,hm⟩:=zah hm
   have kh22:=ziC h22
   try simp only [hb20] at kh22
   refine W.rg [] [(4,zi v21.1),(5,zi v21.2),(9,.ptr 0 0 0)] [.siter p0 (n12+(Utf8.decode p0 n12).2)] ?_
   cases hm
   exact ⟨(v21.1,v21.2,(n12+(Utf8.decode p0 n12).2)),(),⟨[],[]⟩,rfl,RO⟩
  ·rw [if_neg hb20] at hm
   refine W.sa 1 [4,5,9,10,11] ?_
   refine W.seq (W.cnd false (fun hx=>by cases hx) (fun _=>?_))
   cases hm
   obtain rfl:=hx _ rfl
   exact W.wk ⟨[],[]⟩ [(4,zi i10),(5,zi i11)] [] (W.exit (show _/\_ from ⟨rfl,(),rfl,rfl⟩))
 ·rintro e0 s0 h0 ⟨rfl,_,rfl,rfl⟩
  show WK _ _ _ _ _ [(4,zi r19.1),(5,zi r19.2)] []
  refine W.sa 0 [2,3] ?_
  cases hm
  exact W.rt
end Go.Proofs.YtocjejladeeckaaGreatDoor
