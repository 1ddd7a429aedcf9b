import Derived.Test.YtkgpofmbegonfaaGreatDoorVFacts
import Derived.Test.YtkgpofmbegonfaaGreatDoorPalA
set_option linter.all false
set_option maxRecDepth 100000
set_option maxHeartbeats 4000000
namespace Go.Proofs.YtkgpofmbegonfaaGreatDoor
open Go.Vs
variable [Tab]
theorem zfM{p0:Int}{r:ByteArray}(hm:zcw p0=some r):zaO Tryz.prog 19 [zi p0] (.str r):=by
 rw [zcw] at hm
 refine zaO.of Tryz.func19 rfl Tryz.ntmps19 (Nat.le_of_ble_eq_true rfl) ?_
 have e0:argS 0 [zi p0]=[(0,zi p0)]:=rfl
 rw [e0]
 refine W.sq [] [(0,zi p0)] [] ?_
 refine W.sqh [] [(0,zi p0),(3,.int .u64 (IntKind.wrap .u64 p0))] ?_
 refine W.cut (fun s h=>∃(v:Int) (w:Unit) (F:Gs),zbO p0 v=some r/\AT 0 F [(0,zi p0),(3,.int .u64 v)] [] s h) ?_ ?_
 ·refine W.sq [] [(0,zi p0),(3,.int .u64 (IntKind.wrap .u64 p0)),(8,.bool (decide (p0<0)))] [] ?_
  refine W.cnd (decide (p0<0)) (fun hb26=>?_) fun hb26=>?_
  ·replace hm:=zaK hb26 hm
   refine W.rg [] [(0,zi p0),(3,.int .u64 (IntKind.wrap .u64 (0-(IntKind.wrap .u64 p0))))] [] ?_
   exact ⟨(IntKind.wrap .u64 (0-(IntKind.wrap .u64 p0))),(),⟨[],[]⟩,hm,RO⟩
  ·replace hm:=zaV hb26 hm
   refine W.skip ?_
   exact ⟨(IntKind.wrap .u64 p0),(),⟨[],[]⟩,hm,RO⟩
 ·rintro s h ⟨i1,_,F,hm,hat⟩
  refine W.weak F hat ?_
  show WK _ _ _ _ _ [(0,zi p0),(3,.int .u64 i1)] []
  rw [zbO] at hm
  refine W.sqh [] [(0,zi p0),(3,.int .u64 i1),(4,.str (⟨#[]⟩:ByteArray))] ?_
  refine W.seq (W.block ?_)
  replace ⟨r19,hlr19,hm⟩:=zai hm
  refine W.mono (Q:=fun e0 s0 h0=>e0=.exit 0/\∃w:Unit,s0=[(0,zi p0),(4,.str r19)]/\h0=[]) (W.loopM (step:=za1) (a0:=(i1,(⟨#[]⟩:ByteArray))) (fun (a:Int × ByteArray) (v:Unit)=>([(0,zi p0),(3,.int .u64 a.1),(4,.str a.2)],[])) () hlr19 ⟨[],[]⟩ RO ?_) ?_
  ·rintro ⟨i12,s13⟩ _ x hm hx
   rw [za1] at hm
   show WK _ _ _ _ _ [(0,zi p0),(3,.int .u64 i12),(4,.str s13)] []
   refine W.seq (W.sqh [] [(0,zi p0),(3,.int .u64 i12),(4,.str s13),(16,.bool (decide (i12>0)||decide (s13=(⟨#[]⟩:ByteArray))))] ?_)
   refine W.cnd (decide (i12>0)||decide (s13=(⟨#[]⟩:ByteArray))) (fun hb20=>?_) fun hb20=>?_
   ·replace hm:=zaK hb20 hm
    refine W.skip (W.block ?_)
    replace ⟨h21,hm⟩:=zaA hm
    replace ⟨s22,h23,hm⟩:=zaY hm
    refine W.sq [] [(0,zi p0),(3,.int .u64 i12),(4,.str s22)] [] ?_
    clear h23
    refine W.rg [] [(0,zi p0),(3,.int .u64 (IntKind.wrap .u64 (Int.tdiv i12 10))),(4,.str s22)] [] ?_
    cases hm
    exact ⟨((IntKind.wrap .u64 (Int.tdiv i12 10)),s22),(),⟨[],[]⟩,rfl,RO⟩
   ·replace hm:=zaV hb20 hm
    cases hm
    obtain rfl:=hx _ rfl
    exact W.wk ⟨[],[]⟩ [(0,zi p0),(4,.str s13)] [] (W.exit (show _/\_ from ⟨rfl,(),rfl,rfl⟩))
  ·rintro e0 s0 h0 ⟨rfl,_,rfl,rfl⟩
   show WK _ _ _ _ _ [(0,zi p0),(4,.str r19)] []
   refine W.seq (W.sqh [] [(4,.str r19),(28,.bool (decide (p0<0)))] ?_)
   refine W.cnd (decide (p0<0)) (fun hb24=>?_) fun hb24=>?_
   ·replace hm:=zaK hb24 hm
    replace ⟨h25,hm⟩:=zaA hm
    refine W.sqh [] [(2,.str ((⟨#[45]⟩:ByteArray)++r19))] ?_
    cases hm
    exact W.rt
   ·replace hm:=zaV hb24 hm
    refine W.skip (W.sqh [] [(2,.str r19)] ?_)
    cases hm
    exact W.rt
theorem zf0{p0:Int}{p1:Int}{p2:Int}{r:Int × Int}(hm:zdM p0 p1 p2=some r):zaO Tryz.prog 164 [zi p0,zi p1,.int .i32 p2] (.tuple [zi r.1,zi r.2]):=by
 rw [zdM] at hm
 refine zaO.of Tryz.func164 rfl Tryz.ntmps164 (Nat.le_of_ble_eq_true rfl) ?_
 have e0:argS 0 [zi p0,zi p1,.int .i32 p2]=[(0,zi p0),(1,zi p1),(2,.int .i32 p2)]:=rfl
 rw [e0]
 refine W.sq [] [(0,zi p0),(1,zi p1),(2,.int .i32 p2)] [] ?_
 refine W.seq (W.sqh [] [(0,zi p0),(1,zi p1),(9,.bool (p2==10))] ?_)
 refine W.cnd (p2==10) (fun hb1=>?_) fun hb1=>?_
 ·replace hm:=zaK hb1 hm
  refine W.sqh [] [(6,zi (zw (p0+1))),(7,zi 1)] ?_
  cases hm
  exact W.rt
 ·replace hm:=zaV hb1 hm
  refine W.skip (W.sqh [] [(6,zi p0),(7,zi (zw (p1+1)))] ?_)
  cases hm
  exact W.rt
theorem zdW{p0:Int}{r:Bool}(hm:zcy p0=some r):zaO Tryz.prog 165 [.int .i32 p0] (.bool r):=by
 rw [zcy] at hm
 refine zaO.of Tryz.func165 rfl Tryz.ntmps165 (Nat.le_of_ble_eq_true rfl) ?_
 have e0:argS 0 [.int .i32 p0]=[(0,.int .i32 p0)]:=rfl
 rw [e0]
 refine W.sq [] [(0,.int .i32 p0)] [] ?_
 replace ⟨b1,h2,hm⟩:=zaY hm
 refine W.sqh [] [(2,.bool b1)] ?_
 clear h2
 cases hm
 exact W.rt
theorem zec{p0:Int}{r:Bool}(hm:zc0 p0=some r):zaO Tryz.prog 166 [.int .i32 p0] (.bool r):=by
 rw [zc0] at hm
 refine zaO.of Tryz.func166 rfl Tryz.ntmps166 (Nat.le_of_ble_eq_true rfl) ?_
 have e0:argS 0 [.int .i32 p0]=[(0,.int .i32 p0)]:=rfl
 rw [e0]
 refine W.sq [] [(0,.int .i32 p0)] [] ?_
 refine W.sqh [] [(2,.bool (decide (p0≥48)&&decide (p0<=57)))] ?_
 cases hm
 exact W.rt
theorem zhS{p0:Int}{r:Bool}(hm:zeD p0=some r):zaO Tryz.prog 101 [.int .i32 p0] (.bool r):=by
 rw [zeD] at hm
 refine zaO.of Tryz.func101 rfl Tryz.ntmps101 (Nat.le_of_ble_eq_true rfl) ?_
 have e0:argS 0 [.int .i32 p0]=[(0,.int .i32 p0)]:=rfl
 rw [e0]
 refine W.sq [] [(0,.int .i32 p0)] [] ?_
 refine W.sqh [] [(2,.bool ((p0==32)||(p0==9)))] ?_
 cases hm
 exact W.rt
theorem zea{p0:Int}{p1:zam}{r:zah}(hm:zdg p0 p1=some r):zaO Tryz.prog 100 [zi p0,.agg [.int .i32 p1.Rune,zi p1.At,zi p1.Size,zi p1.Line,zi p1.Col,.bool p1.Bad]] (.agg [zi r.Code,zi r.Line,zi r.Col]):=by
 rw [zdg] at hm
 refine zaO.of Tryz.func100 rfl Tryz.ntmps100 (Nat.le_of_ble_eq_true rfl) ?_
 have e0:argS 0 [zi p0,.agg [.int .i32 p1.Rune,zi p1.At,zi p1.Size,zi p1.Line,zi p1.Col,.bool p1.Bad]]=[(0,zi p0),(1,.agg [.int .i32 p1.Rune,zi p1.At,zi p1.Size,zi p1.Line,zi p1.Col,.bool p1.Bad])]:=rfl
 rw [e0]
 refine W.sq [] [(0,zi p0),(3,.ptr 0 0 0),(4,.ptr 1 0 0)] [.cells (zal p1) 0 186,.cells [zi 0,zi 0,zi 0] 0 64] ?_
 refine W.sq [] [(4,.ptr 1 0 0)] [.dead,.cells [zi p0,zi p1.Line,zi p1.Col] 0 64] ?_
 cases hm
 exact W.rt
theorem zli{p0:(List zam)}{p1:Int}{r:Int × Int}(hm:zfy p0 p1=some r):zaO Tryz.prog 102 [.sl (p0.map zal),zi p1] (.tuple [zi r.1,zi r.2]):=by
 rw [zfy] at hm
 refine zaO.of Tryz.func102 rfl Tryz.ntmps102 (Nat.le_of_ble_eq_true rfl) ?_
 have e0:argS 0 [.sl (p0.map zal),zi p1]=[(0,.sl (p0.map zal)),(1,zi p1)]:=rfl
 rw [e0]
 refine W.sq [] [(0,.sl (p0.map zal)),(1,zi p1)] [] ?_
 refine W.sqh [] [(0,.sl (p0.map zal)),(1,zi p1)] ?_
 refine W.cut (fun s h=>∃(v:Int) (w:Unit) (F:Gs),zdK p0 p1 v=some r/\AT 0 F [(0,.sl (p0.map zal)),(1,zi p1),(6,zi v)] [] s h) ?_ ?_
 ·replace ⟨h40,hm⟩:=zaA hm
  refine W.sq [] [(0,.sl (p0.map zal)),(1,zi p1),(7,.int .i32 ((rd p0 p1).Rune))] [] ?_
  refine W.block (W.sq [] [(0,.sl (p0.map zal)),(1,zi p1),(7,.int .i32 ((rd p0 p1).Rune)),(15,.bool ((rd p0 p1).Rune==10))] [] ?_)
  refine W.cnd ((rd p0 p1).Rune==10) (fun hb41=>?_) fun hb41=>?_
  ·replace hm:=zaK hb41 hm
   refine W.sqh [] [(4,zi (zw (p1+1))),(5,zi 4)] ?_
   cases hm
   exact W.rt
  ·replace hm:=zaV hb41 hm
   replace ⟨b42,h43,hm⟩:=zaY hm
   refine W.sqh [] [(0,.sl (p0.map zal)),(1,zi p1),(7,.int .i32 ((rd p0 p1).Rune)),(20,.bool b42)] ?_
   clear h43
   refine W.cnd b42 (fun hb44=>?_) fun hb44=>?_
   ·replace hm:=zaK hb44 hm
    refine W.sq [] [(4,zi (zw (p1+1))),(5,zi 3)] [] ?_
    cases hm
    exact W.rt
   ·replace hm:=zaV hb44 hm
    replace ⟨v45,h46,hm⟩:=zai hm
    have kh46:=zdW h46
    try simp only [hb41,hb44] at kh46
    refine W.sqh [] [(0,.sl (p0.map zal)),(1,zi p1),(7,.int .i32 ((rd p0 p1).Rune)),(37,.bool v45)] ?_
    refine W.cnd v45 (fun hb47=>?_) fun hb47=>?_
    ·replace hm:=zaK hb47 hm
     refine W.rg [] [(0,.sl (p0.map zal)),(1,zi p1),(6,zi 1)] [] ?_
     exact ⟨1,(),⟨[],[]⟩,hm,RO⟩
    ·replace hm:=zaV hb47 hm
     replace ⟨v48,h49,hm⟩:=zai hm
     have kh49:=zec h49
     try simp only [hb41,hb44,hb47] at kh49
     refine W.sq [] [(0,.sl (p0.map zal)),(1,zi p1),(40,.bool (v48||((rd p0 p1).Rune==45)))] [] ?_
     refine W.cnd (v48||((rd p0 p1).Rune==45)) (fun hb50=>?_) fun hb50=>?_
     ·replace hm:=zaK hb50 hm
      refine W.rg [] [(0,.sl (p0.map zal)),(1,zi p1),(6,zi 2)] [] ?_
      exact ⟨2,(),⟨[],[]⟩,hm,RO⟩
     ·replace hm:=zaV hb50 hm
      refine W.sq [] [(4,zi p1),(5,zi 0)] [] ?_
      cases hm
      exact W.rt
 ·rintro s h ⟨i1,_,F,hm,hat⟩
  refine W.weak F hat ?_
  show WK _ _ _ _ _ [(0,.sl (p0.map zal)),(1,zi p1),(6,zi i1)] []
  rw [zdK] at hm
  refine W.sqh [] [(0,.sl (p0.map zal)),(6,zi i1),(8,zi (zw (p1+1)))] ?_
  refine W.seq (W.block ?_)
  replace ⟨r31,hlr31,hm⟩:=zai hm
  refine W.mono (Q:=fun e0 s0 h0=>e0=.exit 1/\∃w:Unit,s0=[(6,zi i1),(8,zi r31)]/\h0=[]) (W.loopM (step:=zdJ p0) (a0:=(zw (p1+1))) (fun (a:Int) (v:Unit)=>([(0,.sl (p0.map zal)),(6,zi i1),(8,zi a)],[])) () hlr31 ⟨[],[]⟩ RO ?_) ?_
  ·rintro i21 _ x hm hx
   rw [zdJ] at hm
   show WK _ _ _ _ _ [(0,.sl (p0.map zal)),(6,zi i1),(8,zi i21)] []
   refine W.seq ?_
   replace ⟨h32,hm⟩:=zaA hm
   replace ⟨h33,hm⟩:=zaA hm
   replace ⟨v34,h35,hm⟩:=zai hm
   replace ⟨h36,hm⟩:=zaA hm
   replace ⟨v37,h38,hm⟩:=zai hm
   have kh35:=fun hg=>zdW (zaK hg h35)
   have kh38:=fun hg=>zec (zaK hg h38)
   refine W.sqh [] [(0,.sl (p0.map zal)),(6,zi i1),(8,zi i21),(76,.bool ((decide (i21<(p0.length:Int))&&(!(rd p0 i21).Bad))&&(v34||v37)))] ?_
   refine W.cnd ((decide (i21<(p0.length:Int))&&(!(rd p0 i21).Bad))&&(v34||v37)) (fun hb39=>?_) fun hb39=>?_
   ·replace hm:=zaK hb39 hm
    refine W.skip (W.block (W.rg [] [(0,.sl (p0.map zal)),(6,zi i1),(8,zi (zw (i21+1)))] [] ?_))
    cases hm
    exact ⟨(zw (i21+1)),(),⟨[],[]⟩,rfl,RO⟩
   ·replace hm:=zaV hb39 hm
    cases hm
    obtain rfl:=hx _ rfl
    exact W.wk ⟨[],[]⟩ [(6,zi i1),(8,zi i21)] [] (W.exit (show _/\_ from ⟨rfl,(),rfl,rfl⟩))
  ·rintro e0 s0 h0 ⟨rfl,_,rfl,rfl⟩
   show WK _ _ _ _ _ [(6,zi i1),(8,zi r31)] []
   refine W.sqh [] [(4,zi r31),(5,zi i1)] ?_
   cases hm
   exact W.rt
theorem zjv{p0:ByteArray}{r:Int × Int}(hm:zeY p0=some r):zaO Tryz.prog 104 [.str p0] (.tuple [zi r.1,zi r.2]):=by
 rw [zeY] at hm
 refine zaO.of Tryz.func104 rfl Tryz.ntmps104 (Nat.le_of_ble_eq_true rfl) ?_
 have e0:argS 0 [.str p0]=[(0,.str p0)]:=rfl
 rw [e0]
 refine W.sq [] [(0,.str p0)] [] ?_
 refine W.sqh [] [(0,.str p0),(4,zi 1),(5,zi 1)] ?_
 refine W.seq (W.sq [] [(4,zi 1),(5,zi 1),(9,.ptr 0 0 0)] [.siter p0 0] ?_)
 refine W.block ?_
 replace ⟨r19,hlr19,hm⟩:=zai hm
 refine W.mono (Q:=fun e0 s0 h0=>e0=.exit 0/\∃w:Unit,s0=[(4,zi r19.1),(5,zi r19.2)]/\h0=[]) (W.loopM (step:=zcj p0) (a0:=(1,1,0)) (fun (a:Int × Int × Nat) (v:Unit)=>([(4,zi a.1),(5,zi a.2.1),(9,.ptr 0 0 0)],[.siter p0 a.2.2])) () hlr19 ⟨[],[]⟩ RO ?_) ?_
 ·rintro ⟨i10,i11,n12⟩ _ x hm hx
  rw [zcj] at hm
  show WK _ _ _ _ _ [(4,zi i10),(5,zi i11),(9,.ptr 0 0 0)] [.siter p0 n12]
  by_cases hb20:n12<p0.size
  ·rw [if_pos hb20] at hm
   refine W.sq [] [(4,zi i10),(5,zi i11),(9,.ptr 0 0 0),(10,.tuple [.bool true,zi (n12:Int),.int .i32 ((Utf8.decode p0 n12).1:Int)]),(11,.bool true)] [.siter p0 (n12+(Utf8.decode p0 n12).2)] ?_
   refine W.seq (W.cnd true (fun _=>?_) (fun hx=>by cases hx))
   refine W.skip (W.block (W.sq [] [(4,zi i10),(5,zi i11),(7,.int .i32 ((Utf8.decode p0 n12).1:Int)),(9,.ptr 0 0 0)] [.siter p0 (n12+(Utf8.decode p0 n12).2)] ?_))
   replace ⟨v21,h22,hm⟩:=zai hm
   have kh22:=zf0 h22
   try simp only [hb20] at kh22
   refine W.rg [] [(4,zi v21.1),(5,zi v21.2),(9,.ptr 0 0 0)] [.siter p0 (n12+(Utf8.decode p0 n12).2)] ?_
   cases hm
   exact ⟨(v21.1,v21.2,(n12+(Utf8.decode p0 n12).2)),(),⟨[],[]⟩,rfl,RO⟩
  ·rw [if_neg hb20] at hm
   refine W.sq [] [(4,zi i10),(5,zi i11),(9,.ptr 0 0 0),(10,.tuple [.bool false]),(11,.bool false)] [.siter p0 n12] ?_
   refine W.seq (W.cnd false (fun hx=>by cases hx) (fun _=>?_))
   cases hm
   obtain rfl:=hx _ rfl
   exact W.wk ⟨[],[]⟩ [(4,zi i10),(5,zi i11)] [] (W.exit (show _/\_ from ⟨rfl,(),rfl,rfl⟩))
 ·rintro e0 s0 h0 ⟨rfl,_,rfl,rfl⟩
  show WK _ _ _ _ _ [(4,zi r19.1),(5,zi r19.2)] []
  refine W.sqh [] [(2,zi r19.1),(3,zi r19.2)] ?_
  cases hm
  exact W.rt
end Go.Proofs.YtkgpofmbegonfaaGreatDoor
