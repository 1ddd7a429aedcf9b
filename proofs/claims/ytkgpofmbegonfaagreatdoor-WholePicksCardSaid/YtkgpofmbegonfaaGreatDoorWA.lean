import Derived.Test.YtkgpofmbegonfaaGreatDoorVFacts
import Derived.Test.YtkgpofmbegonfaaGreatDoorPalA
set_option linter.all false
set_option maxRecDepth 100000
set_option maxHeartbeats 4000000
namespace Go.Proofs.YtkgpofmbegonfaaGreatDoor
open Go.Vs
variable [Tab]
theorem zfo{p0:ByteArray}{p1:Int}{r:ByteArray}(hm:zcb p0 p1=some r):zaF Tryz.prog 5 [.str p0,zi p1] (.str r):=by
 rw [zcb] at hm
 refine zaF.of Tryz.func5 rfl Tryz.ntmps5 (Nat.le_of_ble_eq_true rfl) ?_
 have e0:argS 0 [.str p0,zi p1]=[(0,.str p0),(1,zi p1)]:=rfl
 rw [e0]
 refine W.sq [] [(0,.str p0),(1,zi p1)] [] ?_
 replace ⟨h1,hm⟩:=zau hm
 replace ⟨s2,h3,hm⟩:=zaN hm
 refine W.sqh [] [(4,.str s2)] ?_
 clear h3
 cases hm
 exact W.rt
theorem zfG{p0:ByteArray}{r:Int × Bool}(hm:zb5 p0=some r):zaF Tryz.prog 15 [.str p0] (.tuple [zi r.1,.bool r.2]):=by
 rw [zb5] at hm
 refine zaF.of Tryz.func15 rfl Tryz.ntmps15 (Nat.le_of_ble_eq_true rfl) ?_
 have e0:argS 0 [.str p0]=[(0,.str p0)]:=rfl
 rw [e0]
 refine W.sq [] [(0,.str p0)] [] ?_
 replace ⟨h1,hm⟩:=zau hm
 refine W.sqh [] [(0,.str p0),(4,.bool (decide ((p0.size:Int)>0)&&((bt p0 0)==45)))] ?_
 refine W.cut (fun s h=>∃(v:ByteArray) (w:Unit) (F:Gs),zbv p0 v=some r/\AT 0 F [(0,.str v),(4,.bool (decide ((p0.size:Int)>0)&&((bt p0 0)==45)))] [] s h) ?_ ?_
 ·refine W.sq [] [(0,.str p0),(4,.bool (decide ((p0.size:Int)>0)&&((bt p0 0)==45))),(15,.bool (decide ((p0.size:Int)>0)&&((bt p0 0)==45)))] [] ?_
  refine W.cnd (decide ((p0.size:Int)>0)&&((bt p0 0)==45)) (fun hb45=>?_) fun hb45=>?_
  ·replace hm:=zaB hb45 hm
   replace ⟨h46,hm⟩:=zau hm
   refine W.rg [] [(0,.str (p0.extract (Int.toNat 1) p0.size)),(4,.bool (decide ((p0.size:Int)>0)&&((bt p0 0)==45)))] [] ?_
   exact ⟨(p0.extract (Int.toNat 1) p0.size),(),⟨[],[]⟩,hm,RO⟩
  ·replace hm:=zaI hb45 hm
   refine W.skip ?_
   exact ⟨p0,(),⟨[],[]⟩,hm,RO⟩
 ·rintro s h ⟨s2,_,F,hm,hat⟩
  refine W.weak F hat ?_
  show WK _ _ _ _ _ [(0,.str s2),(4,.bool (decide ((p0.size:Int)>0)&&((bt p0 0)==45)))] []
  rw [zbv] at hm
  refine W.seq ?_
  replace ⟨h3,hm⟩:=zau hm
  replace ⟨b4,h5,hm⟩:=zaN hm
  refine W.sqh [] [(0,.str s2),(4,.bool (decide ((p0.size:Int)>0)&&((bt p0 0)==45))),(37,.bool b4)] ?_
  clear h5
  refine W.cnd b4 (fun hb6=>?_) fun hb6=>?_
  ·replace hm:=zaB hb6 hm
   refine W.sq [] [(2,zi 0),(3,.bool false)] [] ?_
   cases hm
   exact W.rt
  ·replace hm:=zaI hb6 hm
   refine W.skip (W.sqh [] [(0,.str s2),(4,.bool (decide ((p0.size:Int)>0)&&((bt p0 0)==45))),(5,.int .u64 0)] ?_)
   refine W.seq (W.sqh [] [(0,.str s2),(4,.bool (decide ((p0.size:Int)>0)&&((bt p0 0)==45))),(5,.int .u64 0),(6,zi 0)] ?_)
   refine W.block ?_
   replace ⟨r34,hlr34,hm⟩:=zag hm
   refine W.mono (Q:=fun e0 s0 h0=>match r34 with | .inl e=>e0=.exit 0/\∃w:Unit,s0=[(4,.bool (decide ((p0.size:Int)>0)&&((bt p0 0)==45))),(5,.int .u64 e)]/\h0=[] | .inr q=>e0=.ret/\s0=[(2,zi q.1),(3,.bool q.2)]/\h0=[]) (W.loopM (step:=zaO s2) (a0:=(0,0)) (fun (a:Int × Int) (v:Unit)=>([(0,.str s2),(4,.bool (decide ((p0.size:Int)>0)&&((bt p0 0)==45))),(5,.int .u64 a.1),(6,zi a.2)],[])) () hlr34 ⟨[],[]⟩ RO ?_) ?_
   ·rintro ⟨i23,i24⟩ _ x hm hx
    rw [zaO] at hm
    show WK _ _ _ _ _ [(0,.str s2),(4,.bool (decide ((p0.size:Int)>0)&&((bt p0 0)==45))),(5,.int .u64 i23),(6,zi i24)] []
    refine W.seq (W.sqh [] [(0,.str s2),(4,.bool (decide ((p0.size:Int)>0)&&((bt p0 0)==45))),(5,.int .u64 i23),(6,zi i24),(41,.bool (decide (i24<(s2.size:Int))))] ?_)
    refine W.cnd (decide (i24<(s2.size:Int))) (fun hb35=>?_) fun hb35=>?_
    ·replace hm:=zaB hb35 hm
     refine W.skip (W.seq (W.block (W.seq ?_)))
     replace ⟨h36,hm⟩:=zau hm
     replace ⟨h37,hm⟩:=zau hm
     refine W.sq [] [(0,.str s2),(4,.bool (decide ((p0.size:Int)>0)&&((bt p0 0)==45))),(5,.int .u64 i23),(6,zi i24),(53,.bool (decide ((bt s2 i24)<48)||decide ((bt s2 i24)>57)))] [] ?_
     refine W.cnd (decide ((bt s2 i24)<48)||decide ((bt s2 i24)>57)) (fun hb38=>?_) fun hb38=>?_
     ·replace hm:=zaB hb38 hm
      refine W.sqh [] [(2,zi 0),(3,.bool false)] ?_
      cases hm
      obtain rfl:=hx _ rfl
      exact W.wk ⟨[],[]⟩ [(2,zi 0),(3,.bool false)] [] (W.ret (show _/\_ from ⟨rfl,rfl,rfl⟩))
     ·replace hm:=zaI hb38 hm
      refine W.skip ?_
      replace ⟨h39,hm⟩:=zau hm
      replace ⟨n40,h41,hm⟩:=zaN hm
      refine W.rg [] [(0,.str s2),(4,.bool (decide ((p0.size:Int)>0)&&((bt p0 0)==45))),(5,.int .u64 n40),(6,zi i24)] [] ?_
      clear h41
      refine W.rg [] [(0,.str s2),(4,.bool (decide ((p0.size:Int)>0)&&((bt p0 0)==45))),(5,.int .u64 n40),(6,zi (zw (i24+1)))] [] ?_
      cases hm
      exact ⟨(n40,(zw (i24+1))),(),⟨[],[]⟩,rfl,RO⟩
    ·replace hm:=zaI hb35 hm
     cases hm
     obtain rfl:=hx _ rfl
     exact W.wk ⟨[],[]⟩ [(4,.bool (decide ((p0.size:Int)>0)&&((bt p0 0)==45))),(5,.int .u64 i23)] [] (W.exit (show _/\_ from ⟨rfl,(),rfl,rfl⟩))
   ·intro e0 s0 h0 hq
    rcases r34 with er34 | qr34
    ·obtain ⟨rfl,_,rfl,rfl⟩:=hq
     replace hm:=zc9 hm
     show WK _ _ _ _ _ [(4,.bool (decide ((p0.size:Int)>0)&&((bt p0 0)==45))),(5,.int .u64 er34)] []
     refine W.seq (W.sqh [] [(5,.int .u64 er34),(62,.bool (decide ((p0.size:Int)>0)&&((bt p0 0)==45)))] ?_)
     refine W.cnd (decide ((p0.size:Int)>0)&&((bt p0 0)==45)) (fun hb42=>?_) fun hb42=>?_
     ·replace hm:=zaB hb42 hm
      refine W.seq (W.sqh [] [(5,.int .u64 er34),(64,.bool (decide (er34>9223372036854775808)))] ?_)
      refine W.cnd (decide (er34>9223372036854775808)) (fun hb43=>?_) fun hb43=>?_
      ·replace hm:=zaB hb43 hm
       refine W.sqh [] [(2,zi 0),(3,.bool false)] ?_
       cases hm
       exact W.rt
      ·replace hm:=zaI hb43 hm
       refine W.skip (W.sqh [] [(2,zi (zw (IntKind.wrap .u64 (0-er34)))),(3,.bool true)] ?_)
       cases hm
       exact W.rt
     ·replace hm:=zaI hb42 hm
      refine W.skip (W.seq (W.sqh [] [(5,.int .u64 er34),(69,.bool (decide (er34≥9223372036854775808)))] ?_))
      refine W.cnd (decide (er34≥9223372036854775808)) (fun hb44=>?_) fun hb44=>?_
      ·replace hm:=zaB hb44 hm
       refine W.sqh [] [(2,zi 0),(3,.bool false)] ?_
       cases hm
       exact W.rt
      ·replace hm:=zaI hb44 hm
       refine W.skip (W.sqh [] [(2,zi (zw er34)),(3,.bool true)] ?_)
       cases hm
       exact W.rt
    ·obtain ⟨rfl,rfl,rfl⟩:=hq
     replace hm:=zc8 hm
     cases hm
     exact zcj.retW [] RO
theorem zfS{p0:Int}{p1:Int}{p2:Int}{r:Int × Int}(hm:zdz p0 p1 p2=some r):zaF Tryz.prog 164 [zi p0,zi p1,.int .i32 p2] (.tuple [zi r.1,zi r.2]):=by
 rw [zdz] at hm
 refine zaF.of Tryz.func164 rfl Tryz.ntmps164 (Nat.le_of_ble_eq_true rfl) ?_
 have e0:argS 0 [zi p0,zi p1,.int .i32 p2]=[(0,zi p0),(1,zi p1),(2,.int .i32 p2)]:=rfl
 rw [e0]
 refine W.sq [] [(0,zi p0),(1,zi p1),(2,.int .i32 p2)] [] ?_
 refine W.seq (W.sqh [] [(0,zi p0),(1,zi p1),(9,.bool (p2==10))] ?_)
 refine W.cnd (p2==10) (fun hb1=>?_) fun hb1=>?_
 ·replace hm:=zaB hb1 hm
  refine W.sqh [] [(6,zi (zw (p0+1))),(7,zi 1)] ?_
  cases hm
  exact W.rt
 ·replace hm:=zaI hb1 hm
  refine W.skip (W.sqh [] [(6,zi p0),(7,zi (zw (p1+1)))] ?_)
  cases hm
  exact W.rt
theorem zdL{p0:Int}{r:Bool}(hm:zcp p0=some r):zaF Tryz.prog 165 [.int .i32 p0] (.bool r):=by
 rw [zcp] at hm
 refine zaF.of Tryz.func165 rfl Tryz.ntmps165 (Nat.le_of_ble_eq_true rfl) ?_
 have e0:argS 0 [.int .i32 p0]=[(0,.int .i32 p0)]:=rfl
 rw [e0]
 refine W.sq [] [(0,.int .i32 p0)] [] ?_
 replace ⟨b1,h2,hm⟩:=zaN hm
 refine W.sqh [] [(2,.bool b1)] ?_
 clear h2
 cases hm
 exact W.rt
theorem zd5{p0:Int}{r:Bool}(hm:zcI p0=some r):zaF Tryz.prog 166 [.int .i32 p0] (.bool r):=by
 rw [zcI] at hm
 refine zaF.of Tryz.func166 rfl Tryz.ntmps166 (Nat.le_of_ble_eq_true rfl) ?_
 have e0:argS 0 [.int .i32 p0]=[(0,.int .i32 p0)]:=rfl
 rw [e0]
 refine W.sq [] [(0,.int .i32 p0)] [] ?_
 refine W.sqh [] [(2,.bool (decide (p0≥48)&&decide (p0<=57)))] ?_
 cases hm
 exact W.rt
theorem zhE{p0:Int}{r:Bool}(hm:zex p0=some r):zaF Tryz.prog 101 [.int .i32 p0] (.bool r):=by
 rw [zex] at hm
 refine zaF.of Tryz.func101 rfl Tryz.ntmps101 (Nat.le_of_ble_eq_true rfl) ?_
 have e0:argS 0 [.int .i32 p0]=[(0,.int .i32 p0)]:=rfl
 rw [e0]
 refine W.sq [] [(0,.int .i32 p0)] [] ?_
 refine W.sqh [] [(2,.bool ((p0==32)||(p0==9)))] ?_
 cases hm
 exact W.rt
theorem zd0{p0:Int}{p1:zak}{r:zai}(hm:zc3 p0 p1=some r):zaF Tryz.prog 100 [zi p0,.agg [.int .i32 p1.Rune,zi p1.At,zi p1.Size,zi p1.Line,zi p1.Col,.bool p1.Bad]] (.agg [zi r.Code,zi r.Line,zi r.Col]):=by
 rw [zc3] at hm
 refine zaF.of Tryz.func100 rfl Tryz.ntmps100 (Nat.le_of_ble_eq_true rfl) ?_
 have e0:argS 0 [zi p0,.agg [.int .i32 p1.Rune,zi p1.At,zi p1.Size,zi p1.Line,zi p1.Col,.bool p1.Bad]]=[(0,zi p0),(1,.agg [.int .i32 p1.Rune,zi p1.At,zi p1.Size,zi p1.Line,zi p1.Col,.bool p1.Bad])]:=rfl
 rw [e0]
 refine W.sq [] [(0,zi p0),(3,.ptr 0 0 0),(4,.ptr 1 0 0)] [.cells (zam p1) 0 186,.cells [zi 0,zi 0,zi 0] 0 64] ?_
 refine W.sq [] [(4,.ptr 1 0 0)] [.dead,.cells [zi p0,zi p1.Line,zi p1.Col] 0 64] ?_
 cases hm
 exact W.rt
theorem zkN{p0:(List zak)}{p1:Int}{r:Int × Int}(hm:zft p0 p1=some r):zaF Tryz.prog 102 [.sl (p0.map zam),zi p1] (.tuple [zi r.1,zi r.2]):=by
 rw [zft] at hm
 refine zaF.of Tryz.func102 rfl Tryz.ntmps102 (Nat.le_of_ble_eq_true rfl) ?_
 have e0:argS 0 [.sl (p0.map zam),zi p1]=[(0,.sl (p0.map zam)),(1,zi p1)]:=rfl
 rw [e0]
 refine W.sq [] [(0,.sl (p0.map zam)),(1,zi p1)] [] ?_
 refine W.sqh [] [(0,.sl (p0.map zam)),(1,zi p1)] ?_
 refine W.cut (fun s h=>∃(v:Int) (w:Unit) (F:Gs),zdx p0 p1 v=some r/\AT 0 F [(0,.sl (p0.map zam)),(1,zi p1),(6,zi v)] [] s h) ?_ ?_
 ·replace ⟨h40,hm⟩:=zau hm
  refine W.sq [] [(0,.sl (p0.map zam)),(1,zi p1),(7,.int .i32 ((rd p0 p1).Rune))] [] ?_
  refine W.block (W.sq [] [(0,.sl (p0.map zam)),(1,zi p1),(7,.int .i32 ((rd p0 p1).Rune)),(15,.bool ((rd p0 p1).Rune==10))] [] ?_)
  refine W.cnd ((rd p0 p1).Rune==10) (fun hb41=>?_) fun hb41=>?_
  ·replace hm:=zaB hb41 hm
   refine W.sqh [] [(4,zi (zw (p1+1))),(5,zi 4)] ?_
   cases hm
   exact W.rt
  ·replace hm:=zaI hb41 hm
   replace ⟨b42,h43,hm⟩:=zaN hm
   refine W.sqh [] [(0,.sl (p0.map zam)),(1,zi p1),(7,.int .i32 ((rd p0 p1).Rune)),(20,.bool b42)] ?_
   clear h43
   refine W.cnd b42 (fun hb44=>?_) fun hb44=>?_
   ·replace hm:=zaB hb44 hm
    refine W.sq [] [(4,zi (zw (p1+1))),(5,zi 3)] [] ?_
    cases hm
    exact W.rt
   ·replace hm:=zaI hb44 hm
    replace ⟨v45,h46,hm⟩:=zag hm
    have kh46:=zdL h46
    try simp only [hb41,hb44] at kh46
    refine W.sqh [] [(0,.sl (p0.map zam)),(1,zi p1),(7,.int .i32 ((rd p0 p1).Rune)),(37,.bool v45)] ?_
    refine W.cnd v45 (fun hb47=>?_) fun hb47=>?_
    ·replace hm:=zaB hb47 hm
     refine W.rg [] [(0,.sl (p0.map zam)),(1,zi p1),(6,zi 1)] [] ?_
     exact ⟨1,(),⟨[],[]⟩,hm,RO⟩
    ·replace hm:=zaI hb47 hm
     replace ⟨v48,h49,hm⟩:=zag hm
     have kh49:=zd5 h49
     try simp only [hb41,hb44,hb47] at kh49
     refine W.sq [] [(0,.sl (p0.map zam)),(1,zi p1),(40,.bool (v48||((rd p0 p1).Rune==45)))] [] ?_
     refine W.cnd (v48||((rd p0 p1).Rune==45)) (fun hb50=>?_) fun hb50=>?_
     ·replace hm:=zaB hb50 hm
      refine W.rg [] [(0,.sl (p0.map zam)),(1,zi p1),(6,zi 2)] [] ?_
      exact ⟨2,(),⟨[],[]⟩,hm,RO⟩
     ·replace hm:=zaI hb50 hm
      refine W.sq [] [(4,zi p1),(5,zi 0)] [] ?_
      cases hm
      exact W.rt
 ·rintro s h ⟨i1,_,F,hm,hat⟩
  refine W.weak F hat ?_
  show WK _ _ _ _ _ [(0,.sl (p0.map zam)),(1,zi p1),(6,zi i1)] []
  rw [zdx] at hm
  refine W.sqh [] [(0,.sl (p0.map zam)),(6,zi i1),(8,zi (zw (p1+1)))] ?_
  refine W.seq (W.block ?_)
  replace ⟨r31,hlr31,hm⟩:=zag hm
  refine W.mono (Q:=fun e0 s0 h0=>e0=.exit 1/\∃w:Unit,s0=[(6,zi i1),(8,zi r31)]/\h0=[]) (W.loopM (step:=zdw p0) (a0:=(zw (p1+1))) (fun (a:Int) (v:Unit)=>([(0,.sl (p0.map zam)),(6,zi i1),(8,zi a)],[])) () hlr31 ⟨[],[]⟩ RO ?_) ?_
  ·rintro i21 _ x hm hx
   rw [zdw] at hm
   show WK _ _ _ _ _ [(0,.sl (p0.map zam)),(6,zi i1),(8,zi i21)] []
   refine W.seq ?_
   replace ⟨h32,hm⟩:=zau hm
   replace ⟨h33,hm⟩:=zau hm
   replace ⟨v34,h35,hm⟩:=zag hm
   replace ⟨h36,hm⟩:=zau hm
   replace ⟨v37,h38,hm⟩:=zag hm
   have kh35:=fun hg=>zdL (zaB hg h35)
   have kh38:=fun hg=>zd5 (zaB hg h38)
   refine W.sqh [] [(0,.sl (p0.map zam)),(6,zi i1),(8,zi i21),(76,.bool ((decide (i21<(p0.length:Int))&&(!(rd p0 i21).Bad))&&(v34||v37)))] ?_
   refine W.cnd ((decide (i21<(p0.length:Int))&&(!(rd p0 i21).Bad))&&(v34||v37)) (fun hb39=>?_) fun hb39=>?_
   ·replace hm:=zaB hb39 hm
    refine W.skip (W.block (W.rg [] [(0,.sl (p0.map zam)),(6,zi i1),(8,zi (zw (i21+1)))] [] ?_))
    cases hm
    exact ⟨(zw (i21+1)),(),⟨[],[]⟩,rfl,RO⟩
   ·replace hm:=zaI hb39 hm
    cases hm
    obtain rfl:=hx _ rfl
    exact W.wk ⟨[],[]⟩ [(6,zi i1),(8,zi i21)] [] (W.exit (show _/\_ from ⟨rfl,(),rfl,rfl⟩))
  ·rintro e0 s0 h0 ⟨rfl,_,rfl,rfl⟩
   show WK _ _ _ _ _ [(6,zi i1),(8,zi r31)] []
   refine W.sqh [] [(4,zi r31),(5,zi i1)] ?_
   cases hm
   exact W.rt
theorem zje{p0:ByteArray}{r:Int × Int}(hm:zeN p0=some r):zaF Tryz.prog 104 [.str p0] (.tuple [zi r.1,zi r.2]):=by
 rw [zeN] at hm
 refine zaF.of Tryz.func104 rfl Tryz.ntmps104 (Nat.le_of_ble_eq_true rfl) ?_
 have e0:argS 0 [.str p0]=[(0,.str p0)]:=rfl
 rw [e0]
 refine W.sq [] [(0,.str p0)] [] ?_
 refine W.sqh [] [(0,.str p0),(4,zi 1),(5,zi 1)] ?_
 refine W.seq (W.sq [] [(4,zi 1),(5,zi 1),(9,.ptr 0 0 0)] [.siter p0 0] ?_)
 refine W.block ?_
 replace ⟨r19,hlr19,hm⟩:=zag hm
 refine W.mono (Q:=fun e0 s0 h0=>e0=.exit 0/\∃w:Unit,s0=[(4,zi r19.1),(5,zi r19.2)]/\h0=[]) (W.loopM (step:=zb8 p0) (a0:=(1,1,0)) (fun (a:Int × Int × Nat) (v:Unit)=>([(4,zi a.1),(5,zi a.2.1),(9,.ptr 0 0 0)],[.siter p0 a.2.2])) () hlr19 ⟨[],[]⟩ RO ?_) ?_
 ·rintro ⟨i10,i11,n12⟩ _ x hm hx
  rw [zb8] at hm
  show WK _ _ _ _ _ [(4,zi i10),(5,zi i11),(9,.ptr 0 0 0)] [.siter p0 n12]
  by_cases hb20:n12<p0.size
  ·rw [if_pos hb20] at hm
   refine W.sq [] [(4,zi i10),(5,zi i11),(9,.ptr 0 0 0),(10,.tuple [.bool true,zi (n12:Int),.int .i32 ((Utf8.decode p0 n12).1:Int)]),(11,.bool true)] [.siter p0 (n12+(Utf8.decode p0 n12).2)] ?_
   refine W.seq (W.cnd true (fun _=>?_) (fun hx=>by cases hx))
   refine W.skip (W.block (W.sq [] [(4,zi i10),(5,zi i11),(7,.int .i32 ((Utf8.decode p0 n12).1:Int)),(9,.ptr 0 0 0)] [.siter p0 (n12+(Utf8.decode p0 n12).2)] ?_))
   replace ⟨v21,h22,hm⟩:=zag hm
   have kh22:=zfS h22
   try simp only [hb20] at kh22
   refine W.rg [] [(4,zi v21.1),(5,zi v21.2),(9,.ptr 0 0 0)] [.siter p0 (n12+(Utf8.decode p0 n12).2)] ?_
   cases hm
   exact ⟨(v21.1,v21.2,(n12+(Utf8.decode p0 n12).2)),(),⟨[],[]⟩,rfl,RO⟩
  ·rw [if_neg hb20] at hm
   refine W.sq [] [(4,zi i10),(5,zi i11),(9,.ptr 0 0 0),(10,.tuple [.bool false]),(11,.bool false)] [.siter p0 n12] ?_
   refine W.seq (W.cnd false (fun hx=>by cases hx) (fun _=>?_))
   cases hm
   obtain rfl:=hx _ rfl
   exact W.wk ⟨[],[]⟩ [(4,zi i10),(5,zi i11)] [] (W.exit (show _/\_ from ⟨rfl,(),rfl,rfl⟩))
 ·rintro e0 s0 h0 ⟨rfl,_,rfl,rfl⟩
  show WK _ _ _ _ _ [(4,zi r19.1),(5,zi r19.2)] []
  refine W.sqh [] [(2,zi r19.1),(3,zi r19.2)] ?_
  cases hm
  exact W.rt
end Go.Proofs.YtkgpofmbegonfaaGreatDoor
