import Derived.Test.YtgdchoahbiagbaaDoorVFacts
import Derived.Test.YtgdchoahbiagbaaDoorPalA
set_option maxRecDepth 100000
set_option maxHeartbeats 4000000
set_option linter.unusedSimpArgs false
set_option linter.unusedVariables false
set_option linter.unusedSectionVars false
namespace Go.Proofs.YtgdchoahbiagbaaDoor
open Go.Vs
variable [Tab]
theorem palingbook_Pick_ok{p0:Int}{p1:Int}{r:Int}(hm:palingbook_Pick p0 p1=some r):PureF Tryd.prog 6 [.int .i64 p0,.int .i64 p1] (.int .i64 r):=by
  rw [palingbook_Pick] at hm
  refine PureF.of Tryd.func6 rfl Tryd.ntmps6 (Nat.le_of_ble_eq_true rfl) ?_
  have e0:argS 0 [.int .i64 p0,.int .i64 p1]=[(0,.int .i64 p0),(1,.int .i64 p1)]:=rfl
  rw [e0]
  refine W.sq [] [(0,.int .i64 p0),(1,.int .i64 p1)] [] ?_
  replace hm:=of_ite hm
  obtain ⟨h1,hm⟩:=hm
  refine W.sq [] [(0,.int .i64 (Int.tmod p0 p1)),(1,.int .i64 p1)] [] ?_
  refine W.seq ?_
  refine W.sq [] [(0,.int .i64 (Int.tmod p0 p1)),(1,.int .i64 p1),(9,.bool (decide ((Int.tmod p0 p1)<0)))] [] ?_
  refine W.cnd (decide ((Int.tmod p0 p1)<0)) (fun hb2=>?_) (fun hb2=>?_)
  · replace hm:=of_true hb2 hm
    refine W.rg [] [(0,.int .i64 (IntKind.wrap .i64 ((Int.tmod p0 p1)+p1)))] [] ?_
    refine W.sq [] [(4,.int .i64 (IntKind.wrap .i64 ((Int.tmod p0 p1)+p1)))] [] ?_
    obtain rfl:=Option.some.inj hm
    exact W.ret (EndsF.retW [] RO)
  · replace hm:=of_false hb2 hm
    refine W.skip ?_
    refine W.sq [] [(4,.int .i64 (Int.tmod p0 p1))] [] ?_
    obtain rfl:=Option.some.inj hm
    exact W.ret (EndsF.retW [] RO)

theorem palingref1_Text_ok{p0:Int}{r:ByteArray}(hm:palingref1_Text p0=some r):PureF Tryd.prog 12 [.int .i64 p0] (.str r):=by
  rw [palingref1_Text] at hm
  refine PureF.of Tryd.func12 rfl Tryd.ntmps12 (Nat.le_of_ble_eq_true rfl) ?_
  have e0:argS 0 [.int .i64 p0]=[(0,.int .i64 p0)]:=rfl
  rw [e0]
  refine W.sq [] [(0,.int .i64 p0)] [] ?_
  refine W.sq [] [(0,.int .i64 p0),(3,.int .u64 (IntKind.wrap .u64 p0))] [] ?_
  refine W.cut (fun s h=>∃(v:Int) (w:Unit) (F:Gs),palingref1_Text_j1 p0 v=some r ∧ AT 0 F [(0,.int .i64 p0),(3,.int .u64 v)] [] s h) ?_ ?_
  · refine W.sq [] [(0,.int .i64 p0),(3,.int .u64 (IntKind.wrap .u64 p0)),(8,.bool (decide (p0<0)))] [] ?_
    refine W.cnd (decide (p0<0)) (fun hb26=>?_) (fun hb26=>?_)
    · replace hm:=of_true hb26 hm
      refine W.rg [] [(0,.int .i64 p0),(3,.int .u64 (IntKind.wrap .u64 (0-(IntKind.wrap .u64 p0))))] [] ?_
      exact ⟨(IntKind.wrap .u64 (0-(IntKind.wrap .u64 p0))),(),⟨[],[]⟩,hm,RO⟩
    · replace hm:=of_false hb26 hm
      refine W.skip ?_
      exact ⟨(IntKind.wrap .u64 p0),(),⟨[],[]⟩,hm,RO⟩
  · rintro s h ⟨i1,_,F,hm,hat⟩
    refine W.weak F hat ?_
    show WK _ _ _ _ _ [(0,.int .i64 p0),(3,.int .u64 i1)] []
    rw [palingref1_Text_j1] at hm
    refine W.sq [] [(0,.int .i64 p0),(3,.int .u64 i1),(4,.str (⟨#[]⟩:ByteArray))] [] ?_
    refine W.seq ?_
    refine W.block ?_
    replace hm:=of_bind hm
    obtain ⟨r19,hlr19,hm⟩:=hm
    refine W.mono (Q:=fun e0 s0 h0=>e0=.exit 0 ∧ ∃w:Unit,s0=[(0,.int .i64 p0),(4,.str r19)] ∧ h0=[]) (W.loopM (step:=palingref1_Text_s1) (a0:=(i1,(⟨#[]⟩:ByteArray))) (fun (a:Int × ByteArray) (v:Unit)=>([(0,.int .i64 p0),(3,.int .u64 a.1),(4,.str a.2)],[])) () hlr19 ⟨[],[]⟩ RO ?_) ?_
    · rintro ⟨i12,s13⟩ _ x hm hx
      rw [palingref1_Text_s1] at hm
      show WK _ _ _ _ _ [(0,.int .i64 p0),(3,.int .u64 i12),(4,.str s13)] []
      refine W.seq ?_
      refine W.sq [] [(0,.int .i64 p0),(3,.int .u64 i12),(4,.str s13),(16,.bool (decide (i12>0)||decide (s13=(⟨#[]⟩:ByteArray))))] [] ?_
      refine W.cnd (decide (i12>0)||decide (s13=(⟨#[]⟩:ByteArray))) (fun hb20=>?_) (fun hb20=>?_)
      · replace hm:=of_true hb20 hm
        refine W.skip ?_
        refine W.block ?_
        replace hm:=of_ite hm
        obtain ⟨h21,hm⟩:=hm
        replace hm:=of_let hm
        obtain ⟨s22,h23,hm⟩:=hm
        refine W.sq [] [(0,.int .i64 p0),(3,.int .u64 i12),(4,.str s22)] [] ?_
        clear h23
        refine W.rg [] [(0,.int .i64 p0),(3,.int .u64 (IntKind.wrap .u64 (Int.tdiv i12 10))),(4,.str s22)] [] ?_
        obtain rfl:=Option.some.inj hm
        exact ⟨((IntKind.wrap .u64 (Int.tdiv i12 10)),s22),(),⟨[],[]⟩,rfl,RO⟩
      · replace hm:=of_false hb20 hm
        obtain rfl:=Option.some.inj hm
        obtain rfl:=hx _ rfl
        exact W.weak ⟨[],[]⟩ (show AT _ ⟨[],[]⟩ [(0,.int .i64 p0),(4,.str s13)] [] _ _ from RO) (W.exit (show _ ∧ _ from ⟨rfl,(),rfl,rfl⟩))
    · rintro e0 s0 h0 ⟨rfl,_,rfl,rfl⟩
      show WK _ _ _ _ _ [(0,.int .i64 p0),(4,.str r19)] []
      refine W.seq ?_
      refine W.sq [] [(4,.str r19),(28,.bool (decide (p0<0)))] [] ?_
      refine W.cnd (decide (p0<0)) (fun hb24=>?_) (fun hb24=>?_)
      · replace hm:=of_true hb24 hm
        replace hm:=of_ite hm
        obtain ⟨h25,hm⟩:=hm
        refine W.sq [] [(2,.str ((⟨#[45]⟩:ByteArray)++r19))] [] ?_
        obtain rfl:=Option.some.inj hm
        exact W.ret (EndsF.retW [] RO)
      · replace hm:=of_false hb24 hm
        refine W.skip ?_
        refine W.sq [] [(2,.str r19)] [] ?_
        obtain rfl:=Option.some.inj hm
        exact W.ret (EndsF.retW [] RO)

theorem palingref1_Read_ok{p0:ByteArray}{r:Int × Bool}(hm:palingref1_Read p0=some r):PureF Tryd.prog 27 [.str p0] (.tuple [.int .i64 r.1,.bool r.2]):=by
  rw [palingref1_Read] at hm
  refine PureF.of Tryd.func27 rfl Tryd.ntmps27 (Nat.le_of_ble_eq_true rfl) ?_
  have e0:argS 0 [.str p0]=[(0,.str p0)]:=rfl
  rw [e0]
  refine W.sq [] [(0,.str p0)] [] ?_
  replace hm:=of_ite hm
  obtain ⟨h1,hm⟩:=hm
  refine W.sq [] [(0,.str p0),(4,.bool (decide ((p0.size:Int)>0)&&((bt p0 0)==45)))] [] ?_
  refine W.cut (fun s h=>∃(v:ByteArray) (w:Unit) (F:Gs),palingref1_Read_j1 p0 v=some r ∧ AT 0 F [(0,.str v),(4,.bool (decide ((p0.size:Int)>0)&&((bt p0 0)==45)))] [] s h) ?_ ?_
  · refine W.sq [] [(0,.str p0),(4,.bool (decide ((p0.size:Int)>0)&&((bt p0 0)==45))),(15,.bool (decide ((p0.size:Int)>0)&&((bt p0 0)==45)))] [] ?_
    refine W.cnd (decide ((p0.size:Int)>0)&&((bt p0 0)==45)) (fun hb45=>?_) (fun hb45=>?_)
    · replace hm:=of_true hb45 hm
      replace hm:=of_ite hm
      obtain ⟨h46,hm⟩:=hm
      refine W.rg [] [(0,.str (p0.extract (Int.toNat 1) p0.size)),(4,.bool (decide ((p0.size:Int)>0)&&((bt p0 0)==45)))] [] ?_
      exact ⟨(p0.extract (Int.toNat 1) p0.size),(),⟨[],[]⟩,hm,RO⟩
    · replace hm:=of_false hb45 hm
      refine W.skip ?_
      exact ⟨p0,(),⟨[],[]⟩,hm,RO⟩
  · rintro s h ⟨s2,_,F,hm,hat⟩
    refine W.weak F hat ?_
    show WK _ _ _ _ _ [(0,.str s2),(4,.bool (decide ((p0.size:Int)>0)&&((bt p0 0)==45)))] []
    rw [palingref1_Read_j1] at hm
    refine W.seq ?_
    replace hm:=of_ite hm
    obtain ⟨h3,hm⟩:=hm
    replace hm:=of_let hm
    obtain ⟨b4,h5,hm⟩:=hm
    refine W.sq [] [(0,.str s2),(4,.bool (decide ((p0.size:Int)>0)&&((bt p0 0)==45))),(37,.bool b4)] [] ?_
    clear h5
    refine W.cnd b4 (fun hb6=>?_) (fun hb6=>?_)
    · replace hm:=of_true hb6 hm
      refine W.sq [] [(2,.int .i64 0),(3,.bool false)] [] ?_
      obtain rfl:=Option.some.inj hm
      exact W.ret (EndsF.retW [] RO)
    · replace hm:=of_false hb6 hm
      refine W.skip ?_
      refine W.sq [] [(0,.str s2),(4,.bool (decide ((p0.size:Int)>0)&&((bt p0 0)==45))),(5,.int .u64 0)] [] ?_
      refine W.seq ?_
      refine W.sq [] [(0,.str s2),(4,.bool (decide ((p0.size:Int)>0)&&((bt p0 0)==45))),(5,.int .u64 0),(6,.int .i64 0)] [] ?_
      refine W.block ?_
      replace hm:=of_bind hm
      obtain ⟨r34,hlr34,hm⟩:=hm
      refine W.mono (Q:=fun e0 s0 h0=>match r34 with | .inl e=>e0=.exit 0 ∧ ∃w:Unit,s0=[(4,.bool (decide ((p0.size:Int)>0)&&((bt p0 0)==45))),(5,.int .u64 e)] ∧ h0=[] | .inr q=>e0=.ret ∧ s0=[(2,.int .i64 q.1),(3,.bool q.2)] ∧ h0=[]) (W.loopM (step:=palingref1_Read_s1 s2) (a0:=(0,0)) (fun (a:Int × Int) (v:Unit)=>([(0,.str s2),(4,.bool (decide ((p0.size:Int)>0)&&((bt p0 0)==45))),(5,.int .u64 a.1),(6,.int .i64 a.2)],[])) () hlr34 ⟨[],[]⟩ RO ?_) ?_
      · rintro ⟨i23,i24⟩ _ x hm hx
        rw [palingref1_Read_s1] at hm
        show WK _ _ _ _ _ [(0,.str s2),(4,.bool (decide ((p0.size:Int)>0)&&((bt p0 0)==45))),(5,.int .u64 i23),(6,.int .i64 i24)] []
        refine W.seq ?_
        refine W.sq [] [(0,.str s2),(4,.bool (decide ((p0.size:Int)>0)&&((bt p0 0)==45))),(5,.int .u64 i23),(6,.int .i64 i24),(41,.bool (decide (i24<(s2.size:Int))))] [] ?_
        refine W.cnd (decide (i24<(s2.size:Int))) (fun hb35=>?_) (fun hb35=>?_)
        · replace hm:=of_true hb35 hm
          refine W.skip ?_
          refine W.seq ?_
          refine W.block ?_
          refine W.seq ?_
          replace hm:=of_ite hm
          obtain ⟨h36,hm⟩:=hm
          replace hm:=of_ite hm
          obtain ⟨h37,hm⟩:=hm
          refine W.sq [] [(0,.str s2),(4,.bool (decide ((p0.size:Int)>0)&&((bt p0 0)==45))),(5,.int .u64 i23),(6,.int .i64 i24),(53,.bool (decide ((bt s2 i24)<48)||decide ((bt s2 i24)>57)))] [] ?_
          refine W.cnd (decide ((bt s2 i24)<48)||decide ((bt s2 i24)>57)) (fun hb38=>?_) (fun hb38=>?_)
          · replace hm:=of_true hb38 hm
            refine W.sq [] [(2,.int .i64 0),(3,.bool false)] [] ?_
            obtain rfl:=Option.some.inj hm
            obtain rfl:=hx _ rfl
            exact W.weak ⟨[],[]⟩ (show AT _ ⟨[],[]⟩ [(2,.int .i64 0),(3,.bool false)] [] _ _ from RO) (W.ret (show _ ∧ _ from ⟨rfl,rfl,rfl⟩))
          · replace hm:=of_false hb38 hm
            refine W.skip ?_
            replace hm:=of_ite hm
            obtain ⟨h39,hm⟩:=hm
            replace hm:=of_let hm
            obtain ⟨n40,h41,hm⟩:=hm
            refine W.rg [] [(0,.str s2),(4,.bool (decide ((p0.size:Int)>0)&&((bt p0 0)==45))),(5,.int .u64 n40),(6,.int .i64 i24)] [] ?_
            clear h41
            refine W.rg [] [(0,.str s2),(4,.bool (decide ((p0.size:Int)>0)&&((bt p0 0)==45))),(5,.int .u64 n40),(6,.int .i64 (IntKind.wrap .i64 (i24+1)))] [] ?_
            obtain rfl:=Option.some.inj hm
            exact ⟨(n40,(IntKind.wrap .i64 (i24+1))),(),⟨[],[]⟩,rfl,RO⟩
        · replace hm:=of_false hb35 hm
          obtain rfl:=Option.some.inj hm
          obtain rfl:=hx _ rfl
          exact W.weak ⟨[],[]⟩ (show AT _ ⟨[],[]⟩ [(4,.bool (decide ((p0.size:Int)>0)&&((bt p0 0)==45))),(5,.int .u64 i23)] [] _ _ from RO) (W.exit (show _ ∧ _ from ⟨rfl,(),rfl,rfl⟩))
      · intro e0 s0 h0 hq
        rcases r34 with er34 | qr34
        · obtain ⟨rfl,_,rfl,rfl⟩:=hq
          replace hm:=of_inl hm
          show WK _ _ _ _ _ [(4,.bool (decide ((p0.size:Int)>0)&&((bt p0 0)==45))),(5,.int .u64 er34)] []
          refine W.seq ?_
          refine W.sq [] [(5,.int .u64 er34),(62,.bool (decide ((p0.size:Int)>0)&&((bt p0 0)==45)))] [] ?_
          refine W.cnd (decide ((p0.size:Int)>0)&&((bt p0 0)==45)) (fun hb42=>?_) (fun hb42=>?_)
          · replace hm:=of_true hb42 hm
            refine W.seq ?_
            refine W.sq [] [(5,.int .u64 er34),(64,.bool (decide (er34>9223372036854775808)))] [] ?_
            refine W.cnd (decide (er34>9223372036854775808)) (fun hb43=>?_) (fun hb43=>?_)
            · replace hm:=of_true hb43 hm
              refine W.sq [] [(2,.int .i64 0),(3,.bool false)] [] ?_
              obtain rfl:=Option.some.inj hm
              exact W.ret (EndsF.retW [] RO)
            · replace hm:=of_false hb43 hm
              refine W.skip ?_
              refine W.sq [] [(2,.int .i64 (IntKind.wrap .i64 (IntKind.wrap .u64 (0-er34)))),(3,.bool true)] [] ?_
              obtain rfl:=Option.some.inj hm
              exact W.ret (EndsF.retW [] RO)
          · replace hm:=of_false hb42 hm
            refine W.skip ?_
            refine W.seq ?_
            refine W.sq [] [(5,.int .u64 er34),(69,.bool (decide (er34≥9223372036854775808)))] [] ?_
            refine W.cnd (decide (er34≥9223372036854775808)) (fun hb44=>?_) (fun hb44=>?_)
            · replace hm:=of_true hb44 hm
              refine W.sq [] [(2,.int .i64 0),(3,.bool false)] [] ?_
              obtain rfl:=Option.some.inj hm
              exact W.ret (EndsF.retW [] RO)
            · replace hm:=of_false hb44 hm
              refine W.skip ?_
              refine W.sq [] [(2,.int .i64 (IntKind.wrap .i64 er34)),(3,.bool true)] [] ?_
              obtain rfl:=Option.some.inj hm
              exact W.ret (EndsF.retW [] RO)
        · obtain ⟨rfl,rfl,rfl⟩:=hq
          replace hm:=of_inr hm
          obtain rfl:=Option.some.inj hm
          exact EndsF.retW [] RO

theorem glyph_step_ok{p0:Int}{p1:Int}{p2:Int}{r:Int × Int}(hm:glyph_step p0 p1 p2=some r):PureF Tryd.prog 41 [.int .i64 p0,.int .i64 p1,.int .i32 p2] (.tuple [.int .i64 r.1,.int .i64 r.2]):=by
  rw [glyph_step] at hm
  refine PureF.of Tryd.func41 rfl Tryd.ntmps41 (Nat.le_of_ble_eq_true rfl) ?_
  have e0:argS 0 [.int .i64 p0,.int .i64 p1,.int .i32 p2]=[(0,.int .i64 p0),(1,.int .i64 p1),(2,.int .i32 p2)]:=rfl
  rw [e0]
  refine W.sq [] [(0,.int .i64 p0),(1,.int .i64 p1),(2,.int .i32 p2)] [] ?_
  refine W.seq ?_
  refine W.sq [] [(0,.int .i64 p0),(1,.int .i64 p1),(9,.bool (p2==10))] [] ?_
  refine W.cnd (p2==10) (fun hb1=>?_) (fun hb1=>?_)
  · replace hm:=of_true hb1 hm
    refine W.sq [] [(6,.int .i64 (IntKind.wrap .i64 (p0+1))),(7,.int .i64 1)] [] ?_
    obtain rfl:=Option.some.inj hm
    exact W.ret (EndsF.retW [] RO)
  · replace hm:=of_false hb1 hm
    refine W.skip ?_
    refine W.sq [] [(6,.int .i64 p0),(7,.int .i64 (IntKind.wrap .i64 (p1+1)))] [] ?_
    obtain rfl:=Option.some.inj hm
    exact W.ret (EndsF.retW [] RO)

theorem glyph_Letter_ok{p0:Int}{r:Bool}(hm:glyph_Letter p0=some r):PureF Tryd.prog 42 [.int .i32 p0] (.bool r):=by
  rw [glyph_Letter] at hm
  refine PureF.of Tryd.func42 rfl Tryd.ntmps42 (Nat.le_of_ble_eq_true rfl) ?_
  have e0:argS 0 [.int .i32 p0]=[(0,.int .i32 p0)]:=rfl
  rw [e0]
  refine W.sq [] [(0,.int .i32 p0)] [] ?_
  replace hm:=of_let hm
  obtain ⟨b1,h2,hm⟩:=hm
  refine W.sq [] [(2,.bool b1)] [] ?_
  clear h2
  obtain rfl:=Option.some.inj hm
  exact W.ret (EndsF.retW [] RO)

theorem glyph_Digit_ok{p0:Int}{r:Bool}(hm:glyph_Digit p0=some r):PureF Tryd.prog 43 [.int .i32 p0] (.bool r):=by
  rw [glyph_Digit] at hm
  refine PureF.of Tryd.func43 rfl Tryd.ntmps43 (Nat.le_of_ble_eq_true rfl) ?_
  have e0:argS 0 [.int .i32 p0]=[(0,.int .i32 p0)]:=rfl
  rw [e0]
  refine W.sq [] [(0,.int .i32 p0)] [] ?_
  refine W.sq [] [(2,.bool (decide (p0≥48)&&decide (p0 ≤ 57)))] [] ?_
  obtain rfl:=Option.some.inj hm
  exact W.ret (EndsF.retW [] RO)

theorem glyph_Blank_ok{p0:Int}{r:Bool}(hm:glyph_Blank p0=some r):PureF Tryd.prog 19 [.int .i32 p0] (.bool r):=by
  rw [glyph_Blank] at hm
  refine PureF.of Tryd.func19 rfl Tryd.ntmps19 (Nat.le_of_ble_eq_true rfl) ?_
  have e0:argS 0 [.int .i32 p0]=[(0,.int .i32 p0)]:=rfl
  rw [e0]
  refine W.sq [] [(0,.int .i32 p0)] [] ?_
  refine W.sq [] [(2,.bool ((p0==32)||(p0==9)))] [] ?_
  obtain rfl:=Option.some.inj hm
  exact W.ret (EndsF.retW [] RO)

theorem palingref1_Letter_ok{p0:Int}{r:Bool}(hm:palingref1_Letter p0=some r):PureF Tryd.prog 25 [.int .i32 p0] (.bool r):=by
  rw [palingref1_Letter] at hm
  refine PureF.of Tryd.func25 rfl Tryd.ntmps25 (Nat.le_of_ble_eq_true rfl) ?_
  have e0:argS 0 [.int .i32 p0]=[(0,.int .i32 p0)]:=rfl
  rw [e0]
  refine W.sq [] [(0,.int .i32 p0)] [] ?_
  replace hm:=of_let hm
  obtain ⟨b1,h2,hm⟩:=hm
  refine W.sq [] [(2,.bool b1)] [] ?_
  clear h2
  obtain rfl:=Option.some.inj hm
  exact W.ret (EndsF.retW [] RO)

theorem palingref1_Digit_ok{p0:Int}{r:Bool}(hm:palingref1_Digit p0=some r):PureF Tryd.prog 26 [.int .i32 p0] (.bool r):=by
  rw [palingref1_Digit] at hm
  refine PureF.of Tryd.func26 rfl Tryd.ntmps26 (Nat.le_of_ble_eq_true rfl) ?_
  have e0:argS 0 [.int .i32 p0]=[(0,.int .i32 p0)]:=rfl
  rw [e0]
  refine W.sq [] [(0,.int .i32 p0)] [] ?_
  refine W.sq [] [(2,.bool (decide (p0≥48)&&decide (p0 ≤ 57)))] [] ?_
  obtain rfl:=Option.some.inj hm
  exact W.ret (EndsF.retW [] RO)

theorem palingref1_Blank_ok{p0:Int}{r:Bool}(hm:palingref1_Blank p0=some r):PureF Tryd.prog 24 [.int .i32 p0] (.bool r):=by
  rw [palingref1_Blank] at hm
  refine PureF.of Tryd.func24 rfl Tryd.ntmps24 (Nat.le_of_ble_eq_true rfl) ?_
  have e0:argS 0 [.int .i32 p0]=[(0,.int .i32 p0)]:=rfl
  rw [e0]
  refine W.sq [] [(0,.int .i32 p0)] [] ?_
  refine W.sq [] [(2,.bool ((p0==32)||(p0==9)))] [] ?_
  obtain rfl:=Option.some.inj hm
  exact W.ret (EndsF.retW [] RO)

theorem lex_fault_ok{p0:Int}{p1:T_glyph_Spot}{r:T_api_Fault}(hm:lex_fault p0 p1=some r):PureF Tryd.prog 18 [.int .i64 p0,.agg [.int .i32 p1.Rune,.int .i64 p1.At,.int .i64 p1.Size,.int .i64 p1.Line,.int .i64 p1.Col,.bool p1.Bad]] (.agg [.int .i64 r.Code,.int .i64 r.Line,.int .i64 r.Col]):=by
  rw [lex_fault] at hm
  refine PureF.of Tryd.func18 rfl Tryd.ntmps18 (Nat.le_of_ble_eq_true rfl) ?_
  have e0:argS 0 [.int .i64 p0,.agg [.int .i32 p1.Rune,.int .i64 p1.At,.int .i64 p1.Size,.int .i64 p1.Line,.int .i64 p1.Col,.bool p1.Bad]]=[(0,.int .i64 p0),(1,.agg [.int .i32 p1.Rune,.int .i64 p1.At,.int .i64 p1.Size,.int .i64 p1.Line,.int .i64 p1.Col,.bool p1.Bad])]:=rfl
  rw [e0]
  refine W.sq [] [(0,.int .i64 p0),(3,.ptr 0 0 0),(4,.ptr 1 0 0)] [.cells (e_glyph_Spot p1) 0 63,.cells [.int .i64 0,.int .i64 0,.int .i64 0] 0 34] ?_
  refine W.sq [] [(4,.ptr 1 0 0)] [.dead,.cells [.int .i64 p0,.int .i64 p1.Line,.int .i64 p1.Col] 0 34] ?_
  obtain rfl:=Option.some.inj hm
  exact W.ret (EndsF.retW [] RO)

theorem lex_run_ok{p0:(List T_glyph_Spot)}{p1:Int}{r:Int × Int}(hm:lex_run p0 p1=some r):PureF Tryd.prog 20 [.sl (p0.map e_glyph_Spot),.int .i64 p1] (.tuple [.int .i64 r.1,.int .i64 r.2]):=by
  rw [lex_run] at hm
  refine PureF.of Tryd.func20 rfl Tryd.ntmps20 (Nat.le_of_ble_eq_true rfl) ?_
  have e0:argS 0 [.sl (p0.map e_glyph_Spot),.int .i64 p1]=[(0,.sl (p0.map e_glyph_Spot)),(1,.int .i64 p1)]:=rfl
  rw [e0]
  refine W.sq [] [(0,.sl (p0.map e_glyph_Spot)),(1,.int .i64 p1)] [] ?_
  refine W.sq [] [(0,.sl (p0.map e_glyph_Spot)),(1,.int .i64 p1)] [] ?_
  refine W.cut (fun s h=>∃(v:Int) (w:Unit) (F:Gs),lex_run_j1 p0 p1 v=some r ∧ AT 0 F [(0,.sl (p0.map e_glyph_Spot)),(1,.int .i64 p1),(6,.int .i64 v)] [] s h) ?_ ?_
  · replace hm:=of_ite hm
    obtain ⟨h40,hm⟩:=hm
    refine W.sq [] [(0,.sl (p0.map e_glyph_Spot)),(1,.int .i64 p1),(7,.int .i32 ((rd p0 p1).Rune))] [] ?_
    refine W.block ?_
    refine W.sq [] [(0,.sl (p0.map e_glyph_Spot)),(1,.int .i64 p1),(7,.int .i32 ((rd p0 p1).Rune)),(15,.bool ((rd p0 p1).Rune==10))] [] ?_
    refine W.cnd ((rd p0 p1).Rune==10) (fun hb41=>?_) (fun hb41=>?_)
    · replace hm:=of_true hb41 hm
      refine W.sq [] [(4,.int .i64 (IntKind.wrap .i64 (p1+1))),(5,.int .i64 4)] [] ?_
      obtain rfl:=Option.some.inj hm
      exact W.ret (EndsF.retW [] RO)
    · replace hm:=of_false hb41 hm
      replace hm:=of_let hm
      obtain ⟨b42,h43,hm⟩:=hm
      refine W.sq [] [(0,.sl (p0.map e_glyph_Spot)),(1,.int .i64 p1),(7,.int .i32 ((rd p0 p1).Rune)),(20,.bool b42)] [] ?_
      clear h43
      refine W.cnd b42 (fun hb44=>?_) (fun hb44=>?_)
      · replace hm:=of_true hb44 hm
        refine W.sq [] [(4,.int .i64 (IntKind.wrap .i64 (p1+1))),(5,.int .i64 3)] [] ?_
        obtain rfl:=Option.some.inj hm
        exact W.ret (EndsF.retW [] RO)
      · replace hm:=of_false hb44 hm
        replace hm:=of_bind hm
        obtain ⟨v45,h46,hm⟩:=hm
        have kh46:=glyph_Letter_ok h46
        try simp only [hb41,hb44] at kh46
        refine W.sq [] [(0,.sl (p0.map e_glyph_Spot)),(1,.int .i64 p1),(7,.int .i32 ((rd p0 p1).Rune)),(37,.bool v45)] [] ?_
        refine W.cnd v45 (fun hb47=>?_) (fun hb47=>?_)
        · replace hm:=of_true hb47 hm
          refine W.rg [] [(0,.sl (p0.map e_glyph_Spot)),(1,.int .i64 p1),(6,.int .i64 1)] [] ?_
          exact ⟨1,(),⟨[],[]⟩,hm,RO⟩
        · replace hm:=of_false hb47 hm
          replace hm:=of_bind hm
          obtain ⟨v48,h49,hm⟩:=hm
          have kh49:=glyph_Digit_ok h49
          try simp only [hb41,hb44,hb47] at kh49
          refine W.sq [] [(0,.sl (p0.map e_glyph_Spot)),(1,.int .i64 p1),(40,.bool (v48||((rd p0 p1).Rune==45)))] [] ?_
          refine W.cnd (v48||((rd p0 p1).Rune==45)) (fun hb50=>?_) (fun hb50=>?_)
          · replace hm:=of_true hb50 hm
            refine W.rg [] [(0,.sl (p0.map e_glyph_Spot)),(1,.int .i64 p1),(6,.int .i64 2)] [] ?_
            exact ⟨2,(),⟨[],[]⟩,hm,RO⟩
          · replace hm:=of_false hb50 hm
            refine W.sq [] [(4,.int .i64 p1),(5,.int .i64 0)] [] ?_
            obtain rfl:=Option.some.inj hm
            exact W.ret (EndsF.retW [] RO)
  · rintro s h ⟨i1,_,F,hm,hat⟩
    refine W.weak F hat ?_
    show WK _ _ _ _ _ [(0,.sl (p0.map e_glyph_Spot)),(1,.int .i64 p1),(6,.int .i64 i1)] []
    rw [lex_run_j1] at hm
    refine W.sq [] [(0,.sl (p0.map e_glyph_Spot)),(6,.int .i64 i1),(8,.int .i64 (IntKind.wrap .i64 (p1+1)))] [] ?_
    refine W.seq ?_
    refine W.block ?_
    replace hm:=of_bind hm
    obtain ⟨r31,hlr31,hm⟩:=hm
    refine W.mono (Q:=fun e0 s0 h0=>e0=.exit 1 ∧ ∃w:Unit,s0=[(6,.int .i64 i1),(8,.int .i64 r31)] ∧ h0=[]) (W.loopM (step:=lex_run_s1 p0) (a0:=(IntKind.wrap .i64 (p1+1))) (fun (a:Int) (v:Unit)=>([(0,.sl (p0.map e_glyph_Spot)),(6,.int .i64 i1),(8,.int .i64 a)],[])) () hlr31 ⟨[],[]⟩ RO ?_) ?_
    · rintro i21 _ x hm hx
      rw [lex_run_s1] at hm
      show WK _ _ _ _ _ [(0,.sl (p0.map e_glyph_Spot)),(6,.int .i64 i1),(8,.int .i64 i21)] []
      refine W.seq ?_
      replace hm:=of_ite hm
      obtain ⟨h32,hm⟩:=hm
      replace hm:=of_ite hm
      obtain ⟨h33,hm⟩:=hm
      replace hm:=of_bind hm
      obtain ⟨v34,h35,hm⟩:=hm
      replace hm:=of_ite hm
      obtain ⟨h36,hm⟩:=hm
      replace hm:=of_bind hm
      obtain ⟨v37,h38,hm⟩:=hm
      have kh35:=fun hg=>glyph_Letter_ok (of_true hg h35)
      have kh38:=fun hg=>glyph_Digit_ok (of_true hg h38)
      refine W.sq [] [(0,.sl (p0.map e_glyph_Spot)),(6,.int .i64 i1),(8,.int .i64 i21),(76,.bool ((decide (i21<(p0.length:Int))&&(!(rd p0 i21).Bad))&&(v34||v37)))] [] ?_
      refine W.cnd ((decide (i21<(p0.length:Int))&&(!(rd p0 i21).Bad))&&(v34||v37)) (fun hb39=>?_) (fun hb39=>?_)
      · replace hm:=of_true hb39 hm
        refine W.skip ?_
        refine W.block ?_
        refine W.rg [] [(0,.sl (p0.map e_glyph_Spot)),(6,.int .i64 i1),(8,.int .i64 (IntKind.wrap .i64 (i21+1)))] [] ?_
        obtain rfl:=Option.some.inj hm
        exact ⟨(IntKind.wrap .i64 (i21+1)),(),⟨[],[]⟩,rfl,RO⟩
      · replace hm:=of_false hb39 hm
        obtain rfl:=Option.some.inj hm
        obtain rfl:=hx _ rfl
        exact W.weak ⟨[],[]⟩ (show AT _ ⟨[],[]⟩ [(6,.int .i64 i1),(8,.int .i64 i21)] [] _ _ from RO) (W.exit (show _ ∧ _ from ⟨rfl,(),rfl,rfl⟩))
    · rintro e0 s0 h0 ⟨rfl,_,rfl,rfl⟩
      show WK _ _ _ _ _ [(6,.int .i64 i1),(8,.int .i64 r31)] []
      refine W.sq [] [(4,.int .i64 r31),(5,.int .i64 i1)] [] ?_
      obtain rfl:=Option.some.inj hm
      exact W.ret (EndsF.retW [] RO)

theorem glyph_End_ok{p0:ByteArray}{r:Int × Int}(hm:glyph_End p0=some r):PureF Tryd.prog 22 [.str p0] (.tuple [.int .i64 r.1,.int .i64 r.2]):=by
  rw [glyph_End] at hm
  refine PureF.of Tryd.func22 rfl Tryd.ntmps22 (Nat.le_of_ble_eq_true rfl) ?_
  have e0:argS 0 [.str p0]=[(0,.str p0)]:=rfl
  rw [e0]
  refine W.sq [] [(0,.str p0)] [] ?_
  refine W.sq [] [(0,.str p0),(4,.int .i64 1),(5,.int .i64 1)] [] ?_
  refine W.seq ?_
  refine W.sq [] [(4,.int .i64 1),(5,.int .i64 1),(9,.ptr 0 0 0)] [.siter p0 0] ?_
  refine W.block ?_
  replace hm:=of_bind hm
  obtain ⟨r19,hlr19,hm⟩:=hm
  refine W.mono (Q:=fun e0 s0 h0=>e0=.exit 0 ∧ ∃w:Unit,s0=[(4,.int .i64 r19.1),(5,.int .i64 r19.2)] ∧ h0=[]) (W.loopM (step:=glyph_End_s1 p0) (a0:=(1,1,0)) (fun (a:Int × Int × Nat) (v:Unit)=>([(4,.int .i64 a.1),(5,.int .i64 a.2.1),(9,.ptr 0 0 0)],[.siter p0 a.2.2])) () hlr19 ⟨[],[]⟩ RO ?_) ?_
  · rintro ⟨i10,i11,n12⟩ _ x hm hx
    rw [glyph_End_s1] at hm
    show WK _ _ _ _ _ [(4,.int .i64 i10),(5,.int .i64 i11),(9,.ptr 0 0 0)] [.siter p0 n12]
    by_cases hb20:n12<p0.size
    · rw [if_pos hb20] at hm
      refine W.sq [] [(4,.int .i64 i10),(5,.int .i64 i11),(9,.ptr 0 0 0),(10,.tuple [.bool true,.int .i64 (n12:Int),.int .i32 ((Utf8.decode p0 n12).1:Int)]),(11,.bool true)] [.siter p0 (n12+(Utf8.decode p0 n12).2)] ?_
      refine W.seq ?_
      refine W.cnd true (fun _=>?_) (fun hx=>by cases hx)
      refine W.skip ?_
      refine W.block ?_
      refine W.sq [] [(4,.int .i64 i10),(5,.int .i64 i11),(7,.int .i32 ((Utf8.decode p0 n12).1:Int)),(9,.ptr 0 0 0)] [.siter p0 (n12+(Utf8.decode p0 n12).2)] ?_
      replace hm:=of_bind hm
      obtain ⟨v21,h22,hm⟩:=hm
      have kh22:=glyph_step_ok h22
      try simp only [hb20] at kh22
      refine W.rg [] [(4,.int .i64 v21.1),(5,.int .i64 v21.2),(9,.ptr 0 0 0)] [.siter p0 (n12+(Utf8.decode p0 n12).2)] ?_
      obtain rfl:=Option.some.inj hm
      exact ⟨(v21.1,v21.2,(n12+(Utf8.decode p0 n12).2)),(),⟨[],[]⟩,rfl,RO⟩
    · rw [if_neg hb20] at hm
      refine W.sq [] [(4,.int .i64 i10),(5,.int .i64 i11),(9,.ptr 0 0 0),(10,.tuple [.bool false]),(11,.bool false)] [.siter p0 n12] ?_
      refine W.seq ?_
      refine W.cnd false (fun hx=>by cases hx) (fun _=>?_)
      obtain rfl:=Option.some.inj hm
      obtain rfl:=hx _ rfl
      exact W.weak ⟨[],[]⟩ (show AT _ ⟨[],[]⟩ [(4,.int .i64 i10),(5,.int .i64 i11)] [] _ _ from RO) (W.exit (show _ ∧ _ from ⟨rfl,(),rfl,rfl⟩))
  · rintro e0 s0 h0 ⟨rfl,_,rfl,rfl⟩
    show WK _ _ _ _ _ [(4,.int .i64 r19.1),(5,.int .i64 r19.2)] []
    refine W.sq [] [(2,.int .i64 r19.1),(3,.int .i64 r19.2)] [] ?_
    obtain rfl:=Option.some.inj hm
    exact W.ret (EndsF.retW [] RO)


end Go.Proofs.YtgdchoahbiagbaaDoor
