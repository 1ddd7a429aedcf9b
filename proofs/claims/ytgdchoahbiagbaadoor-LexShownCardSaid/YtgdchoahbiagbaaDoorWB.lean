import Derived.Test.YtgdchoahbiagbaaDoorVFacts
import Derived.Test.YtgdchoahbiagbaaDoorPalB
import Derived.Test.YtgdchoahbiagbaaDoorWA
import Derived.Test.YtgdchoahbiagbaaDoorWUtf
set_option maxRecDepth 100000
set_option maxHeartbeats 4000000
set_option linter.unusedSimpArgs false
set_option linter.unusedVariables false
set_option linter.unusedSectionVars false
namespace Go.Proofs.YtgdchoahbiagbaaDoor
open Go.Vs
variable [TabU]
theorem glyph_Spots_ok{p0:ByteArray}{r:(List T_glyph_Spot)}(hm:glyph_Spots p0=some r):PureF Tryd.prog 17 [.str p0] (.sl (r.map e_glyph_Spot)):=by
  rw [glyph_Spots] at hm
  refine PureF.of Tryd.func17 rfl Tryd.ntmps17 (Nat.le_of_ble_eq_true rfl) ?_
  have e0:argS 0 [.str p0]=[(0,.str p0)]:=rfl
  rw [e0]
  refine W.sq [] [(0,.str p0)] [] ?_
  refine W.sq [] [(0,.str p0),(3,.nils)] [] ?_
  refine W.sq [] [(0,.str p0),(3,.nils),(4,.int .i64 1),(5,.int .i64 1)] [] ?_
  refine W.seq ?_
  refine W.sq [] [(0,.str p0),(3,.nils),(4,.int .i64 1),(5,.int .i64 1),(10,.ptr 0 0 0)] [.siter p0 0] ?_
  refine W.block ?_
  replace hm:=of_bind hm
  obtain ⟨r56,hlr56,hm⟩:=hm
  refine W.mono (Q:=fun e0 s0 h0=>e0=.exit 0 ∧ ∃w:Nat,s0=[(3,.msl 2 w 0 6 r56.length r56.length)] ∧ h0=[.dead,.dead,.rows (r56.map e_glyph_Spot) 6 w 63]) (W.loopM (step:=glyph_Spots_s1 p0) (a0:=(1,1,0,[])) (fun (a:Int × Int × Nat × (List T_glyph_Spot)) (v:Nat)=>([(0,.str p0),(3,.msl 2 v 0 6 a.2.2.2.length a.2.2.2.length),(4,.int .i64 a.1),(5,.int .i64 a.2.1),(10,.ptr 0 0 0)],[.siter p0 a.2.2.1,.dead,.rows (a.2.2.2.map e_glyph_Spot) 6 v 63])) 0 hlr56 ⟨[],[]⟩ RO ?_) ?_
  · rintro ⟨i35,i36,n37,l38⟩ w39 x hm hx
    rw [glyph_Spots_s1] at hm
    show WK _ _ _ _ _ [(0,.str p0),(3,.msl 2 w39 0 6 l38.length l38.length),(4,.int .i64 i35),(5,.int .i64 i36),(10,.ptr 0 0 0)] [.siter p0 n37,.dead,.rows (l38.map e_glyph_Spot) 6 w39 63]
    by_cases hb57:n37<p0.size
    · rw [if_pos hb57] at hm
      refine W.sq [] [(0,.str p0),(3,.msl 2 w39 0 6 l38.length l38.length),(4,.int .i64 i35),(5,.int .i64 i36),(10,.ptr 0 0 0),(11,.tuple [.bool true,.int .i64 (n37:Int),.int .i32 ((Utf8.decode p0 n37).1:Int)]),(12,.bool true)] [.siter p0 (n37+(Utf8.decode p0 n37).2),.dead,.rows (l38.map e_glyph_Spot) 6 w39 63] ?_
      refine W.seq ?_
      refine W.cnd true (fun _=>?_) (fun hx=>by cases hx)
      refine W.skip ?_
      refine W.block ?_
      refine W.sq [] [(0,.str p0),(3,.msl 2 w39 0 6 l38.length l38.length),(4,.int .i64 i35),(5,.int .i64 i36),(6,.int .i64 (n37:Int)),(7,.int .i32 ((Utf8.decode p0 n37).1:Int)),(10,.ptr 0 0 0)] [.siter p0 (n37+(Utf8.decode p0 n37).2),.dead,.rows (l38.map e_glyph_Spot) 6 w39 63] ?_
      refine W.sq [] [(0,.str p0),(3,.msl 2 w39 0 6 l38.length l38.length),(4,.int .i64 i35),(5,.int .i64 i36),(6,.int .i64 (n37:Int)),(7,.int .i32 ((Utf8.decode p0 n37).1:Int)),(8,.ptr 3 0 0),(10,.ptr 0 0 0)] [.siter p0 (n37+(Utf8.decode p0 n37).2),.dead,.rows (l38.map e_glyph_Spot) 6 w39 63,.cells [.int .i32 ((Utf8.decode p0 n37).1:Int),.int .i64 (n37:Int),.int .i64 1,.int .i64 i35,.int .i64 i36,.bool false] 0 63] ?_
      refine W.cut (fun s h=>∃(v:Int × Bool) (w:Unit) (F:Gs),glyph_Spots_j1 l38 p0 n37 i35 i36 v.1 v.2=some x ∧ AT 0 F [(0,.str p0),(3,.msl 2 w39 0 6 l38.length l38.length),(4,.int .i64 i35),(5,.int .i64 i36),(7,.int .i32 ((Utf8.decode p0 n37).1:Int)),(8,.ptr 3 0 0),(10,.ptr 0 0 0)] [.siter p0 (n37+(Utf8.decode p0 n37).2),.dead,.rows (l38.map e_glyph_Spot) 6 w39 63,.cells [.int .i32 ((Utf8.decode p0 n37).1:Int),.int .i64 (n37:Int),.int .i64 v.1,.int .i64 i35,.int .i64 i36,.bool v.2] 0 63] s h) ?_ ?_
      · refine W.sq [] [(0,.str p0),(3,.msl 2 w39 0 6 l38.length l38.length),(4,.int .i64 i35),(5,.int .i64 i36),(6,.int .i64 (n37:Int)),(7,.int .i32 ((Utf8.decode p0 n37).1:Int)),(8,.ptr 3 0 0),(10,.ptr 0 0 0),(21,.bool (((Utf8.decode p0 n37).1:Int)==65533))] [.siter p0 (n37+(Utf8.decode p0 n37).2),.dead,.rows (l38.map e_glyph_Spot) 6 w39 63,.cells [.int .i32 ((Utf8.decode p0 n37).1:Int),.int .i64 (n37:Int),.int .i64 1,.int .i64 i35,.int .i64 i36,.bool false] 0 63] ?_
        refine W.cnd (((Utf8.decode p0 n37).1:Int)==65533) (fun hb65=>?_) (fun hb65=>?_)
        · replace hm:=of_true hb65 hm
          replace hm:=of_ite hm
          obtain ⟨h66,hm⟩:=hm
          replace hm:=of_bind hm
          obtain ⟨v67,h68,hm⟩:=hm
          have kh68:=unicode_utf8_DecodeRuneInString_ok h68
          try simp only [hb57,hb65] at kh68
          refine W.sq [] [(0,.str p0),(3,.msl 2 w39 0 6 l38.length l38.length),(4,.int .i64 i35),(5,.int .i64 i36),(7,.int .i32 ((Utf8.decode p0 n37).1:Int)),(8,.ptr 3 0 0),(10,.ptr 0 0 0)] [.siter p0 (n37+(Utf8.decode p0 n37).2),.dead,.rows (l38.map e_glyph_Spot) 6 w39 63,.cells [.int .i32 ((Utf8.decode p0 n37).1:Int),.int .i64 (n37:Int),.int .i64 v67.2,.int .i64 i35,.int .i64 i36,.bool false] 0 63] ?_
          refine W.rg [] [(0,.str p0),(3,.msl 2 w39 0 6 l38.length l38.length),(4,.int .i64 i35),(5,.int .i64 i36),(7,.int .i32 ((Utf8.decode p0 n37).1:Int)),(8,.ptr 3 0 0),(10,.ptr 0 0 0)] [.siter p0 (n37+(Utf8.decode p0 n37).2),.dead,.rows (l38.map e_glyph_Spot) 6 w39 63,.cells [.int .i32 ((Utf8.decode p0 n37).1:Int),.int .i64 (n37:Int),.int .i64 v67.2,.int .i64 i35,.int .i64 i36,.bool (v67.2==1)] 0 63] ?_
          exact ⟨(v67.2,(v67.2==1)),(),⟨[],[]⟩,hm,RO⟩
        · replace hm:=of_false hb65 hm
          replace hm:=of_bind hm
          obtain ⟨v69,h70,hm⟩:=hm
          have kh70:=unicode_utf8_RuneLen_ok h70
          try simp only [hb57,hb65] at kh70
          refine W.rg [] [(0,.str p0),(3,.msl 2 w39 0 6 l38.length l38.length),(4,.int .i64 i35),(5,.int .i64 i36),(7,.int .i32 ((Utf8.decode p0 n37).1:Int)),(8,.ptr 3 0 0),(10,.ptr 0 0 0)] [.siter p0 (n37+(Utf8.decode p0 n37).2),.dead,.rows (l38.map e_glyph_Spot) 6 w39 63,.cells [.int .i32 ((Utf8.decode p0 n37).1:Int),.int .i64 (n37:Int),.int .i64 v69,.int .i64 i35,.int .i64 i36,.bool false] 0 63] ?_
          exact ⟨(v69,false),(),⟨[],[]⟩,hm,RO⟩
      · rintro s h ⟨⟨i58,b59⟩,_,F,hm,hat⟩
        refine W.weak F hat ?_
        show WK _ _ _ _ _ [(0,.str p0),(3,.msl 2 w39 0 6 l38.length l38.length),(4,.int .i64 i35),(5,.int .i64 i36),(7,.int .i32 ((Utf8.decode p0 n37).1:Int)),(8,.ptr 3 0 0),(10,.ptr 0 0 0)] [.siter p0 (n37+(Utf8.decode p0 n37).2),.dead,.rows (l38.map e_glyph_Spot) 6 w39 63,.cells [.int .i32 ((Utf8.decode p0 n37).1:Int),.int .i64 (n37:Int),.int .i64 i58,.int .i64 i35,.int .i64 i36,.bool b59] 0 63]
        rw [glyph_Spots_j1] at hm
        replace hm:=of_ite hm
        obtain ⟨h60,hm⟩:=hm
        replace hm:=of_let hm
        obtain ⟨l61,h62,hm⟩:=hm
        refine W.sq [] [(0,.str p0),(3,.msl 2 (w39+1) 0 6 l61.length l61.length),(4,.int .i64 i35),(5,.int .i64 i36),(7,.int .i32 ((Utf8.decode p0 n37).1:Int)),(10,.ptr 0 0 0)] [.siter p0 (n37+(Utf8.decode p0 n37).2),.dead,.rows (l61.map e_glyph_Spot) 6 (w39+1) 63] ?_
        clear h62
        replace hm:=of_bind hm
        obtain ⟨v63,h64,hm⟩:=hm
        have kh64:=glyph_step_ok h64
        try simp only [hb57] at kh64
        refine W.rg [] [(0,.str p0),(3,.msl 2 (w39+1) 0 6 l61.length l61.length),(4,.int .i64 v63.1),(5,.int .i64 v63.2),(10,.ptr 0 0 0)] [.siter p0 (n37+(Utf8.decode p0 n37).2),.dead,.rows (l61.map e_glyph_Spot) 6 (w39+1) 63] ?_
        obtain rfl:=Option.some.inj hm
        exact ⟨(v63.1,v63.2,(n37+(Utf8.decode p0 n37).2),l61),(w39+1),⟨[],[]⟩,rfl,RO⟩
    · rw [if_neg hb57] at hm
      refine W.sq [] [(0,.str p0),(3,.msl 2 w39 0 6 l38.length l38.length),(4,.int .i64 i35),(5,.int .i64 i36),(10,.ptr 0 0 0),(11,.tuple [.bool false]),(12,.bool false)] [.siter p0 n37,.dead,.rows (l38.map e_glyph_Spot) 6 w39 63] ?_
      refine W.seq ?_
      refine W.cnd false (fun hx=>by cases hx) (fun _=>?_)
      obtain rfl:=Option.some.inj hm
      obtain rfl:=hx _ rfl
      exact W.weak ⟨[],[]⟩ (show AT _ ⟨[],[]⟩ [(3,.msl 2 w39 0 6 l38.length l38.length)] [.dead,.dead,.rows (l38.map e_glyph_Spot) 6 w39 63] _ _ from RO) (W.exit (show _ ∧ _ from ⟨rfl,w39,rfl,rfl⟩))
  · rintro e0 s0 h0 ⟨rfl,w55,rfl,rfl⟩
    show WK _ _ _ _ _ [(3,.msl 2 w55 0 6 r56.length r56.length)] [.dead,.dead,.rows (r56.map e_glyph_Spot) 6 w55 63]
    refine W.sq [] [(2,.msl 2 w55 0 6 r56.length r56.length)] [.dead,.dead,.rows (r56.map e_glyph_Spot) 6 w55 63] ?_
    obtain rfl:=Option.some.inj hm
    exact W.ret (EndsF.retW [2] RO)


end Go.Proofs.YtgdchoahbiagbaaDoor
