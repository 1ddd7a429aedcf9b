import Derived.Test.YtocjejladeeckaaDoorVFacts
import Derived.Test.YtocjejladeeckaaDoorVu3
import Derived.Test.YtocjejladeeckaaDoorPalB
import Derived.Test.YtocjejladeeckaaDoorWA
import Derived.Test.YtocjejladeeckaaDoorWUtf
set_option linter.all false
set_option maxRecDepth 100000
set_option maxHeartbeats 4000000
namespace Go.Proofs.YtocjejladeeckaaDoor
open Go.Vs
variable [TabU]
theorem zdN{p0:ByteArray}{r:(List zab)}(hm:zbI p0=some r):zaE Tryd.prog 35 [.str p0] (.sl (r.map zae)):=by
 rw [zbI] at hm
 refine zaE.of Tryd.func35 rfl Tryd.ntmps35 (Nat.le_of_ble_eq_true rfl) ?_
 refine W.sa 0 [0] ?_
 refine W.sa 0 [0,3] ?_
 refine W.sa 0 [0,3,4,5] ?_
 refine W.seq (W.sa 1 [0,3,4,5,10] ?_)
 refine W.block ?_
 replace ⟨r56,hlr56,hm⟩:=zal hm
 refine W.mono (Q:=fun e0 s0 h0=>e0=.exit 0/\∃w:Nat,s0=[(3,zM 2 w 6 r56)]/\h0=[.dead,.dead,.rows (r56.map zae) 6 w 74]) (W.loopM (step:=zaC p0) (a0:=(1,1,0,[])) (fun (a:Int × Int × Nat × (List zab)) (v:Nat)=>([(0,.str p0),(3,zM 2 v 6 a.2.2.2),(4,zi a.1),(5,zi a.2.1),(10,.ptr 0 0 0)],[.siter p0 a.2.2.1,.dead,.rows (a.2.2.2.map zae) 6 v 74])) 0 hlr56 ⟨[],[]⟩ RO ?_) ?_
 ·rintro ⟨i35,i36,n37,l38⟩ w39 x hm hx
  rw [zaC] at hm
  show WK _ _ _ _ _ [(0,.str p0),(3,zM 2 w39 6 l38),(4,zi i35),(5,zi i36),(10,.ptr 0 0 0)] [.siter p0 n37,.dead,.rows (l38.map zae) 6 w39 74]
  by_cases hb57:n37<p0.size
  ·rw [if_pos hb57] at hm
   refine W.sa 3 [0,3,4,5,10,11,12] ?_
   refine W.seq (W.cnd true (fun _=>?_) (fun hx=>by cases hx))
   refine W.skip (W.block (W.sa 3 [0,3,4,5,6,7,10] ?_))
   refine W.sa 4 [0,3,4,5,6,7,8,10] ?_
   refine W.cut (fun s h=>∃(v:Int × Bool) (w:Unit) (F:Gs),zaW l38 p0 n37 i35 i36 v.1 v.2=some x/\AT 0 F [(0,.str p0),(3,zM 2 w39 6 l38),(4,zi i35),(5,zi i36),(7,.int .i32 ((Utf8.decode p0 n37).1:Int)),(8,.ptr 3 0 0),(10,.ptr 0 0 0)] [.siter p0 (n37+(Utf8.decode p0 n37).2),.dead,.rows (l38.map zae) 6 w39 74,.cells [.int .i32 ((Utf8.decode p0 n37).1:Int),zi (n37:Int),zi v.1,zi i35,zi i36,.bool v.2] 0 74] s h) ?_ ?_
   ·refine W.sa 4 [0,3,4,5,6,7,8,10,21] ?_
    refine W.cn hm ?_ ?_ <;> clear hm <;> intro hb65 hm
    ·replace ⟨h66,hm⟩:=zaB hm
     replace ⟨v67,h68,hm⟩:=zal hm
     have kh68:=zbe h68
     try simp only [hb57,hb65] at kh68
     refine W.sa 4 [0,3,4,5,7,8,10] ?_
     refine W.rg [] [(0,.str p0),(3,zM 2 w39 6 l38),(4,zi i35),(5,zi i36),(7,.int .i32 ((Utf8.decode p0 n37).1:Int)),(8,.ptr 3 0 0),(10,.ptr 0 0 0)] [.siter p0 (n37+(Utf8.decode p0 n37).2),.dead,.rows (l38.map zae) 6 w39 74,.cells [.int .i32 ((Utf8.decode p0 n37).1:Int),zi (n37:Int),zi v67.2,zi i35,zi i36,.bool (v67.2==1)] 0 74] ?_
     exact ⟨(v67.2,(v67.2==1)),(),⟨[],[]⟩,hm,RO⟩
    ·replace ⟨v69,h70,hm⟩:=zal hm
     have kh70:=zbW h70
     try simp only [hb57,hb65] at kh70
     refine W.rg [] [(0,.str p0),(3,zM 2 w39 6 l38),(4,zi i35),(5,zi i36),(7,.int .i32 ((Utf8.decode p0 n37).1:Int)),(8,.ptr 3 0 0),(10,.ptr 0 0 0)] [.siter p0 (n37+(Utf8.decode p0 n37).2),.dead,.rows (l38.map zae) 6 w39 74,.cells [.int .i32 ((Utf8.decode p0 n37).1:Int),zi (n37:Int),zi v69,zi i35,zi i36,.bool false] 0 74] ?_
     exact ⟨(v69,false),(),⟨[],[]⟩,hm,RO⟩
   ·rintro s h ⟨⟨i58,b59⟩,_,F,hm,hat⟩
    refine W.weak F hat ?_
    show WK _ _ _ _ _ [(0,.str p0),(3,zM 2 w39 6 l38),(4,zi i35),(5,zi i36),(7,.int .i32 ((Utf8.decode p0 n37).1:Int)),(8,.ptr 3 0 0),(10,.ptr 0 0 0)] [.siter p0 (n37+(Utf8.decode p0 n37).2),.dead,.rows (l38.map zae) 6 w39 74,.cells [.int .i32 ((Utf8.decode p0 n37).1:Int),zi (n37:Int),zi i58,zi i35,zi i36,.bool b59] 0 74]
    rw [zaW] at hm
    replace ⟨h60,hm⟩:=zaB hm
    replace ⟨l61,h62,hm⟩:=zb2 hm
    refine W.sq [] [(0,.str p0),(3,.msl 2 (w39+1) 0 6 l61.length l61.length),(4,zi i35),(5,zi i36),(7,.int .i32 ((Utf8.decode p0 n37).1:Int)),(10,.ptr 0 0 0)] [.siter p0 (n37+(Utf8.decode p0 n37).2),.dead,.rows (l61.map zae) 6 (w39+1) 74] ?_
    clear h62
    replace ⟨v63,h64,hm⟩:=zal hm
    have kh64:=zcG h64
    try simp only [hb57] at kh64
    refine W.rg [] [(0,.str p0),(3,.msl 2 (w39+1) 0 6 l61.length l61.length),(4,zi v63.1),(5,zi v63.2),(10,.ptr 0 0 0)] [.siter p0 (n37+(Utf8.decode p0 n37).2),.dead,.rows (l61.map zae) 6 (w39+1) 74] ?_
    cases hm
    exact ⟨(v63.1,v63.2,(n37+(Utf8.decode p0 n37).2),l61),(w39+1),⟨[],[]⟩,rfl,RO⟩
  ·rw [if_neg hb57] at hm
   refine W.sa 3 [0,3,4,5,10,11,12] ?_
   refine W.seq (W.cnd false (fun hx=>by cases hx) (fun _=>?_))
   cases hm
   obtain rfl:=hx _ rfl
   exact W.wk ⟨[],[]⟩ [(3,zM 2 w39 6 l38)] [.dead,.dead,.rows (l38.map zae) 6 w39 74] (W.exit (show _/\_ from ⟨rfl,w39,rfl,rfl⟩))
 ·rintro e0 s0 h0 ⟨rfl,w55,rfl,rfl⟩
  show WK _ _ _ _ _ [(3,zM 2 w55 6 r56)] [.dead,.dead,.rows (r56.map zae) 6 w55 74]
  refine W.sa 3 [2] ?_
  cases hm
  exact W.ret (zcX.retW [2] RO)
end Go.Proofs.YtocjejladeeckaaDoor
