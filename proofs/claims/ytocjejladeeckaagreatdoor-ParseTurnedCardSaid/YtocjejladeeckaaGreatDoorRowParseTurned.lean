import Derived.Test.YtocjejladeeckaaGreatDoorTie
import Derived.Test.YtocjejladeeckaaGreatDoorCards
import Derived.SevenTiedAt
import Derived.Test.YtocjejladeeckaaGreatDoorParseLaws4
import Derived.Test.YtocjejladeeckaaGreatDoorParseTab
set_option linter.all false
namespace Go.Proofs.YtocjejladeeckaaGreatDoor.parseTurned
open Go.ChangeShapes Go.WideShapes Go.ChangeAt Go.RowKit Go.Vs
theorem ztg:zfk Tryz.prog 12 3=true:=by kernel_rfl
theorem ztY:zfk Tryz.prog 12 25=true:=by kernel_rfl
set_option maxRecDepth 100000 in
theorem zvq(os:Os)(started:os.Started)(H:Type)(enc:TypeId × Value->H) :
  ReturnsInHanded {} Tryz.checked os 5 .any (fun w args=>(Rows.parseTurnedSpec.pre enc Tryz.prog Tryz.f5 [] false w args/\laidMetH Tryz.prog zfI w)/\sizedMet enc Tryz.prog Tryz.f5 (OpenSpec.ofChange Rows.parseTurnedSpec) false w args)
   (Rows.parseTurnedSpec.post enc Tryz.prog Tryz.f5 false true false false):=by
 refine returnsInHanded_of_change_and (C:=Tryz.checked) (X:=fun w _=>laidMetH Tryz.prog zfI w) (fun _ _ _ hh h=>h.of_heap hh) own started (by kernel_rfl) Tryz.func5
  (ChangeSpec.witness_shaped (enc:=enc) (C:=Tryz.checked) (os:=os) (X:=fun w _=>laidMetH Tryz.prog zfI w) false (World.laidAll Tryz.prog os zfI) #[.slice none 0 0,.int .i64 0,.int .i64 0] 8 (World.laidAll_os _ _ _) (World.shaped_of_ZipB (by kernel_rfl) (by kernel_rfl)) (by kernel_rfl) (by kernel_rfl) (by kernel_rfl) (zsP os _)) ?_
 intro W base args ds gs before hval0 hW _ hsz0 hL0 _
 have hval:∀(j:Nat) t v,Tryz.f5.params[j]?=some t->args[j]?=some v->Value.okWide Tryz.prog W .any base t v:=hval0
 have hL:laidMetH Tryz.prog zfI W:=hL0
 have hW':=hW
 have hlt:=hW.lt
 obtain ⟨p,q,hA0,hV,rfl,hfz,hnd⟩:=hW
 have hA:DataW.TrodAll enc Tryz.prog W 0 (fun _=>true) true Tryz.f5.params.toList args.toList ds p:=hA0
 rw [Tryz.params5] at hA hval
 obtain ⟨v0,vs0,d0,ds0,p0,q0,hargs,rfl,rfl,h0,r0⟩:=trodAll_cons hA
 obtain ⟨v1,vs1,d1,ds1,p1,q1,rfl,rfl,rfl,h1,r1⟩:=trodAll_cons r0
 obtain ⟨v2,vs2,d2,ds2,p2,q2,rfl,rfl,rfl,h2,r2⟩:=trodAll_cons r1
 obtain ⟨rfl,rfl,rfl⟩:=trodAll_nil r2
 obtain rfl:args=#[v0,v1,v2]:=by cases args; simp_all
 obtain ⟨rfl,rfl⟩:=trodVars_none hV
 letI:=zoU
 obtain ⟨x0,t0,c0⟩:=zl0 ztY h0 (hval 0 25 v0 rfl rfl)
 obtain ⟨x1,t1,c1⟩:=zl0 ztg h1 (hval 1 3 v1 rfl rfl)
 obtain ⟨x2,t2,c2⟩:=zl0 ztg h2 (hval 2 3 v2 rfl rfl)
 clear hA0 hval0 hsz0
 rw [MakeChecks.laidMetH_plain _ _ _ (by kernel_rfl)] at hL
 refine ((zkE x0 t0 x1 t1 x2 t2).walk (W:=W) (vs:=#[v0,v1,v2]) (zso hL) rfl ?_).mono fun e W' ⟨he,bel⟩=>?_
 ·intro j x y hx hy
  match j,hx,hy with
  | 0,hx,hy=>simp only [List.getElem?_cons_zero,List.getElem?_cons_succ,Option.some.injEq] at hx; simp at hy; subst hx; subst hy; exact c0
  | 1,hx,hy=>simp only [List.getElem?_cons_zero,List.getElem?_cons_succ,Option.some.injEq] at hx; simp at hy; subst hx; subst hy; exact c1
  | 2,hx,hy=>simp only [List.getElem?_cons_zero,List.getElem?_cons_succ,Option.some.injEq] at hx; simp at hy; subst hx; subst hy; exact c2
  | _+3,hx,hy=>simp at hx
 subst he
 exact ⟨_,rfl,_,_,_,[],_,[],hW',trodAll_mk1 (shut_bool Tryz.underlying4 _),(trodAll_cons_mk (Below.trod zog (by kernel_rfl) (of_decide_eq_true (by kernel_rfl)) h0 bel (fun x hx=>hlt x (by simp only [List.mem_append]; exact .inl (.inl hx)))) (trodAll_cons_mk (Below.trod zog (by kernel_rfl) (of_decide_eq_true (by kernel_rfl)) h1 bel (fun x hx=>hlt x (by simp only [List.mem_append]; exact .inl (.inr (.inl hx))))) (trodAll_cons_mk (Below.trod zog (by kernel_rfl) (of_decide_eq_true (by kernel_rfl)) h2 bel (fun x hx=>hlt x (by simp only [List.mem_append]; exact .inl (.inr (.inr (.inl hx)))))) trodAll_mk0))),rfl,bel.frame _,fun h=>by cases h⟩
theorem over:Rows.parseTurnedRow.holds Tryz.pinned (OpenSpec.ofChange Rows.parseTurnedSpec) :=
 OpenClaim.holds_of_wide 5 Tryz.f5 rfl rfl rfl rfl rfl rfl rfl ⟨rfl,rfl,rfl,rfl,rfl⟩ rfl rfl rfl rfl rfl (by kernel_rfl) Tryz.func5 (by kernel_rfl)
  (of_decide_eq_true (by kernel_rfl)) (by unfold Func.isWrapper; first | (rw [if_pos (by decide +kernel)]; kernel_rfl) | (rw [if_neg (by decide +kernel)]; exact ⟨rfl,rfl⟩))
  (fun os started H enc _=>zvq os started H enc)
end Go.Proofs.YtocjejladeeckaaGreatDoor.parseTurned
namespace Go.Proofs.YtocjejladeeckaaGreatDoor
open Go
theorem parseTurned_holds:Rows.ParseTurnedSaid:=parseTurned.over
theorem parseTurned_card:Rows.ParseTurnedCardSaid :=
 Claim7.holds_tied_plain_at .later [] [.data,.data,.data,.data,.sentinel,.sentinel,.pinned] true (true,"19866bf00af4ae0fd994b3d1a04ac6e2a4ab6e22b11d007b4e16f062e562e0c6") true
  parseTurned_holds (fun _ h=>by cases h) (by kernel_rfl) (fun _ h=>by cases h) parseTurned_row_tie rfl ⟨rfl,rfl⟩ (by kernel_rfl) rfl
  (fun f fn hf hfn=>by
   obtain rfl:f=5:=Option.some.inj ((show Tryz.prog.funcNamed Rows.parseTurnedRow.func=some 5 by kernel_rfl).symm.trans hf) |>.symm
   obtain rfl:fn=Tryz.f5:=(Option.some.inj (Tryz.func5.symm.trans hfn)).symm
   exact ⟨by kernel_rfl,fun j t ht=>by
    rw [Tryz.params5] at ht
    rcases (show t=25\/t=3\/t=3 by
     match j,ht with
     | 0,ht=>simp at ht; exact .inl ht.symm
     | 1,ht=>simp at ht; exact .inr (.inl ht.symm)
     | 2,ht=>simp at ht; exact .inr (.inr (ht.symm))
     | _+3,ht=>simp at ht) with rfl | rfl | rfl
    all_goals kernel_rfl⟩)
  (by kernel_rfl)
#print axioms parseTurned_card
end Go.Proofs.YtocjejladeeckaaGreatDoor
