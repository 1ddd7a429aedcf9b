import Derived.Test.YtocjejladeeckaaGreatDoorTie
import Derived.Test.YtocjejladeeckaaGreatDoorCards
import Derived.SevenTiedAt
import Derived.Test.YtocjejladeeckaaGreatDoorParseLaws6
import Derived.Test.YtocjejladeeckaaGreatDoorParseTab
set_option linter.all false
namespace Go.Proofs.YtocjejladeeckaaGreatDoor.parseShown
open Go.ChangeShapes Go.WideShapes Go.ChangeAt Go.RowKit Go.Vs
theorem zuW:zev Tryz.prog 12 9=true:=by kernel_rfl
set_option maxRecDepth 100000 in
theorem zvg(os:Os)(started:os.Started)(H:Type)(enc:TypeId × Value->H) :
  ReturnsInHanded {} Tryz.checked os 7 .any (fun w args=>(Rows.parseShownSpec.pre enc Tryz.prog Tryz.f7 [] false w args/\laidMetH Tryz.prog zeO w)/\sizedMet enc Tryz.prog Tryz.f7 (OpenSpec.ofChange Rows.parseShownSpec) false w args)
   (Rows.parseShownSpec.post enc Tryz.prog Tryz.f7 false true false false):=by
 refine returnsInHanded_of_change_and (C:=Tryz.checked) (X:=fun w _=>laidMetH Tryz.prog zeO w) (fun _ _ _ hh h=>h.of_heap hh) own started (by kernel_rfl) Tryz.func7
  (ChangeSpec.witness_shaped (enc:=enc) (C:=Tryz.checked) (os:=os) (X:=fun w _=>laidMetH Tryz.prog zeO w) false (World.laidAll Tryz.prog os zeO) #[.string .empty] 8 (World.laidAll_os _ _ _) (World.shaped_of_ZipB (by kernel_rfl) (by kernel_rfl)) (by kernel_rfl) (by kernel_rfl) (by kernel_rfl) (zso os _)) ?_
 intro W base args ds gs before hval0 hW _ hsz0 hL0 _
 have hval:∀(j:Nat) t v,Tryz.f7.params[j]?=some t->args[j]?=some v->Value.okWide Tryz.prog W .any base t v:=hval0
 have hL:laidMetH Tryz.prog zeO W:=hL0
 have hW':=hW
 have hlt:=hW.lt
 obtain ⟨p,q,hA0,hV,rfl,hfz,hnd⟩:=hW
 have hA:DataW.TrodAll enc Tryz.prog W 0 (fun _=>true) true Tryz.f7.params.toList args.toList ds p:=hA0
 rw [Tryz.params7] at hA hval
 obtain ⟨v0,vs0,d0,ds0,p0,q0,hargs,rfl,rfl,h0,r0⟩:=trodAll_cons hA
 obtain ⟨rfl,rfl,rfl⟩:=trodAll_nil r0
 obtain rfl:args=#[v0]:=by cases args; simp_all
 obtain ⟨rfl,rfl⟩:=trodVars_none hV
 letI:=zop
 obtain ⟨x0,t0,c0⟩:=zrC zuW h0 (hval 0 9 v0 rfl rfl)
 clear hA0 hval0 hsz0
 rw [MakeChecks.laidMetH_plain _ _ _ (by kernel_rfl)] at hL
 refine ((zkM x0 t0).walk (W:=W) (vs:=#[v0]) (zrW hL) rfl ?_).mono fun e W' ⟨he,bel⟩=>?_
 ·intro j x y hx hy
  match j,hx,hy with
  | 0,hx,hy=>simp only [List.getElem?_cons_zero,List.getElem?_cons_succ,Option.some.injEq] at hx; simp at hy; subst hx; subst hy; exact c0
  | _+1,hx,hy=>simp at hx
 subst he
 exact ⟨_,rfl,_,_,_,[],_,[],hW',trodAll_mk1 (shut_bool Tryz.underlying4 _),(trodAll_cons_mk (Below.trod ztz (by kernel_rfl) (of_decide_eq_true (by kernel_rfl)) h0 bel (fun x hx=>hlt x (by simp only [List.mem_append]; exact .inl (.inl hx)))) trodAll_mk0),rfl,bel.frame _,fun h=>by cases h⟩
theorem over:Rows.parseShownRow.holds Tryz.pinned (OpenSpec.ofChange Rows.parseShownSpec) :=
 OpenClaim.holds_of_wide 7 Tryz.f7 rfl rfl rfl rfl rfl rfl rfl ⟨rfl,rfl,rfl,rfl,rfl⟩ rfl rfl rfl rfl rfl (by kernel_rfl) Tryz.func7 (by kernel_rfl)
  (of_decide_eq_true (by kernel_rfl)) (by unfold Func.isWrapper; first | (rw [if_pos (by decide +kernel)]; kernel_rfl) | (rw [if_neg (by decide +kernel)]; exact ⟨rfl,rfl⟩))
  (fun os started H enc _=>zvg os started H enc)
end Go.Proofs.YtocjejladeeckaaGreatDoor.parseShown
namespace Go.Proofs.YtocjejladeeckaaGreatDoor
open Go
theorem parseShown_holds:Rows.ParseShownSaid:=parseShown.over
theorem parseShown_card:Rows.ParseShownCardSaid :=
 Claim7.holds_tied_plain_at .later [] [.data,.data,.data,.data,.sentinel,.sentinel,.pinned] true (true,"19866bf00af4ae0fd994b3d1a04ac6e2a4ab6e22b11d007b4e16f062e562e0c6") true
  parseShown_holds (fun _ h=>by cases h) (by kernel_rfl) (fun _ h=>by cases h) parseShown_row_tie rfl ⟨rfl,rfl⟩ (by kernel_rfl) rfl
  (fun f fn hf hfn=>by
   obtain rfl:f=7:=Option.some.inj ((show Tryz.prog.funcNamed Rows.parseShownRow.func=some 7 by kernel_rfl).symm.trans hf) |>.symm
   obtain rfl:fn=Tryz.f7:=(Option.some.inj (Tryz.func7.symm.trans hfn)).symm
   exact ⟨by kernel_rfl,fun j t ht=>by
    rw [Tryz.params7] at ht
    rcases (show t=9 by
     match j,ht with
     | 0,ht=>simp at ht; exact ht.symm
     | _+1,ht=>simp at ht) with rfl
    all_goals kernel_rfl⟩)
  (by kernel_rfl)
#print axioms parseShown_card
end Go.Proofs.YtocjejladeeckaaGreatDoor
