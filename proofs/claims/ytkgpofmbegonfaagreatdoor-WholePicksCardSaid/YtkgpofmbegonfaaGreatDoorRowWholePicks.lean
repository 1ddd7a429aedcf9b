import Derived.Test.YtkgpofmbegonfaaGreatDoorTie
import Derived.Test.YtkgpofmbegonfaaGreatDoorCards
import Derived.SevenTiedAt
import Derived.Test.YtkgpofmbegonfaaGreatDoorWhLaws
import Derived.Test.YtkgpofmbegonfaaGreatDoorWhTab
import Derived.Test.YtkgpofmbegonfaaGreatDoorWhWrap
set_option linter.all false
namespace Go.Proofs.YtkgpofmbegonfaaGreatDoor.wholePicks
open Go.ChangeShapes Go.WideShapes Go.ChangeAt Go.RowKit Go.Vs
theorem zo7:zc6 Tryz.prog 12 9=true:=by kernel_rfl
set_option maxRecDepth 100000 in
theorem zph(os:Os)(started:os.Started)(H:Type)(enc:TypeId × Value->H) :
  ReturnsInHanded {} Tryz.checked os 3 .any (fun w args=>(Rows.wholePicksSpec.pre enc Tryz.prog Tryz.f3 [] false w args/\laidMetH Tryz.prog zgh w)/\sizedMet enc Tryz.prog Tryz.f3 (OpenSpec.ofChange Rows.wholePicksSpec) false w args)
   (Rows.wholePicksSpec.post enc Tryz.prog Tryz.f3 false true false false):=by
 refine zdR (C:=Tryz.checked) (X:=fun w _=>laidMetH Tryz.prog zgh w) (fun _ _ _ hh h=>h.of_heap hh) own started (by kernel_rfl) Tryz.func3
  (ChangeSpec.witness_shaped (enc:=enc) (C:=Tryz.checked) (os:=os) (X:=fun w _=>laidMetH Tryz.prog zgh w) false (World.laidAll Tryz.prog os zgh) #[.string .empty] 8 (World.laidAll_os _ _ _) (World.shaped_of_ZipB (by kernel_rfl) (by kernel_rfl)) (by kernel_rfl) (by kernel_rfl) (by kernel_rfl) (zne os _)) ?_
 intro W base args ds gs before hval0 hW _ hsz0 hL0 hsh _
 have hval:∀(j:Nat) t v,Tryz.f3.params[j]?=some t->args[j]?=some v->Value.okWide Tryz.prog W .any base t v:=hval0
 have hL:laidMetH Tryz.prog zgh W:=hL0
 have hW':=hW
 have hlt:=hW.lt
 obtain ⟨p,q,hA0,hV,rfl,hfz,hnd⟩:=hW
 have hA:DataW.TrodAll enc Tryz.prog W 0 (fun _=>true) true Tryz.f3.params.toList args.toList ds p:=hA0
 rw [Tryz.params3] at hA hval
 obtain ⟨v0,vs0,d0,ds0,p0,q0,hargs,rfl,rfl,h0,r0⟩:=trodAll_cons hA
 obtain ⟨rfl,rfl,rfl⟩:=trodAll_nil r0
 obtain rfl:args=#[v0]:=by cases args; simp_all
 obtain ⟨rfl,rfl⟩:=trodVars_none hV
 obtain ⟨mx,hmx⟩:=zmR hsh
 letI:=zoS mx
 obtain ⟨x0,t0,c0⟩:=zmE zo7 h0 (hval 0 9 v0 rfl rfl)
 clear hA0 hval0 hsz0
 rw [MakeChecks.laidMetH_plain _ _ _ (by kernel_rfl)] at hL
 refine ((zhs x0 t0).walk (W:=W) (vs:=#[v0]) (zq9 hL hmx) rfl ?_).mono fun e W' ⟨he,bel⟩=>?_
 ·intro j x y hx hy
  match j,hx,hy with
  | 0,hx,hy=>simp only [List.getElem?_cons_zero,List.getElem?_cons_succ,Option.some.injEq] at hx; simp at hy; subst hx; subst hy; exact c0
  | _+1,hx,hy=>simp at hx
 subst he
 exact ⟨_,rfl,_,_,_,[],_,[],hW',trodAll_mk1 (shut_bool Tryz.underlying4 _),(trodAll_cons_mk (Below.trod zn8 (by kernel_rfl) (of_decide_eq_true (by kernel_rfl)) h0 bel (fun x hx=>hlt x (by simp only [List.mem_append]; exact .inl (.inl hx)))) trodAll_mk0),rfl,bel.frame _,fun h=>by cases h⟩
theorem over:Rows.wholePicksRow.holds Tryz.pinned (OpenSpec.ofChange Rows.wholePicksSpec) :=
 OpenClaim.holds_of_wide 3 Tryz.f3 rfl rfl rfl rfl rfl rfl rfl ⟨rfl,rfl,rfl,rfl,rfl⟩ rfl rfl rfl rfl rfl (by kernel_rfl) Tryz.func3 (by kernel_rfl)
  (of_decide_eq_true (by kernel_rfl)) (by unfold Func.isWrapper; first | (rw [if_pos (by decide +kernel)]; kernel_rfl) | (rw [if_neg (by decide +kernel)]; exact ⟨rfl,rfl⟩))
  (fun os started H enc _=>zph os started H enc)
end Go.Proofs.YtkgpofmbegonfaaGreatDoor.wholePicks
namespace Go.Proofs.YtkgpofmbegonfaaGreatDoor
open Go
theorem wholePicks_holds:Rows.WholePicksSaid:=wholePicks.over
theorem wholePicks_card:Rows.WholePicksCardSaid :=
 Claim7.holds_tied_plain_at .later [] [.data,.data,.data,.data,.sentinel,.sentinel,.pinned] true (true,"ffc8048458888361800e8f46ee0b33ae07391b5c84173609c06161ae6c157cb0") true
  wholePicks_holds (fun _ h=>by cases h) (by kernel_rfl) (fun _ h=>by cases h) wholePicks_row_tie rfl ⟨rfl,rfl⟩ (by kernel_rfl) rfl
  (fun f fn hf hfn=>by
   obtain rfl:f=3:=Option.some.inj ((show Tryz.prog.funcNamed Rows.wholePicksRow.func=some 3 by kernel_rfl).symm.trans hf) |>.symm
   obtain rfl:fn=Tryz.f3:=(Option.some.inj (Tryz.func3.symm.trans hfn)).symm
   exact ⟨by kernel_rfl,fun j t ht=>by
    rw [Tryz.params3] at ht
    rcases (show t=9 by
     match j,ht with
     | 0,ht=>simp at ht; exact ht.symm
     | _+1,ht=>simp at ht) with rfl
    all_goals kernel_rfl⟩)
  (by kernel_rfl)
#print axioms wholePicks_card
end Go.Proofs.YtkgpofmbegonfaaGreatDoor
