import Derived.Test.YtkgpofmbegonfaaGreatDoorTie
import Derived.Test.YtkgpofmbegonfaaGreatDoorCards
import Derived.SevenTiedAt
import Derived.Test.YtkgpofmbegonfaaGreatDoorWhLaws
import Derived.Test.YtkgpofmbegonfaaGreatDoorWhTab
import Derived.Test.YtkgpofmbegonfaaGreatDoorWhWrap
set_option linter.all false
namespace Go.Proofs.YtkgpofmbegonfaaGreatDoor.wholePicksBack
open Go.ChangeShapes Go.WideShapes Go.ChangeAt Go.RowKit Go.Vs
theorem zpW:zdi Tryz.prog 12 23=true:=by kernel_rfl
set_option maxRecDepth 100000 in
theorem zrM(os:Os)(started:os.Started)(H:Type)(enc:TypeId × Value->H) :
  ReturnsInHanded {} Tryz.checked os 4 .any (fun w args=>(Rows.wholePicksBackSpec.pre enc Tryz.prog Tryz.f4 [] false w args/\laidMetH Tryz.prog zgo w)/\sizedMet enc Tryz.prog Tryz.f4 (OpenSpec.ofChange Rows.wholePicksBackSpec) false w args)
   (Rows.wholePicksBackSpec.post enc Tryz.prog Tryz.f4 false true false false):=by
 refine zd2 (C:=Tryz.checked) (X:=fun w _=>laidMetH Tryz.prog zgo w) (fun _ _ _ hh h=>h.of_heap hh) own started (by kernel_rfl) Tryz.func4
  (ChangeSpec.witness_shaped (enc:=enc) (C:=Tryz.checked) (os:=os) (X:=fun w _=>laidMetH Tryz.prog zgo w) false (World.laidAll Tryz.prog os zgo) #[.slice none 0 0] 8 (World.laidAll_os _ _ _) (World.shaped_of_ZipB (by kernel_rfl) (by kernel_rfl)) (by kernel_rfl) (by kernel_rfl) (by kernel_rfl) (zoN os _)) ?_
 intro W base args ds gs before hval0 hW _ hsz0 hL0 hsh _
 have hval:∀(j:Nat) t v,Tryz.f4.params[j]?=some t->args[j]?=some v->Value.okWide Tryz.prog W .any base t v:=hval0
 have hL:laidMetH Tryz.prog zgo W:=hL0
 have hW':=hW
 have hlt:=hW.lt
 obtain ⟨p,q,hA0,hV,rfl,hfz,hnd⟩:=hW
 have hA:DataW.TrodAll enc Tryz.prog W 0 (fun _=>true) true Tryz.f4.params.toList args.toList ds p:=hA0
 rw [Tryz.params4] at hA hval
 obtain ⟨v0,vs0,d0,ds0,p0,q0,hargs,rfl,rfl,h0,r0⟩:=trodAll_cons hA
 obtain ⟨rfl,rfl,rfl⟩:=trodAll_nil r0
 obtain rfl:args=#[v0]:=by cases args; simp_all
 obtain ⟨rfl,rfl⟩:=trodVars_none hV
 obtain ⟨mx,hmx⟩:=zom hsh
 letI:=zrd mx
 obtain ⟨x0,t0,c0⟩:=znZ zpW h0 (hval 0 23 v0 rfl rfl)
 clear hA0 hval0 hsz0
 rw [MakeChecks.laidMetH_plain _ _ _ (by kernel_rfl)] at hL
 refine ((zfF x0 t0).walk (W:=W) (vs:=#[v0]) (zwB hL hmx) rfl ?_).mono fun e W' ⟨he,bel⟩=>?_
 ·intro j x y hx hy
  match j,hx,hy with
  | 0,hx,hy=>simp only [List.getElem?_cons_zero,List.getElem?_cons_succ,Option.some.injEq] at hx; simp at hy; subst hx; subst hy; exact c0
  | _+1,hx,hy=>simp at hx
 subst he
 exact ⟨_,rfl,_,_,_,[],_,[],hW',trodAll_mk1 (shut_bool Tryz.underlying4 _),(trodAll_cons_mk (Below.trod zp5 (by kernel_rfl) (of_decide_eq_true (by kernel_rfl)) h0 bel (fun x hx=>hlt x (by simp only [List.mem_append]; exact .inl (.inl hx)))) trodAll_mk0),rfl,bel.frame _,fun h=>by cases h⟩
end Go.Proofs.YtkgpofmbegonfaaGreatDoor.wholePicksBack
