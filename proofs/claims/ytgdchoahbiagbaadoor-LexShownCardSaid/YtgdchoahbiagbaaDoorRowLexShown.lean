import Derived.Test.YtgdchoahbiagbaaDoorTie
import Derived.Test.YtgdchoahbiagbaaDoorCards
import Derived.SevenTiedAt
import Derived.Test.YtgdchoahbiagbaaDoorLexLaws
import Derived.Test.YtgdchoahbiagbaaDoorLexTab
/-! The row of a law, and its tied card. -/
set_option linter.unusedVariables false
set_option linter.unusedSimpArgs false
namespace Go.Proofs.YtgdchoahbiagbaaDoor.lexShown
open Go.ChangeShapes Go.WideShapes Go.ChangeAt Go.RowKit Go.Vs
theorem plain3:plainT Tryd.prog 12 3=true:=by kernel_rfl
theorem plain5:plainT Tryd.prog 12 5=true:=by kernel_rfl
theorem plain22:plainT Tryd.prog 12 22=true:=by kernel_rfl
set_option maxRecDepth 100000 in
theorem lifted(os:Os)(started:os.Started)(H:Type)(enc:TypeId × Value → H) :
    ReturnsInHanded {} Tryd.checked os 3 .any (fun w args=>(Rows.lexShownSpec.pre enc Tryd.prog Tryd.f3 [] false w args ∧ laidMetH Tryd.prog lexLaid w) ∧ sizedMet enc Tryd.prog Tryd.f3 (OpenSpec.ofChange Rows.lexShownSpec) false w args)
      (Rows.lexShownSpec.post enc Tryd.prog Tryd.f3 false true false false):=by
  refine returnsInHanded_of_change_and (C:=Tryd.checked) (X:=fun w _=>laidMetH Tryd.prog lexLaid w) (fun _ _ _ hh h=>h.of_heap hh) own started (by kernel_rfl) Tryd.func3
    (ChangeSpec.witness_shaped (enc:=enc) (C:=Tryd.checked) (os:=os) (X:=fun w _=>laidMetH Tryd.prog lexLaid w) false (World.laidAll Tryd.prog os lexLaid) #[.slice none 0 0,.int .i64 0,.int .u8 0] 8 (World.laidAll_os _ _ _) (World.shaped_of_ZipB (by kernel_rfl) (by kernel_rfl)) (by kernel_rfl) (by kernel_rfl) (by kernel_rfl) (door_met os _)) ?_
  intro W base args ds gs before hval0 hW _ hsz0 hL0 _
  have hval:∀(j:Nat) t v,Tryd.f3.params[j]?=some t → args[j]?=some v → Value.okWide Tryd.prog W .any base t v:=hval0
  have hL:laidMetH Tryd.prog lexLaid W:=hL0
  have hW':=hW
  have hlt:=hW.lt
  obtain ⟨p,q,hA0,hV,rfl,hfz,hnd⟩:=hW
  have hA:DataW.TrodAll enc Tryd.prog W 0 (fun _=>true) true Tryd.f3.params.toList args.toList ds p:=hA0
  rw [Tryd.params3] at hA hval
  obtain ⟨v0,vs0,d0,ds0,p0,q0,hargs,rfl,rfl,h0,r0⟩:=trodAll_cons hA
  obtain ⟨v1,vs1,d1,ds1,p1,q1,rfl,rfl,rfl,h1,r1⟩:=trodAll_cons r0
  obtain ⟨v2,vs2,d2,ds2,p2,q2,rfl,rfl,rfl,h2,r2⟩:=trodAll_cons r1
  obtain ⟨rfl,rfl,rfl⟩:=trodAll_nil r2
  obtain rfl:args=#[v0,v1,v2]:=by cases args; simp_all
  obtain ⟨rfl,rfl⟩:=trodVars_none hV
  letI:=lexTab
  obtain ⟨x0,t0,c0⟩:=trod_val plain22 h0 (hval 0 22 v0 rfl rfl)
  obtain ⟨x1,t1,c1⟩:=trod_val plain3 h1 (hval 1 3 v1 rfl rfl)
  obtain ⟨x2,t2,c2⟩:=trod_val plain5 h2 (hval 2 5 v2 rfl rfl)
  clear hA0 hval0 hsz0
  rw [MakeChecks.laidMetH_plain _ _ _ (by kernel_rfl)] at hL
  refine ((lexShown_law x0 t0 x1 t1 x2 t2).walk (W:=W) (vs:=#[v0,v1,v2]) (lex_tt hL) rfl ?_).mono fun e W' ⟨he,bel⟩=>?_
  · intro j x y hx hy
    match j,hx,hy with
    | 0,hx,hy=>simp only [List.getElem?_cons_zero,List.getElem?_cons_succ,Option.some.injEq] at hx; simp at hy; subst hx; subst hy; exact c0
    | 1,hx,hy=>simp only [List.getElem?_cons_zero,List.getElem?_cons_succ,Option.some.injEq] at hx; simp at hy; subst hx; subst hy; exact c1
    | 2,hx,hy=>simp only [List.getElem?_cons_zero,List.getElem?_cons_succ,Option.some.injEq] at hx; simp at hy; subst hx; subst hy; exact c2
    | _+3,hx,hy=>simp at hx
  subst he
  exact ⟨_,rfl,_,_,_,[],_,[],hW',trodAll_mk1 (shut_bool Tryd.underlying4 _),(trodAll_cons_mk (Below.trod laidOut (by kernel_rfl) (of_decide_eq_true (by kernel_rfl)) h0 bel (fun x hx=>hlt x (by simp only [List.mem_append]; exact .inl (.inl hx)))) (trodAll_cons_mk (Below.trod laidOut (by kernel_rfl) (of_decide_eq_true (by kernel_rfl)) h1 bel (fun x hx=>hlt x (by simp only [List.mem_append]; exact .inl (.inr (.inl hx))))) (trodAll_cons_mk (Below.trod laidOut (by kernel_rfl) (of_decide_eq_true (by kernel_rfl)) h2 bel (fun x hx=>hlt x (by simp only [List.mem_append]; exact .inl (.inr (.inr (.inl hx)))))) trodAll_mk0))),rfl,bel.frame _,fun h=>by cases h⟩
theorem over:Rows.lexShownRow.holds Tryd.pinned (OpenSpec.ofChange Rows.lexShownSpec) :=
  OpenClaim.holds_of_wide 3 Tryd.f3 rfl rfl rfl rfl rfl rfl rfl ⟨rfl,rfl,rfl,rfl,rfl⟩ rfl rfl rfl rfl rfl (by kernel_rfl) Tryd.func3 (by kernel_rfl)
    (of_decide_eq_true (by kernel_rfl)) (by unfold Func.isWrapper; first | (rw [if_pos (by decide +kernel)]; kernel_rfl) | (rw [if_neg (by decide +kernel)]; exact ⟨rfl,rfl⟩))
    (fun os started H enc _=>lifted os started H enc)
end Go.Proofs.YtgdchoahbiagbaaDoor.lexShown
namespace Go.Proofs.YtgdchoahbiagbaaDoor
open Go
theorem lexShown_holds:Rows.LexShownSaid:=lexShown.over
theorem lexShown_card:Rows.LexShownCardSaid :=
  Claim7.holds_tied_plain_at .later [] [.data,.data,.data,.data,.sentinel,.sentinel,.pinned] true (true,"73b2246fe2c56d2ae5c4d2be794785c4407bdf856200b350fc5a83cc50f28966") true
    lexShown_holds (fun _ h=>by cases h) (by kernel_rfl) (fun _ h=>by cases h) lexShown_row_tie rfl ⟨rfl,rfl⟩ (by kernel_rfl) rfl
    (fun f fn hf hfn=>by
      obtain rfl:f=3:=Option.some.inj ((show Tryd.prog.funcNamed Rows.lexShownRow.func=some 3 by kernel_rfl).symm.trans hf) |>.symm
      obtain rfl:fn=Tryd.f3:=(Option.some.inj (Tryd.func3.symm.trans hfn)).symm
      exact ⟨by kernel_rfl,fun j t ht=>by
        rw [Tryd.params3] at ht
        rcases (show t=22 ∨ t=3 ∨ t=5 by
          match j,ht with
          | 0,ht=>simp at ht; exact .inl ht.symm
          | 1,ht=>simp at ht; exact .inr (.inl ht.symm)
          | 2,ht=>simp at ht; exact .inr (.inr (ht.symm))
          | _+3,ht=>simp at ht) with rfl | rfl | rfl
        all_goals kernel_rfl⟩)
    (by kernel_rfl)
#print axioms lexShown_card
end Go.Proofs.YtgdchoahbiagbaaDoor
