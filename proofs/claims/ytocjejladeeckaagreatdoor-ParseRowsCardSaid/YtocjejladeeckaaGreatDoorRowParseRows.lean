import Derived.Test.YtocjejladeeckaaGreatDoorTie
import Derived.Test.YtocjejladeeckaaGreatDoorCards
import Derived.SevenTiedAt
import Derived.Test.YtocjejladeeckaaGreatDoorParseLaws2
import Derived.Test.YtocjejladeeckaaGreatDoorParseTab
set_option linter.all false
namespace Go.Proofs.YtocjejladeeckaaGreatDoor.parseRows
open Go.ChangeShapes Go.WideShapes Go.ChangeAt Go.RowKit Go.Vs
theorem zph : zd9 Tryz.prog 12 49 = true := by kernel_rfl
set_option maxRecDepth 100000 in
theorem zqv (os : Os) (started : os.Started) (H : Type) (enc : TypeId × Value -> H) :
  ReturnsInHanded {} Tryz.checked os 8 .any (fun w args => (Rows.parseRowsSpec.pre enc Tryz.prog Tryz.f8 [] false w args /\ laidMetH Tryz.prog zek w) /\ sizedMet enc Tryz.prog Tryz.f8 (OpenSpec.ofChange Rows.parseRowsSpec) false w args)
   (Rows.parseRowsSpec.post enc Tryz.prog Tryz.f8 false true false false) := by
 refine returnsInHanded_of_change_and (C := Tryz.checked) (X := fun w _ => laidMetH Tryz.prog zek w) (fun _ _ _ hh h => h.of_heap hh) own started (by kernel_rfl) Tryz.func8
  (ChangeSpec.witness_shaped (enc := enc) (C := Tryz.checked) (os := os) (X := fun w _ => laidMetH Tryz.prog zek w) false (World.laidAll Tryz.prog os zek) #[.slice none 0 0] 8 (World.laidAll_os _ _ _) (World.shaped_of_ZipB (by kernel_rfl) (by kernel_rfl)) (by kernel_rfl) (by kernel_rfl) (by kernel_rfl) (zoz os _)) ?_
 intro W base args ds gs before hval0 hW _ hsz0 hL0 _
 have hval : ∀ (j : Nat) t v, Tryz.f8.params[j]? = some t -> args[j]? = some v -> Value.okWide Tryz.prog W .any base t v := hval0
 have hL : laidMetH Tryz.prog zek W := hL0
 have hW' := hW
 have hlt := hW.lt
 obtain ⟨p, q, hA0, hV, rfl, hfz, hnd⟩ := hW
 have hA : DataW.TrodAll enc Tryz.prog W 0 (fun _ => true) true Tryz.f8.params.toList args.toList ds p := hA0
 rw [Tryz.params8] at hA hval
 obtain ⟨v0, vs0, d0, ds0, p0, q0, hargs, rfl, rfl, h0, r0⟩ := trodAll_cons hA
 obtain ⟨rfl, rfl, rfl⟩ := trodAll_nil r0
 obtain rfl : args = #[v0] := by cases args; simp_all
 obtain ⟨rfl, rfl⟩ := trodVars_none hV
 letI := zlu
 obtain ⟨x0, t0, c0⟩ := znY zph h0 (hval 0 49 v0 rfl rfl)
 clear hA0 hval0 hsz0
 rw [MakeChecks.laidMetH_plain _ _ _ (by kernel_rfl)] at hL
 refine ((zjw x0 t0).walk (W := W) (vs := #[v0]) (zoe hL) rfl ?_).mono fun e W' ⟨he, bel⟩ => ?_
 ·intro j x y hx hy
  match j, hx, hy with
  | 0, hx, hy => simp only [List.getElem?_cons_zero, List.getElem?_cons_succ, Option.some.injEq] at hx; simp at hy; subst hx; subst hy; exact c0
  | _ + 1, hx, hy => simp at hx
 subst he
 exact ⟨_, rfl, _, _, _, [], _, [], hW', trodAll_mk1 (shut_bool Tryz.underlying4 _), (trodAll_cons_mk (Below.trod zpq (by kernel_rfl) (of_decide_eq_true (by kernel_rfl)) h0 bel (fun x hx => hlt x (by simp only [List.mem_append]; exact .inl (.inl hx)))) trodAll_mk0), rfl, bel.frame _, fun h => by cases h⟩
theorem over : Rows.parseRowsRow.holds Tryz.pinned (OpenSpec.ofChange Rows.parseRowsSpec) :=
 OpenClaim.holds_of_wide 8 Tryz.f8 rfl rfl rfl rfl rfl rfl rfl ⟨rfl, rfl, rfl, rfl, rfl⟩ rfl rfl rfl rfl rfl (by kernel_rfl) Tryz.func8 (by kernel_rfl)
  (of_decide_eq_true (by kernel_rfl)) (by unfold Func.isWrapper; first | (rw [if_pos (by decide +kernel)]; kernel_rfl) | (rw [if_neg (by decide +kernel)]; exact ⟨rfl, rfl⟩))
  (fun os started H enc _ => zqv os started H enc)
end Go.Proofs.YtocjejladeeckaaGreatDoor.parseRows
namespace Go.Proofs.YtocjejladeeckaaGreatDoor
open Go
theorem parseRows_holds : Rows.ParseRowsSaid := parseRows.over
theorem parseRows_card : Rows.ParseRowsCardSaid :=
 Claim7.holds_tied_plain_at .later [] [.data, .data, .data, .data, .sentinel, .sentinel, .pinned] true (true, "19866bf00af4ae0fd994b3d1a04ac6e2a4ab6e22b11d007b4e16f062e562e0c6") true
  parseRows_holds (fun _ h => by cases h) (by kernel_rfl) (fun _ h => by cases h) parseRows_row_tie rfl ⟨rfl, rfl⟩ (by kernel_rfl) rfl
  (fun f fn hf hfn => by
   obtain rfl : f = 8 := Option.some.inj ((show Tryz.prog.funcNamed Rows.parseRowsRow.func = some 8 by kernel_rfl).symm.trans hf) |>.symm
   obtain rfl : fn = Tryz.f8 := (Option.some.inj (Tryz.func8.symm.trans hfn)).symm
   exact ⟨by kernel_rfl, fun j t ht => by
    rw [Tryz.params8] at ht
    rcases (show t = 49 by
     match j, ht with
     | 0, ht => simp at ht; exact ht.symm
     | _ + 1, ht => simp at ht) with rfl
    all_goals kernel_rfl⟩)
  (by kernel_rfl)
#print axioms parseRows_card
end Go.Proofs.YtocjejladeeckaaGreatDoor
