import Derived.Test.YtkgpofmbegonfaaGreatDoorTie
import Derived.Test.YtkgpofmbegonfaaGreatDoorCards
import Derived.SevenTiedAt
import Derived.Test.YtkgpofmbegonfaaGreatDoorWhLift
set_option linter.all false
set_option maxHeartbeats 4000000
namespace Go.Proofs.YtkgpofmbegonfaaGreatDoor.wholePicksBack
open Go.ChangeShapes Go.WideShapes Go.ChangeAt Go.RowKit Go.Vs
theorem over:Rows.wholePicksBackRow.holds Tryz.pinned (OpenSpec.ofChange Rows.wholePicksBackSpec) :=
 OpenClaim.holds_of_wide 4 Tryz.f4 rfl rfl rfl rfl rfl rfl rfl ⟨rfl,rfl,rfl,rfl,rfl⟩ rfl rfl rfl rfl rfl (by as_aux_lemma=>kernel_rfl) Tryz.func4 (by as_aux_lemma=>kernel_rfl)
  (of_decide_eq_true (by as_aux_lemma=>kernel_rfl)) (by as_aux_lemma=>unfold Func.isWrapper; first | (rw [if_pos (by decide +kernel)]; kernel_rfl) | (rw [if_neg (by decide +kernel)]; exact ⟨rfl,rfl⟩))
  (fun os started H enc _=>zrM os started H enc)
end Go.Proofs.YtkgpofmbegonfaaGreatDoor.wholePicksBack
namespace Go.Proofs.YtkgpofmbegonfaaGreatDoor
open Go
theorem wholePicksBack_holds:Rows.WholePicksBackSaid:=wholePicksBack.over
theorem wholePicksBack_card:Rows.WholePicksBackCardSaid :=
 Claim7.holds_tied_plain_at .later [] [.data,.data,.data,.data,.sentinel,.sentinel,.pinned] true (true,"ffc8048458888361800e8f46ee0b33ae07391b5c84173609c06161ae6c157cb0") true
  wholePicksBack_holds (fun _ h=>by cases h) (by kernel_rfl) (fun _ h=>by cases h) wholePicksBack_row_tie rfl ⟨rfl,rfl⟩ (by kernel_rfl) rfl
  (fun f fn hf hfn=>by
   obtain rfl:f=4:=Option.some.inj ((show Tryz.prog.funcNamed Rows.wholePicksBackRow.func=some 4 by kernel_rfl).symm.trans hf) |>.symm
   obtain rfl:fn=Tryz.f4:=(Option.some.inj (Tryz.func4.symm.trans hfn)).symm
   exact ⟨by kernel_rfl,fun j t ht=>by
    rw [Tryz.params4] at ht
    rcases (show t=23 by
     match j,ht with
     | 0,ht=>simp at ht; exact ht.symm
     | _+1,ht=>simp at ht) with rfl
    all_goals kernel_rfl⟩)
  (by kernel_rfl)
#print axioms wholePicksBack_card
end Go.Proofs.YtkgpofmbegonfaaGreatDoor
