import Derived.Test.YtocjejladeeckaaDoorPalShow8
import Derived.Test.YtocjejladeeckaaDoorPalEa
import Derived.Test.YtocjejladeeckaaDoorPalWf
/-! The laws of texts of programs. -/
set_option linter.unusedVariables false
set_option linter.unusedSimpArgs false
set_option linter.unusedSectionVars false
namespace Go.Vs
open Go.Lib
local instance tabPalShow9 : Tab := ⟨fun _ => none⟩
/-! ### Great ones -/
/-! ### The first call -/
def jmpP : T_api_Prog := ⟨[], [⟨[⟨10, false, 0, ⟨0, 0, 0, 0⟩, ⟨0, 0, 0, 0⟩, ⟨#[116, 111, 112]⟩, [⟨#[116, 111, 112]⟩]⟩]⟩]⟩
def movI : T_api_Ins := ⟨1, false, 0, ⟨1, 0, 0, 0⟩, ⟨2, 0, 0, -1⟩, ⟨#[]⟩, []⟩
theorem jmpP_ok : ProgOk jmpP := by
  refine ⟨by decide, by decide, (by intro s hs; cases hs), fun t ht => ?_⟩
  rw [List.mem_singleton.1 ht]
  refine ⟨by decide, fun x hx => ?_⟩
  rw [List.mem_singleton.1 hx]
  exact ⟨⟨by unfold Sm; decide, by unfold I64; decide, by unfold I64; decide⟩, by decide, by decide, by decide⟩
theorem movI_ok : InsOk movI := ⟨by unfold Sm; decide, by unfold I64; decide, by unfold I64; decide⟩
theorem jmp_text : showT jmpP = ⟨#[116, 104, 114, 101, 97, 100, 10, 116, 111, 112, 58, 10, 9, 106, 109, 112, 32, 116, 111, 112, 10]⟩ := by decide +kernel
theorem mov_text : insT movI [] = ⟨#[109, 111, 118, 32, 114, 97, 120, 44, 32, 45, 49]⟩ := by decide +kernel
theorem alive9_true : palinglaw9_alive = some true := by
  unfold palinglaw9_alive
  have e1 := show_Prog_eq jmpP jmpP_ok
  have e2 := show_Ins_eq movI [] movI_ok (by intro s hs; cases hs)
  rw [jmp_text] at e1
  rw [mov_text] at e2
  unfold jmpP at e1
  unfold movI at e2
  simp only [Option.bind_some, e1, decide_true, if_true, e2, Bool.and_self]
end Go.Vs
