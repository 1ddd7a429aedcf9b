import Derived.Test.YtocjejladeeckaaDoorPalShow8
import Derived.Test.YtocjejladeeckaaDoorPalEa
import Derived.Test.YtocjejladeeckaaDoorPalWf
/-! The laws of texts of programs. -/
set_option linter.unusedVariables false
set_option linter.unusedSimpArgs false
set_option linter.unusedSectionVars false
namespace Go.Vs
open Go.Lib
local instance tabPalShow9 : Tab := ⟨fun _ => none⟩
/-! ### Great ones -/
theorem greatIns_eq (x : T_api_Ins) (hw : W_api_Ins x) : ∃ b, palingbook_GreatIns x = some b ∧ (b = false → LabOk x) := by
  have hA := hw.A.N.i64
  have hB := hw.B.N.i64
  unfold palingbook_GreatIns
  split
  · exact ⟨true, rfl, by simp⟩
  · rename_i h
    simp only [Bool.or_eq_true, decide_eq_true_eq, not_or] at h
    have h1 : x.Labels.length ≤ 6 := by omega
    have := loop_list x.Labels (fun i (_ : Unit) => i) (palingbook_GreatIns_s1 x) (fun _ _ s => if decide ((s.size : Int) > 60) = true then .inr (.inr true) else .inl ()) (fun _ => (.inl () : Unit ⊕ Bool)) (fun _ _ => True)
      (fun i s hs _ _ => ⟨by
        have hi : i ≤ 1000 := by have := (List.getElem?_eq_some_iff.1 hs).1; omega
        simp only [palingbook_GreatIns_s1]
        rw [if_pos (lt_at hs), if_pos (inb_at hs), rd_at hs, wi (by omega)]
        split <;> rfl, fun _ _ => trivial⟩) (fun _ _ => by simp only [palingbook_GreatIns_s1]; rw [if_neg (by simp)]) () trivial
    rw [this]
    have key : ∀ (l : List ByteArray) (k : Nat), (foldE (fun _ (_ : Unit) (s : ByteArray) => if decide ((s.size : Int) > 60) = true then .inr (.inr true) else .inl ()) (fun _ => (.inl () : Unit ⊕ Bool)) k () l = .inl () ∧ ∀ s ∈ l, s.size ≤ 60) ∨
        foldE (fun _ (_ : Unit) (s : ByteArray) => if decide ((s.size : Int) > 60) = true then .inr (.inr true) else .inl ()) (fun _ => (.inl () : Unit ⊕ Bool)) k () l = .inr true := by
      intro l
      induction l with
      | nil => intro k; exact .inl ⟨rfl, by simp⟩
      | cons s l ih =>
        intro k
        simp only [foldE]
        by_cases hs : (s.size : Int) > 60
        · right; simp [hs]
        · simp only [hs, decide_false, Bool.false_eq_true, if_false]
          rcases ih (k + 1) with ⟨e1, e2⟩ | e1
          · refine .inl ⟨e1, fun y hy => ?_⟩
            rcases List.mem_cons.1 hy with rfl | hy
            · omega
            · exact e2 y hy
          · exact .inr e1
    rcases key x.Labels 0 with ⟨e1, e2⟩ | e1
    · rw [e1]
      exact ⟨false, rfl, fun _ => ⟨⟨by unfold Sm; omega, hA, hB⟩, by omega, by omega, fun s hs => by have := e2 s hs; omega⟩⟩
    · rw [e1]; exact ⟨true, rfl, by simp⟩
/-! ### The first call -/
def jmpP : T_api_Prog := ⟨[], [⟨[⟨10, false, 0, ⟨0, 0, 0, 0⟩, ⟨0, 0, 0, 0⟩, ⟨#[116, 111, 112]⟩, [⟨#[116, 111, 112]⟩]⟩]⟩]⟩
def movI : T_api_Ins := ⟨1, false, 0, ⟨1, 0, 0, 0⟩, ⟨2, 0, 0, -1⟩, ⟨#[]⟩, []⟩
theorem jmpP_ok : ProgOk jmpP := by
  refine ⟨by decide, by decide, (by intro s hs; cases hs), fun t ht => ?_⟩
  rw [List.mem_singleton.1 ht]
  refine ⟨by decide, fun x hx => ?_⟩
  rw [List.mem_singleton.1 hx]
  exact ⟨⟨by unfold Sm; decide, by unfold I64; decide, by unfold I64; decide⟩, by decide, by decide, by decide⟩
theorem movI_ok : InsOk movI := ⟨by unfold Sm; decide, by unfold I64; decide, by unfold I64; decide⟩
theorem jmp_text : showT jmpP = ⟨#[116, 104, 114, 101, 97, 100, 10, 116, 111, 112, 58, 10, 9, 106, 109, 112, 32, 116, 111, 112, 10]⟩ := by decide +kernel
theorem mov_text : insT movI [] = ⟨#[109, 111, 118, 32, 114, 97, 120, 44, 32, 45, 49]⟩ := by decide +kernel
theorem alive9_true : palinglaw9_alive = some true := by
  unfold palinglaw9_alive
  have e1 := show_Prog_eq jmpP jmpP_ok
  have e2 := show_Ins_eq movI [] movI_ok (by intro s hs; cases hs)
  rw [jmp_text] at e1
  rw [mov_text] at e2
  unfold jmpP at e1
  unfold movI at e2
  simp only [Option.bind_some, e1, decide_true, if_true, e2, Bool.and_self]
end Go.Vs
