import Derived.Test.YtocjejladeeckaaDoorPalShow8
import Derived.Test.YtocjejladeeckaaDoorPalEa
import Derived.Test.YtocjejladeeckaaDoorPalWf
/-! The laws of texts of programs. -/
set_option linter.unusedVariables false
set_option linter.unusedSimpArgs false
set_option linter.unusedSectionVars false
namespace Go.Vs
open Go.Lib
local instance tabPalShow9 : Tab := ⟨fun _ => none⟩
/-! ### Great ones -/
theorem greatIns_eq (x : T_api_Ins) (hw : W_api_Ins x) : ∃ b, palingbook_GreatIns x = some b ∧ (b = false → LabOk x) := by
  have hA := hw.A.N.i64
  have hB := hw.B.N.i64
  unfold palingbook_GreatIns
  split
  · exact ⟨true, rfl, by simp⟩
  · rename_i h
    simp only [Bool.or_eq_true, decide_eq_true_eq, not_or] at h
    have h1 : x.Labels.length ≤ 6 := by omega
    have := loop_list x.Labels (fun i (_ : Unit) => i) (palingbook_GreatIns_s1 x) (fun _ _ s => if decide ((s.size : Int) > 60) = true then .inr (.inr true) else .inl ()) (fun _ => (.inl () : Unit ⊕ Bool)) (fun _ _ => True)
      (fun i s hs _ _ => ⟨by
        have hi : i ≤ 1000 := by have := (List.getElem?_eq_some_iff.1 hs).1; omega
        simp only [palingbook_GreatIns_s1]
        rw [if_pos (lt_at hs), if_pos (inb_at hs), rd_at hs, wi (by omega)]
        split <;> rfl, fun _ _ => trivial⟩) (fun _ _ => by simp only [palingbook_GreatIns_s1]; rw [if_neg (by simp)]) () trivial
    rw [this]
    have key : ∀ (l : List ByteArray) (k : Nat), (foldE (fun _ (_ : Unit) (s : ByteArray) => if decide ((s.size : Int) > 60) = true then .inr (.inr true) else .inl ()) (fun _ => (.inl () : Unit ⊕ Bool)) k () l = .inl () ∧ ∀ s ∈ l, s.size ≤ 60) ∨
        foldE (fun _ (_ : Unit) (s : ByteArray) => if decide ((s.size : Int) > 60) = true then .inr (.inr true) else .inl ()) (fun _ => (.inl () : Unit ⊕ Bool)) k () l = .inr true := by
      intro l
      induction l with
      | nil => intro k; exact .inl ⟨rfl, by simp⟩
      | cons s l ih =>
        intro k
        simp only [foldE]
        by_cases hs : (s.size : Int) > 60
        · right; simp [hs]
        · simp only [hs, decide_false, Bool.false_eq_true, if_false]
          rcases ih (k + 1) with ⟨e1, e2⟩ | e1
          · refine .inl ⟨e1, fun y hy => ?_⟩
            rcases List.mem_cons.1 hy with rfl | hy
            · omega
            · exact e2 y hy
          · exact .inr e1
    rcases key x.Labels 0 with ⟨e1, e2⟩ | e1
    · rw [e1]
      exact ⟨false, rfl, fun _ => ⟨⟨by unfold Sm; omega, hA, hB⟩, by omega, by omega, fun s hs => by have := e2 s hs; omega⟩⟩
    · rw [e1]; exact ⟨true, rfl, by simp⟩
theorem any_loop {α : Type} [Inhabited α] (l : List α) (hl : l.length ≤ 1000000) (Q : α → Prop) (great : α → Option Bool) (hg : ∀ x ∈ l, ∃ b, great x = some b ∧ (b = false → Q x)) (step : Int → Option (Int ⊕ (Unit ⊕ Bool)))
    (hs : ∀ i, step i = if decide (i < (l.length : Int)) = true then (if InB i l.length then ((great (rd l i)).bind fun v => if v = true then some (.inr (.inr true)) else some (.inl (IntKind.wrap .i64 (i + 1)))) else none) else some (.inr (.inl ()))) :
    (loopO step 0 = some (.inl ()) ∧ ∀ x ∈ l, Q x) ∨ loopO step 0 = some (.inr true) := by
  have main : ∀ (suf pre : List α), l = pre ++ suf → (loopO step (pre.length : Int) = some (.inl ()) ∧ ∀ x ∈ suf, Q x) ∨ loopO step (pre.length : Int) = some (.inr true) := by
    intro suf
    induction suf with
    | nil =>
      intro pre e
      rw [List.append_nil] at e; subst e
      left
      exact ⟨loopO_inr (by rw [hs, if_neg (by simp)]), by simp⟩
    | cons x suf ih =>
      intro pre e
      have hx : l[pre.length]? = some x := by rw [e]; simp
      have hi : pre.length ≤ 1000000 := by have := (List.getElem?_eq_some_iff.1 hx).1; omega
      obtain ⟨b, hb, hq⟩ := hg x (List.mem_of_getElem? hx)
      have h1 := hs (pre.length : Int)
      rw [if_pos (lt_at hx), if_pos (inb_at hx), rd_at hx, hb, wi (by omega)] at h1
      cases b
      · have h2 := ih (pre ++ [x]) (by rw [e]; simp)
        simp only [List.length_append, List.length_cons, List.length_nil, Nat.zero_add] at h2
        rw [loopO_inl h1]
        rcases h2 with ⟨e1, e2⟩ | e1
        · refine .inl ⟨by rw [← e1]; rfl, fun y hy => ?_⟩
          rcases List.mem_cons.1 hy with rfl | hy
          · exact hq rfl
          · exact e2 y hy
        · exact .inr (by rw [← e1]; rfl)
      · exact .inr (loopO_inr h1)
  exact main l [] rfl
theorem greatTh_eq (t : T_api_Thread) (hw : W_api_Thread t) : ∃ b, palingbook_GreatThread t = some b ∧ (b = false → ThOk t) := by
  unfold palingbook_GreatThread
  split
  · exact ⟨true, rfl, by simp⟩
  · rename_i h
    have h1 : t.Ins.length ≤ 12 := by simp at h; omega
    rcases any_loop t.Ins (by omega) LabOk palingbook_GreatIns (fun x hx => greatIns_eq x (hw.Ins.2 x hx)) (palingbook_GreatThread_s1 t) (fun i => rfl) with ⟨e1, e2⟩ | e1
    · rw [e1]; exact ⟨false, rfl, fun _ => ⟨by omega, e2⟩⟩
    · rw [e1]; exact ⟨true, rfl, by simp⟩
theorem great_eq (p : T_api_Prog) (hw : W_api_Prog p) : ∃ b, palingbook_Great p = some b ∧ (b = false → ProgOk p) := by
  unfold palingbook_Great
  split
  · exact ⟨true, rfl, by simp⟩
  · rename_i h
    simp only [Bool.or_eq_true, decide_eq_true_eq, not_or] at h
    have hS := any_loop p.Syms (by omega) SymOk (fun s => some (decide ((s.Name.size : Int) > 60) || decide ((s.Init.length : Int) > 66))) (fun s hs => ⟨_, rfl, fun hb => by
      have hws := hw.Syms.2 s hs
      simp only [Bool.or_eq_false_iff, decide_eq_false_iff_not] at hb
      exact ⟨by omega, by omega, hws.Size.i64, fun v hv => (hws.Init.2 v hv).i64⟩⟩) (palingbook_Great_s1 p) (fun i => by
        simp only [palingbook_Great_s1]
        split
        · split
          · rename_i hi
            simp only [hi, implies_true, if_true, Option.bind_some]
          · rfl
        · rfl)
    rcases hS with ⟨e1, e2⟩ | e1
    · rw [e1]
      simp only [Option.bind_some, onSum]
      rcases any_loop p.Threads (by omega) ThOk palingbook_GreatThread (fun t ht => greatTh_eq t (hw.Threads.2 t ht)) (palingbook_Great_s2 p) (fun i => rfl) with ⟨e3, e4⟩ | e3
      · rw [e3]; exact ⟨false, rfl, fun _ => ⟨by omega, by omega, e2, e4⟩⟩
      · rw [e3]; exact ⟨true, rfl, by simp⟩
    · rw [e1]; exact ⟨true, rfl, by simp⟩
/-! ### The first call -/
def jmpP : T_api_Prog := ⟨[], [⟨[⟨10, false, 0, ⟨0, 0, 0, 0⟩, ⟨0, 0, 0, 0⟩, ⟨#[116, 111, 112]⟩, [⟨#[116, 111, 112]⟩]⟩]⟩]⟩
def movI : T_api_Ins := ⟨1, false, 0, ⟨1, 0, 0, 0⟩, ⟨2, 0, 0, -1⟩, ⟨#[]⟩, []⟩
theorem jmpP_ok : ProgOk jmpP := by
  refine ⟨by decide, by decide, (by intro s hs; cases hs), fun t ht => ?_⟩
  rw [List.mem_singleton.1 ht]
  refine ⟨by decide, fun x hx => ?_⟩
  rw [List.mem_singleton.1 hx]
  exact ⟨⟨by unfold Sm; decide, by unfold I64; decide, by unfold I64; decide⟩, by decide, by decide, by decide⟩
theorem movI_ok : InsOk movI := ⟨by unfold Sm; decide, by unfold I64; decide, by unfold I64; decide⟩
theorem jmp_text : showT jmpP = ⟨#[116, 104, 114, 101, 97, 100, 10, 116, 111, 112, 58, 10, 9, 106, 109, 112, 32, 116, 111, 112, 10]⟩ := by decide +kernel
theorem mov_text : insT movI [] = ⟨#[109, 111, 118, 32, 114, 97, 120, 44, 32, 45, 49]⟩ := by decide +kernel
theorem alive9_true : palinglaw9_alive = some true := by
  unfold palinglaw9_alive
  have e1 := show_Prog_eq jmpP jmpP_ok
  have e2 := show_Ins_eq movI [] movI_ok (by intro s hs; cases hs)
  rw [jmp_text] at e1
  rw [mov_text] at e2
  unfold jmpP at e1
  unfold movI at e2
  simp only [Option.bind_some, e1, decide_true, if_true, e2, Bool.and_self]
theorem ShowTells_true (p : T_api_Prog) (hw : W_api_Prog p) : palinglaw9_ShowTells p = some true := by
  obtain ⟨b, hb, hp⟩ := great_eq p hw
  unfold palinglaw9_ShowTells
  rw [hb, alive9_true]
  cases b
  · rw [show_Prog_eq p (hp rfl), ref_Show_eq p (hp rfl)]
    simp
  · rfl
end Go.Vs
