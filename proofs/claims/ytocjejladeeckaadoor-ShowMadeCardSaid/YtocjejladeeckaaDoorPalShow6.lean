import Derived.Test.YtocjejladeeckaaDoorPalShow5
/-! What may be, the document's way. -/
set_option linter.unusedVariables false
set_option linter.unusedSimpArgs false
set_option linter.unusedSectionVars false
namespace Go.Vs
open Go.Lib
local instance tabPalShow6 : Tab := ⟨fun _ => none⟩
theorem ref_labs (t : T_api_Thread) (i0 : Nat) (x : T_api_Ins) (hx : t.Ins[i0]? = some x) (hk : LabOk x) (L : List ByteArray) (hL : L.length ≤ 10000) : loopO (palingref1_thread_s2 t i0) (0, L) = some (labsE L x.Labels) := by
  have hn := hk.n
  have := loop_list x.Labels (fun i (L : List ByteArray) => (i, L)) (palingref1_thread_s2 t i0) labF (fun L => .inl L) (fun i L => L.length ≤ 10000 + i)
    (fun i s hs L hL => ⟨?_, ?_⟩) (fun L _ => ?_) L (by omega)
  · exact this
  · have hi : i ≤ 1000 := by have := (List.getElem?_eq_some_iff.1 hs).1; omega
    simp only [palingref1_thread_s2, rd_at hx]
    rw [if_pos (lt_at hs), if_pos (inb_at hs), rd_at hs, ref_Right_eq _ (sm1000 (hk.lab s (List.mem_of_getElem? hs))), wi (by omega)]
    simp only [Option.bind_some, if_pos (inb_at hs)]
    unfold labF
    cases rightS s
    · rfl
    · simp only [Bool.not_true, Bool.false_eq_true, if_false]
      obtain ⟨j, h1, h2⟩ := index_ge L s (by omega)
      rw [h1]
      simp only [Option.bind_some, h2]
      rw [if_pos (show Fits (L.length + 1) from by unfold Fits; omega)]
      cases has L s <;> rfl
  · intro a' h
    have hi : i ≤ 1000 := by have := (List.getElem?_eq_some_iff.1 hs).1; omega
    unfold labF at h
    split at h
    · cases h
    split at h
    · cases h
    · obtain rfl := Sum.inl.inj h
      simp; omega
  · simp only [palingref1_thread_s2, rd_at hx]
    rw [if_neg (by simp)]
def qU : List ByteArray ⊕ Int → Unit ⊕ Int
  | .inl L => .inl ()
  | .inr e => .inr e
def insH (p : T_api_Prog) (i : Nat) (L : List ByteArray) (x : T_api_Ins) : List ByteArray ⊕ (Unit ⊕ Int) :=
  match insF p i L x with
  | .inl L' => .inl L'
  | .inr (.inl L') => .inr (.inl ())
  | .inr (.inr e) => .inr (.inr e)
theorem ref_ins_step (p : T_api_Prog) (t : T_api_Thread) (i : Nat) (x : T_api_Ins) (hx : t.Ins[i]? = some x) (hk : LabOk x) (L : List ByteArray) (hL : L.length ≤ 10000) (hi : i ≤ 1000000) :
    palingref1_thread_s1 t p ((i : Int), L) = some (match insH p i L x with | .inl L' => .inl ((i : Int) + 1, L') | .inr r => .inr r) := by
  simp only [palingref1_thread_s1]
  rw [if_pos (lt_at hx), if_pos (inb_at hx), ref_labs t i x hx hk L hL, rd_at hx, ref_InsRight_eq _ hk.to]
  unfold insH insF
  cases hl : labsE L x.Labels with
  | inr e => rfl
  | inl L1 =>
    simp only [Option.bind_some, onSum]
    by_cases hn : insN x = 0
    · obtain ⟨hA, hB⟩ := ins_sym hn
      have e1 : (insN x != 0) = false := by rw [hn]; rfl
      rw [ref_operand_eq p _ hA, ref_operand_eq p _ hB]
      simp only [e1, Bool.false_eq_true, if_false, Option.bind_some]
      rw [wi (by omega)]
      cases (placeN p x.A != 0) <;> cases (placeN p x.B != 0) <;> rfl
    · have e1 : (insN x != 0) = true := by simpa using hn
      simp only [e1, if_true]
def findF (s : ByteArray) (i : Nat) (_ : Unit) (x : T_api_Ins) : Unit ⊕ (Unit ⊕ Int) := if has x.Labels s then .inr (.inr (i : Int)) else .inl ()
theorem find_spec (s : ByteArray) : ∀ (xs : List T_api_Ins) (i : Nat), (foldE (findF s) Sum.inl i () xs = .inl () ∧ has (xs.flatMap (·.Labels)) s = false) ∨ ∃ k : Nat, foldE (findF s) Sum.inl i () xs = .inr (k : Int) ∧ has (xs.flatMap (·.Labels)) s = true
  | [], i => .inl ⟨rfl, rfl⟩
  | x :: xs, i => by
    have hap : has ((x :: xs).flatMap (·.Labels)) s = (has x.Labels s || has (xs.flatMap (·.Labels)) s) := by unfold has; simp
    simp only [foldE]
    unfold findF
    cases hh : has x.Labels s
    · rcases find_spec s xs (i + 1) with ⟨h1, h2⟩ | ⟨k, h1, h2⟩
      · exact .inl ⟨h1, by rw [hap, hh, h2]; rfl⟩
      · exact .inr ⟨k, h1, by rw [hap, hh, h2]; rfl⟩
    · exact .inr ⟨i, rfl, by rw [hap, hh]; rfl⟩
theorem ref_Find_eq (t : T_api_Thread) (ht : ThOk t) (s : ByteArray) : ∃ f, palingref1_Find t s = some f ∧ decide (f < 0) = !has (t.Ins.flatMap (·.Labels)) s := by
  have hn := ht.n
  have := loop_list t.Ins (fun i (_ : Unit) => i) (palingref1_Find_s1 t s) (findF s) Sum.inl (fun _ _ => True) (fun i x hx a _ => ⟨?_, fun _ _ => trivial⟩) (fun a _ => ?_) () trivial
  · unfold palingref1_Find
    rw [this]
    rcases find_spec s t.Ins 0 with ⟨h1, h2⟩ | ⟨k, h1, h2⟩
    · rw [h1, h2]; exact ⟨-1, rfl, rfl⟩
    · rw [h1, h2]; exact ⟨k, rfl, by simp⟩
  · have hi : i ≤ 1000000 := by have := (List.getElem?_eq_some_iff.1 hx).1; omega
    have hk := ht.ins x (List.mem_of_getElem? hx)
    have hkn := hk.n
    simp only [palingref1_Find_s1]
    rw [if_pos (lt_at hx), if_pos (inb_at hx), rd_at hx, wi (by omega)]
    obtain ⟨j, h1, h2⟩ := index_ge x.Labels s (by omega)
    rw [h1]
    simp only [Option.bind_some, h2]
    unfold findF
    cases has x.Labels s <;> rfl
  · simp only [palingref1_Find_s1]; rw [if_neg (by simp)]
theorem insF_len {p : T_api_Prog} {i : Nat} {L L' : List ByteArray} {x : T_api_Ins} (h : insF p i L x = .inl L') : L'.length = L.length + x.Labels.length := by
  rw [(insF_spec h).1, List.length_append]
theorem ref_thread_eq (p : T_api_Prog) (t : T_api_Thread) (ht : ThOk t) : palingref1_thread p t = some (threadN p t) := by
  have hn := ht.n
  unfold palingref1_thread threadN
  rw [ref_Count_eq t (by omega)]
  simp only [Option.bind_some]
  split
  · rfl
  have h1 := loop_list t.Ins (fun i (L : List ByteArray) => (i, L)) (palingref1_thread_s1 t p) (insH p) (fun _ => .inl ()) (fun i L => L.length ≤ 100 * i)
    (fun i x hx L hL => by
      have hlt := (List.getElem?_eq_some_iff.1 hx).1
      have hk := ht.ins x (List.mem_of_getElem? hx)
      have hkn := hk.n
      refine ⟨by rw [ref_ins_step p t i x hx hk L (by omega) (by omega)]; cases insH p i L x <;> rfl, fun L' h => ?_⟩
      unfold insH at h
      cases hf : insF p i L x with
      | inl L1 =>
        rw [hf] at h
        obtain rfl := Sum.inl.inj h
        rw [insF_len hf]; omega
      | inr r => rw [hf] at h; cases r <;> cases h) (fun L _ => by simp only [palingref1_thread_s1]; rw [if_neg (by simp)]) [] (by simp)
  rw [h1, fold_map (insF p) (insH p) (Sum.inl : List ByteArray → List ByteArray ⊕ Int) (fun _ => .inl ()) qU (fun _ => rfl) (fun i b x => by
    unfold insH
    cases insF p i b x with
    | inl L' => rfl
    | inr r => cases r <;> rfl)]
  cases hf : foldE (insF p) (Sum.inl : List ByteArray → List ByteArray ⊕ Int) 0 [] t.Ins with
  | inr e => rfl
  | inl L =>
    obtain ⟨hL, hz⟩ := insE_spec _ _ _ _ hf
    simp only [Option.bind_some, onSum, qU]
    rw [List.nil_append] at hL
    have h3 : loopO (palingref1_thread_s3 t) 0 = some (match foldE (leadF L) Sum.inl 0 () t.Ins with | .inl () => .inl () | .inr e => .inr e) := by
      have h4 := loop_list t.Ins (fun i (_ : Unit) => i) (palingref1_thread_s3 t) (leadF L) Sum.inl (fun _ _ => True)
        (fun i x hx a _ => ⟨?_, fun _ _ => trivial⟩) (fun a _ => ?_) () trivial
      · rw [h4]
        cases foldE (leadF L) Sum.inl 0 () t.Ins with
        | inl u => rfl
        | inr e => rfl
      · have hi : i ≤ 1000000 := by have := (List.getElem?_eq_some_iff.1 hx).1; omega
        simp only [palingref1_thread_s3]
        unfold palingref1_Jumps
        obtain ⟨f, hf1, hf2⟩ := ref_Find_eq t ht x.To
        have inb := inb_at hx
        rw [if_pos (lt_at hx), if_pos inb, rd_at hx, wi (by omega), hf1]
        have ej : ((x.Op == 10) || (x.Op == 11)) = jumpB x := rfl
        simp only [Option.bind_some, ej, inb, implies_true, if_true]
        unfold leadF
        rw [hL]
        cases jumpB x
        · rfl
        · simp only [if_true, Option.bind_some, hf2, Bool.true_and]
          cases has (t.Ins.flatMap (·.Labels)) x.To <;> rfl
      · simp only [palingref1_thread_s3]; rw [if_neg (by simp)]
    rw [h3]
    by_cases hl : ((t.Ins.length : Int) == 0) = true
    · simp only [hl, Bool.true_or, if_true]
    · have h0 : t.Ins.length ≠ 0 := by simpa using hl
      simp only [Bool.not_eq_true] at hl
      rw [wi64_id (show I64 ((t.Ins.length : Int) - 1) from ⟨by omega, by omega⟩)]
      have w2 : InB ((t.Ins.length : Int) - 1) t.Ins.length := ⟨by omega, by omega⟩
      simp only [hl, w2, if_true, Bool.false_or, Bool.false_eq_true, if_false]
      have : (rd t.Ins ((t.Ins.length : Int) - 1)).Op = lastOp t := rfl
      rw [this]
      split
      · rfl
      · cases foldE (leadF L) Sum.inl 0 () t.Ins with
        | inl u => rfl
        | inr e => rfl
/-! ### The whole -/
def symF (_ : Nat) (L : List ByteArray) (s : T_api_Sym) : List ByteArray ⊕ (Unit ⊕ Int) :=
  if !rightS s.Name then .inr (.inr 3) else if has L s.Name then .inr (.inr 6)
  else if (decide (s.Size < 1) || decide (s.Size > 64)) || decide ((s.Init.length : Int) > s.Size) then .inr (.inr 5) else .inl (L ++ [s.Name])
def thF (p : T_api_Prog) (_ : Nat) (_ : Unit) (t : T_api_Thread) : Unit ⊕ (Unit ⊕ Int) := if threadN p t != 0 then .inr (.inr (threadN p t)) else .inl ()
def checkN (p : T_api_Prog) : Int :=
  if decide ((p.Syms.length : Int) > 64) || decide ((p.Threads.length : Int) > 64) then 10 else match foldE symF (fun _ => (.inl () : Unit ⊕ Int)) 0 [] p.Syms with
  | .inr e => e
  | .inl () => match foldE (thF p) Sum.inl 0 () p.Threads with
    | .inr e => e
    | .inl () => 0
theorem valid_Check_eq (p : T_api_Prog) (hp : ProgOk p) : valid_Check p = some (checkN p) := by
  have hs := hp.ns
  have ht := hp.nt
  unfold valid_Check checkN
  split
  · rfl
  have h1 := loop_list p.Syms (fun i (L : List ByteArray) => (i, seen L)) (valid_Check_s1 p) symF (fun _ => .inl ()) (fun _ _ => True)
    (fun i s hx L _ => ⟨by
      have hi : i ≤ 1000000 := by have := (List.getElem?_eq_some_iff.1 hx).1; omega
      have hk := hp.sym s (List.mem_of_getElem? hx)
      simp only [valid_Check_s1]
      rw [if_pos (lt_at hx), if_pos (inb_at hx), rd_at hx, names_Right_eq _ (sm1000 hk.name), wi (by omega), mat_seen]
      simp only [Option.bind_some]
      unfold symF
      cases rightS s.Name
      · rfl
      · cases hm : has L s.Name
        · rw [mst_seen (has_not.1 hm)]
          cases ((decide (s.Size < 1) || decide (s.Size > 64)) || decide ((s.Init.length : Int) > s.Size)) <;> rfl
        · rfl, fun _ _ => trivial⟩) (fun L _ => by simp only [valid_Check_s1]; rw [if_neg (by simp)]) [] trivial
  have e0 : (([] : List (ByteArray × Bool))) = seen [] := rfl
  rw [e0, h1]
  have h2 := loop_list p.Threads (fun i (_ : Unit) => i) (valid_Check_s2 p) (thF p) Sum.inl (fun _ _ => True)
    (fun i t hx _ _ => ⟨by
      have hi : i ≤ 1000000 := by have := (List.getElem?_eq_some_iff.1 hx).1; omega
      have hk := hp.th t (List.mem_of_getElem? hx)
      simp only [valid_Check_s2]
      rw [if_pos (lt_at hx), if_pos (inb_at hx), rd_at hx, valid_thread_eq p t hk, wi (by omega)]
      simp only [Option.bind_some]
      unfold thF
      cases (threadN p t != 0) <;> rfl, fun _ _ => trivial⟩) (fun _ _ => by simp only [valid_Check_s2]; rw [if_neg (by simp)]) () trivial
  rw [h2]
  cases foldE symF (fun _ => (.inl () : Unit ⊕ Int)) 0 [] p.Syms with
  | inr e => rfl
  | inl u =>
    simp only [Option.bind_some, onSum]
    cases foldE (thF p) Sum.inl 0 () p.Threads with
    | inr e => rfl
    | inl u => rfl
theorem ref_dup (p : T_api_Prog) (hp : ProgOk p) (i : Nat) (s : T_api_Sym) (hx : p.Syms[i]? = some s) : loopO (palingref1_Check_s2 (i : Int) p) 0 = some (if has ((p.Syms.take i).map (·.Name)) s.Name then .inr 6 else .inl ()) := by
  have hs := hp.ns
  have hlt := (List.getElem?_eq_some_iff.1 hx).1
  have h1 := loop_list (p.Syms.take i) (fun i (_ : Unit) => i) (palingref1_Check_s2 (i : Int) p) (fun _ _ y => if decide (y.Name = s.Name) then .inr (.inr 6) else .inl ()) (fun _ => (.inl () : Unit ⊕ Int)) (fun _ _ => True)
    (fun j y hy _ _ => ⟨by
      have hj := (List.getElem?_eq_some_iff.1 hy).1
      have hj2 : j < i := by simp at hj; omega
      have hy2 : p.Syms[j]? = some y := by rw [List.getElem?_take_of_lt hj2] at hy; exact hy
      simp only [palingref1_Check_s2]
      rw [if_pos (by simpa using hj2), if_pos (inb_at hy2), rd_at hy2, rd_at hx, wi (by omega)]
      cases decide (y.Name = s.Name) <;> rfl, fun _ _ => trivial⟩) (fun _ _ => by
      simp only [palingref1_Check_s2]; rw [if_neg (by simp; omega)]) () trivial
  rw [h1]
  congr 1
  generalize p.Syms.take i = l
  generalize (0 : Nat) = k
  induction l generalizing k with
  | nil => rfl
  | cons y l ih =>
    simp only [foldE]
    unfold has
    simp only [List.map_cons, List.any_cons]
    cases decide (y.Name = s.Name)
    · simp only [Bool.false_eq_true, if_false, Bool.false_or]
      exact ih (k + 1)
    · rfl
theorem ref_Check_eq (p : T_api_Prog) (hp : ProgOk p) : palingref1_Check p = some (checkN p) := by
  have hs := hp.ns
  have ht := hp.nt
  unfold palingref1_Check checkN
  split
  · rfl
  have h1 : loopO (palingref1_Check_s1 p) 0 = some (foldE symF (fun _ => (.inl () : Unit ⊕ Int)) 0 [] p.Syms) := by
    have main : ∀ (suf pre : List T_api_Sym), p.Syms = pre ++ suf → loopO (palingref1_Check_s1 p) (pre.length : Int) = some (foldE symF (fun _ => (.inl () : Unit ⊕ Int)) pre.length (pre.map (·.Name)) suf) := by
      intro suf
      induction suf with
      | nil =>
        intro pre e
        rw [List.append_nil] at e
        refine loopO_inr ?_
        simp only [palingref1_Check_s1]
        rw [e, if_neg (by simp)]
        rfl
      | cons s suf ih =>
        intro pre e
        have hx : p.Syms[pre.length]? = some s := by rw [e]; simp
        have hi : pre.length ≤ 1000 := by have := (List.getElem?_eq_some_iff.1 hx).1; omega
        have hk := hp.sym s (List.mem_of_getElem? hx)
        have htk : p.Syms.take pre.length = pre := by rw [e]; simp
        have hst : palingref1_Check_s1 p (pre.length : Int) = some (match symF pre.length (pre.map (·.Name)) s with | .inl _ => .inl ((pre.length : Int) + 1) | .inr r => .inr r) := by
          simp only [palingref1_Check_s1]
          rw [if_pos (lt_at hx), if_pos (inb_at hx), rd_at hx, ref_Right_eq _ (sm1000 hk.name), ref_dup p hp _ s hx, htk, wi (by omega)]
          simp only [Option.bind_some]
          unfold symF
          cases rightS s.Name
          · rfl
          · cases has (pre.map (·.Name)) s.Name
            · simp only [Bool.not_true, Bool.false_eq_true, if_false, onSum, Option.bind_some]
              cases ((decide (s.Size < 1) || decide (s.Size > 64)) || decide ((s.Init.length : Int) > s.Size)) <;> rfl
            · rfl
        have hnext := ih (pre ++ [s]) (by rw [e]; simp)
        simp only [foldE]
        cases hf : symF pre.length (pre.map (·.Name)) s with
        | inl L' =>
          rw [hf] at hst
          rw [loopO_inl hst]
          have : L' = (pre ++ [s]).map (·.Name) := by
            unfold symF at hf
            split at hf
            · cases hf
            split at hf
            · cases hf
            split at hf
            · cases hf
            · rw [← Sum.inl.inj hf]; simp
          subst this
          simpa using hnext
        | inr r =>
          rw [hf] at hst
          rw [loopO_inr hst]
    exact main p.Syms [] rfl
  rw [h1]
  have h2 := loop_list p.Threads (fun i (_ : Unit) => i) (palingref1_Check_s3 p) (thF p) Sum.inl (fun _ _ => True)
    (fun i t hx _ _ => ⟨by
      have hi : i ≤ 1000000 := by have := (List.getElem?_eq_some_iff.1 hx).1; omega
      have hk := hp.th t (List.mem_of_getElem? hx)
      simp only [palingref1_Check_s3]
      rw [if_pos (lt_at hx), if_pos (inb_at hx), rd_at hx, ref_thread_eq p t hk, wi (by omega)]
      simp only [Option.bind_some]
      unfold thF
      cases (threadN p t != 0) <;> rfl, fun _ _ => trivial⟩) (fun _ _ => by simp only [palingref1_Check_s3]; rw [if_neg (by simp)]) () trivial
  rw [h2]
  cases foldE symF (fun _ => (.inl () : Unit ⊕ Int)) 0 [] p.Syms with
  | inr e => rfl
  | inl u =>
    simp only [Option.bind_some, onSum]
    cases foldE (thF p) Sum.inl 0 () p.Threads with
    | inr e => rfl
    | inl u => rfl
end Go.Vs
