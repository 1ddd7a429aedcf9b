import Derived.Test.YtocjejladeeckaaDoorPalShow5
/-! What may be, the document's way. -/
set_option linter.unusedVariables false
set_option linter.unusedSimpArgs false
set_option linter.unusedSectionVars false
namespace Go.Vs
open Go.Lib
local instance tabPalShow6 : Tab := ⟨fun _ => none⟩
def qU : List ByteArray ⊕ Int → Unit ⊕ Int
  | .inl L => .inl ()
  | .inr e => .inr e
def insH (p : T_api_Prog) (i : Nat) (L : List ByteArray) (x : T_api_Ins) : List ByteArray ⊕ (Unit ⊕ Int) :=
  match insF p i L x with
  | .inl L' => .inl L'
  | .inr (.inl L') => .inr (.inl ())
  | .inr (.inr e) => .inr (.inr e)
def findF (s : ByteArray) (i : Nat) (_ : Unit) (x : T_api_Ins) : Unit ⊕ (Unit ⊕ Int) := if has x.Labels s then .inr (.inr (i : Int)) else .inl ()
/-! ### The whole -/
def symF (_ : Nat) (L : List ByteArray) (s : T_api_Sym) : List ByteArray ⊕ (Unit ⊕ Int) :=
  if !rightS s.Name then .inr (.inr 3) else if has L s.Name then .inr (.inr 6)
  else if (decide (s.Size < 1) || decide (s.Size > 64)) || decide ((s.Init.length : Int) > s.Size) then .inr (.inr 5) else .inl (L ++ [s.Name])
def thF (p : T_api_Prog) (_ : Nat) (_ : Unit) (t : T_api_Thread) : Unit ⊕ (Unit ⊕ Int) := if threadN p t != 0 then .inr (.inr (threadN p t)) else .inl ()
def checkN (p : T_api_Prog) : Int :=
  if decide ((p.Syms.length : Int) > 64) || decide ((p.Threads.length : Int) > 64) then 10 else match foldE symF (fun _ => (.inl () : Unit ⊕ Int)) 0 [] p.Syms with
  | .inr e => e
  | .inl () => match foldE (thF p) Sum.inl 0 () p.Threads with
    | .inr e => e
    | .inl () => 0
theorem valid_Check_eq (p : T_api_Prog) (hp : ProgOk p) : valid_Check p = some (checkN p) := by
  have hs := hp.ns
  have ht := hp.nt
  unfold valid_Check checkN
  split
  · rfl
  have h1 := loop_list p.Syms (fun i (L : List ByteArray) => (i, seen L)) (valid_Check_s1 p) symF (fun _ => .inl ()) (fun _ _ => True)
    (fun i s hx L _ => ⟨by
      have hi : i ≤ 1000000 := by have := (List.getElem?_eq_some_iff.1 hx).1; omega
      have hk := hp.sym s (List.mem_of_getElem? hx)
      simp only [valid_Check_s1]
      rw [if_pos (lt_at hx), if_pos (inb_at hx), rd_at hx, names_Right_eq _ (sm1000 hk.name), wi (by omega), mat_seen]
      simp only [Option.bind_some]
      unfold symF
      cases rightS s.Name
      · rfl
      · cases hm : has L s.Name
        · rw [mst_seen (has_not.1 hm)]
          cases ((decide (s.Size < 1) || decide (s.Size > 64)) || decide ((s.Init.length : Int) > s.Size)) <;> rfl
        · rfl, fun _ _ => trivial⟩) (fun L _ => by simp only [valid_Check_s1]; rw [if_neg (by simp)]) [] trivial
  have e0 : (([] : List (ByteArray × Bool))) = seen [] := rfl
  rw [e0, h1]
  have h2 := loop_list p.Threads (fun i (_ : Unit) => i) (valid_Check_s2 p) (thF p) Sum.inl (fun _ _ => True)
    (fun i t hx _ _ => ⟨by
      have hi : i ≤ 1000000 := by have := (List.getElem?_eq_some_iff.1 hx).1; omega
      have hk := hp.th t (List.mem_of_getElem? hx)
      simp only [valid_Check_s2]
      rw [if_pos (lt_at hx), if_pos (inb_at hx), rd_at hx, valid_thread_eq p t hk, wi (by omega)]
      simp only [Option.bind_some]
      unfold thF
      cases (threadN p t != 0) <;> rfl, fun _ _ => trivial⟩) (fun _ _ => by simp only [valid_Check_s2]; rw [if_neg (by simp)]) () trivial
  rw [h2]
  cases foldE symF (fun _ => (.inl () : Unit ⊕ Int)) 0 [] p.Syms with
  | inr e => rfl
  | inl u =>
    simp only [Option.bind_some, onSum]
    cases foldE (thF p) Sum.inl 0 () p.Threads with
    | inr e => rfl
    | inl u => rfl
end Go.Vs
