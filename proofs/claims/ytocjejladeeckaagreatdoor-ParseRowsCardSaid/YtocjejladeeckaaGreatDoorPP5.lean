import Derived.Test.YtocjejladeeckaaGreatDoorPP1
import Derived.Test.YtocjejladeeckaaGreatDoorPP4
import Derived.Test.YtocjejladeeckaaGreatDoorPalN
import Derived.Test.YtocjejladeeckaaGreatDoorPalO
import Derived.Test.YtocjejladeeckaaGreatDoorPS1
set_option linter.all false
section
namespace Go.Vs
local instance tabPalPT : Tab := ⟨fun _ => none⟩
def TkP (t : zaa) : Prop := (t.Kind = 1 -> t.Text ≠ ⟨#[]⟩) /\ t.Text.size <= 1000000
section
variable {s : ByteArray} {v : List zao} (g : Good s v) {i : Int} {l : List zaa} (hi : InB i v.length) (hl : l.length <= 1000000)
include g hi hl
theorem zqe {k kind k' : Int} {l' : List zaa} (hk : i < k) (hkn : k <= v.length) (h : tail v s i l k kind = .inl (k', l')) (hp : ∀ t ∈ l, TkP t) : ∀ t ∈ l', TkP t := by
 obtain ⟨_, hin, _, _, b1, b2⟩ := zlB g hi hk hkn hl
 have hsm := g.sm
 unfold Sm at hsm
 obtain ⟨a1, a2, a3⟩ := g.at0 _ hin
 obtain ⟨c1, c2, c3⟩ := g.at0 _ hi
 have hle := g.le i (k - 1) hi hin (by omega)
 unfold tail at h
 dsimp only at h
 split at h
 ·cases h
 split at h
 ·cases h
 injection h with h
 injection h with h1 h2
 subst h2
 intro t ht
 rw [List.mem_append, List.mem_singleton] at ht
 rcases ht with ht | rfl
 ·exact hp t ht
 ·have hsz : (s.extract (rd v i).At.toNat ((rd v (k - 1)).At + (rd v (k - 1)).Size).toNat).size = min ((rd v (k - 1)).At + (rd v (k - 1)).Size).toNat s.size - (rd v i).At.toNat := by
   simp
  refine ⟨fun _ e => ?_, ?_⟩
  ·have h0 : (s.extract (rd v i).At.toNat ((rd v (k - 1)).At + (rd v (k - 1)).Size).toNat).size = 0 := by
    show (zaa.mk kind (rd v i).Line (rd v i).Col (s.extract (rd v i).At.toNat ((rd v (k - 1)).At + (rd v (k - 1)).Size).toNat)).Text.size = 0
    rw [e]; rfl
   omega
  ·show (s.extract (rd v i).At.toNat ((rd v (k - 1)).At + (rd v (k - 1)).Size).toNat).size <= _
   omega
theorem zo3 {k : Int} {l' : List zaa} (h : zgB v s i l = .inl (k, l')) (hp : ∀ t ∈ l, TkP t) : ∀ t ∈ l', TkP t := by
 obtain ⟨h0, h1, hv⟩ := zlI g hi hl
 obtain ⟨kk, ek, _, _, k1, k2⟩ := zhS v hv v.length (i + 1) (by omega) (by omega) (by omega)
 obtain ⟨r, er, _, _, r1⟩ := zhV v hv v.length (i + 1) (by omega) (by omega) (by omega)
 unfold zgB at h
 rw [← er, ← ek] at h
 repeat' split at h
 all_goals first
  | (cases h; done)
  | exact zqe g hi hl (by omega) (by omega) h hp
  | (injection h with h; injection h with h3 h4; subst h4; exact hp)
end
theorem zj5 {v : List zao} : ∀ (n : Nat) (i : Int) {q}, remC v n i = .inr q -> q.2.Code ≠ 0
 | 0, i, q, h => by simp [remC] at h
 | n + 1, i, q, h => by
  unfold remC at h
  split at h
  ·exact zj5 n _ h
  ·rename_i r hr
   unfold zhK at hr
   repeat' split at hr
   all_goals first | (cases hr; done) | (injection hr with hr; subst hr; cases h; simp) | (injection hr with hr; subst hr; cases h)
theorem zmx {v : List zao} {s : ByteArray} {i : Int} {l : List zaa} {k kind : Int} {q} (h : tail v s i l k kind = .inr (.inr q)) : q.2.Code ≠ 0 := by
 unfold tail at h
 dsimp only at h
 repeat' split at h
 all_goals first | (cases h; done) | (injection h with h; injection h with h; subst h; simp)
theorem zlP {v : List zao} {s : ByteArray} {i : Int} {l : List zaa} {q} (h : zgB v s i l = .inr (.inr q)) : q.2.Code ≠ 0 := by
 unfold zgB at h
 repeat' split at h
 all_goals first
  | (cases h; done)
  | exact zmx h
  | (injection h with h; injection h with h; subst h; first | (simp; done) | exact zj5 _ _ (by assumption))
theorem zoH {s : ByteArray} {v : List zao} (g : Good s v) : ∀ (n : Nat) (i : Int) (l : List zaa), 0 <= i -> i <= v.length -> l.length <= i.toNat -> (∀ t ∈ l, TkP t) -> (∀ L, tokC v s n i l = .inl L -> ∀ t ∈ L, TkP t) /\ ∀ q, tokC v s n i l = .inr q -> q.2.Code ≠ 0
 | 0, i, l, h0, hv, hl, hp => ⟨fun L e => by simp only [tokC, Sum.inl.injEq] at e; subst e; exact hp, fun q e => by simp [tokC] at e⟩
 | n + 1, i, l, h0, hv, hl, hp => by
  have h1 := g.sm
  have h2 := g.len
  unfold Sm at h1
  rw [tokC]
  by_cases hlt : i < v.length
  ·rw [if_pos hlt]
   have hin : InB i v.length := ⟨h0, by omega⟩
   cases ht : zgB v s i l with
   | inl q =>
    obtain ⟨k, l'⟩ := q
    obtain ⟨n1, n2, n3⟩ := zlh g hin (by omega) ht
    exact zoH g n k l' (by omega) n2 (by omega) (zo3 g hin (by omega) ht hp)
   | inr r =>
    cases r with
    | inl L =>
     exfalso
     unfold zgB tail at ht
     dsimp only at ht
     repeat' split at ht
     all_goals first | cases ht | (injection ht with ht; cases ht)
    | inr q => exact ⟨fun L e => (by cases e), fun q' e => by cases e; exact zlP ht⟩
  ·rw [if_neg hlt]
   exact ⟨fun L e => (by cases e; exact hp), fun q e => (by cases e)⟩
theorem zh7 (s : ByteArray) (hs : s.size <= 50000) (hc : (zaU s).2.Code = 0) : zct (zaU s).1 := by
 have hsm : Sm s := by unfold Sm; omega
 have g := zhq s hsm
 have hlen := g.len
 obtain ⟨p1, p2⟩ := zoH g (zbM s).length 0 [] (by omega) (by omega) (by simp) (fun t ht => by simp at ht)
 obtain ⟨_, _, p3⟩ := zjp g (zbM s).length 0 [] (by omega) (by omega) (by simp) (by simp)
 unfold zaU at hc ⊢
 cases hx : tokC (zbM s) s (zbM s).length 0 [] with
 | inr q =>
  rw [hx] at hc
  exact absurd hc (p2 q hx)
 | inl l =>
  have q1 := p1 l hx
  have q3 := p3 l hx
  have hmem : ∀ t ∈ l ++ [(⟨4, (zhs (zbM s)).1, (zhs (zbM s)).2, ⟨#[]⟩⟩ : zaa)], TkP t := fun t ht => by
   rw [List.mem_append, List.mem_singleton] at ht
   rcases ht with ht | rfl
   ·exact q1 t ht
   ·exact ⟨fun e => (by simp at e), Nat.zero_le _⟩
  refine ⟨by simp; omega, fun t ht => (hmem t ht).1, fun i hi hk => ?_, fun t ht => (hmem t ht).2⟩
  simp only [List.length_append, List.length_singleton] at hi ⊢
  by_cases he : i = l.length
  ·exfalso
   subst he
   apply hk
   show (rd (l ++ [_]) (l.length : Int)).Kind = 4
   have : rd (l ++ [(⟨4, (zhs (zbM s)).1, (zhs (zbM s)).2, ⟨#[]⟩⟩ : zaa)]) (l.length : Int) = ⟨4, (zhs (zbM s)).1, (zhs (zbM s)).2, ⟨#[]⟩⟩ := zdG (by simp)
   rw [this]
  ·omega
end Go.Vs
end
section
namespace Go.Vs
local instance tabPalPF : Tab := ⟨fun _ => none⟩
def qB (Q : zab) : (List zaa) × Int × (List zan) × (List zag) × (List zaa) × (List (List zaa)) × (List (List zaa)) × (List Int) × (List ByteArray) × (List ByteArray) × Int × Int × Int := (Q.T, Q.I, Q.P.zSy, Q.P.zTh, Q.zHd, Q.First, Q.To, Q.Left, Q.All, Q.Wait, Q.Bad.Code, Q.Bad.Line, Q.Bad.Col)
theorem zj6 (T : List zaa) (v1 : (List zaa) × zai) (h1 : v1.1 = T) (f : zai) (hT : zct T) : ∀ (n : Nat) (S : PSt), Inv T S -> T.length - S.at_ <= n -> za4 (zbb v1) (qB (stR T S f)) = some (match zen T n S with | .inl g => .inr (nilP, g) | .inr S' => .inl (qB (stR T S' f)))
 | 0, S, h, hn => by
  have hi : ¬ S.at_ < T.length := by omega
  refine zaI ?_
  simp only [qB, zbb, zen, h1]
  rw [if_neg (by simpa [stR] using hi)]
 | n + 1, S, h, hn => by
  unfold zen
  by_cases hi : S.at_ < T.length
  ·rw [if_pos hi]
   obtain ⟨ok, R', e1, e2⟩ := zn9 T S f hT h.ok hi h.none_
   have step : zbb v1 (qB (stR T S f)) = (if (!ok) = true then some (.inr (.inr (nilP, R'.Bad))) else some (.inl (qB R'))) := by
    simp only [qB, zbb, h1]
    rw [if_pos (by simpa [stR] using hi)]
    have e1' : zbx ⟨(stR T S f).T, (stR T S f).I, ⟨(stR T S f).P.zSy, (stR T S f).P.zTh⟩, (stR T S f).zHd, (stR T S f).First, (stR T S f).To, (stR T S f).Left, (stR T S f).All, (stR T S f).Wait, ⟨(stR T S f).Bad.Code, (stR T S f).Bad.Line, (stR T S f).Bad.Col⟩⟩ = some (ok, R') := e1
    rw [e1']
    rfl
   cases hx : zhN T S with
   | inl g =>
    rw [hx] at e2
    obtain ⟨rfl, hf⟩ := e2
    rw [if_pos (by decide)] at step
    rw [zaI step, hf]
   | inr S' =>
    rw [hx] at e2
    obtain ⟨rfl, rfl⟩ := e2
    rw [if_neg (by decide)] at step
    rw [zbo step]
    obtain ⟨i1, i2⟩ := zio hT h hi hx
    exact zj6 T v1 h1 f hT n S' i1 (by omega)
  ·rw [if_neg hi]
   refine zaI ?_
   simp only [qB, zbb, h1]
   rw [if_neg (by simpa [stR] using hi)]
theorem zlZ (T : List zaa) (S : PSt) (f : zai) (hT : zct T) (h : Inv T S) : za4 zcd (0, qB (stE T S f)) = some (match zfW S.bs with | some g => .inr (nilP, g) | none => .inl (qB (stE T S f))) := by
 have hl := hT.len
 have hbl := zhH S
 have hd := h.ok.done
 let hh : Option zai -> ((List zaa) × Int × (List zan) × (List zag) × (List zaa) × (List (List zaa)) × (List (List zaa)) × (List Int) × (List ByteArray) × (List ByteArray) × Int × Int × Int) ⊕ (zaq × zai) := fun o => match o with
  | none => .inl (qB (stE T S f))
  | some g => .inr (nilP, g)
 have L := zd5 S.bs (fun i (_ : Unit) => (i, qB (stE T S f))) zcd (cvF zgP hh) (fun _ => hh none) (fun _ _ => True) (fun i x hx a _ => ⟨?_, fun _ _ => trivial⟩) (fun a _ => ?_) () trivial
 rotate_left
 ·have hil := (List.getElem?_eq_some_iff.1 hx).1
  obtain ⟨ok, R', e1, e2⟩ := zoa T S f hx hl (h.bd x (List.mem_of_getElem? hx))
  have hdec : decide ((i : Int) < ((stE T S f).P.zTh.length : Int)) = true := by simpa [stE] using hil
  change (if decide ((i : Int) < ((stE T S f).P.zTh.length : Int)) = true then _ else _) = _
  rw [if_pos hdec]
  have e1' : zbi ⟨(stE T S f).T, (stE T S f).I, ⟨(stE T S f).P.zSy, (stE T S f).P.zTh⟩, (stE T S f).zHd, (stE T S f).First, (stE T S f).To, (stE T S f).Left, (stE T S f).All, (stE T S f).Wait, ⟨(stE T S f).Bad.Code, (stE T S f).Bad.Line, (stE T S f).Bad.Col⟩⟩ (i : Int) = some (ok, R') := e1
  change ((zbi ⟨(stE T S f).T, (stE T S f).I, ⟨(stE T S f).P.zSy, (stE T S f).P.zTh⟩, (stE T S f).zHd, (stE T S f).First, (stE T S f).To, (stE T S f).Left, (stE T S f).All, (stE T S f).Wait, ⟨(stE T S f).Bad.Code, (stE T S f).Bad.Line, (stE T S f).Bad.Col⟩⟩ (i : Int)).bind _) = _
  rw [e1']
  unfold cvF zgP
  cases hw : zh4 x with
  | some g =>
   rw [hw] at e2
   obtain ⟨rfl, hf⟩ := e2
   simp only [Option.bind_some, Bool.not_false, if_true, hf]
   rfl
  | none =>
   rw [hw] at e2
   obtain ⟨rfl, rfl⟩ := e2
   simp only [Option.bind_some, Bool.not_true, Bool.false_eq_true, if_false]
   rw [wi (by omega)]
   rfl
 ·change (if decide ((S.bs.length : Int) < ((stE T S f).P.zTh.length : Int)) = true then _ else _) = _
  rw [if_neg (by simp [stE])]
  rfl
 rw [zeh zgP (fun _ => none) hh] at L
 rw [L]
 unfold zfW
 cases zeQ zgP (fun _ => none) 0 () S.bs <;> rfl
theorem zjv (s : ByteArray) (hs : Sm s) (hT : (zaU s).2.Code = 0 -> zct (zaU s).1) : zcJ s = some (zgu s) := by
 unfold zcJ zgu
 rw [zju s hs]
 simp only [Option.bind_some]
 by_cases hc : ((zaU s).2.Code != 0) = true
 ·rw [if_pos hc, if_pos hc]; rfl
 rw [if_neg hc, if_neg hc]
 have hT' := hT (by simpa [bne] using hc)
 have L := zj6 (zaU s).1 (zaU s) rfl ⟨0, 0, 0⟩ hT' (zaU s).1.length St0 (inv0 _) (by simp [St0])
 have L' : za4 (zbb (zaU s)) ((zaU s).1, 0, [], [], [], [], [], [], [], [], 0, 0, 0) = _ := L
 rw [L']
 unfold zlv
 cases hx : zen (zaU s).1 (zaU s).1.length St0 with
 | inl g => rfl
 | inr S =>
  have hI := zgk hT' _ _ (inv0 _) hx
  simp only [Option.bind_some, zbU]
  have hsh := zn7 (zaU s).1 S ⟨0, 0, 0⟩ (by have := zhH S; have := hI.ok.done; omega) hI.none_
  have hsh' : za0 ⟨(qB (stR (zaU s).1 S ⟨0, 0, 0⟩)).1, (qB (stR (zaU s).1 S ⟨0, 0, 0⟩)).2.1, ⟨(qB (stR (zaU s).1 S ⟨0, 0, 0⟩)).2.2.1, (qB (stR (zaU s).1 S ⟨0, 0, 0⟩)).2.2.2.1⟩, (qB (stR (zaU s).1 S ⟨0, 0, 0⟩)).2.2.2.2.1, (qB (stR (zaU s).1 S ⟨0, 0, 0⟩)).2.2.2.2.2.1, (qB (stR (zaU s).1 S ⟨0, 0, 0⟩)).2.2.2.2.2.2.1, (qB (stR (zaU s).1 S ⟨0, 0, 0⟩)).2.2.2.2.2.2.2.1, (qB (stR (zaU s).1 S ⟨0, 0, 0⟩)).2.2.2.2.2.2.2.2.1, (qB (stR (zaU s).1 S ⟨0, 0, 0⟩)).2.2.2.2.2.2.2.2.2.1, ⟨(qB (stR (zaU s).1 S ⟨0, 0, 0⟩)).2.2.2.2.2.2.2.2.2.2.1, (qB (stR (zaU s).1 S ⟨0, 0, 0⟩)).2.2.2.2.2.2.2.2.2.2.2.1, (qB (stR (zaU s).1 S ⟨0, 0, 0⟩)).2.2.2.2.2.2.2.2.2.2.2.2⟩⟩ = _ := hsh
  rw [hsh']
  simp only [Option.bind_some]
  have W := zlZ (zaU s).1 S ⟨0, 0, 0⟩ hT' hI
  have W' : za4 zcd (0, (stE (zaU s).1 S ⟨0, 0, 0⟩).T, (stE (zaU s).1 S ⟨0, 0, 0⟩).I, (stE (zaU s).1 S ⟨0, 0, 0⟩).P.zSy, (stE (zaU s).1 S ⟨0, 0, 0⟩).P.zTh, (stE (zaU s).1 S ⟨0, 0, 0⟩).zHd, (stE (zaU s).1 S ⟨0, 0, 0⟩).First, (stE (zaU s).1 S ⟨0, 0, 0⟩).To, (stE (zaU s).1 S ⟨0, 0, 0⟩).Left, (stE (zaU s).1 S ⟨0, 0, 0⟩).All, (stE (zaU s).1 S ⟨0, 0, 0⟩).Wait, (stE (zaU s).1 S ⟨0, 0, 0⟩).Bad.Code, (stE (zaU s).1 S ⟨0, 0, 0⟩).Bad.Line, (stE (zaU s).1 S ⟨0, 0, 0⟩).Bad.Col) = _ := W
  rw [W']
  cases hw : zfW S.bs with
  | some g => rfl
  | none => rfl
theorem zhp (s : ByteArray) (hs : s.size <= 50000) : zdn s = some (zgu s) := ziJ s (by unfold Sm; omega) (zh7 s hs)
theorem zmQ (s : ByteArray) (hs : s.size <= 50000) : zcJ s = some (zgu s) := zjv s (by unfold Sm; omega) (zh7 s hs)
end Go.Vs
end
section
namespace Go.Vs
local instance tabPalQ1 : Tab := ⟨fun _ => none⟩
set_option maxRecDepth 100000
theorem zta : zgu ⟨#[115, 121, 109, 32, 120, 32, 50, 32, 55, 10, 116, 104, 114, 101, 97, 100, 10, 97, 58, 32, 106, 109, 112, 32, 97]⟩ = (⟨[⟨⟨#[120]⟩, 2, [7]⟩], [⟨[⟨10, false, 0, ⟨0, 0, 0, 0⟩, ⟨0, 0, 0, 0⟩, ⟨#[97]⟩, [⟨#[97]⟩]⟩]⟩]⟩, ⟨0, 0, 0⟩) := by
 rfl
theorem zs9 : zgu ⟨#[109, 111, 118, 32, 114, 97, 120, 44, 32, 49]⟩ = (⟨[], []⟩, ⟨4, 1, 1⟩) := by
 rfl
def SyOk (S : PSt) : Prop := ∀ s ∈ S.syms, s.Init.length <= 64
theorem zoj {T : List zaa} {S S' : PSt} (hT : zct T) (hi : S.at_ < T.length) (hs : SyOk S) (h : zhN T S = .inr S') : SyOk S' := by
 unfold zhN at h
 cases hy : zeM T S with
 | inl g => rw [hy] at h; cases h
 | inr S1 =>
  have h1 : SyOk S1 := by
   unfold zeM at hy
   split at hy
   ·cases hy; exact hs
   split at hy
   ·rename_i h1
    have hk : ((tk T S.at_).Kind == 1) = true := by simp only [Bool.and_eq_true] at h1; exact h1.1
    have hi1 : S.at_ + 1 < T.length := hT.next _ hi (zc6 hk (by decide))
    unfold symP at hy
    split at hy
    ·cases hy
    split at hy
    ·cases hy
    split at hy
    ·cases hy
    rename_i hnp
    have hi2 : S.at_ + 2 < T.length := hT.next (S.at_ + 1) hi1 (by have := zgi hnp; omega)
    split at hy
    ·cases hy
    split at hy
    ·cases hy
    rename_i h2
    have h2' : (tk T (S.at_ + 2)).Kind = 2 := by simpa [bne] using h2
    have hi3 : S.at_ + 3 < T.length := hT.next (S.at_ + 2) hi2 (by show (tk T (S.at_ + 2)).Kind ≠ 4; omega)
    split at hy
    ·cases hy
    rename_i hr
    simp only [Bool.or_eq_true, decide_eq_true_eq, not_or, Int.not_lt, Int.not_gt_eq] at hr
    split at hy
    ·cases hy
    rename_i j l hx
    obtain ⟨a, b, c⟩ := zfK hT (by omega) _ _ _ hi3 (by simp; omega) hx
    cases hy
    intro s hm
    simp only [List.mem_append, List.mem_singleton] at hm
    rcases hm with hm | rfl
    ·exact hs s hm
    ·show l.length <= 64; omega
   split at hy
   ·unfold thrP at hy
    split at hy
    ·cases hy
    cases hy; exact hs
   ·unfold zj2 at hy
    split at hy
    ·cases hy
    split at hy
    ·cases hy
    split at hy
    ·cases hy; exact hs
    split at hy
    ·cases hy
    cases hy; exact hs
  rw [hy] at h
  unfold ziQ at h
  simp only at h
  split at h
  ·cases h
  ·cases h; exact h1
theorem zkl {T : List zaa} (hT : zct T) : ∀ (n : Nat) (S : PSt) {S' : PSt}, SyOk S -> zen T n S = .inr S' -> SyOk S'
 | 0, S, S', h, e => by simp only [zen, Sum.inr.injEq] at e; subst e; exact h
 | n + 1, S, S', h, e => by
  unfold zen at e
  split at e
  ·rename_i hi
   split at e
   ·cases e
   ·rename_i S1 hx
    exact zkl hT n S1 (zoj hT hi h hx) e
  ·simp only [Sum.inr.injEq] at e; subst e; exact h
structure RdOk (p : zaq) : Prop where
 syms : p.zSy.length <= 64
 th : p.zTh.length <= 64
 init : ∀ s ∈ p.zSy, s.Init.length <= 64
 ins : ∀ t ∈ p.zTh, t.Ins.length <= 100000 /\ ∀ x ∈ t.Ins, x.zLb.length <= 100000
theorem zmU : RdOk nilP := ⟨by simp [nilP], by simp [nilP], fun s h => (by simp [nilP] at h), fun t h => (by simp [nilP] at h)⟩
theorem zm3 (s : ByteArray) (hs : s.size <= 50000) : RdOk (zgu s).1 := by
 unfold zgu
 split
 ·exact zmU
 rename_i hc
 have hT := zh7 s hs (by simpa [bne] using hc)
 have hl := hT.len
 unfold zlv
 cases hx : zen (zaU s).1 (zaU s).1.length St0 with
 | inl g => exact zmU
 | inr S =>
  have hI := zgk hT _ _ (inv0 _) hx
  have hy := zkl hT _ _ (fun s h => (by simp [St0] at h)) hx
  simp only
  cases hw : zfW S.bs with
  | some f => exact zmU
  | none =>
   refine ⟨hI.ok.syms, ?_, hy, fun t ht => ?_⟩
   ·have := zhH S; have := hI.ok.done; simp; omega
   ·simp only [List.mem_map] at ht
    obtain ⟨b, hb, rfl⟩ := ht
    have hb' := hI.bd b hb
    have h1 := hb'.zFi
    have h2 := hb'.ins
    refine ⟨by show b.ins.length <= _; omega, fun x hx => by have := hb'.labs x hx; omega⟩
end Go.Vs
end
section
namespace Go.Vs
local instance tabPalQ2 : Tab := ⟨fun _ => none⟩
theorem zkE : zc3 = some true := by
 unfold zc3
 rw [zhp ⟨#[115, 121, 109, 32, 120, 32, 50, 32, 55, 10, 116, 104, 114, 101, 97, 100, 10, 97, 58, 32, 106, 109, 112, 32, 97]⟩ (show (25 : Nat) <= 50000 by decide), zhp ⟨#[109, 111, 118, 32, 114, 97, 120, 44, 32, 49]⟩ (show (10 : Nat) <= 50000 by decide), zta, zs9]
 simp only [Option.bind_some]
 rw [if_pos (fun _ => ⟨by decide, by decide⟩)]
 rfl
theorem zhw (s : ByteArray) (hs : s.size <= 50000) : zcx s = some true := by
 have ok := zm3 s hs
 unfold zcx
 rw [zhp s hs, zmQ s hs]
 simp only [Option.bind_some, beq_self_eq_true, Bool.and_self, if_true, Bool.true_and]
 rw [zkN _ _ (by have := ok.syms; omega) (by have := ok.th; omega) (fun s h => by have := ok.init s h; omega) (fun t h => ⟨by have := (ok.ins t h).1; omega, fun x hx => by have := (ok.ins t h).2 x hx; omega⟩)]
 simp
end Go.Vs
end
section
namespace Go.Vs
local instance tabPalQ3 : Tab := ⟨fun _ => none⟩
theorem zin {σ R : Type} {step : σ -> Option (σ ⊕ R)} (Inv : σ -> Prop) (Post : R -> Prop) (mu : σ -> Nat) (h : ∀ s, Inv s -> (∃ s', step s = some (.inl s') /\ Inv s' /\ mu s' < mu s) \/ ∃ r, step s = some (.inr r) /\ Post r) : ∀ (n : Nat) (s : σ), mu s <= n -> Inv s -> ∃ r, za4 step s = some r /\ Post r
 | n, s, hn, hi => by
  rcases h s hi with ⟨s', e, i', hm⟩ | ⟨r, e, hr⟩
  ·cases n with
   | zero => omega
   | succ n =>
    obtain ⟨r, e2, hr⟩ := zin Inv Post mu h n s' (by omega) i'
    exact ⟨r, by rw [zbo e]; exact e2, hr⟩
  ·exact ⟨r, zaI e, hr⟩
theorem zmV {α : Type} [Inhabited α] {l : List α} {i : Int} (h : InB i l.length) : rd l i ∈ l := List.mem_of_getElem? (zmT h)
theorem zps {i : Int} {n : Nat} (h0 : 0 <= i) (h : i < (n : Int)) : InB i n := ⟨h0, by omega⟩
theorem catS {a b : ByteArray} {m n : Nat} (h1 : a.size <= m) (h2 : b.size <= n) (h : m + n <= 5000000000) : ziH a b := catB (by omega)
theorem zjR {a b : ByteArray} {m n : Nat} (h1 : a.size <= m) (h2 : b.size <= n) : (a ++ b).size <= m + n := by rw [ByteArray.size_append]; omega
theorem zo9 (p0 : List (List Int)) (hp : ∀ l ∈ p0, ∀ x ∈ l, I64 x) (l1 : List ByteArray) (h1 : 0 < l1.length) (h2 : l1.length <= 1000) (hw : ∀ w ∈ l1, w.size <= 20) (i : Int) (hi : InB i p0.length) (s0 : ByteArray) (n : Nat) (hs : s0.size <= n) (hn : n <= 10000) :
  ∃ r, za4 (zbH i p0 l1) (s0, 0) = some r /\ r.size <= n + 8 * 21 := by
 refine zin (fun s => 0 <= s.2 /\ s.2 <= 8 /\ s.1.size <= n + s.2.toNat * 21) _ (fun s => (8 - s.2).toNat) ?_ 8 (s0, 0) (by simp) ⟨by simp, by simp, by simpa using hs⟩
 rintro ⟨s, j⟩ ⟨a0, a1, a2⟩
 simp only at a0 a1 a2
 simp only [zbH]
 rw [if_pos hi]
 by_cases hj : (decide (j < ((rd p0 i).length : Int)) && decide (j < 8)) = true
 ·rw [if_pos hj, if_pos hi]
  simp only [Bool.and_eq_true, decide_eq_true_eq] at hj
  have hb := zps a0 hj.1
  rw [if_pos hb]
  obtain ⟨k, e, k0, k1⟩ := zm2 (hp _ (zmV hi) _ (zmV hb)) (l1.length : Int) (by omega) (by omega)
  rw [e]
  simp only [Option.bind_some]
  have hk := zps k0 k1
  have hz := hw _ (zmV hk)
  have z1 : (⟨#[32]⟩ : ByteArray).size <= 1 := Nat.le_refl _
  have hz2 := zjR hz z1
  have hj8 : j.toNat <= 8 := by omega
  rw [if_pos hk, if_pos (catS hz z1 (by omega)), if_pos (catS a2 hz2 (by omega))]
  refine .inl ⟨_, rfl, ⟨?_, ?_, ?_⟩, ?_⟩
  all_goals have hwr : IntKind.wrap .i64 (j + 1) = j + 1 := zbA ⟨by omega, by omega⟩
  all_goals simp only [hwr]
  ·omega
  ·omega
  ·have := zjR a2 hz2
   have : (j + 1).toNat = j.toNat + 1 := by omega
   rw [this]; omega
  ·omega
 ·rw [if_neg hj]
  refine .inr ⟨_, rfl, ?_⟩
  have : j.toNat <= 8 := by omega
  omega
theorem zpa (p0 : List (List Int)) (hp : ∀ l ∈ p0, ∀ x ∈ l, I64 x) (l1 : List ByteArray) (h1 : 0 < l1.length) (h2 : l1.length <= 1000) (hw : ∀ w ∈ l1, w.size <= 20) (s0 : ByteArray) (hs : s0.size <= 30) :
  ∃ r, za4 (zbJ p0 l1) (s0, 0) = some r /\ r.size <= 1100 := by
 refine zin (fun s => 0 <= s.2 /\ s.2 <= 6 /\ s.1.size <= 30 + s.2.toNat * 169) _ (fun s => (6 - s.2).toNat) ?_ 6 (s0, 0) (by simp) ⟨by simp, by simp, by simpa using hs⟩
 rintro ⟨s, j⟩ ⟨a0, a1, a2⟩
 simp only at a0 a1 a2
 simp only [zbJ]
 by_cases hj : (decide (j < (p0.length : Int)) && decide (j < 6)) = true
 ·rw [if_pos hj]
  simp only [Bool.and_eq_true, decide_eq_true_eq] at hj
  have hb := zps a0 hj.1
  obtain ⟨r, e, hr⟩ := zo9 p0 hp l1 h1 h2 hw j hb s _ a2 (by omega)
  have z1 : (⟨#[10]⟩ : ByteArray).size <= 1 := Nat.le_refl _
  rw [e]
  simp only [Option.bind_some]
  rw [if_pos (catS hr z1 (by omega))]
  refine .inl ⟨_, rfl, ⟨?_, ?_, ?_⟩, ?_⟩
  all_goals have hwr : IntKind.wrap .i64 (j + 1) = j + 1 := zbA ⟨by omega, by omega⟩
  all_goals simp only [hwr]
  ·omega
  ·omega
  ·have := zjR hr z1
   have : (j + 1).toNat = j.toNat + 1 := by omega
   rw [this]; omega
  ·omega
 ·rw [if_neg hj]
  refine .inr ⟨_, rfl, ?_⟩
  have : j.toNat <= 6 := by omega
  omega
theorem ziU (p0 : List (List Int)) (hp : ∀ l ∈ p0, ∀ x ∈ l, I64 x) : zcP p0 = some true := by
 unfold zcP
 simp only [Option.bind_some]
 generalize hL : ([_, _, _, _, _, _, _, _, _, _, _, _, _, _, _, _, _, _, _, _, _, _, _, _, _, _, _, _, _, _, _, _, _] : List ByteArray) = L1
 obtain ⟨r, e, hr⟩ := zpa p0 hp L1 (by rw [← hL]; decide) (by rw [← hL]; decide) (by rw [← hL]; decide) (⟨#[115, 121, 109, 32, 120, 32, 49, 10, 115, 121, 109, 32, 121, 32, 50, 10, 116, 104, 114, 101, 97, 100, 10]⟩ : ByteArray) (show (23 : Nat) <= 30 by decide)
 rw [e]
 simp only [Option.bind_some]
 have z1 : (⟨#[104, 108, 116]⟩ : ByteArray).size <= 3 := Nat.le_refl _
 rw [zhw r (by omega)]
 simp only [Option.bind_some]
 rw [if_pos (fun _ => catS hr z1 (by omega)), if_pos trivial, zhw _ (by have := zjR hr z1; omega)]
 simp only [Option.bind_some, Bool.and_self, if_true, zkE]
end Go.Vs
end
