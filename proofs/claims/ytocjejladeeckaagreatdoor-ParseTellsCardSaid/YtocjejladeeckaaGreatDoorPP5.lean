import Derived.Test.YtocjejladeeckaaGreatDoorPP1
import Derived.Test.YtocjejladeeckaaGreatDoorPP4
import Derived.Test.YtocjejladeeckaaGreatDoorPalN
set_option linter.all false
section
namespace Go.Vs
local instance tabPalPT : Tab := ⟨fun _ => none⟩
def TkP (t : zad) : Prop := (t.Kind = 1 -> t.Text ≠ ⟨#[]⟩) /\ t.Text.size <= 1000000
section
variable {s : ByteArray} {v : List zaw} (g : Good s v) {i : Int} {l : List zad} (hi : InB i v.length) (hl : l.length <= 1000000)
include g hi hl
theorem zpS {k kind k' : Int} {l' : List zad} (hk : i < k) (hkn : k <= v.length) (h : tail v s i l k kind = .inl (k', l')) (hp : ∀ t ∈ l, TkP t) : ∀ t ∈ l', TkP t := by
 obtain ⟨_, hin, _, _, b1, b2⟩ := zls g hi hk hkn hl
 have hsm := g.sm
 unfold Sm at hsm
 obtain ⟨a1, a2, a3⟩ := g.at0 _ hin
 obtain ⟨c1, c2, c3⟩ := g.at0 _ hi
 have hle := g.le i (k - 1) hi hin (by omega)
 unfold tail at h
 dsimp only at h
 split at h
 ·cases h
 split at h
 ·cases h
 injection h with h
 injection h with h1 h2
 subst h2
 intro t ht
 rw [List.mem_append, List.mem_singleton] at ht
 rcases ht with ht | rfl
 ·exact hp t ht
 ·have hsz : (s.extract (rd v i).At.toNat ((rd v (k - 1)).At + (rd v (k - 1)).Size).toNat).size = min ((rd v (k - 1)).At + (rd v (k - 1)).Size).toNat s.size - (rd v i).At.toNat := by
   simp
  refine ⟨fun _ e => ?_, ?_⟩
  ·have h0 : (s.extract (rd v i).At.toNat ((rd v (k - 1)).At + (rd v (k - 1)).Size).toNat).size = 0 := by
    show (zad.mk kind (rd v i).Line (rd v i).Col (s.extract (rd v i).At.toNat ((rd v (k - 1)).At + (rd v (k - 1)).Size).toNat)).Text.size = 0
    rw [e]; rfl
   omega
  ·show (s.extract (rd v i).At.toNat ((rd v (k - 1)).At + (rd v (k - 1)).Size).toNat).size <= _
   omega
theorem zoP {k : Int} {l' : List zad} (h : zgv v s i l = .inl (k, l')) (hp : ∀ t ∈ l, TkP t) : ∀ t ∈ l', TkP t := by
 obtain ⟨h0, h1, hv⟩ := zly g hi hl
 obtain ⟨kk, ek, _, _, k1, k2⟩ := zhJ v hv v.length (i + 1) (by omega) (by omega) (by omega)
 obtain ⟨r, er, _, _, r1⟩ := zhM v hv v.length (i + 1) (by omega) (by omega) (by omega)
 unfold zgv at h
 rw [← er, ← ek] at h
 repeat' split at h
 all_goals first
  | (cases h; done)
  | exact zpS g hi hl (by omega) (by omega) h hp
  | (injection h with h; injection h with h3 h4; subst h4; exact hp)
end
theorem zjY {v : List zaw} : ∀ (n : Nat) (i : Int) {q}, remC v n i = .inr q -> q.2.Code ≠ 0
 | 0, i, q, h => by simp [remC] at h
 | n + 1, i, q, h => by
  unfold remC at h
  split at h
  ·exact zjY n _ h
  ·rename_i r hr
   unfold zhA at hr
   repeat' split at hr
   all_goals first | (cases hr; done) | (injection hr with hr; subst hr; cases h; simp) | (injection hr with hr; subst hr; cases h)
theorem zmn {v : List zaw} {s : ByteArray} {i : Int} {l : List zad} {k kind : Int} {q} (h : tail v s i l k kind = .inr (.inr q)) : q.2.Code ≠ 0 := by
 unfold tail at h
 dsimp only at h
 repeat' split at h
 all_goals first | (cases h; done) | (injection h with h; injection h with h; subst h; simp)
theorem zlF {v : List zaw} {s : ByteArray} {i : Int} {l : List zad} {q} (h : zgv v s i l = .inr (.inr q)) : q.2.Code ≠ 0 := by
 unfold zgv at h
 repeat' split at h
 all_goals first
  | (cases h; done)
  | exact zmn h
  | (injection h with h; injection h with h; subst h; first | (simp; done) | exact zjY _ _ (by assumption))
theorem zou {s : ByteArray} {v : List zaw} (g : Good s v) : ∀ (n : Nat) (i : Int) (l : List zad), 0 <= i -> i <= v.length -> l.length <= i.toNat -> (∀ t ∈ l, TkP t) -> (∀ L, tokC v s n i l = .inl L -> ∀ t ∈ L, TkP t) /\ ∀ q, tokC v s n i l = .inr q -> q.2.Code ≠ 0
 | 0, i, l, h0, hv, hl, hp => ⟨fun L e => by simp only [tokC, Sum.inl.injEq] at e; subst e; exact hp, fun q e => by simp [tokC] at e⟩
 | n + 1, i, l, h0, hv, hl, hp => by
  have h1 := g.sm
  have h2 := g.len
  unfold Sm at h1
  rw [tokC]
  by_cases hlt : i < v.length
  ·rw [if_pos hlt]
   have hin : InB i v.length := ⟨h0, by omega⟩
   cases ht : zgv v s i l with
   | inl q =>
    obtain ⟨k, l'⟩ := q
    obtain ⟨n1, n2, n3⟩ := zk8 g hin (by omega) ht
    exact zou g n k l' (by omega) n2 (by omega) (zoP g hin (by omega) ht hp)
   | inr r =>
    cases r with
    | inl L =>
     exfalso
     unfold zgv tail at ht
     dsimp only at ht
     repeat' split at ht
     all_goals first | cases ht | (injection ht with ht; cases ht)
    | inr q => exact ⟨fun L e => (by cases e), fun q' e => by cases e; exact zlF ht⟩
  ·rw [if_neg hlt]
   exact ⟨fun L e => (by cases e; exact hp), fun q e => (by cases e)⟩
theorem zhZ (s : ByteArray) (hs : s.size <= 50000) (hc : (zaY s).2.Code = 0) : zcu (zaY s).1 := by
 have hsm : Sm s := by unfold Sm; omega
 have g := zhj s hsm
 have hlen := g.len
 obtain ⟨p1, p2⟩ := zou g (zbM s).length 0 [] (by omega) (by omega) (by simp) (fun t ht => by simp at ht)
 obtain ⟨_, _, p3⟩ := zji g (zbM s).length 0 [] (by omega) (by omega) (by simp) (by simp)
 unfold zaY at hc ⊢
 cases hx : tokC (zbM s) s (zbM s).length 0 [] with
 | inr q =>
  rw [hx] at hc
  exact absurd hc (p2 q hx)
 | inl l =>
  have q1 := p1 l hx
  have q3 := p3 l hx
  have hmem : ∀ t ∈ l ++ [(⟨4, (zhl (zbM s)).1, (zhl (zbM s)).2, ⟨#[]⟩⟩ : zad)], TkP t := fun t ht => by
   rw [List.mem_append, List.mem_singleton] at ht
   rcases ht with ht | rfl
   ·exact q1 t ht
   ·exact ⟨fun e => (by simp at e), Nat.zero_le _⟩
  refine ⟨by simp; omega, fun t ht => (hmem t ht).1, fun i hi hk => ?_, fun t ht => (hmem t ht).2⟩
  simp only [List.length_append, List.length_singleton] at hi ⊢
  by_cases he : i = l.length
  ·exfalso
   subst he
   apply hk
   show (rd (l ++ [_]) (l.length : Int)).Kind = 4
   have : rd (l ++ [(⟨4, (zhl (zbM s)).1, (zhl (zbM s)).2, ⟨#[]⟩⟩ : zad)]) (l.length : Int) = ⟨4, (zhl (zbM s)).1, (zhl (zbM s)).2, ⟨#[]⟩⟩ := zdE (by simp)
   rw [this]
  ·omega
end Go.Vs
end
section
namespace Go.Vs
local instance tabPalPF : Tab := ⟨fun _ => none⟩
def qB (Q : zaa) : (List zad) × Int × (List zaq) × (List zai) × (List zad) × (List (List zad)) × (List (List zad)) × (List Int) × (List ByteArray) × (List ByteArray) × Int × Int × Int := (Q.T, Q.I, Q.P.zSy, Q.P.zTh, Q.zHd, Q.First, Q.To, Q.Left, Q.All, Q.Wait, Q.Bad.Code, Q.Bad.Line, Q.Bad.Col)
theorem zjZ (T : List zad) (v1 : (List zad) × zao) (h1 : v1.1 = T) (f : zao) (hT : zcu T) : ∀ (n : Nat) (S : PSt), Inv T S -> T.length - S.at_ <= n -> zba (zbe v1) (qB (stR T S f)) = some (match zem T n S with | .inl g => .inr (nilP, g) | .inr S' => .inl (qB (stR T S' f)))
 | 0, S, h, hn => by
  have hi : ¬ S.at_ < T.length := by omega
  refine zaO ?_
  simp only [qB, zbe, zem, h1]
  rw [if_neg (by simpa [stR] using hi)]
 | n + 1, S, h, hn => by
  unfold zem
  by_cases hi : S.at_ < T.length
  ·rw [if_pos hi]
   obtain ⟨ok, R', e1, e2⟩ := znV T S f hT h.ok hi h.none_
   have step : zbe v1 (qB (stR T S f)) = (if (!ok) = true then some (.inr (.inr (nilP, R'.Bad))) else some (.inl (qB R'))) := by
    simp only [qB, zbe, h1]
    rw [if_pos (by simpa [stR] using hi)]
    have e1' : zbA ⟨(stR T S f).T, (stR T S f).I, ⟨(stR T S f).P.zSy, (stR T S f).P.zTh⟩, (stR T S f).zHd, (stR T S f).First, (stR T S f).To, (stR T S f).Left, (stR T S f).All, (stR T S f).Wait, ⟨(stR T S f).Bad.Code, (stR T S f).Bad.Line, (stR T S f).Bad.Col⟩⟩ = some (ok, R') := e1
    rw [e1']
    rfl
   cases hx : zhD T S with
   | inl g =>
    rw [hx] at e2
    obtain ⟨rfl, hf⟩ := e2
    rw [if_pos (by decide)] at step
    rw [zaO step, hf]
   | inr S' =>
    rw [hx] at e2
    obtain ⟨rfl, rfl⟩ := e2
    rw [if_neg (by decide)] at step
    rw [zbu step]
    obtain ⟨i1, i2⟩ := zig hT h hi hx
    exact zjZ T v1 h1 f hT n S' i1 (by omega)
  ·rw [if_neg hi]
   refine zaO ?_
   simp only [qB, zbe, h1]
   rw [if_neg (by simpa [stR] using hi)]
theorem zlQ (T : List zad) (S : PSt) (f : zao) (hT : zcu T) (h : Inv T S) : zba zce (0, qB (stE T S f)) = some (match zfT S.bs with | some g => .inr (nilP, g) | none => .inl (qB (stE T S f))) := by
 have hl := hT.len
 have hbl := zhy S
 have hd := h.ok.done
 let hh : Option zao -> ((List zad) × Int × (List zaq) × (List zai) × (List zad) × (List (List zad)) × (List (List zad)) × (List Int) × (List ByteArray) × (List ByteArray) × Int × Int × Int) ⊕ (zat × zao) := fun o => match o with
  | none => .inl (qB (stE T S f))
  | some g => .inr (nilP, g)
 have L := zd4 S.bs (fun i (_ : Unit) => (i, qB (stE T S f))) zce (cvF zgK hh) (fun _ => hh none) (fun _ _ => True) (fun i x hx a _ => ⟨?_, fun _ _ => trivial⟩) (fun a _ => ?_) () trivial
 rotate_left
 ·have hil := (List.getElem?_eq_some_iff.1 hx).1
  obtain ⟨ok, R', e1, e2⟩ := znW T S f hx hl (h.bd x (List.mem_of_getElem? hx))
  have hdec : decide ((i : Int) < ((stE T S f).P.zTh.length : Int)) = true := by simpa [stE] using hil
  change (if decide ((i : Int) < ((stE T S f).P.zTh.length : Int)) = true then _ else _) = _
  rw [if_pos hdec]
  have e1' : zbl ⟨(stE T S f).T, (stE T S f).I, ⟨(stE T S f).P.zSy, (stE T S f).P.zTh⟩, (stE T S f).zHd, (stE T S f).First, (stE T S f).To, (stE T S f).Left, (stE T S f).All, (stE T S f).Wait, ⟨(stE T S f).Bad.Code, (stE T S f).Bad.Line, (stE T S f).Bad.Col⟩⟩ (i : Int) = some (ok, R') := e1
  change ((zbl ⟨(stE T S f).T, (stE T S f).I, ⟨(stE T S f).P.zSy, (stE T S f).P.zTh⟩, (stE T S f).zHd, (stE T S f).First, (stE T S f).To, (stE T S f).Left, (stE T S f).All, (stE T S f).Wait, ⟨(stE T S f).Bad.Code, (stE T S f).Bad.Line, (stE T S f).Bad.Col⟩⟩ (i : Int)).bind _) = _
  rw [e1']
  unfold cvF zgK
  cases hw : zhW x with
  | some g =>
   rw [hw] at e2
   obtain ⟨rfl, hf⟩ := e2
   simp only [Option.bind_some, Bool.not_false, if_true, hf]
   rfl
  | none =>
   rw [hw] at e2
   obtain ⟨rfl, rfl⟩ := e2
   simp only [Option.bind_some, Bool.not_true, Bool.false_eq_true, if_false]
   rw [wi (by omega)]
   rfl
 ·change (if decide ((S.bs.length : Int) < ((stE T S f).P.zTh.length : Int)) = true then _ else _) = _
  rw [if_neg (by simp [stE])]
  rfl
 rw [zeg zgK (fun _ => none) hh] at L
 rw [L]
 unfold zfT
 cases zeP zgK (fun _ => none) 0 () S.bs <;> rfl
abbrev zQ1 (s : ByteArray) (S : PSt) := qB (stR (zaY s).1 S ⟨0, 0, 0⟩)
abbrev zQ2 (s : ByteArray) (S : PSt) := stE (zaY s).1 S ⟨0, 0, 0⟩
theorem zjo (s : ByteArray) (hs : Sm s) (hT : (zaY s).2.Code = 0 -> zcu (zaY s).1) : zcK s = some (zgq s) := by
 unfold zcK zgq
 rw [zjn s hs]
 simp only [Option.bind_some]
 by_cases hc : ((zaY s).2.Code != 0) = true
 ·rw [if_pos hc, if_pos hc]; rfl
 rw [if_neg hc, if_neg hc]
 have hT' := hT (by simpa [bne] using hc)
 have L := zjZ (zaY s).1 (zaY s) rfl ⟨0, 0, 0⟩ hT' (zaY s).1.length St0 (inv0 _) (by simp [St0])
 have L' : zba (zbe (zaY s)) ((zaY s).1, 0, [], [], [], [], [], [], [], [], 0, 0, 0) = _ := L
 rw [L']
 unfold zlm
 cases hx : zem (zaY s).1 (zaY s).1.length St0 with
 | inl g => rfl
 | inr S =>
  have hI := zgf hT' _ _ (inv0 _) hx
  simp only [Option.bind_some, zbU]
  have hsh := znT (zaY s).1 S ⟨0, 0, 0⟩ (by have := zhy S; have := hI.ok.done; omega) hI.none_
  have hsh' : za3 ⟨(zQ1 s S).1, (zQ1 s S).2.1, ⟨(zQ1 s S).2.2.1, (zQ1 s S).2.2.2.1⟩, (zQ1 s S).2.2.2.2.1, (zQ1 s S).2.2.2.2.2.1, (zQ1 s S).2.2.2.2.2.2.1, (zQ1 s S).2.2.2.2.2.2.2.1, (zQ1 s S).2.2.2.2.2.2.2.2.1, (zQ1 s S).2.2.2.2.2.2.2.2.2.1, ⟨(zQ1 s S).2.2.2.2.2.2.2.2.2.2.1, (zQ1 s S).2.2.2.2.2.2.2.2.2.2.2.1, (zQ1 s S).2.2.2.2.2.2.2.2.2.2.2.2⟩⟩ = _ := hsh
  rw [hsh']
  simp only [Option.bind_some]
  have W := zlQ (zaY s).1 S ⟨0, 0, 0⟩ hT' hI
  have W' : zba zce (0, (zQ2 s S).T, (zQ2 s S).I, (zQ2 s S).P.zSy, (zQ2 s S).P.zTh, (zQ2 s S).zHd, (zQ2 s S).First, (zQ2 s S).To, (zQ2 s S).Left, (zQ2 s S).All, (zQ2 s S).Wait, (zQ2 s S).Bad.Code, (zQ2 s S).Bad.Line, (zQ2 s S).Bad.Col) = _ := W
  rw [W']
  cases hw : zfT S.bs with
  | some g => rfl
  | none => rfl
theorem zhi (s : ByteArray) (hs : s.size <= 50000) : zdm s = some (zgq s) := ziB s (by unfold Sm; omega) (zhZ s hs)
theorem zmG (s : ByteArray) (hs : s.size <= 50000) : zcK s = some (zgq s) := zjo s (by unfold Sm; omega) (zhZ s hs)
end Go.Vs
end
section
namespace Go.Vs
local instance tabPalQ1 : Tab := ⟨fun _ => none⟩
set_option maxRecDepth 100000
theorem zsQ : zgq ⟨#[115, 121, 109, 32, 120, 32, 50, 32, 55, 10, 116, 104, 114, 101, 97, 100, 10, 97, 58, 32, 106, 109, 112, 32, 97]⟩ = (⟨[⟨⟨#[120]⟩, 2, [7]⟩], [⟨[⟨10, false, 0, ⟨0, 0, 0, 0⟩, ⟨0, 0, 0, 0⟩, ⟨#[97]⟩, [⟨#[97]⟩]⟩]⟩]⟩, ⟨0, 0, 0⟩) := by
 rfl
theorem zsP : zgq ⟨#[109, 111, 118, 32, 114, 97, 120, 44, 32, 49]⟩ = (⟨[], []⟩, ⟨4, 1, 1⟩) := by
 rfl
def SyOk (S : PSt) : Prop := ∀ s ∈ S.syms, s.Init.length <= 64
theorem zn5 {T : List zad} {S S' : PSt} (hT : zcu T) (hi : S.at_ < T.length) (hs : SyOk S) (h : zhD T S = .inr S') : SyOk S' := by
 unfold zhD at h
 cases hy : zeL T S with
 | inl g => rw [hy] at h; cases h
 | inr S1 =>
  have h1 : SyOk S1 := by
   unfold zeL at hy
   split at hy
   ·cases hy; exact hs
   split at hy
   ·rename_i h1
    have hk : ((tk T S.at_).Kind == 1) = true := by simp only [Bool.and_eq_true] at h1; exact h1.1
    have hi1 : S.at_ + 1 < T.length := hT.next _ hi (zc4 hk (by decide))
    unfold symP at hy
    split at hy
    ·cases hy
    split at hy
    ·cases hy
    split at hy
    ·cases hy
    rename_i hnp
    have hi2 : S.at_ + 2 < T.length := hT.next (S.at_ + 1) hi1 (by have := zgd hnp; omega)
    split at hy
    ·cases hy
    split at hy
    ·cases hy
    rename_i h2
    have h2' : (tk T (S.at_ + 2)).Kind = 2 := by simpa [bne] using h2
    have hi3 : S.at_ + 3 < T.length := hT.next (S.at_ + 2) hi2 (by show (tk T (S.at_ + 2)).Kind ≠ 4; omega)
    split at hy
    ·cases hy
    rename_i hr
    simp only [Bool.or_eq_true, decide_eq_true_eq, not_or, Int.not_lt, Int.not_gt_eq] at hr
    split at hy
    ·cases hy
    rename_i j l hx
    obtain ⟨a, b, c⟩ := zfI hT (by omega) _ _ _ hi3 (by simp; omega) hx
    cases hy
    intro s hm
    simp only [List.mem_append, List.mem_singleton] at hm
    rcases hm with hm | rfl
    ·exact hs s hm
    ·show l.length <= 64; omega
   split at hy
   ·unfold thrP at hy
    split at hy
    ·cases hy
    cases hy; exact hs
   ·unfold zjV at hy
    split at hy
    ·cases hy
    split at hy
    ·cases hy
    split at hy
    ·cases hy; exact hs
    split at hy
    ·cases hy
    cases hy; exact hs
  rw [hy] at h
  unfold ziJ at h
  simp only at h
  split at h
  ·cases h
  ·cases h; exact h1
theorem zke {T : List zad} (hT : zcu T) : ∀ (n : Nat) (S : PSt) {S' : PSt}, SyOk S -> zem T n S = .inr S' -> SyOk S'
 | 0, S, S', h, e => by simp only [zem, Sum.inr.injEq] at e; subst e; exact h
 | n + 1, S, S', h, e => by
  unfold zem at e
  split at e
  ·rename_i hi
   split at e
   ·cases e
   ·rename_i S1 hx
    exact zke hT n S1 (zn5 hT hi h hx) e
  ·simp only [Sum.inr.injEq] at e; subst e; exact h
structure RdOk (p : zat) : Prop where
 syms : p.zSy.length <= 64
 th : p.zTh.length <= 64
 init : ∀ s ∈ p.zSy, s.Init.length <= 64
 ins : ∀ t ∈ p.zTh, t.Ins.length <= 100000 /\ ∀ x ∈ t.Ins, x.zLb.length <= 100000
theorem zmJ : RdOk nilP := ⟨by simp [nilP], by simp [nilP], fun s h => (by simp [nilP] at h), fun t h => (by simp [nilP] at h)⟩
theorem zmQ (s : ByteArray) (hs : s.size <= 50000) : RdOk (zgq s).1 := by
 unfold zgq
 split
 ·exact zmJ
 rename_i hc
 have hT := zhZ s hs (by simpa [bne] using hc)
 have hl := hT.len
 unfold zlm
 cases hx : zem (zaY s).1 (zaY s).1.length St0 with
 | inl g => exact zmJ
 | inr S =>
  have hI := zgf hT _ _ (inv0 _) hx
  have hy := zke hT _ _ (fun s h => (by simp [St0] at h)) hx
  simp only
  cases hw : zfT S.bs with
  | some f => exact zmJ
  | none =>
   refine ⟨hI.ok.syms, ?_, hy, fun t ht => ?_⟩
   ·have := zhy S; have := hI.ok.done; simp; omega
   ·simp only [List.mem_map] at ht
    obtain ⟨b, hb, rfl⟩ := ht
    have hb' := hI.bd b hb
    have h1 := hb'.zFi
    have h2 := hb'.ins
    refine ⟨by show b.ins.length <= _; omega, fun x hx => by have := hb'.labs x hx; omega⟩
end Go.Vs
end
section
namespace Go.Vs
local instance tabPalQ2 : Tab := ⟨fun _ => none⟩
theorem zkx : zc3 = some true := by
 unfold zc3
 rw [zhi ⟨#[115, 121, 109, 32, 120, 32, 50, 32, 55, 10, 116, 104, 114, 101, 97, 100, 10, 97, 58, 32, 106, 109, 112, 32, 97]⟩ (show (25 : Nat) <= 50000 by decide), zhi ⟨#[109, 111, 118, 32, 114, 97, 120, 44, 32, 49]⟩ (show (10 : Nat) <= 50000 by decide), zsQ, zsP]
 simp only [Option.bind_some]
 rw [if_pos (fun _ => ⟨by decide, by decide⟩)]
 rfl
theorem zjP (s : ByteArray) (hs : s.size <= 50000) : zc2 s = some true := by
 have ok := zmQ s hs
 unfold zc2
 rw [zhi s hs, zmG s hs]
 simp only [Option.bind_some, beq_self_eq_true, Bool.and_self, if_true, Bool.true_and]
 rw [zkG _ _ (by have := ok.syms; omega) (by have := ok.th; omega) (fun s h => by have := ok.init s h; omega) (fun t h => ⟨by have := (ok.ins t h).1; omega, fun x hx => by have := (ok.ins t h).2 x hx; omega⟩)]
 simp
theorem ziA (s : ByteArray) : zcG s = some true := by
 obtain ⟨t, ht, hs⟩ := zlI s (n := 600) (by decide)
 unfold zcG
 rw [ht]
 simp only [Option.bind_some]
 rw [zjP t (by omega)]
 simp only [Option.bind_some, if_true, zkx]
 rfl
end Go.Vs
end
