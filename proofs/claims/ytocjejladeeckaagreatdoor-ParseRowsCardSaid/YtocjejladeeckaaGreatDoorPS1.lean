import Derived.Test.YtocjejladeeckaaGreatDoorPalT
import Derived.Test.YtocjejladeeckaaGreatDoorPS0
import Derived.Test.YtocjejladeeckaaGreatDoorPalNum
import Derived.Test.YtocjejladeeckaaGreatDoorPalF
set_option linter.all false
section
end
section
namespace Go.Vs
end Go.Vs
end
section
namespace Go.Vs
open Go.Lib
local instance tabPalShow7 : Tab := ⟨fun _ => none⟩
theorem zl7 {α β σ R : Type} (l : List α) (mk : Int -> β -> σ) (step : σ -> Option (σ ⊕ R)) (g : β -> α -> β) (fin : β -> R) (sz : β -> Nat) (B C : Nat) (a0 : β) (h0 : sz a0 <= B) (hg : ∀ a x, x ∈ l -> sz (g a x) <= sz a + C)
  (h1 : ∀ (i : Nat) x, l[i]? = some x -> ∀ a, sz a <= B + i * C -> step (mk (i : Int) a) = some (.inl (mk ((i : Int) + 1) (g a x)))) (h2 : ∀ a, step (mk (l.length : Int) a) = some (.inr (fin a))) :
  za4 step (mk 0 a0) = some (fin (l.foldl g a0)) := by
 have := zd5 l mk step (fun _ a x => .inl (g a x)) fin (fun i a => sz a <= B + i * C) (fun i x hx a ha => ⟨h1 i x hx a ha, fun a' e => by
  obtain rfl := Sum.inl.inj e
  have := hg a x (List.mem_of_getElem? hx)
  rw [Nat.add_mul]; omega⟩) (fun a _ => h2 a) a0 (by omega)
 rw [this]
 congr 1
 generalize (0 : Nat) = k
 clear this h0 h1 h2 hg
 induction l generalizing a0 k with
 | nil => rfl
 | cons x l ih => exact ih _ _
def znZ (p : zaq) : List ByteArray := p.zSy.map (·.Name)
section sizes
theorem z1 : (⟨#[32]⟩ : ByteArray).size = 1 := rfl
theorem z2 : (⟨#[10]⟩ : ByteArray).size = 1 := rfl
theorem z3 : (⟨#[115, 121, 109, 32]⟩ : ByteArray).size = 4 := rfl
theorem z4 : (⟨#[58, 10]⟩ : ByteArray).size = 2 := rfl
theorem z5 : (⟨#[9]⟩ : ByteArray).size = 1 := rfl
theorem z9 : (⟨#[93]⟩ : ByteArray).size = 1 := rfl
def zqP (syms : List ByteArray) : Prop := ∀ s ∈ syms, s.size <= 1000
theorem zqP.syms {syms} (h : zqP syms) : zSy syms := fun s hs => by have := h s hs; omega
end sizes
theorem catB {a b : ByteArray} (h : a.size + b.size <= 5000000000) : ziH a b := by unfold ziH; omega
end Go.Vs
end
section
namespace Go.Vs
open Go.Lib
local instance tabPalShow8 : Tab := ⟨fun _ => none⟩
theorem zih (p : zaq) (hn : p.zSy.length <= 1000000) : zeF p = some (znZ p) := by
 unfold zeF
 have := zl7 p.zSy (fun i (b : List ByteArray) => (i, b)) (zcF p) (fun b s => b ++ [s.Name]) id (·.length) 0 1 [] (by simp) (fun b s hs => by simp) (fun j s hs b hb => ?_) (fun b => ?_)
 ·rw [this]
  simp only [Option.bind_some, id]
  have key : ∀ (l : List zan) (L : List ByteArray), l.foldl (fun b s => b ++ [s.Name]) L = L ++ l.map (·.Name) := by
   intro l
   induction l with
   | nil => intro L; simp
   | cons s l ih => intro L; simp only [List.foldl_cons]; rw [ih]; simp
  rw [key]; rfl
 ·have hj : j < 1000000 := by have := (List.getElem?_eq_some_iff.1 hs).1; omega
  simp only [zcF]
  rw [if_pos (zhl hs), if_pos (zcR hs), zdG hs, wi (by omega), if_pos (show Fits (b.length + 1) from by unfold Fits; omega)]
  rfl
 ·simp only [zcF]
  rw [if_neg (by simp)]; rfl
end Go.Vs
end
section
namespace Go.Vs
end Go.Vs
end
section
namespace Go.Vs
def Wi (k : IntKind) (n : Int) : Prop := k.min <= n /\ n <= k.max
theorem Wi.i64 {n : Int} (h : Wi .i64 n) : I64 n := h
end Go.Vs
end
section
namespace Go.Vs
open Go.Lib
local instance tabPalShow9 : Tab := ⟨fun _ => none⟩
end Go.Vs
end
section
namespace Go.Vs
end Go.Vs
end
section
namespace Go.Vs
open Go.Lib
local instance tabPalShowA : Tab := ⟨fun _ => none⟩
structure zhv (y : zaj) : Prop where
 a : I64 y.A.N
 b : I64 y.B.N
 to : y.To.size <= 3
 lab : y.zLb = []
theorem zhv.ok {y : zaj} (h : zhv y) : zqR y := ⟨by have := h.to; unfold Sm; omega, h.a, h.b⟩
theorem zhv.lb {y : zaj} (h : zhv y) : zqQ y := ⟨h.ok, by rw [h.lab]; decide, by have := h.to; omega, by rw [h.lab]; intro s hs; cases hs⟩
end Go.Vs
end
section
namespace Go.Vs
open Go.Lib
local instance tabPalShowB : Tab := ⟨fun _ => none⟩
structure zpO (y : zaj) : Prop where
 a : I64 y.A.N
 b : I64 y.B.N
 to : y.To.size <= 3
 n : y.zLb.length <= 1
 lab : ∀ s ∈ y.zLb, s.size <= 3
theorem zhv.l {y : zaj} (h : zhv y) : zpO y := ⟨h.a, h.b, h.to, by rw [h.lab]; decide, by rw [h.lab]; intro s hs; cases hs⟩
theorem zpO.ok {y : zaj} (h : zpO y) : zqQ y := ⟨⟨by have := h.to; unfold Sm; omega, h.a, h.b⟩, by have := h.n; omega, by have := h.to; omega, fun s hs => by have := h.lab s hs; omega⟩
end Go.Vs
end
section
namespace Go.Vs
open Go.Lib
local instance tabPalShowC : Tab := ⟨fun _ => none⟩
end Go.Vs
end
section
namespace Go.Vs
open Go.Lib
local instance tabPalShowD : Tab := ⟨fun _ => none⟩
end Go.Vs
end
section
namespace Go.Vs
open Go.Lib
local instance tabPalShowE : Tab := ⟨fun _ => none⟩
end Go.Vs
end
section
namespace Go.Vs
open Go.Lib
local instance tabPalShowF : Tab := ⟨fun _ => none⟩
end Go.Vs
end
