import Derived.Test.YtkgpofmbegonfaaGreatDoorWX
import Derived.Test.YtkgpofmbegonfaaGreatDoorShelf
import Derived.Test.YtkgpofmbegonfaaGreatDoorPalStr
set_option linter.all false
set_option maxRecDepth 100000
namespace Go.Proofs.YtkgpofmbegonfaaGreatDoor
open Go.Vs Go.RowKit
class TabS extends TabX where
 maxl:∃m:Int,tab 0=some [.int .i64 m]
theorem zg3(s:ByteArray):Lib.splitB ⟨#[32]⟩ 0 (Lib.countB s ⟨#[32]⟩) s=(zcd s.data.toList).map bs:=by
 have h:=Lib.splitB_data ⟨#[32]⟩ 0 (Lib.countB s ⟨#[32]⟩) s
 have h2:(Lib.splitB ⟨#[32]⟩ 0 (Lib.countB s ⟨#[32]⟩) s).map (·.data.toList)=zcd s.data.toList:=by
  rw [h]
  exact zgq s.data.toList
 rw [← h2,List.map_map]
 have:(fun b:ByteArray=>bs b.data.toList)=id:=by funext b; exact zsd b
 show _=(Lib.splitB ⟨#[32]⟩ 0 (Lib.countB s ⟨#[32]⟩) s).map (fun b:ByteArray=>bs b.data.toList)
 rw [this,List.map_id]
theorem zgA[TabS]{p0 p1:ByteArray}{r:List ByteArray}(hm:strings_Split p0 p1=some r):zaO Tryz.prog 12 [.str p0,.str p1] (.sl (r.map eStr)):=by
 unfold strings_Split at hm
 split at hm
 ·rename_i hc
  obtain ⟨rfl,hsz⟩:=hc
  obtain rfl:=Option.some.inj hm
  intro I w vs hI ht hvs
  obtain ⟨a,b,rfl,ha,hb⟩:=zo0 hvs
  obtain rfl:=ha.str_inv
  obtain rfl:=hb.str_inv
  obtain ⟨m,hm⟩:=TabS.maxl
  obtain ⟨_,_,h0⟩:=ht 0 _ hm
  obtain ⟨y,hy,hv⟩:=h0 0 _ rfl
  rw [hv.int_inv] at hy
  refine (Tryz.strings_Split p0 ⟨#[32]⟩ m w (by omega) hy (by decide)).mono ?_
  rintro e w' ⟨rfl,rfl⟩
  rw [zg3]
  have hl:Lib.countB p0 ⟨#[32]⟩+1=((zcd p0.data.toList).map bs).length:=by
   rw [← zg3]
   exact (Lib.splitB_all ⟨#[32]⟩ (by decide) 0 _ p0 rfl).symm
  rw [hl]
  generalize (zcd p0.data.toList).map bs=l
  refine ⟨_,fun c=>I c\/c=w.heap.size,rfl,(Below.refl _ _).alloc (Nat.le_refl _) _,fun c h=>.inl h,fun c h=>?_,fun c h=>h.imp id fun e=>by omega,?_⟩
  ·rcases h with h | h
   ·have:=hI c h; simp; omega
   ·subst h; simp
  ·have hcl:∀(i:Nat) s,l[i]?=some s->(w.alloc (.cells (l.map Value.string).toArray 9)).cell? ⟨w.heap.size,0+(i * 1+0),none⟩=some (.string s):=fun i s hs=>by
    have hnew:(w.alloc (.cells (l.map Value.string).toArray 9)).heap[w.heap.size]?=some (.cells (l.map Value.string).toArray 9):=zbN w _
    simp only [World.cell?,hnew,Nat.mul_one,Nat.add_zero,Nat.zero_add]
    rw [List.getElem?_toArray,List.getElem?_map,hs]; rfl
   have hnew:(w.alloc (.cells (l.map Value.string).toArray 9)).heap[w.heap.size]?=some (.cells (l.map Value.string).toArray 9):=zbN w _
   refine .sl 1 w.heap.size 0 l.length (.inr rfl) (by simp) (Nat.le_refl _) (fun i r hi=>?_) (fun i r j x hi hj=>?_) (fun i r j x y hi hj hy=>?_)
   ·rw [List.getElem?_map,Option.map_eq_some_iff] at hi
    obtain ⟨s,_,rfl⟩:=hi; rfl
   ·rw [List.getElem?_map,Option.map_eq_some_iff] at hi
    obtain ⟨s,hs,rfl⟩:=hi
    have hj0:j=0:=by have:=(List.getElem?_eq_some_iff.1 hj).1; simp [eStr] at this; omega
    subst hj0
    exact ⟨.string s,hcl i s hs⟩
   ·rw [List.getElem?_map,Option.map_eq_some_iff] at hi
    obtain ⟨s,hs,rfl⟩:=hi
    have hj0:j=0:=by have:=(List.getElem?_eq_some_iff.1 hj).1; simp [eStr] at this; omega
    subst hj0
    obtain rfl:AV.str s=x:=by simpa [eStr] using hj
    rw [hcl i s hs] at hy
    obtain rfl:=Option.some.inj hy
    exact .str _
 ·cases hm
theorem zfb[Tab]{p0 p1:ByteArray}{r:ByteArray × Bool}(hm:strings_CutSuffix p0 p1=some r):zaO Tryz.prog 13 [.str p0,.str p1] (.tuple [.str r.1,.bool r.2]):=by
 unfold strings_CutSuffix at hm
 split at hm
 ·rename_i hc
  obtain ⟨rfl,hsz⟩:=hc
  obtain rfl:=Option.some.inj hm
  intro I w vs hI ht hvs
  obtain ⟨a,b,rfl,ha,hb⟩:=zo0 hvs
  obtain rfl:=ha.str_inv
  obtain rfl:=hb.str_inv
  refine (Tryz.strings_CutSuffix p0 ⟨#[102]⟩ w (by omega)).mono ?_
  rintro e w' ⟨rfl,rfl⟩
  refine ⟨_,I,rfl,Below.refl _ _,fun c h=>h,hI,fun c h=>.inl h,.tuple rfl fun j x y hx hy=>?_⟩
  match j,hx,hy with
  | 0,hx,hy =>
   obtain rfl:=Option.some.inj hx
   obtain rfl:=Option.some.inj ((show some _=some _ from hy))
   exact .str _
  | 1,hx,hy =>
   obtain rfl:=Option.some.inj hx
   obtain rfl:=Option.some.inj ((show some _=some _ from hy))
   exact .bool _
 ·cases hm
end Go.Proofs.YtkgpofmbegonfaaGreatDoor
