import Derived.Test.YtkgpofmbegonfaaGreatDoorWNum
import Derived.Test.YtkgpofmbegonfaaGreatDoorPalUtf
set_option linter.all false
set_option maxRecDepth 100000
namespace Go.Proofs.YtkgpofmbegonfaaGreatDoor
open Go.Vs Go.RowKit
class TabU extends TabP where
 first:tab 4=some ((List.range 256).map fun c=>AV.int .u8 (Lib.firstT c))
 acc:tab 5=some ((List.range 32).map fun j=>AV.int .u8 (if j % 2=0 then Lib.accLo (j / 2) else Lib.accHi (j / 2)))
theorem znY[TabU]{I w}(ht:TT I w):Lib.Utf8Tabs 4 5 w:=by
 obtain ⟨_,_,h0⟩:=ht 4 _ TabU.first
 obtain ⟨_,_,h1⟩:=ht 5 _ TabU.acc
 refine ⟨fun c hc=>?_,fun i hi=>⟨?_,?_⟩⟩
 ·obtain ⟨y,hy,hv⟩:=h0 c _ (by rw [List.getElem?_map,List.getElem?_range hc]; rfl)
  rw [hy,hv.int_inv]
 ·obtain ⟨y,hy,hv⟩:=h1 (2 * i) _ (by rw [List.getElem?_map,List.getElem?_range (by omega)]; rfl)
  rw [hy,hv.int_inv,if_pos (by omega)]
  congr 4; omega
 ·obtain ⟨y,hy,hv⟩:=h1 (2 * i+1) _ (by rw [List.getElem?_map,List.getElem?_range (by omega)]; rfl)
  rw [hy,hv.int_inv,if_neg (by omega)]
  congr 4; omega
theorem zes[Tab]{p0 r:Int}(hm:zcO p0=some r):zaO Tryz.prog 163 [.int .i32 p0] (.int .i64 r):=by
 obtain rfl:=Option.some.inj hm
 intro I w vs hI ht hvs
 obtain ⟨a,rfl,ha⟩:=zkp hvs
 obtain rfl:=ha.int_inv
 refine (Tryz.utf8_RuneLen p0 w).mono ?_
 rintro e w' ⟨rfl,rfl⟩
 exact ⟨_,I,rfl,Below.refl _ _,fun c h=>h,hI,fun c h=>.inl h,.int _ _⟩
theorem zc5[TabU]{p0:ByteArray}{r:Int × Int}(hm:zbE p0=some r):zaO Tryz.prog 85 [.str p0] (.tuple [.int .i32 r.1,.int .i64 r.2]):=by
 obtain rfl:=Option.some.inj hm
 intro I w vs hI ht hvs
 obtain ⟨a,rfl,ha⟩:=zkp hvs
 obtain rfl:=ha.str_inv
 refine (Tryz.utf8_DecodeRuneInString p0 w (znY ht)).mono ?_
 rintro e w' ⟨rfl,hbl⟩
 refine ⟨_,I,rfl,hbl,fun c h=>h,fun c h=>Nat.lt_of_lt_of_le (hI c h) hbl.size,fun c h=>.inl h,?_⟩
 refine .tuple rfl fun j x y hx hy=>?_
 match j,hx,hy with
 | 0,hx,hy =>
  obtain rfl:=Option.some.inj hx
  obtain rfl:=Option.some.inj ((show some _=some _ from hy))
  exact .int _ _
 | 1,hx,hy =>
  obtain rfl:=Option.some.inj hx
  obtain rfl:=Option.some.inj ((show some _=some _ from hy))
  exact .int _ _
end Go.Proofs.YtkgpofmbegonfaaGreatDoor
