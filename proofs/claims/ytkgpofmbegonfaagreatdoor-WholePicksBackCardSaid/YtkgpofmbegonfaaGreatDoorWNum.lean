import Derived.Test.YtkgpofmbegonfaaGreatDoorVFacts
import Derived.Test.YtkgpofmbegonfaaGreatDoorShelf
import Derived.Test.YtkgpofmbegonfaaGreatDoorPalNum
import Derived.WalkKit
import Derived.Lib.AppendIntMem
set_option linter.all false
set_option maxRecDepth 100000
namespace Go.Proofs.YtkgpofmbegonfaaGreatDoor
open Go.Vs Go.RowKit
class TabP extends Tab where
 p10:tab 3=some (Go.Lib.pow10Tab.map fun z=>AV.int .u64 z)
class TabE extends TabP where
 esyn:∃t,tab 1=some [.iface t .undef]
 erng:∃t,tab 2=some [.iface t .undef]
theorem zo0{I w ι}{x y:AV}{vs:Array Value}(h:VRs I w ι [x,y] vs):∃a b,vs=#[a,b]/\VR I w ι x a/\VR I w ι y b:=by
 obtain ⟨hs,hv⟩:=h
 obtain ⟨l⟩:=vs
 match l,hs with
 | [a,b],_=>exact ⟨a,b,rfl,hv 0 x a rfl rfl,hv 1 y b rfl rfl⟩
theorem zkp{I w ι}{x:AV}{vs:Array Value}(h:VRs I w ι [x] vs):∃a,vs=#[a]/\VR I w ι x a:=by
 obtain ⟨hs,hv⟩:=h
 obtain ⟨l⟩:=vs
 match l,hs with
 | [a],_=>exact ⟨a,rfl,hv 0 x a rfl rfl⟩
theorem zyW[TabP]{I w}(ht:TT I w):Lib.TabIs Tryz.prog w "internal/strconv.uint64pow10" .u64 Lib.pow10Tab:=by
 obtain ⟨_,⟨arr,ty,z,hb,hsz⟩,hc⟩:=ht 3 _ TabP.p10
 have hg:Tryz.prog.globalNamed "internal/strconv.uint64pow10"=some 3:=by kernel_rfl
 unfold Lib.TabIs World.var?
 rw [hg]
 simp only [Option.bind_some,hb]
 refine congrArg some (Array.ext ?_ fun i h1 h2=>?_)
 ·simp [hsz]
 ·have hi:i<Lib.pow10Tab.length:=by simpa [hsz] using h1
  obtain ⟨y,hy,hv⟩:=hc i (.int .u64 (Lib.pow10Tab[i]'hi)) (by simp [hi])
  have e:arr[i]?=some y:=by simpa [World.cell?,hb] using hy
  have e2:=(Array.getElem?_eq_some_iff.1 e).2
  rw [e2,hv.int_inv]
  simp
theorem zps[Tab]{I w}(ht:TT I w){g:Nat}(h:∃t,Tab.tab g=some [.iface t .undef]):∃t p,w.cell? ⟨g,0,none⟩=some (.iface t p):=by
 obtain ⟨t,h⟩:=h
 obtain ⟨_,_,hc⟩:=ht g _ h
 obtain ⟨y,hy,hv⟩:=hc 0 _ rfl
 cases hv
 exact ⟨_,_,hy⟩
theorem zfk[TabP]{I w}(hI:∀c,I c->c<w.heap.size)(ht:TT I w)(p0:Int)(h:I64 p0) :
  Calls Tryz.prog 16 #[.int .i64 p0] w fun e w'=>e=.returned (.string (zcV p0))/\Below w.heap.size w w':=by
 go_enter Tryz.func16,Tryz.ntmps16
 go_wp2_with (go_at_call 23; refine (Tryz.strconv_FormatInt_10 p0 h.1 h.2 _ (zyW ht)).mono ?_; rintro e w' ⟨rfl,k,os,rfl⟩)
 go_ret
 exact ⟨rfl,Lib.below_grow _ _ (Nat.le_refl _) _ _⟩
theorem zhg[TabP]{p0:Int}{r:ByteArray}(hm:zfS p0=some r):zaO Tryz.prog 16 [.int .i64 p0] (.str r):=by
 rw [zfS] at hm
 split at hm
 ·rename_i h
  obtain rfl:=Option.some.inj hm
  intro I w vs hI ht hvs
  obtain ⟨a,rfl,ha⟩:=zkp hvs
  obtain rfl:=ha.int_inv
  refine (zfk hI ht p0 h).mono ?_
  rintro e w' ⟨rfl,hbl⟩
  exact ⟨_,I,rfl,hbl,fun c h=>h,fun c h=>Nat.lt_of_lt_of_le (hI c h) hbl.size,fun c h=>.inl h,.str _⟩
 ·cases hm
theorem zhK[TabE]{I w}(hI:∀c,I c->c<w.heap.size)(ht:TT I w)(s:ByteArray)(h:s.size<=281474976710656) :
  Calls Tryz.prog 14 #[.string s] w fun e w'=>e=.returned (.tuple #[.int .i64 (zcC s).1,.bool (zcC s).2])/\Below w.heap.size w w':=by
 cases hp:Lib.parseIntB 64 s.data.toList with
 | ok v =>
  have hb:=Lib.parseIntB_bounds hp
  have e63:(2:Nat) ^ (64-1)=9223372036854775808:=by decide
  rw [e63] at hb
  have hi:I64 v:=⟨by omega,by omega⟩
  go_enter Tryz.func14,Tryz.ntmps14
  go_wp2_with (go_at_call 22; refine (Tryz.strconv_ParseInt_10_at64_ok s (by omega) v hp w).mono ?_; rintro e w1 ⟨rfl,hw1⟩)
  have hb1:Below w.heap.size w w1:=by
   rcases hw1 with rfl | ⟨t,rfl⟩
   ·exact Below.refl _ _
   ·exact Lib.bytesWorld_below _ _ _
  have ht1:TT I w1:=ht.mono (fun _ h=>h) (fun c hc=>hb1.block c (hI c hc))
  have hI1:∀c,I c->c<w1.heap.size:=fun c hc=>Nat.lt_of_lt_of_le (hI c hc) hb1.size
  go_wp2_with (go_at_call 16; refine (zfk hI1 ht1 v hi).mono ?_; rintro e w2 ⟨rfl,hw2⟩)
  all_goals
   go_ret2
   rename_i hq
   rw [zo3] at hq
   rw [zod hp]
   refine ⟨?_,hb1.trans (hw2.mono hb1.size)⟩
  ·rw [if_neg (by simpa using hq)]; rfl
  ·rw [if_pos (by simpa using hq)]; rfl
 | «syntax» =>
  obtain ⟨te,pe,hev⟩:=zps ht TabE.esyn
  rw [zkl (fun v=>by rw [hp]; simp)]
  go_enter Tryz.func14,Tryz.ntmps14
  go_wp2_with (go_at_call 22; refine (Tryz.strconv_ParseInt_10_at64_syntax s h hp _ w hev (.inr ⟨_,_,rfl⟩)).mono ?_; rintro e w1 ⟨N,rfl,hN,hc,hb1⟩)
  go_ret2
  exact ⟨rfl,hb1⟩
 | range =>
  obtain ⟨te,pe,hev⟩:=zps ht TabE.erng
  rw [zkl (fun v=>by rw [hp]; simp)]
  go_enter Tryz.func14,Tryz.ntmps14
  go_wp2_with (go_at_call 22; refine (Tryz.strconv_ParseInt_10_at64_range s h hp _ w hev (.inr ⟨_,_,rfl⟩)).mono ?_; rintro e w1 ⟨N,rfl,hN,hc,hb1⟩)
  go_ret2
  exact ⟨rfl,hb1⟩
theorem zcx[TabE]{p0:ByteArray}{r:Int × Bool}(hm:zcH p0=some r):zaO Tryz.prog 14 [.str p0] (.tuple [.int .i64 r.1,.bool r.2]):=by
 rw [zcH] at hm
 split at hm
 ·rename_i h
  obtain rfl:=Option.some.inj hm
  intro I w vs hI ht hvs
  obtain ⟨a,rfl,ha⟩:=zkp hvs
  obtain rfl:=ha.str_inv
  refine (zhK hI ht p0 h).mono ?_
  rintro e w' ⟨rfl,hbl⟩
  refine ⟨_,I,rfl,hbl,fun c h=>h,fun c h=>Nat.lt_of_lt_of_le (hI c h) hbl.size,fun c h=>.inl h,?_⟩
  refine .tuple rfl fun j x y hx hy=>?_
  match j,hx,hy with
  | 0,hx,hy =>
   obtain rfl:=Option.some.inj hx
   obtain rfl:=Option.some.inj ((show some _=some _ from hy))
   exact .int _ _
  | 1,hx,hy =>
   obtain rfl:=Option.some.inj hx
   obtain rfl:=Option.some.inj ((show some _=some _ from hy))
   exact .bool _
 ·cases hm
end Go.Proofs.YtkgpofmbegonfaaGreatDoor
