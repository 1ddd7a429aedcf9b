import Derived.Test.YtgdchoahbiagbaaDoorVFacts
import Derived.Test.YtgdchoahbiagbaaDoorShelf
import Derived.Test.YtgdchoahbiagbaaDoorPalNum
import Derived.WalkKit
import Derived.Lib.AppendIntMem
/-! The program's reading and writing of numbers, over the library's. -/
set_option maxRecDepth 100000
set_option linter.unusedVariables false
set_option linter.unusedSimpArgs false
set_option linter.unusedSectionVars false
namespace Go.Proofs.YtgdchoahbiagbaaDoor
open Go.Vs Go.RowKit
class TabP extends Tab where
  p10:tab 4=some (Go.Lib.pow10Tab.map fun z=>AV.int .u64 z)
class TabE extends TabP where
  esyn:∃t,tab 2=some [.iface t .undef]
  erng:∃t,tab 3=some [.iface t .undef]
theorem one_of{I w ι}{x:AV}{vs:Array Value}(h:VRs I w ι [x] vs):∃a,vs=#[a] ∧ VR I w ι x a:=by
  obtain ⟨hs,hv⟩:=h
  obtain ⟨l⟩:=vs
  match l,hs with
  | [a],_=>exact ⟨a,rfl,hv 0 x a rfl rfl⟩
theorem tabIs[TabP]{I w}(ht:TT I w):Lib.TabIs Tryd.prog w "internal/strconv.uint64pow10" .u64 Lib.pow10Tab:=by
  obtain ⟨_,⟨arr,ty,z,hb,hsz⟩,hc⟩:=ht 4 _ TabP.p10
  have hg:Tryd.prog.globalNamed "internal/strconv.uint64pow10"=some 4:=by kernel_rfl
  unfold Lib.TabIs World.var?
  rw [hg]
  simp only [Option.bind_some,hb]
  refine congrArg some (Array.ext ?_ fun i h1 h2=>?_)
  · simp [hsz]
  · have hi:i<Lib.pow10Tab.length:=by simpa [hsz] using h1
    obtain ⟨y,hy,hv⟩:=hc i (.int .u64 (Lib.pow10Tab[i]'hi)) (by simp [hi])
    have e:arr[i]?=some y:=by simpa [World.cell?,hb] using hy
    have e2:=(Array.getElem?_eq_some_iff.1 e).2
    rw [e2,hv.int_inv]
    simp
theorem errVar[Tab]{I w}(ht:TT I w){g:Nat}(h:∃t,Tab.tab g=some [.iface t .undef]):∃t p,w.cell? ⟨g,0,none⟩=some (.iface t p):=by
  obtain ⟨t,h⟩:=h
  obtain ⟨_,_,hc⟩:=ht g _ h
  obtain ⟨y,hy,hv⟩:=hc 0 _ rfl
  cases hv
  exact ⟨_,_,hy⟩
theorem num_Text_calls[TabP]{I w}(hI:∀c,I c → c<w.heap.size)(ht:TT I w)(p0:Int)(h:I64 p0) :
    Calls Tryd.prog 57 #[.int .i64 p0] w fun e w'=>e=.returned (.string (itoaB p0)) ∧ Below w.heap.size w w':=by
  go_enter Tryd.func57,Tryd.ntmps57
  go_wp2_with (go_at_call 63; refine (Tryd.strconv_FormatInt_10 p0 h.1 h.2 _ (tabIs ht)).mono ?_; rintro e w' ⟨rfl,k,os,rfl⟩)
  go_ret
  exact ⟨rfl,Lib.below_grow _ _ (Nat.le_refl _) _ _⟩
theorem num_Read_calls[TabE]{I w}(hI:∀c,I c → c<w.heap.size)(ht:TT I w)(s:ByteArray)(h:s.size ≤ 281474976710656) :
    Calls Tryd.prog 44 #[.string s] w fun e w'=>e=.returned (.tuple #[.int .i64 (readS s).1,.bool (readS s).2]) ∧ Below w.heap.size w w':=by
  cases hp:Lib.parseIntB 64 s.data.toList with
  | ok v =>
    have hb:=Lib.parseIntB_bounds hp
    have e63:(2:Nat) ^ (64-1)=9223372036854775808:=by decide
    rw [e63] at hb
    have hi:I64 v:=⟨by omega,by omega⟩
    go_enter Tryd.func44,Tryd.ntmps44
    go_wp2_with (go_at_call 56; refine (Tryd.strconv_ParseInt_10_at64_ok s (by omega) v hp w).mono ?_; rintro e w1 ⟨rfl,hw1⟩)
    have hb1:Below w.heap.size w w1:=by
      rcases hw1 with rfl | ⟨t,rfl⟩
      · exact Below.refl _ _
      · exact Lib.bytesWorld_below _ _ _
    have ht1:TT I w1:=ht.mono (fun _ h=>h) (fun c hc=>hb1.block c (hI c hc))
    have hI1:∀c,I c → c<w1.heap.size:=fun c hc=>Nat.lt_of_lt_of_le (hI c hc) hb1.size
    go_wp2_with (go_at_call 57; refine (num_Text_calls hI1 ht1 v hi).mono ?_; rintro e w2 ⟨rfl,hw2⟩)
    all_goals
      go_ret2
      rename_i hq
      rw [str_eq] at hq
      rw [readS_ok hp]
      refine ⟨?_,hb1.trans (hw2.mono hb1.size)⟩
    · rw [if_neg (by simpa using hq)]; rfl
    · rw [if_pos (by simpa using hq)]; rfl
  | «syntax» =>
    obtain ⟨te,pe,hev⟩:=errVar ht TabE.esyn
    rw [readS_no (fun v=>by rw [hp]; simp)]
    go_enter Tryd.func44,Tryd.ntmps44
    go_wp2_with (go_at_call 56; refine (Tryd.strconv_ParseInt_10_at64_syntax s h hp _ w hev (.inr ⟨_,_,rfl⟩)).mono ?_; rintro e w1 ⟨N,rfl,hN,hc,hb1⟩)
    go_ret2
    exact ⟨rfl,hb1⟩
  | range =>
    obtain ⟨te,pe,hev⟩:=errVar ht TabE.erng
    rw [readS_no (fun v=>by rw [hp]; simp)]
    go_enter Tryd.func44,Tryd.ntmps44
    go_wp2_with (go_at_call 56; refine (Tryd.strconv_ParseInt_10_at64_range s h hp _ w hev (.inr ⟨_,_,rfl⟩)).mono ?_; rintro e w1 ⟨N,rfl,hN,hc,hb1⟩)
    go_ret2
    exact ⟨rfl,hb1⟩
theorem num_Read_ok[TabE]{p0:ByteArray}{r:Int × Bool}(hm:num_Read p0=some r):PureF Tryd.prog 44 [.str p0] (.tuple [.int .i64 r.1,.bool r.2]):=by
  rw [num_Read] at hm
  split at hm
  · rename_i h
    obtain rfl:=Option.some.inj hm
    intro I w vs hI ht hvs
    obtain ⟨a,rfl,ha⟩:=one_of hvs
    obtain rfl:=ha.str_inv
    refine (num_Read_calls hI ht p0 h).mono ?_
    rintro e w' ⟨rfl,hbl⟩
    refine ⟨_,I,rfl,hbl,fun c h=>h,fun c h=>Nat.lt_of_lt_of_le (hI c h) hbl.size,fun c h=>.inl h,?_⟩
    refine .tuple rfl fun j x y hx hy=>?_
    match j,hx,hy with
    | 0,hx,hy =>
      obtain rfl:=Option.some.inj hx
      obtain rfl:=Option.some.inj ((show some _=some _ from hy))
      exact .int _ _
    | 1,hx,hy =>
      obtain rfl:=Option.some.inj hx
      obtain rfl:=Option.some.inj ((show some _=some _ from hy))
      exact .bool _
  · cases hm
end Go.Proofs.YtgdchoahbiagbaaDoor
