import Derived.Test.YtkgpofmbegonfaaGreatDoorWStr
import Derived.Lib.LaidU8
import Derived.PinnedBridge
import Derived.Test.YtkgpofmbegonfaaGreatDoorRows
import Derived.Test.YtkgpofmbegonfaaGreatDoorVu4
import Derived.ProofKit
import Derived.LaidMore
import Derived.Lay
import Derived.OpenShut
import Derived.Stop.Joined
import Derived.Stop.LaidErr
import Derived.Lib.LaidTab
set_option linter.all false
set_option maxRecDepth 100000
namespace Go.Proofs.YtkgpofmbegonfaaGreatDoor
open Go.ChangeShapes Go.WideShapes Go.ChangeAt Go.RowKit Go.Vs
@[instance_reducible] def zrd(m:Int):TabS where
 maxl:=⟨m,rfl⟩
 tab g:=if g=4 then some ((List.range 256).map fun c=>AV.int .u8 (Lib.firstT c)) else if g=5 then some ((List.range 32).map fun j=>AV.int .u8 (if j % 2=0 then Lib.accLo (j / 2) else Lib.accHi (j / 2)))
  else if g=3 then some (Go.Lib.pow10Tab.map fun z=>AV.int .u64 z) else if g=1 then some [.iface 313 .undef] else if g=2 then some [.iface 313 .undef] else if g=0 then some [.int .i64 m] else none
 p10:=rfl
 esyn:=⟨313,rfl⟩
 erng:=⟨313,rfl⟩
 first:=rfl
 acc:=rfl
abbrev zgo:List (String × DataW Unit):=[("math/bits.deBruijn32tab",Rows.laid_math_bits_deBruijn32tab),("math/bits.deBruijn64tab",Rows.laid_math_bits_deBruijn64tab),("internal/strconv.uint64pow10",Rows.laid_internal_strconv_uint64pow10),("unicode/utf8.acceptRanges",Rows.laid_unicode_utf8_acceptRanges),("strconv.ErrRange",Rows.laid_strconv_ErrRange),("strconv.ErrSyntax",Rows.laid_strconv_ErrSyntax),("unicode/utf8.first",Rows.laid_unicode_utf8_first)]
theorem zl7{n:String}{g:Nat}{W:World}{arr:Array Value}(hg:Tryz.prog.globalNamed n=some g)(h:W.var? Tryz.prog n=some arr):g<W.heap.size/\(∃ty z,W.heap[g]?=some (.cells arr ty z)):=by
 unfold World.var? at h
 rw [hg] at h
 simp only [Option.bind_some] at h
 have hlt:g<W.heap.size:=by
  rcases Nat.lt_or_ge g W.heap.size with h' | h'
  ·exact h'
  ·simp [Array.getElem?_eq_none h'] at h
 refine ⟨hlt,?_⟩
 split at h
 ·rename_i cs ty z hc
  obtain rfl:=Option.some.inj h
  exact ⟨ty,z,hc⟩
 ·cases h
theorem zgX{n:String}{g:Nat}{W:World}{arr:Array Value}{cs:List AV}(hg:Tryz.prog.globalNamed n=some g)(h:W.var? Tryz.prog n=some arr)(hl:arr.size=cs.length)
  (hv:∀(j:Nat) x,cs[j]?=some x->∃y,arr[j]?=some y/\VR (fun c=>c<W.heap.size) W Io.nil x y) :
  g<W.heap.size/\(∃arr ty z,W.heap[g]?=some (.cells arr ty z)/\arr.size=cs.length)/\(∀(j:Nat) x,cs[j]?=some x->∃y,W.cell? ⟨g,j,none⟩=some y/\VR (fun c=>c<W.heap.size) W Io.nil x y):=by
 obtain ⟨h1,ty,z,h2⟩:=zl7 hg h
 refine ⟨h1,⟨arr,ty,z,h2,hl⟩,fun j x hj=>?_⟩
 obtain ⟨y,hy,hr⟩:=hv j x hj
 exact ⟨y,by simp [World.cell?,h2,hy],hr⟩
theorem gPow:Tryz.prog.globalNamed "internal/strconv.uint64pow10"=some 3:=by kernel_rfl
theorem gSyn:Tryz.prog.globalNamed "strconv.ErrSyntax"=some 1:=by kernel_rfl
theorem gRng:Tryz.prog.globalNamed "strconv.ErrRange"=some 2:=by kernel_rfl
theorem zpV{W:World}{rest:List (String × DataW Unit)}(h:laidMet Tryz.prog (("internal/strconv.uint64pow10",Rows.laid_internal_strconv_uint64pow10)::rest) W):Lib.TabIs Tryz.prog W "internal/strconv.uint64pow10" .u64 Lib.pow10Tab:=by
 have e:(Rows.laid_internal_strconv_uint64pow10:DataW Unit)=Lib.tabData .u64 Lib.pow10Tab:=by rfl
 rw [e] at h
 exact Lib.tabIs_of_head (t:=268) (e:=48) (n:=20) gPow (by kernel_rfl) (by kernel_rfl) (by kernel_rfl) (by kernel_rfl) (by kernel_rfl) h
theorem star: "*"++ "errors.errorString"= "*errors.errorString":=by decide
theorem zrw(u:TypeId)(h:Tryz.prog.typeName? 3 u=some "*errors.errorString"):u=313 :=
 typeName_ptr_named (nm:= "errors.errorString") (by rw [star]; kernel_rfl) (by kernel_rfl) (by decide) u (by rw [star]; exact h)
theorem znh{W:World}{n:String}{g:Nat}{text:List UInt8}{rest:List (String × DataW Unit)}(hg:Tryz.prog.globalNamed n=some g)(ht:(Tryz.prog.globals[g]?).map (·.type)=some 45)
  (h:laidMet Tryz.prog ((n,.iface "*errors.errorString" (.ptr (.agg [.lit (.string text)])))::rest) W):∃a,W.var? Tryz.prog n=some #[.iface 313 (.pointer (some a))]:=by
 obtain ⟨a,s,hv,_⟩:=laid_sentinel (tp:=313) (te:=315) (ts:=9) h hg ht Tryz.underlying45 zrw Tryz.underlying313 Tryz.underlying315 rfl rfl Tryz.underlying9 (by kernel_rfl) (by kernel_rfl)
 exact ⟨a,hv⟩
theorem gFst:Tryz.prog.globalNamed "unicode/utf8.first"=some 4:=by kernel_rfl
theorem gAcc:Tryz.prog.globalNamed "unicode/utf8.acceptRanges"=some 5:=by kernel_rfl
theorem u8x:U8Extra Tryz.prog Tryz.lays197_ren:=⟨by kernel_rfl,by kernel_rfl,by kernel_rfl,by kernel_rfl,by kernel_rfl,by kernel_rfl,by kernel_rfl⟩
theorem zwB{W:World}{m:Int}(h:laidMet Tryz.prog zgo W)(hm:∃arr ty z,W.heap[0]?=some (.cells arr ty z)/\arr=#[.int .i64 m]):@TT (zrd m).toTab (fun c=>c<W.heap.size) W:=by
 have h3:=h.tail.tail
 have hp:=zpV h3
 obtain ⟨ar,hr⟩:=znh gRng (by kernel_rfl) h3.tail.tail
 obtain ⟨asy,hs⟩:=znh gSyn (by kernel_rfl) h3.tail.tail.tail
 have eF:(Rows.laid_unicode_utf8_first:DataW Unit)=Lib.firstData:=Pinned.utf8First_eq
 have eA:(Rows.laid_unicode_utf8_acceptRanges:DataW Unit)=Lib.acceptData:=by kernel_rfl
 have rF:Lib.VarReads Tryz.prog W "unicode/utf8.first" Lib.firstData:=eF▸Lib.laidMet.reads h (by simp)
 have rA:Lib.VarReads Tryz.prog W "unicode/utf8.acceptRanges" Lib.acceptData:=eA▸Lib.laidMet.reads h (by simp)
 have hU:Lib.Utf8Tabs 4 5 W:=utf8Tabs_of_reads { Tryz.lays197 with } u8x rF rA
 obtain ⟨gF,tF,cF,fF,pF,hgF,htF,hvF,hdF⟩:=rF
 obtain ⟨gA,tA,cA,fA,pA,hgA,htA,hvA,hdA⟩:=rA
 obtain rfl:=Option.some.inj (gFst.symm.trans hgF)
 obtain rfl:=Option.some.inj (gAcc.symm.trans hgA)
 obtain rfl:=Option.some.inj ((show (Tryz.prog.globals[4]?).map (·.type)=some 307 by kernel_rfl).symm.trans htF)
 obtain rfl:=Option.some.inj ((show (Tryz.prog.globals[5]?).map (·.type)=some 310 by kernel_rfl).symm.trans htA)
 obtain ⟨_,_,_,_,lF,_,_⟩:=DataW.trod_array Tryz.underlying307 hdF
 obtain ⟨_,_,_,_,lA,_,_⟩:=DataW.trod_array Tryz.underlying310 hdA
 rw [show Tryz.prog.cellsOf 307=256 by kernel_rfl,Array.length_toList] at lF
 rw [show Tryz.prog.cellsOf 310=32 by kernel_rfl,Array.length_toList] at lA
 intro g cs hg
 change (if g=4 then some ((List.range 256).map fun c=>AV.int .u8 (Lib.firstT c)) else if g=5 then some ((List.range 32).map fun j=>AV.int .u8 (if j % 2=0 then Lib.accLo (j / 2) else Lib.accHi (j / 2)))
  else if g=3 then some (Go.Lib.pow10Tab.map fun z=>AV.int .u64 z) else if g=1 then some [.iface 313 .undef] else if g=2 then some [.iface 313 .undef] else if g=0 then some [.int .i64 m] else none)=some cs at hg
 split at hg
 ·rename_i e; subst e
  obtain rfl:=Option.some.inj hg
  refine zgX gFst hvF (by simpa using lF) fun j x hj=>?_
  have hj2:j<256:=by
   rcases Nat.lt_or_ge j 256 with h | h
   ·exact h
   ·rw [List.getElem?_map,List.getElem?_eq_none (by simpa using h)] at hj; cases hj
  rw [List.getElem?_map,List.getElem?_range hj2] at hj
  obtain rfl:=Option.some.inj hj
  exact ⟨_,(World.var?_cell gFst hvF j).symm.trans (hU.1 j hj2),.int _ _⟩
 ·split at hg
  ·rename_i e; subst e
   obtain rfl:=Option.some.inj hg
   refine zgX gAcc hvA (by simpa using lA) fun j x hj=>?_
   have hj2:j<32:=by
    rcases Nat.lt_or_ge j 32 with h | h
    ·exact h
    ·rw [List.getElem?_map,List.getElem?_eq_none (by simpa using h)] at hj; cases hj
   rw [List.getElem?_map,List.getElem?_range hj2] at hj
   obtain rfl:=Option.some.inj hj
   obtain ⟨c0,c1⟩:=hU.2 (j / 2) (by omega)
   by_cases he:j % 2=0
   ·have:2 * (j / 2)=j:=by omega
    rw [this] at c0
    simp only [he,if_true]
    exact ⟨_,(World.var?_cell gAcc hvA j).symm.trans c0,.int _ _⟩
   ·have:2 * (j / 2)+1=j:=by omega
    rw [this] at c1
    simp only [he,if_false]
    exact ⟨_,(World.var?_cell gAcc hvA j).symm.trans c1,.int _ _⟩
  ·split at hg
   ·rename_i e; subst e
    obtain rfl:=Option.some.inj hg
    refine zgX gPow hp (by simp) fun j x hj=>?_
    rw [List.getElem?_map] at hj
    cases hz:Lib.pow10Tab[j]? with
    | none=>rw [hz] at hj; cases hj
    | some z =>
     rw [hz] at hj
     obtain rfl:=Option.some.inj hj
     exact ⟨.int .u64 z,by simp [hz],.int _ _⟩
   ·split at hg
    ·rename_i e; subst e
     obtain rfl:=Option.some.inj hg
     refine zgX gSyn hs rfl fun j x hj=>?_
     match j,hj with
     | 0,hj =>
      obtain rfl:=Option.some.inj hj
      exact ⟨_,rfl,.iface .undef⟩
    ·split at hg
     ·rename_i e; subst e
      obtain rfl:=Option.some.inj hg
      refine zgX gRng hr rfl fun j x hj=>?_
      match j,hj with
      | 0,hj =>
       obtain rfl:=Option.some.inj hj
       exact ⟨_,rfl,.iface .undef⟩
     ·split at hg
      ·rename_i e; subst e
       obtain rfl:=Option.some.inj hg
       obtain ⟨arr,ty,z,h1,rfl⟩:=hm
       refine ⟨(Array.getElem?_eq_some_iff.1 h1).1,⟨_,ty,z,h1,rfl⟩,fun j x hj=>?_⟩
       match j,hj with
       | 0,hj =>
        obtain rfl:=Option.some.inj hj
        exact ⟨_,by simp [World.cell?,h1],.int _ _⟩
      ·cases hg
theorem zom{W:World}(h:W.ShapedOpen Tryz.prog):∃m:Int,∃arr ty z,W.heap[0]?=some (.cells arr ty z)/\arr=#[.int .i64 m]:=by
 obtain ⟨m,hm⟩:=Tryz.laysM146.s1_3 W h
 have hm:W.cell? ⟨0,0,none⟩=some (.int .i64 m):=hm
 obtain ⟨cs,hh,hs,_⟩:=h.1 0 #[.int .i64 0] 3 (of_decide_eq_true (by kernel_rfl)) (by kernel_rfl)
 refine ⟨m,cs,3,_,hh,?_⟩
 have h1:cs.size=1:=hs
 obtain ⟨x,rfl⟩:∃x,cs=#[x]:=by
  obtain ⟨l⟩:=cs
  match l,h1 with
  | [x],_=>exact ⟨x,rfl⟩
 have:W.cell? ⟨0,0,none⟩=some x:=by simp [World.cell?,hh]
 rw [this] at hm
 rw [Option.some.inj hm]
theorem zoN(os:Os)(args:Array Value):laidMetH Tryz.prog zgo ((World.laidAll Tryz.prog os zgo).forCall (fun _ _=>0) ⟨#[],args,[]⟩).memory:=by
 rw [MakeChecks.laidMetH_plain _ _ _ (by kernel_rfl)]
 exact laidMet_laidAll _ (by kernel_rfl) (by kernel_rfl)
theorem own:ownKnob Tryz.prog.godebug=none:=by kernel_rfl
theorem zp5:laidOutB Tryz.prog=true:=by kernel_rfl
end Go.Proofs.YtkgpofmbegonfaaGreatDoor
