import Derived.Test.YtkgpofmbegonfaaGreatDoorVFacts
import Derived.Test.YtkgpofmbegonfaaGreatDoorVu3
import Derived.WalkKit
import Derived.Lib.Builder
import Derived.Shelf.Strings.BuilderX
import Derived.Test.YtkgpofmbegonfaaGreatDoorWGrow
set_option linter.all false
set_option maxRecDepth 100000
namespace Go.Proofs.YtkgpofmbegonfaaGreatDoor
open Go.Vs Go.RowKit
@[go_sem] theorem zyX:(#[]:Array UInt8).size=0:=rfl
theorem zfo(b:Nat)(w:World)(h0:w.cell? ⟨b,0,none⟩=some (.pointer (some ⟨b,0,none⟩))) :
  Calls Tryz.prog 51 #[.pointer (some ⟨b,0,none⟩)] w fun e w'=>e=.returned (.tuple #[])/\w'=w:=by
 obtain ⟨j,hj⟩:∃j,Tryz.prog.info? 53=some j:=Option.isSome_iff_exists.1 (by kernel_rfl)
 go_enter Tryz.func51,Tryz.ntmps51
 go_wp2
 rw [Lib.run_neq_ptr_same w _ Tryz.underlying50 hj]
 go_wp2
 go_end0
 exact ⟨rfl,rfl⟩
theorem zd0(b:Nat)(w:World)(h0:w.cell? ⟨b,0,none⟩=some (.pointer none))(hsh:w.shape? b=some (53,2))(hfz:w.frozen? ⟨b,0,none⟩=false) :
  Calls Tryz.prog 51 #[.pointer (some ⟨b,0,none⟩)] w fun e w'=>e=.returned (.tuple #[])/\w'=w.setCell ⟨b,0,none⟩ (.pointer (some ⟨b,0,none⟩)):=by
 have hz:(Tryz.prog.info? 53).map (·.size)=some 2:=by kernel_rfl
 obtain ⟨j,hj,hjs⟩:=Option.map_eq_some_iff.1 hz
 go_enter Tryz.func51,Tryz.ntmps51
 go_wp2
 rw [Lib.run_to_unsafe w ⟨b,0,none⟩ Tryz.underlying50 Tryz.underlying180 hj (by rw [hjs]; decide) hsh (Nat.zero_lt_succ 1)]
 simp only [Result.andThen]
 rw [Oper.upon_value]
 go_wp2
 rw [run_callFunc_extern Tryz.func97 (by kernel_rfl) (by kernel_rfl) (by kernel_rfl) (e:=Extern.AbiNoEscape.same) (by kernel_rfl)]
 rw [Lib.run_noEscape]
 simp only [Result.andThen]
 rw [Oper.upon_value]
 go_wp2
 rw [Lib.run_from_unsafe w ⟨b,0,none⟩ Tryz.underlying180 Tryz.underlying50 hj hsh (by kernel_rfl)]
 simp only [Result.andThen]
 rw [Oper.upon_value]
 go_wp2
 go_end0
 exact ⟨rfl,rfl⟩
theorem zjA[Tab](x:AV)(hs:Hp):HF Tryz.prog 51 [.ptr 0 0 0] (.cells [.optp 0,x] 0 53::hs) (.tuple []) (.cells [.optp 0,x] 0 53::hs):=by
 intro I ι w vs hr hfree hvs
 obtain ⟨a,rfl,ha⟩:∃a,vs=#[a]/\VR I w ι (.ptr 0 0 0) a:=by
  obtain ⟨hs,hv⟩:=hvs
  obtain ⟨l⟩:=vs
  match l,hs with
  | [a],_=>exact ⟨a,rfl,hv 0 _ a rfl rfl⟩
 obtain ⟨q,c,cur,sz,rfl,hib,hv,hq⟩:=ha.ptr_inv
 obtain ⟨e1,arr,f,harr,hsz,hcs,hp,hx⟩:=hr.real 0 _ _ hib rfl
 obtain rfl:=hq e1
 have h2:arr.size=2:=by rw [hsz]; exact hcs.symm
 obtain ⟨p0,p1,rfl⟩:∃p0 p1,arr=#[p0,p1]:=by
  obtain ⟨l⟩:=arr
  match l,h2 with
  | [a,b],_=>exact ⟨a,b,rfl⟩
 have hp0:VR I w ι (.optp 0) p0:=(hx 0 _ p0 rfl rfl).plain rfl
 have hc0:w.cell? ⟨c,0,none⟩=some p0:=by simp [World.cell?,harr]
 have fresh:∀{e:Ending},e=.returned (.tuple #[])->∃v I' ι',e=.returned v/\Out (hs.length+1) I ι (.cells [.optp 0,x] 0 53::hs) w I' ι' (.cells [.optp 0,x] 0 53::hs) (w.setCell ⟨c,0,none⟩ (.pointer (some ⟨c,0,none⟩)))/\VR I' (w.setCell ⟨c,0,none⟩ (.pointer (some ⟨c,0,none⟩))) ι' (.tuple []) v:=by
  rintro e rfl
  have hset:(w.setCell ⟨c,0,none⟩ (.pointer (some ⟨c,0,none⟩))).heap[c]?=some (.cells #[.pointer (some ⟨c,0,none⟩),p1] 53 (0,0)):=by
   simp [World.setCell,Array.getElem?_modify,harr]
  refine ⟨_,I,ι,rfl,Ext.out (Ext.turn (o':=.cells [.optp 0,x] 0 53) hr (b:=0) rfl rfl hib (by simp) rfl rfl rfl (by simp [World.setCell]) (fun k hk=>Below.heap_setCell _ _ _ _ hk) fun mono cmono=>?_) hfree (Nat.le_refl _),.tuple rfl (by simp)⟩
  refine ⟨e1,_,f,hset,hsz,hcs,hp,fun j y v hy hv'=>?_⟩
  match j,hy,hv' with
  | 0,hy,hv' =>
   obtain rfl:=Option.some.inj hy
   obtain rfl:=Option.some.inj (show some _=some _ from hv')
   exact .inl (.optp _ _ _ hib fun _=>.inr rfl)
  | 1,hy,hv'=>exact cmono _ _ _ (hp.1 1) (hx 1 y v hy hv')
 cases hp0 with
 | optp0 =>
  refine (zd0 c w hc0 (by simp [World.shape?,harr]) (by simp [World.frozen?,harr])).mono ?_
  rintro e w' ⟨rfl,rfl⟩
  exact fresh rfl
 | optp c' cur' sz' h hc' =>
  rw [hib] at h
  simp only [Option.some.injEq,Prod.mk.injEq] at h
  obtain ⟨rfl,rfl,rfl⟩:=h
  rcases hc' e1 with rfl | rfl
  ·refine (zd0 c w hc0 (by simp [World.shape?,harr]) (by simp [World.frozen?,harr])).mono ?_
   rintro e w' ⟨rfl,rfl⟩
   exact fresh rfl
  ·refine (zfo c w hc0).mono ?_
   rintro e w' ⟨rfl,rfl⟩
   exact ⟨_,I,ι,rfl,Out.refl hr hfree (Nat.le_refl _),.tuple rfl (by simp)⟩
theorem zee[Tab](s t:ByteArray)(ver:Nat)(hf:Fits (s.size+t.size)):HF Tryz.prog 25 [.ptr 0 0 0,.str t] [.cells [.optp 0,.msl 1 ver 0 1 s.size s.size] 0 53,.rows (sB s) 1 ver 5] (.tuple [.int .i64 t.size,.nili]) [.cells [.optp 0,.msl 1 (ver+1) 0 1 (s.size+t.size) (s.size+t.size)] 0 53,.rows (sB (s++t)) 1 (ver+1) 5]:=by
 refine HF.of Tryz.func25 rfl Tryz.ntmps25 (Nat.le_of_ble_eq_true rfl) rfl ?_
 have e0:argS 0 [.ptr 0 0 0,.str t]=[(0,.ptr 0 0 0),(1,.str t)]:=rfl
 rw [e0]
 have hq:callQ Tryz.prog 51 [.cells [.optp 0,.msl 1 ver 0 1 s.size s.size] 0 53,.rows (sB s) 1 ver 5] [.ptr 0 0 0] (.heap ⟨[],[0,1],[.ptr 0 0 0],[.cells [.optp 0,.msl 1 ver 0 1 s.size s.size] 0 53,.rows (sB s) 1 ver 5],.tuple [],[.cells [.optp 0,.msl 1 ver 0 1 s.size s.size] 0 53,.rows (sB s) 1 ver 5]⟩):=callQ.ofH RO (zjA _ _)
 refine W.sq [] [(0,.ptr 0 0 0),(1,.str t)] [.cells [.optp 0,.msl 1 ver 0 1 s.size s.size] 0 53,.rows (sB s) 1 ver 5] ?_
 refine W.sq [] [(0,.ptr 0 0 0),(1,.str t)] [.cells [.optp 0,.msl 1 ver 0 1 s.size s.size] 0 53,.rows (sB s) 1 ver 5] ?_
 refine W.sq [] [(0,.ptr 0 0 0),(1,.str t)] [.cells [.optp 0,.msl 1 (ver+1) 0 1 (s.size+t.size) (s.size+t.size)] 0 53,.rows (sB (s++t)) 1 (ver+1) 5] ?_
 refine W.sq [] [(4,.int .i64 t.size),(5,.nili)] [.cells [.optp 0,.msl 1 (ver+1) 0 1 (s.size+t.size) (s.size+t.size)] 0 53,.rows (sB (s++t)) 1 (ver+1) 5] ?_
 exact W.ret (zgn.retW ⟨[],[]⟩ RO)
theorem znt[Tab](s:ByteArray)(ver:Nat)(hf:Fits s.size):HF Tryz.prog 26 [.ptr 0 0 0] [.cells [.optp 0,.msl 1 ver 0 1 s.size s.size] 0 53,.rows (sB s) 1 ver 5] (.str s) [.dead,.dead]:=by
 refine HF.of Tryz.func26 rfl Tryz.ntmps26 (Nat.le_of_ble_eq_true rfl) rfl ?_
 have e0:argS 0 [.ptr 0 0 0]=[(0,.ptr 0 0 0)]:=rfl
 rw [e0]
 refine W.sq [] [(0,.ptr 0 0 0)] [.cells [.optp 0,.msl 1 ver 0 1 s.size s.size] 0 53,.rows (sB s) 1 ver 5] ?_
 have hce:Tryz.prog.cellsOf 5=1:=by kernel_rfl
 refine W.sqL [.light,.light,.light,.light,.look,.light,.light,.light,.light,.look,.any,.light] [([],[]),([],[]),([],[]),([0],[]),([1],[]),([],[]),([],[]),([],[]),([0],[]),([1],[]),([0,1],[0,1]),([],[])] [] [(2,.str s)] [.dead,.dead] zaP ?_ (hrun:=?_)
 rotate_left
 ·simp -implicitDefEqProofs -dsimp only [go_sem,hf,hce]
  with_reducible refine exP.mk (s,5,1,ver) (by simp -implicitDefEqProofs -dsimp only [go_sem,hf,hce]) ?_
  simp -implicitDefEqProofs -dsimp only [go_sem,hf,hce]
 exact W.ret (zgn.retW ⟨[],[]⟩ RO)
theorem zmm(w:World)(c j:Nat)(v:Value)(o:Obj)(hc:c<w.heap.size):(w.setCell ⟨c,j,none⟩ v).alloc o=(w.alloc o).setCell ⟨c,j,none⟩ v:=by
 have h:(w.heap.modify c fun | .cells cs t f=>.cells (cs.setIfInBounds j v) t f | o=>o).push o=(w.heap.push o).modify c fun | .cells cs t f=>.cells (cs.setIfInBounds j v) t f | o=>o:=by
  apply Array.ext_getElem?
  intro k
  rw [Array.getElem?_modify,Array.getElem?_push,Array.getElem?_push,Array.size_modify,Array.getElem?_modify]
  by_cases h1:k=w.heap.size
  ·rw [if_pos h1,if_pos h1,if_neg (by omega)]
  ·rw [if_neg h1,if_neg h1]
 unfold World.setCell World.alloc
 exact congrArg (fun x=>{ w with heap:=x }) h
theorem zlK(c n:Nat)(w:World)(p0:Value)(hp:p0=.pointer none\/p0=.pointer (some ⟨c,0,none⟩))(hbk:w.heap[c]?=some (.cells #[p0,.slice none 0 0] 53 (0,0)))(hn:n<=281474976710656) :
  Calls Tryz.prog 24 #[.pointer (some ⟨c,0,none⟩),.int .i64 n] w fun e w'=>e=.returned (.tuple #[])/\∃w1:World,(w1=w\/w1=w.setCell ⟨c,0,none⟩ (.pointer (some ⟨c,0,none⟩)))/\w1.heap[c]?=some (.cells #[.pointer (some ⟨c,0,none⟩),.slice none 0 0] 53 (0,0)) /\
   (w'=w1.drew\/∃cs:Array Value,w'=((w1.drew.setCell ⟨c,1,none⟩ (.slice (some ⟨w1.drew.heap.size,0,none⟩) 0 cs.size)).alloc (.cells cs 5)).drew.drew.drew):=by
 have key:∀w1:World,(w1=w\/w1=w.setCell ⟨c,0,none⟩ (.pointer (some ⟨c,0,none⟩)))->w1.heap[c]?=some (.cells #[.pointer (some ⟨c,0,none⟩),.slice none 0 0] 53 (0,0)) ->
   (Calls Tryz.prog 51 #[.pointer (some ⟨c,0,none⟩)] w fun e w'=>e=.returned (.tuple #[])/\w'=w1)->Calls Tryz.prog 24 #[.pointer (some ⟨c,0,none⟩),.int .i64 n] w fun e w'=>e=.returned (.tuple #[])/\∃w1:World,(w1=w\/w1=w.setCell ⟨c,0,none⟩ (.pointer (some ⟨c,0,none⟩)))/\w1.heap[c]?=some (.cells #[.pointer (some ⟨c,0,none⟩),.slice none 0 0] 53 (0,0)) /\
   (w'=w1.drew\/∃cs:Array Value,w'=((w1.drew.setCell ⟨c,1,none⟩ (.slice (some ⟨w1.drew.heap.size,0,none⟩) 0 cs.size)).alloc (.cells cs 5)).drew.drew.drew):=by
  intro w1 hw1 hb1 hcc
  have c1:w1.cell? ⟨c,1,none⟩=some (.slice none 0 0):=by rw [Lib.cell_of_heap hb1]; rfl
  have c1':w1.drew.cell? ⟨c,1,none⟩=some (.slice none 0 0):=c1
  go_enter Tryz.func24,Tryz.ntmps24
  go_wp2_with (go_at_call 51; refine hcc.mono ?_; rintro e w' ⟨rfl,hw⟩; rw [hw])
  go_region
  all_goals go_wp2_with (go_at_call 52; refine (zlu c n w1.drew hb1 hn).mono ?_; rintro e w' ⟨rfl,cs,rfl⟩)
  all_goals first
   | (go_end0; exact ⟨rfl,w1,hw1,hb1,.inr ⟨cs,rfl⟩⟩)
   | (go_end0; exact ⟨rfl,w1,hw1,hb1,.inl rfl⟩)
 rcases hp with rfl | rfl
 ·have hb1:(w.setCell ⟨c,0,none⟩ (.pointer (some ⟨c,0,none⟩))).heap[c]?=some (.cells #[.pointer (some ⟨c,0,none⟩),.slice none 0 0] 53 (0,0)):=by
   simp [World.setCell,Array.getElem?_modify,hbk]
  exact key _ (.inr rfl) hb1 (zd0 c w (by rw [Lib.cell_of_heap hbk]; rfl) (by simp [World.shape?,hbk]) (Lib.frozen_of_heap hbk 0))
 ·exact key w (.inl rfl) hbk (zfo c w (by rw [Lib.cell_of_heap hbk]; rfl))
theorem zqz[Tab](n:Int)(s:ByteArray)(hs:s=⟨#[]⟩)(hn:0<=n/\Fits n.toNat):HF Tryz.prog 24 [.ptr 0 0 0,.int .i64 n] [.cells [.optp 0,.msl 1 0 0 1 s.size s.size] 0 53,.rows (sB s) 1 0 5] (.tuple []) [.cells [.optp 0,.msl 1 1 0 1 s.size s.size] 0 53,.rows (sB s) 1 1 5]:=by
 subst hs
 show HF Tryz.prog 24 [.ptr 0 0 0,.int .i64 n] [.cells [.optp 0,.msl 1 0 0 1 0 0] 0 53,.rows [] 1 0 5] (.tuple []) [.cells [.optp 0,.msl 1 1 0 1 0 0] 0 53,.rows [] 1 1 5]
 obtain ⟨hn0,hnf⟩:=hn
 obtain ⟨k,rfl⟩:∃k:Nat,n=(k:Int):=⟨n.toNat,by omega⟩
 intro I ι w vs hr hfree hvs
 obtain ⟨a,b,rfl,ha,hb⟩:∃a b,vs=#[a,b]/\VR I w ι (.ptr 0 0 0) a/\VR I w ι (.int .i64 k) b:=by
  obtain ⟨hs,hv⟩:=hvs
  obtain ⟨l⟩:=vs
  match l,hs with
  | [a,b],_=>exact ⟨a,b,rfl,hv 0 _ a rfl rfl,hv 1 _ b rfl rfl⟩
 obtain rfl:=hb.int_inv
 obtain ⟨q,c,cur,sz,rfl,hib,hv,hq⟩:=ha.ptr_inv
 obtain ⟨e1,arr,f,harr,hsz,hcs,hp,hx⟩:=hr.real 0 _ _ hib rfl
 obtain rfl:=hq e1
 have h2:arr.size=2:=by rw [hsz]; exact hcs.symm
 obtain ⟨p0,p1,rfl⟩:∃p0 p1,arr=#[p0,p1]:=by
  obtain ⟨l⟩:=arr
  match l,h2 with
  | [a,b],_=>exact ⟨a,b,rfl⟩
 have hp0:VR I w ι (.optp 0) p0:=(hx 0 _ p0 rfl rfl).plain rfl
 have hp1:VR I w ι (.msl 1 0 0 1 0 0) p1:=(hx 1 _ p1 rfl rfl).plain rfl
 have hi1:ι 1=none:=by
  cases h:ι 1 with
  | none=>rfl
  | some x =>
   have:=hr.real 1 x _ h rfl
   exact absurd this.2.1 (by decide)
 have e2:p1=.slice none 0 0:=by
  rcases hp1.msl_inv with ⟨_,_,_,_,_,_,_,hib1,_,_⟩ | ⟨h,_,_⟩
  ·rw [hi1] at hib1; cases hib1
  ·exact h
 subst e2
 have hpp:p0=.pointer none\/p0=.pointer (some ⟨c,0,none⟩):=by
  cases hp0 with
  | optp0=>exact .inl rfl
  | optp c' cur' sz' h hc' =>
   rw [hib] at h
   simp only [Option.some.injEq,Prod.mk.injEq] at h
   obtain ⟨rfl,rfl,rfl⟩:=h
   rcases hc' e1 with rfl | rfl
   ·exact .inl rfl
   ·exact .inr rfl
 have hclt:c<w.heap.size:=(Array.getElem?_eq_some_iff.1 harr).1
 refine (zlK c k w p0 hpp harr (by unfold Fits at hnf; omega)).mono ?_
 rintro e w' ⟨rfl,w1,hw1,hb1,hw'⟩
 have E0:Ext I ι [.cells [.optp 0,.msl 1 0 0 1 0 0] 0 53,.rows [] 1 0 5] w I ι [.cells [.optp 0,.msl 1 0 0 1 0 0] 0 53,.rows [] 1 0 5] w1:=by
  have same:∀k,k≠c->w1.heap[k]?=w.heap[k]?:=by
   rcases hw1 with rfl | rfl
   ·intro k _; rfl
   ·intro k hk; exact Below.heap_setCell _ _ _ _ hk
  have st:w1.os=w.os/\w1.tape=w.tape/\w1.output=w.output/\w1.heap.size=w.heap.size:=by
   rcases hw1 with rfl | rfl
   ·exact ⟨rfl,rfl,rfl,rfl⟩
   ·exact ⟨rfl,rfl,rfl,by simp [World.setCell]⟩
  refine Ext.turn (o':=.cells [.optp 0,.msl 1 0 0 1 0 0] 0 53) hr (b:=0) rfl rfl hib (by simp) st.1 st.2.1 st.2.2.1 st.2.2.2 same fun mono cmono=>?_
  refine ⟨e1,_,fun _ _=>False,hb1,by rw [← hsz]; rfl,hcs,zdF.none,fun j y v hy hv'=>.inl ?_⟩
  match j,hy,hv' with
  | 0,hy,hv' =>
   obtain rfl:=Option.some.inj hy
   obtain rfl:=Option.some.inj (show some _=some _ from hv')
   exact .optp _ _ _ hib fun _=>.inr rfl
  | 1,hy,hv' =>
   obtain rfl:=Option.some.inj hy
   obtain rfl:=Option.some.inj (show some _=some _ from hv')
   exact .mslnil
 have hr1:=E0.rel
 have hclt1:c<w1.heap.size:=(Array.getElem?_eq_some_iff.1 hb1).1
 rcases hw' with rfl | ⟨cs,rfl⟩
 ·-- no room was wanted
  have E1:Ext I ι [.cells [.optp 0,.msl 1 0 0 1 0 0] 0 53,.rows [] 1 0 5] w1 I ι [.cells [.optp 0,.msl 1 1 0 1 0 0] 0 53,.rows [] 1 0 5] w1.drew:=by
   refine Ext.turn (o':=.cells [.optp 0,.msl 1 1 0 1 0 0] 0 53) hr1 (b:=0) rfl rfl hib (by simp) rfl rfl rfl rfl (fun _ _=>rfl) fun mono cmono=>?_
   refine ⟨e1,_,fun _ _=>False,hb1,by rw [← hsz]; rfl,hcs,zdF.none,fun j y v hy hv'=>.inl ?_⟩
   match j,hy,hv' with
   | 0,hy,hv' =>
    obtain rfl:=Option.some.inj hy
    obtain rfl:=Option.some.inj (show some _=some _ from hv')
    exact .optp _ _ _ hib fun _=>.inr rfl
   | 1,hy,hv' =>
    obtain rfl:=Option.some.inj hy
    obtain rfl:=Option.some.inj (show some _=some _ from hv')
    exact .mslnil
  have E2:Ext I ι [.cells [.optp 0,.msl 1 1 0 1 0 0] 0 53,.rows [] 1 0 5] w1.drew I ι [.cells [.optp 0,.msl 1 1 0 1 0 0] 0 53,.rows [] 1 1 5] w1.drew :=
   Ext.still_set E1.rel (b:=1) rfl rfl (by simp) hi1 rfl
  exact ⟨_,I,ι,rfl,((E0.trans E1).trans E2).out hfree (Nat.le_refl _),.tuple rfl (by simp)⟩
 ·-- a row for the bytes
  have hwe:((w1.drew.setCell ⟨c,1,none⟩ (.slice (some ⟨w1.drew.heap.size,0,none⟩) 0 cs.size)).alloc (.cells cs 5))=((w1.drew.alloc (.cells cs 5)).setCell ⟨c,1,none⟩ (.slice (some ⟨w1.heap.size,0,none⟩) 0 cs.size)):=zmm w1.drew c 1 _ _ hclt1
  rw [hwe]
  have E1:Ext I ι [.cells [.optp 0,.msl 1 0 0 1 0 0] 0 53,.rows [] 1 0 5] w1 I (upd ι 1 (w1.heap.size,1,cs.size)) [.cells [.optp 0,.msl 1 0 0 1 0 0] 0 53,.rows [] 1 1 5] (w1.drew.alloc (.cells cs 5)):=by
   refine Ext.renew (o':=.rows [] 1 1 5) hr1 (b:=1) rfl rfl (by simp) rfl rfl rfl (by simp) (fun k' hk' _=>alloc_old w1.drew _ k' hk') (.inl ⟨Nat.le_refl _,by simp⟩) (fun c' u s hc=>by rw [hi1] at hc; cases hc) (fun ι' mono cmono=>?_)
   exact ⟨rfl,by omega,cs,fun _ _=>False,zeq.of (zbN w1.drew _),rfl,by simp,fun i r hi=>by simp at hi,zdF.none,fun i r j x y hi=>by simp at hi⟩
  have hib2:(upd ι 1 (w1.heap.size,1,cs.size)) 0=some (c,cur,sz):=by rw [zbj (by decide)]; exact hib
  have hb2:(w1.drew.alloc (.cells cs 5)).heap[c]?=some (.cells #[.pointer (some ⟨c,0,none⟩),.slice none 0 0] 53 (0,0)):=(alloc_old w1.drew _ c hclt1).trans hb1
  have E2:Ext I (upd ι 1 (w1.heap.size,1,cs.size)) [.cells [.optp 0,.msl 1 0 0 1 0 0] 0 53,.rows [] 1 1 5] (w1.drew.alloc (.cells cs 5)) I (upd ι 1 (w1.heap.size,1,cs.size)) [.cells [.optp 0,.msl 1 1 0 1 0 0] 0 53,.rows [] 1 1 5] ((w1.drew.alloc (.cells cs 5)).setCell ⟨c,1,none⟩ (.slice (some ⟨w1.heap.size,0,none⟩) 0 cs.size)).drew.drew.drew:=by
   have hset:(((w1.drew.alloc (.cells cs 5)).setCell ⟨c,1,none⟩ (.slice (some ⟨w1.heap.size,0,none⟩) 0 cs.size)).drew.drew.drew).heap[c]?=some (.cells #[.pointer (some ⟨c,0,none⟩),.slice (some ⟨w1.heap.size,0,none⟩) 0 cs.size] 53 (0,0)):=by
    show ((w1.drew.alloc (.cells cs 5)).setCell ⟨c,1,none⟩ (.slice (some ⟨w1.heap.size,0,none⟩) 0 cs.size)).heap[c]?=_
    unfold World.setCell
    rw [Array.getElem?_modify,if_pos rfl,hb2]
    rfl
   refine Ext.turn (o':=.cells [.optp 0,.msl 1 1 0 1 0 0] 0 53) E1.rel (b:=0) rfl rfl hib2 (by simp) rfl rfl rfl (by show ((w1.drew.alloc (.cells cs 5)).setCell _ _).heap.size=_; simp [World.setCell]) (fun k hk=>Below.heap_setCell _ _ _ _ hk) fun mono cmono=>?_
   refine ⟨e1,_,fun _ _=>False,hset,by rw [← hsz]; rfl,hcs,zdF.none,fun j y v hy hv'=>.inl ?_⟩
   match j,hy,hv' with
   | 0,hy,hv' =>
    obtain rfl:=Option.some.inj hy
    obtain rfl:=Option.some.inj (show some _=some _ from hv')
    exact .optp _ _ _ hib2 fun _=>.inr rfl
   | 1,hy,hv' =>
    obtain rfl:=Option.some.inj hy
    obtain rfl:=Option.some.inj (show some _=some _ from hv')
    exact .msl w1.heap.size 1 cs.size (za5 _ _ _) (Nat.le_refl _) fun _=>⟨.inl (by simp),rfl,Nat.zero_le _,Nat.zero_le _,by simp⟩
  exact ⟨_,I,_,rfl,((E0.trans E1).trans E2).out hfree (Nat.le_refl _),.tuple rfl (by simp)⟩
end Go.Proofs.YtkgpofmbegonfaaGreatDoor
