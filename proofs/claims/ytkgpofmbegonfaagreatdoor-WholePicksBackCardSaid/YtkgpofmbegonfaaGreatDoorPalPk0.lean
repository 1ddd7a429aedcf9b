import Derived.Test.YtkgpofmbegonfaaGreatDoorPalNum
import Derived.Lib.SplitLaws
import Derived.Lib.Join
import Derived.Lib.Strings
import Derived.Lib.Replace
set_option linter.all false
namespace Go.Vs
open Go.Lib
def zcd:List UInt8->List (List UInt8)
 | []=>[[]]
 | c::l=>if c=32 then []::zcd l else match zcd l with
  | w::ws=>(c::w)::ws
  | []=>[[c]]
theorem zmg:∀l,zcd l≠[]
 | []=>by simp [zcd]
 | c::l=>by
  unfold zcd
  split
  ·simp
  ·split <;> simp
theorem zgq:∀l:List UInt8,Lib.split l [32]=zcd l
 | []=>by decide
 | c::l=>by
  have ih:=zgq l
  unfold Lib.split at ih ⊢
  by_cases hc:c=32
  ·subst hc
   rw [count_cons_eq,Nat.add_comm,zcd,if_pos rfl,← ih]
   have h0:index (32::l) [32]=0:=by simp [index,List.isPrefixOf]
   rw [splitK,h0]
   simp
  ·rw [count_cons_ne c 32 l hc,zcd,if_neg hc,← ih]
   cases hk:count l [32] with
   | zero=>simp [splitK]
   | succ k =>
    obtain ⟨i,hi⟩:=index_of_count (s:=l) (old:=[32]) (by omega)
    have h1:index (c::l) [32]=i+1:=by
     have hp:List.isPrefixOf [32] (c::l)=false:=by simp [List.isPrefixOf,Ne.symm hc]
     unfold index
     rw [hp,hi]
     simp
    have n1:¬((i:Int)+1==-1)=true:=by simp; omega
    have n2:¬((i:Int)==-1)=true:=by simp
    have e1:((i:Int)+1).toNat=i+1:=by omega
    simp only [splitK,h1,hi,if_neg n1,if_neg n2,e1,Int.toNat_natCast,List.length_cons,List.length_nil,Nat.add_zero,Nat.zero_add,List.take_succ_cons,List.drop_succ_cons]
def zgF(ws:List (List UInt8)):List UInt8:=Lib.join ws [32]
theorem zhl(w:List UInt8):zgF [w]=w:=join_one w [32]
theorem zid(w v:List UInt8)(ws:List (List UInt8)):zgF (w::v::ws)=w++32::zgF (v::ws):=by
 unfold zgF
 rw [join_cons,join_cons]
 simp [joinTail]
theorem zhZ:∀(w r:List UInt8),(∀c∈w,c≠32)->zcd (w++32::r)=w::zcd r
 | [],r,_=>by simp [zcd]
 | c::w,r,h=>by
  have hc:=h c (List.mem_cons_self ..)
  rw [List.cons_append,zcd,if_neg hc,zhZ w r fun d hd=>h d (List.mem_cons_of_mem _ hd)]
theorem zi3:∀(w:List UInt8),(∀c∈w,c≠32)->zcd w=[w]
 | [],_=>rfl
 | c::w,h=>by
  have hc:=h c (List.mem_cons_self ..)
  rw [zcd,if_neg hc,zi3 w fun d hd=>h d (List.mem_cons_of_mem _ hd)]
theorem zh1:∀(ws:List (List UInt8)),ws≠[]->(∀w∈ws,∀c∈w,c≠32)->zcd (zgF ws)=ws
 | [],h,_=>absurd rfl h
 | [w],_,h=>by rw [zhl]; exact zi3 w (h w (List.mem_cons_self ..))
 | w::v::ws,_,h=>by
  rw [zid,zhZ w _ (h w (List.mem_cons_self ..)),zh1 (v::ws) (by simp) fun x hx=>h x (List.mem_cons_of_mem _ hx)]
end Go.Vs
