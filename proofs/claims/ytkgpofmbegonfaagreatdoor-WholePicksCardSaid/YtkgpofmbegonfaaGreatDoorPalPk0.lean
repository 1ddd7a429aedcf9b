import Derived.Test.YtkgpofmbegonfaaGreatDoorPalNum
import Derived.Lib.SplitLaws
import Derived.Lib.Join
import Derived.Lib.Strings
import Derived.Lib.Replace
set_option linter.all false
namespace Go.Vs
open Go.Lib
def zbp:List UInt8->List (List UInt8)
 | []=>[[]]
 | c::l=>if c=32 then []::zbp l else match zbp l with
  | w::ws=>(c::w)::ws
  | []=>[[c]]
theorem zeF:∀l,zbp l≠[]
 | []=>by simp [zbp]
 | c::l=>by
  unfold zbp
  split
  ·simp
  ·split <;> simp
theorem zgj:∀l:List UInt8,Lib.split l [32]=zbp l
 | []=>by decide
 | c::l=>by
  have ih:=zgj l
  unfold Lib.split at ih ⊢
  by_cases hc:c=32
  ·subst hc
   rw [count_cons_eq,Nat.add_comm,zbp,if_pos rfl,← ih]
   have h0:index (32::l) [32]=0:=by simp [index,List.isPrefixOf]
   rw [splitK,h0]
   simp
  ·rw [count_cons_ne c 32 l hc,zbp,if_neg hc,← ih]
   cases hk:count l [32] with
   | zero=>simp [splitK]
   | succ k =>
    obtain ⟨i,hi⟩:=index_of_count (s:=l) (old:=[32]) (by omega)
    have h1:index (c::l) [32]=i+1:=by
     have hp:List.isPrefixOf [32] (c::l)=false:=by simp [List.isPrefixOf,Ne.symm hc]
     unfold index
     rw [hp,hi]
     simp
    have n1:¬((i:Int)+1==-1)=true:=by simp; omega
    have n2:¬((i:Int)==-1)=true:=by simp
    have e1:((i:Int)+1).toNat=i+1:=by omega
    simp only [splitK,h1,hi,if_neg n1,if_neg n2,e1,Int.toNat_natCast,List.length_cons,List.length_nil,Nat.add_zero,Nat.zero_add,List.take_succ_cons,List.drop_succ_cons]
def zhB(ws:List (List UInt8)):List UInt8:=Lib.join ws [32]
theorem zg8(w:List UInt8):zhB [w]=w:=join_one w [32]
theorem zhZ(w v:List UInt8)(ws:List (List UInt8)):zhB (w::v::ws)=w++32::zhB (v::ws):=by
 unfold zhB
 rw [join_cons,join_cons]
 simp [joinTail]
theorem zhY:∀l,zhB (zbp l)=l
 | []=>by simp [zbp,zg8]
 | c::l=>by
  have ih:=zhY l
  unfold zbp
  split
  ·rename_i hc
   subst hc
   obtain ⟨w,ws,e⟩:∃w ws,zbp l=w::ws:=by
    cases e:zbp l with
    | nil=>exact absurd e (zeF l)
    | cons w ws=>exact ⟨w,ws,rfl⟩
   rw [e] at ih ⊢
   rw [zhZ,ih]; rfl
  ·split
   ·rename_i w ws e
    rw [e] at ih
    cases ws with
    | nil=>rw [zg8] at ih ⊢; rw [ih]
    | cons v ws=>rw [zhZ] at ih ⊢; rw [List.cons_append,ih]
   ·rename_i e; exact absurd e (zeF l)
end Go.Vs
