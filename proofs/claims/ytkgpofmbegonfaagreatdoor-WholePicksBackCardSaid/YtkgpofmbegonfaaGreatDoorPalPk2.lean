import Derived.Test.YtkgpofmbegonfaaGreatDoorPalPk1
import Derived.Test.YtkgpofmbegonfaaGreatDoorPalJn
import Derived.Test.YtkgpofmbegonfaaGreatDoorPS0
set_option linter.all false
set_option maxRecDepth 10000
namespace Go.Vs
open Go.Lib
local instance tabPalPk2:Tab:=⟨fun _=>none⟩
theorem zlf{σ R:Type}(n:Nat)(step:σ->Option (σ ⊕ R))(Inv:Nat->σ->Prop)
  (h1:∀i a,i<n->Inv i a->∃a',step a=some (.inl a')/\Inv (i+1) a') (h2:∀a,Inv n a->∃r,step a=some (.inr r)) (a0:σ) (h0:Inv 0 a0):∃a r,zbn step a0=some r/\Inv n a/\step a=some (.inr r):=by
 have main:∀(k i:Nat) (a:σ),i+k=n->Inv i a->∃a' r,zbn step a=some r/\Inv n a'/\step a'=some (.inr r):=by
  intro k
  induction k with
  | zero =>
   intro i a e hi
   obtain rfl:i=n:=by omega
   obtain ⟨r,hr⟩:=h2 a hi
   exact ⟨a,r,zaM hr,hi,hr⟩
  | succ k ih =>
   intro i a e hi
   obtain ⟨a',e1,e2⟩:=h1 i a (by omega) hi
   rw [zbC e1]
   exact ih (i+1) a' (by omega) e2
 exact main n 0 a0 (by omega) h0
theorem zky(ws:List (List UInt8))(C:Nat)(h:∀w∈ws,w.length<=C):(joinTail [32] ws).length<=ws.length * (C+1):=by
 induction ws with
 | nil=>simp [joinTail]
 | cons w ws ih =>
  have h1:=h w (List.mem_cons_self ..)
  have h2:=ih fun x hx=>h x (List.mem_cons_of_mem _ hx)
  have e:joinTail [32] (w::ws)=32::(w++joinTail [32] ws):=by simp [joinTail]
  rw [e,List.length_cons,List.length_append,List.length_cons,Nat.add_mul,Nat.one_mul]
  omega
theorem zqy(ws:List (List UInt8))(hl:ws.length<=1000)(hw:∀w∈ws,w.length<=1000):zcu (ws.map bs) ⟨#[32]⟩=some (bs (zgF ws)):=by
 match ws,hl,hw with
 | [],_,_=>rfl
 | [w],_,_ =>
  unfold zcu
  simp only [List.map_cons,List.map_nil,List.length_cons,List.length_nil]
  rw [if_neg (by decide),if_pos (by decide),if_pos (by decide),zhl]
  rfl
 | w::v::r,hl,hw =>
  generalize hn:(w::v::r).map bs=l
  have hll:l.length=r.length+2:=by rw [← hn]; simp
  have hr:r.length+2<=1000:=by simpa using hl
  have w1:IntKind.wrap .i64 ((l.length:Int)-1)=(l.length:Int)-1:=zbV ⟨by omega,by omega⟩
  have hsz:∀x∈l,x.size<=1000:=by
   intro x hx
   rw [← hn] at hx
   obtain ⟨y,hy,rfl⟩:=List.mem_map.1 hx
   rw [zbJ]; exact hw y hy
  have s1:((⟨#[32]⟩:ByteArray).size:Int)=1:=rfl
  unfold zcu
  rw [if_neg (by rw [beq_iff_eq]; omega),if_neg (by rw [beq_iff_eq]; omega),s1,if_pos (by decide),w1,if_pos (show ¬(l.length:Int)-1=0 by omega),Option.bind_some]
  have hq:Int.tdiv 9223372036854775807 ((l.length:Int)-1)≥2:=by
   have h1:Int.tdiv 9223372036854775807 ((l.length:Int)-1)=9223372036854775807 / ((l.length:Int)-1):=Int.tdiv_eq_ediv_of_nonneg (by omega)
   rw [h1]
   exact Int.le_ediv_of_mul_le (by omega) (by omega)
  have hq2:Int.tdiv 9223372036854775807 ((l.length:Int)-1)<=9223372036854775807:=by
   have h1:Int.tdiv 9223372036854775807 ((l.length:Int)-1)=9223372036854775807 / ((l.length:Int)-1):=Int.tdiv_eq_ediv_of_nonneg (by omega)
   rw [h1]
   exact Int.ediv_le_self _ (by omega)
  rw [zbV (n:=Int.tdiv 9223372036854775807 ((l.length:Int)-1)) ⟨by omega,by omega⟩,if_neg (by simp; omega)]
  unfold zc7
  rw [s1,w1,Option.bind_some,zbV (n:=1 * ((l.length:Int)-1)) ⟨by omega,by omega⟩,zbV (n:=0+1 * ((l.length:Int)-1)) ⟨by omega,by omega⟩]
  unfold zct
  obtain ⟨_,n,e,hb,he⟩:=zlf l.length (zb1 l) (fun i s=>s.2=(i:Int)/\0<=s.1/\s.1<=1000+(i:Int) * 1000)
   (by
    rintro i ⟨a,j⟩ hi ⟨rfl,h1,h2⟩
    simp only at h1 h2
    have hx:=hsz _ (List.getElem_mem hi)
    have hat:l[i]?=some l[i]:=List.getElem?_eq_getElem hi
    refine ⟨(a+(l[i].size:Int),(i:Int)+1),?_,by simp,by simp only; omega,by simp only; push_cast; omega⟩
    simp only [zb1,zc8,zc9]
    rw [if_pos (zhj hat),if_pos (zdD hat),zeL hat,zbV (n:=9223372036854775807-a) ⟨by omega,by omega⟩,if_neg (by simp; omega),zbV (n:=a+(l[i].size:Int)) ⟨by omega,by omega⟩,wi (by omega)])
   (by
    rintro ⟨a,j⟩ ⟨rfl,h1,h2⟩
    exact ⟨a,by simp only [zb1]; rw [if_neg (by simp)]⟩) (0+1 * ((l.length:Int)-1),0) ⟨rfl,by simp only; omega,by simp only; omega⟩
  rename_i sfin
  obtain ⟨a,j⟩:=sfin
  obtain ⟨rfl,h1,h2⟩:=hb
  simp only at h1 h2
  simp only [zb1] at he
  rw [if_neg (by simp)] at he
  obtain rfl:=Sum.inr.inj (Option.some.inj he)
  rw [e,Option.bind_some,if_pos ⟨h1,by unfold Fits; omega⟩]
  have h0:l[0]?=some (bs w):=by rw [← hn]; rfl
  have r0:rd l 0=bs w:=zeL (i:=0) h0
  have hw0:=hw w (List.mem_cons_self ..)
  rw [if_pos (show InB 0 l.length from zdD (i:=0) h0),r0,if_pos (by unfold Fits; rw [zbJ]; show 0+_<=_; omega),Option.bind_some,if_pos ⟨by omega,by omega⟩,Option.bind_some]
  have hd:(l.take l.length).drop (Int.toNat 1)=(v::r).map bs:=by rw [List.take_length,← hn]; rfl
  rw [hd]
  generalize hm:(v::r).map bs=m
  have hml:m.length=r.length+1:=by rw [← hm]; simp
  have hwr:∀x∈v::r,x.length<=1000:=fun x hx=>hw x (List.mem_cons_of_mem _ hx)
  have L:=zcU (v::r) (fun i (s:ByteArray)=>(i,s)) (zci l m ⟨#[32]⟩) (fun i s x=>(.inl (s++⟨#[32]⟩++bs x):ByteArray ⊕ ByteArray)) id (fun i s=>s.size<=1000+i * 1001)
   (fun i x hx s hs=>by
    have hi:=(List.getElem?_eq_some_iff.1 hx).1
    have hmx:m[i]?=some (bs x):=by rw [← hm,List.getElem?_map,hx]; rfl
    have hxl:=hwr x (List.mem_of_getElem? hx)
    simp only [List.length_cons] at hi
    have t1:(⟨#[32]⟩:ByteArray).size=1:=rfl
    refine ⟨?_,fun a' ha'=>?_⟩
    ·simp only [zci]
     rw [hd,hm,if_pos (zhj hmx),if_pos (zdD hmx),if_pos (by unfold Fits; rw [t1]; omega),Option.bind_some,zeL hmx,if_pos (by unfold Fits; rw [ByteArray.size_append,t1,zbJ]; omega),Option.bind_some,wi (by omega)]
    ·obtain rfl:=Sum.inl.inj ha'
     rw [ByteArray.size_append,ByteArray.size_append,t1,zbJ,Nat.add_mul]
     omega)
   (fun s hs=>by
    simp only [zci]
    rw [hd,hm,if_neg (by rw [hml]; simp)]; rfl) ((⟨#[]⟩:ByteArray)++bs w) (by rw [ByteArray.size_append,zbJ]; show 0+_<=_; omega)
  rw [L,Option.bind_some]
  have key:∀(q:List (List UInt8)) (i:Nat) (s:ByteArray),zcN (fun i s x=>(.inl (s++⟨#[32]⟩++bs x):ByteArray ⊕ ByteArray)) id i s q=s++bs (joinTail [32] q):=by
   intro q
   induction q with
   | nil=>intro i s; exact bext (by simp [zcN,zbU,zcW,joinTail])
   | cons x q ih =>
    intro i s
    simp only [zcN]
    rw [ih]
    exact bext (by simp [zbU,zcW,joinTail])
  rw [key]
  have hjs:=zky (v::r) 1000 hwr
  have e2:(⟨#[]⟩:ByteArray)++bs w++bs (joinTail [32] (v::r))=bs (zgF (w::v::r)):=by
   refine bext ?_
   unfold zgF
   rw [join_cons]
   simp [zbU,zcW]
  rw [e2,if_pos (by
   unfold Fits zgF
   rw [zbJ,join_cons,List.length_append]
   simp only [List.length_cons] at hjs
   omega)]
end Go.Vs
