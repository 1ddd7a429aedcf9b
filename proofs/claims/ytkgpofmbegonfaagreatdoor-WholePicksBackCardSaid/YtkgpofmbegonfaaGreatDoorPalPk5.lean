import Derived.Test.YtkgpofmbegonfaaGreatDoorPalPk4
import Derived.Test.YtkgpofmbegonfaaGreatDoorPP5
set_option linter.all false
set_option maxRecDepth 10000
namespace Go.Vs
open Go.Lib
local instance tabPalPk5:Tab:=⟨fun _=>none⟩
theorem zo5(w:ByteArray)(l:List Int)(hw:w.size<=100)(hl:l.length<=10)(h:∀x∈l,I64 x):zdG w l=some (l.foldl (fun s x=>s++((⟨#[32]⟩:ByteArray)++zcV x)) w++⟨#[10]⟩):=by
 unfold zdG
 have t1:(⟨#[32]⟩:ByteArray).size=1:=rfl
 have t2:(⟨#[10]⟩:ByteArray).size=1:=rfl
 have hit:∀x∈l,(zcV x).size<=21:=fun x hx=>by unfold zcV; rw [zbJ]; exact itoa_length_le _ (h x hx).1 (h x hx).2
 have L:=zcU l (fun i (s:ByteArray)=>(s,i)) (zcF l) (fun _ s x=>(.inl (s++((⟨#[32]⟩:ByteArray)++zcV x)):ByteArray ⊕ ByteArray)) id (fun i s=>s.size<=100+i * 22)
  (fun i x hx s hs=>by
   have hi:=(List.getElem?_eq_some_iff.1 hx).1
   have hm:=List.mem_of_getElem? hx
   have h1:=hit x hm
   refine ⟨?_,fun a' ha'=>?_⟩
   ·simp only [zcF]
    rw [if_pos (zhj hx),if_pos (zdD hx),zeL hx,zmL (h x hm),Option.bind_some,if_pos (by unfold zeF; rw [t1]; omega),if_pos (by unfold zeF; rw [ByteArray.size_append,t1]; omega),wi (by omega)]
   ·obtain rfl:=Sum.inl.inj ha'
    rw [ByteArray.size_append,ByteArray.size_append,t1,Nat.add_mul]; omega)
  (fun s hs=>by
   simp only [zcF]
   rw [if_neg (by simp)]; rfl) w (by omega)
 rw [L,Option.bind_some]
 have key:∀(q:List Int) (i:Nat) (s:ByteArray),(∀x∈q,(zcV x).size<=21)->zcN (fun _ s x=>(.inl (s++((⟨#[32]⟩:ByteArray)++zcV x)):ByteArray ⊕ ByteArray)) id i s q=q.foldl (fun s x=>s++((⟨#[32]⟩:ByteArray)++zcV x)) s/\(q.foldl (fun s x=>s++((⟨#[32]⟩:ByteArray)++zcV x)) s).size<=s.size+q.length * 22:=by
  intro q
  induction q with
  | nil=>intro i s _; exact ⟨rfl,by simp⟩
  | cons x q ih =>
   intro i s hq
   obtain ⟨e1,e2⟩:=ih (i+1) (s++((⟨#[32]⟩:ByteArray)++zcV x)) fun y hy=>hq y (List.mem_cons_of_mem _ hy)
   have h1:=hq x (List.mem_cons_self ..)
   refine ⟨by simp only [zcN]; exact e1,?_⟩
   rw [List.foldl_cons]
   rw [ByteArray.size_append,ByteArray.size_append,t1] at e2
   simp only [List.length_cons,Nat.add_mul]
   omega
 obtain ⟨k1,k2⟩:=key l 0 w hit
 rw [k1,if_pos (by unfold zeF; rw [t2]; omega)]
theorem zlc:(zjd ⟨#[]⟩).2=⟨0,0,0⟩:=by decide +kernel
theorem zgz:zbZ=some true:=by
 have e1:zbW (⟨#[48,32,49,102]⟩:ByteArray)=some ([zan.mk 0 false,zan.mk 1 true],true):=by
  rw [zdE ⟨#[48,32,49,102]⟩ (show (4:Nat)<=4000 by decide)]
  have:zhd (⟨#[48,32,49,102]⟩:ByteArray)=([zan.mk 0 false,zan.mk 1 true],true):=by decide +kernel
  rw [this]
 have e2:zbW (⟨#[48,32,32,49]⟩:ByteArray)=some ([],false):=by
  rw [zdE ⟨#[48,32,32,49]⟩ (show (4:Nat)<=4000 by decide)]
  have:zhd (⟨#[48,32,32,49]⟩:ByteArray)=([],false):=by decide +kernel
  rw [this]
 have e3:zbQ [zan.mk 0 false,zan.mk 1 true]=some (⟨#[48,32,49,102]⟩:ByteArray):=by
  rw [zeo _ (by simp) (by intro x hx; simp at hx; rcases hx with rfl | rfl <;> exact ⟨by decide,by decide⟩)]
  have:zfi [zan.mk 0 false,zan.mk 1 true]=(⟨#[48,32,49,102]⟩:ByteArray):=by decide +kernel
  rw [this]
 have e4:zb9 (⟨#[110,111,112]⟩:ByteArray) (⟨#[]⟩:ByteArray)=some (⟨#[102,97,117,108,116,32,52,32,49,32,49,10]⟩:ByteArray):=by
  unfold zb9
  rw [zij ⟨#[110,111,112]⟩ (show (3:Nat)<=99000 by decide),Option.bind_some]
  have:(zjd ⟨#[110,111,112]⟩).2=⟨4,1,1⟩:=by decide +kernel
  rw [this,if_pos (by decide),zo5 ⟨#[102,97,117,108,116]⟩ _ (show (5:Nat)<=100 by decide) (by simp) (by intro x hx; simp at hx; rcases hx with rfl | rfl <;> exact ⟨by decide,by decide⟩),Option.bind_some]
  have:([4,1,1]:List Int).foldl (fun s x=>s++((⟨#[32]⟩:ByteArray)++zcV x)) (⟨#[102,97,117,108,116]⟩:ByteArray)++(⟨#[10]⟩:ByteArray)=(⟨#[102,97,117,108,116,32,52,32,49,32,49,10]⟩:ByteArray):=by decide +kernel
  exact congrArg some this
 have e5:zb9 (⟨#[]⟩:ByteArray) (⟨#[120]⟩:ByteArray)=some (⟨#[112,105,99,107,115,10]⟩:ByteArray):=by
  unfold zb9
  rw [zij ⟨#[]⟩ (show (0:Nat)<=99000 by decide),Option.bind_some,zlc,if_neg (by decide),zdE ⟨#[120]⟩ (show (1:Nat)<=4000 by decide),Option.bind_some]
  have:zhd (⟨#[120]⟩:ByteArray)=([],false):=by decide +kernel
  rw [this,if_pos (by decide),zo5 ⟨#[112,105,99,107,115]⟩ _ (show (5:Nat)<=100 by decide) (by simp) (by simp),Option.bind_some]
  rfl
 unfold zbZ
 rw [e1,e2]
 simp only [Option.bind_some]
 rw [zh3 _ (by simp)]
 simp only [Option.bind_some,Bool.and_self,Bool.not_false,if_true,e3,decide_true,e4,e5]
theorem zfB(l:List zan)(h:∀x∈l,I64 x.Thread):zbz l=some true:=by
 unfold zbz
 by_cases hl:decide ((l.length:Int)>40)=true
 ·rw [if_pos hl,zgz]; rfl
 ·rw [if_neg hl]
  have hl:l.length<=40:=by simp at hl; omega
  have hsz:(zfi l).size<=4000:=by
   unfold zfi zgF
   rw [zbJ]
   cases l with
   | nil=>simp [join]
   | cons x l =>
    rw [List.map_cons,join_cons,List.length_append]
    have h1:=zfG x (h x (List.mem_cons_self ..))
    have h2:=zky (l.map zc6) 22 (fun w hw=>by
     obtain ⟨y,hy,rfl⟩:=List.mem_map.1 hw
     exact zfG y (h y (List.mem_cons_of_mem _ hy)))
    rw [List.length_map] at h2
    simp only [List.length_cons] at hl
    omega
  rw [zeo l (by omega) h,Option.bind_some,zdE _ hsz,zlb h,Option.bind_some,zgD l (by omega) h,zgz]
  simp [zh3 l (by omega)]
end Go.Vs
