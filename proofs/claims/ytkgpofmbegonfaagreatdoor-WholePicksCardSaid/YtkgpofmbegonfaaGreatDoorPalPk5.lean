import Derived.Test.YtkgpofmbegonfaaGreatDoorPalPk4
import Derived.Test.YtkgpofmbegonfaaGreatDoorPP5
set_option linter.all false
set_option maxRecDepth 10000
namespace Go.Vs
open Go.Lib
local instance tabPalPk5:Tab:=⟨fun _=>none⟩
theorem znr(w:ByteArray)(l:List Int)(hw:w.size<=100)(hl:l.length<=10)(h:∀x∈l,I64 x):zdt w l=some (l.foldl (fun s x=>s++((⟨#[32]⟩:ByteArray)++zdK x)) w++⟨#[10]⟩):=by
 unfold zdt
 have t1:(⟨#[32]⟩:ByteArray).size=1:=rfl
 have t2:(⟨#[10]⟩:ByteArray).size=1:=rfl
 have hit:∀x∈l,(zdK x).size<=21:=fun x hx=>by unfold zdK; rw [zby]; exact itoa_length_le _ (h x hx).1 (h x hx).2
 have L:=zc2 l (fun i (s:ByteArray)=>(s,i)) (zcv l) (fun _ s x=>(.inl (s++((⟨#[32]⟩:ByteArray)++zdK x)):ByteArray ⊕ ByteArray)) id (fun i s=>s.size<=100+i * 22)
  (fun i x hx s hs=>by
   have hi:=(List.getElem?_eq_some_iff.1 hx).1
   have hm:=List.mem_of_getElem? hx
   have h1:=hit x hm
   refine ⟨?_,fun a' ha'=>?_⟩
   ·simp only [zcv]
    rw [if_pos (zhA hx),if_pos (zd1 hx),zeH hx,zlI (h x hm),Option.bind_some,if_pos (by unfold zfx; rw [t1]; omega),if_pos (by unfold zfx; rw [ByteArray.size_append,t1]; omega),wi (by omega)]
   ·obtain rfl:=Sum.inl.inj ha'
    rw [ByteArray.size_append,ByteArray.size_append,t1,Nat.add_mul]; omega)
  (fun s hs=>by
   simp only [zcv]
   rw [if_neg (by simp)]; rfl) w (by omega)
 rw [L,Option.bind_some]
 have key:∀(q:List Int) (i:Nat) (s:ByteArray),(∀x∈q,(zdK x).size<=21)->zcQ (fun _ s x=>(.inl (s++((⟨#[32]⟩:ByteArray)++zdK x)):ByteArray ⊕ ByteArray)) id i s q=q.foldl (fun s x=>s++((⟨#[32]⟩:ByteArray)++zdK x)) s/\(q.foldl (fun s x=>s++((⟨#[32]⟩:ByteArray)++zdK x)) s).size<=s.size+q.length * 22:=by
  intro q
  induction q with
  | nil=>intro i s _; exact ⟨rfl,by simp⟩
  | cons x q ih =>
   intro i s hq
   obtain ⟨e1,e2⟩:=ih (i+1) (s++((⟨#[32]⟩:ByteArray)++zdK x)) fun y hy=>hq y (List.mem_cons_of_mem _ hy)
   have h1:=hq x (List.mem_cons_self ..)
   refine ⟨by simp only [zcQ]; exact e1,?_⟩
   rw [List.foldl_cons]
   rw [ByteArray.size_append,ByteArray.size_append,t1] at e2
   simp only [List.length_cons,Nat.add_mul]
   omega
 obtain ⟨k1,k2⟩:=key l 0 w hit
 rw [k1,if_pos (by unfold zfx; rw [t2]; omega)]
theorem zkG:(ziW ⟨#[]⟩).2=⟨0,0,0⟩:=by decide +kernel
theorem zgs:zb6=some true:=by
 have e1:zbD (⟨#[48,32,49,102]⟩:ByteArray)=some ([zaj.mk 0 false,zaj.mk 1 true],true):=by
  rw [zdp ⟨#[48,32,49,102]⟩ (show (4:Nat)<=4000 by decide)]
  have:zez (⟨#[48,32,49,102]⟩:ByteArray)=([zaj.mk 0 false,zaj.mk 1 true],true):=by decide +kernel
  rw [this]
 have e2:zbD (⟨#[48,32,32,49]⟩:ByteArray)=some ([],false):=by
  rw [zdp ⟨#[48,32,32,49]⟩ (show (4:Nat)<=4000 by decide)]
  have:zez (⟨#[48,32,32,49]⟩:ByteArray)=([],false):=by decide +kernel
  rw [this]
 have e3:zbx [zaj.mk 0 false,zaj.mk 1 true]=some (⟨#[48,32,49,102]⟩:ByteArray):=by
  rw [zek _ (by simp) (by intro x hx; simp at hx; rcases hx with rfl | rfl <;> exact ⟨by decide,by decide⟩)]
  have:zj0 [zaj.mk 0 false,zaj.mk 1 true]=(⟨#[48,32,49,102]⟩:ByteArray):=by decide +kernel
  rw [this]
 have e4:zbV (⟨#[110,111,112]⟩:ByteArray) (⟨#[]⟩:ByteArray)=some (⟨#[102,97,117,108,116,32,52,32,49,32,49,10]⟩:ByteArray):=by
  unfold zbV
  rw [zh3 ⟨#[110,111,112]⟩ (show (3:Nat)<=99000 by decide),Option.bind_some]
  have:(ziW ⟨#[110,111,112]⟩).2=⟨4,1,1⟩:=by decide +kernel
  rw [this,if_pos (by decide),znr ⟨#[102,97,117,108,116]⟩ _ (show (5:Nat)<=100 by decide) (by simp) (by intro x hx; simp at hx; rcases hx with rfl | rfl <;> exact ⟨by decide,by decide⟩),Option.bind_some]
  have:([4,1,1]:List Int).foldl (fun s x=>s++((⟨#[32]⟩:ByteArray)++zdK x)) (⟨#[102,97,117,108,116]⟩:ByteArray)++(⟨#[10]⟩:ByteArray)=(⟨#[102,97,117,108,116,32,52,32,49,32,49,10]⟩:ByteArray):=by decide +kernel
  exact congrArg some this
 have e5:zbV (⟨#[]⟩:ByteArray) (⟨#[120]⟩:ByteArray)=some (⟨#[112,105,99,107,115,10]⟩:ByteArray):=by
  unfold zbV
  rw [zh3 ⟨#[]⟩ (show (0:Nat)<=99000 by decide),Option.bind_some,zkG,if_neg (by decide),zdp ⟨#[120]⟩ (show (1:Nat)<=4000 by decide),Option.bind_some]
  have:zez (⟨#[120]⟩:ByteArray)=([],false):=by decide +kernel
  rw [this,if_pos (by decide),znr ⟨#[112,105,99,107,115]⟩ _ (show (5:Nat)<=100 by decide) (by simp) (by simp),Option.bind_some]
  rfl
 unfold zb6
 rw [e1,e2]
 simp only [Option.bind_some]
 rw [zhO _ (by simp)]
 simp only [Option.bind_some,Bool.and_self,Bool.not_false,if_true,e3,decide_true,e4,e5]
theorem zlE(s:ByteArray):(zez s).1.length<=s.size+1:=by
 unfold zez
 split
 ·simp
 ·split
  ·rename_i r hr
   obtain ⟨e,_⟩:=zfm hr
   have h1:=(zf4 s.data.toList).1
   rw [e,List.length_map,← zgf] at h1
   exact h1
  ·simp
theorem zhq(s:ByteArray):zbP s=some true:=by
 obtain ⟨t,e,ht⟩:=zkw s (n:=100) (by decide)
 unfold zbP
 rw [e,Option.bind_some,zdp t (by omega),Option.bind_some,ziS t (by omega),Option.bind_some]
 have hl:=zlE t
 cases hp:zez t with
 | mk l ok =>
  rw [hp] at hl
  simp only at hl ⊢
  rw [zhO l (by omega),Option.bind_some]
  cases ok with
  | true =>
   obtain ⟨e1,e2⟩:=zkF hp
   rw [zek l (by omega) e2,e1,zgs]
   simp
  | false =>
   rw [zgs]
   simp
end Go.Vs
