import Derived.Test.YtkgpofmbegonfaaGreatDoorPalPk2
import Derived.Test.YtkgpofmbegonfaaGreatDoorPalPk
import Derived.Test.YtkgpofmbegonfaaGreatDoorPalRead
set_option linter.all false
set_option maxRecDepth 10000
namespace Go.Vs
open Go.Lib
local instance tabPalPk3:Tab:=⟨fun _=>none⟩
theorem zfG(x:zan)(h:I64 x.Thread):(zc6 x).length<=22:=by
 have:=itoa_length_le x.Thread h.1 h.2
 unfold zc6
 rw [List.length_append]
 split
 ·simp; omega
 ·simp; omega
theorem zno(a b:List UInt8):bs a++(⟨#[32]⟩:ByteArray)++bs b=bs (a++32::b):=bext (by simp [zbU,zcW])
theorem zin{R:Type}(fin:ByteArray->R):∀(l:List zan) (i:Nat) (a:List UInt8),zcN (fun i s x=>(.inl (if 0<i then s++(⟨#[32]⟩:ByteArray)++bs (zc6 x) else s++bs (zc6 x)):ByteArray ⊕ R)) fin (i+1) (bs a) l=fin (bs (a++joinTail [32] (l.map zc6)))
 | [],i,a=>by simp [zcN,joinTail]
 | x::l,i,a=>by
  simp only [zcN]
  rw [if_pos (by omega),zno,zin fin l (i+1)]
  simp [joinTail]
theorem zgD(l:List zan)(hl:l.length<=900)(h:∀x∈l,I64 x.Thread):zbR l=some (zfi l):=by
 unfold zbR
 have L:=zcU l (fun i (s:ByteArray)=>(s,i)) (za7 l) (fun i s x=>(.inl (if 0<i then s++(⟨#[32]⟩:ByteArray)++bs (zc6 x) else s++bs (zc6 x)):ByteArray ⊕ ByteArray)) id (fun i s=>s.size<=i * 23)
  (fun i x hx s hs=>by
   have hi:=(List.getElem?_eq_some_iff.1 hx).1
   have w:=h x (List.mem_of_getElem? hx)
   have hz:=zfG x w
   have hb:(bs (zc6 x)).size<=22:=by rw [zbJ]; exact hz
   have t1:(⟨#[32]⟩:ByteArray).size=1:=rfl
   have t2:(⟨#[102]⟩:ByteArray).size=1:=rfl
   have hit:(zcV x.Thread).size<=21:=by unfold zcV; rw [zbJ]; exact itoa_length_le _ w.1 w.2
   have j2:∀u:ByteArray,u.size<=i * 23+1->za8 (i:Int) l u=some (.inl (u++bs (zc6 x),(i:Int)+1)):=by
    intro u hu
    unfold za8
    rw [if_pos (zdD hx),zeL hx,zfN _ w,Option.bind_some,if_pos (by unfold zeF; omega),if_pos (zdD hx)]
    unfold zbs zc6
    cases hf:x.Flush with
    | true =>
     rw [if_pos rfl,if_pos (by unfold zeF; rw [ByteArray.size_append,t2]; omega),wi (by omega)]
     have e:u++zcV x.Thread++(⟨#[102]⟩:ByteArray)=u++bs (itoa x.Thread++[102]):=bext (by simp [zbU,zcW,zcV])
     rw [e]; rfl
    | false =>
     rw [if_neg (by decide),wi (by omega)]
     have e:u++zcV x.Thread=u++bs (itoa x.Thread++[]):=bext (by simp [zbU,zcW,zcV])
     rw [e]; rfl
   refine ⟨?_,fun a' ha'=>?_⟩
   ·simp only [za7]
    rw [if_pos (zhj hx)]
    by_cases h0:0<i
    ·rw [if_pos (by simp; omega),if_pos (by unfold zeF; rw [t1]; omega),j2 _ (by rw [ByteArray.size_append,t1]; omega),if_pos h0]
    ·rw [if_neg (by simp; omega),j2 _ (by omega),if_neg h0]
   ·obtain rfl:=Sum.inl.inj ha'
    split
    ·rw [ByteArray.size_append,ByteArray.size_append,t1,Nat.add_mul]; omega
    ·rw [ByteArray.size_append,Nat.add_mul]; omega)
  (fun s hs=>by
   simp only [za7]
   rw [if_neg (by simp)]; rfl) ⟨#[]⟩ (by show 0<=_; omega)
 rw [L,Option.bind_some]
 congr 1
 cases l with
 | nil=>rfl
 | cons x l =>
  simp only [zcN]
  rw [if_neg (by omega)]
  have e:(⟨#[]⟩:ByteArray)++bs (zc6 x)=bs (zc6 x):=bext (by simp [zbU])
  rw [e,zin id l 0]
  unfold zfi zgF
  rw [List.map_cons,join_cons]
  rfl
theorem zjx{α β R:Type}(g:α->β)(fin:List β->R):∀(l:List α) (i:Nat) (a:List β),zcN (fun _ a x=>(.inl (a++[g x]):List β ⊕ R)) fin i a l=fin (a++l.map g)
 | [],i,a=>by simp [zcN]
 | x::l,i,a=>by
  simp only [zcN]
  rw [zjx g fin l (i+1)]
  simp
theorem zeo(l:List zan)(hl:l.length<=900)(h:∀x∈l,I64 x.Thread):zbQ l=some (zfi l):=by
 unfold zbQ
 have L:=zcU l (fun i (a:List ByteArray)=>(i,a)) (zbI l) (fun _ a x=>(.inl (a++[bs (zc6 x)]):List ByteArray ⊕ List ByteArray)) id (fun i a=>a.length=i)
  (fun i x hx a ha=>by
   have hi:=(List.getElem?_eq_some_iff.1 hx).1
   have w:=h x (List.mem_of_getElem? hx)
   have t2:(⟨#[102]⟩:ByteArray).size=1:=rfl
   have hit:(zcV x.Thread).size<=21:=by unfold zcV; rw [zbJ]; exact itoa_length_le _ w.1 w.2
   refine ⟨?_,fun a' ha'=>?_⟩
   ·simp only [zbI]
    rw [if_pos (zhj hx),if_pos (zdD hx),zeL hx,zmL w,Option.bind_some]
    unfold zb3 zc6
    cases hf:x.Flush with
    | true =>
     have e:zcV x.Thread++(⟨#[102]⟩:ByteArray)=bs (itoa x.Thread++[102]):=bext (by simp [zbU,zcW,zcV])
     rw [if_pos rfl,if_pos (by unfold zeF; rw [t2]; omega),if_pos (by unfold Fits; omega),Option.bind_some,wi (by omega),e]; rfl
    | false =>
     have e:zcV x.Thread=bs (itoa x.Thread++[]):=bext (by simp [zcW,zcV])
     rw [if_neg (by decide),if_pos (by unfold Fits; omega),Option.bind_some,wi (by omega),e]; rfl
   ·obtain rfl:=Sum.inl.inj ha'
    simp [ha])
  (fun a ha=>by
   simp only [zbI]
   rw [if_neg (by simp)]; rfl) [] rfl
 rw [L,zjx (fun x=>bs (zc6 x)) id l 0 [],Option.bind_some]
 have e:([]++l.map fun x=>bs (zc6 x):List ByteArray)=(l.map zc6).map bs:=by rw [List.nil_append,List.map_map]; rfl
 show (zcu ([]++l.map fun x=>bs (zc6 x)) _).bind _=_
 rw [e,zqy (l.map zc6) (by rw [List.length_map]; omega) (fun w hw=>by
  obtain ⟨x,hx,rfl⟩:=List.mem_map.1 hw
  have:=zfG x (h x hx); omega)]
 rfl
end Go.Vs
