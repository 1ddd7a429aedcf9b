import Derived.Test.YtkgpofmbegonfaaGreatDoorPalPk2
import Derived.Test.YtkgpofmbegonfaaGreatDoorPalPk
import Derived.Test.YtkgpofmbegonfaaGreatDoorPalRead
set_option linter.all false
set_option maxRecDepth 10000
namespace Go.Vs
open Go.Lib
local instance tabPalPk3:Tab:=⟨fun _=>none⟩
theorem zlk(x:zaj)(h:I64 x.Thread):(zf3 x).length<=22:=by
 have:=itoa_length_le x.Thread h.1 h.2
 unfold zf3
 rw [List.length_append]
 split
 ·simp; omega
 ·simp; omega
theorem zjh{α β R:Type}(g:α->β)(fin:List β->R):∀(l:List α) (i:Nat) (a:List β),zcQ (fun _ a x=>(.inl (a++[g x]):List β ⊕ R)) fin i a l=fin (a++l.map g)
 | [],i,a=>by simp [zcQ]
 | x::l,i,a=>by
  simp only [zcQ]
  rw [zjh g fin l (i+1)]
  simp
theorem zek(l:List zaj)(hl:l.length<=900)(h:∀x∈l,I64 x.Thread):zbx l=some (zj0 l):=by
 unfold zbx
 have L:=zc2 l (fun i (a:List ByteArray)=>(i,a)) (zbn l) (fun _ a x=>(.inl (a++[bs (zf3 x)]):List ByteArray ⊕ List ByteArray)) id (fun i a=>a.length=i)
  (fun i x hx a ha=>by
   have hi:=(List.getElem?_eq_some_iff.1 hx).1
   have w:=h x (List.mem_of_getElem? hx)
   have t2:(⟨#[102]⟩:ByteArray).size=1:=rfl
   have hit:(zdK x.Thread).size<=21:=by unfold zdK; rw [zby]; exact itoa_length_le _ w.1 w.2
   refine ⟨?_,fun a' ha'=>?_⟩
   ·simp only [zbn]
    rw [if_pos (zhA hx),if_pos (zd1 hx),zeH hx,zlI w,Option.bind_some]
    unfold zbN zf3
    cases hf:x.Flush with
    | true =>
     have e:zdK x.Thread++(⟨#[102]⟩:ByteArray)=bs (itoa x.Thread++[102]):=bext (by simp [zfZ,zey,zdK])
     rw [if_pos rfl,if_pos (by unfold zfx; rw [t2]; omega),if_pos (by unfold Fits; omega),Option.bind_some,wi (by omega),e]; rfl
    | false =>
     have e:zdK x.Thread=bs (itoa x.Thread++[]):=bext (by simp [zey,zdK])
     rw [if_neg (by decide),if_pos (by unfold Fits; omega),Option.bind_some,wi (by omega),e]; rfl
   ·obtain rfl:=Sum.inl.inj ha'
    simp [ha])
  (fun a ha=>by
   simp only [zbn]
   rw [if_neg (by simp)]; rfl) [] rfl
 rw [L,zjh (fun x=>bs (zf3 x)) id l 0 [],Option.bind_some]
 have e:([]++l.map fun x=>bs (zf3 x):List ByteArray)=(l.map zf3).map bs:=by rw [List.nil_append,List.map_map]; rfl
 show (zcn ([]++l.map fun x=>bs (zf3 x)) _).bind _=_
 rw [e,zov (l.map zf3) (by rw [List.length_map]; omega) (fun w hw=>by
  obtain ⟨x,hx,rfl⟩:=List.mem_map.1 hw
  have:=zlk x (h x hx); omega)]
 rfl
end Go.Vs
