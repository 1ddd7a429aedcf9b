import Derived.Test.YtkgpofmbegonfaaGreatDoorPalA
import Derived.Lib.ItoaNum
import Derived.Lib.ItoaLen
import Derived.Lib.ParseIntBTie
set_option linter.all false
namespace Go.Vs
local instance:Tab:=⟨fun _=>none⟩
open Go.Lib (decDigits itoa nDigits)
def I64(n:Int):Prop:=-9223372036854775808<=n/\n<=9223372036854775807
instance (n:Int):Decidable (I64 n):=inferInstanceAs (Decidable (_/\_))
theorem wi64(n:Int):IntKind.wrap .i64 n=(n+9223372036854775808) % 18446744073709551616-9223372036854775808:=by
 simp only [IntKind.wrap,IntKind.bits,IntKind.signed,Bool.true_and,decide_eq_true_eq,ge_iff_le]
 split <;> omega
theorem wu64(n:Int):IntKind.wrap .u64 n=n % 18446744073709551616:=by
 simp [IntKind.wrap,IntKind.bits,IntKind.signed]
theorem wu8(n:Int):IntKind.wrap .u8 n=n % 256:=by
 simp [IntKind.wrap,IntKind.bits,IntKind.signed]
theorem zbg{n:Int}(h:I64 n):IntKind.wrap .i64 n=n:=by obtain ⟨h1,h2⟩:=h; rw [wi64]; omega
theorem bext{a b:ByteArray}(h:a.data.toList=b.data.toList):a=b:=ByteArray.ext (Array.ext' h)
theorem zfZ(a b:ByteArray):(a++b).data.toList=a.data.toList++b.data.toList:=by simp [ByteArray.data_append]
theorem zgf(b:ByteArray):b.size=b.data.toList.length:=by rw [Array.length_toList]; rfl
def bs(l:List UInt8):ByteArray:=⟨l.toArray⟩
theorem zey(l:List UInt8):(bs l).data.toList=l:=by simp [bs]
theorem zmg(b:ByteArray):bs b.data.toList=b:=bext (zey _)
theorem zby(l:List UInt8):(bs l).size=l.length:=by rw [zgf,zey]
def zdK(n:Int):ByteArray:=bs (itoa n)
theorem zk1(l:List UInt8)(i:Nat)(h:i<l.length):bt (bs l) (i:Int)=((l[i]'h).toNat:Int):=by
 simp only [bt,zey,Int.toNat_natCast]
 rw [List.getD_eq_getElem?_getD,List.getElem?_eq_getElem h]; rfl
def zdm(c:UInt8):Bool:=decide (48<=c.toNat/\c.toNat<=57)
def valD(l:List UInt8):Nat:=l.foldl (fun a c=>a * 10+(c.toNat-48)) 0
theorem zgP(l:List UInt8)(c:UInt8):valD (l++[c])=valD l * 10+(c.toNat-48):=by simp [valD]
theorem ziE(d:Nat)(h:d<10):(UInt8.ofNat (48+d)).toNat=48+d:=by
 rw [UInt8.toNat_ofNat']; omega
theorem zcq(u:Nat):valD (decDigits u)=u/\(decDigits u).all zdm=true/\decDigits u≠[]/\(u≠0->(decDigits u).head?≠some 48):=by
 induction u using Nat.strongRecOn with
 | _ u ih =>
  by_cases h:u<10
  ·rw [Lib.decDigits_one h]
   refine ⟨?_,?_,by simp,fun h0=>?_⟩
   ·simp only [valD,List.foldl_cons,List.foldl_nil,ziE u h]; omega
   ·simp only [List.all_cons,List.all_nil,Bool.and_true,zdm,ziE u h,decide_eq_true_eq]; omega
   ·simp only [List.head?_cons,ne_eq,Option.some.injEq]
    intro e
    have:=congrArg UInt8.toNat e
    rw [ziE u h] at this
    have e48:(48:UInt8).toNat=48:=rfl
    omega
  ·rw [decDigits,dif_neg h]
   obtain ⟨h1,h2,h3,h4⟩:=ih (u / 10) (by omega)
   have hd:=ziE (u % 10) (by omega)
   refine ⟨by rw [zgP,h1,hd]; omega,?_,by simp,fun _=>?_⟩
   ·rw [List.all_append,h2]
    simp only [List.all_cons,List.all_nil,Bool.and_true,Bool.true_and,zdm,hd,decide_eq_true_eq]; omega
   ·have:=h4 (by omega)
    cases hl:decDigits (u / 10) with
    | nil=>exact absurd hl h3
    | cons a l=>rw [hl] at this; simpa using this
theorem zd6:decDigits 0=[48]:=by rw [Lib.decDigits_one (by omega)]; rfl
theorem zkk{c:UInt8}(h:zdm c=true):UInt8.ofNat (48+(c.toNat-48))=c:=by
 simp only [zdm,decide_eq_true_eq] at h
 have:48+(c.toNat-48)=c.toNat:=by omega
 rw [this]; simp
theorem zhM(l:List UInt8):l=[]\/∃i c,l=i++[c]:=by
 rcases List.eq_nil_or_concat l with h | ⟨i,c,h⟩
 ·exact .inl h
 ·exact .inr ⟨i,c,by simpa using h⟩
theorem zfW:∀(n:Nat) (l:List UInt8),l.length=n->l≠[]->l.all zdm=true->(l.head?=some 48->l=[48])->decDigits (valD l)=l:=by
 intro n
 induction n with
 | zero=>intro l h0 h1; exact absurd (List.eq_nil_of_length_eq_zero h0) h1
 | succ n ih =>
  intro l hl h1 h2 h3
  rcases zhM l with rfl | ⟨i,c,rfl⟩
  ·exact absurd rfl h1
  ·rw [List.all_append] at h2
   simp only [List.all_cons,List.all_nil,Bool.and_true,Bool.and_eq_true] at h2
   have hc:=h2.2
   have hc2:48<=c.toNat/\c.toNat<=57:=by simpa [zdm] using hc
   rw [zgP]
   by_cases hi:i=[]
   ·subst hi
    have e:valD ([]:List UInt8) * 10+(c.toNat-48)=c.toNat-48:=by simp [valD]
    rw [e,Lib.decDigits_one (by omega),zkk hc]
    rfl
   ·have hih:=ih i (by simp at hl; exact hl) hi h2.1 (fun hh=>by
     have:=h3 (by cases i with
      | nil=>exact absurd rfl hi
      | cons a i=>simpa using hh)
     cases i with
     | nil=>exact absurd rfl hi
     | cons a i=>simp at this)
    have hv:valD i≠0:=by
     intro h0
     rw [h0,zd6] at hih
     have:(i++[c]).head?=some 48:=by rw [← hih]; rfl
     have:=h3 this
     rw [← hih] at this
     simp at this
    rw [decDigits,dif_neg (by omega)]
    have e1:(valD i * 10+(c.toNat-48)) / 10=valD i:=by omega
    have e2:(valD i * 10+(c.toNat-48)) % 10=c.toNat-48:=by omega
    rw [e1,e2,hih,zkk hc]
def zf7(l:List UInt8):Option Int :=
 let d:=if l.head?=some 45 then l.tail else l
 if d≠[]/\d.all zdm=true/\(d.head?=some 48->d=[48]/\l.head?≠some 45)/\(if l.head?=some 45 then valD d<=9223372036854775808 else valD d<9223372036854775808) then
  some (if l.head?=some 45 then -(valD d:Int) else valD d) else none
theorem zlR(n:Int):((itoa n).head?=some 45) ↔ n<0:=by
 rw [itoa]
 by_cases h:n<0
 ·rw [if_pos h]; simp [h]
 ·rw [if_neg h]
  simp only [h,iff_false]
  intro hh
  obtain ⟨_,h2,h3,_⟩:=zcq n.toNat
  cases hl:decDigits n.toNat with
  | nil=>exact h3 hl
  | cons a l =>
   rw [hl] at hh h2
   simp only [List.head?_cons,Option.some.injEq] at hh
   subst hh
   simp [zdm] at h2
theorem zeX{l:List UInt8}{v:Int}:zf7 l=some v ↔ I64 v/\l=itoa v:=by
 constructor
 ·intro h
  unfold zf7 at h
  by_cases hm:l.head?=some 45
  ·simp only [hm,if_true] at h
   split at h
   ·rename_i hc
    obtain ⟨h1,h2,h3,h4⟩:=hc
    obtain rfl:=Option.some.inj h
    have h5:l.tail.head?≠some 48:=fun hh=>absurd rfl (h3 hh).2
    have hv:=zfW _ l.tail rfl h1 h2 (fun hh=>absurd hh h5)
    have hv0:valD l.tail≠0:=by
     intro h0
     rw [h0,zd6] at hv
     rw [← hv] at h5; exact h5 rfl
    refine ⟨⟨by omega,by omega⟩,?_⟩
    rw [itoa,if_pos (by omega),Int.natAbs_neg,Int.natAbs_natCast,hv]
    cases l with
    | nil=>simp at hm
    | cons a l=>simp at hm; subst hm; rfl
   ·cases h
  ·simp only [hm,if_false] at h
   split at h
   ·rename_i hc
    obtain ⟨h1,h2,h3,h4⟩:=hc
    obtain rfl:=Option.some.inj h
    have hv:=zfW _ l rfl h1 h2 (fun hh=>(h3 hh).1)
    refine ⟨⟨by omega,by omega⟩,?_⟩
    rw [itoa,if_neg (by omega),Int.toNat_natCast,hv]
   ·cases h
 ·rintro ⟨⟨h1,h2⟩,rfl⟩
  unfold zf7
  have hh:=zlR v
  by_cases hn:v<0
  ·have hm:=hh.2 hn
   simp only [hm,if_true]
   have ht:(itoa v).tail=decDigits v.natAbs:=by rw [itoa,if_pos hn]; rfl
   obtain ⟨f1,f2,f3,f4⟩:=zcq v.natAbs
   rw [ht,f1,if_pos ⟨f3,f2,fun h=>absurd h (f4 (by omega)),by omega⟩]
   congr 1; omega
  ·have hm:(itoa v).head?≠some 45:=fun h=>hn (hh.1 h)
   simp only [hm,if_false]
   have ht:itoa v=decDigits v.toNat:=by rw [itoa,if_neg hn]
   obtain ⟨f1,f2,f3,f4⟩:=zcq v.toNat
   have hz:(decDigits v.toNat).head?=some 48->decDigits v.toNat=[48]/\(decDigits v.toNat).head?≠some 45:=by
    intro h
    by_cases h0:v.toNat=0
    ·rw [h0,zd6]; exact ⟨rfl,by simp⟩
    ·exact absurd h (f4 h0)
   rw [ht] at hm ⊢
   rw [f1,if_pos ⟨f3,f2,fun h=>⟨(hz h).1,by simpa using (hz h).2⟩,by omega⟩]
   congr 1; omega
theorem zkD{v:Int}(h:I64 v):zf7 (itoa v)=some v:=zeX.2 ⟨h,rfl⟩
def zcs(s:ByteArray):Int × Bool:=match zf7 s.data.toList with | some v=>(v,true) | none=>(0,false)
theorem zdc:∀(l:List UInt8) (acc:Nat),l.all zdm=true->l.foldl (fun a c=>a * 10+(c.toNat-48)) acc<=18446744073709551615 ->
  Lib.parseUintM 18446744073709551615 acc l=.ok (l.foldl (fun a c=>a * 10+(c.toNat-48)) acc)
 | [],acc,_,_=>rfl
 | c::r,acc,h,hb=>by
  simp only [List.all_cons,Bool.and_eq_true] at h
  have hc:48<=c.toNat/\c.toNat<=57:=by simpa [zdm] using h.1
  have hmono:∀(l:List UInt8) (a:Nat),a<=l.foldl (fun a c=>a * 10+(c.toNat-48)) a:=by
   intro l
   induction l with
   | nil=>intro a; exact Nat.le_refl _
   | cons x l ih=>intro a; have:=ih (a * 10+(x.toNat-48)); simp only [List.foldl_cons]; omega
  simp only [List.foldl_cons] at hb ⊢
  have:=hmono r (acc * 10+(c.toNat-48))
  rw [Lib.parseUintM,if_pos hc,if_neg (by omega),if_neg (by omega)]
  exact zdc r _ h.2 hb
theorem zfa{v:Int}(h:I64 v):Lib.parseIntB 64 (itoa v)=.ok v:=by
 obtain ⟨h1,h2⟩:=h
 have e64:(2:Nat) ^ 64-1=18446744073709551615:=by decide
 have e63:(2:Nat) ^ (64-1)=9223372036854775808:=by decide
 by_cases hn:v<0
 ·obtain ⟨f1,f2,f3,f4⟩:=zcq v.natAbs
  have hp:Lib.parseUintB 64 (decDigits v.natAbs)=.ok v.natAbs:=by
   rw [Lib.parseUintB,if_neg f3,e64,zdc _ 0 f2 (by show valD _<=_; rw [f1]; omega)]
   show Lib.NumEnd.ok (valD _)=_
   rw [f1]
  rw [itoa,if_pos hn]
  have e45:(45:UInt8).toNat=45:=rfl
  simp only [Lib.parseIntB,e45,or_true,if_true,hp,e63]
  rw [if_neg (by simp),if_neg (by omega)]
  congr 1; omega
 ·obtain ⟨f1,f2,f3,f4⟩:=zcq v.toNat
  have hp:Lib.parseUintB 64 (decDigits v.toNat)=.ok v.toNat:=by
   rw [Lib.parseUintB,if_neg f3,e64,zdc _ 0 f2 (by show valD _<=_; rw [f1]; omega)]
   show Lib.NumEnd.ok (valD _)=_
   rw [f1]
  rw [itoa,if_neg hn]
  cases hl:decDigits v.toNat with
  | nil=>exact absurd hl f3
  | cons c r =>
   rw [hl] at f2 hp
   simp only [List.all_cons,Bool.and_eq_true] at f2
   have hc:48<=c.toNat/\c.toNat<=57:=by simpa [zdm] using f2.1
   have n43:c.toNat≠43:=by omega
   have n45:c.toNat≠45:=by omega
   simp only [Lib.parseIntB,n43,n45,or_self,if_false,hp,e63]
   rw [if_neg (by omega),if_neg (by simp)]
   congr 1; omega
noncomputable def zfK(p0:Int):Option ByteArray:=if I64 p0 then some (zdK p0) else none
noncomputable def zcw(p0:ByteArray):Option (Int × Bool):=if p0.size<=281474976710656 then some (zcs p0) else none
theorem zmM{s:ByteArray}{v:Int}(h:Lib.parseIntB 64 s.data.toList=.ok v):zcs s=if zdK v=s then (v,true) else (0,false):=by
 have hb:=Lib.parseIntB_bounds h
 have e63:(2:Nat) ^ (64-1)=9223372036854775808:=by decide
 rw [e63] at hb
 have hi:I64 v:=⟨by omega,by omega⟩
 unfold zcs
 by_cases hs:zdK v=s
 ·rw [if_pos hs,← hs,zdK,zey,zkD hi]
 ·rw [if_neg hs]
  cases hr:zf7 s.data.toList with
  | none=>rfl
  | some u =>
   obtain ⟨hu,hl⟩:=zeX.1 hr
   rw [hl,zfa hu] at h
   injection h with h
   subst h
   exact absurd (bext (by rw [zdK,zey,hl])) hs
theorem zjY{s:ByteArray}(h:∀v,Lib.parseIntB 64 s.data.toList≠.ok v):zcs s=(0,false):=by
 unfold zcs
 cases hr:zf7 s.data.toList with
 | none=>rfl
 | some u =>
  obtain ⟨hu,hl⟩:=zeX.1 hr
  rw [hl] at h
  exact absurd (zfa hu) (h u)
end Go.Vs
