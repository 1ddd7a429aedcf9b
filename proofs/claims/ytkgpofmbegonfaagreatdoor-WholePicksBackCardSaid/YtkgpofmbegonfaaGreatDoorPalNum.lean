import Derived.Test.YtkgpofmbegonfaaGreatDoorPalA
import Derived.Lib.ItoaNum
import Derived.Lib.ItoaLen
import Derived.Lib.ParseIntBTie
set_option linter.all false
namespace Go.Vs
local instance:Tab:=⟨fun _=>none⟩
open Go.Lib (decDigits itoa nDigits)
def I64(n:Int):Prop:=-9223372036854775808<=n/\n<=9223372036854775807
instance (n:Int):Decidable (I64 n):=inferInstanceAs (Decidable (_/\_))
theorem wi64(n:Int):IntKind.wrap .i64 n=(n+9223372036854775808) % 18446744073709551616-9223372036854775808:=by
 simp only [IntKind.wrap,IntKind.bits,IntKind.signed,Bool.true_and,decide_eq_true_eq,ge_iff_le]
 split <;> omega
theorem wu64(n:Int):IntKind.wrap .u64 n=n % 18446744073709551616:=by
 simp [IntKind.wrap,IntKind.bits,IntKind.signed]
theorem wu8(n:Int):IntKind.wrap .u8 n=n % 256:=by
 simp [IntKind.wrap,IntKind.bits,IntKind.signed]
theorem zbV{n:Int}(h:I64 n):IntKind.wrap .i64 n=n:=by obtain ⟨h1,h2⟩:=h; rw [wi64]; omega
theorem bext{a b:ByteArray}(h:a.data.toList=b.data.toList):a=b:=ByteArray.ext (Array.ext' h)
theorem zbU(a b:ByteArray):(a++b).data.toList=a.data.toList++b.data.toList:=by simp [ByteArray.data_append]
theorem ziT(b:ByteArray):b.size=b.data.toList.length:=by rw [Array.length_toList]; rfl
theorem zpy{b:ByteArray}:b=⟨#[]⟩ ↔ b.data.toList=[]:=⟨fun h=>by rw [h],fun h=>bext (by rw [h])⟩
def bs(l:List UInt8):ByteArray:=⟨l.toArray⟩
theorem zcW(l:List UInt8):(bs l).data.toList=l:=by simp [bs]
theorem zsd(b:ByteArray):bs b.data.toList=b:=bext (zcW _)
theorem zbJ(l:List UInt8):(bs l).size=l.length:=by rw [ziT,zcW]
def zcV(n:Int):ByteArray:=bs (itoa n)
theorem zqo(l:List UInt8)(i:Nat)(h:i<l.length):bt (bs l) (i:Int)=((l[i]'h).toNat:Int):=by
 simp only [bt,zcW,Int.toNat_natCast]
 rw [List.getD_eq_getElem?_getD,List.getElem?_eq_getElem h]; rfl
theorem zsc{a b:ByteArray}(h:a.size+b.size<=9223372036854775807):zeF a b:=h
theorem zi0(u:Nat)(hu:u<18446744073709551616)(s:ByteArray)(hs:s.size<=1000)(h:u≠0\/s=⟨#[]⟩) :
  za1 ((u:Int),s)=some (.inl (((u / 10:Nat):Int),bs [UInt8.ofNat (48+u % 10)]++s)):=by
 rw [za1]
 have hc:(decide ((u:Int)>0)||decide (s=(⟨#[]⟩:ByteArray)))=true:=by
  rcases h with h | h
  ·have:(u:Int)>0:=by omega
   rw [decide_eq_true this]; rfl
  ·simp [h]
 rw [if_pos hc]
 have e1:IntKind.wrap .u8 (IntKind.wrap .u64 (48+Int.tmod (u:Int) 10))=((48+u % 10:Nat):Int):=by
  rw [wu8,wu64,Int.tmod_eq_emod_of_nonneg (by omega)]; omega
 have e2:zhB [((48+u % 10:Nat):Int)]=bs [UInt8.ofNat (48+u % 10)]:=by
  simp only [zhB,bs,List.map_cons,List.map_nil,Int.toNat_natCast]
 have e3:IntKind.wrap .u64 (Int.tdiv (u:Int) 10)=((u / 10:Nat):Int):=by
  rw [wu64,Int.tdiv_eq_ediv_of_nonneg (by omega)]; omega
 rw [e1,e2,e3,if_pos (zsc (by rw [zbJ]; simp; omega))]
 rfl
theorem zgZ(s:ByteArray)(h:s≠⟨#[]⟩):za1 (0,s)=some (.inr s):=by
 rw [za1,if_neg (by simp [h])]
theorem zmb(u:Nat):u<18446744073709551616->∀s:ByteArray,s≠⟨#[]⟩->s.size+nDigits u<=1000 ->
  zbn za1 ((u:Int),s)=some (if u=0 then s else bs (decDigits u)++s):=by
 induction u using Nat.strongRecOn with
 | _ u ih =>
  intro hu s hs hl
  by_cases h0:u=0
  ·subst h0
   rw [if_pos rfl]
   exact zaM (zgZ s hs)
  ·rw [if_neg h0,zbC (zi0 u hu s (by have:=Lib.nDigits_pos u; omega) (.inl h0))]
   have hne:bs [UInt8.ofNat (48+u % 10)]++s≠⟨#[]⟩:=by
    rw [Ne,zpy,zbU,zcW]; simp
   have hsz:(bs [UInt8.ofNat (48+u % 10)]++s).size=s.size+1:=by rw [ziT,zbU,zcW,ziT s]; simp <;> omega
   by_cases h10:u<10
   ·have e:u / 10=0:=by omega
    have e2:u % 10=u:=by omega
    have e3:=zaM (zgZ _ hne)
    rw [e]
    refine e3.trans ?_
    rw [Lib.decDigits_one h10,e2]
   ·rw [ih (u / 10) (by omega) (by omega) _ hne (by rw [hsz]; have:=Lib.nDigits_big h10; omega),if_neg (by omega)]
    congr 1
    apply bext
    rw [zbU,zbU,zbU,zcW,zcW,zcW]
    conv=>rhs; rw [decDigits,dif_neg h10]
    simp
theorem zkf(u:Nat)(hu:u<18446744073709551616):zbn za1 ((u:Int),(⟨#[]⟩:ByteArray))=some (bs (decDigits u)):=by
 rw [zbC (zi0 u hu ⟨#[]⟩ (by simp [ByteArray.size]) (.inr rfl))]
 have e0:bs [UInt8.ofNat (48+u % 10)]++(⟨#[]⟩:ByteArray)=bs [UInt8.ofNat (48+u % 10)]:=bext (by rw [zbU]; simp)
 rw [e0]
 have hne:bs [UInt8.ofNat (48+u % 10)]≠⟨#[]⟩:=by rw [Ne,zpy,zcW]; simp
 by_cases h10:u<10
 ·have e:u / 10=0:=by omega
  have e2:u % 10=u:=by omega
  have e3:=zaM (zgZ _ hne)
  rw [e]
  refine e3.trans ?_
  rw [Lib.decDigits_one h10,e2]
 ·have hn:nDigits (u / 10)<=20:=Lib.nDigits_le20 _ (by omega)
  rw [zmb (u / 10) (by omega) _ hne (by rw [zbJ]; simp; omega),if_neg (by omega)]
  congr 1
  apply bext
  rw [zbU,zcW,zcW,zcW]
  conv=>rhs; rw [decDigits,dif_neg h10]
theorem zfN(n:Int)(h:I64 n):zcw n=some (zcV n):=by
 obtain ⟨h1,h2⟩:=h
 rw [zcw]
 by_cases hn:n<0
 ·rw [if_pos (by simpa using hn)]
  have e:IntKind.wrap .u64 (0-IntKind.wrap .u64 n)=((n.natAbs:Nat):Int):=by rw [wu64,wu64]; omega
  rw [zbO,e,zkf _ (by omega)]
  simp only [Option.bind_some]
  have hl:nDigits n.natAbs<=20:=Lib.nDigits_le20 _ (by omega)
  rw [if_pos (by simpa using hn),if_pos (zsc (by rw [zbJ,Lib.decDigits_length]; simp [ByteArray.size]; omega))]
  congr 1
  apply bext
  rw [zbU,zcV,zcW,zcW,itoa,if_pos hn]
  rfl
 ·rw [if_neg (by simpa using hn)]
  have e:IntKind.wrap .u64 n=((n.toNat:Nat):Int):=by rw [wu64]; omega
  rw [zbO,e,zkf _ (by omega)]
  simp only [Option.bind_some]
  rw [if_neg (by simpa using hn),zcV,itoa,if_neg hn]
def zdo(c:UInt8):Bool:=decide (48<=c.toNat/\c.toNat<=57)
def valD(l:List UInt8):Nat:=l.foldl (fun a c=>a * 10+(c.toNat-48)) 0
theorem zgY(l:List UInt8)(c:UInt8):valD (l++[c])=valD l * 10+(c.toNat-48):=by simp [valD]
theorem ziS(d:Nat)(h:d<10):(UInt8.ofNat (48+d)).toNat=48+d:=by
 rw [UInt8.toNat_ofNat']; omega
theorem zb4(u:Nat):valD (decDigits u)=u/\(decDigits u).all zdo=true/\decDigits u≠[]/\(u≠0->(decDigits u).head?≠some 48):=by
 induction u using Nat.strongRecOn with
 | _ u ih =>
  by_cases h:u<10
  ·rw [Lib.decDigits_one h]
   refine ⟨?_,?_,by simp,fun h0=>?_⟩
   ·simp only [valD,List.foldl_cons,List.foldl_nil,ziS u h]; omega
   ·simp only [List.all_cons,List.all_nil,Bool.and_true,zdo,ziS u h,decide_eq_true_eq]; omega
   ·simp only [List.head?_cons,ne_eq,Option.some.injEq]
    intro e
    have:=congrArg UInt8.toNat e
    rw [ziS u h] at this
    have e48:(48:UInt8).toNat=48:=rfl
    omega
  ·rw [decDigits,dif_neg h]
   obtain ⟨h1,h2,h3,h4⟩:=ih (u / 10) (by omega)
   have hd:=ziS (u % 10) (by omega)
   refine ⟨by rw [zgY,h1,hd]; omega,?_,by simp,fun _=>?_⟩
   ·rw [List.all_append,h2]
    simp only [List.all_cons,List.all_nil,Bool.and_true,Bool.true_and,zdo,hd,decide_eq_true_eq]; omega
   ·have:=h4 (by omega)
    cases hl:decDigits (u / 10) with
    | nil=>exact absurd hl h3
    | cons a l=>rw [hl] at this; simpa using this
theorem zed:decDigits 0=[48]:=by rw [Lib.decDigits_one (by omega)]; rfl
theorem zkG{c:UInt8}(h:zdo c=true):UInt8.ofNat (48+(c.toNat-48))=c:=by
 simp only [zdo,decide_eq_true_eq] at h
 have:48+(c.toNat-48)=c.toNat:=by omega
 rw [this]; simp
theorem zkT(l:List UInt8):l=[]\/∃i c,l=i++[c]:=by
 rcases List.eq_nil_or_concat l with h | ⟨i,c,h⟩
 ·exact .inl h
 ·exact .inr ⟨i,c,by simpa using h⟩
theorem zf4:∀(n:Nat) (l:List UInt8),l.length=n->l≠[]->l.all zdo=true->(l.head?=some 48->l=[48])->decDigits (valD l)=l:=by
 intro n
 induction n with
 | zero=>intro l h0 h1; exact absurd (List.eq_nil_of_length_eq_zero h0) h1
 | succ n ih =>
  intro l hl h1 h2 h3
  rcases zkT l with rfl | ⟨i,c,rfl⟩
  ·exact absurd rfl h1
  ·rw [List.all_append] at h2
   simp only [List.all_cons,List.all_nil,Bool.and_true,Bool.and_eq_true] at h2
   have hc:=h2.2
   have hc2:48<=c.toNat/\c.toNat<=57:=by simpa [zdo] using hc
   rw [zgY]
   by_cases hi:i=[]
   ·subst hi
    have e:valD ([]:List UInt8) * 10+(c.toNat-48)=c.toNat-48:=by simp [valD]
    rw [e,Lib.decDigits_one (by omega),zkG hc]
    rfl
   ·have hih:=ih i (by simp at hl; exact hl) hi h2.1 (fun hh=>by
     have:=h3 (by cases i with
      | nil=>exact absurd rfl hi
      | cons a i=>simpa using hh)
     cases i with
     | nil=>exact absurd rfl hi
     | cons a i=>simp at this)
    have hv:valD i≠0:=by
     intro h0
     rw [h0,zed] at hih
     have:(i++[c]).head?=some 48:=by rw [← hih]; rfl
     have:=h3 this
     rw [← hih] at this
     simp at this
    rw [decDigits,dif_neg (by omega)]
    have e1:(valD i * 10+(c.toNat-48)) / 10=valD i:=by omega
    have e2:(valD i * 10+(c.toNat-48)) % 10=c.toNat-48:=by omega
    rw [e1,e2,hih,zkG hc]
def zgE(l:List UInt8):Option Int :=
 let d:=if l.head?=some 45 then l.tail else l
 if d≠[]/\d.all zdo=true/\(d.head?=some 48->d=[48]/\l.head?≠some 45)/\(if l.head?=some 45 then valD d<=9223372036854775808 else valD d<9223372036854775808) then
  some (if l.head?=some 45 then -(valD d:Int) else valD d) else none
theorem zmY(n:Int):((itoa n).head?=some 45) ↔ n<0:=by
 rw [itoa]
 by_cases h:n<0
 ·rw [if_pos h]; simp [h]
 ·rw [if_neg h]
  simp only [h,iff_false]
  intro hh
  obtain ⟨_,h2,h3,_⟩:=zb4 n.toNat
  cases hl:decDigits n.toNat with
  | nil=>exact h3 hl
  | cons a l =>
   rw [hl] at hh h2
   simp only [List.head?_cons,Option.some.injEq] at hh
   subst hh
   simp [zdo] at h2
theorem zgb{l:List UInt8}{v:Int}:zgE l=some v ↔ I64 v/\l=itoa v:=by
 constructor
 ·intro h
  unfold zgE at h
  by_cases hm:l.head?=some 45
  ·simp only [hm,if_true] at h
   split at h
   ·rename_i hc
    obtain ⟨h1,h2,h3,h4⟩:=hc
    obtain rfl:=Option.some.inj h
    have h5:l.tail.head?≠some 48:=fun hh=>absurd rfl (h3 hh).2
    have hv:=zf4 _ l.tail rfl h1 h2 (fun hh=>absurd hh h5)
    have hv0:valD l.tail≠0:=by
     intro h0
     rw [h0,zed] at hv
     rw [← hv] at h5; exact h5 rfl
    refine ⟨⟨by omega,by omega⟩,?_⟩
    rw [itoa,if_pos (by omega),Int.natAbs_neg,Int.natAbs_natCast,hv]
    cases l with
    | nil=>simp at hm
    | cons a l=>simp at hm; subst hm; rfl
   ·cases h
  ·simp only [hm,if_false] at h
   split at h
   ·rename_i hc
    obtain ⟨h1,h2,h3,h4⟩:=hc
    obtain rfl:=Option.some.inj h
    have hv:=zf4 _ l rfl h1 h2 (fun hh=>(h3 hh).1)
    refine ⟨⟨by omega,by omega⟩,?_⟩
    rw [itoa,if_neg (by omega),Int.toNat_natCast,hv]
   ·cases h
 ·rintro ⟨⟨h1,h2⟩,rfl⟩
  unfold zgE
  have hh:=zmY v
  by_cases hn:v<0
  ·have hm:=hh.2 hn
   simp only [hm,if_true]
   have ht:(itoa v).tail=decDigits v.natAbs:=by rw [itoa,if_pos hn]; rfl
   obtain ⟨f1,f2,f3,f4⟩:=zb4 v.natAbs
   rw [ht,f1,if_pos ⟨f3,f2,fun h=>absurd h (f4 (by omega)),by omega⟩]
   congr 1; omega
  ·have hm:(itoa v).head?≠some 45:=fun h=>hn (hh.1 h)
   simp only [hm,if_false]
   have ht:itoa v=decDigits v.toNat:=by rw [itoa,if_neg hn]
   obtain ⟨f1,f2,f3,f4⟩:=zb4 v.toNat
   have hz:(decDigits v.toNat).head?=some 48->decDigits v.toNat=[48]/\(decDigits v.toNat).head?≠some 45:=by
    intro h
    by_cases h0:v.toNat=0
    ·rw [h0,zed]; exact ⟨rfl,by simp⟩
    ·exact absurd h (f4 h0)
   rw [ht] at hm ⊢
   rw [f1,if_pos ⟨f3,f2,fun h=>⟨(hz h).1,by simpa using (hz h).2⟩,by omega⟩]
   congr 1; omega
theorem zgc{v:Int}(h:I64 v):zgE (itoa v)=some v:=zgb.2 ⟨h,rfl⟩
def zcC(s:ByteArray):Int × Bool:=match zgE s.data.toList with | some v=>(v,true) | none=>(0,false)
theorem zdm:∀(l:List UInt8) (acc:Nat),l.all zdo=true->l.foldl (fun a c=>a * 10+(c.toNat-48)) acc<=18446744073709551615 ->
  Lib.parseUintM 18446744073709551615 acc l=.ok (l.foldl (fun a c=>a * 10+(c.toNat-48)) acc)
 | [],acc,_,_=>rfl
 | c::r,acc,h,hb=>by
  simp only [List.all_cons,Bool.and_eq_true] at h
  have hc:48<=c.toNat/\c.toNat<=57:=by simpa [zdo] using h.1
  have hmono:∀(l:List UInt8) (a:Nat),a<=l.foldl (fun a c=>a * 10+(c.toNat-48)) a:=by
   intro l
   induction l with
   | nil=>intro a; exact Nat.le_refl _
   | cons x l ih=>intro a; have:=ih (a * 10+(x.toNat-48)); simp only [List.foldl_cons]; omega
  simp only [List.foldl_cons] at hb ⊢
  have:=hmono r (acc * 10+(c.toNat-48))
  rw [Lib.parseUintM,if_pos hc,if_neg (by omega),if_neg (by omega)]
  exact zdm r _ h.2 hb
theorem zfj{v:Int}(h:I64 v):Lib.parseIntB 64 (itoa v)=.ok v:=by
 obtain ⟨h1,h2⟩:=h
 have e64:(2:Nat) ^ 64-1=18446744073709551615:=by decide
 have e63:(2:Nat) ^ (64-1)=9223372036854775808:=by decide
 by_cases hn:v<0
 ·obtain ⟨f1,f2,f3,f4⟩:=zb4 v.natAbs
  have hp:Lib.parseUintB 64 (decDigits v.natAbs)=.ok v.natAbs:=by
   rw [Lib.parseUintB,if_neg f3,e64,zdm _ 0 f2 (by show valD _<=_; rw [f1]; omega)]
   show Lib.NumEnd.ok (valD _)=_
   rw [f1]
  rw [itoa,if_pos hn]
  have e45:(45:UInt8).toNat=45:=rfl
  simp only [Lib.parseIntB,e45,or_true,if_true,hp,e63]
  rw [if_neg (by simp),if_neg (by omega)]
  congr 1; omega
 ·obtain ⟨f1,f2,f3,f4⟩:=zb4 v.toNat
  have hp:Lib.parseUintB 64 (decDigits v.toNat)=.ok v.toNat:=by
   rw [Lib.parseUintB,if_neg f3,e64,zdm _ 0 f2 (by show valD _<=_; rw [f1]; omega)]
   show Lib.NumEnd.ok (valD _)=_
   rw [f1]
  rw [itoa,if_neg hn]
  cases hl:decDigits v.toNat with
  | nil=>exact absurd hl f3
  | cons c r =>
   rw [hl] at f2 hp
   simp only [List.all_cons,Bool.and_eq_true] at f2
   have hc:48<=c.toNat/\c.toNat<=57:=by simpa [zdo] using f2.1
   have n43:c.toNat≠43:=by omega
   have n45:c.toNat≠45:=by omega
   simp only [Lib.parseIntB,n43,n45,or_self,if_false,hp,e63]
   rw [if_neg (by omega),if_neg (by simp)]
   congr 1; omega
noncomputable def zfS(p0:Int):Option ByteArray:=if I64 p0 then some (zcV p0) else none
noncomputable def zcH(p0:ByteArray):Option (Int × Bool):=if p0.size<=281474976710656 then some (zcC p0) else none
theorem zod{s:ByteArray}{v:Int}(h:Lib.parseIntB 64 s.data.toList=.ok v):zcC s=if zcV v=s then (v,true) else (0,false):=by
 have hb:=Lib.parseIntB_bounds h
 have e63:(2:Nat) ^ (64-1)=9223372036854775808:=by decide
 rw [e63] at hb
 have hi:I64 v:=⟨by omega,by omega⟩
 unfold zcC
 by_cases hs:zcV v=s
 ·rw [if_pos hs,← hs,zcV,zcW,zgc hi]
 ·rw [if_neg hs]
  cases hr:zgE s.data.toList with
  | none=>rfl
  | some u =>
   obtain ⟨hu,hl⟩:=zgb.1 hr
   rw [hl,zfj hu] at h
   injection h with h
   subst h
   exact absurd (bext (by rw [zcV,zcW,hl])) hs
theorem zkl{s:ByteArray}(h:∀v,Lib.parseIntB 64 s.data.toList≠.ok v):zcC s=(0,false):=by
 unfold zcC
 cases hr:zgE s.data.toList with
 | none=>rfl
 | some u =>
  obtain ⟨hu,hl⟩:=zgb.1 hr
  rw [hl] at h
  exact absurd (zfj hu) (h u)
end Go.Vs
