import Derived.Test.YtkgpofmbegonfaaGreatDoorPalNum
set_option linter.all false
namespace Go.Vs
local instance:Tab:=⟨fun _=>none⟩
open Go.Lib (decDigits itoa nDigits)
theorem zeZ:∀(l:List UInt8) (a:Nat),l.all zdo=true->a * 10 ^ l.length<=l.foldl (fun a c=>a * 10+(c.toNat-48)) a/\l.foldl (fun a c=>a * 10+(c.toNat-48)) a<(a+1) * 10 ^ l.length
 | [],a,_=>by simp
 | c::r,a,h=>by
  simp only [List.all_cons,Bool.and_eq_true] at h
  have hc:48<=c.toNat/\c.toNat<=57:=by simpa [zdo] using h.1
  obtain ⟨h1,h2⟩:=zeZ r (a * 10+(c.toNat-48)) h.2
  simp only [List.foldl_cons,List.length_cons,Nat.pow_succ]
  have e1:a * 10 * 10 ^ r.length<=(a * 10+(c.toNat-48)) * 10 ^ r.length:=Nat.mul_le_mul_right _ (by omega)
  have e2:(a * 10+(c.toNat-48)+1) * 10 ^ r.length<=(a+1) * 10 * 10 ^ r.length:=Nat.mul_le_mul_right _ (by omega)
  have e3:a * (10 ^ r.length * 10)=a * 10 * 10 ^ r.length:=by rw [Nat.mul_assoc a 10,Nat.mul_comm 10]
  have e4:(a+1) * (10 ^ r.length * 10)=(a+1) * 10 * 10 ^ r.length:=by rw [Nat.mul_assoc (a+1) 10,Nat.mul_comm 10]
  omega
theorem zl8{l:List UInt8}(h:l.all zdo=true):valD l<10 ^ l.length:=by have:=(zeZ l 0 h).2; simpa [valD] using this
theorem zpF{c:UInt8}{r:List UInt8}(h:(c::r).all zdo=true)(h0:c≠48):10 ^ r.length<=valD (c::r):=by
 simp only [List.all_cons,Bool.and_eq_true] at h
 have hc:48<=c.toNat/\c.toNat<=57:=by simpa [zdo] using h.1
 have hc0:c.toNat≠48:=fun e=>h0 (UInt8.toNat.inj e)
 have h1:=(zeZ r (0 * 10+(c.toNat-48)) h.2).1
 have h2:1 * 10 ^ r.length<=(0 * 10+(c.toNat-48)) * 10 ^ r.length:=Nat.mul_le_mul_right _ (by omega)
 rw [Nat.one_mul] at h2
 exact Nat.le_trans h2 h1
theorem zjp(c:UInt8):zdo c=!(decide ((c.toNat:Int)<48)||decide ((c.toNat:Int)>57)):=by
 rw [zdo,Bool.eq_iff_iff]; simp only [decide_eq_true_eq,Bool.not_eq_true',Bool.or_eq_false_iff,decide_eq_false_iff_not]; omega
theorem zja(d:List UInt8)(hd:d.length<=19):∀suf pre:List UInt8,d=pre++suf->pre.all zdo=true ->
  zbn (zbc (bs d)) ((valD pre:Int),(pre.length:Int))=some (if suf.all zdo=true then .inl (valD d:Int) else .inr (0,false))
 | [],pre,hp,hpre=>by
  have e:d=pre:=by simpa using hp
  refine zaM ?_
  rw [zbc,zbJ,if_neg (by rw [e]; simp),← e]; rfl
 | c::r,pre,hp,hpre=>by
  have hlen:pre.length+(r.length+1)=d.length:=by rw [hp]; simp
  have hlt:pre.length<d.length:=by omega
  have hin:InB (pre.length:Int) (bs d).size:=by rw [zbJ]; exact ⟨by omega,by simpa using hlt⟩
  have hget:d[pre.length]'hlt=c:=by simp [hp]
  have hbt:bt (bs d) (pre.length:Int)=(c.toNat:Int):=by rw [zqo d _ hlt,hget]
  by_cases hc:zdo c=true
  ·have hcn:48<=c.toNat/\c.toNat<=57:=by simpa [zdo] using hc
   have hv:=zl8 hpre
   have hp18:10 ^ pre.length<=10 ^ 18:=Nat.pow_le_pow_right (by omega) (by omega)
   have e18:(10:Nat) ^ 18=1000000000000000000:=by decide
   have hstep:zbc (bs d) ((valD pre:Int),(pre.length:Int))=some (.inl ((valD (pre++[c]):Int),((pre++[c]).length:Int))):=by
    rw [zbc,if_pos (by rw [zbJ]; simpa using hlt),if_pos hin,if_pos (fun _=>hin),hbt]
    rw [zjp,Bool.not_eq_true'] at hc
    rw [if_neg (by rw [hc]; simp),if_pos hin]
    simp only [Option.bind_some]
    have e1:IntKind.wrap .u64 ((IntKind.wrap .u64 ((valD pre:Int) * 10))+(IntKind.wrap .u64 (IntKind.wrap .u8 ((c.toNat:Int)-48))))=(valD (pre++[c]):Int):=by
     rw [zgY,wu64,wu64,wu64,wu8]; omega
    have e2:IntKind.wrap .i64 ((pre.length:Int)+1)=((pre++[c]).length:Int):=by
     rw [wi64]; simp only [List.length_append,List.length_cons,List.length_nil]; omega
    rw [e1,e2]
   rw [zbC hstep,zja d hd r (pre++[c]) (by rw [hp]; simp) (by rw [List.all_append,hpre]; simp [hc])]
   simp only [List.all_cons,hc,Bool.true_and]
  ·have hc':=hc
   rw [zjp] at hc'
   have hstep:zbc (bs d) ((valD pre:Int),(pre.length:Int))=some (.inr (.inr (0,false))):=by
    rw [zbc,if_pos (by rw [zbJ]; simpa using hlt),if_pos hin,if_pos (fun _=>hin),hbt,if_pos (by revert hc'; cases (decide ((c.toNat:Int)<48)||decide ((c.toNat:Int)>57)) <;> simp)]
   rw [zaM hstep,if_neg (by simp [hc])]
theorem zkq(l:List UInt8):(decide (((bs l).size:Int)>0)&&(bt (bs l) 0==45))=decide (l.head?=some 45):=by
 cases l with
 | nil=>rfl
 | cons c r =>
  have h:bt (bs (c::r)) 0=(c.toNat:Int):=by have:=zqo (c::r) 0 (by simp); simpa using this
  rw [h,zbJ,Bool.eq_iff_iff]
  simp only [List.length_cons,Bool.and_eq_true,decide_eq_true_eq,beq_iff_eq,List.head?_cons,Option.some.injEq]
  constructor
  ·rintro ⟨_,h⟩
   exact UInt8.toNat.inj (by have:(45:UInt8).toNat=45:=rfl; omega)
  ·rintro rfl
   exact ⟨by omega,rfl⟩
theorem zo9(l d:List UInt8)(hsz:d.length<=9223372036854775807):zcs (bs l) (bs d)=some (match
  (if d≠[]/\d.all zdo=true/\(d.head?=some 48->d=[48]/\l.head?≠some 45)/\(if l.head?=some 45 then valD d<=9223372036854775808 else valD d<9223372036854775808) then
   some (if l.head?=some 45 then -(valD d:Int) else (valD d:Int)) else none) with | some v=>(v,true) | none=>(0,false)):=by
 rw [zcs,zkq]
 cases d with
 | nil =>
  have e:decide (bs []=(⟨#[]⟩:ByteArray))=true:=rfl
  simp only [e,Bool.true_or,Bool.not_true,Bool.false_eq_true,false_implies,if_true,Option.bind_some,ne_eq,not_true_eq_false,false_and,if_false]
 | cons c r =>
  have e:decide (bs (c::r)=(⟨#[]⟩:ByteArray))=false:=by
   apply decide_eq_false; intro h; have:=congrArg (fun x=>x.data.toList) h; simp [zcW] at this
  have hin:InB 0 (bs (c::r)).size:=by rw [zbJ]; exact ⟨by omega,by simp⟩
  have hbt:bt (bs (c::r)) 0=(c.toNat:Int):=by have:=zqo (c::r) 0 (by simp); simpa using this
  rw [if_pos (fun _=>hin),e,hbt]
  simp only [Bool.false_or,Option.bind_some]
  have hs:((bs (c::r)).size:Int)=(r.length:Int)+1:=by rw [zbJ]; simp
  rw [hs]
  by_cases h19:(r.length:Int)+1>19
  ·rw [if_pos (by simp only [h19,decide_true,Bool.true_or])]
   rw [if_neg]
   rintro ⟨_,h2,h3,h4⟩
   have hc:c≠48:=by
    intro hc
    have:=(h3 (by rw [hc]; rfl)).1
    injection this with _ hr
    rw [hr] at h19
    simp at h19
   have hv:=zpF h2 hc
   have:10 ^ 19<=10 ^ r.length:=Nat.pow_le_pow_right (by omega) (by omega)
   have e19:(10:Nat) ^ 19=10000000000000000000:=by decide
   split at h4 <;> omega
  ·have f19:decide ((r.length:Int)+1>19)=false:=by simp only [decide_eq_false_iff_not]; exact h19
   rw [f19]
   simp only [Bool.false_or]
   by_cases hz:(((c.toNat:Int)==48)&&(decide ((r.length:Int)+1>1)||decide (l.head?=some 45)))=true
   ·rw [if_pos hz,if_neg]
    rintro ⟨_,_,h3,_⟩
    simp only [Bool.and_eq_true,beq_iff_eq,Bool.or_eq_true,decide_eq_true_eq] at hz
    have hc:c=48:=UInt8.toNat.inj (by have:(48:UInt8).toNat=48:=rfl; omega)
    obtain ⟨h5,h6⟩:=h3 (by rw [hc]; rfl)
    rcases hz.2 with h7 | h7
    ·injection h5 with _ hr
     rw [hr] at h7
     simp at h7
    ·exact h6 h7
   ·rw [if_neg hz]
    have hl:=zja (c::r) (by simp; omega) (c::r) [] rfl rfl
    have hl':zbn (zbc (bs (c::r))) (0,0)=_:=hl
    rw [hl']
    by_cases hd:(c::r).all zdo=true
    ·rw [if_pos hd]
     simp only [Option.bind_some,zcG]
     have hv:=zl8 hd
     have:10 ^ (c::r).length<=10 ^ 19:=Nat.pow_le_pow_right (by omega) (by simp; omega)
     have e19:(10:Nat) ^ 19=10000000000000000000:=by decide
     have h48:(c::r).head?=some 48->(c::r)=[48]/\l.head?≠some 45:=by
      intro hh
      simp only [List.head?_cons,Option.some.injEq] at hh
      subst hh
      have e48:(((48:UInt8).toNat:Int)==48)=true:=rfl
      rw [e48] at hz
      simp only [Bool.true_and,Bool.or_eq_true,decide_eq_true_eq,not_or] at hz
      exact ⟨by rw [List.eq_nil_of_length_eq_zero (show r.length=0 by omega)],hz.2⟩
     by_cases hm:l.head?=some 45
     ·simp only [hm,decide_true,if_true]
      by_cases hb:valD (c::r)<=9223372036854775808
      ·have hb':¬((valD (c::r):Int)>9223372036854775808):=by omega
       rw [if_neg (by simpa using hb'),if_pos ⟨by simp,hd,fun h=>⟨(h48 h).1,absurd hm (h48 h).2⟩,hb⟩]
       have e1:IntKind.wrap .i64 (IntKind.wrap .u64 (0-(valD (c::r):Int)))=-(valD (c::r):Int):=by rw [wi64,wu64]; omega
       rw [e1]
      ·have hb':((valD (c::r):Int)>9223372036854775808):=by omega
       rw [if_pos (by simpa using hb'),if_neg (by rintro ⟨_,_,_,h⟩; exact hb h)]
     ·simp only [hm,decide_false,Bool.false_eq_true,if_false]
      by_cases hb:valD (c::r)<9223372036854775808
      ·have hb':¬((valD (c::r):Int)≥9223372036854775808):=by omega
       rw [if_neg (by simpa using hb'),if_pos ⟨by simp,hd,fun h=>⟨(h48 h).1,by simpa using (h48 h).2⟩,hb⟩]
       have e1:IntKind.wrap .i64 (valD (c::r):Int)=(valD (c::r):Int):=by rw [wi64]; omega
       rw [e1]
      ·have hb':((valD (c::r):Int)≥9223372036854775808):=by omega
       rw [if_pos (by simpa using hb'),if_neg (by rintro ⟨_,_,_,h⟩; exact hb h)]
    ·rw [if_neg hd]
     simp only [Option.bind_some,zcG]
     rw [if_neg (by rintro ⟨_,h,_⟩; exact hd h)]
theorem zfO(p0:ByteArray)(h:p0.size<=9223372036854775807):zdS p0=some (zcC p0):=by
 obtain ⟨l,rfl⟩:∃l,p0=bs l:=⟨p0.data.toList,(zsd p0).symm⟩
 rw [zbJ] at h
 rw [zdS,zkq,zcC,zcW,zgE]
 rw [if_pos (by rw [zbJ]; intro h; exact ⟨by omega,by simpa using h⟩)]
 by_cases hm:l.head?=some 45
 ·have hl:1<=l.length:=by cases l with
   | nil=>simp at hm
   | cons a l=>simp
  rw [if_pos (by simpa using hm),if_pos (by rw [zbJ]; exact ⟨by omega,by omega⟩)]
  have e:(bs l).extract (Int.toNat 1) (bs l).size=bs l.tail:=by
   apply bext
   rw [ByteArray.data_extract,Array.toList_extract,zcW,zcW,zbJ]
   simp [List.take_of_length_le]
  rw [e,zo9 l l.tail (by simp; omega)]
  have hd:(if l.head?=some 45 then l.tail else l)=l.tail:=if_pos hm
  rw [hd]
  rfl
 ·rw [if_neg (by simpa using hm),zo9 l l h]
  have hd:(if l.head?=some 45 then l.tail else l)=l:=if_neg hm
  rw [hd]
  rfl
end Go.Vs
