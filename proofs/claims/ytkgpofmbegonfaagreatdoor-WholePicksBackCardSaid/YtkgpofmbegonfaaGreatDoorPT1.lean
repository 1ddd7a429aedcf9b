import Derived.Test.YtkgpofmbegonfaaGreatDoorPalC
import Derived.Test.YtkgpofmbegonfaaGreatDoorPalRead
import Derived.Test.YtkgpofmbegonfaaGreatDoorPalUtf
import Derived.Lib.DecodeN
import Derived.Test.YtkgpofmbegonfaaGreatDoorPalL
set_option linter.all false
section
namespace Go.Vs
local instance tabPalLex:Tab:=⟨fun _=>none⟩
def Sm(s:ByteArray):Prop:=s.size<=1000000
theorem zlB{n b0 b1 b2 b3:Nat}(hn:0<n):1<=(Lib.decodeN n b0 b1 b2 b3).2/\(Lib.decodeN n b0 b1 b2 b3).2<=n:=by
 unfold Lib.decodeN
 repeat' split
 all_goals dsimp only
 all_goals omega
theorem zoO{n b0 b1 b2 b3:Nat}(h:(Lib.decodeN n b0 b1 b2 b3).1≠65533):Lib.runeLen ((Lib.decodeN n b0 b1 b2 b3).1:Int)=((Lib.decodeN n b0 b1 b2 b3).2:Int):=by
 revert h
 unfold Lib.decodeN
 repeat' split
 all_goals dsimp only
 all_goals intro h
 all_goals (try (exact absurd rfl h))
 all_goals (unfold Lib.runeLen; repeat' split)
 all_goals omega
theorem znX(s:ByteArray)(pos:Nat)(h:pos<s.size):1<=(Utf8.decode s pos).2/\pos+(Utf8.decode s pos).2<=s.size:=by
 rw [Lib.decode_at]
 have:=zlB (n:=s.size-pos) (b0:=(s.get! pos).toNat) (b1:=(s.get! (pos+1)).toNat) (b2:=(s.get! (pos+2)).toNat) (b3:=(s.get! (pos+3)).toNat) (by omega)
 omega
theorem zkY(s:ByteArray)(pos:Nat)(h:(Utf8.decode s pos).1≠65533):Lib.runeLen ((Utf8.decode s pos).1:Int)=((Utf8.decode s pos).2:Int):=by
 rw [Lib.decode_at] at h ⊢; exact zoO h
def zds(s:ByteArray):Nat->Nat->Int->Int->List zam
 | 0,_,_,_=>[]
 | f+1,pos,line,col=>if pos<s.size then
   { Rune:=((Utf8.decode s pos).1:Int),At:=(pos:Int),Size:=((Utf8.decode s pos).2:Int),Line:=line,Col:=col,Bad:=(Utf8.decode s pos).1==65533&&(Utf8.decode s pos).2==1 } ::
    zds s f (pos+(Utf8.decode s pos).2) (if (Utf8.decode s pos).1=10 then line+1 else line) (if (Utf8.decode s pos).1=10 then 1 else col+1)
  else []
def zcq(s:ByteArray):List zam:=zds s s.size 0 1 1
theorem zme{line col:Int}{r:Nat}(h1:0<=line/\line<=2000000)(h2:0<=col/\col<=2000000):zdM line col (r:Int)=some ((if r=10 then line+1 else line),(if r=10 then 1 else col+1)):=by
 rw [zdM]
 have e1:IntKind.wrap .i64 (line+1)=line+1:=zbV ⟨by omega,by omega⟩
 have e2:IntKind.wrap .i64 (col+1)=col+1:=zbV ⟨by omega,by omega⟩
 rw [e1,e2]
 by_cases h:r=10
 ·subst h; rfl
 ·have:¬(((r:Int)==10)=true):=by simp; omega
  rw [if_neg this,if_neg h,if_neg h]
theorem zlv(s:ByteArray)(hs:Sm s):∀(f pos:Nat) (line col:Int) (out:List zam),s.size-pos<=f->pos<=s.size->0<=line/\line<=1+pos->0<=col/\col<=1+pos->out.length<=pos ->
  zbn (zbX s) (line,col,pos,out)=some (out++zds s f pos line col):=by
 intro f
 induction f with
 | zero =>
  intro pos line col out hf hp hl hc ho
  have h:¬pos<s.size:=by omega
  rw [zds,List.append_nil]
  refine zaM ?_
  rw [zbX,if_neg h]
 | succ f ih =>
  intro pos line col out hf hp hl hc ho
  rw [zds]
  by_cases h:pos<s.size
  ·rw [if_pos h]
   obtain ⟨w1,w2⟩:=znX s pos h
   unfold Sm at hs
   have hj:∀b:Bool,zcp out s pos line col ((Utf8.decode s pos).2:Int) b=some (.inl ((if (Utf8.decode s pos).1=10 then line+1 else line),(if (Utf8.decode s pos).1=10 then 1 else col+1),pos+(Utf8.decode s pos).2,
     out++[{ Rune:=((Utf8.decode s pos).1:Int),At:=(pos:Int),Size:=((Utf8.decode s pos).2:Int),Line:=line,Col:=col,Bad:=b }])):=by
    intro b
    rw [zcp,if_pos (show Fits _ by unfold Fits; omega)]
    simp only [Option.bind_some]
    rw [zme (by omega) (by omega)]
    rfl
   have hst:zbX s (line,col,pos,out)=some (.inl ((if (Utf8.decode s pos).1=10 then line+1 else line),(if (Utf8.decode s pos).1=10 then 1 else col+1),pos+(Utf8.decode s pos).2,
     out++[{ Rune:=((Utf8.decode s pos).1:Int),At:=(pos:Int),Size:=((Utf8.decode s pos).2:Int),Line:=line,Col:=col,Bad:=(Utf8.decode s pos).1==65533&&(Utf8.decode s pos).2==1 }])):=by
    rw [zbX,if_pos h]
    by_cases he:(Utf8.decode s pos).1=65533
    ·rw [if_pos (by rw [he]; rfl),if_pos ⟨by omega,by omega⟩,zbE]
     have e:s.extract ((pos:Int).toNat) s.size=s.extract pos s.size:=by rw [Int.toNat_natCast]
     simp only [Option.bind_some]
     rw [e,zj1 s pos h,hj]
     congr 8
     rw [he,Bool.eq_iff_iff]; simp; omega
    ·rw [if_neg (by simp; omega),zcO,Option.bind_some,zkY s pos he,hj]
     have:((Utf8.decode s pos).1==65533)=false:=by simpa using he
     rw [this]; rfl
   rw [zbC hst,ih _ _ _ _ (by omega) w2 (by split <;> omega) (by split <;> omega) (by simp; omega),List.append_assoc]
   rfl
  ·rw [if_neg h,List.append_nil]
   refine zaM ?_
   rw [zbX,if_neg h]
theorem zfn(s:ByteArray)(hs:Sm s):zdq s=some (zcq s):=by
 rw [zdq,zlv s hs s.size 0 1 1 [] (by omega) (by omega) (by omega) (by omega) (by simp)]
 rfl
theorem zm6(s:ByteArray)(hs:Sm s):∀(f pos:Nat) (line col:Int),s.size-pos<=f->pos<=s.size->0<=line/\line<=1+pos->0<=col/\col<=1+pos ->
  zbn (zcj s) (line,col,pos)=some (match (zds s f pos line col).getLast? with | none=>(line,col) | some x=>if x.Rune=10 then (x.Line+1,1) else (x.Line,x.Col+1)):=by
 intro f
 induction f with
 | zero =>
  intro pos line col hf hp hl hc
  have h:¬pos<s.size:=by omega
  refine zaM ?_
  rw [zcj,if_neg h]; rfl
 | succ f ih =>
  intro pos line col hf hp hl hc
  rw [zds]
  by_cases h:pos<s.size
  ·rw [if_pos h]
   obtain ⟨w1,w2⟩:=znX s pos h
   unfold Sm at hs
   have hst:zcj s (line,col,pos)=some (.inl ((if (Utf8.decode s pos).1=10 then line+1 else line),(if (Utf8.decode s pos).1=10 then 1 else col+1),pos+(Utf8.decode s pos).2)):=by
    rw [zcj,if_pos h,zme (by omega) (by omega)]; rfl
   rw [zbC hst,ih _ _ _ (by omega) w2 (by split <;> omega) (by split <;> omega)]
   generalize zds s f (pos+(Utf8.decode s pos).2) (if (Utf8.decode s pos).1=10 then line+1 else line) (if (Utf8.decode s pos).1=10 then 1 else col+1)=l
   cases l with
   | nil =>
    simp only [List.getLast?_nil,List.getLast?_singleton]
    by_cases e:(Utf8.decode s pos).1=10
    ·rw [if_pos e,if_pos e,if_pos (by omega)]
    ·rw [if_neg e,if_neg e,if_neg (by omega)]
   | cons a l =>
    rw [List.getLast?_cons_cons]
    cases hl:(a::l).getLast? with
    | none=>simp at hl
    | some x=>rfl
  ·rw [if_neg h]
   refine zaM ?_
   rw [zcj,if_neg h]; rfl
def zhT(l:List zam):Int × Int:=match l.getLast? with | none=>(1,1) | some x=>if x.Rune=10 then (x.Line+1,1) else (x.Line,x.Col+1)
theorem zjw(s:ByteArray)(hs:Sm s):zeY s=some (zhT (zcq s)):=by
 rw [zeY,zm6 s hs s.size 0 1 1 (by omega) (by omega) (by omega) (by omega)]
 simp only [Option.bind_some,zhT,zcq]
end Go.Vs
end
section
namespace Go.Vs
local instance tabPalLex2:Tab:=⟨fun _=>none⟩
def toR(x:zam):zb0:={ Rune:=x.Rune,At:=x.At,Size:=x.Size,Line:=x.Line,Col:=x.Col,Bad:=x.Bad }
theorem zhY(s:ByteArray):∀(f pos:Nat) (line col:Int),∀x∈zds s f pos line col,(pos:Int)<=x.At/\1<=x.Size/\x.At+x.Size<=s.size/\x.Bad=(x.Rune==65533&&x.Size==1):=by
 intro f
 induction f with
 | zero=>intro pos line col x hx; simp [zds] at hx
 | succ f ih =>
  intro pos line col x hx
  rw [zds] at hx
  split at hx
  ·rename_i h
   obtain ⟨w1,w2⟩:=znX s pos h
   rcases List.mem_cons.1 hx with rfl | hx
   ·refine ⟨Int.le_refl _,by simp; omega,by simp; omega,?_⟩
    simp only
    rw [Bool.eq_iff_iff]; simp; omega
   ·obtain ⟨a,b,c,d⟩:=ih _ _ _ x hx
    exact ⟨by omega,b,c,d⟩
  ·simp at hx
theorem zhX(s:ByteArray):∀(f pos:Nat) (line col:Int),(zds s f pos line col).length<=s.size-pos:=by
 intro f
 induction f with
 | zero=>intro pos line col; simp [zds]
 | succ f ih =>
  intro pos line col
  rw [zds]
  split
  ·rename_i h
   obtain ⟨w1,w2⟩:=znX s pos h
   have:=ih (pos+(Utf8.decode s pos).2) (if (Utf8.decode s pos).1=10 then line+1 else line) (if (Utf8.decode s pos).1=10 then 1 else col+1)
   simp only [List.length_cons]; omega
  ·simp
theorem ziB(s:ByteArray):∀(f pos:Nat) (line col:Int),(zds s f pos line col).Pairwise fun x y=>x.At<=y.At:=by
 intro f
 induction f with
 | zero=>intro pos line col; simp [zds]
 | succ f ih =>
  intro pos line col
  rw [zds]
  split
  ·rename_i h
   refine List.Pairwise.cons (fun y hy=>?_) (ih _ _ _)
   have:=(zhY s _ _ _ _ y hy).1
   simp only; omega
  ·exact List.Pairwise.nil
end Go.Vs
end
section
namespace Go.Vs
local instance tabPalNumLaws0:Tab:=⟨fun _=>none⟩
open Go.Lib (decDigits itoa nDigits)
theorem zmL{v:Int}(h:I64 v):zfS v=some (zcV v):=if_pos h
theorem zjN{s:ByteArray}(h:s.size<=281474976710656):zcH s=some (zcC s):=if_pos h
end Go.Vs
end
section
namespace Go.Vs
local instance tabPalLex3:Tab:=⟨fun _=>none⟩
def zeB(p0:Int):Bool:=(((decide (p0≥97)&&decide (p0<=122))||(decide (p0≥65)&&decide (p0<=90)))||(p0==95))||(decide (p0≥161)&&decide (p0<=1114111))
def zhy(p0:Int):Bool:=decide (p0≥48)&&decide (p0<=57)
def zjB(p0:Int):Bool:=(p0==32)||(p0==9)
def zmj(p0:Int):Bool:=(((p0==44)||(p0==91))||(p0==93))||(p0==58)
theorem zm8(r:Int):zcy r=some (zeB r):=rfl
theorem zmA(r:Int):zcE r=some (zeB r):=rfl
theorem zpm(r:Int):zc0 r=some (zhy r):=rfl
theorem zpa(r:Int):zdw r=some (zhy r):=rfl
theorem zrU(r:Int):zeD r=some (zjB r):=rfl
theorem zry(r:Int):zeH r=some (zjB r):=rfl
theorem zgt{v:List zam}{i:Int}(h:InB i v.length):rd (v.map toR) i=toR (rd v i):=by
 obtain ⟨h0,h1⟩:=h
 rw [rd,rd,List.getD_eq_getElem?_getD,List.getD_eq_getElem?_getD,List.getElem?_map,List.getElem?_eq_getElem h1]; rfl
def zfE(v:List zam)(i:Int):Bool:=(decide (i<(v.length:Int))&&!(rd v i).Bad)&&(zeB (rd v i).Rune||zhy (rd v i).Rune)
theorem zfl{i:Int}{n:Nat}(h0:0<=i)(h:decide (i<(n:Int))=true):InB i n:=⟨h0,by have:=of_decide_eq_true h; omega⟩
theorem ziD{v:List zam}{i:Int}(h0:0<=i)(h1:i<=1000000):zdJ v i=some (if zfE v i=true then .inl (i+1) else .inr i):=by
 have e1:IntKind.wrap .i64 (i+1)=i+1:=zbV ⟨by omega,by omega⟩
 rw [zdJ,if_pos (zfl h0),if_pos (fun h=>zfl h0 (by simp only [Bool.and_eq_true] at h; exact h.1)),e1,zfE]
 cases hA:(decide (i<(v.length:Int))&&!(rd v i).Bad) with
 | false=>simp
 | true =>
  have hin:InB i v.length:=zfl h0 (by simp only [Bool.and_eq_true] at hA; exact hA.1)
  simp only [if_true,zm8,Option.bind_some,Bool.true_and]
  rw [if_pos (fun _=>hin)]
  cases hl:zeB (rd v i).Rune <;> (try simp [zpm]) <;> (try (split <;> rfl))
theorem zg5{v:List zam}{i:Int}(h0:0<=i)(h1:i<=1000000):zcf (v.map toR) i=some (if zfE v i=true then .inl (i+1) else .inr i):=by
 have e1:IntKind.wrap .i64 (i+1)=i+1:=zbV ⟨by omega,by omega⟩
 have el:(v.map toR).length=v.length:=by simp
 rw [zcf,el,if_pos (zfl h0),if_pos (fun h=>zfl h0 (by simp only [Bool.and_eq_true] at h; exact h.1)),e1,zfE]
 cases hd:decide (i<(v.length:Int)) with
 | false=>simp
 | true =>
  have hin:InB i v.length:=zfl h0 hd
  rw [zgt hin]
  have eb:(toR (rd v i)).Bad=(rd v i).Bad:=rfl
  have er:(toR (rd v i)).Rune=(rd v i).Rune:=rfl
  rw [eb,er]
  cases hb:(rd v i).Bad with
  | true=>simp
  | false =>
   simp only [Bool.not_false,Bool.and_true,if_true,zmA,Option.bind_some,Bool.true_and]
   rw [if_pos (fun _=>hin)]
   cases hl:zeB (rd v i).Rune <;> (try simp [zpa]) <;> (try (split <;> rfl))
def runC(v:List zam):Nat->Int->Int
 | 0,i=>i
 | n+1,i=>if zfE v i=true then runC v n (i+1) else i
theorem zgN(v:List zam)(hv:v.length<=1000000):∀(n:Nat) (i:Int),0<=i->i<=v.length->v.length-i.toNat<=n ->
  ∃k,k=runC v n i/\zbn (zdJ v) i=some k/\zbn (zcf (v.map toR)) i=some k/\i<=k/\k<=v.length:=by
 intro n
 induction n with
 | zero =>
  intro i h0 h1 hn
  have hw:zfE v i=false:=by
   have:decide (i<(v.length:Int))=false:=decide_eq_false (by omega)
   rw [zfE,this]; rfl
  refine ⟨i,rfl,zaM ?_,zaM ?_,Int.le_refl _,h1⟩
  ·rw [ziD h0 (by omega),hw]; rfl
  ·rw [zg5 h0 (by omega),hw]; rfl
 | succ n ih =>
  intro i h0 h1 hn
  cases hw:zfE v i with
  | false =>
   refine ⟨i,by rw [runC,hw]; rfl,zaM ?_,zaM ?_,Int.le_refl _,h1⟩
   ·rw [ziD h0 (by omega),hw]; rfl
   ·rw [zg5 h0 (by omega),hw]; rfl
  | true =>
   have hlt:i<(v.length:Int):=by
    simp only [zfE,Bool.and_eq_true,decide_eq_true_eq] at hw; exact hw.1.1
   obtain ⟨k,e,a,b,c,d⟩:=ih (i+1) (by omega) (by omega) (by omega)
   refine ⟨k,by rw [runC,hw]; exact e,?_,?_,by omega,d⟩
   ·rw [zbC (by rw [ziD h0 (by omega),hw]; rfl)]; exact a
   ·rw [zbC (by rw [zg5 h0 (by omega),hw]; rfl)]; exact b
def zgC(v:List zam)(i:Int):Int ⊕ (Int ⊕ ((List zac) × zah)) :=
 if (decide (i<(v.length:Int))&&((rd v i).Rune != 10))=true then (if (rd v i).Bad=true then .inr (.inr ([],⟨1,(rd v i).Line,(rd v i).Col⟩)) else .inl (i+1)) else .inr (.inl i)
theorem zgP{v:List zam}{i:Int}(h0:0<=i)(h1:i<=1000000):zck v i=some (zgC v i):=by
 have e1:IntKind.wrap .i64 (i+1)=i+1:=zbV ⟨by omega,by omega⟩
 rw [zck,if_pos (zfl h0),e1,zgC]
 by_cases hA:(decide (i<(v.length:Int))&&((rd v i).Rune != 10))=true
 ·have hin:InB i v.length:=zfl h0 (by simp only [Bool.and_eq_true] at hA; exact hA.1)
  rw [if_pos hA,if_pos hA,if_pos hin]
  by_cases hb:(rd v i).Bad=true
  ·rw [if_pos hb,if_pos hb,if_pos hin]; rfl
  ·rw [if_neg hb,if_neg hb]
 ·rw [if_neg hA,if_neg hA]
theorem zg9{v:List zam}{i:Int}(h0:0<=i)(h1:i<=1000000):zcg (v.map toR) i=some (zgC v i):=by
 have e1:IntKind.wrap .i64 (i+1)=i+1:=zbV ⟨by omega,by omega⟩
 have el:(v.map toR).length=v.length:=by simp
 rw [zcg,el,if_pos (zfl h0),e1,zgC]
 by_cases hd:decide (i<(v.length:Int))=true
 ·have hin:InB i v.length:=zfl h0 hd
  rw [zgt hin,hd]
  have er:(toR (rd v i)).Rune=(rd v i).Rune:=rfl
  have eb:(toR (rd v i)).Bad=(rd v i).Bad:=rfl
  rw [er,eb,if_pos hin,if_pos hin,if_pos hin]
  simp only [Bool.true_and]
  split
  ·split <;> rfl
  ·rfl
 ·simp only [Bool.not_eq_true] at hd
  rw [hd]; simp
def remC(v:List zam):Nat->Int->Int ⊕ ((List zac) × zah)
 | 0,i=>.inl i
 | n+1,i=>match zgC v i with | .inl j=>remC v n j | .inr r=>r
theorem zgQ(v:List zam)(hv:v.length<=1000000):∀(n:Nat) (i:Int),0<=i->i<=v.length->v.length-i.toNat<=n ->
  ∃r,r=remC v n i/\zbn (zck v) i=some r/\zbn (zcg (v.map toR)) i=some r/\∀k,r=.inl k->i<=k/\k<=v.length:=by
 intro n
 induction n with
 | zero =>
  intro i h0 h1 hn
  have hw:zgC v i=.inr (.inl i):=by
   have:decide (i<(v.length:Int))=false:=decide_eq_false (by omega)
   rw [zgC,this]; rfl
  refine ⟨.inl i,rfl,zaM ?_,zaM ?_,fun k e=>?_⟩
  ·rw [zgP h0 (by omega),hw]
  ·rw [zg9 h0 (by omega),hw]
  ·injection e with e; omega
 | succ n ih =>
  intro i h0 h1 hn
  cases hw:zgC v i with
  | inr r =>
   refine ⟨r,by rw [remC,hw],zaM ?_,zaM ?_,fun k e=>?_⟩
   ·rw [zgP h0 (by omega),hw]
   ·rw [zg9 h0 (by omega),hw]
   ·subst e
    unfold zgC at hw
    split at hw
    ·split at hw
     ·injection hw with hw; cases hw
     ·cases hw
    ·injection hw with hw; injection hw with hw; omega
  | inl j =>
   have hj:j=i+1/\i<(v.length:Int):=by
    unfold zgC at hw
    split at hw
    ·rename_i hc
     simp only [Bool.and_eq_true,decide_eq_true_eq] at hc
     split at hw
     ·cases hw
     ·injection hw with hw; exact ⟨hw.symm,hc.1⟩
    ·cases hw
   obtain ⟨rfl,hlt⟩:=hj
   obtain ⟨r,er,a,b,c⟩:=ih (i+1) (by omega) (by omega) (by omega)
   refine ⟨r,by rw [remC,hw]; exact er,?_,?_,fun k e=>?_⟩
   ·rw [zbC (by rw [zgP h0 (by omega),hw])]; exact a
   ·rw [zbC (by rw [zg9 h0 (by omega),hw])]; exact b
   ·have:=c k e; omega
theorem znU{kind L C n:Int}{t:ByteArray}(hkind:kind=1\/kind=2\/kind=3\/kind=4)(ht:t.size<=281474976710656) :
  zdV (zac.mk kind L C t) n=some (if kind=1/\n>16 then 3 else if kind=2/\(zcC t).2=false then 2 else 0):=by
 rw [zdV]
 show (if ((kind==1)&&decide (n>16))=true then some 3 else if (kind==2)=true then ((zcH t).bind fun v4=>if (!v4.2)=true then some 2 else some 0) else some 0)=_
 rw [zjN ht]
 simp only [Option.bind_some,Bool.and_eq_true,beq_iff_eq,decide_eq_true_eq,Bool.not_eq_true']
 by_cases p1:kind=1/\n>16
 ·rw [if_pos p1,if_pos p1]
 ·rw [if_neg p1,if_neg p1]
  by_cases p2:kind=2
  ·rw [if_pos p2]
   by_cases p3:(zcC t).2=false
   ·rw [if_pos p3,if_pos ⟨p2,p3⟩]
   ·rw [if_neg p3,if_neg (fun h=>p3 h.2)]
  ·rw [if_neg p2,if_neg (fun h=>p2 h.1)]
structure Good (s:ByteArray) (v:List zam):Prop where
 sm:Sm s
 len:v.length<=s.size
 at0:∀i,InB i v.length->0<=(rd v i).At/\1<=(rd v i).Size/\(rd v i).At+(rd v i).Size<=s.size
 le:∀i j,InB i v.length->InB j v.length->i<=j->(rd v i).At<=(rd v j).At
theorem zmz{v:List zam}{i:Int}(h:InB i v.length):rd v i=v[i.toNat]'h.2:=by
 rw [rd,List.getD_eq_getElem?_getD,List.getElem?_eq_getElem h.2]; rfl
theorem zik(s:ByteArray)(hs:Sm s):Good s (zcq s):=by
 refine ⟨hs,by have:=zhX s s.size 0 1 1; unfold zcq; omega,fun i h=>?_,fun i j hi hj hij=>?_⟩
 ·rw [zmz h]
  obtain ⟨a,b,c,_⟩:=zhY s _ _ _ _ _ (List.getElem_mem h.2)
  exact ⟨by simpa using a,b,c⟩
 ·rw [zmz hi,zmz hj]
  by_cases e:i=j
  ·subst e; exact Int.le_refl _
  ·have:=hi.1
   exact List.pairwise_iff_getElem.1 (ziB s _ _ _ _) i.toNat j.toNat hi.2 hj.2 (by omega)
def tail(v:List zam)(s:ByteArray)(i:Int)(l:List zac)(k kind:Int):(Int × List zac) ⊕ (List zac ⊕ ((List zac) × zah)) :=
 let t:=s.extract (rd v i).At.toNat ((rd v (k-1)).At+(rd v (k-1)).Size).toNat
 if kind=1/\k-i>16 then .inr (.inr ([],⟨3,(rd v i).Line,(rd v i).Col⟩))
 else if kind=2/\(zcC t).2=false then .inr (.inr ([],⟨2,(rd v i).Line,(rd v i).Col⟩))
 else .inl (k,l++[⟨kind,(rd v i).Line,(rd v i).Col,t⟩])
section
variable {s:ByteArray} {v:List zam} (g:Good s v) {i k:Int} {l:List zac} (hi:InB i v.length) (hk:i<k) (hkn:k<=v.length) (hl:l.length<=1000000)
include g hi hk hkn hl
theorem zkx:IntKind.wrap .i64 (k-1)=k-1/\InB (k-1) v.length/\IntKind.wrap .i64 (k-i)=k-i/\IntKind.wrap .i64 ((rd v (k-1)).At+(rd v (k-1)).Size)=(rd v (k-1)).At+(rd v (k-1)).Size /\
  Bnd ((rd v (k-1)).At+(rd v (k-1)).Size) s.size/\Bnd (rd v i).At (((rd v (k-1)).At+(rd v (k-1)).Size).toNat):=by
 have hsm:=g.sm
 unfold Sm at hsm
 have hlen:=g.len
 obtain ⟨hi0,hi1⟩:=hi
 have hin:InB (k-1) v.length:=⟨by omega,by omega⟩
 obtain ⟨a1,a2,a3⟩:=g.at0 _ hin
 obtain ⟨b1,b2,b3⟩:=g.at0 _ ⟨hi0,hi1⟩
 have hle:=g.le i (k-1) ⟨hi0,hi1⟩ hin (by omega)
 exact ⟨zbV ⟨by omega,by omega⟩,hin,zbV ⟨by omega,by omega⟩,zbV ⟨by omega,by omega⟩,⟨by omega,by omega⟩,⟨by omega,by omega⟩⟩
theorem zop(kind:Int)(hkind:kind=1\/kind=2\/kind=3\/kind=4) :
  (if InB (IntKind.wrap .i64 (k-1)) v.length then (if InB (IntKind.wrap .i64 (k-1)) v.length then (if Bnd (IntKind.wrap .i64 ((rd v (IntKind.wrap .i64 (k-1))).At+(rd v (IntKind.wrap .i64 (k-1))).Size)) s.size then (if Bnd ((rd v i).At) ((IntKind.wrap .i64 ((rd v (IntKind.wrap .i64 (k-1))).At+(rd v (IntKind.wrap .i64 (k-1))).Size)).toNat) then ((some (s.extract (((rd v i).At).toNat) ((IntKind.wrap .i64 ((rd v (IntKind.wrap .i64 (k-1))).At+(rd v (IntKind.wrap .i64 (k-1))).Size)).toNat))).bind fun s222 =>
            (zdV (zac.mk kind ((rd v i).Line) ((rd v i).Col) s222) (IntKind.wrap .i64 (k-i))).bind fun v224 =>
            if (v224 != 0)=true then ((zdg v224 (rd v i)).bind fun v227 =>
        some (.inr (.inr ([],v227)))) else (if Fits (l.length+1) then ((some (l++([(zac.mk kind ((rd v i).Line) ((rd v i).Col) s222)]))).bind fun l230 =>
        some (.inl (k,l230))) else none)) else none) else none) else none) else none)=some (tail v s i l k kind):=by
 obtain ⟨e1,hin,e2,e3,b1,b2⟩:=zkx g hi hk hkn hl
 rw [e1,if_pos hin,if_pos hin,e3,if_pos b1,if_pos b2,e2]
 simp only [Option.bind_some,tail]
 generalize ht:s.extract (rd v i).At.toNat ((rd v (k-1)).At+(rd v (k-1)).Size).toNat=t
 have hts:t.size<=1000000:=by
  have:=g.sm
  unfold Sm at this
  rw [← ht,ByteArray.size_extract]; omega
 have hf:Fits (l.length+1):=by unfold Fits; omega
 rw [znU hkind (by omega)]
 simp only [Option.bind_some,hf,if_true]
 by_cases p1:kind=1/\k-i>16
 ·rw [if_pos p1,if_pos p1]; rfl
 ·rw [if_neg p1,if_neg p1]
  by_cases p2:kind=2/\(zcC t).2=false
  ·rw [if_pos p2,if_pos p2]; rfl
  ·rw [if_neg p2,if_neg p2]; rfl
theorem zoa(kind:Int)(hkind:kind=1\/kind=2\/kind=3\/kind=4):zaS (v.map toR) s i l k kind=some (tail v s i l k kind):=by
 obtain ⟨e1,hin,e2,e3,b1,b2⟩:=zkx g hi hk hkn hl
 have el:(v.map toR).length=v.length:=by simp
 rw [zaS,e1,el,zgt hin,zgt hi]
 have q1:(toR (rd v (k-1))).At=(rd v (k-1)).At:=rfl
 have q2:(toR (rd v (k-1))).Size=(rd v (k-1)).Size:=rfl
 have q3:(toR (rd v i)).At=(rd v i).At:=rfl
 have q4:(toR (rd v i)).Line=(rd v i).Line:=rfl
 have q5:(toR (rd v i)).Col=(rd v i).Col:=rfl
 rw [q1,q2,q3,q4,q5,if_pos hin,if_pos hin,e3,if_pos b1,if_pos b2,e2]
 simp only [Option.bind_some,tail]
 generalize ht:s.extract (rd v i).At.toNat ((rd v (k-1)).At+(rd v (k-1)).Size).toNat=t
 have hts:t.size<=1000000:=by
  have:=g.sm
  unfold Sm at this
  rw [← ht,ByteArray.size_extract]; omega
 have hf:Fits (l.length+1):=by unfold Fits; omega
 have hj2:zbT kind l (v.map toR) i t k=some (.inl (k,l++[⟨kind,(rd v i).Line,(rd v i).Col,t⟩])):=by
  rw [zbT,zgt hi,if_pos (by rcases hkind with rfl | rfl | rfl | rfl <;> rfl),if_pos hf]; rfl
 rw [hj2,zfO t (by omega)]
 simp only [Option.bind_some,e2,Bool.and_eq_true,beq_iff_eq,decide_eq_true_eq,Bool.not_eq_true']
 by_cases p1:kind=1/\k-i>16
 ·rw [if_pos p1,if_pos p1]
 ·rw [if_neg p1,if_neg p1]
  by_cases p2:kind=2
  ·rw [if_pos p2]
   by_cases p3:(zcC t).2=false
   ·rw [if_pos p3,if_pos ⟨p2,p3⟩]
   ·rw [if_neg p3,if_neg (fun h=>p3 h.2)]
  ·rw [if_neg p2,if_neg (fun h=>p2 h.1)]
theorem zoc:zaS (v.map toR) s i l k 0=some (.inl (k,l)):=by
 obtain ⟨e1,hin,e2,e3,b1,b2⟩:=zkx g hi hk hkn hl
 have el:(v.map toR).length=v.length:=by simp
 rw [zaS,e1,el,zgt hin,zgt hi]
 have q1:(toR (rd v (k-1))).At=(rd v (k-1)).At:=rfl
 have q2:(toR (rd v (k-1))).Size=(rd v (k-1)).Size:=rfl
 have q3:(toR (rd v i)).At=(rd v i).At:=rfl
 rw [q1,q2,q3,if_pos hin,if_pos hin,e3,if_pos b1,if_pos b2]
 simp only [Option.bind_some]
 rw [if_neg (by simp),if_neg (by decide),zbT,if_neg (by simp)]; rfl
end
end Go.Vs
end
section
namespace Go.Vs
local instance tabPalLex4:Tab:=⟨fun _=>none⟩
def zfq(v:List zam)(s:ByteArray)(i:Int)(l:List zac):(Int × List zac) ⊕ (List zac ⊕ ((List zac) × zah)) :=
 if (rd v i).Bad=true then .inr (.inr ([],⟨1,(rd v i).Line,(rd v i).Col⟩))
 else if zjB (rd v i).Rune=true then .inl (i+1,l)
 else if (rd v i).Rune=59 then (match remC v v.length (i+1) with | .inl k=>.inl (k,l) | .inr q=>.inr (.inr q))
 else if (rd v i).Rune=10 then tail v s i l (i+1) 4
 else if zmj (rd v i).Rune=true then tail v s i l (i+1) 3
 else if zeB (rd v i).Rune=true then tail v s i l (runC v v.length (i+1)) 1
 else if (zhy (rd v i).Rune||((rd v i).Rune==45))=true then tail v s i l (runC v v.length (i+1)) 2
 else .inr (.inr ([],⟨1,(rd v i).Line,(rd v i).Col⟩))
section
variable {s:ByteArray} {v:List zam} (g:Good s v) {i:Int} {l:List zac} (hi:InB i v.length) (hl:l.length<=1000000)
include g hi hl
theorem zkH:0<=i/\i<v.length/\v.length<=1000000:=by
 have h1:=g.sm; have h2:=g.len; unfold Sm at h1
 obtain ⟨a,b⟩:=hi
 exact ⟨a,by omega,by omega⟩
theorem zoq:zca v s (i,l)=some (zfq v s i l):=by
 obtain ⟨h0,h1,hv⟩:=zkH g hi hl
 have e1:IntKind.wrap .i64 (i+1)=i+1:=zbV ⟨by omega,by omega⟩
 have hd:decide (i<(v.length:Int))=true:=decide_eq_true h1
 obtain ⟨k,ek,lk,_,k1,k2⟩:=zgN v hv v.length (i+1) (by omega) (by omega) (by omega)
 obtain ⟨r,er,lr,_,r1⟩:=zgQ v hv v.length (i+1) (by omega) (by omega) (by omega)
 rw [zca,if_pos hd,if_pos hi,zrU,e1]
 simp only [Option.bind_some]
 unfold zfq
 by_cases c1:(rd v i).Bad=true
 ·rw [if_pos c1,if_pos c1]; rfl
 rw [if_neg c1,if_neg c1]
 by_cases c2:zjB (rd v i).Rune=true
 ·rw [if_pos c2,if_pos c2]
 rw [if_neg c2,if_neg c2]
 by_cases c3:(rd v i).Rune=59
 ·rw [if_pos (by simpa using c3),if_pos c3]
  have hst:zck v i=some (.inl (i+1)):=by
   rw [zgP h0 (by omega),zgC,hd,if_pos (by rw [c3]; rfl),if_neg c1]
  rw [zbC hst,lr,← er]
  simp only [Option.bind_some]
  cases r <;> rfl
 rw [if_neg (by simpa using c3),if_neg c3]
 have hrun:∀kk kind:Int,i<kk->kk<=v.length->(kind=1\/kind=2\/kind=3\/kind=4)->zfy v i=some (kk,kind) ->
   ((zfy v i).bind fun v213 =>
      if (v213.2==0)=true then ((zdg 1 (rd v i)).bind fun v216 =>
       some (.inr (.inr ([],v216)))) else (if InB (IntKind.wrap .i64 (v213.1-1)) v.length then (if InB (IntKind.wrap .i64 (v213.1-1)) v.length then (if Bnd (IntKind.wrap .i64 ((rd v (IntKind.wrap .i64 (v213.1-1))).At+(rd v (IntKind.wrap .i64 (v213.1-1))).Size)) s.size then (if Bnd ((rd v i).At) ((IntKind.wrap .i64 ((rd v (IntKind.wrap .i64 (v213.1-1))).At+(rd v (IntKind.wrap .i64 (v213.1-1))).Size)).toNat) then ((some (s.extract (((rd v i).At).toNat) ((IntKind.wrap .i64 ((rd v (IntKind.wrap .i64 (v213.1-1))).At+(rd v (IntKind.wrap .i64 (v213.1-1))).Size)).toNat))).bind fun s222 =>
       (zdV (zac.mk v213.2 ((rd v i).Line) ((rd v i).Col) s222) (IntKind.wrap .i64 (v213.1-i))).bind fun v224 =>
       if (v224 != 0)=true then ((zdg v224 (rd v i)).bind fun v227 =>
        some (.inr (.inr ([],v227)))) else (if Fits (l.length+1) then ((some (l++([(zac.mk v213.2 ((rd v i).Line) ((rd v i).Col) s222)]))).bind fun l230 =>
        some (.inl (v213.1,l230))) else none)) else none) else none) else none) else none):Option ((Int × List zac) ⊕ (List zac ⊕ ((List zac) × zah))))=some (tail v s i l kk kind):=by
  intro kk kind h2 h3 h4 h5
  rw [h5,Option.bind_some,if_neg (by rcases h4 with rfl | rfl | rfl | rfl <;> simp)]
  exact zop g hi h2 h3 hl kind h4
 have hj:∀kind:Int,zdK v i kind=some (runC v v.length (i+1),kind):=by
  intro kind
  rw [zdK,e1,lk,← ek]; rfl
 have hR:zfy v i=if (rd v i).Rune=10 then some (i+1,4) else if zmj (rd v i).Rune=true then some (i+1,3) else if zeB (rd v i).Rune=true then some (runC v v.length (i+1),1)
   else if (zhy (rd v i).Rune||((rd v i).Rune==45))=true then some (runC v v.length (i+1),2) else some (i,0):=by
  rw [zfy,if_pos hi,e1,zm8,zpm,hj,hj]
  simp only [Option.bind_some,beq_iff_eq]
  rfl
 rw [← ek] at hR
 by_cases c4:(rd v i).Rune=10
 ·rw [if_pos c4]; exact hrun _ _ (by omega) (by omega) (by omega) (by rw [hR,if_pos c4])
 by_cases c5:zmj (rd v i).Rune=true
 ·rw [if_neg c4,if_pos c5]; exact hrun _ _ (by omega) (by omega) (by omega) (by rw [hR,if_neg c4,if_pos c5])
 by_cases c6:zeB (rd v i).Rune=true
 ·rw [if_neg c4,if_neg c5,if_pos c6,← ek]; exact hrun _ _ (by omega) (by omega) (by omega) (by rw [hR,if_neg c4,if_neg c5,if_pos c6])
 by_cases c7:(zhy (rd v i).Rune||((rd v i).Rune==45))=true
 ·rw [if_neg c4,if_neg c5,if_neg c6,if_pos c7,← ek]; exact hrun _ _ (by omega) (by omega) (by omega) (by rw [hR,if_neg c4,if_neg c5,if_neg c6,if_pos c7])
 ·rw [hR,if_neg c4,if_neg c5,if_neg c6,if_neg c7,if_neg c4,if_neg c5,if_neg c6,if_neg c7]; rfl
theorem zob:zbS (v.map toR) s (i,l)=some (zfq v s i l):=by
 obtain ⟨h0,h1,hv⟩:=zkH g hi hl
 have e1:IntKind.wrap .i64 (i+1)=i+1:=zbV ⟨by omega,by omega⟩
 have hd:decide (i<(v.length:Int))=true:=decide_eq_true h1
 have el:(v.map toR).length=v.length:=by simp
 obtain ⟨k,ek,_,lk,k1,k2⟩:=zgN v hv v.length (i+1) (by omega) (by omega) (by omega)
 obtain ⟨r,er,_,lr,r1⟩:=zgQ v hv v.length (i+1) (by omega) (by omega) (by omega)
 have hsk:=fun kk h2 h3=>zoc g hi (k:=kk) h2 h3 hl
 have hT:=fun kk h2 h3=>zoa g hi (k:=kk) h2 h3 hl
 rw [zbS,el,if_pos hd,if_pos hi,zgt hi,zry,e1]
 have q1:(toR (rd v i)).Rune=(rd v i).Rune:=rfl
 have q2:(toR (rd v i)).Bad=(rd v i).Bad:=rfl
 have q4:(toR (rd v i)).Line=(rd v i).Line:=rfl
 have q5:(toR (rd v i)).Col=(rd v i).Col:=rfl
 rw [q1,q2,q4,q5]
 simp only [Option.bind_some]
 unfold zfq
 by_cases c1:(rd v i).Bad=true
 ·rw [if_pos c1,if_pos c1]
 rw [if_neg c1,if_neg c1]
 by_cases c2:zjB (rd v i).Rune=true
 ·rw [if_pos c2,if_pos c2]; exact hsk _ (by omega) (by omega)
 rw [if_neg c2,if_neg c2]
 by_cases c3:(rd v i).Rune=59
 ·rw [if_pos (by simpa using c3),if_pos c3,lr,← er]
  simp only [Option.bind_some]
  cases r with
  | inl k =>
   have:=r1 k rfl
   exact hsk _ (by omega) (by omega)
  | inr q=>rfl
 rw [if_neg (by simpa using c3),if_neg c3]
 by_cases c4:(rd v i).Rune=10
 ·rw [if_pos (by simpa using c4),if_pos c4]; exact hT _ (by omega) (by omega) 4 (by omega)
 rw [if_neg (by simpa using c4),if_neg c4]
 show (if zmj (rd v i).Rune=true then _ else _)=_
 by_cases c5:zmj (rd v i).Rune=true
 ·rw [if_pos c5,if_pos c5]; exact hT _ (by omega) (by omega) 3 (by omega)
 rw [if_neg c5,if_neg c5,zmA,zpa]
 simp only [Option.bind_some]
 by_cases c6:zeB (rd v i).Rune=true
 ·rw [if_pos c6,c6]
  simp only [Bool.not_true,Bool.false_eq_true,if_false,Option.bind_some,Bool.true_or,if_true]
  rw [lk,← ek]
  exact hT _ (by omega) (by omega) 1 (by omega)
 ·rw [if_neg c6]
  simp only [Bool.not_eq_true] at c6
  rw [c6]
  simp only [Bool.not_false,if_true,Option.bind_some,Bool.false_or]
  by_cases c7:(zhy (rd v i).Rune||((rd v i).Rune==45))=true
  ·rw [if_pos c7,if_pos c7,lk,← ek]
   exact hT _ (by omega) (by omega) 2 (by omega)
  ·rw [if_neg c7,if_neg c7]
theorem zkc{k:Int}{l':List zac}(h:zfq v s i l=.inl (k,l')):i<k/\k<=v.length/\l'.length<=l.length+1:=by
 obtain ⟨h0,h1,hv⟩:=zkH g hi hl
 obtain ⟨kk,ek,_,_,k1,k2⟩:=zgN v hv v.length (i+1) (by omega) (by omega) (by omega)
 obtain ⟨r,er,_,_,r1⟩:=zgQ v hv v.length (i+1) (by omega) (by omega) (by omega)
 have ht:∀a kind,tail v s i l a kind=.inl (k,l')->k=a/\l'.length<=l.length+1:=by
  intro a kind h
  unfold tail at h
  dsimp only at h
  split at h
  ·cases h
  ·split at h
   ·cases h
   ·injection h with h
    injection h with h3 h4
    exact ⟨h3.symm,by rw [← h4]; simp⟩
 unfold zfq at h
 rw [← er,← ek] at h
 repeat' split at h
 all_goals first
  | (cases h; done)
  | (obtain ⟨rfl,h5⟩:=ht _ _ h; exact ⟨by omega,by omega,h5⟩)
  | (injection h with h; injection h with h3 h4; subst h3; subst h4; first | exact ⟨by omega,by omega,by omega⟩ | (have:=r1 _ rfl; exact ⟨by omega,by omega,by omega⟩))
end
def tokC(v:List zam)(s:ByteArray):Nat->Int->List zac->List zac ⊕ ((List zac) × zah)
 | 0,_,l=>.inl l
 | n+1,i,l=>if i<v.length then (match zfq v s i l with | .inl (k,l')=>tokC v s n k l' | .inr r=>r) else .inl l
theorem zkd{s:ByteArray}{v:List zam}(g:Good s v):∀(n:Nat) (i:Int) (l:List zac),0<=i->i<=v.length->v.length-i.toNat<=n->l.length<=i.toNat ->
  zbn (zca v s) (i,l)=some (tokC v s n i l)/\zbn (zbS (v.map toR) s) (i,l)=some (tokC v s n i l)/\∀l',tokC v s n i l=.inl l'->l'.length<=v.length:=by
 have h1:=g.sm
 have h2:=g.len
 unfold Sm at h1
 have el:(v.map toR).length=v.length:=by simp
 have stop:∀(i:Int) (l:List zac),¬i<v.length->zbn (zca v s) (i,l)=some (.inl l)/\zbn (zbS (v.map toR) s) (i,l)=some (.inl l):=fun i l h =>
  ⟨zaM (by rw [zca,if_neg (by simpa using h)]),zaM (by rw [zbS,el,if_neg (by simpa using h)])⟩
 intro n
 induction n with
 | zero =>
  intro i l h0 hv hn hl
  rw [tokC]
  exact ⟨(stop i l (by omega)).1,(stop i l (by omega)).2,fun l' e=>by injection e with e; subst e; omega⟩
 | succ n ih =>
  intro i l h0 hv hn hl
  rw [tokC]
  by_cases hlt:i<v.length
  ·rw [if_pos hlt]
   have hin:InB i v.length:=⟨h0,by omega⟩
   have a:=zoq g hin (l:=l) (by omega)
   have b:=zob g hin (l:=l) (by omega)
   cases ht:zfq v s i l with
   | inl q =>
    obtain ⟨k,l'⟩:=q
    obtain ⟨n1,n2,n3⟩:=zkc g hin (by omega) ht
    obtain ⟨x,y,z⟩:=ih k l' (by omega) n2 (by omega) (by omega)
    exact ⟨(zbC (a.trans (by rw [ht]))).trans x,(zbC (b.trans (by rw [ht]))).trans y,z⟩
   | inr r =>
    refine ⟨zaM (a.trans (by rw [ht])),zaM (b.trans (by rw [ht])),fun l' e=>?_⟩
    dsimp only at e
    subst e
    exfalso
    unfold zfq tail at ht
    dsimp only at ht
    repeat' split at ht
    all_goals first | cases ht | (injection ht with ht; cases ht)
  ·rw [if_neg hlt]
   exact ⟨(stop i l hlt).1,(stop i l hlt).2,fun l' e=>by injection e with e; subst e; omega⟩
def zcc(s:ByteArray):(List zac) × zah:=match tokC (zcq s) s (zcq s).length 0 [] with
 | .inl l=>(l++[⟨4,(zhT (zcq s)).1,(zhT (zcq s)).2,⟨#[]⟩⟩],⟨0,0,0⟩)
 | .inr q=>q
theorem ziK(s:ByteArray)(hs:Sm s):zel s=some (zcc s):=by
 have hs':=hs
 unfold Sm at hs'
 have g:=zik s hs
 have hg:=g.len
 obtain ⟨a,b,c⟩:=zkd g (zcq s).length 0 [] (by omega) (by omega) (by omega) (by simp)
 rw [zel,zfn s hs,Option.bind_some,a,zjw s hs]
 simp only [Option.bind_some,zcc]
 cases h:tokC (zcq s) s (zcq s).length 0 [] with
 | inl l =>
  have:=c l h
  simp only [zcG]
  rw [if_pos (show Fits _ by unfold Fits; omega)]
 | inr q=>rfl
end Go.Vs
end
