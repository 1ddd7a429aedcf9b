import Derived.Test.YtkgpofmbegonfaaGreatDoorPalC
import Derived.Test.YtkgpofmbegonfaaGreatDoorPalRead
import Derived.Test.YtkgpofmbegonfaaGreatDoorPalUtf
import Derived.Lib.DecodeN
import Derived.Test.YtkgpofmbegonfaaGreatDoorPalL
set_option linter.all false
section
namespace Go.Vs
local instance tabPalLex:Tab:=⟨fun _=>none⟩
def Sm(s:ByteArray):Prop:=s.size<=1000000
theorem zk0{n b0 b1 b2 b3:Nat}(hn:0<n):1<=(Lib.decodeN n b0 b1 b2 b3).2/\(Lib.decodeN n b0 b1 b2 b3).2<=n:=by
 unfold Lib.decodeN
 repeat' split
 all_goals dsimp only
 all_goals omega
theorem znf{n b0 b1 b2 b3:Nat}(h:(Lib.decodeN n b0 b1 b2 b3).1≠65533):Lib.runeLen ((Lib.decodeN n b0 b1 b2 b3).1:Int)=((Lib.decodeN n b0 b1 b2 b3).2:Int):=by
 revert h
 unfold Lib.decodeN
 repeat' split
 all_goals dsimp only
 all_goals intro h
 all_goals (try (exact absurd rfl h))
 all_goals (unfold Lib.runeLen; repeat' split)
 all_goals omega
theorem zmC(s:ByteArray)(pos:Nat)(h:pos<s.size):1<=(Utf8.decode s pos).2/\pos+(Utf8.decode s pos).2<=s.size:=by
 rw [Lib.decode_at]
 have:=zk0 (n:=s.size-pos) (b0:=(s.get! pos).toNat) (b1:=(s.get! (pos+1)).toNat) (b2:=(s.get! (pos+2)).toNat) (b3:=(s.get! (pos+3)).toNat) (by omega)
 omega
theorem zkz(s:ByteArray)(pos:Nat)(h:(Utf8.decode s pos).1≠65533):Lib.runeLen ((Utf8.decode s pos).1:Int)=((Utf8.decode s pos).2:Int):=by
 rw [Lib.decode_at] at h ⊢; exact znf h
def zdh(s:ByteArray):Nat->Nat->Int->Int->List zak
 | 0,_,_,_=>[]
 | f+1,pos,line,col=>if pos<s.size then
   { Rune:=((Utf8.decode s pos).1:Int),At:=(pos:Int),Size:=((Utf8.decode s pos).2:Int),Line:=line,Col:=col,Bad:=(Utf8.decode s pos).1==65533&&(Utf8.decode s pos).2==1 } ::
    zdh s f (pos+(Utf8.decode s pos).2) (if (Utf8.decode s pos).1=10 then line+1 else line) (if (Utf8.decode s pos).1=10 then 1 else col+1)
  else []
def zci(s:ByteArray):List zak:=zdh s s.size 0 1 1
theorem zln{line col:Int}{r:Nat}(h1:0<=line/\line<=2000000)(h2:0<=col/\col<=2000000):zdz line col (r:Int)=some ((if r=10 then line+1 else line),(if r=10 then 1 else col+1)):=by
 rw [zdz]
 have e1:IntKind.wrap .i64 (line+1)=line+1:=zbg ⟨by omega,by omega⟩
 have e2:IntKind.wrap .i64 (col+1)=col+1:=zbg ⟨by omega,by omega⟩
 rw [e1,e2]
 by_cases h:r=10
 ·subst h; rfl
 ·have:¬(((r:Int)==10)=true):=by simp; omega
  rw [if_neg this,if_neg h,if_neg h]
theorem zkW(s:ByteArray)(hs:Sm s):∀(f pos:Nat) (line col:Int) (out:List zak),s.size-pos<=f->pos<=s.size->0<=line/\line<=1+pos->0<=col/\col<=1+pos->out.length<=pos ->
  zaY (zbE s) (line,col,pos,out)=some (out++zdh s f pos line col):=by
 intro f
 induction f with
 | zero =>
  intro pos line col out hf hp hl hc ho
  have h:¬pos<s.size:=by omega
  rw [zdh,List.append_nil]
  refine zaD ?_
  rw [zbE,if_neg h]
 | succ f ih =>
  intro pos line col out hf hp hl hc ho
  rw [zdh]
  by_cases h:pos<s.size
  ·rw [if_pos h]
   obtain ⟨w1,w2⟩:=zmC s pos h
   unfold Sm at hs
   have hj:∀b:Bool,zch out s pos line col ((Utf8.decode s pos).2:Int) b=some (.inl ((if (Utf8.decode s pos).1=10 then line+1 else line),(if (Utf8.decode s pos).1=10 then 1 else col+1),pos+(Utf8.decode s pos).2,
     out++[{ Rune:=((Utf8.decode s pos).1:Int),At:=(pos:Int),Size:=((Utf8.decode s pos).2:Int),Line:=line,Col:=col,Bad:=b }])):=by
    intro b
    rw [zch,if_pos (show Fits _ by unfold Fits; omega)]
    simp only [Option.bind_some]
    rw [zln (by omega) (by omega)]
    rfl
   have hst:zbE s (line,col,pos,out)=some (.inl ((if (Utf8.decode s pos).1=10 then line+1 else line),(if (Utf8.decode s pos).1=10 then 1 else col+1),pos+(Utf8.decode s pos).2,
     out++[{ Rune:=((Utf8.decode s pos).1:Int),At:=(pos:Int),Size:=((Utf8.decode s pos).2:Int),Line:=line,Col:=col,Bad:=(Utf8.decode s pos).1==65533&&(Utf8.decode s pos).2==1 }])):=by
    rw [zbE,if_pos h]
    by_cases he:(Utf8.decode s pos).1=65533
    ·rw [if_pos (by rw [he]; rfl),if_pos ⟨by omega,by omega⟩,zbh]
     have e:s.extract ((pos:Int).toNat) s.size=s.extract pos s.size:=by rw [Int.toNat_natCast]
     simp only [Option.bind_some]
     rw [e,zjK s pos h,hj]
     congr 8
     rw [he,Bool.eq_iff_iff]; simp; omega
    ·rw [if_neg (by simp; omega),zcC,Option.bind_some,zkz s pos he,hj]
     have:((Utf8.decode s pos).1==65533)=false:=by simpa using he
     rw [this]; rfl
   rw [za9 hst,ih _ _ _ _ (by omega) w2 (by split <;> omega) (by split <;> omega) (by simp; omega),List.append_assoc]
   rfl
  ·rw [if_neg h,List.append_nil]
   refine zaD ?_
   rw [zbE,if_neg h]
theorem zfe(s:ByteArray)(hs:Sm s):zdf s=some (zci s):=by
 rw [zdf,zkW s hs s.size 0 1 1 [] (by omega) (by omega) (by omega) (by omega) (by simp)]
 rfl
theorem zlZ(s:ByteArray)(hs:Sm s):∀(f pos:Nat) (line col:Int),s.size-pos<=f->pos<=s.size->0<=line/\line<=1+pos->0<=col/\col<=1+pos ->
  zaY (zb8 s) (line,col,pos)=some (match (zdh s f pos line col).getLast? with | none=>(line,col) | some x=>if x.Rune=10 then (x.Line+1,1) else (x.Line,x.Col+1)):=by
 intro f
 induction f with
 | zero =>
  intro pos line col hf hp hl hc
  have h:¬pos<s.size:=by omega
  refine zaD ?_
  rw [zb8,if_neg h]; rfl
 | succ f ih =>
  intro pos line col hf hp hl hc
  rw [zdh]
  by_cases h:pos<s.size
  ·rw [if_pos h]
   obtain ⟨w1,w2⟩:=zmC s pos h
   unfold Sm at hs
   have hst:zb8 s (line,col,pos)=some (.inl ((if (Utf8.decode s pos).1=10 then line+1 else line),(if (Utf8.decode s pos).1=10 then 1 else col+1),pos+(Utf8.decode s pos).2)):=by
    rw [zb8,if_pos h,zln (by omega) (by omega)]; rfl
   rw [za9 hst,ih _ _ _ (by omega) w2 (by split <;> omega) (by split <;> omega)]
   generalize zdh s f (pos+(Utf8.decode s pos).2) (if (Utf8.decode s pos).1=10 then line+1 else line) (if (Utf8.decode s pos).1=10 then 1 else col+1)=l
   cases l with
   | nil =>
    simp only [List.getLast?_nil,List.getLast?_singleton]
    by_cases e:(Utf8.decode s pos).1=10
    ·rw [if_pos e,if_pos e,if_pos (by omega)]
    ·rw [if_neg e,if_neg e,if_neg (by omega)]
   | cons a l =>
    rw [List.getLast?_cons_cons]
    cases hl:(a::l).getLast? with
    | none=>simp at hl
    | some x=>rfl
  ·rw [if_neg h]
   refine zaD ?_
   rw [zb8,if_neg h]; rfl
def zhF(l:List zak):Int × Int:=match l.getLast? with | none=>(1,1) | some x=>if x.Rune=10 then (x.Line+1,1) else (x.Line,x.Col+1)
theorem zjf(s:ByteArray)(hs:Sm s):zeN s=some (zhF (zci s)):=by
 rw [zeN,zlZ s hs s.size 0 1 1 (by omega) (by omega) (by omega) (by omega)]
 simp only [Option.bind_some,zhF,zci]
end Go.Vs
end
section
namespace Go.Vs
local instance tabPalLex2:Tab:=⟨fun _=>none⟩
def toR(x:zak):zbH:={ Rune:=x.Rune,At:=x.At,Size:=x.Size,Line:=x.Line,Col:=x.Col,Bad:=x.Bad }
theorem zhL(s:ByteArray):∀(f pos:Nat) (line col:Int),∀x∈zdh s f pos line col,(pos:Int)<=x.At/\1<=x.Size/\x.At+x.Size<=s.size/\x.Bad=(x.Rune==65533&&x.Size==1):=by
 intro f
 induction f with
 | zero=>intro pos line col x hx; simp [zdh] at hx
 | succ f ih =>
  intro pos line col x hx
  rw [zdh] at hx
  split at hx
  ·rename_i h
   obtain ⟨w1,w2⟩:=zmC s pos h
   rcases List.mem_cons.1 hx with rfl | hx
   ·refine ⟨Int.le_refl _,by simp; omega,by simp; omega,?_⟩
    simp only
    rw [Bool.eq_iff_iff]; simp; omega
   ·obtain ⟨a,b,c,d⟩:=ih _ _ _ x hx
    exact ⟨by omega,b,c,d⟩
  ·simp at hx
theorem zhK(s:ByteArray):∀(f pos:Nat) (line col:Int),(zdh s f pos line col).length<=s.size-pos:=by
 intro f
 induction f with
 | zero=>intro pos line col; simp [zdh]
 | succ f ih =>
  intro pos line col
  rw [zdh]
  split
  ·rename_i h
   obtain ⟨w1,w2⟩:=zmC s pos h
   have:=ih (pos+(Utf8.decode s pos).2) (if (Utf8.decode s pos).1=10 then line+1 else line) (if (Utf8.decode s pos).1=10 then 1 else col+1)
   simp only [List.length_cons]; omega
  ·simp
theorem zil(s:ByteArray):∀(f pos:Nat) (line col:Int),(zdh s f pos line col).Pairwise fun x y=>x.At<=y.At:=by
 intro f
 induction f with
 | zero=>intro pos line col; simp [zdh]
 | succ f ih =>
  intro pos line col
  rw [zdh]
  split
  ·rename_i h
   refine List.Pairwise.cons (fun y hy=>?_) (ih _ _ _)
   have:=(zhL s _ _ _ _ y hy).1
   simp only; omega
  ·exact List.Pairwise.nil
end Go.Vs
end
section
namespace Go.Vs
local instance tabPalNumLaws0:Tab:=⟨fun _=>none⟩
open Go.Lib (decDigits itoa nDigits)
theorem zlI{v:Int}(h:I64 v):zfK v=some (zdK v):=if_pos h
theorem zjv{s:ByteArray}(h:s.size<=281474976710656):zcw s=some (zcs s):=if_pos h
theorem zkw(s:ByteArray){n:Int}(h:0<=n):∃t,zcb s n=some t/\(t.size:Int)<=n:=by
 rw [zcb,if_pos ⟨by split <;> omega,by split <;> omega⟩]
 refine ⟨_,rfl,?_⟩
 rw [ByteArray.size_extract]
 split <;> omega
end Go.Vs
end
section
namespace Go.Vs
local instance tabPalLex3:Tab:=⟨fun _=>none⟩
def zev(p0:Int):Bool:=(((decide (p0≥97)&&decide (p0<=122))||(decide (p0≥65)&&decide (p0<=90)))||(p0==95))||(decide (p0≥161)&&decide (p0<=1114111))
def zhl(p0:Int):Bool:=decide (p0≥48)&&decide (p0<=57)
def zjm(p0:Int):Bool:=(p0==32)||(p0==9)
def zlr(p0:Int):Bool:=(((p0==44)||(p0==91))||(p0==93))||(p0==58)
theorem zl1(r:Int):zcp r=some (zev r):=rfl
theorem zlA(r:Int):zcu r=some (zev r):=rfl
theorem znA(r:Int):zcI r=some (zhl r):=rfl
theorem znt(r:Int):zdl r=some (zhl r):=rfl
theorem zpm(r:Int):zex r=some (zjm r):=rfl
theorem zo4(r:Int):zeA r=some (zjm r):=rfl
theorem zgm{v:List zak}{i:Int}(h:InB i v.length):rd (v.map toR) i=toR (rd v i):=by
 obtain ⟨h0,h1⟩:=h
 rw [rd,rd,List.getD_eq_getElem?_getD,List.getD_eq_getElem?_getD,List.getElem?_map,List.getElem?_eq_getElem h1]; rfl
def zfz(v:List zak)(i:Int):Bool:=(decide (i<(v.length:Int))&&!(rd v i).Bad)&&(zev (rd v i).Rune||zhl (rd v i).Rune)
theorem zfc{i:Int}{n:Nat}(h0:0<=i)(h:decide (i<(n:Int))=true):InB i n:=⟨h0,by have:=of_decide_eq_true h; omega⟩
theorem zin{v:List zak}{i:Int}(h0:0<=i)(h1:i<=1000000):zdw v i=some (if zfz v i=true then .inl (i+1) else .inr i):=by
 have e1:IntKind.wrap .i64 (i+1)=i+1:=zbg ⟨by omega,by omega⟩
 rw [zdw,if_pos (zfc h0),if_pos (fun h=>zfc h0 (by simp only [Bool.and_eq_true] at h; exact h.1)),e1,zfz]
 cases hA:(decide (i<(v.length:Int))&&!(rd v i).Bad) with
 | false=>simp
 | true =>
  have hin:InB i v.length:=zfc h0 (by simp only [Bool.and_eq_true] at hA; exact hA.1)
  simp only [if_true,zl1,Option.bind_some,Bool.true_and]
  rw [if_pos (fun _=>hin)]
  cases hl:zev (rd v i).Rune <;> (try simp [znA]) <;> (try (split <;> rfl))
theorem zgV{v:List zak}{i:Int}(h0:0<=i)(h1:i<=1000000):zb1 (v.map toR) i=some (if zfz v i=true then .inl (i+1) else .inr i):=by
 have e1:IntKind.wrap .i64 (i+1)=i+1:=zbg ⟨by omega,by omega⟩
 have el:(v.map toR).length=v.length:=by simp
 rw [zb1,el,if_pos (zfc h0),if_pos (fun h=>zfc h0 (by simp only [Bool.and_eq_true] at h; exact h.1)),e1,zfz]
 cases hd:decide (i<(v.length:Int)) with
 | false=>simp
 | true =>
  have hin:InB i v.length:=zfc h0 hd
  rw [zgm hin]
  have eb:(toR (rd v i)).Bad=(rd v i).Bad:=rfl
  have er:(toR (rd v i)).Rune=(rd v i).Rune:=rfl
  rw [eb,er]
  cases hb:(rd v i).Bad with
  | true=>simp
  | false =>
   simp only [Bool.not_false,Bool.and_true,if_true,zlA,Option.bind_some,Bool.true_and]
   rw [if_pos (fun _=>hin)]
   cases hl:zev (rd v i).Rune <;> (try simp [znt]) <;> (try (split <;> rfl))
def runC(v:List zak):Nat->Int->Int
 | 0,i=>i
 | n+1,i=>if zfz v i=true then runC v n (i+1) else i
theorem zgC(v:List zak)(hv:v.length<=1000000):∀(n:Nat) (i:Int),0<=i->i<=v.length->v.length-i.toNat<=n ->
  ∃k,k=runC v n i/\zaY (zdw v) i=some k/\zaY (zb1 (v.map toR)) i=some k/\i<=k/\k<=v.length:=by
 intro n
 induction n with
 | zero =>
  intro i h0 h1 hn
  have hw:zfz v i=false:=by
   have:decide (i<(v.length:Int))=false:=decide_eq_false (by omega)
   rw [zfz,this]; rfl
  refine ⟨i,rfl,zaD ?_,zaD ?_,Int.le_refl _,h1⟩
  ·rw [zin h0 (by omega),hw]; rfl
  ·rw [zgV h0 (by omega),hw]; rfl
 | succ n ih =>
  intro i h0 h1 hn
  cases hw:zfz v i with
  | false =>
   refine ⟨i,by rw [runC,hw]; rfl,zaD ?_,zaD ?_,Int.le_refl _,h1⟩
   ·rw [zin h0 (by omega),hw]; rfl
   ·rw [zgV h0 (by omega),hw]; rfl
  | true =>
   have hlt:i<(v.length:Int):=by
    simp only [zfz,Bool.and_eq_true,decide_eq_true_eq] at hw; exact hw.1.1
   obtain ⟨k,e,a,b,c,d⟩:=ih (i+1) (by omega) (by omega) (by omega)
   refine ⟨k,by rw [runC,hw]; exact e,?_,?_,by omega,d⟩
   ·rw [za9 (by rw [zin h0 (by omega),hw]; rfl)]; exact a
   ·rw [za9 (by rw [zgV h0 (by omega),hw]; rfl)]; exact b
def zgv(v:List zak)(i:Int):Int ⊕ (Int ⊕ ((List zac) × zai)) :=
 if (decide (i<(v.length:Int))&&((rd v i).Rune != 10))=true then (if (rd v i).Bad=true then .inr (.inr ([],⟨1,(rd v i).Line,(rd v i).Col⟩)) else .inl (i+1)) else .inr (.inl i)
theorem zgE{v:List zak}{i:Int}(h0:0<=i)(h1:i<=1000000):zb9 v i=some (zgv v i):=by
 have e1:IntKind.wrap .i64 (i+1)=i+1:=zbg ⟨by omega,by omega⟩
 rw [zb9,if_pos (zfc h0),e1,zgv]
 by_cases hA:(decide (i<(v.length:Int))&&((rd v i).Rune != 10))=true
 ·have hin:InB i v.length:=zfc h0 (by simp only [Bool.and_eq_true] at hA; exact hA.1)
  rw [if_pos hA,if_pos hA,if_pos hin]
  by_cases hb:(rd v i).Bad=true
  ·rw [if_pos hb,if_pos hb,if_pos hin]; rfl
  ·rw [if_neg hb,if_neg hb]
 ·rw [if_neg hA,if_neg hA]
theorem zgZ{v:List zak}{i:Int}(h0:0<=i)(h1:i<=1000000):zb2 (v.map toR) i=some (zgv v i):=by
 have e1:IntKind.wrap .i64 (i+1)=i+1:=zbg ⟨by omega,by omega⟩
 have el:(v.map toR).length=v.length:=by simp
 rw [zb2,el,if_pos (zfc h0),e1,zgv]
 by_cases hd:decide (i<(v.length:Int))=true
 ·have hin:InB i v.length:=zfc h0 hd
  rw [zgm hin,hd]
  have er:(toR (rd v i)).Rune=(rd v i).Rune:=rfl
  have eb:(toR (rd v i)).Bad=(rd v i).Bad:=rfl
  rw [er,eb,if_pos hin,if_pos hin,if_pos hin]
  simp only [Bool.true_and]
  split
  ·split <;> rfl
  ·rfl
 ·simp only [Bool.not_eq_true] at hd
  rw [hd]; simp
def remC(v:List zak):Nat->Int->Int ⊕ ((List zac) × zai)
 | 0,i=>.inl i
 | n+1,i=>match zgv v i with | .inl j=>remC v n j | .inr r=>r
theorem zgF(v:List zak)(hv:v.length<=1000000):∀(n:Nat) (i:Int),0<=i->i<=v.length->v.length-i.toNat<=n ->
  ∃r,r=remC v n i/\zaY (zb9 v) i=some r/\zaY (zb2 (v.map toR)) i=some r/\∀k,r=.inl k->i<=k/\k<=v.length:=by
 intro n
 induction n with
 | zero =>
  intro i h0 h1 hn
  have hw:zgv v i=.inr (.inl i):=by
   have:decide (i<(v.length:Int))=false:=decide_eq_false (by omega)
   rw [zgv,this]; rfl
  refine ⟨.inl i,rfl,zaD ?_,zaD ?_,fun k e=>?_⟩
  ·rw [zgE h0 (by omega),hw]
  ·rw [zgZ h0 (by omega),hw]
  ·injection e with e; omega
 | succ n ih =>
  intro i h0 h1 hn
  cases hw:zgv v i with
  | inr r =>
   refine ⟨r,by rw [remC,hw],zaD ?_,zaD ?_,fun k e=>?_⟩
   ·rw [zgE h0 (by omega),hw]
   ·rw [zgZ h0 (by omega),hw]
   ·subst e
    unfold zgv at hw
    split at hw
    ·split at hw
     ·injection hw with hw; cases hw
     ·cases hw
    ·injection hw with hw; injection hw with hw; omega
  | inl j =>
   have hj:j=i+1/\i<(v.length:Int):=by
    unfold zgv at hw
    split at hw
    ·rename_i hc
     simp only [Bool.and_eq_true,decide_eq_true_eq] at hc
     split at hw
     ·cases hw
     ·injection hw with hw; exact ⟨hw.symm,hc.1⟩
    ·cases hw
   obtain ⟨rfl,hlt⟩:=hj
   obtain ⟨r,er,a,b,c⟩:=ih (i+1) (by omega) (by omega) (by omega)
   refine ⟨r,by rw [remC,hw]; exact er,?_,?_,fun k e=>?_⟩
   ·rw [za9 (by rw [zgE h0 (by omega),hw])]; exact a
   ·rw [za9 (by rw [zgZ h0 (by omega),hw])]; exact b
   ·have:=c k e; omega
theorem zmz{kind L C n:Int}{t:ByteArray}(hkind:kind=1\/kind=2\/kind=3\/kind=4)(ht:t.size<=281474976710656) :
  zdJ (zac.mk kind L C t) n=some (if kind=1/\n>16 then 3 else if kind=2/\(zcs t).2=false then 2 else 0):=by
 rw [zdJ]
 show (if ((kind==1)&&decide (n>16))=true then some 3 else if (kind==2)=true then ((zcw t).bind fun v4=>if (!v4.2)=true then some 2 else some 0) else some 0)=_
 rw [zjv ht]
 simp only [Option.bind_some,Bool.and_eq_true,beq_iff_eq,decide_eq_true_eq,Bool.not_eq_true']
 by_cases p1:kind=1/\n>16
 ·rw [if_pos p1,if_pos p1]
 ·rw [if_neg p1,if_neg p1]
  by_cases p2:kind=2
  ·rw [if_pos p2]
   by_cases p3:(zcs t).2=false
   ·rw [if_pos p3,if_pos ⟨p2,p3⟩]
   ·rw [if_neg p3,if_neg (fun h=>p3 h.2)]
  ·rw [if_neg p2,if_neg (fun h=>p2 h.1)]
structure Good (s:ByteArray) (v:List zak):Prop where
 sm:Sm s
 len:v.length<=s.size
 at0:∀i,InB i v.length->0<=(rd v i).At/\1<=(rd v i).Size/\(rd v i).At+(rd v i).Size<=s.size
 le:∀i j,InB i v.length->InB j v.length->i<=j->(rd v i).At<=(rd v j).At
theorem zlz{v:List zak}{i:Int}(h:InB i v.length):rd v i=v[i.toNat]'h.2:=by
 rw [rd,List.getD_eq_getElem?_getD,List.getElem?_eq_getElem h.2]; rfl
theorem zh4(s:ByteArray)(hs:Sm s):Good s (zci s):=by
 refine ⟨hs,by have:=zhK s s.size 0 1 1; unfold zci; omega,fun i h=>?_,fun i j hi hj hij=>?_⟩
 ·rw [zlz h]
  obtain ⟨a,b,c,_⟩:=zhL s _ _ _ _ _ (List.getElem_mem h.2)
  exact ⟨by simpa using a,b,c⟩
 ·rw [zlz hi,zlz hj]
  by_cases e:i=j
  ·subst e; exact Int.le_refl _
  ·have:=hi.1
   exact List.pairwise_iff_getElem.1 (zil s _ _ _ _) i.toNat j.toNat hi.2 hj.2 (by omega)
def tail(v:List zak)(s:ByteArray)(i:Int)(l:List zac)(k kind:Int):(Int × List zac) ⊕ (List zac ⊕ ((List zac) × zai)) :=
 let t:=s.extract (rd v i).At.toNat ((rd v (k-1)).At+(rd v (k-1)).Size).toNat
 if kind=1/\k-i>16 then .inr (.inr ([],⟨3,(rd v i).Line,(rd v i).Col⟩))
 else if kind=2/\(zcs t).2=false then .inr (.inr ([],⟨2,(rd v i).Line,(rd v i).Col⟩))
 else .inl (k,l++[⟨kind,(rd v i).Line,(rd v i).Col,t⟩])
section
variable {s:ByteArray} {v:List zak} (g:Good s v) {i k:Int} {l:List zac} (hi:InB i v.length) (hk:i<k) (hkn:k<=v.length) (hl:l.length<=1000000)
include g hi hk hkn hl
theorem zj9:IntKind.wrap .i64 (k-1)=k-1/\InB (k-1) v.length/\IntKind.wrap .i64 (k-i)=k-i/\IntKind.wrap .i64 ((rd v (k-1)).At+(rd v (k-1)).Size)=(rd v (k-1)).At+(rd v (k-1)).Size /\
  Bnd ((rd v (k-1)).At+(rd v (k-1)).Size) s.size/\Bnd (rd v i).At (((rd v (k-1)).At+(rd v (k-1)).Size).toNat):=by
 have hsm:=g.sm
 unfold Sm at hsm
 have hlen:=g.len
 obtain ⟨hi0,hi1⟩:=hi
 have hin:InB (k-1) v.length:=⟨by omega,by omega⟩
 obtain ⟨a1,a2,a3⟩:=g.at0 _ hin
 obtain ⟨b1,b2,b3⟩:=g.at0 _ ⟨hi0,hi1⟩
 have hle:=g.le i (k-1) ⟨hi0,hi1⟩ hin (by omega)
 exact ⟨zbg ⟨by omega,by omega⟩,hin,zbg ⟨by omega,by omega⟩,zbg ⟨by omega,by omega⟩,⟨by omega,by omega⟩,⟨by omega,by omega⟩⟩
theorem zmU(kind:Int)(hkind:kind=1\/kind=2\/kind=3\/kind=4) :
  (if InB (IntKind.wrap .i64 (k-1)) v.length then (if InB (IntKind.wrap .i64 (k-1)) v.length then (if Bnd (IntKind.wrap .i64 ((rd v (IntKind.wrap .i64 (k-1))).At+(rd v (IntKind.wrap .i64 (k-1))).Size)) s.size then (if Bnd ((rd v i).At) ((IntKind.wrap .i64 ((rd v (IntKind.wrap .i64 (k-1))).At+(rd v (IntKind.wrap .i64 (k-1))).Size)).toNat) then ((some (s.extract (((rd v i).At).toNat) ((IntKind.wrap .i64 ((rd v (IntKind.wrap .i64 (k-1))).At+(rd v (IntKind.wrap .i64 (k-1))).Size)).toNat))).bind fun s222 =>
            (zdJ (zac.mk kind ((rd v i).Line) ((rd v i).Col) s222) (IntKind.wrap .i64 (k-i))).bind fun v224 =>
            if (v224 != 0)=true then ((zc3 v224 (rd v i)).bind fun v227 =>
        some (.inr (.inr ([],v227)))) else (if Fits (l.length+1) then ((some (l++([(zac.mk kind ((rd v i).Line) ((rd v i).Col) s222)]))).bind fun l230 =>
        some (.inl (k,l230))) else none)) else none) else none) else none) else none)=some (tail v s i l k kind):=by
 obtain ⟨e1,hin,e2,e3,b1,b2⟩:=zj9 g hi hk hkn hl
 rw [e1,if_pos hin,if_pos hin,e3,if_pos b1,if_pos b2,e2]
 simp only [Option.bind_some,tail]
 generalize ht:s.extract (rd v i).At.toNat ((rd v (k-1)).At+(rd v (k-1)).Size).toNat=t
 have hts:t.size<=1000000:=by
  have:=g.sm
  unfold Sm at this
  rw [← ht,ByteArray.size_extract]; omega
 have hf:Fits (l.length+1):=by unfold Fits; omega
 rw [zmz hkind (by omega)]
 simp only [Option.bind_some,hf,if_true]
 by_cases p1:kind=1/\k-i>16
 ·rw [if_pos p1,if_pos p1]; rfl
 ·rw [if_neg p1,if_neg p1]
  by_cases p2:kind=2/\(zcs t).2=false
  ·rw [if_pos p2,if_pos p2]; rfl
  ·rw [if_neg p2,if_neg p2]; rfl
theorem zmI(kind:Int)(hkind:kind=1\/kind=2\/kind=3\/kind=4):zaL (v.map toR) s i l k kind=some (tail v s i l k kind):=by
 obtain ⟨e1,hin,e2,e3,b1,b2⟩:=zj9 g hi hk hkn hl
 have el:(v.map toR).length=v.length:=by simp
 rw [zaL,e1,el,zgm hin,zgm hi]
 have q1:(toR (rd v (k-1))).At=(rd v (k-1)).At:=rfl
 have q2:(toR (rd v (k-1))).Size=(rd v (k-1)).Size:=rfl
 have q3:(toR (rd v i)).At=(rd v i).At:=rfl
 have q4:(toR (rd v i)).Line=(rd v i).Line:=rfl
 have q5:(toR (rd v i)).Col=(rd v i).Col:=rfl
 rw [q1,q2,q3,q4,q5,if_pos hin,if_pos hin,e3,if_pos b1,if_pos b2,e2]
 simp only [Option.bind_some,tail]
 generalize ht:s.extract (rd v i).At.toNat ((rd v (k-1)).At+(rd v (k-1)).Size).toNat=t
 have hts:t.size<=1000000:=by
  have:=g.sm
  unfold Sm at this
  rw [← ht,ByteArray.size_extract]; omega
 have hf:Fits (l.length+1):=by unfold Fits; omega
 have hj2:zbA kind l (v.map toR) i t k=some (.inl (k,l++[⟨kind,(rd v i).Line,(rd v i).Col,t⟩])):=by
  rw [zbA,zgm hi,if_pos (by rcases hkind with rfl | rfl | rfl | rfl <;> rfl),if_pos hf]; rfl
 rw [hj2,zdY t (by omega)]
 simp only [Option.bind_some,e2,Bool.and_eq_true,beq_iff_eq,decide_eq_true_eq,Bool.not_eq_true']
 by_cases p1:kind=1/\k-i>16
 ·rw [if_pos p1,if_pos p1]
 ·rw [if_neg p1,if_neg p1]
  by_cases p2:kind=2
  ·rw [if_pos p2]
   by_cases p3:(zcs t).2=false
   ·rw [if_pos p3,if_pos ⟨p2,p3⟩]
   ·rw [if_neg p3,if_neg (fun h=>p3 h.2)]
  ·rw [if_neg p2,if_neg (fun h=>p2 h.1)]
theorem zmK:zaL (v.map toR) s i l k 0=some (.inl (k,l)):=by
 obtain ⟨e1,hin,e2,e3,b1,b2⟩:=zj9 g hi hk hkn hl
 have el:(v.map toR).length=v.length:=by simp
 rw [zaL,e1,el,zgm hin,zgm hi]
 have q1:(toR (rd v (k-1))).At=(rd v (k-1)).At:=rfl
 have q2:(toR (rd v (k-1))).Size=(rd v (k-1)).Size:=rfl
 have q3:(toR (rd v i)).At=(rd v i).At:=rfl
 rw [q1,q2,q3,if_pos hin,if_pos hin,e3,if_pos b1,if_pos b2]
 simp only [Option.bind_some]
 rw [if_neg (by simp),if_neg (by decide),zbA,if_neg (by simp)]; rfl
end
end Go.Vs
end
section
namespace Go.Vs
local instance tabPalLex4:Tab:=⟨fun _=>none⟩
def zfh(v:List zak)(s:ByteArray)(i:Int)(l:List zac):(Int × List zac) ⊕ (List zac ⊕ ((List zac) × zai)) :=
 if (rd v i).Bad=true then .inr (.inr ([],⟨1,(rd v i).Line,(rd v i).Col⟩))
 else if zjm (rd v i).Rune=true then .inl (i+1,l)
 else if (rd v i).Rune=59 then (match remC v v.length (i+1) with | .inl k=>.inl (k,l) | .inr q=>.inr (.inr q))
 else if (rd v i).Rune=10 then tail v s i l (i+1) 4
 else if zlr (rd v i).Rune=true then tail v s i l (i+1) 3
 else if zev (rd v i).Rune=true then tail v s i l (runC v v.length (i+1)) 1
 else if (zhl (rd v i).Rune||((rd v i).Rune==45))=true then tail v s i l (runC v v.length (i+1)) 2
 else .inr (.inr ([],⟨1,(rd v i).Line,(rd v i).Col⟩))
section
variable {s:ByteArray} {v:List zak} (g:Good s v) {i:Int} {l:List zac} (hi:InB i v.length) (hl:l.length<=1000000)
include g hi hl
theorem zkm:0<=i/\i<v.length/\v.length<=1000000:=by
 have h1:=g.sm; have h2:=g.len; unfold Sm at h1
 obtain ⟨a,b⟩:=hi
 exact ⟨a,by omega,by omega⟩
theorem zmV:zbX v s (i,l)=some (zfh v s i l):=by
 obtain ⟨h0,h1,hv⟩:=zkm g hi hl
 have e1:IntKind.wrap .i64 (i+1)=i+1:=zbg ⟨by omega,by omega⟩
 have hd:decide (i<(v.length:Int))=true:=decide_eq_true h1
 obtain ⟨k,ek,lk,_,k1,k2⟩:=zgC v hv v.length (i+1) (by omega) (by omega) (by omega)
 obtain ⟨r,er,lr,_,r1⟩:=zgF v hv v.length (i+1) (by omega) (by omega) (by omega)
 rw [zbX,if_pos hd,if_pos hi,zpm,e1]
 simp only [Option.bind_some]
 unfold zfh
 by_cases c1:(rd v i).Bad=true
 ·rw [if_pos c1,if_pos c1]; rfl
 rw [if_neg c1,if_neg c1]
 by_cases c2:zjm (rd v i).Rune=true
 ·rw [if_pos c2,if_pos c2]
 rw [if_neg c2,if_neg c2]
 by_cases c3:(rd v i).Rune=59
 ·rw [if_pos (by simpa using c3),if_pos c3]
  have hst:zb9 v i=some (.inl (i+1)):=by
   rw [zgE h0 (by omega),zgv,hd,if_pos (by rw [c3]; rfl),if_neg c1]
  rw [za9 hst,lr,← er]
  simp only [Option.bind_some]
  cases r <;> rfl
 rw [if_neg (by simpa using c3),if_neg c3]
 have hrun:∀kk kind:Int,i<kk->kk<=v.length->(kind=1\/kind=2\/kind=3\/kind=4)->zft v i=some (kk,kind) ->
   ((zft v i).bind fun v213 =>
      if (v213.2==0)=true then ((zc3 1 (rd v i)).bind fun v216 =>
       some (.inr (.inr ([],v216)))) else (if InB (IntKind.wrap .i64 (v213.1-1)) v.length then (if InB (IntKind.wrap .i64 (v213.1-1)) v.length then (if Bnd (IntKind.wrap .i64 ((rd v (IntKind.wrap .i64 (v213.1-1))).At+(rd v (IntKind.wrap .i64 (v213.1-1))).Size)) s.size then (if Bnd ((rd v i).At) ((IntKind.wrap .i64 ((rd v (IntKind.wrap .i64 (v213.1-1))).At+(rd v (IntKind.wrap .i64 (v213.1-1))).Size)).toNat) then ((some (s.extract (((rd v i).At).toNat) ((IntKind.wrap .i64 ((rd v (IntKind.wrap .i64 (v213.1-1))).At+(rd v (IntKind.wrap .i64 (v213.1-1))).Size)).toNat))).bind fun s222 =>
       (zdJ (zac.mk v213.2 ((rd v i).Line) ((rd v i).Col) s222) (IntKind.wrap .i64 (v213.1-i))).bind fun v224 =>
       if (v224 != 0)=true then ((zc3 v224 (rd v i)).bind fun v227 =>
        some (.inr (.inr ([],v227)))) else (if Fits (l.length+1) then ((some (l++([(zac.mk v213.2 ((rd v i).Line) ((rd v i).Col) s222)]))).bind fun l230 =>
        some (.inl (v213.1,l230))) else none)) else none) else none) else none) else none):Option ((Int × List zac) ⊕ (List zac ⊕ ((List zac) × zai))))=some (tail v s i l kk kind):=by
  intro kk kind h2 h3 h4 h5
  rw [h5,Option.bind_some,if_neg (by rcases h4 with rfl | rfl | rfl | rfl <;> simp)]
  exact zmU g hi h2 h3 hl kind h4
 have hj:∀kind:Int,zdx v i kind=some (runC v v.length (i+1),kind):=by
  intro kind
  rw [zdx,e1,lk,← ek]; rfl
 have hR:zft v i=if (rd v i).Rune=10 then some (i+1,4) else if zlr (rd v i).Rune=true then some (i+1,3) else if zev (rd v i).Rune=true then some (runC v v.length (i+1),1)
   else if (zhl (rd v i).Rune||((rd v i).Rune==45))=true then some (runC v v.length (i+1),2) else some (i,0):=by
  rw [zft,if_pos hi,e1,zl1,znA,hj,hj]
  simp only [Option.bind_some,beq_iff_eq]
  rfl
 rw [← ek] at hR
 by_cases c4:(rd v i).Rune=10
 ·rw [if_pos c4]; exact hrun _ _ (by omega) (by omega) (by omega) (by rw [hR,if_pos c4])
 by_cases c5:zlr (rd v i).Rune=true
 ·rw [if_neg c4,if_pos c5]; exact hrun _ _ (by omega) (by omega) (by omega) (by rw [hR,if_neg c4,if_pos c5])
 by_cases c6:zev (rd v i).Rune=true
 ·rw [if_neg c4,if_neg c5,if_pos c6,← ek]; exact hrun _ _ (by omega) (by omega) (by omega) (by rw [hR,if_neg c4,if_neg c5,if_pos c6])
 by_cases c7:(zhl (rd v i).Rune||((rd v i).Rune==45))=true
 ·rw [if_neg c4,if_neg c5,if_neg c6,if_pos c7,← ek]; exact hrun _ _ (by omega) (by omega) (by omega) (by rw [hR,if_neg c4,if_neg c5,if_neg c6,if_pos c7])
 ·rw [hR,if_neg c4,if_neg c5,if_neg c6,if_neg c7,if_neg c4,if_neg c5,if_neg c6,if_neg c7]; rfl
theorem zmJ:zbz (v.map toR) s (i,l)=some (zfh v s i l):=by
 obtain ⟨h0,h1,hv⟩:=zkm g hi hl
 have e1:IntKind.wrap .i64 (i+1)=i+1:=zbg ⟨by omega,by omega⟩
 have hd:decide (i<(v.length:Int))=true:=decide_eq_true h1
 have el:(v.map toR).length=v.length:=by simp
 obtain ⟨k,ek,_,lk,k1,k2⟩:=zgC v hv v.length (i+1) (by omega) (by omega) (by omega)
 obtain ⟨r,er,_,lr,r1⟩:=zgF v hv v.length (i+1) (by omega) (by omega) (by omega)
 have hsk:=fun kk h2 h3=>zmK g hi (k:=kk) h2 h3 hl
 have hT:=fun kk h2 h3=>zmI g hi (k:=kk) h2 h3 hl
 rw [zbz,el,if_pos hd,if_pos hi,zgm hi,zo4,e1]
 have q1:(toR (rd v i)).Rune=(rd v i).Rune:=rfl
 have q2:(toR (rd v i)).Bad=(rd v i).Bad:=rfl
 have q4:(toR (rd v i)).Line=(rd v i).Line:=rfl
 have q5:(toR (rd v i)).Col=(rd v i).Col:=rfl
 rw [q1,q2,q4,q5]
 simp only [Option.bind_some]
 unfold zfh
 by_cases c1:(rd v i).Bad=true
 ·rw [if_pos c1,if_pos c1]
 rw [if_neg c1,if_neg c1]
 by_cases c2:zjm (rd v i).Rune=true
 ·rw [if_pos c2,if_pos c2]; exact hsk _ (by omega) (by omega)
 rw [if_neg c2,if_neg c2]
 by_cases c3:(rd v i).Rune=59
 ·rw [if_pos (by simpa using c3),if_pos c3,lr,← er]
  simp only [Option.bind_some]
  cases r with
  | inl k =>
   have:=r1 k rfl
   exact hsk _ (by omega) (by omega)
  | inr q=>rfl
 rw [if_neg (by simpa using c3),if_neg c3]
 by_cases c4:(rd v i).Rune=10
 ·rw [if_pos (by simpa using c4),if_pos c4]; exact hT _ (by omega) (by omega) 4 (by omega)
 rw [if_neg (by simpa using c4),if_neg c4]
 show (if zlr (rd v i).Rune=true then _ else _)=_
 by_cases c5:zlr (rd v i).Rune=true
 ·rw [if_pos c5,if_pos c5]; exact hT _ (by omega) (by omega) 3 (by omega)
 rw [if_neg c5,if_neg c5,zlA,znt]
 simp only [Option.bind_some]
 by_cases c6:zev (rd v i).Rune=true
 ·rw [if_pos c6,c6]
  simp only [Bool.not_true,Bool.false_eq_true,if_false,Option.bind_some,Bool.true_or,if_true]
  rw [lk,← ek]
  exact hT _ (by omega) (by omega) 1 (by omega)
 ·rw [if_neg c6]
  simp only [Bool.not_eq_true] at c6
  rw [c6]
  simp only [Bool.not_false,if_true,Option.bind_some,Bool.false_or]
  by_cases c7:(zhl (rd v i).Rune||((rd v i).Rune==45))=true
  ·rw [if_pos c7,if_pos c7,lk,← ek]
   exact hT _ (by omega) (by omega) 2 (by omega)
  ·rw [if_neg c7,if_neg c7]
theorem zjR{k:Int}{l':List zac}(h:zfh v s i l=.inl (k,l')):i<k/\k<=v.length/\l'.length<=l.length+1:=by
 obtain ⟨h0,h1,hv⟩:=zkm g hi hl
 obtain ⟨kk,ek,_,_,k1,k2⟩:=zgC v hv v.length (i+1) (by omega) (by omega) (by omega)
 obtain ⟨r,er,_,_,r1⟩:=zgF v hv v.length (i+1) (by omega) (by omega) (by omega)
 have ht:∀a kind,tail v s i l a kind=.inl (k,l')->k=a/\l'.length<=l.length+1:=by
  intro a kind h
  unfold tail at h
  dsimp only at h
  split at h
  ·cases h
  ·split at h
   ·cases h
   ·injection h with h
    injection h with h3 h4
    exact ⟨h3.symm,by rw [← h4]; simp⟩
 unfold zfh at h
 rw [← er,← ek] at h
 repeat' split at h
 all_goals first
  | (cases h; done)
  | (obtain ⟨rfl,h5⟩:=ht _ _ h; exact ⟨by omega,by omega,h5⟩)
  | (injection h with h; injection h with h3 h4; subst h3; subst h4; first | exact ⟨by omega,by omega,by omega⟩ | (have:=r1 _ rfl; exact ⟨by omega,by omega,by omega⟩))
end
def tokC(v:List zak)(s:ByteArray):Nat->Int->List zac->List zac ⊕ ((List zac) × zai)
 | 0,_,l=>.inl l
 | n+1,i,l=>if i<v.length then (match zfh v s i l with | .inl (k,l')=>tokC v s n k l' | .inr r=>r) else .inl l
theorem zjS{s:ByteArray}{v:List zak}(g:Good s v):∀(n:Nat) (i:Int) (l:List zac),0<=i->i<=v.length->v.length-i.toNat<=n->l.length<=i.toNat ->
  zaY (zbX v s) (i,l)=some (tokC v s n i l)/\zaY (zbz (v.map toR) s) (i,l)=some (tokC v s n i l)/\∀l',tokC v s n i l=.inl l'->l'.length<=v.length:=by
 have h1:=g.sm
 have h2:=g.len
 unfold Sm at h1
 have el:(v.map toR).length=v.length:=by simp
 have stop:∀(i:Int) (l:List zac),¬i<v.length->zaY (zbX v s) (i,l)=some (.inl l)/\zaY (zbz (v.map toR) s) (i,l)=some (.inl l):=fun i l h =>
  ⟨zaD (by rw [zbX,if_neg (by simpa using h)]),zaD (by rw [zbz,el,if_neg (by simpa using h)])⟩
 intro n
 induction n with
 | zero =>
  intro i l h0 hv hn hl
  rw [tokC]
  exact ⟨(stop i l (by omega)).1,(stop i l (by omega)).2,fun l' e=>by injection e with e; subst e; omega⟩
 | succ n ih =>
  intro i l h0 hv hn hl
  rw [tokC]
  by_cases hlt:i<v.length
  ·rw [if_pos hlt]
   have hin:InB i v.length:=⟨h0,by omega⟩
   have a:=zmV g hin (l:=l) (by omega)
   have b:=zmJ g hin (l:=l) (by omega)
   cases ht:zfh v s i l with
   | inl q =>
    obtain ⟨k,l'⟩:=q
    obtain ⟨n1,n2,n3⟩:=zjR g hin (by omega) ht
    obtain ⟨x,y,z⟩:=ih k l' (by omega) n2 (by omega) (by omega)
    exact ⟨(za9 (a.trans (by rw [ht]))).trans x,(za9 (b.trans (by rw [ht]))).trans y,z⟩
   | inr r =>
    refine ⟨zaD (a.trans (by rw [ht])),zaD (b.trans (by rw [ht])),fun l' e=>?_⟩
    dsimp only at e
    subst e
    exfalso
    unfold zfh tail at ht
    dsimp only at ht
    repeat' split at ht
    all_goals first | cases ht | (injection ht with ht; cases ht)
  ·rw [if_neg hlt]
   exact ⟨(stop i l hlt).1,(stop i l hlt).2,fun l' e=>by injection e with e; subst e; omega⟩
def zb0(s:ByteArray):(List zac) × zai:=match tokC (zci s) s (zci s).length 0 [] with
 | .inl l=>(l++[⟨4,(zhF (zci s)).1,(zhF (zci s)).2,⟨#[]⟩⟩],⟨0,0,0⟩)
 | .inr q=>q
theorem ziv(s:ByteArray)(hs:Sm s):zeg s=some (zb0 s):=by
 have hs':=hs
 unfold Sm at hs'
 have g:=zh4 s hs
 have hg:=g.len
 obtain ⟨a,b,c⟩:=zjS g (zci s).length 0 [] (by omega) (by omega) (by omega) (by simp)
 rw [zeg,zfe s hs,Option.bind_some,a,zjf s hs]
 simp only [Option.bind_some,zb0]
 cases h:tokC (zci s) s (zci s).length 0 [] with
 | inl l =>
  have:=c l h
  simp only [zcl]
  rw [if_pos (show Fits _ by unfold Fits; omega)]
 | inr q=>rfl
end Go.Vs
end
