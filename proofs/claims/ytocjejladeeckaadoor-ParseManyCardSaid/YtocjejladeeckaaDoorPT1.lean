import Derived.Test.YtocjejladeeckaaDoorPalC
import Derived.Test.YtocjejladeeckaaDoorPalRead
import Derived.Test.YtocjejladeeckaaDoorPalUtf
import Derived.Lib.DecodeN
import Derived.Test.YtocjejladeeckaaDoorPalL
set_option linter.all false
section
namespace Go.Vs
local instance tabPalLex:Tab:=⟨fun _=>none⟩
def Sm(s:ByteArray):Prop:=s.size<=1000000
theorem zln{n b0 b1 b2 b3:Nat}(hn:0<n):1<=(Lib.decodeN n b0 b1 b2 b3).2/\(Lib.decodeN n b0 b1 b2 b3).2<=n:=by
 unfold Lib.decodeN
 repeat' split
 all_goals dsimp only
 all_goals omega
theorem zoB{n b0 b1 b2 b3:Nat}(h:(Lib.decodeN n b0 b1 b2 b3).1≠65533):Lib.runeLen ((Lib.decodeN n b0 b1 b2 b3).1:Int)=((Lib.decodeN n b0 b1 b2 b3).2:Int):=by
 revert h
 unfold Lib.decodeN
 repeat' split
 all_goals dsimp only
 all_goals intro h
 all_goals (try (exact absurd rfl h))
 all_goals (unfold Lib.runeLen; repeat' split)
 all_goals omega
theorem znS(s:ByteArray)(pos:Nat)(h:pos<s.size):1<=(Utf8.decode s pos).2/\pos+(Utf8.decode s pos).2<=s.size:=by
 rw [Lib.decode_at]
 have:=zln (n:=s.size-pos) (b0:=(s.get! pos).toNat) (b1:=(s.get! (pos+1)).toNat) (b2:=(s.get! (pos+2)).toNat) (b3:=(s.get! (pos+3)).toNat) (by omega)
 omega
theorem zkS(s:ByteArray)(pos:Nat)(h:(Utf8.decode s pos).1≠65533):Lib.runeLen ((Utf8.decode s pos).1:Int)=((Utf8.decode s pos).2:Int):=by
 rw [Lib.decode_at] at h ⊢; exact zoB h
def zck(s:ByteArray):Nat->Nat->Int->Int->List zah
 | 0,_,_,_=>[]
 | f+1,pos,line,col=>if pos<s.size then
   { Rune:=((Utf8.decode s pos).1:Int),At:=(pos:Int),Size:=((Utf8.decode s pos).2:Int),Line:=line,Col:=col,Bad:=(Utf8.decode s pos).1==65533&&(Utf8.decode s pos).2==1 } ::
    zck s f (pos+(Utf8.decode s pos).2) (if (Utf8.decode s pos).1=10 then line+1 else line) (if (Utf8.decode s pos).1=10 then 1 else col+1)
  else []
def zbo(s:ByteArray):List zah:=zck s s.size 0 1 1
theorem zl1{line col:Int}{r:Nat}(h1:0<=line/\line<=2000000)(h2:0<=col/\col<=2000000):zdn line col (r:Int)=some ((if r=10 then line+1 else line),(if r=10 then 1 else col+1)):=by
 rw [zdn]
 have e1:IntKind.wrap .i64 (line+1)=line+1:=zbQ ⟨by omega,by omega⟩
 have e2:IntKind.wrap .i64 (col+1)=col+1:=zbQ ⟨by omega,by omega⟩
 rw [e1,e2]
 by_cases h:r=10
 ·subst h; rfl
 ·have:¬(((r:Int)==10)=true):=by simp; omega
  rw [if_neg this,if_neg h,if_neg h]
theorem zlh(s:ByteArray)(hs:Sm s):∀(f pos:Nat) (line col:Int) (out:List zah),s.size-pos<=f->pos<=s.size->0<=line/\line<=1+pos->0<=col/\col<=1+pos->out.length<=pos ->
  zbg (zbN s) (line,col,pos,out)=some (out++zck s f pos line col):=by
 intro f
 induction f with
 | zero =>
  intro pos line col out hf hp hl hc ho
  have h:¬pos<s.size:=by omega
  rw [zck,List.append_nil]
  refine zaG ?_
  rw [zbN,if_neg h]
 | succ f ih =>
  intro pos line col out hf hp hl hc ho
  rw [zck]
  by_cases h:pos<s.size
  ·rw [if_pos h]
   obtain ⟨w1,w2⟩:=znS s pos h
   unfold Sm at hs
   have hj:∀b:Bool,zch out s pos line col ((Utf8.decode s pos).2:Int) b=some (.inl ((if (Utf8.decode s pos).1=10 then line+1 else line),(if (Utf8.decode s pos).1=10 then 1 else col+1),pos+(Utf8.decode s pos).2,
     out++[{ Rune:=((Utf8.decode s pos).1:Int),At:=(pos:Int),Size:=((Utf8.decode s pos).2:Int),Line:=line,Col:=col,Bad:=b }])):=by
    intro b
    rw [zch,if_pos (show Fits _ by unfold Fits; omega)]
    simp only [Option.bind_some]
    rw [zl1 (by omega) (by omega)]
    rfl
   have hst:zbN s (line,col,pos,out)=some (.inl ((if (Utf8.decode s pos).1=10 then line+1 else line),(if (Utf8.decode s pos).1=10 then 1 else col+1),pos+(Utf8.decode s pos).2,
     out++[{ Rune:=((Utf8.decode s pos).1:Int),At:=(pos:Int),Size:=((Utf8.decode s pos).2:Int),Line:=line,Col:=col,Bad:=(Utf8.decode s pos).1==65533&&(Utf8.decode s pos).2==1 }])):=by
    rw [zbN,if_pos h]
    by_cases he:(Utf8.decode s pos).1=65533
    ·rw [if_pos (by rw [he]; rfl),if_pos ⟨by omega,by omega⟩,zbB]
     have e:s.extract ((pos:Int).toNat) s.size=s.extract pos s.size:=by rw [Int.toNat_natCast]
     simp only [Option.bind_some]
     rw [e,zjR s pos h,hj]
     congr 8
     rw [he,Bool.eq_iff_iff]; simp; omega
    ·rw [if_neg (by simp; omega),zcy,Option.bind_some,zkS s pos he,hj]
     have:((Utf8.decode s pos).1==65533)=false:=by simpa using he
     rw [this]; rfl
   rw [zbu hst,ih _ _ _ _ (by omega) w2 (by split <;> omega) (by split <;> omega) (by simp; omega),List.append_assoc]
   rfl
  ·rw [if_neg h,List.append_nil]
   refine zaG ?_
   rw [zbN,if_neg h]
theorem zfc(s:ByteArray)(hs:Sm s):zc4 s=some (zbo s):=by
 rw [zc4,zlh s hs s.size 0 1 1 [] (by omega) (by omega) (by omega) (by omega) (by simp)]
 rfl
theorem zm2(s:ByteArray)(hs:Sm s):∀(f pos:Nat) (line col:Int),s.size-pos<=f->pos<=s.size->0<=line/\line<=1+pos->0<=col/\col<=1+pos ->
  zbg (zcb s) (line,col,pos)=some (match (zck s f pos line col).getLast? with | none=>(line,col) | some x=>if x.Rune=10 then (x.Line+1,1) else (x.Line,x.Col+1)):=by
 intro f
 induction f with
 | zero =>
  intro pos line col hf hp hl hc
  have h:¬pos<s.size:=by omega
  refine zaG ?_
  rw [zcb,if_neg h]; rfl
 | succ f ih =>
  intro pos line col hf hp hl hc
  rw [zck]
  by_cases h:pos<s.size
  ·rw [if_pos h]
   obtain ⟨w1,w2⟩:=znS s pos h
   unfold Sm at hs
   have hst:zcb s (line,col,pos)=some (.inl ((if (Utf8.decode s pos).1=10 then line+1 else line),(if (Utf8.decode s pos).1=10 then 1 else col+1),pos+(Utf8.decode s pos).2)):=by
    rw [zcb,if_pos h,zl1 (by omega) (by omega)]; rfl
   rw [zbu hst,ih _ _ _ (by omega) w2 (by split <;> omega) (by split <;> omega)]
   generalize zck s f (pos+(Utf8.decode s pos).2) (if (Utf8.decode s pos).1=10 then line+1 else line) (if (Utf8.decode s pos).1=10 then 1 else col+1)=l
   cases l with
   | nil =>
    simp only [List.getLast?_nil,List.getLast?_singleton]
    by_cases e:(Utf8.decode s pos).1=10
    ·rw [if_pos e,if_pos e,if_pos (by omega)]
    ·rw [if_neg e,if_neg e,if_neg (by omega)]
   | cons a l =>
    rw [List.getLast?_cons_cons]
    cases hl:(a::l).getLast? with
    | none=>simp at hl
    | some x=>rfl
  ·rw [if_neg h]
   refine zaG ?_
   rw [zcb,if_neg h]; rfl
def zfS(l:List zah):Int × Int:=match l.getLast? with | none=>(1,1) | some x=>if x.Rune=10 then (x.Line+1,1) else (x.Line,x.Col+1)
theorem zjd(s:ByteArray)(hs:Sm s):zeP s=some (zfS (zbo s)):=by
 rw [zeP,zm2 s hs s.size 0 1 1 (by omega) (by omega) (by omega) (by omega)]
 simp only [Option.bind_some,zfS,zbo]
end Go.Vs
end
section
namespace Go.Vs
local instance tabPalLex2:Tab:=⟨fun _=>none⟩
def toR(x:zah):zaE:={ Rune:=x.Rune,At:=x.At,Size:=x.Size,Line:=x.Line,Col:=x.Col,Bad:=x.Bad }
theorem zhB(s:ByteArray):∀(f pos:Nat) (line col:Int),∀x∈zck s f pos line col,(pos:Int)<=x.At/\1<=x.Size/\x.At+x.Size<=s.size/\x.Bad=(x.Rune==65533&&x.Size==1):=by
 intro f
 induction f with
 | zero=>intro pos line col x hx; simp [zck] at hx
 | succ f ih =>
  intro pos line col x hx
  rw [zck] at hx
  split at hx
  ·rename_i h
   obtain ⟨w1,w2⟩:=znS s pos h
   rcases List.mem_cons.1 hx with rfl | hx
   ·refine ⟨Int.le_refl _,by simp; omega,by simp; omega,?_⟩
    simp only
    rw [Bool.eq_iff_iff]; simp; omega
   ·obtain ⟨a,b,c,d⟩:=ih _ _ _ x hx
    exact ⟨by omega,b,c,d⟩
  ·simp at hx
theorem zhA(s:ByteArray):∀(f pos:Nat) (line col:Int),(zck s f pos line col).length<=s.size-pos:=by
 intro f
 induction f with
 | zero=>intro pos line col; simp [zck]
 | succ f ih =>
  intro pos line col
  rw [zck]
  split
  ·rename_i h
   obtain ⟨w1,w2⟩:=znS s pos h
   have:=ih (pos+(Utf8.decode s pos).2) (if (Utf8.decode s pos).1=10 then line+1 else line) (if (Utf8.decode s pos).1=10 then 1 else col+1)
   simp only [List.length_cons]; omega
  ·simp
theorem zh6(s:ByteArray):∀(f pos:Nat) (line col:Int),(zck s f pos line col).Pairwise fun x y=>x.At<=y.At:=by
 intro f
 induction f with
 | zero=>intro pos line col; simp [zck]
 | succ f ih =>
  intro pos line col
  rw [zck]
  split
  ·rename_i h
   refine List.Pairwise.cons (fun y hy=>?_) (ih _ _ _)
   have:=(zhB s _ _ _ _ y hy).1
   simp only; omega
  ·exact List.Pairwise.nil
end Go.Vs
end
section
namespace Go.Vs
local instance tabPalNumLaws0:Tab:=⟨fun _=>none⟩
open Go.Lib (decDigits itoa nDigits)
theorem zmw{s:ByteArray}(h:s.size<=281474976710656):zcD s=some (zbY s):=if_pos h
theorem ziT{p:Int}(h:I64 p)(n:Int)(hn:0<n)(hn2:n<=1000):∃i,zbR p n=some i/\0<=i/\i<n:=by
 rw [zbR,if_pos (by omega)]
 have h1:=Int.tmod_lt_of_pos p hn
 have h2:-n<Int.tmod p n:=by
  have:=Int.tmod_lt_of_pos (-p) hn
  rw [Int.neg_tmod] at this; omega
 by_cases hc:Int.tmod p n<0
 ·rw [if_pos (by simpa using hc),zbQ ⟨by omega,by omega⟩]
  exact ⟨_,rfl,by omega,by omega⟩
 ·rw [if_neg (by simpa using hc)]
  exact ⟨_,rfl,by omega,by omega⟩
end Go.Vs
end
section
namespace Go.Vs
local instance tabPalLex3:Tab:=⟨fun _=>none⟩
def zcd(p0:Int):Bool:=(((decide (p0≥97)&&decide (p0<=122))||(decide (p0≥65)&&decide (p0<=90)))||(p0==95))||(decide (p0≥161)&&decide (p0<=1114111))
def zdi(p0:Int):Bool:=decide (p0≥48)&&decide (p0<=57)
def zdy(p0:Int):Bool:=(p0==32)||(p0==9)
def zfZ(p0:Int):Bool:=(((p0==44)||(p0==91))||(p0==93))||(p0==58)
theorem zm4(r:Int):zcn r=some (zcd r):=rfl
theorem zmk(r:Int):zcr r=some (zcd r):=rfl
theorem zpa(r:Int):zcI r=some (zdi r):=rfl
theorem zoX(r:Int):zdd r=some (zdi r):=rfl
theorem zrw(r:Int):zem r=some (zdy r):=rfl
theorem zq6(r:Int):zeq r=some (zdy r):=rfl
theorem zgd{v:List zah}{i:Int}(h:InB i v.length):rd (v.map toR) i=toR (rd v i):=by
 obtain ⟨h0,h1⟩:=h
 rw [rd,rd,List.getD_eq_getElem?_getD,List.getD_eq_getElem?_getD,List.getElem?_map,List.getElem?_eq_getElem h1]; rfl
def zeo(v:List zah)(i:Int):Bool:=(decide (i<(v.length:Int))&&!(rd v i).Bad)&&(zcd (rd v i).Rune||zdi (rd v i).Rune)
theorem zfa{i:Int}{n:Nat}(h0:0<=i)(h:decide (i<(n:Int))=true):InB i n:=⟨h0,by have:=of_decide_eq_true h; omega⟩
theorem zh8{v:List zah}{i:Int}(h0:0<=i)(h1:i<=1000000):zdl v i=some (if zeo v i=true then .inl (i+1) else .inr i):=by
 have e1:IntKind.wrap .i64 (i+1)=i+1:=zbQ ⟨by omega,by omega⟩
 rw [zdl,if_pos (zfa h0),if_pos (fun h=>zfa h0 (by simp only [Bool.and_eq_true] at h; exact h.1)),e1,zeo]
 cases hA:(decide (i<(v.length:Int))&&!(rd v i).Bad) with
 | false=>simp
 | true =>
  have hin:InB i v.length:=zfa h0 (by simp only [Bool.and_eq_true] at hA; exact hA.1)
  simp only [if_true,zm4,Option.bind_some,Bool.true_and]
  rw [if_pos (fun _=>hin)]
  cases hl:zcd (rd v i).Rune <;> (try simp [zpa]) <;> (try (split <;> rfl))
theorem zgJ{v:List zah}{i:Int}(h0:0<=i)(h1:i<=1000000):zb6 (v.map toR) i=some (if zeo v i=true then .inl (i+1) else .inr i):=by
 have e1:IntKind.wrap .i64 (i+1)=i+1:=zbQ ⟨by omega,by omega⟩
 have el:(v.map toR).length=v.length:=by simp
 rw [zb6,el,if_pos (zfa h0),if_pos (fun h=>zfa h0 (by simp only [Bool.and_eq_true] at h; exact h.1)),e1,zeo]
 cases hd:decide (i<(v.length:Int)) with
 | false=>simp
 | true =>
  have hin:InB i v.length:=zfa h0 hd
  rw [zgd hin]
  have eb:(toR (rd v i)).Bad=(rd v i).Bad:=rfl
  have er:(toR (rd v i)).Rune=(rd v i).Rune:=rfl
  rw [eb,er]
  cases hb:(rd v i).Bad with
  | true=>simp
  | false =>
   simp only [Bool.not_false,Bool.and_true,if_true,zmk,Option.bind_some,Bool.true_and]
   rw [if_pos (fun _=>hin)]
   cases hl:zcd (rd v i).Rune <;> (try simp [zoX]) <;> (try (split <;> rfl))
def runC(v:List zah):Nat->Int->Int
 | 0,i=>i
 | n+1,i=>if zeo v i=true then runC v n (i+1) else i
theorem zgq(v:List zah)(hv:v.length<=1000000):∀(n:Nat) (i:Int),0<=i->i<=v.length->v.length-i.toNat<=n ->
  ∃k,k=runC v n i/\zbg (zdl v) i=some k/\zbg (zb6 (v.map toR)) i=some k/\i<=k/\k<=v.length:=by
 intro n
 induction n with
 | zero =>
  intro i h0 h1 hn
  have hw:zeo v i=false:=by
   have:decide (i<(v.length:Int))=false:=decide_eq_false (by omega)
   rw [zeo,this]; rfl
  refine ⟨i,rfl,zaG ?_,zaG ?_,Int.le_refl _,h1⟩
  ·rw [zh8 h0 (by omega),hw]; rfl
  ·rw [zgJ h0 (by omega),hw]; rfl
 | succ n ih =>
  intro i h0 h1 hn
  cases hw:zeo v i with
  | false =>
   refine ⟨i,by rw [runC,hw]; rfl,zaG ?_,zaG ?_,Int.le_refl _,h1⟩
   ·rw [zh8 h0 (by omega),hw]; rfl
   ·rw [zgJ h0 (by omega),hw]; rfl
  | true =>
   have hlt:i<(v.length:Int):=by
    simp only [zeo,Bool.and_eq_true,decide_eq_true_eq] at hw; exact hw.1.1
   obtain ⟨k,e,a,b,c,d⟩:=ih (i+1) (by omega) (by omega) (by omega)
   refine ⟨k,by rw [runC,hw]; exact e,?_,?_,by omega,d⟩
   ·rw [zbu (by rw [zh8 h0 (by omega),hw]; rfl)]; exact a
   ·rw [zbu (by rw [zgJ h0 (by omega),hw]; rfl)]; exact b
def ze3(v:List zah)(i:Int):Int ⊕ (Int ⊕ ((List zab) × zag)) :=
 if (decide (i<(v.length:Int))&&((rd v i).Rune != 10))=true then (if (rd v i).Bad=true then .inr (.inr ([],⟨1,(rd v i).Line,(rd v i).Col⟩)) else .inl (i+1)) else .inr (.inl i)
theorem zgs{v:List zah}{i:Int}(h0:0<=i)(h1:i<=1000000):zcc v i=some (ze3 v i):=by
 have e1:IntKind.wrap .i64 (i+1)=i+1:=zbQ ⟨by omega,by omega⟩
 rw [zcc,if_pos (zfa h0),e1,ze3]
 by_cases hA:(decide (i<(v.length:Int))&&((rd v i).Rune != 10))=true
 ·have hin:InB i v.length:=zfa h0 (by simp only [Bool.and_eq_true] at hA; exact hA.1)
  rw [if_pos hA,if_pos hA,if_pos hin]
  by_cases hb:(rd v i).Bad=true
  ·rw [if_pos hb,if_pos hb,if_pos hin]; rfl
  ·rw [if_neg hb,if_neg hb]
 ·rw [if_neg hA,if_neg hA]
theorem zgN{v:List zah}{i:Int}(h0:0<=i)(h1:i<=1000000):zb7 (v.map toR) i=some (ze3 v i):=by
 have e1:IntKind.wrap .i64 (i+1)=i+1:=zbQ ⟨by omega,by omega⟩
 have el:(v.map toR).length=v.length:=by simp
 rw [zb7,el,if_pos (zfa h0),e1,ze3]
 by_cases hd:decide (i<(v.length:Int))=true
 ·have hin:InB i v.length:=zfa h0 hd
  rw [zgd hin,hd]
  have er:(toR (rd v i)).Rune=(rd v i).Rune:=rfl
  have eb:(toR (rd v i)).Bad=(rd v i).Bad:=rfl
  rw [er,eb,if_pos hin,if_pos hin,if_pos hin]
  simp only [Bool.true_and]
  split
  ·split <;> rfl
  ·rfl
 ·simp only [Bool.not_eq_true] at hd
  rw [hd]; simp
def remC(v:List zah):Nat->Int->Int ⊕ ((List zab) × zag)
 | 0,i=>.inl i
 | n+1,i=>match ze3 v i with | .inl j=>remC v n j | .inr r=>r
theorem zgt(v:List zah)(hv:v.length<=1000000):∀(n:Nat) (i:Int),0<=i->i<=v.length->v.length-i.toNat<=n ->
  ∃r,r=remC v n i/\zbg (zcc v) i=some r/\zbg (zb7 (v.map toR)) i=some r/\∀k,r=.inl k->i<=k/\k<=v.length:=by
 intro n
 induction n with
 | zero =>
  intro i h0 h1 hn
  have hw:ze3 v i=.inr (.inl i):=by
   have:decide (i<(v.length:Int))=false:=decide_eq_false (by omega)
   rw [ze3,this]; rfl
  refine ⟨.inl i,rfl,zaG ?_,zaG ?_,fun k e=>?_⟩
  ·rw [zgs h0 (by omega),hw]
  ·rw [zgN h0 (by omega),hw]
  ·injection e with e; omega
 | succ n ih =>
  intro i h0 h1 hn
  cases hw:ze3 v i with
  | inr r =>
   refine ⟨r,by rw [remC,hw],zaG ?_,zaG ?_,fun k e=>?_⟩
   ·rw [zgs h0 (by omega),hw]
   ·rw [zgN h0 (by omega),hw]
   ·subst e
    unfold ze3 at hw
    split at hw
    ·split at hw
     ·injection hw with hw; cases hw
     ·cases hw
    ·injection hw with hw; injection hw with hw; omega
  | inl j =>
   have hj:j=i+1/\i<(v.length:Int):=by
    unfold ze3 at hw
    split at hw
    ·rename_i hc
     simp only [Bool.and_eq_true,decide_eq_true_eq] at hc
     split at hw
     ·cases hw
     ·injection hw with hw; exact ⟨hw.symm,hc.1⟩
    ·cases hw
   obtain ⟨rfl,hlt⟩:=hj
   obtain ⟨r,er,a,b,c⟩:=ih (i+1) (by omega) (by omega) (by omega)
   refine ⟨r,by rw [remC,hw]; exact er,?_,?_,fun k e=>?_⟩
   ·rw [zbu (by rw [zgs h0 (by omega),hw])]; exact a
   ·rw [zbu (by rw [zgN h0 (by omega),hw])]; exact b
   ·have:=c k e; omega
theorem znP{kind L C n:Int}{t:ByteArray}(hkind:kind=1\/kind=2\/kind=3\/kind=4)(ht:t.size<=281474976710656) :
  zdu (zab.mk kind L C t) n=some (if kind=1/\n>16 then 3 else if kind=2/\(zbY t).2=false then 2 else 0):=by
 rw [zdu]
 show (if ((kind==1)&&decide (n>16))=true then some 3 else if (kind==2)=true then ((zcD t).bind fun v4=>if (!v4.2)=true then some 2 else some 0) else some 0)=_
 rw [zmw ht]
 simp only [Option.bind_some,Bool.and_eq_true,beq_iff_eq,decide_eq_true_eq,Bool.not_eq_true']
 by_cases p1:kind=1/\n>16
 ·rw [if_pos p1,if_pos p1]
 ·rw [if_neg p1,if_neg p1]
  by_cases p2:kind=2
  ·rw [if_pos p2]
   by_cases p3:(zbY t).2=false
   ·rw [if_pos p3,if_pos ⟨p2,p3⟩]
   ·rw [if_neg p3,if_neg (fun h=>p3 h.2)]
  ·rw [if_neg p2,if_neg (fun h=>p2 h.1)]
structure Good (s:ByteArray) (v:List zah):Prop where
 sm:Sm s
 len:v.length<=s.size
 at0:∀i,InB i v.length->0<=(rd v i).At/\1<=(rd v i).Size/\(rd v i).At+(rd v i).Size<=s.size
 le:∀i j,InB i v.length->InB j v.length->i<=j->(rd v i).At<=(rd v j).At
theorem zmj{v:List zah}{i:Int}(h:InB i v.length):rd v i=v[i.toNat]'h.2:=by
 rw [rd,List.getD_eq_getElem?_getD,List.getElem?_eq_getElem h.2]; rfl
theorem zhR(s:ByteArray)(hs:Sm s):Good s (zbo s):=by
 refine ⟨hs,by have:=zhA s s.size 0 1 1; unfold zbo; omega,fun i h=>?_,fun i j hi hj hij=>?_⟩
 ·rw [zmj h]
  obtain ⟨a,b,c,_⟩:=zhB s _ _ _ _ _ (List.getElem_mem h.2)
  exact ⟨by simpa using a,b,c⟩
 ·rw [zmj hi,zmj hj]
  by_cases e:i=j
  ·subst e; exact Int.le_refl _
  ·have:=hi.1
   exact List.pairwise_iff_getElem.1 (zh6 s _ _ _ _) i.toNat j.toNat hi.2 hj.2 (by omega)
def tail(v:List zah)(s:ByteArray)(i:Int)(l:List zab)(k kind:Int):(Int × List zab) ⊕ (List zab ⊕ ((List zab) × zag)) :=
 let t:=s.extract (rd v i).At.toNat ((rd v (k-1)).At+(rd v (k-1)).Size).toNat
 if kind=1/\k-i>16 then .inr (.inr ([],⟨3,(rd v i).Line,(rd v i).Col⟩))
 else if kind=2/\(zbY t).2=false then .inr (.inr ([],⟨2,(rd v i).Line,(rd v i).Col⟩))
 else .inl (k,l++[⟨kind,(rd v i).Line,(rd v i).Col,t⟩])
section
variable {s:ByteArray} {v:List zah} (g:Good s v) {i k:Int} {l:List zab} (hi:InB i v.length) (hk:i<k) (hkn:k<=v.length) (hl:l.length<=1000000)
include g hi hk hkn hl
theorem zkt:IntKind.wrap .i64 (k-1)=k-1/\InB (k-1) v.length/\IntKind.wrap .i64 (k-i)=k-i/\IntKind.wrap .i64 ((rd v (k-1)).At+(rd v (k-1)).Size)=(rd v (k-1)).At+(rd v (k-1)).Size /\
  Bnd ((rd v (k-1)).At+(rd v (k-1)).Size) s.size/\Bnd (rd v i).At (((rd v (k-1)).At+(rd v (k-1)).Size).toNat):=by
 have hsm:=g.sm
 unfold Sm at hsm
 have hlen:=g.len
 obtain ⟨hi0,hi1⟩:=hi
 have hin:InB (k-1) v.length:=⟨by omega,by omega⟩
 obtain ⟨a1,a2,a3⟩:=g.at0 _ hin
 obtain ⟨b1,b2,b3⟩:=g.at0 _ ⟨hi0,hi1⟩
 have hle:=g.le i (k-1) ⟨hi0,hi1⟩ hin (by omega)
 exact ⟨zbQ ⟨by omega,by omega⟩,hin,zbQ ⟨by omega,by omega⟩,zbQ ⟨by omega,by omega⟩,⟨by omega,by omega⟩,⟨by omega,by omega⟩⟩
theorem zof(kind:Int)(hkind:kind=1\/kind=2\/kind=3\/kind=4) :
  (if InB (IntKind.wrap .i64 (k-1)) v.length then (if InB (IntKind.wrap .i64 (k-1)) v.length then (if Bnd (IntKind.wrap .i64 ((rd v (IntKind.wrap .i64 (k-1))).At+(rd v (IntKind.wrap .i64 (k-1))).Size)) s.size then (if Bnd ((rd v i).At) ((IntKind.wrap .i64 ((rd v (IntKind.wrap .i64 (k-1))).At+(rd v (IntKind.wrap .i64 (k-1))).Size)).toNat) then ((some (s.extract (((rd v i).At).toNat) ((IntKind.wrap .i64 ((rd v (IntKind.wrap .i64 (k-1))).At+(rd v (IntKind.wrap .i64 (k-1))).Size)).toNat))).bind fun s222 =>
            (zdu (zab.mk kind ((rd v i).Line) ((rd v i).Col) s222) (IntKind.wrap .i64 (k-i))).bind fun v224 =>
            if (v224 != 0)=true then ((zcU v224 (rd v i)).bind fun v227 =>
        some (.inr (.inr ([],v227)))) else (if Fits (l.length+1) then ((some (l++([(zab.mk kind ((rd v i).Line) ((rd v i).Col) s222)]))).bind fun l230 =>
        some (.inl (k,l230))) else none)) else none) else none) else none) else none)=some (tail v s i l k kind):=by
 obtain ⟨e1,hin,e2,e3,b1,b2⟩:=zkt g hi hk hkn hl
 rw [e1,if_pos hin,if_pos hin,e3,if_pos b1,if_pos b2,e2]
 simp only [Option.bind_some,tail]
 generalize ht:s.extract (rd v i).At.toNat ((rd v (k-1)).At+(rd v (k-1)).Size).toNat=t
 have hts:t.size<=1000000:=by
  have:=g.sm
  unfold Sm at this
  rw [← ht,ByteArray.size_extract]; omega
 have hf:Fits (l.length+1):=by unfold Fits; omega
 rw [znP hkind (by omega)]
 simp only [Option.bind_some,hf,if_true]
 by_cases p1:kind=1/\k-i>16
 ·rw [if_pos p1,if_pos p1]; rfl
 ·rw [if_neg p1,if_neg p1]
  by_cases p2:kind=2/\(zbY t).2=false
  ·rw [if_pos p2,if_pos p2]; rfl
  ·rw [if_neg p2,if_neg p2]; rfl
theorem zn3(kind:Int)(hkind:kind=1\/kind=2\/kind=3\/kind=4):zaQ (v.map toR) s i l k kind=some (tail v s i l k kind):=by
 obtain ⟨e1,hin,e2,e3,b1,b2⟩:=zkt g hi hk hkn hl
 have el:(v.map toR).length=v.length:=by simp
 rw [zaQ,e1,el,zgd hin,zgd hi]
 have q1:(toR (rd v (k-1))).At=(rd v (k-1)).At:=rfl
 have q2:(toR (rd v (k-1))).Size=(rd v (k-1)).Size:=rfl
 have q3:(toR (rd v i)).At=(rd v i).At:=rfl
 have q4:(toR (rd v i)).Line=(rd v i).Line:=rfl
 have q5:(toR (rd v i)).Col=(rd v i).Col:=rfl
 rw [q1,q2,q3,q4,q5,if_pos hin,if_pos hin,e3,if_pos b1,if_pos b2,e2]
 simp only [Option.bind_some,tail]
 generalize ht:s.extract (rd v i).At.toNat ((rd v (k-1)).At+(rd v (k-1)).Size).toNat=t
 have hts:t.size<=1000000:=by
  have:=g.sm
  unfold Sm at this
  rw [← ht,ByteArray.size_extract]; omega
 have hf:Fits (l.length+1):=by unfold Fits; omega
 have hj2:zbL kind l (v.map toR) i t k=some (.inl (k,l++[⟨kind,(rd v i).Line,(rd v i).Col,t⟩])):=by
  rw [zbL,zgd hi,if_pos (by rcases hkind with rfl | rfl | rfl | rfl <;> rfl),if_pos hf]; rfl
 rw [hj2,zfE t (by omega)]
 simp only [Option.bind_some,e2,Bool.and_eq_true,beq_iff_eq,decide_eq_true_eq,Bool.not_eq_true']
 by_cases p1:kind=1/\k-i>16
 ·rw [if_pos p1,if_pos p1]
 ·rw [if_neg p1,if_neg p1]
  by_cases p2:kind=2
  ·rw [if_pos p2]
   by_cases p3:(zbY t).2=false
   ·rw [if_pos p3,if_pos ⟨p2,p3⟩]
   ·rw [if_neg p3,if_neg (fun h=>p3 h.2)]
  ·rw [if_neg p2,if_neg (fun h=>p2 h.1)]
theorem zn5:zaQ (v.map toR) s i l k 0=some (.inl (k,l)):=by
 obtain ⟨e1,hin,e2,e3,b1,b2⟩:=zkt g hi hk hkn hl
 have el:(v.map toR).length=v.length:=by simp
 rw [zaQ,e1,el,zgd hin,zgd hi]
 have q1:(toR (rd v (k-1))).At=(rd v (k-1)).At:=rfl
 have q2:(toR (rd v (k-1))).Size=(rd v (k-1)).Size:=rfl
 have q3:(toR (rd v i)).At=(rd v i).At:=rfl
 rw [q1,q2,q3,if_pos hin,if_pos hin,e3,if_pos b1,if_pos b2]
 simp only [Option.bind_some]
 rw [if_neg (by simp),if_neg (by decide),zbL,if_neg (by simp)]; rfl
end
end Go.Vs
end
section
namespace Go.Vs
local instance tabPalLex4:Tab:=⟨fun _=>none⟩
def zec(v:List zah)(s:ByteArray)(i:Int)(l:List zab):(Int × List zab) ⊕ (List zab ⊕ ((List zab) × zag)) :=
 if (rd v i).Bad=true then .inr (.inr ([],⟨1,(rd v i).Line,(rd v i).Col⟩))
 else if zdy (rd v i).Rune=true then .inl (i+1,l)
 else if (rd v i).Rune=59 then (match remC v v.length (i+1) with | .inl k=>.inl (k,l) | .inr q=>.inr (.inr q))
 else if (rd v i).Rune=10 then tail v s i l (i+1) 4
 else if zfZ (rd v i).Rune=true then tail v s i l (i+1) 3
 else if zcd (rd v i).Rune=true then tail v s i l (runC v v.length (i+1)) 1
 else if (zdi (rd v i).Rune||((rd v i).Rune==45))=true then tail v s i l (runC v v.length (i+1)) 2
 else .inr (.inr ([],⟨1,(rd v i).Line,(rd v i).Col⟩))
section
variable {s:ByteArray} {v:List zah} (g:Good s v) {i:Int} {l:List zab} (hi:InB i v.length) (hl:l.length<=1000000)
include g hi hl
theorem zkC:0<=i/\i<v.length/\v.length<=1000000:=by
 have h1:=g.sm; have h2:=g.len; unfold Sm at h1
 obtain ⟨a,b⟩:=hi
 exact ⟨a,by omega,by omega⟩
theorem zog:zb1 v s (i,l)=some (zec v s i l):=by
 obtain ⟨h0,h1,hv⟩:=zkC g hi hl
 have e1:IntKind.wrap .i64 (i+1)=i+1:=zbQ ⟨by omega,by omega⟩
 have hd:decide (i<(v.length:Int))=true:=decide_eq_true h1
 obtain ⟨k,ek,lk,_,k1,k2⟩:=zgq v hv v.length (i+1) (by omega) (by omega) (by omega)
 obtain ⟨r,er,lr,_,r1⟩:=zgt v hv v.length (i+1) (by omega) (by omega) (by omega)
 rw [zb1,if_pos hd,if_pos hi,zrw,e1]
 simp only [Option.bind_some]
 unfold zec
 by_cases c1:(rd v i).Bad=true
 ·rw [if_pos c1,if_pos c1]; rfl
 rw [if_neg c1,if_neg c1]
 by_cases c2:zdy (rd v i).Rune=true
 ·rw [if_pos c2,if_pos c2]
 rw [if_neg c2,if_neg c2]
 by_cases c3:(rd v i).Rune=59
 ·rw [if_pos (by simpa using c3),if_pos c3]
  have hst:zcc v i=some (.inl (i+1)):=by
   rw [zgs h0 (by omega),ze3,hd,if_pos (by rw [c3]; rfl),if_neg c1]
  rw [zbu hst,lr,← er]
  simp only [Option.bind_some]
  cases r <;> rfl
 rw [if_neg (by simpa using c3),if_neg c3]
 have hrun:∀kk kind:Int,i<kk->kk<=v.length->(kind=1\/kind=2\/kind=3\/kind=4)->zfp v i=some (kk,kind) ->
   ((zfp v i).bind fun v213 =>
      if (v213.2==0)=true then ((zcU 1 (rd v i)).bind fun v216 =>
       some (.inr (.inr ([],v216)))) else (if InB (IntKind.wrap .i64 (v213.1-1)) v.length then (if InB (IntKind.wrap .i64 (v213.1-1)) v.length then (if Bnd (IntKind.wrap .i64 ((rd v (IntKind.wrap .i64 (v213.1-1))).At+(rd v (IntKind.wrap .i64 (v213.1-1))).Size)) s.size then (if Bnd ((rd v i).At) ((IntKind.wrap .i64 ((rd v (IntKind.wrap .i64 (v213.1-1))).At+(rd v (IntKind.wrap .i64 (v213.1-1))).Size)).toNat) then ((some (s.extract (((rd v i).At).toNat) ((IntKind.wrap .i64 ((rd v (IntKind.wrap .i64 (v213.1-1))).At+(rd v (IntKind.wrap .i64 (v213.1-1))).Size)).toNat))).bind fun s222 =>
       (zdu (zab.mk v213.2 ((rd v i).Line) ((rd v i).Col) s222) (IntKind.wrap .i64 (v213.1-i))).bind fun v224 =>
       if (v224 != 0)=true then ((zcU v224 (rd v i)).bind fun v227 =>
        some (.inr (.inr ([],v227)))) else (if Fits (l.length+1) then ((some (l++([(zab.mk v213.2 ((rd v i).Line) ((rd v i).Col) s222)]))).bind fun l230 =>
        some (.inl (v213.1,l230))) else none)) else none) else none) else none) else none):Option ((Int × List zab) ⊕ (List zab ⊕ ((List zab) × zag))))=some (tail v s i l kk kind):=by
  intro kk kind h2 h3 h4 h5
  rw [h5,Option.bind_some,if_neg (by rcases h4 with rfl | rfl | rfl | rfl <;> simp)]
  exact zof g hi h2 h3 hl kind h4
 have hj:∀kind:Int,zdm v i kind=some (runC v v.length (i+1),kind):=by
  intro kind
  rw [zdm,e1,lk,← ek]; rfl
 have hR:zfp v i=if (rd v i).Rune=10 then some (i+1,4) else if zfZ (rd v i).Rune=true then some (i+1,3) else if zcd (rd v i).Rune=true then some (runC v v.length (i+1),1)
   else if (zdi (rd v i).Rune||((rd v i).Rune==45))=true then some (runC v v.length (i+1),2) else some (i,0):=by
  rw [zfp,if_pos hi,e1,zm4,zpa,hj,hj]
  simp only [Option.bind_some,beq_iff_eq]
  rfl
 rw [← ek] at hR
 by_cases c4:(rd v i).Rune=10
 ·rw [if_pos c4]; exact hrun _ _ (by omega) (by omega) (by omega) (by rw [hR,if_pos c4])
 by_cases c5:zfZ (rd v i).Rune=true
 ·rw [if_neg c4,if_pos c5]; exact hrun _ _ (by omega) (by omega) (by omega) (by rw [hR,if_neg c4,if_pos c5])
 by_cases c6:zcd (rd v i).Rune=true
 ·rw [if_neg c4,if_neg c5,if_pos c6,← ek]; exact hrun _ _ (by omega) (by omega) (by omega) (by rw [hR,if_neg c4,if_neg c5,if_pos c6])
 by_cases c7:(zdi (rd v i).Rune||((rd v i).Rune==45))=true
 ·rw [if_neg c4,if_neg c5,if_neg c6,if_pos c7,← ek]; exact hrun _ _ (by omega) (by omega) (by omega) (by rw [hR,if_neg c4,if_neg c5,if_neg c6,if_pos c7])
 ·rw [hR,if_neg c4,if_neg c5,if_neg c6,if_neg c7,if_neg c4,if_neg c5,if_neg c6,if_neg c7]; rfl
theorem zn4:zbK (v.map toR) s (i,l)=some (zec v s i l):=by
 obtain ⟨h0,h1,hv⟩:=zkC g hi hl
 have e1:IntKind.wrap .i64 (i+1)=i+1:=zbQ ⟨by omega,by omega⟩
 have hd:decide (i<(v.length:Int))=true:=decide_eq_true h1
 have el:(v.map toR).length=v.length:=by simp
 obtain ⟨k,ek,_,lk,k1,k2⟩:=zgq v hv v.length (i+1) (by omega) (by omega) (by omega)
 obtain ⟨r,er,_,lr,r1⟩:=zgt v hv v.length (i+1) (by omega) (by omega) (by omega)
 have hsk:=fun kk h2 h3=>zn5 g hi (k:=kk) h2 h3 hl
 have hT:=fun kk h2 h3=>zn3 g hi (k:=kk) h2 h3 hl
 rw [zbK,el,if_pos hd,if_pos hi,zgd hi,zq6,e1]
 have q1:(toR (rd v i)).Rune=(rd v i).Rune:=rfl
 have q2:(toR (rd v i)).Bad=(rd v i).Bad:=rfl
 have q4:(toR (rd v i)).Line=(rd v i).Line:=rfl
 have q5:(toR (rd v i)).Col=(rd v i).Col:=rfl
 rw [q1,q2,q4,q5]
 simp only [Option.bind_some]
 unfold zec
 by_cases c1:(rd v i).Bad=true
 ·rw [if_pos c1,if_pos c1]
 rw [if_neg c1,if_neg c1]
 by_cases c2:zdy (rd v i).Rune=true
 ·rw [if_pos c2,if_pos c2]; exact hsk _ (by omega) (by omega)
 rw [if_neg c2,if_neg c2]
 by_cases c3:(rd v i).Rune=59
 ·rw [if_pos (by simpa using c3),if_pos c3,lr,← er]
  simp only [Option.bind_some]
  cases r with
  | inl k =>
   have:=r1 k rfl
   exact hsk _ (by omega) (by omega)
  | inr q=>rfl
 rw [if_neg (by simpa using c3),if_neg c3]
 by_cases c4:(rd v i).Rune=10
 ·rw [if_pos (by simpa using c4),if_pos c4]; exact hT _ (by omega) (by omega) 4 (by omega)
 rw [if_neg (by simpa using c4),if_neg c4]
 show (if zfZ (rd v i).Rune=true then _ else _)=_
 by_cases c5:zfZ (rd v i).Rune=true
 ·rw [if_pos c5,if_pos c5]; exact hT _ (by omega) (by omega) 3 (by omega)
 rw [if_neg c5,if_neg c5,zmk,zoX]
 simp only [Option.bind_some]
 by_cases c6:zcd (rd v i).Rune=true
 ·rw [if_pos c6,c6]
  simp only [Bool.not_true,Bool.false_eq_true,if_false,Option.bind_some,Bool.true_or,if_true]
  rw [lk,← ek]
  exact hT _ (by omega) (by omega) 1 (by omega)
 ·rw [if_neg c6]
  simp only [Bool.not_eq_true] at c6
  rw [c6]
  simp only [Bool.not_false,if_true,Option.bind_some,Bool.false_or]
  by_cases c7:(zdi (rd v i).Rune||((rd v i).Rune==45))=true
  ·rw [if_pos c7,if_pos c7,lk,← ek]
   exact hT _ (by omega) (by omega) 2 (by omega)
  ·rw [if_neg c7,if_neg c7]
theorem zj4{k:Int}{l':List zab}(h:zec v s i l=.inl (k,l')):i<k/\k<=v.length/\l'.length<=l.length+1:=by
 obtain ⟨h0,h1,hv⟩:=zkC g hi hl
 obtain ⟨kk,ek,_,_,k1,k2⟩:=zgq v hv v.length (i+1) (by omega) (by omega) (by omega)
 obtain ⟨r,er,_,_,r1⟩:=zgt v hv v.length (i+1) (by omega) (by omega) (by omega)
 have ht:∀a kind,tail v s i l a kind=.inl (k,l')->k=a/\l'.length<=l.length+1:=by
  intro a kind h
  unfold tail at h
  dsimp only at h
  split at h
  ·cases h
  ·split at h
   ·cases h
   ·injection h with h
    injection h with h3 h4
    exact ⟨h3.symm,by rw [← h4]; simp⟩
 unfold zec at h
 rw [← er,← ek] at h
 repeat' split at h
 all_goals first
  | (cases h; done)
  | (obtain ⟨rfl,h5⟩:=ht _ _ h; exact ⟨by omega,by omega,h5⟩)
  | (injection h with h; injection h with h3 h4; subst h3; subst h4; first | exact ⟨by omega,by omega,by omega⟩ | (have:=r1 _ rfl; exact ⟨by omega,by omega,by omega⟩))
end
def tokC(v:List zah)(s:ByteArray):Nat->Int->List zab->List zab ⊕ ((List zab) × zag)
 | 0,_,l=>.inl l
 | n+1,i,l=>if i<v.length then (match zec v s i l with | .inl (k,l')=>tokC v s n k l' | .inr r=>r) else .inl l
theorem zj5{s:ByteArray}{v:List zah}(g:Good s v):∀(n:Nat) (i:Int) (l:List zab),0<=i->i<=v.length->v.length-i.toNat<=n->l.length<=i.toNat ->
  zbg (zb1 v s) (i,l)=some (tokC v s n i l)/\zbg (zbK (v.map toR) s) (i,l)=some (tokC v s n i l)/\∀l',tokC v s n i l=.inl l'->l'.length<=v.length:=by
 have h1:=g.sm
 have h2:=g.len
 unfold Sm at h1
 have el:(v.map toR).length=v.length:=by simp
 have stop:∀(i:Int) (l:List zab),¬i<v.length->zbg (zb1 v s) (i,l)=some (.inl l)/\zbg (zbK (v.map toR) s) (i,l)=some (.inl l):=fun i l h =>
  ⟨zaG (by rw [zb1,if_neg (by simpa using h)]),zaG (by rw [zbK,el,if_neg (by simpa using h)])⟩
 intro n
 induction n with
 | zero =>
  intro i l h0 hv hn hl
  rw [tokC]
  exact ⟨(stop i l (by omega)).1,(stop i l (by omega)).2,fun l' e=>by injection e with e; subst e; omega⟩
 | succ n ih =>
  intro i l h0 hv hn hl
  rw [tokC]
  by_cases hlt:i<v.length
  ·rw [if_pos hlt]
   have hin:InB i v.length:=⟨h0,by omega⟩
   have a:=zog g hin (l:=l) (by omega)
   have b:=zn4 g hin (l:=l) (by omega)
   cases ht:zec v s i l with
   | inl q =>
    obtain ⟨k,l'⟩:=q
    obtain ⟨n1,n2,n3⟩:=zj4 g hin (by omega) ht
    obtain ⟨x,y,z⟩:=ih k l' (by omega) n2 (by omega) (by omega)
    exact ⟨(zbu (a.trans (by rw [ht]))).trans x,(zbu (b.trans (by rw [ht]))).trans y,z⟩
   | inr r =>
    refine ⟨zaG (a.trans (by rw [ht])),zaG (b.trans (by rw [ht])),fun l' e=>?_⟩
    dsimp only at e
    subst e
    exfalso
    unfold zec tail at ht
    dsimp only at ht
    repeat' split at ht
    all_goals first | cases ht | (injection ht with ht; cases ht)
  ·rw [if_neg hlt]
   exact ⟨(stop i l hlt).1,(stop i l hlt).2,fun l' e=>by injection e with e; subst e; omega⟩
def zbU(s:ByteArray):(List zab) × zag:=match tokC (zbo s) s (zbo s).length 0 [] with
 | .inl l=>(l++[⟨4,(zfS (zbo s)).1,(zfS (zbo s)).2,⟨#[]⟩⟩],⟨0,0,0⟩)
 | .inr q=>q
theorem zih(s:ByteArray)(hs:Sm s):zd3 s=some (zbU s):=by
 have hs':=hs
 unfold Sm at hs'
 have g:=zhR s hs
 have hg:=g.len
 obtain ⟨a,b,c⟩:=zj5 g (zbo s).length 0 [] (by omega) (by omega) (by omega) (by simp)
 rw [zd3,zfc s hs,Option.bind_some,a,zjd s hs]
 simp only [Option.bind_some,zbU]
 cases h:tokC (zbo s) s (zbo s).length 0 [] with
 | inl l =>
  have:=c l h
  simp only [zcj]
  rw [if_pos (show Fits _ by unfold Fits; omega)]
 | inr q=>rfl
end Go.Vs
end
