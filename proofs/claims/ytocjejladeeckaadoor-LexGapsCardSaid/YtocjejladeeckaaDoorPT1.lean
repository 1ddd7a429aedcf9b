import Derived.Test.YtocjejladeeckaaDoorPalC
import Derived.Test.YtocjejladeeckaaDoorPalRead
import Derived.Test.YtocjejladeeckaaDoorPalUtf
import Derived.Lib.DecodeN
import Derived.Test.YtocjejladeeckaaDoorPalL
set_option linter.all false
section
namespace Go.Vs
local instance tabPalLex:Tab:=⟨fun _=>none⟩
def Sm(s:ByteArray):Prop:=s.size<=1000000
theorem zfW{n b0 b1 b2 b3:Nat}(hn:0<n):1<=(Lib.decodeN n b0 b1 b2 b3).2/\(Lib.decodeN n b0 b1 b2 b3).2<=n:=by
 unfold Lib.decodeN
 repeat' split
 all_goals dsimp only
 all_goals omega
theorem zht{n b0 b1 b2 b3:Nat}(h:(Lib.decodeN n b0 b1 b2 b3).1≠65533):Lib.runeLen ((Lib.decodeN n b0 b1 b2 b3).1:Int)=((Lib.decodeN n b0 b1 b2 b3).2:Int):=by
 revert h
 unfold Lib.decodeN
 repeat' split
 all_goals dsimp only
 all_goals intro h
 all_goals (try (exact absurd rfl h))
 all_goals (unfold Lib.runeLen; repeat' split)
 all_goals omega
theorem zg6(s:ByteArray)(pos:Nat)(h:pos<s.size):1<=(Utf8.decode s pos).2/\pos+(Utf8.decode s pos).2<=s.size:=by
 rw [Lib.decode_at]
 have:=zfW (n:=s.size-pos) (b0:=(s.get! pos).toNat) (b1:=(s.get! (pos+1)).toNat) (b2:=(s.get! (pos+2)).toNat) (b3:=(s.get! (pos+3)).toNat) (by omega)
 omega
theorem zfN(s:ByteArray)(pos:Nat)(h:(Utf8.decode s pos).1≠65533):Lib.runeLen ((Utf8.decode s pos).1:Int)=((Utf8.decode s pos).2:Int):=by
 rw [Lib.decode_at] at h ⊢; exact zht h
def zaA(s:ByteArray):Nat->Nat->Int->Int->List zab
 | 0,_,_,_=>[]
 | f+1,pos,line,col=>if pos<s.size then
   { Rune:=((Utf8.decode s pos).1:Int),At:=(pos:Int),Size:=((Utf8.decode s pos).2:Int),Line:=line,Col:=col,Bad:=(Utf8.decode s pos).1==65533&&(Utf8.decode s pos).2==1 } ::
    zaA s f (pos+(Utf8.decode s pos).2) (if (Utf8.decode s pos).1=10 then line+1 else line) (if (Utf8.decode s pos).1=10 then 1 else col+1)
  else []
def zaT(s:ByteArray):List zab:=zaA s s.size 0 1 1
theorem zgf{line col:Int}{r:Nat}(h1:0<=line/\line<=2000000)(h2:0<=col/\col<=2000000):zbC line col (r:Int)=some ((if r=10 then line+1 else line),(if r=10 then 1 else col+1)):=by
 rw [zbC]
 have e1:IntKind.wrap .i64 (line+1)=line+1:=zaR ⟨by omega,by omega⟩
 have e2:IntKind.wrap .i64 (col+1)=col+1:=zaR ⟨by omega,by omega⟩
 rw [e1,e2]
 by_cases h:r=10
 ·subst h; rfl
 ·have:¬(((r:Int)==10)=true):=by simp; omega
  rw [if_neg this,if_neg h,if_neg h]
theorem zfV(s:ByteArray)(hs:Sm s):∀(f pos:Nat) (line col:Int) (out:List zab),s.size-pos<=f->pos<=s.size->0<=line/\line<=1+pos->0<=col/\col<=1+pos->out.length<=pos ->
  za9 (zaC s) (line,col,pos,out)=some (out++zaA s f pos line col):=by
 intro f
 induction f with
 | zero =>
  intro pos line col out hf hp hl hc ho
  have h:¬pos<s.size:=by omega
  rw [zaA,List.append_nil]
  refine zaq ?_
  rw [zaC,if_neg h]
 | succ f ih =>
  intro pos line col out hf hp hl hc ho
  rw [zaA]
  by_cases h:pos<s.size
  ·rw [if_pos h]
   obtain ⟨w1,w2⟩:=zg6 s pos h
   unfold Sm at hs
   have hj:∀b:Bool,zaW out s pos line col ((Utf8.decode s pos).2:Int) b=some (.inl ((if (Utf8.decode s pos).1=10 then line+1 else line),(if (Utf8.decode s pos).1=10 then 1 else col+1),pos+(Utf8.decode s pos).2,
     out++[{ Rune:=((Utf8.decode s pos).1:Int),At:=(pos:Int),Size:=((Utf8.decode s pos).2:Int),Line:=line,Col:=col,Bad:=b }])):=by
    intro b
    rw [zaW,if_pos (show Fits _ by unfold Fits; omega)]
    simp only [Option.bind_some]
    rw [zgf (by omega) (by omega)]
    rfl
   have hst:zaC s (line,col,pos,out)=some (.inl ((if (Utf8.decode s pos).1=10 then line+1 else line),(if (Utf8.decode s pos).1=10 then 1 else col+1),pos+(Utf8.decode s pos).2,
     out++[{ Rune:=((Utf8.decode s pos).1:Int),At:=(pos:Int),Size:=((Utf8.decode s pos).2:Int),Line:=line,Col:=col,Bad:=(Utf8.decode s pos).1==65533&&(Utf8.decode s pos).2==1 }])):=by
    rw [zaC,if_pos h]
    by_cases he:(Utf8.decode s pos).1=65533
    ·rw [if_pos (by rw [he]; rfl),if_pos ⟨by omega,by omega⟩,zas]
     have e:s.extract ((pos:Int).toNat) s.size=s.extract pos s.size:=by rw [Int.toNat_natCast]
     simp only [Option.bind_some]
     rw [e,zfc s pos h,hj]
     congr 8
     rw [he,Bool.eq_iff_iff]; simp; omega
    ·rw [if_neg (by simp; omega),za7,Option.bind_some,zfN s pos he,hj]
     have:((Utf8.decode s pos).1==65533)=false:=by simpa using he
     rw [this]; rfl
   rw [za1 hst,ih _ _ _ _ (by omega) w2 (by split <;> omega) (by split <;> omega) (by simp; omega),List.append_assoc]
   rfl
  ·rw [if_neg h,List.append_nil]
   refine zaq ?_
   rw [zaC,if_neg h]
theorem zdO(s:ByteArray)(hs:Sm s):zbI s=some (zaT s):=by
 rw [zbI,zfV s hs s.size 0 1 1 [] (by omega) (by omega) (by omega) (by omega) (by simp)]
 rfl
theorem zgH(s:ByteArray)(hs:Sm s):∀(f pos:Nat) (line col:Int),s.size-pos<=f->pos<=s.size->0<=line/\line<=1+pos->0<=col/\col<=1+pos ->
  za9 (zaQ s) (line,col,pos)=some (match (zaA s f pos line col).getLast? with | none=>(line,col) | some x=>if x.Rune=10 then (x.Line+1,1) else (x.Line,x.Col+1)):=by
 intro f
 induction f with
 | zero =>
  intro pos line col hf hp hl hc
  have h:¬pos<s.size:=by omega
  refine zaq ?_
  rw [zaQ,if_neg h]; rfl
 | succ f ih =>
  intro pos line col hf hp hl hc
  rw [zaA]
  by_cases h:pos<s.size
  ·rw [if_pos h]
   obtain ⟨w1,w2⟩:=zg6 s pos h
   unfold Sm at hs
   have hst:zaQ s (line,col,pos)=some (.inl ((if (Utf8.decode s pos).1=10 then line+1 else line),(if (Utf8.decode s pos).1=10 then 1 else col+1),pos+(Utf8.decode s pos).2)):=by
    rw [zaQ,if_pos h,zgf (by omega) (by omega)]; rfl
   rw [za1 hst,ih _ _ _ (by omega) w2 (by split <;> omega) (by split <;> omega)]
   generalize zaA s f (pos+(Utf8.decode s pos).2) (if (Utf8.decode s pos).1=10 then line+1 else line) (if (Utf8.decode s pos).1=10 then 1 else col+1)=l
   cases l with
   | nil =>
    simp only [List.getLast?_nil,List.getLast?_singleton]
    by_cases e:(Utf8.decode s pos).1=10
    ·rw [if_pos e,if_pos e,if_pos (by omega)]
    ·rw [if_neg e,if_neg e,if_neg (by omega)]
   | cons a l =>
    rw [List.getLast?_cons_cons]
    cases hl:(a::l).getLast? with
    | none=>simp at hl
    | some x=>rfl
  ·rw [if_neg h]
   refine zaq ?_
   rw [zaQ,if_neg h]; rfl
def zdQ(l:List zab):Int × Int:=match l.getLast? with | none=>(1,1) | some x=>if x.Rune=10 then (x.Line+1,1) else (x.Line,x.Col+1)
theorem zeL(s:ByteArray)(hs:Sm s):zb8 s=some (zdQ (zaT s)):=by
 rw [zb8,zgH s hs s.size 0 1 1 (by omega) (by omega) (by omega) (by omega)]
 simp only [Option.bind_some,zdQ,zaT]
end Go.Vs
end
section
namespace Go.Vs
local instance tabPalLex2:Tab:=⟨fun _=>none⟩
def toR(x:zab):zaD:={ Rune:=x.Rune,At:=x.At,Size:=x.Size,Line:=x.Line,Col:=x.Col,Bad:=x.Bad }
theorem zcQ(s:ByteArray):∀(f pos:Nat) (line col:Int),∀x∈zaA s f pos line col,(pos:Int)<=x.At/\1<=x.Size/\x.At+x.Size<=s.size/\x.Bad=(x.Rune==65533&&x.Size==1):=by
 intro f
 induction f with
 | zero=>intro pos line col x hx; simp [zaA] at hx
 | succ f ih =>
  intro pos line col x hx
  rw [zaA] at hx
  split at hx
  ·rename_i h
   obtain ⟨w1,w2⟩:=zg6 s pos h
   rcases List.mem_cons.1 hx with rfl | hx
   ·refine ⟨Int.le_refl _,by simp; omega,by simp; omega,?_⟩
    simp only
    rw [Bool.eq_iff_iff]; simp; omega
   ·obtain ⟨a,b,c,d⟩:=ih _ _ _ x hx
    exact ⟨by omega,b,c,d⟩
  ·simp at hx
theorem zfJ(s:ByteArray):∀(f pos:Nat) (line col:Int),(zaA s f pos line col).length<=s.size-pos:=by
 intro f
 induction f with
 | zero=>intro pos line col; simp [zaA]
 | succ f ih =>
  intro pos line col
  rw [zaA]
  split
  ·rename_i h
   obtain ⟨w1,w2⟩:=zg6 s pos h
   have:=ih (pos+(Utf8.decode s pos).2) (if (Utf8.decode s pos).1=10 then line+1 else line) (if (Utf8.decode s pos).1=10 then 1 else col+1)
   simp only [List.length_cons]; omega
  ·simp
theorem zed(s:ByteArray):∀(f pos:Nat) (line col:Int),(zaA s f pos line col).Pairwise fun x y=>x.At<=y.At:=by
 intro f
 induction f with
 | zero=>intro pos line col; simp [zaA]
 | succ f ih =>
  intro pos line col
  rw [zaA]
  split
  ·rename_i h
   refine List.Pairwise.cons (fun y hy=>?_) (ih _ _ _)
   have:=(zcQ s _ _ _ _ y hy).1
   simp only; omega
  ·exact List.Pairwise.nil
end Go.Vs
end
section
namespace Go.Vs
local instance tabPalNumLaws0:Tab:=⟨fun _=>none⟩
open Go.Lib (decDigits itoa nDigits)
theorem zgv{s:ByteArray}(h:s.size<=281474976710656):zcd s=some (zbY s):=if_pos h
theorem zfL(s:ByteArray){n:Int}(h:0<=n):∃t,zaU s n=some t/\(t.size:Int)<=n:=by
 rw [zaU,if_pos ⟨by split <;> omega,by split <;> omega⟩]
 refine ⟨_,rfl,?_⟩
 rw [ByteArray.size_extract]
 split <;> omega
theorem zeC{p:Int}(h:I64 p)(n:Int)(hn:0<n)(hn2:n<=1000):∃i,zaP p n=some i/\0<=i/\i<n:=by
 rw [zaP,if_pos (by omega)]
 have h1:=Int.tmod_lt_of_pos p hn
 have h2:-n<Int.tmod p n:=by
  have:=Int.tmod_lt_of_pos (-p) hn
  rw [Int.neg_tmod] at this; omega
 by_cases hc:Int.tmod p n<0
 ·rw [if_pos (by simpa using hc),zaR ⟨by omega,by omega⟩]
  exact ⟨_,rfl,by omega,by omega⟩
 ·rw [if_neg (by simpa using hc)]
  exact ⟨_,rfl,by omega,by omega⟩
end Go.Vs
end
section
namespace Go.Vs
local instance tabPalLex3:Tab:=⟨fun _=>none⟩
def zbk(p0:Int):Bool:=(((decide (p0≥97)&&decide (p0<=122))||(decide (p0≥65)&&decide (p0<=90)))||(p0==95))||(decide (p0≥161)&&decide (p0<=1114111))
def zcb(p0:Int):Bool:=decide (p0≥48)&&decide (p0<=57)
def zbU(p0:Int):Bool:=(p0==32)||(p0==9)
def zdJ(p0:Int):Bool:=(((p0==44)||(p0==91))||(p0==93))||(p0==58)
theorem zgK(r:Int):zbq r=some (zbk r):=rfl
theorem zgm(r:Int):za5 r=some (zbk r):=rfl
theorem zhK(r:Int):zbJ r=some (zcb r):=rfl
theorem zhF(r:Int):zbs r=some (zcb r):=rfl
theorem ziP(r:Int):zbZ r=some (zbU r):=rfl
theorem ziA(r:Int):zb1 r=some (zbU r):=rfl
theorem zc0{v:List zab}{i:Int}(h:InB i v.length):rd (v.map toR) i=toR (rd v i):=by
 obtain ⟨h0,h1⟩:=h
 rw [rd,rd,List.getD_eq_getElem?_getD,List.getD_eq_getElem?_getD,List.getElem?_map,List.getElem?_eq_getElem h1]; rfl
def wordAt(v:List zab)(i:Int):Bool:=(decide (i<(v.length:Int))&&!(rd v i).Bad)&&(zbk (rd v i).Rune||zcb (rd v i).Rune)
theorem zck{i:Int}{n:Nat}(h0:0<=i)(h:decide (i<(n:Int))=true):InB i n:=⟨h0,by have:=of_decide_eq_true h; omega⟩
theorem zeg{v:List zab}{i:Int}(h0:0<=i)(h1:i<=1000000):zbA v i=some (if wordAt v i=true then .inl (i+1) else .inr i):=by
 have e1:IntKind.wrap .i64 (i+1)=i+1:=zaR ⟨by omega,by omega⟩
 rw [zbA,if_pos (zck h0),if_pos (fun h=>zck h0 (by simp only [Bool.and_eq_true] at h; exact h.1)),e1,wordAt]
 cases hA:(decide (i<(v.length:Int))&&!(rd v i).Bad) with
 | false=>simp
 | true =>
  have hin:InB i v.length:=zck h0 (by simp only [Bool.and_eq_true] at hA; exact hA.1)
  simp only [if_true,zgK,Option.bind_some,Bool.true_and]
  rw [if_pos (fun _=>hin)]
  cases hl:zbk (rd v i).Rune <;> (try simp [zhK]) <;> (try (split <;> rfl))
theorem zdm{v:List zab}{i:Int}(h0:0<=i)(h1:i<=1000000):zaK (v.map toR) i=some (if wordAt v i=true then .inl (i+1) else .inr i):=by
 have e1:IntKind.wrap .i64 (i+1)=i+1:=zaR ⟨by omega,by omega⟩
 have el:(v.map toR).length=v.length:=by simp
 rw [zaK,el,if_pos (zck h0),if_pos (fun h=>zck h0 (by simp only [Bool.and_eq_true] at h; exact h.1)),e1,wordAt]
 cases hd:decide (i<(v.length:Int)) with
 | false=>simp
 | true =>
  have hin:InB i v.length:=zck h0 hd
  rw [zc0 hin]
  have eb:(toR (rd v i)).Bad=(rd v i).Bad:=rfl
  have er:(toR (rd v i)).Rune=(rd v i).Rune:=rfl
  rw [eb,er]
  cases hb:(rd v i).Bad with
  | true=>simp
  | false =>
   simp only [Bool.not_false,Bool.and_true,if_true,zgm,Option.bind_some,Bool.true_and]
   rw [if_pos (fun _=>hin)]
   cases hl:zbk (rd v i).Rune <;> (try simp [zhF]) <;> (try (split <;> rfl))
def runC(v:List zab):Nat->Int->Int
 | 0,i=>i
 | n+1,i=>if wordAt v i=true then runC v n (i+1) else i
theorem zc8(v:List zab)(hv:v.length<=1000000):∀(n:Nat) (i:Int),0<=i->i<=v.length->v.length-i.toNat<=n ->
  ∃k,k=runC v n i/\za9 (zbA v) i=some k/\za9 (zaK (v.map toR)) i=some k/\i<=k/\k<=v.length:=by
 intro n
 induction n with
 | zero =>
  intro i h0 h1 hn
  have hw:wordAt v i=false:=by
   have:decide (i<(v.length:Int))=false:=decide_eq_false (by omega)
   rw [wordAt,this]; rfl
  refine ⟨i,rfl,zaq ?_,zaq ?_,Int.le_refl _,h1⟩
  ·rw [zeg h0 (by omega),hw]; rfl
  ·rw [zdm h0 (by omega),hw]; rfl
 | succ n ih =>
  intro i h0 h1 hn
  cases hw:wordAt v i with
  | false =>
   refine ⟨i,by rw [runC,hw]; rfl,zaq ?_,zaq ?_,Int.le_refl _,h1⟩
   ·rw [zeg h0 (by omega),hw]; rfl
   ·rw [zdm h0 (by omega),hw]; rfl
  | true =>
   have hlt:i<(v.length:Int):=by
    simp only [wordAt,Bool.and_eq_true,decide_eq_true_eq] at hw; exact hw.1.1
   obtain ⟨k,e,a,b,c,d⟩:=ih (i+1) (by omega) (by omega) (by omega)
   refine ⟨k,by rw [runC,hw]; exact e,?_,?_,by omega,d⟩
   ·rw [za1 (by rw [zeg h0 (by omega),hw]; rfl)]; exact a
   ·rw [za1 (by rw [zdm h0 (by omega),hw]; rfl)]; exact b
def zbx(v:List zab)(i:Int):Int ⊕ (Int ⊕ ((List zaa) × zag)) :=
 if (decide (i<(v.length:Int))&&((rd v i).Rune != 10))=true then (if (rd v i).Bad=true then .inr (.inr ([],⟨1,(rd v i).Line,(rd v i).Col⟩)) else .inl (i+1)) else .inr (.inl i)
theorem zda{v:List zab}{i:Int}(h0:0<=i)(h1:i<=1000000):zaS v i=some (zbx v i):=by
 have e1:IntKind.wrap .i64 (i+1)=i+1:=zaR ⟨by omega,by omega⟩
 rw [zaS,if_pos (zck h0),e1,zbx]
 by_cases hA:(decide (i<(v.length:Int))&&((rd v i).Rune != 10))=true
 ·have hin:InB i v.length:=zck h0 (by simp only [Bool.and_eq_true] at hA; exact hA.1)
  rw [if_pos hA,if_pos hA,if_pos hin]
  by_cases hb:(rd v i).Bad=true
  ·rw [if_pos hb,if_pos hb,if_pos hin]; rfl
  ·rw [if_neg hb,if_neg hb]
 ·rw [if_neg hA,if_neg hA]
theorem zdq{v:List zab}{i:Int}(h0:0<=i)(h1:i<=1000000):zaL (v.map toR) i=some (zbx v i):=by
 have e1:IntKind.wrap .i64 (i+1)=i+1:=zaR ⟨by omega,by omega⟩
 have el:(v.map toR).length=v.length:=by simp
 rw [zaL,el,if_pos (zck h0),e1,zbx]
 by_cases hd:decide (i<(v.length:Int))=true
 ·have hin:InB i v.length:=zck h0 hd
  rw [zc0 hin,hd]
  have er:(toR (rd v i)).Rune=(rd v i).Rune:=rfl
  have eb:(toR (rd v i)).Bad=(rd v i).Bad:=rfl
  rw [er,eb,if_pos hin,if_pos hin,if_pos hin]
  simp only [Bool.true_and]
  split
  ·split <;> rfl
  ·rfl
 ·simp only [Bool.not_eq_true] at hd
  rw [hd]; simp
def remC(v:List zab):Nat->Int->Int ⊕ ((List zaa) × zag)
 | 0,i=>.inl i
 | n+1,i=>match zbx v i with | .inl j=>remC v n j | .inr r=>r
theorem zdb(v:List zab)(hv:v.length<=1000000):∀(n:Nat) (i:Int),0<=i->i<=v.length->v.length-i.toNat<=n ->
  ∃r,r=remC v n i/\za9 (zaS v) i=some r/\za9 (zaL (v.map toR)) i=some r/\∀k,r=.inl k->i<=k/\k<=v.length:=by
 intro n
 induction n with
 | zero =>
  intro i h0 h1 hn
  have hw:zbx v i=.inr (.inl i):=by
   have:decide (i<(v.length:Int))=false:=decide_eq_false (by omega)
   rw [zbx,this]; rfl
  refine ⟨.inl i,rfl,zaq ?_,zaq ?_,fun k e=>?_⟩
  ·rw [zda h0 (by omega),hw]
  ·rw [zdq h0 (by omega),hw]
  ·injection e with e; omega
 | succ n ih =>
  intro i h0 h1 hn
  cases hw:zbx v i with
  | inr r =>
   refine ⟨r,by rw [remC,hw],zaq ?_,zaq ?_,fun k e=>?_⟩
   ·rw [zda h0 (by omega),hw]
   ·rw [zdq h0 (by omega),hw]
   ·subst e
    unfold zbx at hw
    split at hw
    ·split at hw
     ·injection hw with hw; cases hw
     ·cases hw
    ·injection hw with hw; injection hw with hw; omega
  | inl j =>
   have hj:j=i+1/\i<(v.length:Int):=by
    unfold zbx at hw
    split at hw
    ·rename_i hc
     simp only [Bool.and_eq_true,decide_eq_true_eq] at hc
     split at hw
     ·cases hw
     ·injection hw with hw; exact ⟨hw.symm,hc.1⟩
    ·cases hw
   obtain ⟨rfl,hlt⟩:=hj
   obtain ⟨r,er,a,b,c⟩:=ih (i+1) (by omega) (by omega) (by omega)
   refine ⟨r,by rw [remC,hw]; exact er,?_,?_,fun k e=>?_⟩
   ·rw [za1 (by rw [zda h0 (by omega),hw])]; exact a
   ·rw [za1 (by rw [zdq h0 (by omega),hw])]; exact b
   ·have:=c k e; omega
theorem zg4{kind L C n:Int}{t:ByteArray}(hkind:kind=1\/kind=2\/kind=3\/kind=4)(ht:t.size<=281474976710656) :
  zbH (zaa.mk kind L C t) n=some (if kind=1/\n>16 then 3 else if kind=2/\(zbY t).2=false then 2 else 0):=by
 rw [zbH]
 show (if ((kind==1)&&decide (n>16))=true then some 3 else if (kind==2)=true then ((zcd t).bind fun v4=>if (!v4.2)=true then some 2 else some 0) else some 0)=_
 rw [zgv ht]
 simp only [Option.bind_some,Bool.and_eq_true,beq_iff_eq,decide_eq_true_eq,Bool.not_eq_true']
 by_cases p1:kind=1/\n>16
 ·rw [if_pos p1,if_pos p1]
 ·rw [if_neg p1,if_neg p1]
  by_cases p2:kind=2
  ·rw [if_pos p2]
   by_cases p3:(zbY t).2=false
   ·rw [if_pos p3,if_pos ⟨p2,p3⟩]
   ·rw [if_neg p3,if_neg (fun h=>p3 h.2)]
  ·rw [if_neg p2,if_neg (fun h=>p2 h.1)]
structure Good (s:ByteArray) (v:List zab):Prop where
 sm:Sm s
 len:v.length<=s.size
 at0:∀i,InB i v.length->0<=(rd v i).At/\1<=(rd v i).Size/\(rd v i).At+(rd v i).Size<=s.size
 le:∀i j,InB i v.length->InB j v.length->i<=j->(rd v i).At<=(rd v j).At
theorem zgl{v:List zab}{i:Int}(h:InB i v.length):rd v i=v[i.toNat]'h.2:=by
 rw [rd,List.getD_eq_getElem?_getD,List.getElem?_eq_getElem h.2]; rfl
theorem zce(s:ByteArray)(hs:Sm s):Good s (zaT s):=by
 refine ⟨hs,by have:=zfJ s s.size 0 1 1; unfold zaT; omega,fun i h=>?_,fun i j hi hj hij=>?_⟩
 ·rw [zgl h]
  obtain ⟨a,b,c,_⟩:=zcQ s _ _ _ _ _ (List.getElem_mem h.2)
  exact ⟨by simpa using a,b,c⟩
 ·rw [zgl hi,zgl hj]
  by_cases e:i=j
  ·subst e; exact Int.le_refl _
  ·have:=hi.1
   exact List.pairwise_iff_getElem.1 (zed s _ _ _ _) i.toNat j.toNat hi.2 hj.2 (by omega)
def tail(v:List zab)(s:ByteArray)(i:Int)(l:List zaa)(k kind:Int):(Int × List zaa) ⊕ (List zaa ⊕ ((List zaa) × zag)) :=
 let t:=s.extract (rd v i).At.toNat ((rd v (k-1)).At+(rd v (k-1)).Size).toNat
 if kind=1/\k-i>16 then .inr (.inr ([],⟨3,(rd v i).Line,(rd v i).Col⟩))
 else if kind=2/\(zbY t).2=false then .inr (.inr ([],⟨2,(rd v i).Line,(rd v i).Col⟩))
 else .inl (k,l++[⟨kind,(rd v i).Line,(rd v i).Col,t⟩])
section
variable {s:ByteArray} {v:List zab} (g:Good s v) {i k:Int} {l:List zaa} (hi:InB i v.length) (hk:i<k) (hkn:k<=v.length) (hl:l.length<=1000000)
include g hi hk hkn hl
theorem zfx:IntKind.wrap .i64 (k-1)=k-1/\InB (k-1) v.length/\IntKind.wrap .i64 (k-i)=k-i/\IntKind.wrap .i64 ((rd v (k-1)).At+(rd v (k-1)).Size)=(rd v (k-1)).At+(rd v (k-1)).Size /\
  Bnd ((rd v (k-1)).At+(rd v (k-1)).Size) s.size/\Bnd (rd v i).At (((rd v (k-1)).At+(rd v (k-1)).Size).toNat):=by
 have hsm:=g.sm
 unfold Sm at hsm
 have hlen:=g.len
 obtain ⟨hi0,hi1⟩:=hi
 have hin:InB (k-1) v.length:=⟨by omega,by omega⟩
 obtain ⟨a1,a2,a3⟩:=g.at0 _ hin
 obtain ⟨b1,b2,b3⟩:=g.at0 _ ⟨hi0,hi1⟩
 have hle:=g.le i (k-1) ⟨hi0,hi1⟩ hin (by omega)
 exact ⟨zaR ⟨by omega,by omega⟩,hin,zaR ⟨by omega,by omega⟩,zaR ⟨by omega,by omega⟩,⟨by omega,by omega⟩,⟨by omega,by omega⟩⟩
theorem zhl(kind:Int)(hkind:kind=1\/kind=2\/kind=3\/kind=4) :
  (if InB (IntKind.wrap .i64 (k-1)) v.length then (if InB (IntKind.wrap .i64 (k-1)) v.length then (if Bnd (IntKind.wrap .i64 ((rd v (IntKind.wrap .i64 (k-1))).At+(rd v (IntKind.wrap .i64 (k-1))).Size)) s.size then (if Bnd ((rd v i).At) ((IntKind.wrap .i64 ((rd v (IntKind.wrap .i64 (k-1))).At+(rd v (IntKind.wrap .i64 (k-1))).Size)).toNat) then ((some (s.extract (((rd v i).At).toNat) ((IntKind.wrap .i64 ((rd v (IntKind.wrap .i64 (k-1))).At+(rd v (IntKind.wrap .i64 (k-1))).Size)).toNat))).bind fun s222 =>
            (zbH (zaa.mk kind ((rd v i).Line) ((rd v i).Col) s222) (IntKind.wrap .i64 (k-i))).bind fun v224 =>
            if (v224 != 0)=true then ((zbj v224 (rd v i)).bind fun v227 =>
        some (.inr (.inr ([],v227)))) else (if Fits (l.length+1) then ((some (l++([(zaa.mk kind ((rd v i).Line) ((rd v i).Col) s222)]))).bind fun l230 =>
        some (.inl (k,l230))) else none)) else none) else none) else none) else none)=some (tail v s i l k kind):=by
 obtain ⟨e1,hin,e2,e3,b1,b2⟩:=zfx g hi hk hkn hl
 rw [e1,if_pos hin,if_pos hin,e3,if_pos b1,if_pos b2,e2]
 simp only [Option.bind_some,tail]
 generalize ht:s.extract (rd v i).At.toNat ((rd v (k-1)).At+(rd v (k-1)).Size).toNat=t
 have hts:t.size<=1000000:=by
  have:=g.sm
  unfold Sm at this
  rw [← ht,ByteArray.size_extract]; omega
 have hf:Fits (l.length+1):=by unfold Fits; omega
 rw [zg4 hkind (by omega)]
 simp only [Option.bind_some,hf,if_true]
 by_cases p1:kind=1/\k-i>16
 ·rw [if_pos p1,if_pos p1]; rfl
 ·rw [if_neg p1,if_neg p1]
  by_cases p2:kind=2/\(zbY t).2=false
  ·rw [if_pos p2,if_pos p2]; rfl
  ·rw [if_neg p2,if_neg p2]; rfl
theorem zhb(kind:Int)(hkind:kind=1\/kind=2\/kind=3\/kind=4):zaj (v.map toR) s i l k kind=some (tail v s i l k kind):=by
 obtain ⟨e1,hin,e2,e3,b1,b2⟩:=zfx g hi hk hkn hl
 have el:(v.map toR).length=v.length:=by simp
 rw [zaj,e1,el,zc0 hin,zc0 hi]
 have q1:(toR (rd v (k-1))).At=(rd v (k-1)).At:=rfl
 have q2:(toR (rd v (k-1))).Size=(rd v (k-1)).Size:=rfl
 have q3:(toR (rd v i)).At=(rd v i).At:=rfl
 have q4:(toR (rd v i)).Line=(rd v i).Line:=rfl
 have q5:(toR (rd v i)).Col=(rd v i).Col:=rfl
 rw [q1,q2,q3,q4,q5,if_pos hin,if_pos hin,e3,if_pos b1,if_pos b2,e2]
 simp only [Option.bind_some,tail]
 generalize ht:s.extract (rd v i).At.toNat ((rd v (k-1)).At+(rd v (k-1)).Size).toNat=t
 have hts:t.size<=1000000:=by
  have:=g.sm
  unfold Sm at this
  rw [← ht,ByteArray.size_extract]; omega
 have hf:Fits (l.length+1):=by unfold Fits; omega
 have hj2:zay kind l (v.map toR) i t k=some (.inl (k,l++[⟨kind,(rd v i).Line,(rd v i).Col,t⟩])):=by
  rw [zay,zc0 hi,if_pos (by rcases hkind with rfl | rfl | rfl | rfl <;> rfl),if_pos hf]; rfl
 rw [hj2,zcB t (by omega)]
 simp only [Option.bind_some,e2,Bool.and_eq_true,beq_iff_eq,decide_eq_true_eq,Bool.not_eq_true']
 by_cases p1:kind=1/\k-i>16
 ·rw [if_pos p1,if_pos p1]
 ·rw [if_neg p1,if_neg p1]
  by_cases p2:kind=2
  ·rw [if_pos p2]
   by_cases p3:(zbY t).2=false
   ·rw [if_pos p3,if_pos ⟨p2,p3⟩]
   ·rw [if_neg p3,if_neg (fun h=>p3 h.2)]
  ·rw [if_neg p2,if_neg (fun h=>p2 h.1)]
theorem zhd:zaj (v.map toR) s i l k 0=some (.inl (k,l)):=by
 obtain ⟨e1,hin,e2,e3,b1,b2⟩:=zfx g hi hk hkn hl
 have el:(v.map toR).length=v.length:=by simp
 rw [zaj,e1,el,zc0 hin,zc0 hi]
 have q1:(toR (rd v (k-1))).At=(rd v (k-1)).At:=rfl
 have q2:(toR (rd v (k-1))).Size=(rd v (k-1)).Size:=rfl
 have q3:(toR (rd v i)).At=(rd v i).At:=rfl
 rw [q1,q2,q3,if_pos hin,if_pos hin,e3,if_pos b1,if_pos b2]
 simp only [Option.bind_some]
 rw [if_neg (by simp),if_neg (by decide),zay,if_neg (by simp)]; rfl
end
end Go.Vs
end
section
namespace Go.Vs
local instance tabPalLex4:Tab:=⟨fun _=>none⟩
def zbw(v:List zab)(s:ByteArray)(i:Int)(l:List zaa):(Int × List zaa) ⊕ (List zaa ⊕ ((List zaa) × zag)) :=
 if (rd v i).Bad=true then .inr (.inr ([],⟨1,(rd v i).Line,(rd v i).Col⟩))
 else if zbU (rd v i).Rune=true then .inl (i+1,l)
 else if (rd v i).Rune=59 then (match remC v v.length (i+1) with | .inl k=>.inl (k,l) | .inr q=>.inr (.inr q))
 else if (rd v i).Rune=10 then tail v s i l (i+1) 4
 else if zdJ (rd v i).Rune=true then tail v s i l (i+1) 3
 else if zbk (rd v i).Rune=true then tail v s i l (runC v v.length (i+1)) 1
 else if (zcb (rd v i).Rune||((rd v i).Rune==45))=true then tail v s i l (runC v v.length (i+1)) 2
 else .inr (.inr ([],⟨1,(rd v i).Line,(rd v i).Col⟩))
section
variable {s:ByteArray} {v:List zab} (g:Good s v) {i:Int} {l:List zaa} (hi:InB i v.length) (hl:l.length<=1000000)
include g hi hl
theorem zfD:0<=i/\i<v.length/\v.length<=1000000:=by
 have h1:=g.sm; have h2:=g.len; unfold Sm at h1
 obtain ⟨a,b⟩:=hi
 exact ⟨a,by omega,by omega⟩
theorem zhm:zaI v s (i,l)=some (zbw v s i l):=by
 obtain ⟨h0,h1,hv⟩:=zfD g hi hl
 have e1:IntKind.wrap .i64 (i+1)=i+1:=zaR ⟨by omega,by omega⟩
 have hd:decide (i<(v.length:Int))=true:=decide_eq_true h1
 obtain ⟨k,ek,lk,_,k1,k2⟩:=zc8 v hv v.length (i+1) (by omega) (by omega) (by omega)
 obtain ⟨r,er,lr,_,r1⟩:=zdb v hv v.length (i+1) (by omega) (by omega) (by omega)
 rw [zaI,if_pos hd,if_pos hi,ziP,e1]
 simp only [Option.bind_some]
 unfold zbw
 by_cases c1:(rd v i).Bad=true
 ·rw [if_pos c1,if_pos c1]; rfl
 rw [if_neg c1,if_neg c1]
 by_cases c2:zbU (rd v i).Rune=true
 ·rw [if_pos c2,if_pos c2]
 rw [if_neg c2,if_neg c2]
 by_cases c3:(rd v i).Rune=59
 ·rw [if_pos (by simpa using c3),if_pos c3]
  have hst:zaS v i=some (.inl (i+1)):=by
   rw [zda h0 (by omega),zbx,hd,if_pos (by rw [c3]; rfl),if_neg c1]
  rw [za1 hst,lr,← er]
  simp only [Option.bind_some]
  cases r <;> rfl
 rw [if_neg (by simpa using c3),if_neg c3]
 have hrun:∀kk kind:Int,i<kk->kk<=v.length->(kind=1\/kind=2\/kind=3\/kind=4)->zcs v i=some (kk,kind) ->
   ((zcs v i).bind fun v213 =>
      if (v213.2==0)=true then ((zbj 1 (rd v i)).bind fun v216 =>
       some (.inr (.inr ([],v216)))) else (if InB (IntKind.wrap .i64 (v213.1-1)) v.length then (if InB (IntKind.wrap .i64 (v213.1-1)) v.length then (if Bnd (IntKind.wrap .i64 ((rd v (IntKind.wrap .i64 (v213.1-1))).At+(rd v (IntKind.wrap .i64 (v213.1-1))).Size)) s.size then (if Bnd ((rd v i).At) ((IntKind.wrap .i64 ((rd v (IntKind.wrap .i64 (v213.1-1))).At+(rd v (IntKind.wrap .i64 (v213.1-1))).Size)).toNat) then ((some (s.extract (((rd v i).At).toNat) ((IntKind.wrap .i64 ((rd v (IntKind.wrap .i64 (v213.1-1))).At+(rd v (IntKind.wrap .i64 (v213.1-1))).Size)).toNat))).bind fun s222 =>
       (zbH (zaa.mk v213.2 ((rd v i).Line) ((rd v i).Col) s222) (IntKind.wrap .i64 (v213.1-i))).bind fun v224 =>
       if (v224 != 0)=true then ((zbj v224 (rd v i)).bind fun v227 =>
        some (.inr (.inr ([],v227)))) else (if Fits (l.length+1) then ((some (l++([(zaa.mk v213.2 ((rd v i).Line) ((rd v i).Col) s222)]))).bind fun l230 =>
        some (.inl (v213.1,l230))) else none)) else none) else none) else none) else none):Option ((Int × List zaa) ⊕ (List zaa ⊕ ((List zaa) × zag))))=some (tail v s i l kk kind):=by
  intro kk kind h2 h3 h4 h5
  rw [h5,Option.bind_some,if_neg (by rcases h4 with rfl | rfl | rfl | rfl <;> simp)]
  exact zhl g hi h2 h3 hl kind h4
 have hj:∀kind:Int,zbB v i kind=some (runC v v.length (i+1),kind):=by
  intro kind
  rw [zbB,e1,lk,← ek]; rfl
 have hR:zcs v i=if (rd v i).Rune=10 then some (i+1,4) else if zdJ (rd v i).Rune=true then some (i+1,3) else if zbk (rd v i).Rune=true then some (runC v v.length (i+1),1)
   else if (zcb (rd v i).Rune||((rd v i).Rune==45))=true then some (runC v v.length (i+1),2) else some (i,0):=by
  rw [zcs,if_pos hi,e1,zgK,zhK,hj,hj]
  simp only [Option.bind_some,beq_iff_eq]
  rfl
 rw [← ek] at hR
 by_cases c4:(rd v i).Rune=10
 ·rw [if_pos c4]; exact hrun _ _ (by omega) (by omega) (by omega) (by rw [hR,if_pos c4])
 by_cases c5:zdJ (rd v i).Rune=true
 ·rw [if_neg c4,if_pos c5]; exact hrun _ _ (by omega) (by omega) (by omega) (by rw [hR,if_neg c4,if_pos c5])
 by_cases c6:zbk (rd v i).Rune=true
 ·rw [if_neg c4,if_neg c5,if_pos c6,← ek]; exact hrun _ _ (by omega) (by omega) (by omega) (by rw [hR,if_neg c4,if_neg c5,if_pos c6])
 by_cases c7:(zcb (rd v i).Rune||((rd v i).Rune==45))=true
 ·rw [if_neg c4,if_neg c5,if_neg c6,if_pos c7,← ek]; exact hrun _ _ (by omega) (by omega) (by omega) (by rw [hR,if_neg c4,if_neg c5,if_neg c6,if_pos c7])
 ·rw [hR,if_neg c4,if_neg c5,if_neg c6,if_neg c7,if_neg c4,if_neg c5,if_neg c6,if_neg c7]; rfl
theorem zhc:zax (v.map toR) s (i,l)=some (zbw v s i l):=by
 obtain ⟨h0,h1,hv⟩:=zfD g hi hl
 have e1:IntKind.wrap .i64 (i+1)=i+1:=zaR ⟨by omega,by omega⟩
 have hd:decide (i<(v.length:Int))=true:=decide_eq_true h1
 have el:(v.map toR).length=v.length:=by simp
 obtain ⟨k,ek,_,lk,k1,k2⟩:=zc8 v hv v.length (i+1) (by omega) (by omega) (by omega)
 obtain ⟨r,er,_,lr,r1⟩:=zdb v hv v.length (i+1) (by omega) (by omega) (by omega)
 have hsk:=fun kk h2 h3=>zhd g hi (k:=kk) h2 h3 hl
 have hT:=fun kk h2 h3=>zhb g hi (k:=kk) h2 h3 hl
 rw [zax,el,if_pos hd,if_pos hi,zc0 hi,ziA,e1]
 have q1:(toR (rd v i)).Rune=(rd v i).Rune:=rfl
 have q2:(toR (rd v i)).Bad=(rd v i).Bad:=rfl
 have q4:(toR (rd v i)).Line=(rd v i).Line:=rfl
 have q5:(toR (rd v i)).Col=(rd v i).Col:=rfl
 rw [q1,q2,q4,q5]
 simp only [Option.bind_some]
 unfold zbw
 by_cases c1:(rd v i).Bad=true
 ·rw [if_pos c1,if_pos c1]
 rw [if_neg c1,if_neg c1]
 by_cases c2:zbU (rd v i).Rune=true
 ·rw [if_pos c2,if_pos c2]; exact hsk _ (by omega) (by omega)
 rw [if_neg c2,if_neg c2]
 by_cases c3:(rd v i).Rune=59
 ·rw [if_pos (by simpa using c3),if_pos c3,lr,← er]
  simp only [Option.bind_some]
  cases r with
  | inl k =>
   have:=r1 k rfl
   exact hsk _ (by omega) (by omega)
  | inr q=>rfl
 rw [if_neg (by simpa using c3),if_neg c3]
 by_cases c4:(rd v i).Rune=10
 ·rw [if_pos (by simpa using c4),if_pos c4]; exact hT _ (by omega) (by omega) 4 (by omega)
 rw [if_neg (by simpa using c4),if_neg c4]
 show (if zdJ (rd v i).Rune=true then _ else _)=_
 by_cases c5:zdJ (rd v i).Rune=true
 ·rw [if_pos c5,if_pos c5]; exact hT _ (by omega) (by omega) 3 (by omega)
 rw [if_neg c5,if_neg c5,zgm,zhF]
 simp only [Option.bind_some]
 by_cases c6:zbk (rd v i).Rune=true
 ·rw [if_pos c6,c6]
  simp only [Bool.not_true,Bool.false_eq_true,if_false,Option.bind_some,Bool.true_or,if_true]
  rw [lk,← ek]
  exact hT _ (by omega) (by omega) 1 (by omega)
 ·rw [if_neg c6]
  simp only [Bool.not_eq_true] at c6
  rw [c6]
  simp only [Bool.not_false,if_true,Option.bind_some,Bool.false_or]
  by_cases c7:(zcb (rd v i).Rune||((rd v i).Rune==45))=true
  ·rw [if_pos c7,if_pos c7,lk,← ek]
   exact hT _ (by omega) (by omega) 2 (by omega)
  ·rw [if_neg c7,if_neg c7]
theorem zfj{k:Int}{l':List zaa}(h:zbw v s i l=.inl (k,l')):i<k/\k<=v.length/\l'.length<=l.length+1:=by
 obtain ⟨h0,h1,hv⟩:=zfD g hi hl
 obtain ⟨kk,ek,_,_,k1,k2⟩:=zc8 v hv v.length (i+1) (by omega) (by omega) (by omega)
 obtain ⟨r,er,_,_,r1⟩:=zdb v hv v.length (i+1) (by omega) (by omega) (by omega)
 have ht:∀a kind,tail v s i l a kind=.inl (k,l')->k=a/\l'.length<=l.length+1:=by
  intro a kind h
  unfold tail at h
  dsimp only at h
  split at h
  ·cases h
  ·split at h
   ·cases h
   ·injection h with h
    injection h with h3 h4
    exact ⟨h3.symm,by rw [← h4]; simp⟩
 unfold zbw at h
 rw [← er,← ek] at h
 repeat' split at h
 all_goals first
  | (cases h; done)
  | (obtain ⟨rfl,h5⟩:=ht _ _ h; exact ⟨by omega,by omega,h5⟩)
  | (injection h with h; injection h with h3 h4; subst h3; subst h4; first | exact ⟨by omega,by omega,by omega⟩ | (have:=r1 _ rfl; exact ⟨by omega,by omega,by omega⟩))
end
def tokC(v:List zab)(s:ByteArray):Nat->Int->List zaa->List zaa ⊕ ((List zaa) × zag)
 | 0,_,l=>.inl l
 | n+1,i,l=>if i<v.length then (match zbw v s i l with | .inl (k,l')=>tokC v s n k l' | .inr r=>r) else .inl l
theorem zfl{s:ByteArray}{v:List zab}(g:Good s v):∀(n:Nat) (i:Int) (l:List zaa),0<=i->i<=v.length->v.length-i.toNat<=n->l.length<=i.toNat ->
  za9 (zaI v s) (i,l)=some (tokC v s n i l)/\za9 (zax (v.map toR) s) (i,l)=some (tokC v s n i l)/\∀l',tokC v s n i l=.inl l'->l'.length<=v.length:=by
 have h1:=g.sm
 have h2:=g.len
 unfold Sm at h1
 have el:(v.map toR).length=v.length:=by simp
 have stop:∀(i:Int) (l:List zaa),¬i<v.length->za9 (zaI v s) (i,l)=some (.inl l)/\za9 (zax (v.map toR) s) (i,l)=some (.inl l):=fun i l h =>
  ⟨zaq (by rw [zaI,if_neg (by simpa using h)]),zaq (by rw [zax,el,if_neg (by simpa using h)])⟩
 intro n
 induction n with
 | zero =>
  intro i l h0 hv hn hl
  rw [tokC]
  exact ⟨(stop i l (by omega)).1,(stop i l (by omega)).2,fun l' e=>by injection e with e; subst e; omega⟩
 | succ n ih =>
  intro i l h0 hv hn hl
  rw [tokC]
  by_cases hlt:i<v.length
  ·rw [if_pos hlt]
   have hin:InB i v.length:=⟨h0,by omega⟩
   have a:=zhm g hin (l:=l) (by omega)
   have b:=zhc g hin (l:=l) (by omega)
   cases ht:zbw v s i l with
   | inl q =>
    obtain ⟨k,l'⟩:=q
    obtain ⟨n1,n2,n3⟩:=zfj g hin (by omega) ht
    obtain ⟨x,y,z⟩:=ih k l' (by omega) n2 (by omega) (by omega)
    exact ⟨(za1 (a.trans (by rw [ht]))).trans x,(za1 (b.trans (by rw [ht]))).trans y,z⟩
   | inr r =>
    refine ⟨zaq (a.trans (by rw [ht])),zaq (b.trans (by rw [ht])),fun l' e=>?_⟩
    dsimp only at e
    subst e
    exfalso
    unfold zbw tail at ht
    dsimp only at ht
    repeat' split at ht
    all_goals first | cases ht | (injection ht with ht; cases ht)
  ·rw [if_neg hlt]
   exact ⟨(stop i l hlt).1,(stop i l hlt).2,fun l' e=>by injection e with e; subst e; omega⟩
def zaN(s:ByteArray):(List zaa) × zag:=match tokC (zaT s) s (zaT s).length 0 [] with
 | .inl l=>(l++[⟨4,(zdQ (zaT s)).1,(zdQ (zaT s)).2,⟨#[]⟩⟩],⟨0,0,0⟩)
 | .inr q=>q
theorem zbz(s:ByteArray)(hs:Sm s):zbd s=some (zaN s):=by
 have hs':=hs
 unfold Sm at hs'
 have g:=zce s hs
 have hg:=g.len
 obtain ⟨a,b,c⟩:=zfl g (zaT s).length 0 [] (by omega) (by omega) (by omega) (by simp)
 rw [zbd,zdO s hs,Option.bind_some,a,zeL s hs]
 simp only [Option.bind_some,zaN]
 cases h:tokC (zaT s) s (zaT s).length 0 [] with
 | inl l =>
  have:=c l h
  simp only [zdu]
  rw [if_pos (show Fits _ by unfold Fits; omega)]
 | inr q=>rfl
end Go.Vs
end
