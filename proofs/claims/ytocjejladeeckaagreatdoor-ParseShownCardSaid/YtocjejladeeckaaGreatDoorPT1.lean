import Derived.Test.YtocjejladeeckaaGreatDoorPalC
import Derived.Test.YtocjejladeeckaaGreatDoorPalRead
import Derived.Test.YtocjejladeeckaaGreatDoorPalUtf
import Derived.Lib.DecodeN
import Derived.Test.YtocjejladeeckaaGreatDoorPalL
set_option linter.all false
section
namespace Go.Vs
local instance tabPalLex:Tab:=⟨fun _=>none⟩
def Sm(s:ByteArray):Prop:=s.size<=1000000
theorem zpA{n b0 b1 b2 b3:Nat}(hn:0<n):1<=(Lib.decodeN n b0 b1 b2 b3).2/\(Lib.decodeN n b0 b1 b2 b3).2<=n:=by
 unfold Lib.decodeN
 repeat' split
 all_goals dsimp only
 all_goals omega
theorem zsp{n b0 b1 b2 b3:Nat}(h:(Lib.decodeN n b0 b1 b2 b3).1≠65533):Lib.runeLen ((Lib.decodeN n b0 b1 b2 b3).1:Int)=((Lib.decodeN n b0 b1 b2 b3).2:Int):=by
 revert h
 unfold Lib.decodeN
 repeat' split
 all_goals dsimp only
 all_goals intro h
 all_goals (try (exact absurd rfl h))
 all_goals (unfold Lib.runeLen; repeat' split)
 all_goals omega
theorem zo2(s:ByteArray)(pos:Nat)(h:pos<s.size):1<=(Utf8.decode s pos).2/\pos+(Utf8.decode s pos).2<=s.size:=by
 rw [Lib.decode_at]
 have:=zpA (n:=s.size-pos) (b0:=(s.get! pos).toNat) (b1:=(s.get! (pos+1)).toNat) (b2:=(s.get! (pos+2)).toNat) (b3:=(s.get! (pos+3)).toNat) (by omega)
 omega
theorem zpe(s:ByteArray)(pos:Nat)(h:(Utf8.decode s pos).1≠65533):Lib.runeLen ((Utf8.decode s pos).1:Int)=((Utf8.decode s pos).2:Int):=by
 rw [Lib.decode_at] at h ⊢; exact zsp h
def zbF(s:ByteArray):Nat->Nat->Int->Int->List zal
 | 0,_,_,_=>[]
 | f+1,pos,line,col=>if pos<s.size then
   { Rune:=((Utf8.decode s pos).1:Int),At:=(pos:Int),Size:=((Utf8.decode s pos).2:Int),Line:=line,Col:=col,Bad:=(Utf8.decode s pos).1==65533&&(Utf8.decode s pos).2==1 } ::
    zbF s f (pos+(Utf8.decode s pos).2) (if (Utf8.decode s pos).1=10 then line+1 else line) (if (Utf8.decode s pos).1=10 then 1 else col+1)
  else []
def zaX(s:ByteArray):List zal:=zbF s s.size 0 1 1
theorem zpX{line col:Int}{r:Nat}(h1:0<=line/\line<=2000000)(h2:0<=col/\col<=2000000):zfc line col (r:Int)=some ((if r=10 then line+1 else line),(if r=10 then 1 else col+1)):=by
 rw [zfc]
 have e1:IntKind.wrap .i64 (line+1)=line+1:=zbG ⟨by omega,by omega⟩
 have e2:IntKind.wrap .i64 (col+1)=col+1:=zbG ⟨by omega,by omega⟩
 rw [e1,e2]
 by_cases h:r=10
 ·subst h; rfl
 ·have:¬(((r:Int)==10)=true):=by simp; omega
  rw [if_neg this,if_neg h,if_neg h]
theorem zpx(s:ByteArray)(hs:Sm s):∀(f pos:Nat) (line col:Int) (out:List zal),s.size-pos<=f->pos<=s.size->0<=line/\line<=1+pos->0<=col/\col<=1+pos->out.length<=pos ->
  zaL (zcB s) (line,col,pos,out)=some (out++zbF s f pos line col):=by
 intro f
 induction f with
 | zero =>
  intro pos line col out hf hp hl hc ho
  have h:¬pos<s.size:=by omega
  rw [zbF,List.append_nil]
  refine zaJ ?_
  rw [zcB,if_neg h]
 | succ f ih =>
  intro pos line col out hf hp hl hc ho
  rw [zbF]
  by_cases h:pos<s.size
  ·rw [if_pos h]
   obtain ⟨w1,w2⟩:=zo2 s pos h
   unfold Sm at hs
   have hj:∀b:Bool,zdA out s pos line col ((Utf8.decode s pos).2:Int) b=some (.inl ((if (Utf8.decode s pos).1=10 then line+1 else line),(if (Utf8.decode s pos).1=10 then 1 else col+1),pos+(Utf8.decode s pos).2,
     out++[{ Rune:=((Utf8.decode s pos).1:Int),At:=(pos:Int),Size:=((Utf8.decode s pos).2:Int),Line:=line,Col:=col,Bad:=b }])):=by
    intro b
    rw [zdA,if_pos (show Fits _ by unfold Fits; omega)]
    simp only [Option.bind_some]
    rw [zpX (by omega) (by omega)]
    rfl
   have hst:zcB s (line,col,pos,out)=some (.inl ((if (Utf8.decode s pos).1=10 then line+1 else line),(if (Utf8.decode s pos).1=10 then 1 else col+1),pos+(Utf8.decode s pos).2,
     out++[{ Rune:=((Utf8.decode s pos).1:Int),At:=(pos:Int),Size:=((Utf8.decode s pos).2:Int),Line:=line,Col:=col,Bad:=(Utf8.decode s pos).1==65533&&(Utf8.decode s pos).2==1 }])):=by
    rw [zcB,if_pos h]
    by_cases he:(Utf8.decode s pos).1=65533
    ·rw [if_pos (by rw [he]; rfl),if_pos ⟨by omega,by omega⟩,zb7]
     have e:s.extract ((pos:Int).toNat) s.size=s.extract pos s.size:=by rw [Int.toNat_natCast]
     simp only [Option.bind_some]
     rw [e,zn0 s pos h,hj]
     congr 8
     rw [he,Bool.eq_iff_iff]; simp; omega
    ·rw [if_neg (by simp; omega),zdW,Option.bind_some,zpe s pos he,hj]
     have:((Utf8.decode s pos).1==65533)=false:=by simpa using he
     rw [this]; rfl
   rw [zbg hst,ih _ _ _ _ (by omega) w2 (by split <;> omega) (by split <;> omega) (by simp; omega),List.append_assoc]
   rfl
  ·rw [if_neg h,List.append_nil]
   refine zaJ ?_
   rw [zcB,if_neg h]
theorem zhL(s:ByteArray)(hs:Sm s):zeL s=some (zaX s):=by
 rw [zeL,zpx s hs s.size 0 1 1 [] (by omega) (by omega) (by omega) (by omega) (by simp)]
 rfl
theorem zq1(s:ByteArray)(hs:Sm s):∀(f pos:Nat) (line col:Int),s.size-pos<=f->pos<=s.size->0<=line/\line<=1+pos->0<=col/\col<=1+pos ->
  zaL (zdl s) (line,col,pos)=some (match (zbF s f pos line col).getLast? with | none=>(line,col) | some x=>if x.Rune=10 then (x.Line+1,1) else (x.Line,x.Col+1)):=by
 intro f
 induction f with
 | zero =>
  intro pos line col hf hp hl hc
  have h:¬pos<s.size:=by omega
  refine zaJ ?_
  rw [zdl,if_neg h]; rfl
 | succ f ih =>
  intro pos line col hf hp hl hc
  rw [zbF]
  by_cases h:pos<s.size
  ·rw [if_pos h]
   obtain ⟨w1,w2⟩:=zo2 s pos h
   unfold Sm at hs
   have hst:zdl s (line,col,pos)=some (.inl ((if (Utf8.decode s pos).1=10 then line+1 else line),(if (Utf8.decode s pos).1=10 then 1 else col+1),pos+(Utf8.decode s pos).2)):=by
    rw [zdl,if_pos h,zpX (by omega) (by omega)]; rfl
   rw [zbg hst,ih _ _ _ (by omega) w2 (by split <;> omega) (by split <;> omega)]
   generalize zbF s f (pos+(Utf8.decode s pos).2) (if (Utf8.decode s pos).1=10 then line+1 else line) (if (Utf8.decode s pos).1=10 then 1 else col+1)=l
   cases l with
   | nil =>
    simp only [List.getLast?_nil,List.getLast?_singleton]
    by_cases e:(Utf8.decode s pos).1=10
    ·rw [if_pos e,if_pos e,if_pos (by omega)]
    ·rw [if_neg e,if_neg e,if_neg (by omega)]
   | cons a l =>
    rw [List.getLast?_cons_cons]
    cases hl:(a::l).getLast? with
    | none=>simp at hl
    | some x=>rfl
  ·rw [if_neg h]
   refine zaJ ?_
   rw [zdl,if_neg h]; rfl
def zi7(l:List zal):Int × Int:=match l.getLast? with | none=>(1,1) | some x=>if x.Rune=10 then (x.Line+1,1) else (x.Line,x.Col+1)
theorem zne(s:ByteArray)(hs:Sm s):zhb s=some (zi7 (zaX s)):=by
 rw [zhb,zq1 s hs s.size 0 1 1 (by omega) (by omega) (by omega) (by omega)]
 simp only [Option.bind_some,zi7,zaX]
end Go.Vs
end
section
namespace Go.Vs
local instance tabPalLex2:Tab:=⟨fun _=>none⟩
def toR(x:zal):zao:={ Rune:=x.Rune,At:=x.At,Size:=x.Size,Line:=x.Line,Col:=x.Col,Bad:=x.Bad }
def zd6(x:zal):zao:={ Rune:=x.Rune,At:=x.At,Size:=x.Size,Line:=x.Line,Col:=x.Col,Bad:=false }
def opnR(x:zal):zao:={ Rune:=x.Rune,At:=x.At,Size:=0,Line:=x.Line,Col:=x.Col,Bad:=false }
theorem zqm{α:Type}[Inhabited α](a b:List α)(x:α):rd (a++x::b) (a.length:Int)=x:=by
 rw [rd,Int.toNat_natCast,List.getD_eq_getElem?_getD,List.getElem?_append_right (Nat.le_refl _)]; simp
theorem znw{α:Type}(a b:List α)(x y:α):(a++x::b).set a.length y=a++y::b:=by
 rw [List.set_append_right _ _ (Nat.le_refl _)]; simp
theorem zhl(s:ByteArray):∀(f pos:Nat) (line col:Int),∀x∈zbF s f pos line col,(pos:Int)<=x.At/\1<=x.Size/\x.At+x.Size<=s.size/\x.Bad=(x.Rune==65533&&x.Size==1):=by
 intro f
 induction f with
 | zero=>intro pos line col x hx; simp [zbF] at hx
 | succ f ih =>
  intro pos line col x hx
  rw [zbF] at hx
  split at hx
  ·rename_i h
   obtain ⟨w1,w2⟩:=zo2 s pos h
   rcases List.mem_cons.1 hx with rfl | hx
   ·refine ⟨Int.le_refl _,by simp; omega,by simp; omega,?_⟩
    simp only
    rw [Bool.eq_iff_iff]; simp; omega
   ·obtain ⟨a,b,c,d⟩:=ih _ _ _ x hx
    exact ⟨by omega,b,c,d⟩
  ·simp at hx
theorem ziP(s:ByteArray):∀(f pos:Nat) (line col:Int),(zbF s f pos line col).length<=s.size-pos:=by
 intro f
 induction f with
 | zero=>intro pos line col; simp [zbF]
 | succ f ih =>
  intro pos line col
  rw [zbF]
  split
  ·rename_i h
   obtain ⟨w1,w2⟩:=zo2 s pos h
   have:=ih (pos+(Utf8.decode s pos).2) (if (Utf8.decode s pos).1=10 then line+1 else line) (if (Utf8.decode s pos).1=10 then 1 else col+1)
   simp only [List.length_cons]; omega
  ·simp
theorem zlJ(s:ByteArray):∀(f pos:Nat) (line col:Int),(zbF s f pos line col).Pairwise fun x y=>x.At<=y.At:=by
 intro f
 induction f with
 | zero=>intro pos line col; simp [zbF]
 | succ f ih =>
  intro pos line col
  rw [zbF]
  split
  ·rename_i h
   refine List.Pairwise.cons (fun y hy=>?_) (ih _ _ _)
   have:=(zhl s _ _ _ _ y hy).1
   simp only; omega
  ·exact List.Pairwise.nil
theorem zsG(s:ByteArray)(hs:Sm s)(pos:Nat)(h:pos<s.size)(line col:Int)(hl:0<=line/\line<=1+pos)(hc:0<=col/\col<=1+pos)(out:List zao)(ho:out.length<=pos) :
  za9 s pos line col out=some (.inl ((if (Utf8.decode s pos).1=10 then line+1 else line),(if (Utf8.decode s pos).1=10 then 1 else col+1),pos+(Utf8.decode s pos).2,
   out++[opnR { Rune:=((Utf8.decode s pos).1:Int),At:=(pos:Int),Size:=((Utf8.decode s pos).2:Int),Line:=line,Col:=col,Bad:=(Utf8.decode s pos).1==65533&&(Utf8.decode s pos).2==1 }])):=by
 unfold Sm at hs
 rw [za9,if_pos (show Fits _ by unfold Fits; omega)]
 simp only [Option.bind_some]
 have e1:IntKind.wrap .i64 (line+1)=line+1:=zbG ⟨by omega,by omega⟩
 have e2:IntKind.wrap .i64 (col+1)=col+1:=zbG ⟨by omega,by omega⟩
 rw [e1,e2]
 by_cases he:(Utf8.decode s pos).1=10
 ·rw [if_pos (by rw [he]; rfl),if_pos he,if_pos he]; rfl
 ·rw [if_neg (by simp; omega),if_neg he,if_neg he]; rfl
theorem zqk(s:ByteArray)(hs:Sm s):∀(f pos:Nat) (line col:Int) (ini:List zal) (x:zal),s.size-pos<=f->pos<=s.size->0<=line/\line<=1+pos->0<=col/\col<=1+pos->ini.length<pos ->
  x.At+x.Size=pos->0<=x.At->0<=x.Size ->
  ∃ini' y,zaL (zaQ s) (line,col,pos,ini.map zd6++[opnR x])=some (ini'.map zd6++[opnR y])/\ini++x::zbF s f pos line col=ini'++[y]/\y.At+y.Size=s.size/\0<=y.At/\0<=y.Size:=by
 intro f
 induction f with
 | zero =>
  intro pos line col ini x hf hp hl hc ho hx hx0 hx1
  have h:¬pos<s.size:=by omega
  refine ⟨ini,x,zaJ (by rw [zaQ,if_neg h]),by rw [zbF],by omega,hx0,hx1⟩
 | succ f ih =>
  intro pos line col ini x hf hp hl hc ho hx hx0 hx1
  rw [zbF]
  by_cases h:pos<s.size
  ·rw [if_pos h]
   obtain ⟨w1,w2⟩:=zo2 s pos h
   have hs':=hs
   unfold Sm at hs'
   have elen:((ini.map zd6++[opnR x]).length:Int)=(ini.length:Int)+1:=by simp
   have ewr:IntKind.wrap .i64 (((ini.map zd6++[opnR x]).length:Int)-1)=((ini.map zd6).length:Int):=by
    rw [elen,zbG ⟨by omega,by omega⟩]; simp
   have hin:InB (((ini.map zd6).length:Nat):Int) (ini.map zd6++[opnR x]).length:=⟨by omega,by simp⟩
   have hst:zaQ s (line,col,pos,ini.map zd6++[opnR x])=za9 s pos line col ((ini++[x]).map zd6):=by
    rw [zaQ,if_pos h,if_pos (by rw [elen]; simp <;> omega),ewr,if_pos hin,if_pos hin]
    simp only [Option.bind_some]
    rw [zqm,Int.toNat_natCast,znw]
    have e:IntKind.wrap .i64 ((pos:Int)-(opnR x).At)=x.Size:=by
     have:(opnR x).At=x.At:=rfl
     rw [this,zbG ⟨by omega,by omega⟩]; omega
    rw [e,List.map_append]
    rfl
   rw [zsG s hs pos h line col hl hc _ (by simp; omega)] at hst
   obtain ⟨ini',y,h1,h2,h3⟩:=ih (pos+(Utf8.decode s pos).2) (if (Utf8.decode s pos).1=10 then line+1 else line) (if (Utf8.decode s pos).1=10 then 1 else col+1) (ini++[x])
    { Rune:=((Utf8.decode s pos).1:Int),At:=(pos:Int),Size:=((Utf8.decode s pos).2:Int),Line:=line,Col:=col,Bad:=(Utf8.decode s pos).1==65533&&(Utf8.decode s pos).2==1 }
    (by omega) w2 (by split <;> omega) (by split <;> omega) (by simp; omega) (by simp) (by simp) (by simp)
   exact ⟨ini',y,(zbg hst).trans h1,by rw [← h2]; simp,h3⟩
  ·rw [if_neg h]
   exact ⟨ini,x,zaJ (by rw [zaQ,if_neg h]),rfl,by omega,hx0,hx1⟩
theorem zqj:∀(rest done:List zal),done.length+rest.length<=1000000->(∀x∈rest,x.Bad=(x.Rune==65533&&x.Size==1)) ->
  zaL za8 ((done.length:Int),done.map toR++rest.map zd6)=some ((done++rest).map toR):=by
 intro rest
 induction rest with
 | nil =>
  intro done hd hb
  refine zaJ ?_
  rw [za8,if_neg (by simp)]
  simp
 | cons x rest ih =>
  intro done hd hb
  simp only [List.length_cons] at hd
  have hin:InB (((done.map toR).length:Nat):Int) (done.map toR++zd6 x::rest.map zd6).length:=⟨by omega,by simp⟩
  have elen:(done.length:Int)=(((done.map toR).length:Nat):Int):=by simp
  have hst:za8 ((done.length:Int),done.map toR++(x::rest).map zd6)=some (.inl (((done++[x]).length:Int),(done++[x]).map toR++rest.map zd6)):=by
   rw [List.map_cons,za8,elen,if_pos (by simp; omega),if_pos hin,if_pos (fun _=>hin),if_pos hin]
   simp only [Option.bind_some]
   rw [zqm,Int.toNat_natCast,znw]
   have e:IntKind.wrap .i64 ((((done.map toR).length:Nat):Int)+1)=((done++[x]).length:Int):=by
    rw [zbG ⟨by simp; omega,by simp; omega⟩]; simp
   rw [e]
   have hx:=hb x (by simp)
   have e2:zao.mk (zd6 x).Rune (zd6 x).At (zd6 x).Size (zd6 x).Line (zd6 x).Col (((zd6 x).Rune==65533)&&((zd6 x).Size==1))=toR x:=by
    unfold toR zd6; rw [hx]
   rw [e2]
   simp
  rw [zbg hst,ih (done++[x]) (by simp; omega) (fun y hy=>hb y (by simp [hy]))]
  simp
theorem zmA(s:ByteArray)(hs:Sm s):zct s=some ((zaX s).map toR):=by
 have hs':=hs
 unfold Sm at hs'
 have fin:∀l:List zal,l.length<=1000000->(∀x∈l,x.Bad=(x.Rune==65533&&x.Size==1))->zcb (l.map zd6)=some (l.map toR):=by
  intro l hl hb
  have:=zqj l [] (by simpa using hl) hb
  rw [zcb]
  have e:zaL za8 (0,l.map zd6)=some (l.map toR):=by simpa using this
  rw [e]; rfl
 have hlen:(zaX s).length<=1000000:=by have:=ziP s s.size 0 1 1; unfold zaX; omega
 have hbad:∀x∈zaX s,x.Bad=(x.Rune==65533&&x.Size==1):=fun x hx=>(zhl s _ _ _ _ x hx).2.2.2
 rw [zct]
 cases hn:s.size with
 | zero =>
  have h:¬0<s.size:=by omega
  have e1:zaL (zaQ s) (1,1,0,[])=some []:=zaJ (by rw [zaQ,if_neg h])
  have e2:zaX s=[]:=by unfold zaX; rw [hn,zbF]
  rw [e1,e2]
  simp only [Option.bind_some]
  rw [if_neg (by simp)]
  exact fin [] (by simp) (by simp)
 | succ n =>
  have h:0<s.size:=by omega
  obtain ⟨w1,w2⟩:=zo2 s 0 h
  have hst:zaQ s (1,1,0,[])=za9 s 0 1 1 []:=by
   rw [zaQ,if_pos h,if_neg (by simp)]
  rw [zsG s hs 0 h 1 1 (by omega) (by omega) [] (by simp)] at hst
  obtain ⟨ini',y,h1,h2,h3,h4,h5⟩:=zqk s hs n (0+(Utf8.decode s 0).2) (if (Utf8.decode s 0).1=10 then 1+1 else 1) (if (Utf8.decode s 0).1=10 then 1 else 1+1) []
   { Rune:=((Utf8.decode s 0).1:Int),At:=((0:Nat):Int),Size:=((Utf8.decode s 0).2:Int),Line:=1,Col:=1,Bad:=(Utf8.decode s 0).1==65533&&(Utf8.decode s 0).2==1 }
   (by omega) (by omega) (by split <;> omega) (by split <;> omega) (by simp; omega) (by simp) (by simp) (by simp)
  have hsp:zaX s=ini'++[y]:=by
   rw [← h2]
   unfold zaX
   rw [hn,zbF,if_pos h]; rfl
  rw [(zbg hst).trans h1]
  simp only [Option.bind_some]
  have elen:((ini'.map zd6++[opnR y]).length:Int)=(ini'.length:Int)+1:=by simp
  have hil:ini'.length<1000000:=by rw [hsp] at hlen; simp at hlen; omega
  have ewr:IntKind.wrap .i64 (((ini'.map zd6++[opnR y]).length:Int)-1)=((ini'.map zd6).length:Int):=by
   rw [elen,zbG ⟨by omega,by omega⟩]; simp
  have hin:InB (((ini'.map zd6).length:Nat):Int) (ini'.map zd6++[opnR y]).length:=⟨by omega,by simp⟩
  rw [if_pos (by rw [elen]; simp <;> omega),ewr,if_pos hin,if_pos hin,zqm,Int.toNat_natCast,znw]
  have e:IntKind.wrap .i64 (((s.size:Nat):Int)-(opnR y).At)=y.Size:=by
   have:(opnR y).At=y.At:=rfl
   rw [this,zbG ⟨by omega,by omega⟩]; omega
  have e3:ini'.map zd6++[zao.mk (opnR y).Rune (opnR y).At (IntKind.wrap .i64 (((s.size:Nat):Int)-(opnR y).At)) (opnR y).Line (opnR y).Col (opnR y).Bad]=(zaX s).map zd6:=by
   rw [e,hsp,List.map_append]; rfl
  rw [hn] at e3
  rw [e3]
  exact fin (zaX s) hlen hbad
end Go.Vs
end
section
namespace Go.Vs
local instance tabPalNumLaws0:Tab:=⟨fun _=>none⟩
open Go.Lib (decDigits itoa nDigits)
theorem zqA{s:ByteArray}(h:s.size<=281474976710656):zd5 s=some (zcP s):=if_pos h
theorem zpa(s:ByteArray){n:Int}(h:0<=n):∃t,zcT s n=some t/\(t.size:Int)<=n:=by
 rw [zcT,if_pos ⟨by split <;> omega,by split <;> omega⟩]
 refine ⟨_,rfl,?_⟩
 rw [ByteArray.size_extract]
 split <;> omega
end Go.Vs
end
section
namespace Go.Vs
local instance tabPalLex3:Tab:=⟨fun _=>none⟩
def zbD(p0:Int):Bool:=(((decide (p0≥97)&&decide (p0<=122))||(decide (p0≥65)&&decide (p0<=90)))||(p0==95))||(decide (p0≥161)&&decide (p0<=1114111))
def zdK(p0:Int):Bool:=decide (p0≥48)&&decide (p0<=57)
def zeB(p0:Int):Bool:=(p0==32)||(p0==9)
def zhw(p0:Int):Bool:=(((p0==44)||(p0==91))||(p0==93))||(p0==58)
theorem zq3(r:Int):zdJ r=some (zbD r):=rfl
theorem zqp(r:Int):zbz r=some (zbD r):=rfl
theorem zsP(r:Int):zeb r=some (zdK r):=rfl
theorem zsI(r:Int):zcv r=some (zdK r):=rfl
theorem zvq(r:Int):zgA r=some (zeB r):=rfl
theorem zuT(r:Int):zgG r=some (zeB r):=rfl
theorem zjh{v:List zal}{i:Int}(h:InB i v.length):rd (v.map toR) i=toR (rd v i):=by
 obtain ⟨h0,h1⟩:=h
 rw [rd,rd,List.getD_eq_getElem?_getD,List.getD_eq_getElem?_getD,List.getElem?_map,List.getElem?_eq_getElem h1]; rfl
def wordAt(v:List zal)(i:Int):Bool:=(decide (i<(v.length:Int))&&!(rd v i).Bad)&&(zbD (rd v i).Rune||zdK (rd v i).Rune)
theorem zhJ{i:Int}{n:Nat}(h0:0<=i)(h:decide (i<(n:Int))=true):InB i n:=⟨h0,by have:=of_decide_eq_true h; omega⟩
theorem zlL{v:List zal}{i:Int}(h0:0<=i)(h1:i<=1000000):zfa v i=some (if wordAt v i=true then .inl (i+1) else .inr i):=by
 have e1:IntKind.wrap .i64 (i+1)=i+1:=zbG ⟨by omega,by omega⟩
 rw [zfa,if_pos (zhJ h0),if_pos (fun h=>zhJ h0 (by simp only [Bool.and_eq_true] at h; exact h.1)),e1,wordAt]
 cases hA:(decide (i<(v.length:Int))&&!(rd v i).Bad) with
 | false=>simp
 | true =>
  have hin:InB i v.length:=zhJ h0 (by simp only [Bool.and_eq_true] at hA; exact hA.1)
  simp only [if_true,zq3,Option.bind_some,Bool.true_and]
  rw [if_pos (fun _=>hin)]
  cases hl:zbD (rd v i).Rune <;> (try simp [zsP]) <;> (try (split <;> rfl))
theorem zj1{v:List zal}{i:Int}(h0:0<=i)(h1:i<=1000000):zc7 (v.map toR) i=some (if wordAt v i=true then .inl (i+1) else .inr i):=by
 have e1:IntKind.wrap .i64 (i+1)=i+1:=zbG ⟨by omega,by omega⟩
 have el:(v.map toR).length=v.length:=by simp
 rw [zc7,el,if_pos (zhJ h0),if_pos (fun h=>zhJ h0 (by simp only [Bool.and_eq_true] at h; exact h.1)),e1,wordAt]
 cases hd:decide (i<(v.length:Int)) with
 | false=>simp
 | true =>
  have hin:InB i v.length:=zhJ h0 hd
  rw [zjh hin]
  have eb:(toR (rd v i)).Bad=(rd v i).Bad:=rfl
  have er:(toR (rd v i)).Rune=(rd v i).Rune:=rfl
  rw [eb,er]
  cases hb:(rd v i).Bad with
  | true=>simp
  | false =>
   simp only [Bool.not_false,Bool.and_true,if_true,zqp,Option.bind_some,Bool.true_and]
   rw [if_pos (fun _=>hin)]
   cases hl:zbD (rd v i).Rune <;> (try simp [zsI]) <;> (try (split <;> rfl))
def runC(v:List zal):Nat->Int->Int
 | 0,i=>i
 | n+1,i=>if wordAt v i=true then runC v n (i+1) else i
theorem zjC(v:List zal)(hv:v.length<=1000000):∀(n:Nat) (i:Int),0<=i->i<=v.length->v.length-i.toNat<=n ->
  ∃k,k=runC v n i/\zaL (zfa v) i=some k/\zaL (zc7 (v.map toR)) i=some k/\i<=k/\k<=v.length:=by
 intro n
 induction n with
 | zero =>
  intro i h0 h1 hn
  have hw:wordAt v i=false:=by
   have:decide (i<(v.length:Int))=false:=decide_eq_false (by omega)
   rw [wordAt,this]; rfl
  refine ⟨i,rfl,zaJ ?_,zaJ ?_,Int.le_refl _,h1⟩
  ·rw [zlL h0 (by omega),hw]; rfl
  ·rw [zj1 h0 (by omega),hw]; rfl
 | succ n ih =>
  intro i h0 h1 hn
  cases hw:wordAt v i with
  | false =>
   refine ⟨i,by rw [runC,hw]; rfl,zaJ ?_,zaJ ?_,Int.le_refl _,h1⟩
   ·rw [zlL h0 (by omega),hw]; rfl
   ·rw [zj1 h0 (by omega),hw]; rfl
  | true =>
   have hlt:i<(v.length:Int):=by
    simp only [wordAt,Bool.and_eq_true,decide_eq_true_eq] at hw; exact hw.1.1
   obtain ⟨k,e,a,b,c,d⟩:=ih (i+1) (by omega) (by omega) (by omega)
   refine ⟨k,by rw [runC,hw]; exact e,?_,?_,by omega,d⟩
   ·rw [zbg (by rw [zlL h0 (by omega),hw]; rfl)]; exact a
   ·rw [zbg (by rw [zj1 h0 (by omega),hw]; rfl)]; exact b
def zeG(v:List zal)(i:Int):Int ⊕ (Int ⊕ ((List zaa) × zai)) :=
 if (decide (i<(v.length:Int))&&((rd v i).Rune != 10))=true then (if (rd v i).Bad=true then .inr (.inr ([],⟨1,(rd v i).Line,(rd v i).Col⟩)) else .inl (i+1)) else .inr (.inl i)
theorem zjF{v:List zal}{i:Int}(h0:0<=i)(h1:i<=1000000):zdq v i=some (zeG v i):=by
 have e1:IntKind.wrap .i64 (i+1)=i+1:=zbG ⟨by omega,by omega⟩
 rw [zdq,if_pos (zhJ h0),e1,zeG]
 by_cases hA:(decide (i<(v.length:Int))&&((rd v i).Rune != 10))=true
 ·have hin:InB i v.length:=zhJ h0 (by simp only [Bool.and_eq_true] at hA; exact hA.1)
  rw [if_pos hA,if_pos hA,if_pos hin]
  by_cases hb:(rd v i).Bad=true
  ·rw [if_pos hb,if_pos hb,if_pos hin]; rfl
  ·rw [if_neg hb,if_neg hb]
 ·rw [if_neg hA,if_neg hA]
theorem zj6{v:List zal}{i:Int}(h0:0<=i)(h1:i<=1000000):zc8 (v.map toR) i=some (zeG v i):=by
 have e1:IntKind.wrap .i64 (i+1)=i+1:=zbG ⟨by omega,by omega⟩
 have el:(v.map toR).length=v.length:=by simp
 rw [zc8,el,if_pos (zhJ h0),e1,zeG]
 by_cases hd:decide (i<(v.length:Int))=true
 ·have hin:InB i v.length:=zhJ h0 hd
  rw [zjh hin,hd]
  have er:(toR (rd v i)).Rune=(rd v i).Rune:=rfl
  have eb:(toR (rd v i)).Bad=(rd v i).Bad:=rfl
  rw [er,eb,if_pos hin,if_pos hin,if_pos hin]
  simp only [Bool.true_and]
  split
  ·split <;> rfl
  ·rfl
 ·simp only [Bool.not_eq_true] at hd
  rw [hd]; simp
def remC(v:List zal):Nat->Int->Int ⊕ ((List zaa) × zai)
 | 0,i=>.inl i
 | n+1,i=>match zeG v i with | .inl j=>remC v n j | .inr r=>r
theorem zjG(v:List zal)(hv:v.length<=1000000):∀(n:Nat) (i:Int),0<=i->i<=v.length->v.length-i.toNat<=n ->
  ∃r,r=remC v n i/\zaL (zdq v) i=some r/\zaL (zc8 (v.map toR)) i=some r/\∀k,r=.inl k->i<=k/\k<=v.length:=by
 intro n
 induction n with
 | zero =>
  intro i h0 h1 hn
  have hw:zeG v i=.inr (.inl i):=by
   have:decide (i<(v.length:Int))=false:=decide_eq_false (by omega)
   rw [zeG,this]; rfl
  refine ⟨.inl i,rfl,zaJ ?_,zaJ ?_,fun k e=>?_⟩
  ·rw [zjF h0 (by omega),hw]
  ·rw [zj6 h0 (by omega),hw]
  ·injection e with e; omega
 | succ n ih =>
  intro i h0 h1 hn
  cases hw:zeG v i with
  | inr r =>
   refine ⟨r,by rw [remC,hw],zaJ ?_,zaJ ?_,fun k e=>?_⟩
   ·rw [zjF h0 (by omega),hw]
   ·rw [zj6 h0 (by omega),hw]
   ·subst e
    unfold zeG at hw
    split at hw
    ·split at hw
     ·injection hw with hw; cases hw
     ·cases hw
    ·injection hw with hw; injection hw with hw; omega
  | inl j =>
   have hj:j=i+1/\i<(v.length:Int):=by
    unfold zeG at hw
    split at hw
    ·rename_i hc
     simp only [Bool.and_eq_true,decide_eq_true_eq] at hc
     split at hw
     ·cases hw
     ·injection hw with hw; exact ⟨hw.symm,hc.1⟩
    ·cases hw
   obtain ⟨rfl,hlt⟩:=hj
   obtain ⟨r,er,a,b,c⟩:=ih (i+1) (by omega) (by omega) (by omega)
   refine ⟨r,by rw [remC,hw]; exact er,?_,?_,fun k e=>?_⟩
   ·rw [zbg (by rw [zjF h0 (by omega),hw])]; exact a
   ·rw [zbg (by rw [zj6 h0 (by omega),hw])]; exact b
   ·have:=c k e; omega
theorem zrx{kind L C n:Int}{t:ByteArray}(hkind:kind=1\/kind=2\/kind=3\/kind=4)(ht:t.size<=281474976710656) :
  zfq (zaa.mk kind L C t) n=some (if kind=1/\n>16 then 3 else if kind=2/\(zcP t).2=false then 2 else 0):=by
 rw [zfq]
 show (if ((kind==1)&&decide (n>16))=true then some 3 else if (kind==2)=true then ((zd5 t).bind fun v4=>if (!v4.2)=true then some 2 else some 0) else some 0)=_
 rw [zqA ht]
 simp only [Option.bind_some,Bool.and_eq_true,beq_iff_eq,decide_eq_true_eq,Bool.not_eq_true']
 by_cases p1:kind=1/\n>16
 ·rw [if_pos p1,if_pos p1]
 ·rw [if_neg p1,if_neg p1]
  by_cases p2:kind=2
  ·rw [if_pos p2]
   by_cases p3:(zcP t).2=false
   ·rw [if_pos p3,if_pos ⟨p2,p3⟩]
   ·rw [if_neg p3,if_neg (fun h=>p3 h.2)]
  ·rw [if_neg p2,if_neg (fun h=>p2 h.1)]
structure Good (s:ByteArray) (v:List zal):Prop where
 sm:Sm s
 len:v.length<=s.size
 at0:∀i,InB i v.length->0<=(rd v i).At/\1<=(rd v i).Size/\(rd v i).At+(rd v i).Size<=s.size
 le:∀i j,InB i v.length->InB j v.length->i<=j->(rd v i).At<=(rd v j).At
theorem zqn{v:List zal}{i:Int}(h:InB i v.length):rd v i=v[i.toNat]'h.2:=by
 rw [rd,List.getD_eq_getElem?_getD,List.getElem?_eq_getElem h.2]; rfl
theorem zht(s:ByteArray)(hs:Sm s):Good s (zaX s):=by
 refine ⟨hs,by have:=ziP s s.size 0 1 1; unfold zaX; omega,fun i h=>?_,fun i j hi hj hij=>?_⟩
 ·rw [zqn h]
  obtain ⟨a,b,c,_⟩:=zhl s _ _ _ _ _ (List.getElem_mem h.2)
  exact ⟨by simpa using a,b,c⟩
 ·rw [zqn hi,zqn hj]
  by_cases e:i=j
  ·subst e; exact Int.le_refl _
  ·have:=hi.1
   exact List.pairwise_iff_getElem.1 (zlJ s _ _ _ _) i.toNat j.toNat hi.2 hj.2 (by omega)
def tail(v:List zal)(s:ByteArray)(i:Int)(l:List zaa)(k kind:Int):(Int × List zaa) ⊕ (List zaa ⊕ ((List zaa) × zai)) :=
 let t:=s.extract (rd v i).At.toNat ((rd v (k-1)).At+(rd v (k-1)).Size).toNat
 if kind=1/\k-i>16 then .inr (.inr ([],⟨3,(rd v i).Line,(rd v i).Col⟩))
 else if kind=2/\(zcP t).2=false then .inr (.inr ([],⟨2,(rd v i).Line,(rd v i).Col⟩))
 else .inl (k,l++[⟨kind,(rd v i).Line,(rd v i).Col,t⟩])
section
variable {s:ByteArray} {v:List zal} (g:Good s v) {i k:Int} {l:List zaa} (hi:InB i v.length) (hk:i<k) (hkn:k<=v.length) (hl:l.length<=1000000)
include g hi hk hkn hl
theorem zoG:IntKind.wrap .i64 (k-1)=k-1/\InB (k-1) v.length/\IntKind.wrap .i64 (k-i)=k-i/\IntKind.wrap .i64 ((rd v (k-1)).At+(rd v (k-1)).Size)=(rd v (k-1)).At+(rd v (k-1)).Size /\
  Bnd ((rd v (k-1)).At+(rd v (k-1)).Size) s.size/\Bnd (rd v i).At (((rd v (k-1)).At+(rd v (k-1)).Size).toNat):=by
 have hsm:=g.sm
 unfold Sm at hsm
 have hlen:=g.len
 obtain ⟨hi0,hi1⟩:=hi
 have hin:InB (k-1) v.length:=⟨by omega,by omega⟩
 obtain ⟨a1,a2,a3⟩:=g.at0 _ hin
 obtain ⟨b1,b2,b3⟩:=g.at0 _ ⟨hi0,hi1⟩
 have hle:=g.le i (k-1) ⟨hi0,hi1⟩ hin (by omega)
 exact ⟨zbG ⟨by omega,by omega⟩,hin,zbG ⟨by omega,by omega⟩,zbG ⟨by omega,by omega⟩,⟨by omega,by omega⟩,⟨by omega,by omega⟩⟩
theorem zr4(kind:Int)(hkind:kind=1\/kind=2\/kind=3\/kind=4) :
  (if InB (IntKind.wrap .i64 (k-1)) v.length then (if InB (IntKind.wrap .i64 (k-1)) v.length then (if Bnd (IntKind.wrap .i64 ((rd v (IntKind.wrap .i64 (k-1))).At+(rd v (IntKind.wrap .i64 (k-1))).Size)) s.size then (if Bnd ((rd v i).At) ((IntKind.wrap .i64 ((rd v (IntKind.wrap .i64 (k-1))).At+(rd v (IntKind.wrap .i64 (k-1))).Size)).toNat) then ((some (s.extract (((rd v i).At).toNat) ((IntKind.wrap .i64 ((rd v (IntKind.wrap .i64 (k-1))).At+(rd v (IntKind.wrap .i64 (k-1))).Size)).toNat))).bind fun s222 =>
            (zfq (zaa.mk kind ((rd v i).Line) ((rd v i).Col) s222) (IntKind.wrap .i64 (k-i))).bind fun v224 =>
            if (v224 != 0)=true then ((zes v224 (rd v i)).bind fun v227 =>
        some (.inr (.inr ([],v227)))) else (if Fits (l.length+1) then ((some (l++([(zaa.mk kind ((rd v i).Line) ((rd v i).Col) s222)]))).bind fun l230 =>
        some (.inl (k,l230))) else none)) else none) else none) else none) else none)=some (tail v s i l k kind):=by
 obtain ⟨e1,hin,e2,e3,b1,b2⟩:=zoG g hi hk hkn hl
 rw [e1,if_pos hin,if_pos hin,e3,if_pos b1,if_pos b2,e2]
 simp only [Option.bind_some,tail]
 generalize ht:s.extract (rd v i).At.toNat ((rd v (k-1)).At+(rd v (k-1)).Size).toNat=t
 have hts:t.size<=1000000:=by
  have:=g.sm
  unfold Sm at this
  rw [← ht,ByteArray.size_extract]; omega
 have hf:Fits (l.length+1):=by unfold Fits; omega
 rw [zrx hkind (by omega)]
 simp only [Option.bind_some,hf,if_true]
 by_cases p1:kind=1/\k-i>16
 ·rw [if_pos p1,if_pos p1]; rfl
 ·rw [if_neg p1,if_neg p1]
  by_cases p2:kind=2/\(zcP t).2=false
  ·rw [if_pos p2,if_pos p2]; rfl
  ·rw [if_neg p2,if_neg p2]; rfl
theorem zrO(kind:Int)(hkind:kind=1\/kind=2\/kind=3\/kind=4):zaU (v.map toR) s i l k kind=some (tail v s i l k kind):=by
 obtain ⟨e1,hin,e2,e3,b1,b2⟩:=zoG g hi hk hkn hl
 have el:(v.map toR).length=v.length:=by simp
 rw [zaU,e1,el,zjh hin,zjh hi]
 have q1:(toR (rd v (k-1))).At=(rd v (k-1)).At:=rfl
 have q2:(toR (rd v (k-1))).Size=(rd v (k-1)).Size:=rfl
 have q3:(toR (rd v i)).At=(rd v i).At:=rfl
 have q4:(toR (rd v i)).Line=(rd v i).Line:=rfl
 have q5:(toR (rd v i)).Col=(rd v i).Col:=rfl
 rw [q1,q2,q3,q4,q5,if_pos hin,if_pos hin,e3,if_pos b1,if_pos b2,e2]
 simp only [Option.bind_some,tail]
 generalize ht:s.extract (rd v i).At.toNat ((rd v (k-1)).At+(rd v (k-1)).Size).toNat=t
 have hts:t.size<=1000000:=by
  have:=g.sm
  unfold Sm at this
  rw [← ht,ByteArray.size_extract]; omega
 have hf:Fits (l.length+1):=by unfold Fits; omega
 have hj2:zcy kind l (v.map toR) i t k=some (.inl (k,l++[⟨kind,(rd v i).Line,(rd v i).Col,t⟩])):=by
  rw [zcy,zjh hi,if_pos (by rcases hkind with rfl | rfl | rfl | rfl <;> rfl),if_pos hf]; rfl
 rw [hj2,zin t (by omega)]
 simp only [Option.bind_some,e2,Bool.and_eq_true,beq_iff_eq,decide_eq_true_eq,Bool.not_eq_true']
 by_cases p1:kind=1/\k-i>16
 ·rw [if_pos p1,if_pos p1]
 ·rw [if_neg p1,if_neg p1]
  by_cases p2:kind=2
  ·rw [if_pos p2]
   by_cases p3:(zcP t).2=false
   ·rw [if_pos p3,if_pos ⟨p2,p3⟩]
   ·rw [if_neg p3,if_neg (fun h=>p3 h.2)]
  ·rw [if_neg p2,if_neg (fun h=>p2 h.1)]
theorem zrQ:zaU (v.map toR) s i l k 0=some (.inl (k,l)):=by
 obtain ⟨e1,hin,e2,e3,b1,b2⟩:=zoG g hi hk hkn hl
 have el:(v.map toR).length=v.length:=by simp
 rw [zaU,e1,el,zjh hin,zjh hi]
 have q1:(toR (rd v (k-1))).At=(rd v (k-1)).At:=rfl
 have q2:(toR (rd v (k-1))).Size=(rd v (k-1)).Size:=rfl
 have q3:(toR (rd v i)).At=(rd v i).At:=rfl
 rw [q1,q2,q3,if_pos hin,if_pos hin,e3,if_pos b1,if_pos b2]
 simp only [Option.bind_some]
 rw [if_neg (by simp),if_neg (by decide),zcy,if_neg (by simp)]; rfl
end
end Go.Vs
end
section
namespace Go.Vs
local instance tabPalLex4:Tab:=⟨fun _=>none⟩
def zeC(v:List zal)(s:ByteArray)(i:Int)(l:List zaa):(Int × List zaa) ⊕ (List zaa ⊕ ((List zaa) × zai)) :=
 if (rd v i).Bad=true then .inr (.inr ([],⟨1,(rd v i).Line,(rd v i).Col⟩))
 else if zeB (rd v i).Rune=true then .inl (i+1,l)
 else if (rd v i).Rune=59 then (match remC v v.length (i+1) with | .inl k=>.inl (k,l) | .inr q=>.inr (.inr q))
 else if (rd v i).Rune=10 then tail v s i l (i+1) 4
 else if zhw (rd v i).Rune=true then tail v s i l (i+1) 3
 else if zbD (rd v i).Rune=true then tail v s i l (runC v v.length (i+1)) 1
 else if (zdK (rd v i).Rune||((rd v i).Rune==45))=true then tail v s i l (runC v v.length (i+1)) 2
 else .inr (.inr ([],⟨1,(rd v i).Line,(rd v i).Col⟩))
section
variable {s:ByteArray} {v:List zal} (g:Good s v) {i:Int} {l:List zaa} (hi:InB i v.length) (hl:l.length<=1000000)
include g hi hl
theorem zoU:0<=i/\i<v.length/\v.length<=1000000:=by
 have h1:=g.sm; have h2:=g.len; unfold Sm at h1
 obtain ⟨a,b⟩:=hi
 exact ⟨a,by omega,by omega⟩
theorem zr5:zcZ v s (i,l)=some (zeC v s i l):=by
 obtain ⟨h0,h1,hv⟩:=zoU g hi hl
 have e1:IntKind.wrap .i64 (i+1)=i+1:=zbG ⟨by omega,by omega⟩
 have hd:decide (i<(v.length:Int))=true:=decide_eq_true h1
 obtain ⟨k,ek,lk,_,k1,k2⟩:=zjC v hv v.length (i+1) (by omega) (by omega) (by omega)
 obtain ⟨r,er,lr,_,r1⟩:=zjG v hv v.length (i+1) (by omega) (by omega) (by omega)
 rw [zcZ,if_pos hd,if_pos hi,zvq,e1]
 simp only [Option.bind_some]
 unfold zeC
 by_cases c1:(rd v i).Bad=true
 ·rw [if_pos c1,if_pos c1]; rfl
 rw [if_neg c1,if_neg c1]
 by_cases c2:zeB (rd v i).Rune=true
 ·rw [if_pos c2,if_pos c2]
 rw [if_neg c2,if_neg c2]
 by_cases c3:(rd v i).Rune=59
 ·rw [if_pos (by simpa using c3),if_pos c3]
  have hst:zdq v i=some (.inl (i+1)):=by
   rw [zjF h0 (by omega),zeG,hd,if_pos (by rw [c3]; rfl),if_neg c1]
  rw [zbg hst,lr,← er]
  simp only [Option.bind_some]
  cases r <;> rfl
 rw [if_neg (by simpa using c3),if_neg c3]
 have hrun:∀kk kind:Int,i<kk->kk<=v.length->(kind=1\/kind=2\/kind=3\/kind=4)->zh5 v i=some (kk,kind) ->
   ((zh5 v i).bind fun v213 =>
      if (v213.2==0)=true then ((zes 1 (rd v i)).bind fun v216 =>
       some (.inr (.inr ([],v216)))) else (if InB (IntKind.wrap .i64 (v213.1-1)) v.length then (if InB (IntKind.wrap .i64 (v213.1-1)) v.length then (if Bnd (IntKind.wrap .i64 ((rd v (IntKind.wrap .i64 (v213.1-1))).At+(rd v (IntKind.wrap .i64 (v213.1-1))).Size)) s.size then (if Bnd ((rd v i).At) ((IntKind.wrap .i64 ((rd v (IntKind.wrap .i64 (v213.1-1))).At+(rd v (IntKind.wrap .i64 (v213.1-1))).Size)).toNat) then ((some (s.extract (((rd v i).At).toNat) ((IntKind.wrap .i64 ((rd v (IntKind.wrap .i64 (v213.1-1))).At+(rd v (IntKind.wrap .i64 (v213.1-1))).Size)).toNat))).bind fun s222 =>
       (zfq (zaa.mk v213.2 ((rd v i).Line) ((rd v i).Col) s222) (IntKind.wrap .i64 (v213.1-i))).bind fun v224 =>
       if (v224 != 0)=true then ((zes v224 (rd v i)).bind fun v227 =>
        some (.inr (.inr ([],v227)))) else (if Fits (l.length+1) then ((some (l++([(zaa.mk v213.2 ((rd v i).Line) ((rd v i).Col) s222)]))).bind fun l230 =>
        some (.inl (v213.1,l230))) else none)) else none) else none) else none) else none):Option ((Int × List zaa) ⊕ (List zaa ⊕ ((List zaa) × zai))))=some (tail v s i l kk kind):=by
  intro kk kind h2 h3 h4 h5
  rw [h5,Option.bind_some,if_neg (by rcases h4 with rfl | rfl | rfl | rfl <;> simp)]
  exact zr4 g hi h2 h3 hl kind h4
 have hj:∀kind:Int,zfb v i kind=some (runC v v.length (i+1),kind):=by
  intro kind
  rw [zfb,e1,lk,← ek]; rfl
 have hR:zh5 v i=if (rd v i).Rune=10 then some (i+1,4) else if zhw (rd v i).Rune=true then some (i+1,3) else if zbD (rd v i).Rune=true then some (runC v v.length (i+1),1)
   else if (zdK (rd v i).Rune||((rd v i).Rune==45))=true then some (runC v v.length (i+1),2) else some (i,0):=by
  rw [zh5,if_pos hi,e1,zq3,zsP,hj,hj]
  simp only [Option.bind_some,beq_iff_eq]
  rfl
 rw [← ek] at hR
 by_cases c4:(rd v i).Rune=10
 ·rw [if_pos c4]; exact hrun _ _ (by omega) (by omega) (by omega) (by rw [hR,if_pos c4])
 by_cases c5:zhw (rd v i).Rune=true
 ·rw [if_neg c4,if_pos c5]; exact hrun _ _ (by omega) (by omega) (by omega) (by rw [hR,if_neg c4,if_pos c5])
 by_cases c6:zbD (rd v i).Rune=true
 ·rw [if_neg c4,if_neg c5,if_pos c6,← ek]; exact hrun _ _ (by omega) (by omega) (by omega) (by rw [hR,if_neg c4,if_neg c5,if_pos c6])
 by_cases c7:(zdK (rd v i).Rune||((rd v i).Rune==45))=true
 ·rw [if_neg c4,if_neg c5,if_neg c6,if_pos c7,← ek]; exact hrun _ _ (by omega) (by omega) (by omega) (by rw [hR,if_neg c4,if_neg c5,if_neg c6,if_pos c7])
 ·rw [hR,if_neg c4,if_neg c5,if_neg c6,if_neg c7,if_neg c4,if_neg c5,if_neg c6,if_neg c7]; rfl
theorem zrP:zbZ (v.map toR) s (i,l)=some (zeC v s i l):=by
 obtain ⟨h0,h1,hv⟩:=zoU g hi hl
 have e1:IntKind.wrap .i64 (i+1)=i+1:=zbG ⟨by omega,by omega⟩
 have hd:decide (i<(v.length:Int))=true:=decide_eq_true h1
 have el:(v.map toR).length=v.length:=by simp
 obtain ⟨k,ek,_,lk,k1,k2⟩:=zjC v hv v.length (i+1) (by omega) (by omega) (by omega)
 obtain ⟨r,er,_,lr,r1⟩:=zjG v hv v.length (i+1) (by omega) (by omega) (by omega)
 have hsk:=fun kk h2 h3=>zrQ g hi (k:=kk) h2 h3 hl
 have hT:=fun kk h2 h3=>zrO g hi (k:=kk) h2 h3 hl
 rw [zbZ,el,if_pos hd,if_pos hi,zjh hi,zuT,e1]
 have q1:(toR (rd v i)).Rune=(rd v i).Rune:=rfl
 have q2:(toR (rd v i)).Bad=(rd v i).Bad:=rfl
 have q4:(toR (rd v i)).Line=(rd v i).Line:=rfl
 have q5:(toR (rd v i)).Col=(rd v i).Col:=rfl
 rw [q1,q2,q4,q5]
 simp only [Option.bind_some]
 unfold zeC
 by_cases c1:(rd v i).Bad=true
 ·rw [if_pos c1,if_pos c1]
 rw [if_neg c1,if_neg c1]
 by_cases c2:zeB (rd v i).Rune=true
 ·rw [if_pos c2,if_pos c2]; exact hsk _ (by omega) (by omega)
 rw [if_neg c2,if_neg c2]
 by_cases c3:(rd v i).Rune=59
 ·rw [if_pos (by simpa using c3),if_pos c3,lr,← er]
  simp only [Option.bind_some]
  cases r with
  | inl k =>
   have:=r1 k rfl
   exact hsk _ (by omega) (by omega)
  | inr q=>rfl
 rw [if_neg (by simpa using c3),if_neg c3]
 by_cases c4:(rd v i).Rune=10
 ·rw [if_pos (by simpa using c4),if_pos c4]; exact hT _ (by omega) (by omega) 4 (by omega)
 rw [if_neg (by simpa using c4),if_neg c4]
 show (if zhw (rd v i).Rune=true then _ else _)=_
 by_cases c5:zhw (rd v i).Rune=true
 ·rw [if_pos c5,if_pos c5]; exact hT _ (by omega) (by omega) 3 (by omega)
 rw [if_neg c5,if_neg c5,zqp,zsI]
 simp only [Option.bind_some]
 by_cases c6:zbD (rd v i).Rune=true
 ·rw [if_pos c6,c6]
  simp only [Bool.not_true,Bool.false_eq_true,if_false,Option.bind_some,Bool.true_or,if_true]
  rw [lk,← ek]
  exact hT _ (by omega) (by omega) 1 (by omega)
 ·rw [if_neg c6]
  simp only [Bool.not_eq_true] at c6
  rw [c6]
  simp only [Bool.not_false,if_true,Option.bind_some,Bool.false_or]
  by_cases c7:(zdK (rd v i).Rune||((rd v i).Rune==45))=true
  ·rw [if_pos c7,if_pos c7,lk,← ek]
   exact hT _ (by omega) (by omega) 2 (by omega)
  ·rw [if_neg c7,if_neg c7]
theorem zn8{k:Int}{l':List zaa}(h:zeC v s i l=.inl (k,l')):i<k/\k<=v.length/\l'.length<=l.length+1:=by
 obtain ⟨h0,h1,hv⟩:=zoU g hi hl
 obtain ⟨kk,ek,_,_,k1,k2⟩:=zjC v hv v.length (i+1) (by omega) (by omega) (by omega)
 obtain ⟨r,er,_,_,r1⟩:=zjG v hv v.length (i+1) (by omega) (by omega) (by omega)
 have ht:∀a kind,tail v s i l a kind=.inl (k,l')->k=a/\l'.length<=l.length+1:=by
  intro a kind h
  unfold tail at h
  dsimp only at h
  split at h
  ·cases h
  ·split at h
   ·cases h
   ·injection h with h
    injection h with h3 h4
    exact ⟨h3.symm,by rw [← h4]; simp⟩
 unfold zeC at h
 rw [← er,← ek] at h
 repeat' split at h
 all_goals first
  | (cases h; done)
  | (obtain ⟨rfl,h5⟩:=ht _ _ h; exact ⟨by omega,by omega,h5⟩)
  | (injection h with h; injection h with h3 h4; subst h3; subst h4; first | exact ⟨by omega,by omega,by omega⟩ | (have:=r1 _ rfl; exact ⟨by omega,by omega,by omega⟩))
end
def tokC(v:List zal)(s:ByteArray):Nat->Int->List zaa->List zaa ⊕ ((List zaa) × zai)
 | 0,_,l=>.inl l
 | n+1,i,l=>if i<v.length then (match zeC v s i l with | .inl (k,l')=>tokC v s n k l' | .inr r=>r) else .inl l
theorem zoa{s:ByteArray}{v:List zal}(g:Good s v):∀(n:Nat) (i:Int) (l:List zaa),0<=i->i<=v.length->v.length-i.toNat<=n->l.length<=i.toNat ->
  zaL (zcZ v s) (i,l)=some (tokC v s n i l)/\zaL (zbZ (v.map toR) s) (i,l)=some (tokC v s n i l)/\∀l',tokC v s n i l=.inl l'->l'.length<=v.length:=by
 have h1:=g.sm
 have h2:=g.len
 unfold Sm at h1
 have el:(v.map toR).length=v.length:=by simp
 have stop:∀(i:Int) (l:List zaa),¬i<v.length->zaL (zcZ v s) (i,l)=some (.inl l)/\zaL (zbZ (v.map toR) s) (i,l)=some (.inl l):=fun i l h =>
  ⟨zaJ (by rw [zcZ,if_neg (by simpa using h)]),zaJ (by rw [zbZ,el,if_neg (by simpa using h)])⟩
 intro n
 induction n with
 | zero =>
  intro i l h0 hv hn hl
  rw [tokC]
  exact ⟨(stop i l (by omega)).1,(stop i l (by omega)).2,fun l' e=>by injection e with e; subst e; omega⟩
 | succ n ih =>
  intro i l h0 hv hn hl
  rw [tokC]
  by_cases hlt:i<v.length
  ·rw [if_pos hlt]
   have hin:InB i v.length:=⟨h0,by omega⟩
   have a:=zr5 g hin (l:=l) (by omega)
   have b:=zrP g hin (l:=l) (by omega)
   cases ht:zeC v s i l with
   | inl q =>
    obtain ⟨k,l'⟩:=q
    obtain ⟨n1,n2,n3⟩:=zn8 g hin (by omega) ht
    obtain ⟨x,y,z⟩:=ih k l' (by omega) n2 (by omega) (by omega)
    exact ⟨(zbg (a.trans (by rw [ht]))).trans x,(zbg (b.trans (by rw [ht]))).trans y,z⟩
   | inr r =>
    refine ⟨zaJ (a.trans (by rw [ht])),zaJ (b.trans (by rw [ht])),fun l' e=>?_⟩
    dsimp only at e
    subst e
    exfalso
    unfold zeC tail at ht
    dsimp only at ht
    repeat' split at ht
    all_goals first | cases ht | (injection ht with ht; cases ht)
  ·rw [if_neg hlt]
   exact ⟨(stop i l hlt).1,(stop i l hlt).2,fun l' e=>by injection e with e; subst e; omega⟩
def zaS(s:ByteArray):(List zaa) × zai:=match tokC (zaX s) s (zaX s).length 0 [] with
 | .inl l=>(l++[⟨4,(zi7 (zaX s)).1,(zi7 (zaX s)).2,⟨#[]⟩⟩],⟨0,0,0⟩)
 | .inr q=>q
theorem zlY(s:ByteArray)(hs:Sm s):zgh s=some (zaS s):=by
 have hs':=hs
 unfold Sm at hs'
 have g:=zht s hs
 have hg:=g.len
 obtain ⟨a,b,c⟩:=zoa g (zaX s).length 0 [] (by omega) (by omega) (by omega) (by simp)
 rw [zgh,zhL s hs,Option.bind_some,a,zne s hs]
 simp only [Option.bind_some,zaS]
 cases h:tokC (zaX s) s (zaX s).length 0 [] with
 | inl l =>
  have:=c l h
  simp only [zbu]
  rw [if_pos (show Fits _ by unfold Fits; omega)]
 | inr q=>rfl
end Go.Vs
end
