import Derived.Test.YtgdchoahbiagbaaDoorPalC
import Derived.Test.YtgdchoahbiagbaaDoorPalRead
import Derived.Test.YtgdchoahbiagbaaDoorPalUtf
import Derived.Lib.DecodeN
import Derived.Test.YtgdchoahbiagbaaDoorPalL
section
/-! A text's runes: both ways of telling them come to the same. -/
set_option linter.unusedVariables false
set_option linter.unusedSimpArgs false
set_option linter.unusedSectionVars false
namespace Go.Vs
local instance tabPalLex:Tab:=⟨fun _=>none⟩
def Sm(s:ByteArray):Prop:=s.size ≤ 1000000
theorem decN_width{n b0 b1 b2 b3:Nat}(hn:0<n):1 ≤ (Lib.decodeN n b0 b1 b2 b3).2 ∧ (Lib.decodeN n b0 b1 b2 b3).2 ≤ n:=by
  unfold Lib.decodeN
  repeat' split
  all_goals dsimp only
  all_goals omega
theorem decN_len{n b0 b1 b2 b3:Nat}(h:(Lib.decodeN n b0 b1 b2 b3).1≠65533):Lib.runeLen ((Lib.decodeN n b0 b1 b2 b3).1:Int)=((Lib.decodeN n b0 b1 b2 b3).2:Int):=by
  revert h
  unfold Lib.decodeN
  repeat' split
  all_goals dsimp only
  all_goals intro h
  all_goals (try (exact absurd rfl h))
  all_goals (unfold Lib.runeLen; repeat' split)
  all_goals omega
theorem width(s:ByteArray)(pos:Nat)(h:pos<s.size):1 ≤ (Utf8.decode s pos).2 ∧ pos+(Utf8.decode s pos).2 ≤ s.size:=by
  rw [Lib.decode_at]
  have:=decN_width (n:=s.size-pos) (b0:=(s.get! pos).toNat) (b1:=(s.get! (pos+1)).toNat) (b2:=(s.get! (pos+2)).toNat) (b3:=(s.get! (pos+3)).toNat) (by omega)
  omega
theorem runeLen_eq(s:ByteArray)(pos:Nat)(h:(Utf8.decode s pos).1≠65533):Lib.runeLen ((Utf8.decode s pos).1:Int)=((Utf8.decode s pos).2:Int):=by
  rw [Lib.decode_at] at h ⊢; exact decN_len h
def spotsF(s:ByteArray):Nat → Nat → Int → Int → List T_glyph_Spot
  | 0,_,_,_=>[]
  | f+1,pos,line,col=>if pos<s.size then
     { Rune:=((Utf8.decode s pos).1:Int),At:=(pos:Int),Size:=((Utf8.decode s pos).2:Int),Line:=line,Col:=col,Bad:=(Utf8.decode s pos).1==65533&&(Utf8.decode s pos).2==1 } ::
       spotsF s f (pos+(Utf8.decode s pos).2) (if (Utf8.decode s pos).1=10 then line+1 else line) (if (Utf8.decode s pos).1=10 then 1 else col+1)
    else []
def spots(s:ByteArray):List T_glyph_Spot:=spotsF s s.size 0 1 1
theorem step_eq{line col:Int}{r:Nat}(h1:0 ≤ line ∧ line ≤ 2000000)(h2:0 ≤ col ∧ col ≤ 2000000):glyph_step line col (r:Int)=some ((if r=10 then line+1 else line),(if r=10 then 1 else col+1)):=by
  rw [glyph_step]
  have e1:IntKind.wrap .i64 (line+1)=line+1:=wi64_id ⟨by omega,by omega⟩
  have e2:IntKind.wrap .i64 (col+1)=col+1:=wi64_id ⟨by omega,by omega⟩
  rw [e1,e2]
  by_cases h:r=10
  · subst h; rfl
  · have:¬(((r:Int)==10)=true):=by simp; omega
    rw [if_neg this,if_neg h,if_neg h]
theorem glyph_loop(s:ByteArray)(hs:Sm s):∀(f pos:Nat) (line col:Int) (out:List T_glyph_Spot),s.size-pos ≤ f → pos ≤ s.size → 0 ≤ line ∧ line ≤ 1+pos → 0 ≤ col ∧ col ≤ 1+pos → out.length ≤ pos →
    loopO (glyph_Spots_s1 s) (line,col,pos,out)=some (out++spotsF s f pos line col):=by
  intro f
  induction f with
  | zero =>
    intro pos line col out hf hp hl hc ho
    have h:¬pos<s.size:=by omega
    rw [spotsF,List.append_nil]
    refine loopO_inr ?_
    rw [glyph_Spots_s1,if_neg h]
  | succ f ih =>
    intro pos line col out hf hp hl hc ho
    rw [spotsF]
    by_cases h:pos<s.size
    · rw [if_pos h]
      obtain ⟨w1,w2⟩:=width s pos h
      unfold Sm at hs
      have hj:∀b:Bool,glyph_Spots_j1 out s pos line col ((Utf8.decode s pos).2:Int) b=some (.inl ((if (Utf8.decode s pos).1=10 then line+1 else line),(if (Utf8.decode s pos).1=10 then 1 else col+1),pos+(Utf8.decode s pos).2,
          out++[{ Rune:=((Utf8.decode s pos).1:Int),At:=(pos:Int),Size:=((Utf8.decode s pos).2:Int),Line:=line,Col:=col,Bad:=b }])):=by
        intro b
        rw [glyph_Spots_j1,if_pos (show Fits _ by unfold Fits; omega)]
        simp only [Option.bind_some]
        rw [step_eq (by omega) (by omega)]
        rfl
      have hst:glyph_Spots_s1 s (line,col,pos,out)=some (.inl ((if (Utf8.decode s pos).1=10 then line+1 else line),(if (Utf8.decode s pos).1=10 then 1 else col+1),pos+(Utf8.decode s pos).2,
          out++[{ Rune:=((Utf8.decode s pos).1:Int),At:=(pos:Int),Size:=((Utf8.decode s pos).2:Int),Line:=line,Col:=col,Bad:=(Utf8.decode s pos).1==65533&&(Utf8.decode s pos).2==1 }])):=by
        rw [glyph_Spots_s1,if_pos h]
        by_cases he:(Utf8.decode s pos).1=65533
        · rw [if_pos (by rw [he]; rfl),if_pos ⟨by omega,by omega⟩,unicode_utf8_DecodeRuneInString]
          have e:s.extract ((pos:Int).toNat) s.size=s.extract pos s.size:=by rw [Int.toNat_natCast]
          simp only [Option.bind_some]
          rw [e,decode_tail s pos h,hj]
          congr 8
          rw [he,Bool.eq_iff_iff]; simp; omega
        · rw [if_neg (by simp; omega),unicode_utf8_RuneLen,Option.bind_some,runeLen_eq s pos he,hj]
          have:((Utf8.decode s pos).1==65533)=false:=by simpa using he
          rw [this]; rfl
      rw [loopO_inl hst,ih _ _ _ _ (by omega) w2 (by split <;> omega) (by split <;> omega) (by simp; omega),List.append_assoc]
      rfl
    · rw [if_neg h,List.append_nil]
      refine loopO_inr ?_
      rw [glyph_Spots_s1,if_neg h]
theorem glyph_Spots_eq(s:ByteArray)(hs:Sm s):glyph_Spots s=some (spots s):=by
  rw [glyph_Spots,glyph_loop s hs s.size 0 1 1 [] (by omega) (by omega) (by omega) (by omega) (by simp)]
  rfl
theorem glyph_end(s:ByteArray)(hs:Sm s):∀(f pos:Nat) (line col:Int),s.size-pos ≤ f → pos ≤ s.size → 0 ≤ line ∧ line ≤ 1+pos → 0 ≤ col ∧ col ≤ 1+pos →
    loopO (glyph_End_s1 s) (line,col,pos)=some (match (spotsF s f pos line col).getLast? with | none=>(line,col) | some x=>if x.Rune=10 then (x.Line+1,1) else (x.Line,x.Col+1)):=by
  intro f
  induction f with
  | zero =>
    intro pos line col hf hp hl hc
    have h:¬pos<s.size:=by omega
    refine loopO_inr ?_
    rw [glyph_End_s1,if_neg h]; rfl
  | succ f ih =>
    intro pos line col hf hp hl hc
    rw [spotsF]
    by_cases h:pos<s.size
    · rw [if_pos h]
      obtain ⟨w1,w2⟩:=width s pos h
      unfold Sm at hs
      have hst:glyph_End_s1 s (line,col,pos)=some (.inl ((if (Utf8.decode s pos).1=10 then line+1 else line),(if (Utf8.decode s pos).1=10 then 1 else col+1),pos+(Utf8.decode s pos).2)):=by
        rw [glyph_End_s1,if_pos h,step_eq (by omega) (by omega)]; rfl
      rw [loopO_inl hst,ih _ _ _ (by omega) w2 (by split <;> omega) (by split <;> omega)]
      generalize spotsF s f (pos+(Utf8.decode s pos).2) (if (Utf8.decode s pos).1=10 then line+1 else line) (if (Utf8.decode s pos).1=10 then 1 else col+1)=l
      cases l with
      | nil =>
        simp only [List.getLast?_nil,List.getLast?_singleton]
        by_cases e:(Utf8.decode s pos).1=10
        · rw [if_pos e,if_pos e,if_pos (by omega)]
        · rw [if_neg e,if_neg e,if_neg (by omega)]
      | cons a l =>
        rw [List.getLast?_cons_cons]
        cases hl:(a::l).getLast? with
        | none=>simp at hl
        | some x=>rfl
    · rw [if_neg h]
      refine loopO_inr ?_
      rw [glyph_End_s1,if_neg h]; rfl
def endOf(l:List T_glyph_Spot):Int × Int:=match l.getLast? with | none=>(1,1) | some x=>if x.Rune=10 then (x.Line+1,1) else (x.Line,x.Col+1)
theorem glyph_End_eq(s:ByteArray)(hs:Sm s):glyph_End s=some (endOf (spots s)):=by
  rw [glyph_End,glyph_end s hs s.size 0 1 1 (by omega) (by omega) (by omega) (by omega)]
  simp only [Option.bind_some,endOf,spots]
end Go.Vs
end

section
/-! A text's runes: the document's own way. -/
set_option linter.unusedVariables false
set_option linter.unusedSimpArgs false
set_option linter.unusedSectionVars false
namespace Go.Vs
local instance tabPalLex2:Tab:=⟨fun _=>none⟩
def toR(x:T_glyph_Spot):T_palingref1_Spot:={ Rune:=x.Rune,At:=x.At,Size:=x.Size,Line:=x.Line,Col:=x.Col,Bad:=x.Bad }
def shutR(x:T_glyph_Spot):T_palingref1_Spot:={ Rune:=x.Rune,At:=x.At,Size:=x.Size,Line:=x.Line,Col:=x.Col,Bad:=false }
def opnR(x:T_glyph_Spot):T_palingref1_Spot:={ Rune:=x.Rune,At:=x.At,Size:=0,Line:=x.Line,Col:=x.Col,Bad:=false }
theorem rd_mid{α:Type}[Inhabited α](a b:List α)(x:α):rd (a++x::b) (a.length:Int)=x:=by
  rw [rd,Int.toNat_natCast,List.getD_eq_getElem?_getD,List.getElem?_append_right (Nat.le_refl _)]; simp
theorem set_mid{α:Type}(a b:List α)(x y:α):(a++x::b).set a.length y=a++y::b:=by
  rw [List.set_append_right _ _ (Nat.le_refl _)]; simp
theorem spotsF_all(s:ByteArray):∀(f pos:Nat) (line col:Int),∀x∈spotsF s f pos line col,(pos:Int) ≤ x.At ∧ 1 ≤ x.Size ∧ x.At+x.Size ≤ s.size ∧ x.Bad=(x.Rune==65533&&x.Size==1):=by
  intro f
  induction f with
  | zero=>intro pos line col x hx; simp [spotsF] at hx
  | succ f ih =>
    intro pos line col x hx
    rw [spotsF] at hx
    split at hx
    · rename_i h
      obtain ⟨w1,w2⟩:=width s pos h
      rcases List.mem_cons.1 hx with rfl | hx
      · refine ⟨Int.le_refl _,by simp; omega,by simp; omega,?_⟩
        simp only
        rw [Bool.eq_iff_iff]; simp; omega
      · obtain ⟨a,b,c,d⟩:=ih _ _ _ x hx
        exact ⟨by omega,b,c,d⟩
    · simp at hx
theorem spotsF_len(s:ByteArray):∀(f pos:Nat) (line col:Int),(spotsF s f pos line col).length ≤ s.size-pos:=by
  intro f
  induction f with
  | zero=>intro pos line col; simp [spotsF]
  | succ f ih =>
    intro pos line col
    rw [spotsF]
    split
    · rename_i h
      obtain ⟨w1,w2⟩:=width s pos h
      have:=ih (pos+(Utf8.decode s pos).2) (if (Utf8.decode s pos).1=10 then line+1 else line) (if (Utf8.decode s pos).1=10 then 1 else col+1)
      simp only [List.length_cons]; omega
    · simp
theorem spotsF_sorted(s:ByteArray):∀(f pos:Nat) (line col:Int),(spotsF s f pos line col).Pairwise fun x y=>x.At ≤ y.At:=by
  intro f
  induction f with
  | zero=>intro pos line col; simp [spotsF]
  | succ f ih =>
    intro pos line col
    rw [spotsF]
    split
    · rename_i h
      refine List.Pairwise.cons (fun y hy=>?_) (ih _ _ _)
      have:=(spotsF_all s _ _ _ _ y hy).1
      simp only; omega
    · exact List.Pairwise.nil
theorem ref_j1(s:ByteArray)(hs:Sm s)(pos:Nat)(h:pos<s.size)(line col:Int)(hl:0 ≤ line ∧ line ≤ 1+pos)(hc:0 ≤ col ∧ col ≤ 1+pos)(out:List T_palingref1_Spot)(ho:out.length ≤ pos) :
    palingref1_Spots_j1 s pos line col out=some (.inl ((if (Utf8.decode s pos).1=10 then line+1 else line),(if (Utf8.decode s pos).1=10 then 1 else col+1),pos+(Utf8.decode s pos).2,
      out++[opnR { Rune:=((Utf8.decode s pos).1:Int),At:=(pos:Int),Size:=((Utf8.decode s pos).2:Int),Line:=line,Col:=col,Bad:=(Utf8.decode s pos).1==65533&&(Utf8.decode s pos).2==1 }])):=by
  unfold Sm at hs
  rw [palingref1_Spots_j1,if_pos (show Fits _ by unfold Fits; omega)]
  simp only [Option.bind_some]
  have e1:IntKind.wrap .i64 (line+1)=line+1:=wi64_id ⟨by omega,by omega⟩
  have e2:IntKind.wrap .i64 (col+1)=col+1:=wi64_id ⟨by omega,by omega⟩
  rw [e1,e2]
  by_cases he:(Utf8.decode s pos).1=10
  · rw [if_pos (by rw [he]; rfl),if_pos he,if_pos he]; rfl
  · rw [if_neg (by simp; omega),if_neg he,if_neg he]; rfl
theorem ref_loop1(s:ByteArray)(hs:Sm s):∀(f pos:Nat) (line col:Int) (ini:List T_glyph_Spot) (x:T_glyph_Spot),s.size-pos ≤ f → pos ≤ s.size → 0 ≤ line ∧ line ≤ 1+pos → 0 ≤ col ∧ col ≤ 1+pos → ini.length<pos →
    x.At+x.Size=pos → 0 ≤ x.At → 0 ≤ x.Size →
    ∃ini' y,loopO (palingref1_Spots_s1 s) (line,col,pos,ini.map shutR++[opnR x])=some (ini'.map shutR++[opnR y]) ∧ ini++x::spotsF s f pos line col=ini'++[y] ∧ y.At+y.Size=s.size ∧ 0 ≤ y.At ∧ 0 ≤ y.Size:=by
  intro f
  induction f with
  | zero =>
    intro pos line col ini x hf hp hl hc ho hx hx0 hx1
    have h:¬pos<s.size:=by omega
    refine ⟨ini,x,loopO_inr (by rw [palingref1_Spots_s1,if_neg h]),by rw [spotsF],by omega,hx0,hx1⟩
  | succ f ih =>
    intro pos line col ini x hf hp hl hc ho hx hx0 hx1
    rw [spotsF]
    by_cases h:pos<s.size
    · rw [if_pos h]
      obtain ⟨w1,w2⟩:=width s pos h
      have hs':=hs
      unfold Sm at hs'
      have elen:((ini.map shutR++[opnR x]).length:Int)=(ini.length:Int)+1:=by simp
      have ewr:IntKind.wrap .i64 (((ini.map shutR++[opnR x]).length:Int)-1)=((ini.map shutR).length:Int):=by
        rw [elen,wi64_id ⟨by omega,by omega⟩]; simp
      have hin:InB (((ini.map shutR).length:Nat):Int) (ini.map shutR++[opnR x]).length:=⟨by omega,by simp⟩
      have hst:palingref1_Spots_s1 s (line,col,pos,ini.map shutR++[opnR x])=palingref1_Spots_j1 s pos line col ((ini++[x]).map shutR):=by
        rw [palingref1_Spots_s1,if_pos h,if_pos (by rw [elen]; simp <;> omega),ewr,if_pos hin,if_pos hin]
        simp only [Option.bind_some]
        rw [rd_mid,Int.toNat_natCast,set_mid]
        have e:IntKind.wrap .i64 ((pos:Int)-(opnR x).At)=x.Size:=by
          have:(opnR x).At=x.At:=rfl
          rw [this,wi64_id ⟨by omega,by omega⟩]; omega
        rw [e,List.map_append]
        rfl
      rw [ref_j1 s hs pos h line col hl hc _ (by simp; omega)] at hst
      obtain ⟨ini',y,h1,h2,h3⟩:=ih (pos+(Utf8.decode s pos).2) (if (Utf8.decode s pos).1=10 then line+1 else line) (if (Utf8.decode s pos).1=10 then 1 else col+1) (ini++[x])
        { Rune:=((Utf8.decode s pos).1:Int),At:=(pos:Int),Size:=((Utf8.decode s pos).2:Int),Line:=line,Col:=col,Bad:=(Utf8.decode s pos).1==65533&&(Utf8.decode s pos).2==1 }
        (by omega) w2 (by split <;> omega) (by split <;> omega) (by simp; omega) (by simp) (by simp) (by simp)
      exact ⟨ini',y,(loopO_inl hst).trans h1,by rw [← h2]; simp,h3⟩
    · rw [if_neg h]
      exact ⟨ini,x,loopO_inr (by rw [palingref1_Spots_s1,if_neg h]),rfl,by omega,hx0,hx1⟩
theorem ref_loop2:∀(rest done:List T_glyph_Spot),done.length+rest.length ≤ 1000000 → (∀x∈rest,x.Bad=(x.Rune==65533&&x.Size==1)) →
    loopO palingref1_Spots_s2 ((done.length:Int),done.map toR++rest.map shutR)=some ((done++rest).map toR):=by
  intro rest
  induction rest with
  | nil =>
    intro done hd hb
    refine loopO_inr ?_
    rw [palingref1_Spots_s2,if_neg (by simp)]
    simp
  | cons x rest ih =>
    intro done hd hb
    simp only [List.length_cons] at hd
    have hin:InB (((done.map toR).length:Nat):Int) (done.map toR++shutR x::rest.map shutR).length:=⟨by omega,by simp⟩
    have elen:(done.length:Int)=(((done.map toR).length:Nat):Int):=by simp
    have hst:palingref1_Spots_s2 ((done.length:Int),done.map toR++(x::rest).map shutR)=some (.inl (((done++[x]).length:Int),(done++[x]).map toR++rest.map shutR)):=by
      rw [List.map_cons,palingref1_Spots_s2,elen,if_pos (by simp; omega),if_pos hin,if_pos (fun _=>hin),if_pos hin]
      simp only [Option.bind_some]
      rw [rd_mid,Int.toNat_natCast,set_mid]
      have e:IntKind.wrap .i64 ((((done.map toR).length:Nat):Int)+1)=((done++[x]).length:Int):=by
        rw [wi64_id ⟨by simp; omega,by simp; omega⟩]; simp
      rw [e]
      have hx:=hb x (by simp)
      have e2:T_palingref1_Spot.mk (shutR x).Rune (shutR x).At (shutR x).Size (shutR x).Line (shutR x).Col (((shutR x).Rune==65533)&&((shutR x).Size==1))=toR x:=by
        unfold toR shutR; rw [hx]
      rw [e2]
      simp
    rw [loopO_inl hst,ih (done++[x]) (by simp; omega) (fun y hy=>hb y (by simp [hy]))]
    simp
theorem ref_Spots_eq(s:ByteArray)(hs:Sm s):palingref1_Spots s=some ((spots s).map toR):=by
  have hs':=hs
  unfold Sm at hs'
  have fin:∀l:List T_glyph_Spot,l.length ≤ 1000000 → (∀x∈l,x.Bad=(x.Rune==65533&&x.Size==1)) → palingref1_Spots_j2 (l.map shutR)=some (l.map toR):=by
    intro l hl hb
    have:=ref_loop2 l [] (by simpa using hl) hb
    rw [palingref1_Spots_j2]
    have e:loopO palingref1_Spots_s2 (0,l.map shutR)=some (l.map toR):=by simpa using this
    rw [e]; rfl
  have hlen:(spots s).length ≤ 1000000:=by have:=spotsF_len s s.size 0 1 1; unfold spots; omega
  have hbad:∀x∈spots s,x.Bad=(x.Rune==65533&&x.Size==1):=fun x hx=>(spotsF_all s _ _ _ _ x hx).2.2.2
  rw [palingref1_Spots]
  cases hn:s.size with
  | zero =>
    have h:¬0<s.size:=by omega
    have e1:loopO (palingref1_Spots_s1 s) (1,1,0,[])=some []:=loopO_inr (by rw [palingref1_Spots_s1,if_neg h])
    have e2:spots s=[]:=by unfold spots; rw [hn,spotsF]
    rw [e1,e2]
    simp only [Option.bind_some]
    rw [if_neg (by simp)]
    exact fin [] (by simp) (by simp)
  | succ n =>
    have h:0<s.size:=by omega
    obtain ⟨w1,w2⟩:=width s 0 h
    have hst:palingref1_Spots_s1 s (1,1,0,[])=palingref1_Spots_j1 s 0 1 1 []:=by
      rw [palingref1_Spots_s1,if_pos h,if_neg (by simp)]
    rw [ref_j1 s hs 0 h 1 1 (by omega) (by omega) [] (by simp)] at hst
    obtain ⟨ini',y,h1,h2,h3,h4,h5⟩:=ref_loop1 s hs n (0+(Utf8.decode s 0).2) (if (Utf8.decode s 0).1=10 then 1+1 else 1) (if (Utf8.decode s 0).1=10 then 1 else 1+1) []
      { Rune:=((Utf8.decode s 0).1:Int),At:=((0:Nat):Int),Size:=((Utf8.decode s 0).2:Int),Line:=1,Col:=1,Bad:=(Utf8.decode s 0).1==65533&&(Utf8.decode s 0).2==1 }
      (by omega) (by omega) (by split <;> omega) (by split <;> omega) (by simp; omega) (by simp) (by simp) (by simp)
    have hsp:spots s=ini'++[y]:=by
      rw [← h2]
      unfold spots
      rw [hn,spotsF,if_pos h]; rfl
    rw [(loopO_inl hst).trans h1]
    simp only [Option.bind_some]
    have elen:((ini'.map shutR++[opnR y]).length:Int)=(ini'.length:Int)+1:=by simp
    have hil:ini'.length<1000000:=by rw [hsp] at hlen; simp at hlen; omega
    have ewr:IntKind.wrap .i64 (((ini'.map shutR++[opnR y]).length:Int)-1)=((ini'.map shutR).length:Int):=by
      rw [elen,wi64_id ⟨by omega,by omega⟩]; simp
    have hin:InB (((ini'.map shutR).length:Nat):Int) (ini'.map shutR++[opnR y]).length:=⟨by omega,by simp⟩
    rw [if_pos (by rw [elen]; simp <;> omega),ewr,if_pos hin,if_pos hin,rd_mid,Int.toNat_natCast,set_mid]
    have e:IntKind.wrap .i64 (((s.size:Nat):Int)-(opnR y).At)=y.Size:=by
      have:(opnR y).At=y.At:=rfl
      rw [this,wi64_id ⟨by omega,by omega⟩]; omega
    have e3:ini'.map shutR++[T_palingref1_Spot.mk (opnR y).Rune (opnR y).At (IntKind.wrap .i64 (((s.size:Nat):Int)-(opnR y).At)) (opnR y).Line (opnR y).Col (opnR y).Bad]=(spots s).map shutR:=by
      rw [e,hsp,List.map_append]; rfl
    rw [hn] at e3
    rw [e3]
    exact fin (spots s) hlen hbad
end Go.Vs
end

section
/-! Readings and writings, shorter. -/
set_option linter.unusedVariables false
set_option linter.unusedSimpArgs false
set_option linter.unusedSectionVars false
namespace Go.Vs
local instance tabPalNumLaws0:Tab:=⟨fun _=>none⟩
open Go.Lib (decDigits itoa nDigits)
theorem numRead{s:ByteArray}(h:s.size ≤ 281474976710656):num_Read s=some (readS s):=if_pos h
theorem pick_some{p:Int}(h:I64 p)(n:Int)(hn:0<n)(hn2:n ≤ 1000):∃i,palingbook_Pick p n=some i ∧ 0 ≤ i ∧ i<n:=by
  rw [palingbook_Pick,if_pos (by omega)]
  have h1:=Int.tmod_lt_of_pos p hn
  have h2:-n<Int.tmod p n:=by
    have:=Int.tmod_lt_of_pos (-p) hn
    rw [Int.neg_tmod] at this; omega
  by_cases hc:Int.tmod p n<0
  · rw [if_pos (by simpa using hc),wi64_id ⟨by omega,by omega⟩]
    exact ⟨_,rfl,by omega,by omega⟩
  · rw [if_neg (by simpa using hc)]
    exact ⟨_,rfl,by omega,by omega⟩
end Go.Vs
end

section
/-! Tokens: both ways of taking a text apart come to the same. -/
set_option linter.unusedVariables false
set_option linter.unusedSimpArgs false
set_option linter.unusedSectionVars false
namespace Go.Vs
local instance tabPalLex3:Tab:=⟨fun _=>none⟩
def letterB(p0:Int):Bool:=(((decide (p0≥97)&&decide (p0 ≤ 122))||(decide (p0≥65)&&decide (p0 ≤ 90)))||(p0==95))||(decide (p0≥161)&&decide (p0 ≤ 1114111))
def digitB(p0:Int):Bool:=decide (p0≥48)&&decide (p0 ≤ 57)
def blankB(p0:Int):Bool:=(p0==32)||(p0==9)
def signB(p0:Int):Bool:=(((p0==44)||(p0==91))||(p0==93))||(p0==58)
theorem gLetter(r:Int):glyph_Letter r=some (letterB r):=rfl
theorem rLetter(r:Int):palingref1_Letter r=some (letterB r):=rfl
theorem gDigit(r:Int):glyph_Digit r=some (digitB r):=rfl
theorem rDigit(r:Int):palingref1_Digit r=some (digitB r):=rfl
theorem gBlank(r:Int):glyph_Blank r=some (blankB r):=rfl
theorem rBlank(r:Int):palingref1_Blank r=some (blankB r):=rfl
theorem rd_map{v:List T_glyph_Spot}{i:Int}(h:InB i v.length):rd (v.map toR) i=toR (rd v i):=by
  obtain ⟨h0,h1⟩:=h
  rw [rd,rd,List.getD_eq_getElem?_getD,List.getD_eq_getElem?_getD,List.getElem?_map,List.getElem?_eq_getElem h1]; rfl
def wordAt(v:List T_glyph_Spot)(i:Int):Bool:=(decide (i<(v.length:Int))&&!(rd v i).Bad)&&(letterB (rd v i).Rune||digitB (rd v i).Rune)
theorem inb_of{i:Int}{n:Nat}(h0:0 ≤ i)(h:decide (i<(n:Int))=true):InB i n:=⟨h0,by have:=of_decide_eq_true h; omega⟩
theorem run_step{v:List T_glyph_Spot}{i:Int}(h0:0 ≤ i)(h1:i ≤ 1000000):lex_run_s1 v i=some (if wordAt v i=true then .inl (i+1) else .inr i):=by
  have e1:IntKind.wrap .i64 (i+1)=i+1:=wi64_id ⟨by omega,by omega⟩
  rw [lex_run_s1,if_pos (inb_of h0),if_pos (fun h=>inb_of h0 (by simp only [Bool.and_eq_true] at h; exact h.1)),e1,wordAt]
  cases hA:(decide (i<(v.length:Int))&&!(rd v i).Bad) with
  | false=>simp
  | true =>
    have hin:InB i v.length:=inb_of h0 (by simp only [Bool.and_eq_true] at hA; exact hA.1)
    simp only [if_true,gLetter,Option.bind_some,Bool.true_and]
    rw [if_pos (fun _=>hin)]
    cases hl:letterB (rd v i).Rune <;> (try simp [gDigit]) <;> (try (split <;> rfl))
theorem run_stepR{v:List T_glyph_Spot}{i:Int}(h0:0 ≤ i)(h1:i ≤ 1000000):palingref1_Tokens_s3 (v.map toR) i=some (if wordAt v i=true then .inl (i+1) else .inr i):=by
  have e1:IntKind.wrap .i64 (i+1)=i+1:=wi64_id ⟨by omega,by omega⟩
  have el:(v.map toR).length=v.length:=by simp
  rw [palingref1_Tokens_s3,el,if_pos (inb_of h0),if_pos (fun h=>inb_of h0 (by simp only [Bool.and_eq_true] at h; exact h.1)),e1,wordAt]
  cases hd:decide (i<(v.length:Int)) with
  | false=>simp
  | true =>
    have hin:InB i v.length:=inb_of h0 hd
    rw [rd_map hin]
    have eb:(toR (rd v i)).Bad=(rd v i).Bad:=rfl
    have er:(toR (rd v i)).Rune=(rd v i).Rune:=rfl
    rw [eb,er]
    cases hb:(rd v i).Bad with
    | true=>simp
    | false =>
      simp only [Bool.not_false,Bool.and_true,if_true,rLetter,Option.bind_some,Bool.true_and]
      rw [if_pos (fun _=>hin)]
      cases hl:letterB (rd v i).Rune <;> (try simp [rDigit]) <;> (try (split <;> rfl))
def runC(v:List T_glyph_Spot):Nat → Int → Int
  | 0,i=>i
  | n+1,i=>if wordAt v i=true then runC v n (i+1) else i
theorem run_loop(v:List T_glyph_Spot)(hv:v.length ≤ 1000000):∀(n:Nat) (i:Int),0 ≤ i → i ≤ v.length → v.length-i.toNat ≤ n →
    ∃k,k=runC v n i ∧ loopO (lex_run_s1 v) i=some k ∧ loopO (palingref1_Tokens_s3 (v.map toR)) i=some k ∧ i ≤ k ∧ k ≤ v.length:=by
  intro n
  induction n with
  | zero =>
    intro i h0 h1 hn
    have hw:wordAt v i=false:=by
      have:decide (i<(v.length:Int))=false:=decide_eq_false (by omega)
      rw [wordAt,this]; rfl
    refine ⟨i,rfl,loopO_inr ?_,loopO_inr ?_,Int.le_refl _,h1⟩
    · rw [run_step h0 (by omega),hw]; rfl
    · rw [run_stepR h0 (by omega),hw]; rfl
  | succ n ih =>
    intro i h0 h1 hn
    cases hw:wordAt v i with
    | false =>
      refine ⟨i,by rw [runC,hw]; rfl,loopO_inr ?_,loopO_inr ?_,Int.le_refl _,h1⟩
      · rw [run_step h0 (by omega),hw]; rfl
      · rw [run_stepR h0 (by omega),hw]; rfl
    | true =>
      have hlt:i<(v.length:Int):=by
        simp only [wordAt,Bool.and_eq_true,decide_eq_true_eq] at hw; exact hw.1.1
      obtain ⟨k,e,a,b,c,d⟩:=ih (i+1) (by omega) (by omega) (by omega)
      refine ⟨k,by rw [runC,hw]; exact e,?_,?_,by omega,d⟩
      · rw [loopO_inl (by rw [run_step h0 (by omega),hw]; rfl)]; exact a
      · rw [loopO_inl (by rw [run_stepR h0 (by omega),hw]; rfl)]; exact b
def remAt(v:List T_glyph_Spot)(i:Int):Int ⊕ (Int ⊕ ((List T_api_Token) × T_api_Fault)) :=
  if (decide (i<(v.length:Int))&&((rd v i).Rune != 10))=true then (if (rd v i).Bad=true then .inr (.inr ([],⟨1,(rd v i).Line,(rd v i).Col⟩)) else .inl (i+1)) else .inr (.inl i)
theorem rem_step{v:List T_glyph_Spot}{i:Int}(h0:0 ≤ i)(h1:i ≤ 1000000):lex_Tokens_s2 v i=some (remAt v i):=by
  have e1:IntKind.wrap .i64 (i+1)=i+1:=wi64_id ⟨by omega,by omega⟩
  rw [lex_Tokens_s2,if_pos (inb_of h0),e1,remAt]
  by_cases hA:(decide (i<(v.length:Int))&&((rd v i).Rune != 10))=true
  · have hin:InB i v.length:=inb_of h0 (by simp only [Bool.and_eq_true] at hA; exact hA.1)
    rw [if_pos hA,if_pos hA,if_pos hin]
    by_cases hb:(rd v i).Bad=true
    · rw [if_pos hb,if_pos hb,if_pos hin]; rfl
    · rw [if_neg hb,if_neg hb]
  · rw [if_neg hA,if_neg hA]
theorem rem_stepR{v:List T_glyph_Spot}{i:Int}(h0:0 ≤ i)(h1:i ≤ 1000000):palingref1_Tokens_s2 (v.map toR) i=some (remAt v i):=by
  have e1:IntKind.wrap .i64 (i+1)=i+1:=wi64_id ⟨by omega,by omega⟩
  have el:(v.map toR).length=v.length:=by simp
  rw [palingref1_Tokens_s2,el,if_pos (inb_of h0),e1,remAt]
  by_cases hd:decide (i<(v.length:Int))=true
  · have hin:InB i v.length:=inb_of h0 hd
    rw [rd_map hin,hd]
    have er:(toR (rd v i)).Rune=(rd v i).Rune:=rfl
    have eb:(toR (rd v i)).Bad=(rd v i).Bad:=rfl
    rw [er,eb,if_pos hin,if_pos hin,if_pos hin]
    simp only [Bool.true_and]
    split
    · split <;> rfl
    · rfl
  · simp only [Bool.not_eq_true] at hd
    rw [hd]; simp
def remC(v:List T_glyph_Spot):Nat → Int → Int ⊕ ((List T_api_Token) × T_api_Fault)
  | 0,i=>.inl i
  | n+1,i=>match remAt v i with | .inl j=>remC v n j | .inr r=>r
theorem rem_loop(v:List T_glyph_Spot)(hv:v.length ≤ 1000000):∀(n:Nat) (i:Int),0 ≤ i → i ≤ v.length → v.length-i.toNat ≤ n →
    ∃r,r=remC v n i ∧ loopO (lex_Tokens_s2 v) i=some r ∧ loopO (palingref1_Tokens_s2 (v.map toR)) i=some r ∧ ∀k,r=.inl k → i ≤ k ∧ k ≤ v.length:=by
  intro n
  induction n with
  | zero =>
    intro i h0 h1 hn
    have hw:remAt v i=.inr (.inl i):=by
      have:decide (i<(v.length:Int))=false:=decide_eq_false (by omega)
      rw [remAt,this]; rfl
    refine ⟨.inl i,rfl,loopO_inr ?_,loopO_inr ?_,fun k e=>?_⟩
    · rw [rem_step h0 (by omega),hw]
    · rw [rem_stepR h0 (by omega),hw]
    · injection e with e; omega
  | succ n ih =>
    intro i h0 h1 hn
    cases hw:remAt v i with
    | inr r =>
      refine ⟨r,by rw [remC,hw],loopO_inr ?_,loopO_inr ?_,fun k e=>?_⟩
      · rw [rem_step h0 (by omega),hw]
      · rw [rem_stepR h0 (by omega),hw]
      · subst e
        unfold remAt at hw
        split at hw
        · split at hw
          · injection hw with hw; cases hw
          · cases hw
        · injection hw with hw; injection hw with hw; omega
    | inl j =>
      have hj:j=i+1 ∧ i<(v.length:Int):=by
        unfold remAt at hw
        split at hw
        · rename_i hc
          simp only [Bool.and_eq_true,decide_eq_true_eq] at hc
          split at hw
          · cases hw
          · injection hw with hw; exact ⟨hw.symm,hc.1⟩
        · cases hw
      obtain ⟨rfl,hlt⟩:=hj
      obtain ⟨r,er,a,b,c⟩:=ih (i+1) (by omega) (by omega) (by omega)
      refine ⟨r,by rw [remC,hw]; exact er,?_,?_,fun k e=>?_⟩
      · rw [loopO_inl (by rw [rem_step h0 (by omega),hw])]; exact a
      · rw [loopO_inl (by rw [rem_stepR h0 (by omega),hw])]; exact b
      · have:=c k e; omega
theorem wrong_eq{kind L C n:Int}{t:ByteArray}(hkind:kind=1 ∨ kind=2 ∨ kind=3 ∨ kind=4)(ht:t.size ≤ 281474976710656) :
    lex_wrong (T_api_Token.mk kind L C t) n=some (if kind=1 ∧ n>16 then 3 else if kind=2 ∧ (readS t).2=false then 2 else 0):=by
  rw [lex_wrong]
  show (if ((kind==1)&&decide (n>16))=true then some 3 else if (kind==2)=true then ((num_Read t).bind fun v4=>if (!v4.2)=true then some 2 else some 0) else some 0)=_
  rw [numRead ht]
  simp only [Option.bind_some,Bool.and_eq_true,beq_iff_eq,decide_eq_true_eq,Bool.not_eq_true']
  by_cases p1:kind=1 ∧ n>16
  · rw [if_pos p1,if_pos p1]
  · rw [if_neg p1,if_neg p1]
    by_cases p2:kind=2
    · rw [if_pos p2]
      by_cases p3:(readS t).2=false
      · rw [if_pos p3,if_pos ⟨p2,p3⟩]
      · rw [if_neg p3,if_neg (fun h=>p3 h.2)]
    · rw [if_neg p2,if_neg (fun h=>p2 h.1)]
structure Good (s:ByteArray) (v:List T_glyph_Spot):Prop where
  sm:Sm s
  len:v.length ≤ s.size
  at0:∀i,InB i v.length → 0 ≤ (rd v i).At ∧ 1 ≤ (rd v i).Size ∧ (rd v i).At+(rd v i).Size ≤ s.size
  le:∀i j,InB i v.length → InB j v.length → i ≤ j → (rd v i).At ≤ (rd v j).At
theorem rd_get{v:List T_glyph_Spot}{i:Int}(h:InB i v.length):rd v i=v[i.toNat]'h.2:=by
  rw [rd,List.getD_eq_getElem?_getD,List.getElem?_eq_getElem h.2]; rfl
theorem good_spots(s:ByteArray)(hs:Sm s):Good s (spots s):=by
  refine ⟨hs,by have:=spotsF_len s s.size 0 1 1; unfold spots; omega,fun i h=>?_,fun i j hi hj hij=>?_⟩
  · rw [rd_get h]
    obtain ⟨a,b,c,_⟩:=spotsF_all s _ _ _ _ _ (List.getElem_mem h.2)
    exact ⟨by simpa using a,b,c⟩
  · rw [rd_get hi,rd_get hj]
    by_cases e:i=j
    · subst e; exact Int.le_refl _
    · have:=hi.1
      exact List.pairwise_iff_getElem.1 (spotsF_sorted s _ _ _ _) i.toNat j.toNat hi.2 hj.2 (by omega)
def tail(v:List T_glyph_Spot)(s:ByteArray)(i:Int)(l:List T_api_Token)(k kind:Int):(Int × List T_api_Token) ⊕ (List T_api_Token ⊕ ((List T_api_Token) × T_api_Fault)) :=
  let t:=s.extract (rd v i).At.toNat ((rd v (k-1)).At+(rd v (k-1)).Size).toNat
  if kind=1 ∧ k-i>16 then .inr (.inr ([],⟨3,(rd v i).Line,(rd v i).Col⟩))
  else if kind=2 ∧ (readS t).2=false then .inr (.inr ([],⟨2,(rd v i).Line,(rd v i).Col⟩))
  else .inl (k,l++[⟨kind,(rd v i).Line,(rd v i).Col,t⟩])
section
variable {s:ByteArray} {v:List T_glyph_Spot} (g:Good s v) {i k:Int} {l:List T_api_Token} (hi:InB i v.length) (hk:i<k) (hkn:k ≤ v.length) (hl:l.length ≤ 1000000)
include g hi hk hkn hl
theorem kFacts:IntKind.wrap .i64 (k-1)=k-1 ∧ InB (k-1) v.length ∧ IntKind.wrap .i64 (k-i)=k-i ∧ IntKind.wrap .i64 ((rd v (k-1)).At+(rd v (k-1)).Size)=(rd v (k-1)).At+(rd v (k-1)).Size ∧
    Bnd ((rd v (k-1)).At+(rd v (k-1)).Size) s.size ∧ Bnd (rd v i).At (((rd v (k-1)).At+(rd v (k-1)).Size).toNat):=by
  have hsm:=g.sm
  unfold Sm at hsm
  have hlen:=g.len
  obtain ⟨hi0,hi1⟩:=hi
  have hin:InB (k-1) v.length:=⟨by omega,by omega⟩
  obtain ⟨a1,a2,a3⟩:=g.at0 _ hin
  obtain ⟨b1,b2,b3⟩:=g.at0 _ ⟨hi0,hi1⟩
  have hle:=g.le i (k-1) ⟨hi0,hi1⟩ hin (by omega)
  exact ⟨wi64_id ⟨by omega,by omega⟩,hin,wi64_id ⟨by omega,by omega⟩,wi64_id ⟨by omega,by omega⟩,⟨by omega,by omega⟩,⟨by omega,by omega⟩⟩
theorem lex_tail(kind:Int)(hkind:kind=1 ∨ kind=2 ∨ kind=3 ∨ kind=4) :
    (if InB (IntKind.wrap .i64 (k-1)) v.length then (if InB (IntKind.wrap .i64 (k-1)) v.length then (if Bnd (IntKind.wrap .i64 ((rd v (IntKind.wrap .i64 (k-1))).At+(rd v (IntKind.wrap .i64 (k-1))).Size)) s.size then (if Bnd ((rd v i).At) ((IntKind.wrap .i64 ((rd v (IntKind.wrap .i64 (k-1))).At+(rd v (IntKind.wrap .i64 (k-1))).Size)).toNat) then ((some (s.extract (((rd v i).At).toNat) ((IntKind.wrap .i64 ((rd v (IntKind.wrap .i64 (k-1))).At+(rd v (IntKind.wrap .i64 (k-1))).Size)).toNat))).bind fun s222 =>
              (lex_wrong (T_api_Token.mk kind ((rd v i).Line) ((rd v i).Col) s222) (IntKind.wrap .i64 (k-i))).bind fun v224 =>
              if (v224 != 0)=true then ((lex_fault v224 (rd v i)).bind fun v227 =>
                some (.inr (.inr ([],v227)))) else (if Fits (l.length+1) then ((some (l++([(T_api_Token.mk kind ((rd v i).Line) ((rd v i).Col) s222)]))).bind fun l230 =>
                some (.inl (k,l230))) else none)) else none) else none) else none) else none)=some (tail v s i l k kind):=by
  obtain ⟨e1,hin,e2,e3,b1,b2⟩:=kFacts g hi hk hkn hl
  rw [e1,if_pos hin,if_pos hin,e3,if_pos b1,if_pos b2,e2]
  simp only [Option.bind_some,tail]
  generalize ht:s.extract (rd v i).At.toNat ((rd v (k-1)).At+(rd v (k-1)).Size).toNat=t
  have hts:t.size ≤ 1000000:=by
    have:=g.sm
    unfold Sm at this
    rw [← ht,ByteArray.size_extract]; omega
  have hf:Fits (l.length+1):=by unfold Fits; omega
  rw [wrong_eq hkind (by omega)]
  simp only [Option.bind_some,hf,if_true]
  by_cases p1:kind=1 ∧ k-i>16
  · rw [if_pos p1,if_pos p1]; rfl
  · rw [if_neg p1,if_neg p1]
    by_cases p2:kind=2 ∧ (readS t).2=false
    · rw [if_pos p2,if_pos p2]; rfl
    · rw [if_neg p2,if_neg p2]; rfl
theorem ref_tail(kind:Int)(hkind:kind=1 ∨ kind=2 ∨ kind=3 ∨ kind=4):palingref1_Tokens_j1 (v.map toR) s i l k kind=some (tail v s i l k kind):=by
  obtain ⟨e1,hin,e2,e3,b1,b2⟩:=kFacts g hi hk hkn hl
  have el:(v.map toR).length=v.length:=by simp
  rw [palingref1_Tokens_j1,e1,el,rd_map hin,rd_map hi]
  have q1:(toR (rd v (k-1))).At=(rd v (k-1)).At:=rfl
  have q2:(toR (rd v (k-1))).Size=(rd v (k-1)).Size:=rfl
  have q3:(toR (rd v i)).At=(rd v i).At:=rfl
  have q4:(toR (rd v i)).Line=(rd v i).Line:=rfl
  have q5:(toR (rd v i)).Col=(rd v i).Col:=rfl
  rw [q1,q2,q3,q4,q5,if_pos hin,if_pos hin,e3,if_pos b1,if_pos b2,e2]
  simp only [Option.bind_some,tail]
  generalize ht:s.extract (rd v i).At.toNat ((rd v (k-1)).At+(rd v (k-1)).Size).toNat=t
  have hts:t.size ≤ 1000000:=by
    have:=g.sm
    unfold Sm at this
    rw [← ht,ByteArray.size_extract]; omega
  have hf:Fits (l.length+1):=by unfold Fits; omega
  have hj2:palingref1_Tokens_j2 kind l (v.map toR) i t k=some (.inl (k,l++[⟨kind,(rd v i).Line,(rd v i).Col,t⟩])):=by
    rw [palingref1_Tokens_j2,rd_map hi,if_pos (by rcases hkind with rfl | rfl | rfl | rfl <;> rfl),if_pos hf]; rfl
  rw [hj2,palingref1_Read_eq t (by omega)]
  simp only [Option.bind_some,e2,Bool.and_eq_true,beq_iff_eq,decide_eq_true_eq,Bool.not_eq_true']
  by_cases p1:kind=1 ∧ k-i>16
  · rw [if_pos p1,if_pos p1]
  · rw [if_neg p1,if_neg p1]
    by_cases p2:kind=2
    · rw [if_pos p2]
      by_cases p3:(readS t).2=false
      · rw [if_pos p3,if_pos ⟨p2,p3⟩]
      · rw [if_neg p3,if_neg (fun h=>p3 h.2)]
    · rw [if_neg p2,if_neg (fun h=>p2 h.1)]
theorem ref_skip:palingref1_Tokens_j1 (v.map toR) s i l k 0=some (.inl (k,l)):=by
  obtain ⟨e1,hin,e2,e3,b1,b2⟩:=kFacts g hi hk hkn hl
  have el:(v.map toR).length=v.length:=by simp
  rw [palingref1_Tokens_j1,e1,el,rd_map hin,rd_map hi]
  have q1:(toR (rd v (k-1))).At=(rd v (k-1)).At:=rfl
  have q2:(toR (rd v (k-1))).Size=(rd v (k-1)).Size:=rfl
  have q3:(toR (rd v i)).At=(rd v i).At:=rfl
  rw [q1,q2,q3,if_pos hin,if_pos hin,e3,if_pos b1,if_pos b2]
  simp only [Option.bind_some]
  rw [if_neg (by simp),if_neg (by decide),palingref1_Tokens_j2,if_neg (by simp)]; rfl
end
end Go.Vs
end

section
/-! The two ways of taking a text apart are one. -/
set_option linter.unusedVariables false
set_option linter.unusedSimpArgs false
set_option linter.unusedSectionVars false
namespace Go.Vs
local instance tabPalLex4:Tab:=⟨fun _=>none⟩
def tokAt(v:List T_glyph_Spot)(s:ByteArray)(i:Int)(l:List T_api_Token):(Int × List T_api_Token) ⊕ (List T_api_Token ⊕ ((List T_api_Token) × T_api_Fault)) :=
  if (rd v i).Bad=true then .inr (.inr ([],⟨1,(rd v i).Line,(rd v i).Col⟩))
  else if blankB (rd v i).Rune=true then .inl (i+1,l)
  else if (rd v i).Rune=59 then (match remC v v.length (i+1) with | .inl k=>.inl (k,l) | .inr q=>.inr (.inr q))
  else if (rd v i).Rune=10 then tail v s i l (i+1) 4
  else if signB (rd v i).Rune=true then tail v s i l (i+1) 3
  else if letterB (rd v i).Rune=true then tail v s i l (runC v v.length (i+1)) 1
  else if (digitB (rd v i).Rune||((rd v i).Rune==45))=true then tail v s i l (runC v v.length (i+1)) 2
  else .inr (.inr ([],⟨1,(rd v i).Line,(rd v i).Col⟩))
section
variable {s:ByteArray} {v:List T_glyph_Spot} (g:Good s v) {i:Int} {l:List T_api_Token} (hi:InB i v.length) (hl:l.length ≤ 1000000)
include g hi hl
theorem bounds:0 ≤ i ∧ i<v.length ∧ v.length ≤ 1000000:=by
  have h1:=g.sm; have h2:=g.len; unfold Sm at h1
  obtain ⟨a,b⟩:=hi
  exact ⟨a,by omega,by omega⟩
theorem lex_step:lex_Tokens_s1 v s (i,l)=some (tokAt v s i l):=by
  obtain ⟨h0,h1,hv⟩:=bounds g hi hl
  have e1:IntKind.wrap .i64 (i+1)=i+1:=wi64_id ⟨by omega,by omega⟩
  have hd:decide (i<(v.length:Int))=true:=decide_eq_true h1
  obtain ⟨k,ek,lk,_,k1,k2⟩:=run_loop v hv v.length (i+1) (by omega) (by omega) (by omega)
  obtain ⟨r,er,lr,_,r1⟩:=rem_loop v hv v.length (i+1) (by omega) (by omega) (by omega)
  rw [lex_Tokens_s1,if_pos hd,if_pos hi,gBlank,e1]
  simp only [Option.bind_some]
  unfold tokAt
  by_cases c1:(rd v i).Bad=true
  · rw [if_pos c1,if_pos c1]; rfl
  rw [if_neg c1,if_neg c1]
  by_cases c2:blankB (rd v i).Rune=true
  · rw [if_pos c2,if_pos c2]
  rw [if_neg c2,if_neg c2]
  by_cases c3:(rd v i).Rune=59
  · rw [if_pos (by simpa using c3),if_pos c3]
    have hst:lex_Tokens_s2 v i=some (.inl (i+1)):=by
      rw [rem_step h0 (by omega),remAt,hd,if_pos (by rw [c3]; rfl),if_neg c1]
    rw [loopO_inl hst,lr,← er]
    simp only [Option.bind_some]
    cases r <;> rfl
  rw [if_neg (by simpa using c3),if_neg c3]
  have hrun:∀kk kind:Int,i<kk → kk ≤ v.length → (kind=1 ∨ kind=2 ∨ kind=3 ∨ kind=4) → lex_run v i=some (kk,kind) →
      ((lex_run v i).bind fun v213 =>
            if (v213.2==0)=true then ((lex_fault 1 (rd v i)).bind fun v216 =>
              some (.inr (.inr ([],v216)))) else (if InB (IntKind.wrap .i64 (v213.1-1)) v.length then (if InB (IntKind.wrap .i64 (v213.1-1)) v.length then (if Bnd (IntKind.wrap .i64 ((rd v (IntKind.wrap .i64 (v213.1-1))).At+(rd v (IntKind.wrap .i64 (v213.1-1))).Size)) s.size then (if Bnd ((rd v i).At) ((IntKind.wrap .i64 ((rd v (IntKind.wrap .i64 (v213.1-1))).At+(rd v (IntKind.wrap .i64 (v213.1-1))).Size)).toNat) then ((some (s.extract (((rd v i).At).toNat) ((IntKind.wrap .i64 ((rd v (IntKind.wrap .i64 (v213.1-1))).At+(rd v (IntKind.wrap .i64 (v213.1-1))).Size)).toNat))).bind fun s222 =>
              (lex_wrong (T_api_Token.mk v213.2 ((rd v i).Line) ((rd v i).Col) s222) (IntKind.wrap .i64 (v213.1-i))).bind fun v224 =>
              if (v224 != 0)=true then ((lex_fault v224 (rd v i)).bind fun v227 =>
                some (.inr (.inr ([],v227)))) else (if Fits (l.length+1) then ((some (l++([(T_api_Token.mk v213.2 ((rd v i).Line) ((rd v i).Col) s222)]))).bind fun l230 =>
                some (.inl (v213.1,l230))) else none)) else none) else none) else none) else none):Option ((Int × List T_api_Token) ⊕ (List T_api_Token ⊕ ((List T_api_Token) × T_api_Fault))))=some (tail v s i l kk kind):=by
    intro kk kind h2 h3 h4 h5
    rw [h5,Option.bind_some,if_neg (by rcases h4 with rfl | rfl | rfl | rfl <;> simp)]
    exact lex_tail g hi h2 h3 hl kind h4
  have hj:∀kind:Int,lex_run_j1 v i kind=some (runC v v.length (i+1),kind):=by
    intro kind
    rw [lex_run_j1,e1,lk,← ek]; rfl
  have hR:lex_run v i=if (rd v i).Rune=10 then some (i+1,4) else if signB (rd v i).Rune=true then some (i+1,3) else if letterB (rd v i).Rune=true then some (runC v v.length (i+1),1)
      else if (digitB (rd v i).Rune||((rd v i).Rune==45))=true then some (runC v v.length (i+1),2) else some (i,0):=by
    rw [lex_run,if_pos hi,e1,gLetter,gDigit,hj,hj]
    simp only [Option.bind_some,beq_iff_eq]
    rfl
  rw [← ek] at hR
  by_cases c4:(rd v i).Rune=10
  · rw [if_pos c4]; exact hrun _ _ (by omega) (by omega) (by omega) (by rw [hR,if_pos c4])
  by_cases c5:signB (rd v i).Rune=true
  · rw [if_neg c4,if_pos c5]; exact hrun _ _ (by omega) (by omega) (by omega) (by rw [hR,if_neg c4,if_pos c5])
  by_cases c6:letterB (rd v i).Rune=true
  · rw [if_neg c4,if_neg c5,if_pos c6,← ek]; exact hrun _ _ (by omega) (by omega) (by omega) (by rw [hR,if_neg c4,if_neg c5,if_pos c6])
  by_cases c7:(digitB (rd v i).Rune||((rd v i).Rune==45))=true
  · rw [if_neg c4,if_neg c5,if_neg c6,if_pos c7,← ek]; exact hrun _ _ (by omega) (by omega) (by omega) (by rw [hR,if_neg c4,if_neg c5,if_neg c6,if_pos c7])
  · rw [hR,if_neg c4,if_neg c5,if_neg c6,if_neg c7,if_neg c4,if_neg c5,if_neg c6,if_neg c7]; rfl
theorem ref_step:palingref1_Tokens_s1 (v.map toR) s (i,l)=some (tokAt v s i l):=by
  obtain ⟨h0,h1,hv⟩:=bounds g hi hl
  have e1:IntKind.wrap .i64 (i+1)=i+1:=wi64_id ⟨by omega,by omega⟩
  have hd:decide (i<(v.length:Int))=true:=decide_eq_true h1
  have el:(v.map toR).length=v.length:=by simp
  obtain ⟨k,ek,_,lk,k1,k2⟩:=run_loop v hv v.length (i+1) (by omega) (by omega) (by omega)
  obtain ⟨r,er,_,lr,r1⟩:=rem_loop v hv v.length (i+1) (by omega) (by omega) (by omega)
  have hsk:=fun kk h2 h3=>ref_skip g hi (k:=kk) h2 h3 hl
  have hT:=fun kk h2 h3=>ref_tail g hi (k:=kk) h2 h3 hl
  rw [palingref1_Tokens_s1,el,if_pos hd,if_pos hi,rd_map hi,rBlank,e1]
  have q1:(toR (rd v i)).Rune=(rd v i).Rune:=rfl
  have q2:(toR (rd v i)).Bad=(rd v i).Bad:=rfl
  have q4:(toR (rd v i)).Line=(rd v i).Line:=rfl
  have q5:(toR (rd v i)).Col=(rd v i).Col:=rfl
  rw [q1,q2,q4,q5]
  simp only [Option.bind_some]
  unfold tokAt
  by_cases c1:(rd v i).Bad=true
  · rw [if_pos c1,if_pos c1]
  rw [if_neg c1,if_neg c1]
  by_cases c2:blankB (rd v i).Rune=true
  · rw [if_pos c2,if_pos c2]; exact hsk _ (by omega) (by omega)
  rw [if_neg c2,if_neg c2]
  by_cases c3:(rd v i).Rune=59
  · rw [if_pos (by simpa using c3),if_pos c3,lr,← er]
    simp only [Option.bind_some]
    cases r with
    | inl k =>
      have:=r1 k rfl
      exact hsk _ (by omega) (by omega)
    | inr q=>rfl
  rw [if_neg (by simpa using c3),if_neg c3]
  by_cases c4:(rd v i).Rune=10
  · rw [if_pos (by simpa using c4),if_pos c4]; exact hT _ (by omega) (by omega) 4 (by omega)
  rw [if_neg (by simpa using c4),if_neg c4]
  show (if signB (rd v i).Rune=true then _ else _)=_
  by_cases c5:signB (rd v i).Rune=true
  · rw [if_pos c5,if_pos c5]; exact hT _ (by omega) (by omega) 3 (by omega)
  rw [if_neg c5,if_neg c5,rLetter,rDigit]
  simp only [Option.bind_some]
  by_cases c6:letterB (rd v i).Rune=true
  · rw [if_pos c6,c6]
    simp only [Bool.not_true,Bool.false_eq_true,if_false,Option.bind_some,Bool.true_or,if_true]
    rw [lk,← ek]
    exact hT _ (by omega) (by omega) 1 (by omega)
  · rw [if_neg c6]
    simp only [Bool.not_eq_true] at c6
    rw [c6]
    simp only [Bool.not_false,if_true,Option.bind_some,Bool.false_or]
    by_cases c7:(digitB (rd v i).Rune||((rd v i).Rune==45))=true
    · rw [if_pos c7,if_pos c7,lk,← ek]
      exact hT _ (by omega) (by omega) 2 (by omega)
    · rw [if_neg c7,if_neg c7]
theorem tok_next{k:Int}{l':List T_api_Token}(h:tokAt v s i l=.inl (k,l')):i<k ∧ k ≤ v.length ∧ l'.length ≤ l.length+1:=by
  obtain ⟨h0,h1,hv⟩:=bounds g hi hl
  obtain ⟨kk,ek,_,_,k1,k2⟩:=run_loop v hv v.length (i+1) (by omega) (by omega) (by omega)
  obtain ⟨r,er,_,_,r1⟩:=rem_loop v hv v.length (i+1) (by omega) (by omega) (by omega)
  have ht:∀a kind,tail v s i l a kind=.inl (k,l') → k=a ∧ l'.length ≤ l.length+1:=by
    intro a kind h
    unfold tail at h
    dsimp only at h
    split at h
    · cases h
    · split at h
      · cases h
      · injection h with h
        injection h with h3 h4
        exact ⟨h3.symm,by rw [← h4]; simp⟩
  unfold tokAt at h
  rw [← er,← ek] at h
  repeat' split at h
  all_goals first
    | (cases h; done)
    | (obtain ⟨rfl,h5⟩:=ht _ _ h; exact ⟨by omega,by omega,h5⟩)
    | (injection h with h; injection h with h3 h4; subst h3; subst h4; first | exact ⟨by omega,by omega,by omega⟩ | (have:=r1 _ rfl; exact ⟨by omega,by omega,by omega⟩))
end
def tokC(v:List T_glyph_Spot)(s:ByteArray):Nat → Int → List T_api_Token → List T_api_Token ⊕ ((List T_api_Token) × T_api_Fault)
  | 0,_,l=>.inl l
  | n+1,i,l=>if i<v.length then (match tokAt v s i l with | .inl (k,l')=>tokC v s n k l' | .inr r=>r) else .inl l
theorem tok_loop{s:ByteArray}{v:List T_glyph_Spot}(g:Good s v):∀(n:Nat) (i:Int) (l:List T_api_Token),0 ≤ i → i ≤ v.length → v.length-i.toNat ≤ n → l.length ≤ i.toNat →
    loopO (lex_Tokens_s1 v s) (i,l)=some (tokC v s n i l) ∧ loopO (palingref1_Tokens_s1 (v.map toR) s) (i,l)=some (tokC v s n i l) ∧ ∀l',tokC v s n i l=.inl l' → l'.length ≤ v.length:=by
  have h1:=g.sm
  have h2:=g.len
  unfold Sm at h1
  have el:(v.map toR).length=v.length:=by simp
  have stop:∀(i:Int) (l:List T_api_Token),¬i<v.length → loopO (lex_Tokens_s1 v s) (i,l)=some (.inl l) ∧ loopO (palingref1_Tokens_s1 (v.map toR) s) (i,l)=some (.inl l):=fun i l h =>
    ⟨loopO_inr (by rw [lex_Tokens_s1,if_neg (by simpa using h)]),loopO_inr (by rw [palingref1_Tokens_s1,el,if_neg (by simpa using h)])⟩
  intro n
  induction n with
  | zero =>
    intro i l h0 hv hn hl
    rw [tokC]
    exact ⟨(stop i l (by omega)).1,(stop i l (by omega)).2,fun l' e=>by injection e with e; subst e; omega⟩
  | succ n ih =>
    intro i l h0 hv hn hl
    rw [tokC]
    by_cases hlt:i<v.length
    · rw [if_pos hlt]
      have hin:InB i v.length:=⟨h0,by omega⟩
      have a:=lex_step g hin (l:=l) (by omega)
      have b:=ref_step g hin (l:=l) (by omega)
      cases ht:tokAt v s i l with
      | inl q =>
        obtain ⟨k,l'⟩:=q
        obtain ⟨n1,n2,n3⟩:=tok_next g hin (by omega) ht
        obtain ⟨x,y,z⟩:=ih k l' (by omega) n2 (by omega) (by omega)
        exact ⟨(loopO_inl (a.trans (by rw [ht]))).trans x,(loopO_inl (b.trans (by rw [ht]))).trans y,z⟩
      | inr r =>
        refine ⟨loopO_inr (a.trans (by rw [ht])),loopO_inr (b.trans (by rw [ht])),fun l' e=>?_⟩
        dsimp only at e
        subst e
        exfalso
        unfold tokAt tail at ht
        dsimp only at ht
        repeat' split at ht
        all_goals first | cases ht | (injection ht with ht; cases ht)
    · rw [if_neg hlt]
      exact ⟨(stop i l hlt).1,(stop i l hlt).2,fun l' e=>by injection e with e; subst e; omega⟩
def tokens(s:ByteArray):(List T_api_Token) × T_api_Fault:=match tokC (spots s) s (spots s).length 0 [] with
  | .inl l=>(l++[⟨4,(endOf (spots s)).1,(endOf (spots s)).2,⟨#[]⟩⟩],⟨0,0,0⟩)
  | .inr q=>q
theorem ref_End_eq(s:ByteArray)(hs:Sm s):palingref1_End s=some (endOf (spots s)):=by
  have hs':=hs
  unfold Sm at hs'
  rw [palingref1_End,ref_Spots_eq s hs]
  simp only [Option.bind_some]
  have hlen:(spots s).length ≤ 1000000:=by have:=spotsF_len s s.size 0 1 1; unfold spots; omega
  have hbd:∀x∈spots s,-1 ≤ x.Line ∧ x.Line ≤ 3000000 ∧ -1 ≤ x.Col ∧ x.Col ≤ 3000000:=by
    have:∀(f pos:Nat) (line col:Int),pos ≤ s.size → 0 ≤ line ∧ line ≤ 1+pos → 0 ≤ col ∧ col ≤ 1+pos → ∀x∈spotsF s f pos line col,-1 ≤ x.Line ∧ x.Line ≤ 3000000 ∧ -1 ≤ x.Col ∧ x.Col ≤ 3000000:=by
      intro f
      induction f with
      | zero=>intro pos line col _ _ _ x hx; simp [spotsF] at hx
      | succ f ih =>
        intro pos line col hp h1 h2 x hx
        rw [spotsF] at hx
        split at hx
        · rename_i h
          obtain ⟨w1,w2⟩:=width s pos h
          rcases List.mem_cons.1 hx with rfl | hx
          · exact ⟨by simp; omega,by simp; omega,by simp; omega,by simp; omega⟩
          · exact ih _ _ _ w2 (by split <;> omega) (by split <;> omega) x hx
        · simp at hx
    exact this _ _ _ _ (by omega) (by omega) (by omega)
  rcases List.eq_nil_or_concat (spots s) with h | ⟨ini,y,h⟩
  · rw [h]; rfl
  · rw [List.concat_eq_append] at h
    have hy:=hbd y (by rw [h]; simp)
    rw [h] at hlen
    simp only [List.length_append,List.length_cons,List.length_nil] at hlen
    have e0:endOf (spots s)=if y.Rune=10 then (y.Line+1,1) else (y.Line,y.Col+1):=by rw [h,endOf]; simp
    have elen:(((spots s).map toR).length:Int)=(ini.length:Int)+1:=by rw [h]; simp
    have em:(spots s).map toR=ini.map toR++toR y::[]:=by rw [h]; simp
    have ewr:IntKind.wrap .i64 ((((spots s).map toR).length:Int)-1)=((ini.map toR).length:Int):=by
      rw [elen,wi64_id ⟨by omega,by omega⟩]; simp
    have hin:InB (((ini.map toR).length:Nat):Int) ((spots s).map toR).length:=⟨by omega,by rw [em]; simp⟩
    rw [if_neg (by rw [elen]; simp; omega),ewr,if_pos hin,em,rd_mid,e0]
    have q1:(toR y).Rune=y.Rune:=rfl
    have q2:(toR y).Line=y.Line:=rfl
    have q3:(toR y).Col=y.Col:=rfl
    rw [q1,q2,q3,wi64_id (n:=y.Line+1) ⟨by omega,by omega⟩,wi64_id (n:=y.Col+1) ⟨by omega,by omega⟩]
    by_cases c:y.Rune=10
    · rw [if_pos (by simpa using c),if_pos c]
    · rw [if_neg (by simpa using c),if_neg c]
theorem lex_Tokens_eq(s:ByteArray)(hs:Sm s):lex_Tokens s=some (tokens s):=by
  have hs':=hs
  unfold Sm at hs'
  have g:=good_spots s hs
  have hg:=g.len
  obtain ⟨a,b,c⟩:=tok_loop g (spots s).length 0 [] (by omega) (by omega) (by omega) (by simp)
  rw [lex_Tokens,glyph_Spots_eq s hs,Option.bind_some,a,glyph_End_eq s hs]
  simp only [Option.bind_some,tokens]
  cases h:tokC (spots s) s (spots s).length 0 [] with
  | inl l =>
    have:=c l h
    simp only [onSum]
    rw [if_pos (show Fits _ by unfold Fits; omega)]
  | inr q=>rfl
theorem ref_Tokens_eq(s:ByteArray)(hs:Sm s):palingref1_Tokens s=some (tokens s):=by
  have hs':=hs
  unfold Sm at hs'
  have g:=good_spots s hs
  have hg:=g.len
  obtain ⟨a,b,c⟩:=tok_loop g (spots s).length 0 [] (by omega) (by omega) (by omega) (by simp)
  rw [palingref1_Tokens,ref_Spots_eq s hs,Option.bind_some,b,ref_End_eq s hs]
  simp only [Option.bind_some,tokens]
  cases h:tokC (spots s) s (spots s).length 0 [] with
  | inl l =>
    have:=c l h
    simp only [onSum]
    rw [if_pos (show Fits _ by unfold Fits; omega)]
  | inr q=>rfl
theorem same_refl(l:List T_api_Token)(hl:l.length ≤ 2000000):palingbook_SameTokens l l=some true:=by
  rw [palingbook_SameTokens,if_neg (by simp)]
  have:∀(n:Nat) (i:Int),0 ≤ i → l.length-i.toNat ≤ n → loopO (palingbook_SameTokens_s1 l l) i=some (.inl ()):=by
    intro n
    induction n with
    | zero=>intro i h0 hn; exact loopO_inr (by rw [palingbook_SameTokens_s1,if_neg (by simp; omega)])
    | succ n ih =>
      intro i h0 hn
      by_cases h:i<l.length
      · have hin:InB i l.length:=⟨h0,by omega⟩
        have e1:IntKind.wrap .i64 (i+1)=i+1:=wi64_id ⟨by omega,by omega⟩
        have hst:palingbook_SameTokens_s1 l l i=some (.inl (i+1)):=by
          rw [palingbook_SameTokens_s1,if_pos (by simpa using h),if_pos hin,if_pos hin,e1]
          have eb:((rd l i).Text==(rd l i).Text)=true:=by rw [Go.beq_toListBytes]; simp
          simp [eb]
        rw [loopO_inl hst]
        exact ih _ (by omega) (by omega)
      · exact loopO_inr (by rw [palingbook_SameTokens_s1,if_neg (by simpa using h)])
  rw [this _ 0 (by omega) (Nat.le_refl _)]; rfl
theorem tokens_len(s:ByteArray)(hs:Sm s):(tokens s).1.length ≤ 2000000:=by
  have g:=good_spots s hs
  have hg:=g.len
  unfold Sm at hs
  obtain ⟨a,b,c⟩:=tok_loop g (spots s).length 0 [] (by omega) (by omega) (by omega) (by simp)
  unfold tokens
  cases h:tokC (spots s) s (spots s).length 0 [] with
  | inl l=>have:=c l h; simp; omega
  | inr q =>
    have:∀(n:Nat) (i:Int) (l:List T_api_Token) q,tokC (spots s) s n i l=.inr q → q.1=[]:=by
      intro n
      induction n with
      | zero=>intro i l q h; cases h
      | succ n ih =>
        intro i l q h
        rw [tokC] at h
        split at h
        · cases ht:tokAt (spots s) s i l with
          | inl p=>rw [ht] at h; exact ih _ _ _ h
          | inr r =>
            rw [ht] at h
            dsimp only at h
            subst h
            have hrem:∀(n:Nat) (i:Int) q,remC (spots s) n i=.inr q → q.1=[]:=by
              intro n
              induction n with
              | zero=>intro i q h; cases h
              | succ n ih =>
                intro i q h
                rw [remC] at h
                cases hw:remAt (spots s) i with
                | inl j=>rw [hw] at h; exact ih _ _ h
                | inr r =>
                  rw [hw] at h
                  dsimp only at h
                  subst h
                  unfold remAt at hw
                  repeat' split at hw
                  all_goals first | (cases hw; done) | (cases hw; rfl)
            unfold tokAt tail at ht
            dsimp only at ht
            repeat' split at ht
            all_goals first
              | (cases ht; done)
              | (cases ht; rfl)
              | (cases ht; rename_i hq; exact hrem _ _ _ hq)
        · cases h
    have:=this _ _ _ _ h
    simp [this]
end Go.Vs
end
