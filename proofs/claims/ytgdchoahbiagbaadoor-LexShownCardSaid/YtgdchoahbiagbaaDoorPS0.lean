import Derived.Test.YtgdchoahbiagbaaDoorPalT
import Derived.Test.YtgdchoahbiagbaaDoorPalC
import Derived.Test.YtgdchoahbiagbaaDoorPT1
section
set_option linter.unusedVariables false
set_option linter.unusedSectionVars false
namespace Go.Vs
noncomputable def names_RegText(p0:Int):Option (ByteArray) :=
(names_regs).bind fun v1 =>
  if (decide (p0≥0)&&decide (p0<(v1.length:Int)))=true then (if InB p0 v1.length then (some (rd v1 p0)) else none) else (some (⟨#[]⟩:ByteArray))
noncomputable def opnd_Back_j4(i13:Int)(i14:Int)(i15:Int)(i17:Int):Option (T_api_Opd) :=
  (opnd_Right (T_api_Opd.mk i13 i14 i15 i17)).bind fun v18 =>
          if (!v18)=true then (some (T_api_Opd.mk 0 0 0 0)) else (some (T_api_Opd.mk i13 i14 i15 i17))

noncomputable def opnd_Back_j3(z8:I_opnd_Part)(i9:Int)(i10:Int)(i11:Int)(i12:Int):Option (T_api_Opd) :=
  (match z8 with | .nil=>(opnd_Back_j4  i9 i10 i11 i12) | .RegPart x21=>(opnd_Back_j4  i9 i10 i11 i12) | .NumPart x22=>(opnd_Back_j4  i9 i10 i11 i12) | .AtPart x23=>(opnd_Back_j4  i9 i10 i11 i12) | .ByPart x24=>(opnd_Back_j4  4 x24.Reg x24.Sym 0))

noncomputable def opnd_Back_j2(z4:I_opnd_Part)(i5:Int)(i6:Int)(i7:Int):Option (T_api_Opd) :=
  (match z4 with | .nil=>(opnd_Back_j3  I_opnd_Part.nil i5 i6 0 i7) | .RegPart x25=>(opnd_Back_j3  (I_opnd_Part.RegPart x25) i5 i6 0 i7) | .NumPart x26=>(opnd_Back_j3  (I_opnd_Part.NumPart x26) i5 i6 0 i7) | .AtPart x27=>(opnd_Back_j3  (I_opnd_Part.AtPart x27) 3 0 x27.Sym x27.N) | .ByPart x28=>(opnd_Back_j3  (I_opnd_Part.ByPart x28) i5 i6 0 i7))

noncomputable def opnd_Back_j1(z1:I_opnd_Part)(i2:Int)(i3:Int):Option (T_api_Opd) :=
  (match z1 with | .nil=>(opnd_Back_j2  I_opnd_Part.nil i2 i3 0) | .RegPart x29=>(opnd_Back_j2  (I_opnd_Part.RegPart x29) i2 i3 0) | .NumPart x30=>(opnd_Back_j2  (I_opnd_Part.NumPart x30) 2 0 x30.N) | .AtPart x31=>(opnd_Back_j2  (I_opnd_Part.AtPart x31) i2 i3 0) | .ByPart x32=>(opnd_Back_j2  (I_opnd_Part.ByPart x32) i2 i3 0))

noncomputable def opnd_Back(p0:I_opnd_Part):Option (T_api_Opd) :=
(match p0 with | .nil=>(opnd_Back_j1  I_opnd_Part.nil 0 0) | .RegPart x33=>(opnd_Back_j1  (I_opnd_Part.RegPart x33) 1 x33.Reg) | .NumPart x34=>(opnd_Back_j1  (I_opnd_Part.NumPart x34) 0 0) | .AtPart x35=>(opnd_Back_j1  (I_opnd_Part.AtPart x35) 0 0) | .ByPart x36=>(opnd_Back_j1  (I_opnd_Part.ByPart x36) 0 0))
noncomputable def opnd_RegPart_Text(p0:T_opnd_RegPart)(p1:(List ByteArray)):Option (ByteArray) :=
(names_RegText p0.Reg).bind fun v1 =>
  some v1
noncomputable def opnd_NumPart_Text(p0:T_opnd_NumPart)(p1:(List ByteArray)):Option (ByteArray) :=
(num_Text p0.N).bind fun v1 =>
  some v1
noncomputable def opnd_AtPart_Text(p0:T_opnd_AtPart)(p1:(List ByteArray)):Option (ByteArray) :=
(opnd_Back (I_opnd_Part.AtPart p0)).bind fun v1 =>
  (some (((v1.Kind==0)&&((v1.Reg==0)&&((v1.Sym==0)&&(v1.N==0))))||decide (p0.Sym≥(p1.length:Int)))).bind fun b3 =>
  if b3=true then (some (⟨#[]⟩:ByteArray)) else (if InB p0.Sym p1.length then (if CatOk (rd p1 p0.Sym) (⟨#[91]⟩:ByteArray) then ((num_Text p0.N).bind fun v8 =>
    if CatOk ((rd p1 p0.Sym)++(⟨#[91]⟩:ByteArray)) v8 then (if CatOk (((rd p1 p0.Sym)++(⟨#[91]⟩:ByteArray))++v8) (⟨#[93]⟩:ByteArray) then ((some ((((rd p1 p0.Sym)++(⟨#[91]⟩:ByteArray))++v8)++(⟨#[93]⟩:ByteArray))).bind fun s12 =>
    some s12) else none) else none) else none) else none)
noncomputable def opnd_ByPart_Text(p0:T_opnd_ByPart)(p1:(List ByteArray)):Option (ByteArray) :=
(opnd_Back (I_opnd_Part.ByPart p0)).bind fun v1 =>
  (some (((v1.Kind==0)&&((v1.Reg==0)&&((v1.Sym==0)&&(v1.N==0))))||decide (p0.Sym≥(p1.length:Int)))).bind fun b3 =>
  if b3=true then (some (⟨#[]⟩:ByteArray)) else (if InB p0.Sym p1.length then (if CatOk (rd p1 p0.Sym) (⟨#[91]⟩:ByteArray) then ((names_RegText p0.Reg).bind fun v8 =>
    if CatOk ((rd p1 p0.Sym)++(⟨#[91]⟩:ByteArray)) v8 then (if CatOk (((rd p1 p0.Sym)++(⟨#[91]⟩:ByteArray))++v8) (⟨#[93]⟩:ByteArray) then ((some ((((rd p1 p0.Sym)++(⟨#[91]⟩:ByteArray))++v8)++(⟨#[93]⟩:ByteArray))).bind fun s12 =>
    some s12) else none) else none) else none) else none)
noncomputable def opnd_Text(p0:T_api_Opd)(p1:(List ByteArray)):Option (ByteArray) :=
(opnd_Of p0).bind fun v1 =>
  if (!v1.2)=true then (some (⟨#[]⟩:ByteArray)) else ((some v1.1).bind fun z4 =>
    (match z4 with | .nil=>(none) | .RegPart x6=>((opnd_RegPart_Text x6 p1).bind fun v7=>some v7) | .NumPart x9=>((opnd_NumPart_Text x9 p1).bind fun v10=>some v10) | .AtPart x12=>((opnd_AtPart_Text x12 p1).bind fun v13=>some v13) | .ByPart x15=>((opnd_ByPart_Text x15 p1).bind fun v16=>some v16)))
noncomputable def show_Ins_j1(p0:T_api_Ins)(p1:(List ByteArray))(s6:ByteArray):Option (ByteArray) :=
  (ins_Leads p0).bind fun v7 =>
      if v7.2=true then (if CatOk s6 (⟨#[32]⟩:ByteArray) then (if CatOk (s6++(⟨#[32]⟩:ByteArray)) p0.To then (some ((s6++(⟨#[32]⟩:ByteArray))++p0.To)) else none) else none) else (if (p0.A.Kind==0)=true then (some s6) else ((opnd_Text p0.A p1).bind fun v13 =>
          (opnd_Text p0.B p1).bind fun v15 =>
          (show_lacks p0.A p1).bind fun v17 =>
          (if (!v17)=true then show_lacks p0.B p1 else some default).bind fun v19 =>
          if (v17||v19)=true then (some (⟨#[]⟩:ByteArray)) else (if CatOk s6 (⟨#[32]⟩:ByteArray) then (if CatOk (s6++(⟨#[32]⟩:ByteArray)) v13 then (if CatOk ((s6++(⟨#[32]⟩:ByteArray))++v13) (⟨#[44,32]⟩:ByteArray) then (if CatOk (((s6++(⟨#[32]⟩:ByteArray))++v13)++(⟨#[44,32]⟩:ByteArray)) v15 then ((some ((((s6++(⟨#[32]⟩:ByteArray))++v13)++(⟨#[44,32]⟩:ByteArray))++v15)).bind fun s27 =>
            some s27) else none) else none) else none) else none)))

noncomputable def show_Ins(p0:T_api_Ins)(p1:(List ByteArray)):Option (ByteArray) :=
(ins_Right p0).bind fun v1 =>
  if (v1 != 0)=true then (some (⟨#[]⟩:ByteArray)) else ((names_OpText p0.Op p0.Cond).bind fun v4 =>
    if p0.Lock=true then (if CatOk (⟨#[108,111,99,107,32]⟩:ByteArray) v4 then (show_Ins_j1 p0 p1 ((⟨#[108,111,99,107,32]⟩:ByteArray)++v4)) else none) else (show_Ins_j1 p0 p1 v4))
end Go.Vs
end

section
/-! Names and words: both ways of telling them come to the same. -/
set_option linter.unusedVariables false
set_option linter.unusedSimpArgs false
set_option linter.unusedSectionVars false
namespace Go.Vs
local instance tabPalShow1:Tab:=⟨fun _=>none⟩
/-! ### Loops over a list -/
def foldE{α β R:Type}(f:Nat → β → α → β ⊕ R)(fin:β → R):Nat → β → List α → R
  | _,a,[]=>fin a
  | i,a,x::xs=>match f i a x with
    | .inl a'=>foldE f fin (i+1) a' xs
    | .inr r=>r
theorem loop_list{α β σ R:Type}(l:List α)(mk:Int → β → σ)(step:σ → Option (σ ⊕ R))(f:Nat → β → α → β ⊕ R)(fin:β → R)(Inv:Nat → β → Prop)
    (h1:∀(i:Nat) (x:α),l[i]?=some x → ∀a,Inv i a → (step (mk (i:Int) a)=some (match f i a x with | .inl a'=>.inl (mk ((i:Int)+1) a') | .inr r=>.inr r)) ∧ ∀a',f i a x=.inl a' → Inv (i+1) a')
    (h2:∀a,Inv l.length a → step (mk (l.length:Int) a)=some (.inr (fin a))) (a0:β) (h0:Inv 0 a0):loopO step (mk 0 a0)=some (foldE f fin 0 a0 l):=by
  have main:∀(suf pre:List α) (a:β),l=pre++suf → Inv pre.length a → loopO step (mk (pre.length:Int) a)=some (foldE f fin pre.length a suf):=by
    intro suf
    induction suf with
    | nil =>
      intro pre a e hI
      rw [List.append_nil] at e
      subst e
      exact loopO_inr (h2 a hI)
    | cons x xs ih =>
      intro pre a e hI
      obtain ⟨e1,e2⟩:=h1 pre.length x (by rw [e]; simp) a hI
      cases hf:f pre.length a x with
      | inl a' =>
        rw [hf] at e1
        have:=ih (pre++[x]) a' (by rw [e]; simp) (by simpa using e2 a' hf)
        rw [loopO_inl e1]
        simp only [foldE,hf]
        simpa using this
      | inr r =>
        rw [hf] at e1
        rw [loopO_inr e1]
        simp only [foldE,hf]
  exact main l [] a0 rfl h0
theorem rd_at{α:Type}[Inhabited α]{l:List α}{i:Nat}{x:α}(h:l[i]?=some x):rd l (i:Int)=x:=by
  simp [rd,h]
theorem inb_at{α:Type}{l:List α}{i:Nat}{x:α}(h:l[i]?=some x):InB (i:Int) l.length:=⟨by omega,(List.getElem?_eq_some_iff.1 h).1⟩
theorem lt_at{α:Type}{l:List α}{i:Nat}{x:α}(h:l[i]?=some x):decide ((i:Int)<(l.length:Int))=true:=by have:=(List.getElem?_eq_some_iff.1 h).1; simpa using this
theorem wi{n:Nat}(h:n ≤ 1000000000):IntKind.wrap .i64 ((n:Int)+1)=(n:Int)+1:=wi64_id ⟨by omega,by omega⟩

/-! ### Looking a text up -/
def fnd(l:List ByteArray)(s:ByteArray):Option Nat:=l.findIdx? (fun x=>decide (x=s))
theorem find_loop{R:Type}(l:List ByteArray)(s:ByteArray)(hl:l.length ≤ 1000000)(g:Int → R)(step:Int → Option (Int ⊕ (Unit ⊕ R)))
    (hs:∀i,step i=if decide (i<(l.length:Int))=true then (if InB i l.length then (if decide ((rd l i)=s)=true then (some (.inr (.inr (g i)))) else (some (.inl (IntKind.wrap .i64 (i+1))))) else none) else (some (.inr (.inl ())))) :
    loopO step 0=some (match fnd l s with | some i=>.inr (g (i:Int)) | none=>.inl ()):=by
  unfold fnd
  have main:∀(suf pre:List ByteArray),l=pre++suf → loopO step (pre.length:Int)=some (match suf.findIdx? (fun x=>decide (x=s)) with | some i=>.inr (g ((pre.length+i:Nat):Int)) | none=>.inl ()):=by
    intro suf
    induction suf with
    | nil =>
      intro pre e
      rw [List.append_nil] at e; subst e
      refine loopO_inr ?_
      rw [hs,if_neg (by simp)]; rfl
    | cons x xs ih =>
      intro pre e
      have hx:l[pre.length]?=some x:=by rw [e]; simp
      have hlen:pre.length ≤ 1000000:=by have:=(List.getElem?_eq_some_iff.1 hx).1; omega
      have e1:=hs (pre.length:Int)
      rw [if_pos (lt_at hx),if_pos (inb_at hx),rd_at hx] at e1
      rw [List.findIdx?_cons]
      by_cases hd:x=s
      · rw [if_pos (by simpa using hd)] at e1
        rw [loopO_inr e1]; simp [hd]
      · rw [if_neg (by simpa using hd),wi (by omega)] at e1
        rw [loopO_inl e1]
        have:=ih (pre++[x]) (by rw [e]; simp)
        simp only [List.length_append,List.length_cons,List.length_nil,Nat.zero_add] at this
        rw [show ((pre.length:Int)+1)=((pre.length+1:Nat):Int) by omega,this]
        simp only [hd,decide_false,Bool.false_eq_true,if_false]
        cases xs.findIdx? (fun x=>decide (x=s)) with
        | none=>rfl
        | some k=>simp only [Option.map_some]; congr 3; omega
  have:=main l [] rfl
  simpa using this
theorem fnd_some{l:List ByteArray}{s:ByteArray}:(fnd l s).isSome=l.any (fun x=>decide (x=s)):=by
  unfold fnd; rw [List.findIdx?_isSome]
theorem fnd_cons{l:List ByteArray}{x s:ByteArray}:fnd (x::l) s=if x=s then some 0 else (fnd l s).map (·+1):=by
  unfold fnd; rw [List.findIdx?_cons]; simp
theorem index_eq(l:List ByteArray)(s:ByteArray)(hl:l.length ≤ 1000000):palingref1_index l s=some (match fnd l s with | some i=>(i:Int) | none=>-1):=by
  unfold palingref1_index
  rw [find_loop l s hl (fun i=>i) (palingref1_index_s1 l s) (fun i=>rfl)]
  cases fnd l s <;> rfl

def regsL:List ByteArray:=[⟨#[114,97,120]⟩,⟨#[114,98,120]⟩,⟨#[114,99,120]⟩,⟨#[114,100,120]⟩,⟨#[114,115,105]⟩,⟨#[114,100,105]⟩,⟨#[114,56]⟩,⟨#[114,57]⟩]
def opsL:List ByteArray:=[⟨#[109,111,118]⟩,⟨#[97,100,100]⟩,⟨#[115,117,98]⟩,⟨#[97,110,100]⟩,⟨#[111,114]⟩,⟨#[120,111,114]⟩,⟨#[99,109,112]⟩,⟨#[120,99,104,103]⟩,⟨#[99,109,112,120,99,104,103]⟩,⟨#[106,109,112]⟩,⟨#[]⟩,⟨#[109,102,101,110,99,101]⟩,⟨#[110,111,112]⟩,⟨#[104,108,116]⟩]
def jumpsL:List ByteArray:=[⟨#[106,101]⟩,⟨#[106,110,101]⟩,⟨#[106,108]⟩,⟨#[106,108,101]⟩,⟨#[106,103]⟩,⟨#[106,103,101]⟩,⟨#[106,98]⟩,⟨#[106,98,101]⟩,⟨#[106,97]⟩,⟨#[106,97,101]⟩]
theorem rregs_eq:palingref1_Regs=some regsL:=rfl
theorem rops_eq:palingref1_ops=some (⟨#[]⟩::opsL):=rfl
theorem rconds_eq:palingref1_conds=some (⟨#[]⟩::jumpsL):=rfl
def kwB(s:ByteArray):Bool:=(decide (s=(⟨#[115,121,109]⟩:ByteArray))||decide (s=(⟨#[116,104,114,101,97,100]⟩:ByteArray)))||decide (s=(⟨#[108,111,99,107]⟩:ByteArray))
def wordS(s:ByteArray):Bool:=(!decide (s=⟨#[]⟩))&&(kwB s||(fnd regsL s).isSome||(fnd opsL s).isSome||(fnd jumpsL s).isSome)
theorem ref_Word_eq(s:ByteArray):palingref1_Word s=some (wordS s):=by
  unfold palingref1_Word
  simp only [rregs_eq,rops_eq,rconds_eq]
  by_cases h0:s=⟨#[]⟩
  · subst h0; rfl
  · have h0':(⟨#[]⟩:ByteArray)≠s:=fun e=>h0 e.symm
    unfold wordS
    change (if (_&&!kwB s)=true then _ else _:Option _).bind _=_
    simp only [h0,decide_false,Bool.not_false,Bool.true_and]
    have hk3:((decide (s=(⟨#[115,121,109]⟩:ByteArray))||decide (s=(⟨#[116,104,114,101,97,100]⟩:ByteArray)))||decide (s=(⟨#[108,111,99,107]⟩:ByteArray)))=kwB s:=rfl
    rw [hk3]
    have hge:∀i:Nat,decide ((i:Int)≥0)=true:=fun i=>by simp
    have hgt:∀i:Nat,decide (((i+1:Nat):Int)>0)=true:=fun i=>by simp
    have hm1:decide ((-1:Int)≥0)=false:=rfl
    have hm2:decide ((-1:Int)>0)=false:=rfl
    cases hk:kwB s
    · simp only [Bool.not_false,Bool.false_or,if_true,Option.bind_some]
      rw [index_eq _ _ (by decide)]
      cases hr:fnd regsL s with
      | some i=>simp only [Option.bind_some,hge,Bool.true_or,Bool.or_true,Bool.not_true,Bool.false_eq_true,if_false,Option.isSome_some]
      | none =>
        simp only [Option.bind_some,hm1,Bool.false_or,Bool.not_false,if_true]
        rw [index_eq _ _ (by decide),fnd_cons,if_neg h0']
        cases ho:fnd opsL s with
        | some i=>simp only [Option.bind_some,Option.map_some,hgt,Bool.true_or,Bool.or_true,Bool.not_true,Bool.false_eq_true,if_false,Option.isSome_some,Option.isSome_none]
        | none =>
          simp only [Option.bind_some,Option.map_none,hm2,Bool.false_or,Bool.or_false,Bool.not_false,if_true,Option.isSome_none]
          rw [index_eq _ _ (by decide),fnd_cons,if_neg h0']
          cases hj:fnd jumpsL s with
          | some i=>simp only [Option.bind_some,Option.map_some,hgt,Option.isSome_some]
          | none=>rfl
    · simp
end Go.Vs
end

section
/-! Names, operands, instructions: both ways of telling them come to the same. -/
set_option linter.unusedVariables false
set_option linter.unusedSimpArgs false
set_option linter.unusedSectionVars false
namespace Go.Vs
local instance tabPalShow2:Tab:=⟨fun _=>none⟩
def letB(p0:Int):Bool:=(((decide (p0≥97)&&decide (p0 ≤ 122))||(decide (p0≥65)&&decide (p0 ≤ 90)))||(p0==95))||(decide (p0≥161)&&decide (p0 ≤ 1114111))
def digB(p0:Int):Bool:=decide (p0≥48)&&decide (p0 ≤ 57)
theorem rLet(r:Int):palingref1_Letter r=some (letB r):=rfl
theorem rDig(r:Int):palingref1_Digit r=some (digB r):=rfl
def badN(i:Nat)(x:T_glyph_Spot):Bool:=x.Bad||(!letB x.Rune&&((i==0)||!digB x.Rune))
def nameOk:Nat → List T_glyph_Spot → Bool
  | _,[]=>true
  | i,x::xs=>!badN i x&&nameOk (i+1) xs
def rightS(s:ByteArray):Bool:=(decide (((spots s).length:Int)≥1)&&decide (((spots s).length:Int) ≤ 16))&&!wordS s&&nameOk 0 (spots s)
theorem foldE_name{R:Type}(fin r0:R):∀(l:List T_glyph_Spot) (i:Nat),foldE (fun i (_:Unit) x=>if badN i x=true then Sum.inr r0 else .inl ()) (fun _=>fin) i () l=if nameOk i l=true then fin else r0
  | [],i=>by simp [foldE,nameOk]
  | x::xs,i=>by
    simp only [foldE,nameOk]
    by_cases hb:badN i x=true
    · simp [hb]
    · simp only [hb,if_false,Bool.false_eq_true]
      rw [foldE_name fin r0 xs (i+1)]
      simp only [Bool.not_eq_true] at hb
      simp [hb]
theorem spots_len(s:ByteArray)(hs:Sm s):(spots s).length ≤ 1000000:=by
  have:=spotsF_len s s.size 0 1 1
  unfold spots
  unfold Sm at hs
  omega
theorem ref_Right_eq(s:ByteArray)(hs:Sm s):palingref1_Right s=some (rightS s):=by
  have hl:=spots_len s hs
  unfold palingref1_Right
  rw [ref_Spots_eq s hs]
  simp only [Option.bind_some,List.length_map]
  rw [ref_Word_eq]
  have hgo:loopO (palingref1_Right_s1 ((spots s).map toR)) 0=some (if nameOk 0 (spots s)=true then .inl () else .inr false):=by
    have:=loop_list (spots s) (fun i (_:Unit)=>i) (palingref1_Right_s1 ((spots s).map toR)) (fun i _ x=>if badN i x=true then .inr (.inr false) else .inl ()) (fun _=>.inl ()) (fun _ _=>True)
      (fun i x hx a _=>⟨?_,fun _ _=>trivial⟩) (fun a _=>?_) () trivial
    · rw [this,foldE_name]
    · have hi:i ≤ 1000000:=by have:=(List.getElem?_eq_some_iff.1 hx).1; omega
      have hx2:((spots s).map toR)[i]?=some (toR x):=by rw [List.getElem?_map,hx]; rfl
      simp only [palingref1_Right_s1]
      have e0:((i:Int)==0)=(i==0):=by cases i <;> rfl
      have inb:=inb_at hx2
      simp only [if_pos (lt_at hx2),if_pos inb,rd_at hx2,rLet,rDig,wi (show i ≤ 1000000000 by omega),e0,inb,implies_true,if_true]
      have hB:(toR x).Bad=x.Bad:=rfl
      have hR:(toR x).Rune=x.Rune:=rfl
      rw [hB,hR]
      unfold badN
      cases x.Bad <;> cases letB x.Rune <;> cases (i==0) <;> cases digB x.Rune <;> rfl
    · simp only [palingref1_Right_s1]
      rw [if_neg (by simp)]
  rw [hgo]
  have e1:decide (((spots s).length:Int)<1)=!decide (((spots s).length:Int)≥1):=by rw [← decide_not]; congr 1; simp
  have e2:decide (((spots s).length:Int)>16)=!decide (((spots s).length:Int) ≤ 16):=by rw [← decide_not]; congr 1; simp
  rw [e1,e2]
  unfold rightS
  cases decide (((spots s).length:Int)≥1) <;> cases decide (((spots s).length:Int) ≤ 16) <;> cases wordS s <;> cases nameOk 0 (spots s) <;> rfl

/-! ### Operands -/
def opdB(o:T_api_Opd):Bool :=
  if o.Kind==1 then ((decide (o.Reg≥0)&&decide (o.Reg ≤ 7))&&(o.Sym==0))&&(o.N==0)
  else if o.Kind==2 then (o.Reg==0)&&(o.Sym==0)
  else if o.Kind==3 then (decide (o.Sym≥0)&&decide (o.N≥0))&&(o.Reg==0)
  else if o.Kind==4 then ((decide (o.Sym≥0)&&decide (o.Reg≥0))&&decide (o.Reg ≤ 7))&&(o.N==0) else false
theorem ref_OpdRight_eq(o:T_api_Opd):palingref1_OpdRight o=some (opdB o):=by
  unfold palingref1_OpdRight opdB
  split
  · rfl
  split
  · rfl
  split
  · rfl
  split
  · rfl
  · rfl
def memB(o:T_api_Opd):Bool:=(o.Kind==3)||(o.Kind==4)
theorem opdB_kind{o:T_api_Opd}(h:opdB o=true):o.Kind=1 ∨ o.Kind=2 ∨ o.Kind=3 ∨ o.Kind=4:=by
  unfold opdB at h
  split at h
  · rename_i e; exact .inl (by simpa using e)
  split at h
  · rename_i e; exact .inr (.inl (by simpa using e))
  split at h
  · rename_i e; exact .inr (.inr (.inl (by simpa using e)))
  split at h
  · rename_i e; exact .inr (.inr (.inr (by simpa using e)))
  · cases h
def partOf(o:T_api_Opd):I_opnd_Part :=
  if o.Kind==1 then .RegPart ⟨o.Reg⟩ else if o.Kind==2 then .NumPart ⟨o.N⟩ else if o.Kind==3 then .AtPart ⟨o.Sym,o.N⟩ else .ByPart ⟨o.Sym,o.Reg⟩
def zeroB(o:T_api_Opd):Bool:=(o.Kind==0)&&((o.Reg==0)&&((o.Sym==0)&&(o.N==0)))
def jumpB(x:T_api_Ins):Bool:=(x.Op==10)||(x.Op==11)
def rowB(x:T_api_Ins):Bool :=
  if decide (x.Op<1)||decide (x.Op>9) then (zeroB x.A&&zeroB x.B)&&!x.Lock
  else if !opdB x.A||!opdB x.B then false
  else if x.Op==8 then (memB x.A&&(x.B.Kind==1))&&!x.Lock
  else if x.Op==9 then (memB x.A&&(x.B.Kind==1))&&x.Lock
  else if x.A.Kind==1 then !x.Lock
  else (memB x.A&&!memB x.B)&&(!x.Lock||(decide (x.Op≥2)&&decide (x.Op ≤ 6)))
theorem ref_row_eq(x:T_api_Ins):palingref1_row x=some (rowB x):=by
  unfold palingref1_row rowB
  simp only [ref_OpdRight_eq]
  split
  · rfl
  cases ha:opdB x.A
  · rfl
  cases hb:opdB x.B
  · rfl
  have hk:=opdB_kind hb
  simp only [Bool.not_true,Bool.not_false,Option.bind_some,if_true,Bool.or_self,Bool.false_eq_true,if_false,Bool.or_false]
  split
  · rfl
  split
  · rfl
  split
  · unfold palingref1_plain palingref1_Memory
    rcases hk with e | e | e | e <;> simp [e]
  · unfold palingref1_plain palingref1_Memory palingref1_Reckons memB
    rcases hk with e | e | e | e <;> cases (x.A.Kind==3) <;> cases (x.A.Kind==4) <;> cases x.Lock <;> simp [e]
def fitsB(x:T_api_Ins):Bool:=(decide (x.Op≥1)&&decide (x.Op ≤ 14))&&rowB x
theorem kind_mem(o:T_api_Opd):((o.Kind==1)&&memB o)=false:=by
  unfold memB
  by_cases h:o.Kind=1
  · simp [h]
  · simp [h]
def condB(x:T_api_Ins):Bool:=if x.Op==11 then decide (x.Cond≥1)&&decide (x.Cond ≤ 10) else x.Cond==0
def insN(x:T_api_Ins):Int :=
  if condB x&&fitsB x&&(jumpB x||decide (x.To=⟨#[]⟩)) then (if jumpB x&&!rightS x.To then 3 else 0) else 4
theorem ref_InsRight_eq(x:T_api_Ins)(hs:Sm x.To):palingref1_InsRight x=some (insN x):=by
  unfold palingref1_InsRight insN palingref1_Jumps
  rw [ref_Right_eq _ hs,ref_row_eq]
  have e:((x.Op==10)||(x.Op==11))=jumpB x:=rfl
  simp only [Option.bind_some,e]
  have e1:(decide (x.Op<1)||decide (x.Op>14))=!(decide (x.Op≥1)&&decide (x.Op ≤ 14)):=by
    by_cases h1:x.Op<1 <;> by_cases h2:x.Op>14 <;> simp [h1,h2] <;> omega
  have e2:(((x.Op==11)&&(decide (x.Cond<1)||decide (x.Cond>10)))||((x.Op != 11)&&(x.Cond != 0)))=!condB x:=by
    unfold condB
    by_cases h0:x.Op=11
    · by_cases h1:x.Cond<1 <;> by_cases h2:x.Cond>10 <;> simp [h0,h1,h2] <;> omega
    · have h3:(x.Op==11)=false:=by simpa using h0
      simp only [bne,h3,Bool.false_and,Bool.false_or,Bool.not_false,Bool.true_and,Bool.false_eq_true,if_false]
  simp only [e1,e2]
  unfold fitsB
  cases condB x <;> cases (decide (x.Op≥1)&&decide (x.Op ≤ 14)) <;> cases rowB x <;> cases jumpB x <;> cases decide (x.To=⟨#[]⟩) <;> cases rightS x.To <;> rfl
end Go.Vs
end
