import Derived.Test.YtgdchoahbiagbaaDoorPalT
import Derived.Test.YtgdchoahbiagbaaDoorPS0
import Derived.Lib.ItoaLen
import Derived.Test.YtgdchoahbiagbaaDoorPalNum
import Derived.Test.YtgdchoahbiagbaaDoorPalF
section

end

section
set_option linter.unusedVariables false
set_option linter.unusedSectionVars false
namespace Go.Vs
noncomputable def show_Prog_s2(p0:T_api_Prog)(i107:Int):(Int × ByteArray) → Option ((Int × ByteArray) ⊕ (ByteArray))
  | (i198,s199) =>
  if decide (i198<(((rd p0.Syms i107).Init).length:Int))=true then (if InB i198 ((rd p0.Syms i107).Init).length then ((num_Text (rd ((rd p0.Syms i107).Init) i198)).bind fun v214 =>
            if CatOk (⟨#[32]⟩:ByteArray) v214 then (if Fits (s199.size+((⟨#[32]⟩:ByteArray)++v214).size) then ((some (s199++((⟨#[32]⟩:ByteArray)++v214))).bind fun s218 =>
            some (.inl ((IntKind.wrap .i64 (i198+1)),s218))) else none) else none) else none) else (some (.inr s199))

noncomputable def show_Prog_s1(p0:T_api_Prog):(Int × ByteArray × (List ByteArray)) → Option ((Int × ByteArray × (List ByteArray)) ⊕ (ByteArray × (List ByteArray)))
  | (i107,s108,l110) =>
  if decide (i107<(p0.Syms.length:Int))=true then (if InB i107 p0.Syms.length then (if Fits (l110.length+1) then ((some (l110++([(rd p0.Syms i107).Name]))).bind fun l169 =>
        if CatOk (⟨#[115,121,109,32]⟩:ByteArray) ((rd p0.Syms i107).Name) then (if CatOk ((⟨#[115,121,109,32]⟩:ByteArray)++((rd p0.Syms i107).Name)) (⟨#[32]⟩:ByteArray) then ((num_Text ((rd p0.Syms i107).Size)).bind fun v173 =>
        if CatOk (((⟨#[115,121,109,32]⟩:ByteArray)++((rd p0.Syms i107).Name))++(⟨#[32]⟩:ByteArray)) v173 then (if Fits (s108.size+((((⟨#[115,121,109,32]⟩:ByteArray)++((rd p0.Syms i107).Name))++(⟨#[32]⟩:ByteArray))++v173).size) then ((some (s108++((((⟨#[115,121,109,32]⟩:ByteArray)++((rd p0.Syms i107).Name))++(⟨#[32]⟩:ByteArray))++v173))).bind fun s177 =>
        (loopO (show_Prog_s2 p0 i107) (0,s177)).bind fun r211 =>
        if Fits (r211.size+(⟨#[10]⟩:ByteArray).size) then ((some (r211++(⟨#[10]⟩:ByteArray))).bind fun s221 =>
          some (.inl ((IntKind.wrap .i64 (i107+1)),s221,l169))) else none) else none) else none) else none) else none) else none) else none) else (some (.inr (s108,l110)))

noncomputable def show_Prog_s5(l746:List ByteArray):(Int × ByteArray) → Option ((Int × ByteArray) ⊕ (ByteArray))
  | (i763,s764) =>
  if decide (i763<(l746.length:Int))=true then (if InB i763 l746.length then (if CatOk (rd l746 i763) (⟨#[58,10]⟩:ByteArray) then (if Fits (s764.size+((rd l746 i763)++(⟨#[58,10]⟩:ByteArray)).size) then ((some (s764++((rd l746 i763)++(⟨#[58,10]⟩:ByteArray)))).bind fun s779 =>
                 some (.inl ((IntKind.wrap .i64 (i763+1)),s779))) else none) else none) else none) else (some (.inr s764))

noncomputable def show_Prog_s4(p0:T_api_Prog)(i482:Int)(r165:ByteArray × (List ByteArray)):(Int × ByteArray) → Option ((Int × ByteArray) ⊕ (ByteArray))
  | (i700,s701) =>
  if decide (i700<(((rd p0.Threads i482).Ins).length:Int))=true then (if InB i700 ((rd p0.Threads i482).Ins).length then ((some ((rd ((rd p0.Threads i482).Ins) i700).Labels)).bind fun l746 =>
              (loopO (show_Prog_s5 l746) (0,s701)).bind fun r774 =>
              (show_Ins (T_api_Ins.mk ((rd ((rd p0.Threads i482).Ins) i700).Op) ((rd ((rd p0.Threads i482).Ins) i700).Lock) ((rd ((rd p0.Threads i482).Ins) i700).Cond) ((rd ((rd p0.Threads i482).Ins) i700).A) ((rd ((rd p0.Threads i482).Ins) i700).B) ((rd ((rd p0.Threads i482).Ins) i700).To) l746) r165.2).bind fun v781 =>
                if CatOk (⟨#[9]⟩:ByteArray) v781 then (if CatOk ((⟨#[9]⟩:ByteArray)++v781) (⟨#[10]⟩:ByteArray) then (if Fits (r774.size+(((⟨#[9]⟩:ByteArray)++v781)++(⟨#[10]⟩:ByteArray)).size) then ((some (r774++(((⟨#[9]⟩:ByteArray)++v781)++(⟨#[10]⟩:ByteArray)))).bind fun s786 =>
                some (.inl ((IntKind.wrap .i64 (i700+1)),s786))) else none) else none) else none) else none) else (some (.inr s701))

noncomputable def show_Prog_s3(p0:T_api_Prog)(r165:ByteArray × (List ByteArray)):(Int × ByteArray) → Option ((Int × ByteArray) ⊕ (ByteArray))
  | (i482,s483) =>
  if decide (i482<(p0.Threads.length:Int))=true then (if InB i482 p0.Threads.length then (if Fits (s483.size+(⟨#[116,104,114,101,97,100,10]⟩:ByteArray).size) then ((some (s483++(⟨#[116,104,114,101,97,100,10]⟩:ByteArray))).bind fun s619 =>
          (loopO (show_Prog_s4 p0 i482 r165) (0,s619)).bind fun r743 =>
          some (.inl ((IntKind.wrap .i64 (i482+1)),r743))) else none) else none) else (some (.inr s483))

noncomputable def show_Prog(p0:T_api_Prog):Option (ByteArray) :=
(valid_Check p0).bind fun v1 =>
  if (v1 != 0)=true then (some (⟨#[]⟩:ByteArray)) else ((loopO (show_Prog_s1 p0) (0,(⟨#[]⟩:ByteArray),[])).bind fun r165 =>
    (loopO (show_Prog_s3 p0 r165) (0,r165.1)).bind fun r615 =>
      if Fits r615.size then (some r615) else none)
noncomputable def palinglaw9_alive:Option (Bool) :=
(some ([(T_api_Thread.mk ([(T_api_Ins.mk 10 false 0 (T_api_Opd.mk 0 0 0 0) (T_api_Opd.mk 0 0 0 0) (⟨#[116,111,112]⟩:ByteArray) ([(⟨#[116,111,112]⟩:ByteArray)]))]))])).bind fun l1 =>
  (show_Prog (T_api_Prog.mk ([]:List T_api_Sym) l1)).bind fun v3 =>
  (if decide (v3=(⟨#[116,104,114,101,97,100,10,116,111,112,58,10,9,106,109,112,32,116,111,112,10]⟩:ByteArray))=true then show_Ins (T_api_Ins.mk 1 false 0 (T_api_Opd.mk 1 0 0 0) (T_api_Opd.mk 2 0 0 (-1)) (⟨#[]⟩:ByteArray) ([])) ([]) else some default).bind fun v5 =>
  (some (decide (v3=(⟨#[116,104,114,101,97,100,10,116,111,112,58,10,9,106,109,112,32,116,111,112,10]⟩:ByteArray))&&decide (v5=(⟨#[109,111,118,32,114,97,120,44,32,45,49]⟩:ByteArray)))).bind fun b7 =>
  some b7
end Go.Vs
end

section
/-! The text of an instruction: both ways of telling it come to the same. -/
set_option linter.unusedVariables false
set_option linter.unusedSimpArgs false
set_option linter.unusedSectionVars false
namespace Go.Vs
open Go.Lib
local instance tabPalShow3:Tab:=⟨fun _=>none⟩
theorem itoaB_size{n:Int}(h:I64 n):(itoaB n).size ≤ 21:=by unfold itoaB; rw [bs_size]; exact itoa_length_le n h.1 h.2
theorem app_size(a b:ByteArray):(a++b).size=a.size+b.size:=ByteArray.size_append
theorem nil_app(a:ByteArray):(⟨#[]⟩:ByteArray)++a=a:=bext (by rw [bl_append]; rfl)
theorem catOk1{a b:ByteArray}{n m:Nat}(ha:a.size ≤ n)(hb:b.size ≤ m)(h:n+m ≤ 9223372036854775807):CatOk a b:=by unfold CatOk; omega
def regT(r:Int):ByteArray:=if decide (r≥0)&&decide (r<8) then rd regsL r else ⟨#[]⟩
theorem ref_RegText_eq(r:Int):palingref1_RegText r=some (regT r):=by
  unfold palingref1_RegText regT
  rw [rregs_eq]
  simp only [Option.bind_some]
  by_cases h0:r≥0 <;> by_cases h1:r<8
  · have hi:InB r regsL.length:=⟨h0,by show r.toNat<8; omega⟩
    have e1:decide (r<0)=false:=by simp; omega
    have e2:decide (r>7)=false:=by simp; omega
    simp only [h0,h1,e1,e2,decide_true,Bool.and_true,if_true,hi,Bool.or_self,Bool.false_eq_true,if_false]
  · have e2:decide (r>7)=true:=by simp; omega
    simp only [e2,Bool.or_true,if_true,h1,decide_false,Bool.and_false,Bool.false_eq_true,if_false]
  · have e1:decide (r<0)=true:=by simp; omega
    simp only [e1,Bool.true_or,if_true,h0,decide_false,Bool.false_and,Bool.false_eq_true,if_false]
  · have e1:decide (r<0)=true:=by simp; omega
    simp only [e1,Bool.true_or,if_true,h0,decide_false,Bool.false_and,Bool.false_eq_true,if_false]
theorem rd_cons{α:Type}[Inhabited α](x:α)(l:List α)(i:Int)(h:1 ≤ i):rd (x::l) i=rd l (i-1):=by
  unfold rd
  rw [show i.toNat=(i-1).toNat+1 by omega]; rfl
def opT(op cond:Int):ByteArray :=
  if ((op==11)&&decide (cond≥1))&&decide (cond ≤ 10) then rd jumpsL (cond-1)
  else if ((cond==0)&&decide (op≥1))&&decide (op ≤ 14) then rd opsL (op-1) else ⟨#[]⟩
theorem ref_OpText_eq(op cond:Int):palingref1_OpText op cond=some (opT op cond):=by
  unfold palingref1_OpText opT
  rw [rconds_eq,rops_eq]
  simp only [Option.bind_some]
  split
  · rename_i h
    simp only [Bool.and_eq_true,decide_eq_true_eq] at h
    rw [if_pos (show InB cond (_::jumpsL).length from ⟨by omega,by show _<11; omega⟩),rd_cons _ _ _ (by omega)]
  · have e:((decide (op≥1)&&decide (op ≤ 14))&&(cond==0))=(((cond==0)&&decide (op≥1))&&decide (op ≤ 14)):=by
      cases decide (op≥1) <;> cases decide (op ≤ 14) <;> cases (cond==0) <;> rfl
    rw [e]
    split
    · rename_i h
      simp only [Bool.and_eq_true,decide_eq_true_eq] at h
      rw [if_pos (show InB op (_::opsL).length from ⟨by omega,by show _<15; omega⟩),rd_cons _ _ _ (by omega)]
    · rfl
theorem rd_size{l:List ByteArray}{n:Nat}(h:∀s∈l,s.size ≤ n)(i:Int):(rd l i).size ≤ n:=by
  unfold rd
  rw [List.getD_eq_getElem?_getD]
  cases e:l[i.toNat]? with
  | none=>show (default:ByteArray).size ≤ n; exact Nat.zero_le _
  | some s=>exact h s (List.mem_of_getElem? e)
theorem regT_size(r:Int):(regT r).size ≤ 10:=by
  unfold regT
  split
  · exact rd_size (by decide) r
  · show 0 ≤ 10; omega
theorem opT_size(op cond:Int):(opT op cond).size ≤ 10:=by
  unfold opT
  split
  · exact rd_size (by decide) _
  split
  · exact rd_size (by decide) _
  · show 0 ≤ 10; omega
def opdT(o:T_api_Opd)(syms:List ByteArray):ByteArray :=
  if !opdB o then ⟨#[]⟩ else if o.Kind==1 then regT o.Reg else if o.Kind==2 then itoaB o.N
  else if decide (o.Sym≥(syms.length:Int)) then ⟨#[]⟩
  else if o.Kind==3 then ((rd syms o.Sym++⟨#[91]⟩)++itoaB o.N)++⟨#[93]⟩
  else ((rd syms o.Sym++⟨#[91]⟩)++regT o.Reg)++⟨#[93]⟩
def Syms(syms:List ByteArray):Prop:=∀s∈syms,s.size ≤ 1000000
theorem ref_OpdText_eq(o:T_api_Opd)(syms:List ByteArray)(hn:I64 o.N)(hs:Syms syms):palingref1_OpdText o syms=some (opdT o syms):=by
  have hz:=itoaB_size hn
  have hy:=rd_size hs o.Sym
  have hr:=regT_size o.Reg
  unfold palingref1_OpdText opdT
  rw [ref_OpdRight_eq,palingref1_Text_eq _ hn,ref_RegText_eq]
  simp only [Option.bind_some]
  cases hb:opdB o
  · rfl
  simp only [Bool.not_true,Bool.false_eq_true,if_false]
  split
  · rfl
  split
  · rfl
  rename_i h1 h2
  split
  · rfl
  rename_i h3
  have hS:o.Sym≥0:=by
    rcases opdB_kind hb with e | e | e | e
    · exact absurd (by simpa using e) h1
    · exact absurd (by simpa using e) h2
    · unfold opdB at hb; simp [e] at hb; omega
    · unfold opdB at hb; simp [e] at hb; omega
  have hi:InB o.Sym syms.length:=⟨hS,by simp at h3; omega⟩
  have c1:CatOk (rd syms o.Sym) (⟨#[91]⟩:ByteArray):=catOk1 hy (Nat.le_refl 1) (by omega)
  have s1:((rd syms o.Sym)++(⟨#[91]⟩:ByteArray)).size ≤ 1000001:=by rw [app_size]; exact Nat.add_le_add hy (Nat.le_refl 1)
  have e93:(⟨#[93]⟩:ByteArray).size=1:=rfl
  have cN:CatOk ((rd syms o.Sym)++(⟨#[91]⟩:ByteArray)) (itoaB o.N):=by unfold CatOk; omega
  have cN2:CatOk (((rd syms o.Sym)++(⟨#[91]⟩:ByteArray))++itoaB o.N) (⟨#[93]⟩:ByteArray):=by unfold CatOk; rw [app_size (_++_)]; omega
  have cR:CatOk ((rd syms o.Sym)++(⟨#[91]⟩:ByteArray)) (regT o.Reg):=by unfold CatOk; omega
  have cR2:CatOk (((rd syms o.Sym)++(⟨#[91]⟩:ByteArray))++regT o.Reg) (⟨#[93]⟩:ByteArray):=by unfold CatOk; rw [app_size (_++_)]; omega
  split
  · (simp only [if_pos hi,if_pos c1,if_pos cN,if_pos cN2,if_pos cR,if_pos cR2,Option.bind_some]; try rfl)
  · (simp only [if_pos hi,if_pos c1,if_pos cN,if_pos cN2,if_pos cR,if_pos cR2,Option.bind_some]; try rfl)
theorem opdT_size(o:T_api_Opd)(syms:List ByteArray)(hn:I64 o.N)(hs:Syms syms):(opdT o syms).size ≤ 1000100:=by
  have hz:=itoaB_size hn
  have hy:=rd_size hs o.Sym
  have hr:=regT_size o.Reg
  have z:(⟨#[]⟩:ByteArray).size=0:=rfl
  have e1:(⟨#[91]⟩:ByteArray).size=1:=rfl
  have e2:(⟨#[93]⟩:ByteArray).size=1:=rfl
  unfold opdT
  split
  · omega
  split
  · omega
  split
  · omega
  split
  · omega
  split <;> simp only [app_size] <;> omega
def insT(x:T_api_Ins)(syms:List ByteArray):ByteArray :=
  if insN x != 0 then ⟨#[]⟩ else
    let s:=if x.Lock then (⟨#[108,111,99,107,32]⟩:ByteArray)++opT x.Op x.Cond else opT x.Op x.Cond
    if jumpB x then (s++⟨#[32]⟩)++x.To else if decide (x.Op>9) then s
    else if (memB x.A&&decide (x.A.Sym≥(syms.length:Int)))||(memB x.B&&decide (x.B.Sym≥(syms.length:Int))) then ⟨#[]⟩
    else (((s++⟨#[32]⟩)++opdT x.A syms)++⟨#[44,32]⟩)++opdT x.B syms
structure InsOk (x:T_api_Ins):Prop where
  to:Sm x.To
  a:I64 x.A.N
  b:I64 x.B.N
theorem insN_zero{x:T_api_Ins}(h:insN x=0):rowB x=true ∧ condB x=true ∧ 1 ≤ x.Op ∧ x.Op ≤ 14 ∧ (jumpB x=true → rightS x.To=true):=by
  unfold insN fitsB at h
  split at h
  · rename_i hc
    simp only [Bool.and_eq_true,decide_eq_true_eq] at hc
    refine ⟨hc.1.2.2,hc.1.1,hc.1.2.1.1,hc.1.2.1.2,fun hj=>?_⟩
    cases hr:rightS x.To
    · simp [hj,hr] at h
    · rfl
  · cases h
theorem ref_ShowIns_eq(x:T_api_Ins)(syms:List ByteArray)(hx:InsOk x)(hs:Syms syms):palingref1_ShowIns x syms=some (insT x syms):=by
  have ha:=opdT_size x.A syms hx.a hs
  have hb:=opdT_size x.B syms hx.b hs
  have hto:x.To.size ≤ 1000000:=hx.to
  have ho:=opT_size x.Op x.Cond
  have main:∀s4:ByteArray,s4.size ≤ 5 → palingref1_ShowIns_j1 x syms s4=some (if jumpB x then ((s4++opT x.Op x.Cond)++⟨#[32]⟩)++x.To else if decide (x.Op>9) then s4++opT x.Op x.Cond
    else if (memB x.A&&decide (x.A.Sym≥(syms.length:Int)))||(memB x.B&&decide (x.B.Sym≥(syms.length:Int))) then ⟨#[]⟩
    else ((((s4++opT x.Op x.Cond)++⟨#[32]⟩)++opdT x.A syms)++⟨#[44,32]⟩)++opdT x.B syms):=by
    intro s4 h4
    unfold palingref1_ShowIns_j1 palingref1_Jumps palingref1_Memory
    rw [ref_OpText_eq,ref_OpdText_eq _ _ hx.a hs,ref_OpdText_eq _ _ hx.b hs]
    simp only [Option.bind_some]
    have e:((x.Op==10)||(x.Op==11))=jumpB x:=rfl
    have eA:((x.A.Kind==3)||(x.A.Kind==4))=memB x.A:=rfl
    have eB:((x.B.Kind==3)||(x.B.Kind==4))=memB x.B:=rfl
    rw [e,eA,eB]
    generalize hS:s4++opT x.Op x.Cond=S
    have hSz:S.size ≤ 15:=by rw [← hS,app_size]; omega
    have e1:(⟨#[32]⟩:ByteArray).size=1:=rfl
    have e2:(⟨#[44,32]⟩:ByteArray).size=2:=rfl
    rw [if_pos (catOk1 h4 ho (by omega))]
    have c1:CatOk S (⟨#[32]⟩:ByteArray):=by unfold CatOk; omega
    have c2:CatOk (S++(⟨#[32]⟩:ByteArray)) x.To:=by unfold CatOk; simp only [app_size]; omega
    have c3:CatOk (S++(⟨#[32]⟩:ByteArray)) (opdT x.A syms):=by unfold CatOk; simp only [app_size]; omega
    have c4:CatOk ((S++(⟨#[32]⟩:ByteArray))++opdT x.A syms) (⟨#[44,32]⟩:ByteArray):=by unfold CatOk; simp only [app_size]; omega
    have c5:CatOk (((S++(⟨#[32]⟩:ByteArray))++opdT x.A syms)++(⟨#[44,32]⟩:ByteArray)) (opdT x.B syms):=by unfold CatOk; simp only [app_size]; omega
    simp only [if_pos c1,if_pos c2,if_pos c3,if_pos c4,if_pos c5]
    split
    · rfl
    split
    · rfl
    cases memB x.A <;> cases decide (x.A.Sym≥(syms.length:Int)) <;> cases memB x.B <;> cases decide (x.B.Sym≥(syms.length:Int)) <;> rfl
  unfold palingref1_ShowIns insT
  rw [ref_InsRight_eq _ hx.to]
  simp only [Option.bind_some]
  split
  · rfl
  · cases x.Lock
    · simp only [Bool.false_eq_true,if_false]
      rw [main _ (by decide)]
      simp only [nil_app]
    · simp only [if_true]
      rw [main _ (by decide)]
end Go.Vs
end

section
/-! What may be: both ways of telling it come to the same. -/
set_option linter.unusedVariables false
set_option linter.unusedSimpArgs false
set_option linter.unusedSectionVars false
namespace Go.Vs
open Go.Lib
local instance tabPalShow4:Tab:=⟨fun _=>none⟩
/-! ### Texts that have been seen -/
def has(l:List ByteArray)(s:ByteArray):Bool:=l.any fun x=>decide (x=s)
theorem has_mem{l:List ByteArray}{s:ByteArray}:has l s=true ↔ s∈l:=by
  unfold has
  simp only [List.any_eq_true,decide_eq_true_eq]
  exact ⟨fun ⟨x,h,e⟩=>e▸h,fun h=>⟨s,h,rfl⟩⟩
theorem has_not{l:List ByteArray}{s:ByteArray}:has l s=false ↔ ¬s∈l:=by rw [← has_mem]; simp
def seen(l:List ByteArray):List (ByteArray × Bool):=l.map fun k=>(k,true)
theorem fnd_mem{l:List ByteArray}{s:ByteArray}:(fnd l s).isSome=has l s:=fnd_some
theorem index_ge(l:List ByteArray)(s:ByteArray)(hl:l.length ≤ 1000000):∃i,palingref1_index l s=some i ∧ decide (i≥0)=has l s:=by
  refine ⟨_,index_eq l s hl,?_⟩
  rw [← fnd_mem]
  cases fnd l s with
  | some i=>simp
  | none=>rfl

/-! ### The bounds of a program -/
structure LabOk (x:T_api_Ins):Prop extends InsOk x where
  n:x.Labels.length ≤ 700
  to1:x.To.size ≤ 1000
  lab:∀s∈x.Labels,s.size ≤ 1000
structure ThOk (t:T_api_Thread):Prop where
  n:t.Ins.length ≤ 700
  ins:∀x∈t.Ins,LabOk x
structure SymOk (s:T_api_Sym):Prop where
  name:s.Name.size ≤ 1000
  n:s.Init.length ≤ 100
  size:I64 s.Size
  init:∀v∈s.Init,I64 v
structure ProgOk (p:T_api_Prog):Prop where
  ns:p.Syms.length ≤ 100
  nt:p.Threads.length ≤ 100
  sym:∀s∈p.Syms,SymOk s
  th:∀t∈p.Threads,ThOk t
theorem sm1000{s:ByteArray}(h:s.size ≤ 1000):Sm s:=by unfold Sm; omega

/-! ### Counting -/
def countN(t:T_api_Thread):Int:=foldE (fun _ (n:Int) (x:T_api_Ins)=>if (x.Op != 12)=true then .inl (n+1) else .inl n) (fun n=>n) 0 0 t.Ins
theorem valid_Count_eq(t:T_api_Thread)(ht:t.Ins.length ≤ 1000000):valid_Count t=some (countN t):=by
  unfold valid_Count countN
  rw [loop_list t.Ins (fun i (n:Int)=>(n,i)) (valid_Count_s1 t) (fun _ (n:Int) (x:T_api_Ins)=>if (x.Op != 12)=true then .inl (n+1) else .inl n) (fun n=>n) (fun i n=>0 ≤ n ∧ n ≤ i)
    (fun i x hx a ha=>?_) (fun a ha=>?_) 0 ⟨by omega,by omega⟩]
  · rfl
  · have hi:i ≤ 1000000:=by have:=(List.getElem?_eq_some_iff.1 hx).1; omega
    simp only [valid_Count_s1]
    rw [if_pos (lt_at hx),if_pos (inb_at hx),rd_at hx,wi (by omega),wi64_id ⟨by omega,by omega⟩]
    constructor
    · split <;> rfl
    · intro a' h
      split at h
      · obtain rfl:=Sum.inl.inj h; omega
      · obtain rfl:=Sum.inl.inj h; omega
  · simp only [valid_Count_s1]
    rw [if_neg (by simp)]
theorem ref_Count_eq(t:T_api_Thread)(ht:t.Ins.length ≤ 1000000):palingref1_Count t=some (countN t):=by
  rw [← valid_Count_eq t ht]
  unfold palingref1_Count valid_Count
  have:palingref1_Count_s1 t=valid_Count_s1 t:=by
    funext ⟨a,b⟩; rfl
  rw [this]

/-! ### Places -/
def placeN(p:T_api_Prog)(o:T_api_Opd):Int :=
  if !memB o then 0 else if decide (o.Sym≥(p.Syms.length:Int)) then 7
  else if (o.Kind==3)&&decide (o.N≥(rd p.Syms o.Sym).Size) then 8 else 0
theorem ref_operand_eq(p:T_api_Prog)(o:T_api_Opd)(h:memB o=true → o.Sym≥0):palingref1_operand p o=some (placeN p o):=by
  unfold palingref1_operand placeN palingref1_Memory
  have e:((o.Kind==3)||(o.Kind==4))=memB o:=rfl
  rw [e]
  simp only [Option.bind_some]
  cases hm:memB o
  · rfl
  · have h0:=h hm
    simp only [Bool.not_true,Bool.false_eq_true,if_false]
    split
    · rfl
    · rename_i hs
      have hi:InB o.Sym p.Syms.length:=⟨h0,by simp at hs; omega⟩
      rw [if_pos (fun _=>hi)]
      split <;> rfl
theorem mem_sym{o:T_api_Opd}(hb:opdB o=true)(hm:memB o=true):o.Sym≥0:=by
  unfold memB at hm
  simp only [Bool.or_eq_true,beq_iff_eq] at hm
  rcases hm with e | e <;> (unfold opdB at hb; simp [e] at hb; omega)
theorem ins_sym{x:T_api_Ins}(h:insN x=0):(memB x.A=true → x.A.Sym≥0) ∧ (memB x.B=true → x.B.Sym≥0):=by
  obtain ⟨h1,_,h2,h3,_⟩:=insN_zero h
  unfold rowB at h1
  split at h1
  · simp only [Bool.and_eq_true,zeroB,beq_iff_eq] at h1
    obtain ⟨⟨⟨ha,_⟩,⟨hb,_⟩⟩,_⟩:=h1
    constructor <;> (intro hm; unfold memB at hm; simp [ha,hb] at hm)
  · split at h1
    · cases h1
    · rename_i hab
      simp only [Bool.or_eq_true,Bool.not_eq_true',not_or,Bool.not_eq_false] at hab
      exact ⟨mem_sym hab.1,mem_sym hab.2⟩

/-! ### A thread -/
def labF(_:Nat)(L:List ByteArray)(s:ByteArray):List ByteArray ⊕ (List ByteArray ⊕ Int) :=
  if !rightS s then .inr (.inr 3) else if has L s then .inr (.inr 6) else .inl (L++[s])
def labsE(L:List ByteArray)(ls:List ByteArray):List ByteArray ⊕ Int:=foldE labF .inl 0 L ls
def insF(p:T_api_Prog)(_:Nat)(L:List ByteArray)(x:T_api_Ins):List ByteArray ⊕ (List ByteArray ⊕ Int) :=
  match labsE L x.Labels with
  | .inr e=>.inr (.inr e)
  | .inl L'=>if insN x != 0 then .inr (.inr (insN x)) else if placeN p x.A != 0 then .inr (.inr (placeN p x.A)) else if placeN p x.B != 0 then .inr (.inr (placeN p x.B)) else .inl L'
theorem labs_spec:∀(ls:List ByteArray) (i:Nat) (L L':List ByteArray),foldE labF Sum.inl i L ls=Sum.inl L' → L'=L++ls
  | [],i,L,L',h=>by simp only [foldE] at h; obtain rfl:=Sum.inl.inj h; simp
  | s::ls,i,L,L',h=>by
    simp only [foldE] at h
    cases hf:labF i L s with
    | inr r =>
      rw [hf] at h
      unfold labF at hf
      split at hf
      · obtain rfl:=Sum.inr.inj hf; cases h
      · split at hf
        · obtain rfl:=Sum.inr.inj hf; cases h
        · cases hf
    | inl L1 =>
      rw [hf] at h
      have:L1=L++[s]:=by
        unfold labF at hf
        split at hf
        · cases hf
        split at hf
        · cases hf
        · exact (Sum.inl.inj hf).symm
      subst this
      have:=labs_spec ls _ _ _ h
      simpa using this
theorem insF_spec{p:T_api_Prog}{i:Nat}{L L':List ByteArray}{x:T_api_Ins}(h:insF p i L x=.inl L'):L'=L++x.Labels ∧ insN x=0:=by
  unfold insF at h
  cases hl:labsE L x.Labels with
  | inr e=>rw [hl] at h; cases h
  | inl L1 =>
    rw [hl] at h
    have hL:=labs_spec _ _ _ _ hl
    simp only at h
    split at h
    · cases h
    rename_i hn
    split at h
    · cases h
    split at h
    · cases h
    obtain rfl:=Sum.inl.inj h
    exact ⟨hL,by simpa using hn⟩
theorem insE_spec{p:T_api_Prog}:∀(xs:List T_api_Ins) (i:Nat) (L L':List ByteArray),foldE (insF p) Sum.inl i L xs=Sum.inl L' → L'=L++xs.flatMap (·.Labels) ∧ ∀x∈xs,insN x=0
  | [],i,L,L',h=>by simp only [foldE] at h; obtain rfl:=Sum.inl.inj h; simp
  | x::xs,i,L,L',h=>by
    simp only [foldE] at h
    cases hf:insF p i L x with
    | inr r =>
      rw [hf] at h
      have:∃e,r=.inr e:=by
        unfold insF at hf
        split at hf
        · exact ⟨_,(Sum.inr.inj hf).symm⟩
        · split at hf
          · exact ⟨_,(Sum.inr.inj hf).symm⟩
          split at hf
          · exact ⟨_,(Sum.inr.inj hf).symm⟩
          split at hf
          · exact ⟨_,(Sum.inr.inj hf).symm⟩
          · cases hf
      obtain ⟨e,rfl⟩:=this
      cases h
    | inl L1 =>
      rw [hf] at h
      obtain ⟨rfl,h0⟩:=insF_spec hf
      obtain ⟨h1,h2⟩:=insE_spec xs _ _ _ h
      refine ⟨by rw [h1]; simp,fun y hy=>?_⟩
      rcases List.mem_cons.1 hy with rfl | hy
      · exact h0
      · exact h2 y hy
def leadF(L:List ByteArray)(_:Nat)(_:Unit)(x:T_api_Ins):Unit ⊕ (Unit ⊕ Int):=if jumpB x&&!has L x.To then .inr (.inr 7) else .inl ()
def lastOp(t:T_api_Thread):Int:=(rd t.Ins ((t.Ins.length:Int)-1)).Op
def threadN(p:T_api_Prog)(t:T_api_Thread):Int :=
  if decide (countN t>4096) then 10 else match foldE (insF p) (Sum.inl:List ByteArray → List ByteArray ⊕ Int) 0 [] t.Ins with
  | .inr e=>e
  | .inl L=>if ((t.Ins.length:Int)==0)||((lastOp t != 10)&&(lastOp t != 14)) then 9 else match foldE (leadF L) Sum.inl 0 () t.Ins with
    | .inl ()=>0
    | .inr e=>e
end Go.Vs
end

section
/-! What may be, the threads and the whole. -/
set_option linter.unusedVariables false
set_option linter.unusedSimpArgs false
set_option linter.unusedSectionVars false
namespace Go.Vs
open Go.Lib
local instance tabPalShow5:Tab:=⟨fun _=>none⟩
theorem fold_map{α β R R':Type}(f:Nat → β → α → β ⊕ R)(g:Nat → β → α → β ⊕ R')(fin:β → R)(fin':β → R')(q:R → R')(hq:∀b,fin' b=q (fin b))
    (hg:∀i b x,g i b x=match f i b x with | .inl b'=>.inl b' | .inr r=>.inr (q r)):∀(l:List α) (i:Nat) (b:β),foldE g fin' i b l=q (foldE f fin i b l)
  | [],i,b=>hq b
  | x::xs,i,b=>by
    simp only [foldE,hg]
    cases f i b x with
    | inl b'=>exact fold_map f g fin fin' q hq hg xs (i+1) b'
    | inr r=>rfl
def qS:List ByteArray ⊕ Int → List (ByteArray × Bool) ⊕ Int
  | .inl L=>.inl (seen L)
  | .inr e=>.inr e
def insG(p:T_api_Prog)(i:Nat)(L:List ByteArray)(x:T_api_Ins):List ByteArray ⊕ (List (ByteArray × Bool) ⊕ Int) :=
  match insF p i L x with
  | .inl L'=>.inl L'
  | .inr (.inl L')=>.inr (.inl (seen L'))
  | .inr (.inr e)=>.inr (.inr e)
end Go.Vs
end

section
/-! What may be, the document's way. -/
set_option linter.unusedVariables false
set_option linter.unusedSimpArgs false
set_option linter.unusedSectionVars false
namespace Go.Vs
open Go.Lib
local instance tabPalShow6:Tab:=⟨fun _=>none⟩
theorem ref_labs(t:T_api_Thread)(i0:Nat)(x:T_api_Ins)(hx:t.Ins[i0]?=some x)(hk:LabOk x)(L:List ByteArray)(hL:L.length ≤ 900000):loopO (palingref1_thread_s2 t i0) (0,L)=some (labsE L x.Labels):=by
  have hn:=hk.n
  have:=loop_list x.Labels (fun i (L:List ByteArray)=>(i,L)) (palingref1_thread_s2 t i0) labF (fun L=>.inl L) (fun i L=>L.length ≤ 900000+i)
    (fun i s hs L hL=>⟨?_,?_⟩) (fun L _=>?_) L (by omega)
  · exact this
  · have hi:i ≤ 1000:=by have:=(List.getElem?_eq_some_iff.1 hs).1; omega
    simp only [palingref1_thread_s2,rd_at hx]
    rw [if_pos (lt_at hs),if_pos (inb_at hs),rd_at hs,ref_Right_eq _ (sm1000 (hk.lab s (List.mem_of_getElem? hs))),wi (by omega)]
    simp only [Option.bind_some,if_pos (inb_at hs)]
    unfold labF
    cases rightS s
    · rfl
    · simp only [Bool.not_true,Bool.false_eq_true,if_false]
      obtain ⟨j,h1,h2⟩:=index_ge L s (by omega)
      rw [h1]
      simp only [Option.bind_some,h2]
      rw [if_pos (show Fits (L.length+1) from by unfold Fits; omega)]
      cases has L s <;> rfl
  · intro a' h
    have hi:i ≤ 1000:=by have:=(List.getElem?_eq_some_iff.1 hs).1; omega
    unfold labF at h
    split at h
    · cases h
    split at h
    · cases h
    · obtain rfl:=Sum.inl.inj h
      simp; omega
  · simp only [palingref1_thread_s2,rd_at hx]
    rw [if_neg (by simp)]
def qU:List ByteArray ⊕ Int → Unit ⊕ Int
  | .inl L=>.inl ()
  | .inr e=>.inr e
def insH(p:T_api_Prog)(i:Nat)(L:List ByteArray)(x:T_api_Ins):List ByteArray ⊕ (Unit ⊕ Int) :=
  match insF p i L x with
  | .inl L'=>.inl L'
  | .inr (.inl L')=>.inr (.inl ())
  | .inr (.inr e)=>.inr (.inr e)
theorem ref_ins_step(p:T_api_Prog)(t:T_api_Thread)(i:Nat)(x:T_api_Ins)(hx:t.Ins[i]?=some x)(hk:LabOk x)(L:List ByteArray)(hL:L.length ≤ 900000)(hi:i ≤ 1000000) :
    palingref1_thread_s1 t p ((i:Int),L)=some (match insH p i L x with | .inl L'=>.inl ((i:Int)+1,L') | .inr r=>.inr r):=by
  simp only [palingref1_thread_s1]
  rw [if_pos (lt_at hx),if_pos (inb_at hx),ref_labs t i x hx hk L hL,rd_at hx,ref_InsRight_eq _ hk.to]
  unfold insH insF
  cases hl:labsE L x.Labels with
  | inr e=>rfl
  | inl L1 =>
    simp only [Option.bind_some,onSum]
    by_cases hn:insN x=0
    · obtain ⟨hA,hB⟩:=ins_sym hn
      have e1:(insN x != 0)=false:=by rw [hn]; rfl
      rw [ref_operand_eq p _ hA,ref_operand_eq p _ hB]
      simp only [e1,Bool.false_eq_true,if_false,Option.bind_some]
      rw [wi (by omega)]
      cases (placeN p x.A != 0) <;> cases (placeN p x.B != 0) <;> rfl
    · have e1:(insN x != 0)=true:=by simpa using hn
      simp only [e1,if_true]
def findF(s:ByteArray)(i:Nat)(_:Unit)(x:T_api_Ins):Unit ⊕ (Unit ⊕ Int):=if has x.Labels s then .inr (.inr (i:Int)) else .inl ()
theorem find_spec(s:ByteArray):∀(xs:List T_api_Ins) (i:Nat),(foldE (findF s) Sum.inl i () xs=.inl () ∧ has (xs.flatMap (·.Labels)) s=false) ∨ ∃k:Nat,foldE (findF s) Sum.inl i () xs=.inr (k:Int) ∧ has (xs.flatMap (·.Labels)) s=true
  | [],i=>.inl ⟨rfl,rfl⟩
  | x::xs,i=>by
    have hap:has ((x::xs).flatMap (·.Labels)) s=(has x.Labels s||has (xs.flatMap (·.Labels)) s):=by unfold has; simp
    simp only [foldE]
    unfold findF
    cases hh:has x.Labels s
    · rcases find_spec s xs (i+1) with ⟨h1,h2⟩ | ⟨k,h1,h2⟩
      · exact .inl ⟨h1,by rw [hap,hh,h2]; rfl⟩
      · exact .inr ⟨k,h1,by rw [hap,hh,h2]; rfl⟩
    · exact .inr ⟨i,rfl,by rw [hap,hh]; rfl⟩
theorem ref_Find_eq(t:T_api_Thread)(ht:ThOk t)(s:ByteArray):∃f,palingref1_Find t s=some f ∧ decide (f<0)=!has (t.Ins.flatMap (·.Labels)) s:=by
  have hn:=ht.n
  have:=loop_list t.Ins (fun i (_:Unit)=>i) (palingref1_Find_s1 t s) (findF s) Sum.inl (fun _ _=>True) (fun i x hx a _=>⟨?_,fun _ _=>trivial⟩) (fun a _=>?_) () trivial
  · unfold palingref1_Find
    rw [this]
    rcases find_spec s t.Ins 0 with ⟨h1,h2⟩ | ⟨k,h1,h2⟩
    · rw [h1,h2]; exact ⟨-1,rfl,rfl⟩
    · rw [h1,h2]; exact ⟨k,rfl,by simp⟩
  · have hi:i ≤ 1000000:=by have:=(List.getElem?_eq_some_iff.1 hx).1; omega
    have hk:=ht.ins x (List.mem_of_getElem? hx)
    have hkn:=hk.n
    simp only [palingref1_Find_s1]
    rw [if_pos (lt_at hx),if_pos (inb_at hx),rd_at hx,wi (by omega)]
    obtain ⟨j,h1,h2⟩:=index_ge x.Labels s (by omega)
    rw [h1]
    simp only [Option.bind_some,h2]
    unfold findF
    cases has x.Labels s <;> rfl
  · simp only [palingref1_Find_s1]; rw [if_neg (by simp)]
theorem insF_len{p:T_api_Prog}{i:Nat}{L L':List ByteArray}{x:T_api_Ins}(h:insF p i L x=.inl L'):L'.length=L.length+x.Labels.length:=by
  rw [(insF_spec h).1,List.length_append]
theorem ref_thread_eq(p:T_api_Prog)(t:T_api_Thread)(ht:ThOk t):palingref1_thread p t=some (threadN p t):=by
  have hn:=ht.n
  unfold palingref1_thread threadN
  rw [ref_Count_eq t (by omega)]
  simp only [Option.bind_some]
  split
  · rfl
  have h1:=loop_list t.Ins (fun i (L:List ByteArray)=>(i,L)) (palingref1_thread_s1 t p) (insH p) (fun _=>.inl ()) (fun i L=>L.length ≤ 700 * i)
    (fun i x hx L hL=>by
      have hlt:=(List.getElem?_eq_some_iff.1 hx).1
      have hk:=ht.ins x (List.mem_of_getElem? hx)
      have hkn:=hk.n
      refine ⟨by rw [ref_ins_step p t i x hx hk L (by omega) (by omega)]; cases insH p i L x <;> rfl,fun L' h=>?_⟩
      unfold insH at h
      cases hf:insF p i L x with
      | inl L1 =>
        rw [hf] at h
        obtain rfl:=Sum.inl.inj h
        rw [insF_len hf]; omega
      | inr r=>rw [hf] at h; cases r <;> cases h) (fun L _=>by simp only [palingref1_thread_s1]; rw [if_neg (by simp)]) [] (by simp)
  rw [h1,fold_map (insF p) (insH p) (Sum.inl:List ByteArray → List ByteArray ⊕ Int) (fun _=>.inl ()) qU (fun _=>rfl) (fun i b x=>by
    unfold insH
    cases insF p i b x with
    | inl L'=>rfl
    | inr r=>cases r <;> rfl)]
  cases hf:foldE (insF p) (Sum.inl:List ByteArray → List ByteArray ⊕ Int) 0 [] t.Ins with
  | inr e=>rfl
  | inl L =>
    obtain ⟨hL,hz⟩:=insE_spec _ _ _ _ hf
    simp only [Option.bind_some,onSum,qU]
    rw [List.nil_append] at hL
    have h3:loopO (palingref1_thread_s3 t) 0=some (match foldE (leadF L) Sum.inl 0 () t.Ins with | .inl ()=>.inl () | .inr e=>.inr e):=by
      have h4:=loop_list t.Ins (fun i (_:Unit)=>i) (palingref1_thread_s3 t) (leadF L) Sum.inl (fun _ _=>True)
        (fun i x hx a _=>⟨?_,fun _ _=>trivial⟩) (fun a _=>?_) () trivial
      · rw [h4]
        cases foldE (leadF L) Sum.inl 0 () t.Ins with
        | inl u=>rfl
        | inr e=>rfl
      · have hi:i ≤ 1000000:=by have:=(List.getElem?_eq_some_iff.1 hx).1; omega
        simp only [palingref1_thread_s3]
        unfold palingref1_Jumps
        obtain ⟨f,hf1,hf2⟩:=ref_Find_eq t ht x.To
        have inb:=inb_at hx
        rw [if_pos (lt_at hx),if_pos inb,rd_at hx,wi (by omega),hf1]
        have ej:((x.Op==10)||(x.Op==11))=jumpB x:=rfl
        simp only [Option.bind_some,ej,inb,implies_true,if_true]
        unfold leadF
        rw [hL]
        cases jumpB x
        · rfl
        · simp only [if_true,Option.bind_some,hf2,Bool.true_and]
          cases has (t.Ins.flatMap (·.Labels)) x.To <;> rfl
      · simp only [palingref1_thread_s3]; rw [if_neg (by simp)]
    rw [h3]
    by_cases hl:((t.Ins.length:Int)==0)=true
    · simp only [hl,Bool.true_or,if_true]
    · have h0:t.Ins.length≠0:=by simpa using hl
      simp only [Bool.not_eq_true] at hl
      rw [wi64_id (show I64 ((t.Ins.length:Int)-1) from ⟨by omega,by omega⟩)]
      have w2:InB ((t.Ins.length:Int)-1) t.Ins.length:=⟨by omega,by omega⟩
      simp only [hl,w2,if_true,Bool.false_or,Bool.false_eq_true,if_false]
      have:(rd t.Ins ((t.Ins.length:Int)-1)).Op=lastOp t:=rfl
      rw [this]
      split
      · rfl
      · cases foldE (leadF L) Sum.inl 0 () t.Ins with
        | inl u=>rfl
        | inr e=>rfl
/-! ### The whole -/
def symF(_:Nat)(L:List ByteArray)(s:T_api_Sym):List ByteArray ⊕ (Unit ⊕ Int) :=
  if !rightS s.Name then .inr (.inr 3) else if has L s.Name then .inr (.inr 6)
  else if (decide (s.Size<1)||decide (s.Size>64))||decide ((s.Init.length:Int)>s.Size) then .inr (.inr 5) else .inl (L++[s.Name])
def thF(p:T_api_Prog)(_:Nat)(_:Unit)(t:T_api_Thread):Unit ⊕ (Unit ⊕ Int):=if threadN p t != 0 then .inr (.inr (threadN p t)) else .inl ()
def checkN(p:T_api_Prog):Int :=
  if decide ((p.Syms.length:Int)>64)||decide ((p.Threads.length:Int)>64) then 10 else match foldE symF (fun _=>(.inl ():Unit ⊕ Int)) 0 [] p.Syms with
  | .inr e=>e
  | .inl ()=>match foldE (thF p) Sum.inl 0 () p.Threads with
    | .inr e=>e
    | .inl ()=>0
theorem ref_dup(p:T_api_Prog)(hp:ProgOk p)(i:Nat)(s:T_api_Sym)(hx:p.Syms[i]?=some s):loopO (palingref1_Check_s2 (i:Int) p) 0=some (if has ((p.Syms.take i).map (·.Name)) s.Name then .inr 6 else .inl ()):=by
  have hs:=hp.ns
  have hlt:=(List.getElem?_eq_some_iff.1 hx).1
  have h1:=loop_list (p.Syms.take i) (fun i (_:Unit)=>i) (palingref1_Check_s2 (i:Int) p) (fun _ _ y=>if decide (y.Name=s.Name) then .inr (.inr 6) else .inl ()) (fun _=>(.inl ():Unit ⊕ Int)) (fun _ _=>True)
    (fun j y hy _ _=>⟨by
      have hj:=(List.getElem?_eq_some_iff.1 hy).1
      have hj2:j<i:=by simp at hj; omega
      have hy2:p.Syms[j]?=some y:=by rw [List.getElem?_take_of_lt hj2] at hy; exact hy
      simp only [palingref1_Check_s2]
      rw [if_pos (by simpa using hj2),if_pos (inb_at hy2),rd_at hy2,rd_at hx,wi (by omega)]
      cases decide (y.Name=s.Name) <;> rfl,fun _ _=>trivial⟩) (fun _ _=>by
      simp only [palingref1_Check_s2]; rw [if_neg (by simp; omega)]) () trivial
  rw [h1]
  congr 1
  generalize p.Syms.take i=l
  generalize (0:Nat)=k
  induction l generalizing k with
  | nil=>rfl
  | cons y l ih =>
    simp only [foldE]
    unfold has
    simp only [List.map_cons,List.any_cons]
    cases decide (y.Name=s.Name)
    · simp only [Bool.false_eq_true,if_false,Bool.false_or]
      exact ih (k+1)
    · rfl
theorem ref_Check_eq(p:T_api_Prog)(hp:ProgOk p):palingref1_Check p=some (checkN p):=by
  have hs:=hp.ns
  have ht:=hp.nt
  unfold palingref1_Check checkN
  split
  · rfl
  have h1:loopO (palingref1_Check_s1 p) 0=some (foldE symF (fun _=>(.inl ():Unit ⊕ Int)) 0 [] p.Syms):=by
    have main:∀(suf pre:List T_api_Sym),p.Syms=pre++suf → loopO (palingref1_Check_s1 p) (pre.length:Int)=some (foldE symF (fun _=>(.inl ():Unit ⊕ Int)) pre.length (pre.map (·.Name)) suf):=by
      intro suf
      induction suf with
      | nil =>
        intro pre e
        rw [List.append_nil] at e
        refine loopO_inr ?_
        simp only [palingref1_Check_s1]
        rw [e,if_neg (by simp)]
        rfl
      | cons s suf ih =>
        intro pre e
        have hx:p.Syms[pre.length]?=some s:=by rw [e]; simp
        have hi:pre.length ≤ 1000:=by have:=(List.getElem?_eq_some_iff.1 hx).1; omega
        have hk:=hp.sym s (List.mem_of_getElem? hx)
        have htk:p.Syms.take pre.length=pre:=by rw [e]; simp
        have hst:palingref1_Check_s1 p (pre.length:Int)=some (match symF pre.length (pre.map (·.Name)) s with | .inl _=>.inl ((pre.length:Int)+1) | .inr r=>.inr r):=by
          simp only [palingref1_Check_s1]
          rw [if_pos (lt_at hx),if_pos (inb_at hx),rd_at hx,ref_Right_eq _ (sm1000 hk.name),ref_dup p hp _ s hx,htk,wi (by omega)]
          simp only [Option.bind_some]
          unfold symF
          cases rightS s.Name
          · rfl
          · cases has (pre.map (·.Name)) s.Name
            · simp only [Bool.not_true,Bool.false_eq_true,if_false,onSum,Option.bind_some]
              cases ((decide (s.Size<1)||decide (s.Size>64))||decide ((s.Init.length:Int)>s.Size)) <;> rfl
            · rfl
        have hnext:=ih (pre++[s]) (by rw [e]; simp)
        simp only [foldE]
        cases hf:symF pre.length (pre.map (·.Name)) s with
        | inl L' =>
          rw [hf] at hst
          rw [loopO_inl hst]
          have:L'=(pre++[s]).map (·.Name):=by
            unfold symF at hf
            split at hf
            · cases hf
            split at hf
            · cases hf
            split at hf
            · cases hf
            · rw [← Sum.inl.inj hf]; simp
          subst this
          simpa using hnext
        | inr r =>
          rw [hf] at hst
          rw [loopO_inr hst]
    exact main p.Syms [] rfl
  rw [h1]
  have h2:=loop_list p.Threads (fun i (_:Unit)=>i) (palingref1_Check_s3 p) (thF p) Sum.inl (fun _ _=>True)
    (fun i t hx _ _=>⟨by
      have hi:i ≤ 1000000:=by have:=(List.getElem?_eq_some_iff.1 hx).1; omega
      have hk:=hp.th t (List.mem_of_getElem? hx)
      simp only [palingref1_Check_s3]
      rw [if_pos (lt_at hx),if_pos (inb_at hx),rd_at hx,ref_thread_eq p t hk,wi (by omega)]
      simp only [Option.bind_some]
      unfold thF
      cases (threadN p t != 0) <;> rfl,fun _ _=>trivial⟩) (fun _ _=>by simp only [palingref1_Check_s3]; rw [if_neg (by simp)]) () trivial
  rw [h2]
  cases foldE symF (fun _=>(.inl ():Unit ⊕ Int)) 0 [] p.Syms with
  | inr e=>rfl
  | inl u =>
    simp only [Option.bind_some,onSum]
    cases foldE (thF p) Sum.inl 0 () p.Threads with
    | inr e=>rfl
    | inl u=>rfl
end Go.Vs
end

section
/-! The text of a program: both ways of telling it come to the same. -/
set_option linter.unusedVariables false
set_option linter.unusedSimpArgs false
set_option linter.unusedSectionVars false
namespace Go.Vs
open Go.Lib
local instance tabPalShow7:Tab:=⟨fun _=>none⟩
theorem loop_foldl{α β σ R:Type}(l:List α)(mk:Int → β → σ)(step:σ → Option (σ ⊕ R))(g:β → α → β)(fin:β → R)(sz:β → Nat)(B C:Nat)(a0:β)(h0:sz a0 ≤ B)(hg:∀a x,x∈l → sz (g a x) ≤ sz a+C)
    (h1:∀(i:Nat) x,l[i]?=some x → ∀a,sz a ≤ B+i * C → step (mk (i:Int) a)=some (.inl (mk ((i:Int)+1) (g a x)))) (h2:∀a,step (mk (l.length:Int) a)=some (.inr (fin a))) :
    loopO step (mk 0 a0)=some (fin (l.foldl g a0)):=by
  have:=loop_list l mk step (fun _ a x=>.inl (g a x)) fin (fun i a=>sz a ≤ B+i * C) (fun i x hx a ha=>⟨h1 i x hx a ha,fun a' e=>by
    obtain rfl:=Sum.inl.inj e
    have:=hg a x (List.mem_of_getElem? hx)
    rw [Nat.add_mul]; omega⟩) (fun a _=>h2 a) a0 (by omega)
  rw [this]
  congr 1
  generalize (0:Nat)=k
  clear this h0 h1 h2 hg
  induction l generalizing a0 k with
  | nil=>rfl
  | cons x l ih=>exact ih _ _
theorem foldl_size{α:Type}(g:ByteArray → α → ByteArray)(C:Nat):∀(l:List α) (hg:∀a x,x∈l → (g a x).size ≤ a.size+C) (a:ByteArray),(l.foldl g a).size ≤ a.size+l.length * C
  | [],_,a=>by simp
  | x::l,hg,a=>by
    have h1:=foldl_size g C l (fun a y hy=>hg a y (List.mem_cons_of_mem _ hy)) (g a x)
    have h2:=hg a x (List.mem_cons_self ..)
    simp only [List.foldl_cons,List.length_cons,Nat.add_mul]
    omega
/-! ### The pieces -/
def initT(a:ByteArray)(v:Int):ByteArray:=a++((⟨#[32]⟩:ByteArray)++itoaB v)
def symHead(s:T_api_Sym):ByteArray:=(((⟨#[115,121,109,32]⟩:ByteArray)++s.Name)++(⟨#[32]⟩:ByteArray))++itoaB s.Size
def symT(a:ByteArray)(s:T_api_Sym):ByteArray:=(s.Init.foldl initT (a++symHead s))++(⟨#[10]⟩:ByteArray)
def labT(a:ByteArray)(s:ByteArray):ByteArray:=a++(s++(⟨#[58,10]⟩:ByteArray))
def lineT(syms:List ByteArray)(a:ByteArray)(x:T_api_Ins):ByteArray:=(x.Labels.foldl labT a)++(((⟨#[9]⟩:ByteArray)++insT x syms)++(⟨#[10]⟩:ByteArray))
def thT(syms:List ByteArray)(a:ByteArray)(t:T_api_Thread):ByteArray:=t.Ins.foldl (lineT syms) (a++(⟨#[116,104,114,101,97,100,10]⟩:ByteArray))
def symNames(p:T_api_Prog):List ByteArray:=p.Syms.map (·.Name)
def showT(p:T_api_Prog):ByteArray:=if checkN p != 0 then ⟨#[]⟩ else p.Threads.foldl (thT (symNames p)) (p.Syms.foldl symT ⟨#[]⟩)
section sizes
theorem z1:(⟨#[32]⟩:ByteArray).size=1:=rfl
theorem z2:(⟨#[10]⟩:ByteArray).size=1:=rfl
theorem z3:(⟨#[115,121,109,32]⟩:ByteArray).size=4:=rfl
theorem z4:(⟨#[58,10]⟩:ByteArray).size=2:=rfl
theorem z5:(⟨#[9]⟩:ByteArray).size=1:=rfl
theorem z6:(⟨#[116,104,114,101,97,100,10]⟩:ByteArray).size=7:=rfl
theorem z7:(⟨#[]⟩:ByteArray).size=0:=rfl
theorem z8:(⟨#[91]⟩:ByteArray).size=1:=rfl
theorem z9:(⟨#[93]⟩:ByteArray).size=1:=rfl
theorem z10:(⟨#[108,111,99,107,32]⟩:ByteArray).size=5:=rfl
theorem z11:(⟨#[44,32]⟩:ByteArray).size=2:=rfl
theorem initT_size{a:ByteArray}{v:Int}(h:I64 v):(initT a v).size ≤ a.size+22:=by
  have:=itoaB_size h
  unfold initT; simp only [app_size,z1]; omega
theorem symHead_size{s:T_api_Sym}(h:SymOk s):(symHead s).size ≤ 1026:=by
  have:=itoaB_size h.size
  have:=h.name
  unfold symHead; simp only [app_size,z1,z3]; omega
theorem inits_size{s:T_api_Sym}(h:SymOk s)(a:ByteArray):(s.Init.foldl initT a).size ≤ a.size+2200:=by
  have:=foldl_size initT 22 s.Init (fun a x hx=>initT_size (h.init x hx)) a
  have:=h.n
  have:s.Init.length * 22 ≤ 100 * 22:=Nat.mul_le_mul_right _ h.n
  omega
theorem symT_size{s:T_api_Sym}(h:SymOk s)(a:ByteArray):(symT a s).size ≤ a.size+3300:=by
  have h1:=inits_size h (a++symHead s)
  have h2:=symHead_size h
  unfold symT; simp only [app_size,z2] at h1 ⊢; omega
def Names(syms:List ByteArray):Prop:=∀s∈syms,s.size ≤ 1000
theorem Names.syms{syms}(h:Names syms):Syms syms:=fun s hs=>by have:=h s hs; omega
theorem opdT_size2(o:T_api_Opd)(syms:List ByteArray)(hn:I64 o.N)(hs:Names syms):(opdT o syms).size ≤ 1023:=by
  have hz:=itoaB_size hn
  have hy:=rd_size hs o.Sym
  have hr:=regT_size o.Reg
  unfold opdT
  split
  · rw [z7]; omega
  split
  · omega
  split
  · omega
  split
  · rw [z7]; omega
  split <;> simp only [app_size,z8,z9] <;> omega
theorem insT_size(x:T_api_Ins)(syms:List ByteArray)(hx:LabOk x)(hs:Names syms):(insT x syms).size ≤ 2100:=by
  have ha:=opdT_size2 x.A syms hx.a hs
  have hb:=opdT_size2 x.B syms hx.b hs
  have ho:=opT_size x.Op x.Cond
  have ht:=hx.to1
  have hS:(if x.Lock then (⟨#[108,111,99,107,32]⟩:ByteArray)++opT x.Op x.Cond else opT x.Op x.Cond).size ≤ 15:=by
    split
    · rw [app_size,z10]; omega
    · omega
  unfold insT
  split
  · rw [z7]; omega
  simp only
  generalize (if x.Lock then (⟨#[108,111,99,107,32]⟩:ByteArray)++opT x.Op x.Cond else opT x.Op x.Cond)=S at hS ⊢
  split
  · simp only [app_size,z1]; omega
  split
  · omega
  split
  · rw [z7]; omega
  · simp only [app_size,z1,z11]; omega
theorem labs_size{x:T_api_Ins}(h:LabOk x)(a:ByteArray):(x.Labels.foldl labT a).size ≤ a.size+701600:=by
  have:=foldl_size labT 1002 x.Labels (fun a s hs=>by have:=h.lab s hs; unfold labT; simp only [app_size,z4]; omega) a
  have:x.Labels.length * 1002 ≤ 700 * 1002:=Nat.mul_le_mul_right _ h.n
  omega
theorem lineT_size{syms:List ByteArray}(hs:Names syms){x:T_api_Ins}(h:LabOk x)(a:ByteArray):(lineT syms a x).size ≤ a.size+704000:=by
  have h1:=labs_size h a
  have h2:=insT_size x syms h hs
  unfold lineT; simp only [app_size,z2,z5]; omega
theorem thT_size{syms:List ByteArray}(hs:Names syms){t:T_api_Thread}(h:ThOk t)(a:ByteArray):(thT syms a t).size ≤ a.size+492900000:=by
  unfold thT
  have:=foldl_size (lineT syms) 704000 t.Ins (fun a x hx=>lineT_size hs (h.ins x hx) a) (a++(⟨#[116,104,114,101,97,100,10]⟩:ByteArray))
  have:t.Ins.length * 704000 ≤ 700 * 704000:=Nat.mul_le_mul_right _ h.n
  simp only [app_size,z6] at *; omega
theorem symNames_ok{p:T_api_Prog}(h:ProgOk p):Names (symNames p):=by
  intro s hs
  obtain ⟨y,hy,rfl⟩:=List.mem_map.1 hs
  exact (h.sym y hy).name
end sizes
theorem catB{a b:ByteArray}(h:a.size+b.size ≤ 5000000000000):CatOk a b:=by unfold CatOk; omega
end Go.Vs
end

section
/-! The text of a program, the document's way. -/
set_option linter.unusedVariables false
set_option linter.unusedSimpArgs false
set_option linter.unusedSectionVars false
namespace Go.Vs
open Go.Lib
local instance tabPalShow8:Tab:=⟨fun _=>none⟩
theorem rshow_inits(p:T_api_Prog)(i:Nat)(s:T_api_Sym)(hx:p.Syms[i]?=some s)(hk:SymOk s)(a:ByteArray)(ha:a.size ≤ 2000000):loopO (palingref1_Show_s2 i p) (a,0)=some (s.Init.foldl initT a):=by
  have hn:=hk.n
  refine loop_foldl s.Init (fun i (a:ByteArray)=>(a,i)) (palingref1_Show_s2 i p) initT id (·.size) 2000000 22 a ha (fun a x hx=>initT_size (hk.init x hx)) (fun j v hv b hb=>?_) (fun b=>?_)
  · have hj:j ≤ 1000:=by have:=(List.getElem?_eq_some_iff.1 hv).1; omega
    have hz:=itoaB_size (hk.init v (List.mem_of_getElem? hv))
    simp only [palingref1_Show_s2]
    simp only [rd_at hx,if_pos (inb_at hx)]
    rw [if_pos (lt_at hv),if_pos (inb_at hv),rd_at hv,palingref1_Text_eq _ (hk.init v (List.mem_of_getElem? hv)),wi (by omega)]
    simp only [Option.bind_some]
    rw [if_pos (catB (by rw [z1]; omega)),if_pos (catB (by rw [app_size,z1]; omega))]
    rfl
  · simp only [palingref1_Show_s2,rd_at hx,if_pos (inb_at hx)]
    rw [if_neg (by simp)]; rfl
theorem rshow_syms(p:T_api_Prog)(hp:ProgOk p):loopO (palingref1_Show_s1 p) ((⟨#[]⟩:ByteArray),0)=some (p.Syms.foldl symT ⟨#[]⟩):=by
  have hn:=hp.ns
  refine loop_foldl p.Syms (fun i (b:ByteArray)=>(b,i)) (palingref1_Show_s1 p) symT id (·.size) 0 3300 ⟨#[]⟩ (by simp [z7])
    (fun b s hs=>symT_size (hp.sym s hs) b) (fun j s hs b hb=>?_) (fun b=>?_)
  · have hj:j ≤ 100:=by have:=(List.getElem?_eq_some_iff.1 hs).1; omega
    have hj2:j * 3300 ≤ 100 * 3300:=Nat.mul_le_mul_right _ hj
    have hk:=hp.sym s (List.mem_of_getElem? hs)
    have hz:=itoaB_size hk.size
    have hm:=hk.name
    have hh:=symHead_size hk
    have hin:=inits_size hk (b++symHead s)
    try simp only at hb
    simp only [palingref1_Show_s1]
    simp only [if_pos (lt_at hs),if_pos (inb_at hs),rd_at hs]
    rw [palingref1_Text_eq _ hk.size,wi (by omega)]
    simp only [Option.bind_some]
    have c1:CatOk (⟨#[115,121,109,32]⟩:ByteArray) s.Name:=catB (by rw [z3]; omega)
    have c2:CatOk ((⟨#[115,121,109,32]⟩:ByteArray)++s.Name) (⟨#[32]⟩:ByteArray):=catB (by rw [app_size,z3,z1]; omega)
    have c3:CatOk (((⟨#[115,121,109,32]⟩:ByteArray)++s.Name)++(⟨#[32]⟩:ByteArray)) (itoaB s.Size):=catB (by rw [app_size,app_size,z3,z1]; omega)
    simp only [if_pos c1,if_pos c2,if_pos c3]
    have e:((((⟨#[115,121,109,32]⟩:ByteArray)++s.Name)++(⟨#[32]⟩:ByteArray))++itoaB s.Size)=symHead s:=rfl
    rw [e,if_pos (catB (show b.size+(symHead s).size ≤ _ by omega))]
    rw [rshow_inits p j s hs hk _ (by rw [app_size]; omega)]
    simp only [Option.bind_some]
    rw [if_pos (catB (by rw [app_size] at hin; rw [z2]; omega))]
    rfl
  · simp only [palingref1_Show_s1]
    rw [if_neg (by simp)]; rfl
theorem rshow_labs(x:T_api_Ins)(hk:LabOk x)(a:ByteArray)(ha:a.size ≤ 70000000000):loopO (palingref1_Show_s5 x.Labels) (a,0)=some (x.Labels.foldl labT a):=by
  have hn:=hk.n
  refine loop_foldl x.Labels (fun i (a:ByteArray)=>(a,i)) (palingref1_Show_s5 x.Labels) labT id (·.size) 70000000000 1002 a ha (fun a s hs=>by have:=hk.lab s hs; unfold labT; simp only [app_size,z4]; omega) (fun j s hs b hb=>?_) (fun b=>?_)
  · have hj:j ≤ 700:=by have:=(List.getElem?_eq_some_iff.1 hs).1; omega
    have hj2:j * 1002 ≤ 700 * 1002:=Nat.mul_le_mul_right _ hj
    have hz:=hk.lab s (List.mem_of_getElem? hs)
    simp only [palingref1_Show_s5]
    rw [if_pos (lt_at hs),if_pos (inb_at hs),rd_at hs,wi (by omega),if_pos (catB (by rw [z4]; omega)),if_pos (catB (by rw [app_size,z4]; omega))]
    rfl
  · simp only [palingref1_Show_s5]
    rw [if_neg (by simp)]; rfl
theorem rshow_lines(p:T_api_Prog)(i:Nat)(t:T_api_Thread)(hx:p.Threads[i]?=some t)(hk:ThOk t)(syms:List ByteArray)(hq:Names syms)(a:ByteArray)(ha:a.size ≤ 60000000000) :
    loopO (palingref1_Show_s4 i p syms) (a,0)=some (t.Ins.foldl (lineT syms) a):=by
  have hn:=hk.n
  refine loop_foldl t.Ins (fun i (a:ByteArray)=>(a,i)) (palingref1_Show_s4 i p syms) (lineT syms) id (·.size) 60000000000 704000 a ha (fun a x hx=>lineT_size hq (hk.ins x hx) a) (fun j x hs b hb=>?_) (fun b=>?_)
  · have hj:j ≤ 700:=by have:=(List.getElem?_eq_some_iff.1 hs).1; omega
    have hj2:j * 704000 ≤ 700 * 704000:=Nat.mul_le_mul_right _ hj
    have hl:=hk.ins x (List.mem_of_getElem? hs)
    have hz:=insT_size x syms hl hq
    have hls:=labs_size hl b
    try simp only at hb
    simp only [palingref1_Show_s4]
    simp only [rd_at hx,if_pos (inb_at hx)]
    rw [if_pos (lt_at hs),if_pos (inb_at hs)]
    simp only [rd_at hs,Option.bind_some]
    have eta:T_api_Ins.mk x.Op x.Lock x.Cond x.A x.B x.To x.Labels=x:=rfl
    rw [eta,rshow_labs x hl b (by omega),ref_ShowIns_eq x syms hl.toInsOk hq.syms,wi (by omega)]
    simp only [Option.bind_some]
    rw [if_pos (catB (by rw [z5]; omega)),if_pos (catB (by rw [app_size,z5,z2]; omega)),if_pos (catB (by simp only [app_size,z5,z2]; omega))]
    rfl
  · simp only [palingref1_Show_s4,rd_at hx,if_pos (inb_at hx)]
    rw [if_neg (by simp)]; rfl
theorem ref_SymNames_eq(p:T_api_Prog)(hn:p.Syms.length ≤ 1000000):palingref1_SymNames p=some (symNames p):=by
  unfold palingref1_SymNames
  have:=loop_foldl p.Syms (fun i (b:List ByteArray)=>(i,b)) (palingref1_SymNames_s1 p) (fun b s=>b++[s.Name]) id (·.length) 0 1 [] (by simp) (fun b s hs=>by simp) (fun j s hs b hb=>?_) (fun b=>?_)
  · rw [this]
    simp only [Option.bind_some,id]
    have key:∀(l:List T_api_Sym) (L:List ByteArray),l.foldl (fun b s=>b++[s.Name]) L=L++l.map (·.Name):=by
      intro l
      induction l with
      | nil=>intro L; simp
      | cons s l ih=>intro L; simp only [List.foldl_cons]; rw [ih]; simp
    rw [key]; rfl
  · have hj:j<1000000:=by have:=(List.getElem?_eq_some_iff.1 hs).1; omega
    simp only [palingref1_SymNames_s1]
    rw [if_pos (lt_at hs),if_pos (inb_at hs),rd_at hs,wi (by omega),if_pos (show Fits (b.length+1) from by unfold Fits; omega)]
    rfl
  · simp only [palingref1_SymNames_s1]
    rw [if_neg (by simp)]; rfl
theorem ref_Show_eq(p:T_api_Prog)(hp:ProgOk p):palingref1_Show p=some (showT p):=by
  have hn:=hp.nt
  have hnm:=symNames_ok hp
  have hns:=hp.ns
  unfold palingref1_Show showT
  rw [ref_Check_eq p hp]
  simp only [Option.bind_some]
  split
  · rfl
  rw [rshow_syms p hp,ref_SymNames_eq p (by omega)]
  simp only [Option.bind_some]
  have hsz:(p.Syms.foldl symT ⟨#[]⟩).size ≤ 330000:=by
    have:=foldl_size symT 3300 p.Syms (fun a s hs=>symT_size (hp.sym s hs) a) ⟨#[]⟩
    have:p.Syms.length * 3300 ≤ 100 * 3300:=Nat.mul_le_mul_right _ hp.ns
    rw [z7] at *; omega
  have:=loop_foldl p.Threads (fun i (a:ByteArray)=>(a,i)) (palingref1_Show_s3 p (symNames p)) (thT (symNames p)) id (·.size) 330000 492900000 _ hsz (fun a t ht=>thT_size hnm (hp.th t ht) a) (fun j t hs b hb=>?_) (fun b=>?_)
  · rw [this]
    simp only [Option.bind_some,id]
  · have hj:j<100:=by have:=(List.getElem?_eq_some_iff.1 hs).1; omega
    have hj2:j * 492900000 ≤ 100 * 492900000:=Nat.mul_le_mul_right _ (by omega)
    try simp only at hb
    simp only [palingref1_Show_s3]
    rw [if_pos (lt_at hs),if_pos (catB (by rw [z6]; omega)),wi (by omega)]
    rw [rshow_lines p j t hs (hp.th t (List.mem_of_getElem? hs)) (symNames p) hnm _ (by rw [app_size,z6]; omega)]
    rfl
  · simp only [palingref1_Show_s3]
    rw [if_neg (by simp)]; rfl
end Go.Vs
end

section
set_option linter.unusedVariables false
set_option linter.unusedSectionVars false
namespace Go.Vs
noncomputable def palinglaw9_ShowTells(p0:T_api_Prog):Option (Bool) :=
(palingbook_Great p0).bind fun v1 =>
  (if v1=true then palinglaw9_alive else some default).bind fun v3 =>
  (if (!(v1&&v3))=true then show_Prog p0 else some default).bind fun v5 =>
  (if (!(v1&&v3))=true then palingref1_Show p0 else some default).bind fun v7 =>
  (if ((!(v1&&v3))&&decide (v5=v7))=true then palinglaw9_alive else some default).bind fun v9 =>
  some ((v1&&v3)||(decide (v5=v7)&&v9))
end Go.Vs
end

section
set_option linter.unusedVariables false
namespace Go.Vs
def Wi(k:IntKind)(n:Int):Prop:=k.min ≤ n ∧ n ≤ k.max
theorem Wi.i64{n:Int}(h:Wi .i64 n):I64 n:=h
structure W_palingbook_Act (x:T_palingbook_Act):Prop where
  Kind:Wi .i64 x.Kind
  A:Wi .i64 x.A
  B:Wi .i64 x.B
  C:Wi .i64 x.C
  N:Wi .i64 x.N
structure W_api_Sym (x:T_api_Sym):Prop where
  Name:x.Name.size ≤ maxLen
  Size:Wi .i64 x.Size
  Init:x.Init.length ≤ maxLen ∧ ∀yxInit∈x.Init,Wi .i64 yxInit
structure W_api_Opd (x:T_api_Opd):Prop where
  Kind:Wi .i64 x.Kind
  Reg:Wi .i64 x.Reg
  Sym:Wi .i64 x.Sym
  N:Wi .i64 x.N
structure W_api_Ins (x:T_api_Ins):Prop where
  Op:Wi .i64 x.Op
  Lock:True
  Cond:Wi .i64 x.Cond
  A:W_api_Opd x.A
  B:W_api_Opd x.B
  To:x.To.size ≤ maxLen
  Labels:x.Labels.length ≤ maxLen ∧ ∀yxLabels∈x.Labels,yxLabels.size ≤ maxLen
structure W_api_Thread (x:T_api_Thread):Prop where
  Ins:x.Ins.length ≤ maxLen ∧ ∀yxIns∈x.Ins,W_api_Ins yxIns
structure W_api_Prog (x:T_api_Prog):Prop where
  Syms:x.Syms.length ≤ maxLen ∧ ∀yxSyms∈x.Syms,W_api_Sym yxSyms
  Threads:x.Threads.length ≤ maxLen ∧ ∀yxThreads∈x.Threads,W_api_Thread yxThreads
end Go.Vs
end

section
/-! The laws of texts of programs. -/
set_option linter.unusedVariables false
set_option linter.unusedSimpArgs false
set_option linter.unusedSectionVars false
namespace Go.Vs
open Go.Lib
local instance tabPalShow9:Tab:=⟨fun _=>none⟩
/-! ### Great ones -/
/-! ### The first call -/
def jmpP:T_api_Prog:=⟨[],[⟨[⟨10,false,0,⟨0,0,0,0⟩,⟨0,0,0,0⟩,⟨#[116,111,112]⟩,[⟨#[116,111,112]⟩]⟩]⟩]⟩
def movI:T_api_Ins:=⟨1,false,0,⟨1,0,0,0⟩,⟨2,0,0,-1⟩,⟨#[]⟩,[]⟩
end Go.Vs
end

section
set_option linter.unusedVariables false
set_option linter.unusedSectionVars false
namespace Go.Vs
noncomputable def palinglaw9_ShowMade(p0:(List (List T_palingbook_Act))):Option (Bool) :=
(palingbook_Prog p0 3 8).bind fun v1 =>
  (show_Prog v1).bind fun v3 =>
  (palingref1_Show v1).bind fun v5 =>
  (if decide (v3=v5)=true then palinglaw9_alive else some default).bind fun v7 =>
  some (decide (v3=v5)&&v7)
noncomputable def palinglaw9_ShowIns_s1(p2:(List ByteArray)):(Int × (List ByteArray)) → Option ((Int × (List ByteArray)) ⊕ ((List ByteArray)))
  | (i19,l20) =>
  if (decide (i19<(p2.length:Int))&&decide (i19<5))=true then (if InB i19 p2.length then ((palingbook_Short (rd p2 i19) 30).bind fun v34 =>
      if Fits (l20.length+1) then ((some (l20++([v34]))).bind fun l37 =>
      some (.inl ((IntKind.wrap .i64 (i19+1)),l37))) else none) else none) else (some (.inr l20))

noncomputable def palinglaw9_ShowIns(p0:T_api_Ins)(p1:T_palingbook_Act)(p2:(List ByteArray)):Option (Bool) :=
(loopO (palinglaw9_ShowIns_s1 p2) (0,[])).bind fun r31 =>
  (palingbook_GreatIns p0).bind fun v39 =>
    if v39=true then ((palinglaw9_alive).bind fun v42 =>
      some v42) else ((palingbook_Ins p1 9).bind fun v44 =>
      (show_Ins p0 r31).bind fun v46 =>
      (palingref1_ShowIns p0 r31).bind fun v48 =>
      (if decide (v46=v48)=true then show_Ins v44 r31 else some default).bind fun v50 =>
      (if decide (v46=v48)=true then palingref1_ShowIns v44 r31 else some default).bind fun v52 =>
      (if (decide (v46=v48)&&decide (v50=v52))=true then show_Ins v44 ([(⟨#[120]⟩:ByteArray),(⟨#[121]⟩:ByteArray),(⟨#[122]⟩:ByteArray)]) else some default).bind fun v54 =>
      (if (decide (v46=v48)&&decide (v50=v52))=true then palingref1_ShowIns v44 ([(⟨#[120]⟩:ByteArray),(⟨#[121]⟩:ByteArray),(⟨#[122]⟩:ByteArray)]) else some default).bind fun v56 =>
      (if ((decide (v46=v48)&&decide (v50=v52))&&decide (v54=v56))=true then palinglaw9_alive else some default).bind fun v58 =>
      some (((decide (v46=v48)&&decide (v50=v52))&&decide (v54=v56))&&v58))
noncomputable def palinglaw9_ShowLines_s2(i61:Int)(v1:T_api_Prog):(Int × Int) → Option ((Int × Int) ⊕ (Int))
  | (i104,i105) =>
  if InB i61 v1.Threads.length then (if decide (i105<(((rd v1.Threads i61).Ins).length:Int))=true then (if InB i61 v1.Threads.length then (if InB i105 ((rd v1.Threads i61).Ins).length then ((some (IntKind.wrap .i64 (i104+(IntKind.wrap .i64 (1+(((rd ((rd v1.Threads i61).Ins) i105).Labels).length:Int)))))).bind fun n118 =>
          some (.inl (n118,(IntKind.wrap .i64 (i105+1))))) else none) else none) else (some (.inr i104))) else none

noncomputable def palinglaw9_ShowLines_s1(v1:T_api_Prog):(Int × Int) → Option ((Int × Int) ⊕ (Int))
  | (i60,i61) =>
  if decide (i61<(v1.Threads.length:Int))=true then ((loopO (palinglaw9_ShowLines_s2 i61 v1) (i60,0)).bind fun r113 =>
      some (.inl (r113,(IntKind.wrap .i64 (i61+1))))) else (some (.inr i60))

noncomputable def palinglaw9_ShowLines_j1(i131:Int)(i139:Int):Option ((Int × Int) ⊕ (Int)) :=
  some (.inl (i139,(IntKind.wrap .i64 (i131+1))))

noncomputable def palinglaw9_ShowLines_s3(v3:ByteArray):(Int × Int) → Option ((Int × Int) ⊕ (Int))
  | (i130,i131) =>
  if decide (i131<(v3.size:Int))=true then (if InB i131 v3.size then (if ((bt v3 i131)==10)=true then (palinglaw9_ShowLines_j1 i131 (IntKind.wrap .i64 (i130+1))) else (palinglaw9_ShowLines_j1 i131 i130)) else none) else (some (.inr i130))

noncomputable def palinglaw9_ShowLines(p0:(List (List T_palingbook_Act))):Option (Bool) :=
(palingbook_Prog p0 3 8).bind fun v1 =>
  (show_Prog v1).bind fun v3 =>
  (some (IntKind.wrap .i64 ((v1.Syms.length:Int)+(v1.Threads.length:Int)))).bind fun n5 =>
  (loopO (palinglaw9_ShowLines_s1 v1) (n5,0)).bind fun r88 =>
  (loopO (palinglaw9_ShowLines_s3 v3) (0,0)).bind fun r137 =>
    if (((r137==r88)&&decide ((v3.size:Int)>0))=true → InB (IntKind.wrap .i64 ((v3.size:Int)-1)) v3.size) then ((if (((r137==r88)&&decide ((v3.size:Int)>0))&&((bt v3 (IntKind.wrap .i64 ((v3.size:Int)-1)))==10))=true then palinglaw9_alive else some default).bind fun v143 =>
      (some ((((r137==r88)&&decide ((v3.size:Int)>0))&&((bt v3 (IntKind.wrap .i64 ((v3.size:Int)-1)))==10))&&v143)).bind fun b145 =>
      some b145) else none
end Go.Vs
end

section
/-! What the book of programs makes. -/
set_option linter.unusedVariables false
set_option linter.unusedSimpArgs false
set_option linter.unusedSectionVars false
namespace Go.Vs
open Go.Lib
local instance tabPalShowA:Tab:=⟨fun _=>none⟩
theorem z64:I64 0:=by unfold I64; decide
theorem pick_i{p:Int}(h:I64 p)(n:Int)(hn:0<n)(hn2:n ≤ 1000):∃i:Nat,palingbook_Pick p n=some (i:Int) ∧ (i:Int)<n:=by
  obtain ⟨i,h1,h2,h3⟩:=pick_some h n hn hn2
  exact ⟨i.toNat,by rw [h1]; congr 1; omega,by omega⟩
theorem reg_w{a:Int}(h:I64 a):∃o,palingbook_register a=some o ∧ I64 o.N:=by
  obtain ⟨i,h1,h2⟩:=pick_i h 4 (by omega) (by omega)
  refine ⟨⟨1,i,0,0⟩,?_,z64⟩
  unfold palingbook_register
  rw [h1]; rfl
theorem div3{a:Int}(h:I64 a):I64 (IntKind.wrap .i64 (Int.tdiv a 3)):=by
  have h1:(Int.tdiv a 3).natAbs ≤ a.natAbs:=by rw [Int.natAbs_tdiv]; exact Nat.div_le_self _ _
  obtain ⟨h2,h3⟩:=h
  rw [wi64]
  constructor <;> omega
theorem plain_w{b n:Int}(h:I64 b)(hn:I64 n):∃o,palingbook_plain b n=some o ∧ I64 o.N:=by
  obtain ⟨i,h1,h2⟩:=pick_i h 3 (by omega) (by omega)
  unfold palingbook_plain
  rw [h1]
  simp only [Option.bind_some]
  split
  · obtain ⟨o,h3,h4⟩:=reg_w (div3 h)
    exact ⟨o,by rw [h3]; rfl,h4⟩
  · exact ⟨_,rfl,hn⟩
def memV(v1:Int):Option T_api_Opd :=
  (some ([1,2,1])).bind fun l3 =>
  if ((Int.tmod v1 5)==4)=true then (some (T_api_Opd.mk 4 (IntKind.wrap .i64 (Int.tdiv v1 15)) (Int.tmod (IntKind.wrap .i64 (Int.tdiv v1 5)) 3) 0)) else (if InB (Int.tmod (IntKind.wrap .i64 (Int.tdiv v1 5)) 3) l3.length then (if ¬(rd l3 (Int.tmod (IntKind.wrap .i64 (Int.tdiv v1 5)) 3))=0 then ((some (Int.tmod (Int.tmod v1 5) (rd l3 (Int.tmod (IntKind.wrap .i64 (Int.tdiv v1 5)) 3)))).bind fun n8 =>
    some (T_api_Opd.mk 3 0 (Int.tmod (IntKind.wrap .i64 (Int.tdiv v1 5)) 3) n8)) else none) else none)
def memChk(o:T_api_Opd):Bool:=opdB o&&memB o&&decide (0 ≤ o.Sym ∧ o.Sym ≤ 2 ∧ 0 ≤ o.N ∧ o.N ≤ 1 ∧ (o.Kind=3 → o.N<rd [1,2,1] o.Sym))
theorem mem_all:((List.range 60).all fun v=>match memV (v:Int) with | some o=>memChk o | none=>false)=true:=by decide +kernel
theorem mem_w{a:Int}(h:I64 a):∃o,palingbook_memory a=some o ∧ memChk o=true:=by
  obtain ⟨i,h1,h2⟩:=pick_i h 60 (by omega) (by omega)
  have h3:=(List.all_eq_true.1 mem_all) i (by simp; omega)
  have h4:palingbook_memory a=memV i:=by
    unfold palingbook_memory memV
    rw [h1]; rfl
  rw [h4]
  cases hv:memV (i:Int) with
  | none=>rw [hv] at h3; cases h3
  | some o=>rw [hv] at h3; exact ⟨o,rfl,h3⟩
theorem memChk_n{o:T_api_Opd}(h:memChk o=true):I64 o.N:=by
  unfold memChk at h
  simp only [Bool.and_eq_true,decide_eq_true_eq] at h
  unfold I64; omega
theorem label_w(k:Int):∃s,palingbook_label k=some s ∧ s.size=3:=by
  unfold palingbook_label
  rw [if_pos (catB (by show 1+2 ≤ _; omega))]
  exact ⟨_,rfl,by rw [app_size]; rfl⟩
structure BookIns (y:T_api_Ins):Prop where
  a:I64 y.A.N
  b:I64 y.B.N
  to:y.To.size ≤ 3
  lab:y.Labels=[]
def GoodI(o:Option T_api_Ins):Prop:=∃y,o=some y ∧ BookIns y
theorem good_ite{b:Bool}{x y:Option T_api_Ins}(h1:b=true → GoodI x)(h2:b=false → GoodI y):GoodI (if b=true then x else y):=by cases b <;> simp_all
theorem book_Ins{x:T_palingbook_Act}(hw:W_palingbook_Act x){n:Int}(hn:0<n)(hn2:n ≤ 1000):∃y,palingbook_Ins x n=some y ∧ BookIns y:=by
  obtain ⟨v1,e1,l1⟩:=pick_i hw.C.i64 5 (by omega) (by omega)
  obtain ⟨v3,e3,l3⟩:=pick_i hw.Kind.i64 22 (by omega) (by omega)
  obtain ⟨rA,eA,nA⟩:=reg_w hw.A.i64
  obtain ⟨rB,eB,nB⟩:=reg_w hw.B.i64
  obtain ⟨mA,fA,gA⟩:=mem_w hw.A.i64
  obtain ⟨mB,fB,gB⟩:=mem_w hw.B.i64
  obtain ⟨pB,hB,kB⟩:=plain_w hw.B.i64 hw.N.i64
  obtain ⟨j,ej,lj⟩:=pick_i hw.A.i64 n hn hn2
  obtain ⟨c,ec,lc⟩:=pick_i hw.C.i64 10 (by omega) (by omega)
  obtain ⟨t,et,lt⟩:=label_w j
  have qA:=memChk_n gA
  have qB:=memChk_n gB
  have zt:(⟨#[]⟩:ByteArray).size ≤ 3:=by decide
  have lt3:t.size ≤ 3:=by omega
  have one:∀op lk cd A B to,I64 A.N → I64 B.N → to.size ≤ 3 → GoodI (some (T_api_Ins.mk op lk cd A B to [])):=fun op lk cd A B to h1 h2 h3=>⟨_,rfl,⟨h1,h2,h3,rfl⟩⟩
  have g4:∀b,GoodI (palingbook_Ins_j4 x v1 v3 n b):=by
    intro b
    unfold palingbook_Ins_j4 palingbook_Ins_j1
    repeat' refine good_ite (fun _=>?_) (fun _=>?_)
    all_goals try simp only [Option.bind_some,eA,eB,fA,fB,hB,ej,ec,et]
    all_goals exact one _ _ _ _ _ _ (by first | assumption | exact z64) (by first | assumption | exact z64) (by assumption)
  have g3:∀b,GoodI (palingbook_Ins_j3 x v3 v1 n b):=by
    intro b
    unfold palingbook_Ins_j3
    repeat' refine good_ite (fun _=>?_) (fun _=>?_)
    all_goals try simp only [Option.bind_some,eA,eB,fA,fB,hB,ej,ec,et]
    all_goals first | exact g4 _ | exact one _ _ _ _ _ _ (by first | assumption | exact z64) (by first | assumption | exact z64) (by assumption)
  have g2:∀b,GoodI (palingbook_Ins_j2 x v3 v1 n b):=by
    intro b
    unfold palingbook_Ins_j2
    repeat' refine good_ite (fun _=>?_) (fun _=>?_)
    all_goals try simp only [Option.bind_some,eA,eB,fA,fB,hB,ej,ec,et]
    all_goals first | exact g3 _ | exact one _ _ _ _ _ _ (by first | assumption | exact z64) (by first | assumption | exact z64) (by assumption)
  show GoodI _
  unfold palingbook_Ins
  rw [e1,e3]
  simp only [Option.bind_some]
  repeat' refine good_ite (fun _=>?_) (fun _=>?_)
  all_goals try simp only [Option.bind_some,eA,eB,fA,fB,hB,ej,ec,et]
  all_goals first | exact g2 _ | exact one _ _ _ _ _ _ (by first | assumption | exact z64) (by first | assumption | exact z64) (by assumption)
theorem BookIns.ok{y:T_api_Ins}(h:BookIns y):InsOk y:=⟨by have:=h.to; unfold Sm; omega,h.a,h.b⟩
/-! ### ShowIns -/
end Go.Vs
end

section
/-! What the book of programs makes: whole programs. -/
set_option linter.unusedVariables false
set_option linter.unusedSimpArgs false
set_option linter.unusedSectionVars false
namespace Go.Vs
open Go.Lib
local instance tabPalShowB:Tab:=⟨fun _=>none⟩
structure BookL (y:T_api_Ins):Prop where
  a:I64 y.A.N
  b:I64 y.B.N
  to:y.To.size ≤ 3
  n:y.Labels.length ≤ 1
  lab:∀s∈y.Labels,s.size ≤ 3
theorem BookIns.l{y:T_api_Ins}(h:BookIns y):BookL y:=⟨h.a,h.b,h.to,by rw [h.lab]; decide,by rw [h.lab]; intro s hs; cases hs⟩
theorem BookL.ok{y:T_api_Ins}(h:BookL y):LabOk y:=⟨⟨by have:=h.to; unfold Sm; omega,h.a,h.b⟩,by have:=h.n; omega,by have:=h.to; omega,fun s hs=>by have:=h.lab s hs; omega⟩
theorem book_s2(p0:List (List T_palingbook_Act))(i:Nat)(l:List T_palingbook_Act)(hi:p0[i]?=some l)(hl:∀x∈l,W_palingbook_Act x)(n:Nat)(hn:n ≤ l.length)(hn8:n ≤ 100) :
    ∃r,loopO (palingbook_Prog_s2 (n:Int) (i:Int) p0) (0,[])=some r ∧ r.length=n ∧ ∀y∈r,BookIns y:=by
  have main:∀(k j:Nat) (out:List T_api_Ins),n-j=k → j ≤ n → out.length=j → (∀y∈out,BookIns y) → ∃r,loopO (palingbook_Prog_s2 (n:Int) (i:Int) p0) ((j:Int),out)=some r ∧ r.length=n ∧ ∀y∈r,BookIns y:=by
    intro k
    induction k with
    | zero =>
      intro j out h1 h2 h3 h4
      obtain rfl:j=n:=by omega
      exact ⟨out,loopO_inr (by simp only [palingbook_Prog_s2]; rw [if_neg (by simp)]),h3,h4⟩
    | succ k ih =>
      intro j out h1 h2 h3 h4
      have hx:l[j]?=some l[j]:=by rw [List.getElem?_eq_getElem]
      obtain ⟨y,e1,e2⟩:=book_Ins (hl l[j] (List.getElem_mem _)) (n:=(n:Int)+1) (by omega) (by omega)
      have hst:palingbook_Prog_s2 (n:Int) (i:Int) p0 ((j:Int),out)=some (.inl ((j:Int)+1,out++[y])):=by
        simp only [palingbook_Prog_s2]
        rw [if_pos (by simp; omega),if_pos (inb_at hi),rd_at hi,if_pos (inb_at hx),rd_at hx,wi (by omega),e1,wi (by omega)]
        simp only [Option.bind_some]
        rw [if_pos (show Fits (out.length+1) from by unfold Fits; omega)]
      obtain ⟨r,e3,e4,e5⟩:=ih (j+1) (out++[y]) (by omega) (by omega) (by simp; omega) (fun z hz=>by
        rcases List.mem_append.1 hz with h | h
        · exact h4 z h
        · rw [List.mem_singleton.1 h]; exact e2)
      exact ⟨r,by rw [loopO_inl hst]; exact e3,e4,e5⟩
  exact main n 0 [] (by omega) (by omega) rfl (by intro y hy; cases hy)
theorem set_all{α:Type}{P:α → Prop}{l:List α}{i:Nat}{a:α}(hl:∀x∈l,P x)(ha:P a):∀x∈l.set i a,P x:=by
  intro x hx
  rcases List.mem_or_eq_of_mem_set hx with h | h
  · exact hl x h
  · rw [h]; exact ha
theorem book_s4(n:Nat)(hn:n ≤ 100)(i:Nat)(hi:i<n):∀(k j:Nat) (l:List T_api_Ins),n+1-j=k → j ≤ n+1 → l.length=n+1 → (∀y∈l,BookL y) →
    ∃r,loopO (palingbook_Prog_s4 (n:Int) (i:Int)) ((j:Int),l)=some r ∧ r.length=n+1 ∧ ∀y∈r,BookL y:=by
  intro k
  induction k with
  | zero =>
    intro j l h1 h2 h3 h4
    exact ⟨l,loopO_inr (by simp only [palingbook_Prog_s4]; rw [if_neg (by simp; omega)]),h3,h4⟩
  | succ k ih =>
    intro j l h1 h2 h3 h4
    obtain ⟨t,e1,e2⟩:=label_w (j:Int)
    have hj:j<l.length:=by omega
    have hx:l[j]?=some l[j]:=by rw [List.getElem?_eq_getElem]
    have hxi:l[i]?=some (l[i]'(by omega)):=by rw [List.getElem?_eq_getElem]
    have hst:∃l',palingbook_Prog_s4 (n:Int) (i:Int) ((j:Int),l)=some (.inl ((j:Int)+1,l')) ∧ l'.length=n+1 ∧ ∀y∈l',BookL y:=by
      simp only [palingbook_Prog_s4]
      rw [if_pos (by simp; omega),e1]
      simp only [Option.bind_some,if_pos (inb_at hxi),rd_at hxi,rd_at hx,inb_at hx,implies_true,if_true]
      unfold palingbook_Prog_j2
      rw [wi (by omega)]
      cases hc:(decide (t=(l[i]'(by omega)).To)&&(((l[j].Labels).length:Int)==0))
      · exact ⟨l,by simp,h3,h4⟩
      · refine ⟨_,by simp only [if_true]; rfl,by simp [h3],?_⟩
        have hb:=h4 l[j] (List.getElem_mem _)
        exact set_all h4 ⟨hb.a,hb.b,hb.to,by simp,fun s hs=>by rw [List.mem_singleton.1 hs]; omega⟩
    obtain ⟨l',e3,e4,e5⟩:=hst
    obtain ⟨r,e6,e7,e8⟩:=ih (j+1) l' (by omega) (by omega) e4 e5
    exact ⟨r,by rw [loopO_inl e3]; exact e6,e7,e8⟩
theorem book_s3(n:Nat)(hn:n ≤ 100):∀(k j:Nat) (l:List T_api_Ins),n-j=k → j ≤ n → l.length=n+1 → (∀y∈l,BookL y) →
    ∃r,loopO (palingbook_Prog_s3 (n:Int)) ((j:Int),l)=some r ∧ r.length=n+1 ∧ ∀y∈r,BookL y:=by
  intro k
  induction k with
  | zero =>
    intro j l h1 h2 h3 h4
    exact ⟨l,loopO_inr (by simp only [palingbook_Prog_s3]; rw [if_neg (by simp; omega)]),h3,h4⟩
  | succ k ih =>
    intro j l h1 h2 h3 h4
    have hx:l[j]?=some (l[j]'(by omega)):=by rw [List.getElem?_eq_getElem]
    have hst:∃l',palingbook_Prog_s3 (n:Int) ((j:Int),l)=some (.inl ((j:Int)+1,l')) ∧ l'.length=n+1 ∧ ∀y∈l',BookL y:=by
      simp only [palingbook_Prog_s3]
      rw [if_pos (by simp; omega),if_pos (inb_at hx)]
      unfold palingbook_Prog_j1
      rw [wi (by omega)]
      split
      · exact ⟨l,rfl,h3,h4⟩
      · obtain ⟨r,e1,e2,e3⟩:=book_s4 n hn j (by omega) (n+1) 0 l (by omega) (by omega) h3 h4
        have e0:loopO (palingbook_Prog_s4 (n:Int) (j:Int)) (0,l)=some r:=e1
        rw [e0]
        exact ⟨r,rfl,e2,e3⟩
    obtain ⟨l',e3,e4,e5⟩:=hst
    obtain ⟨r,e6,e7,e8⟩:=ih (j+1) l' (by omega) (by omega) e4 e5
    exact ⟨r,by rw [loopO_inl e3]; exact e6,e7,e8⟩
theorem hlt_ok:BookL (T_api_Ins.mk 14 false 0 (T_api_Opd.mk 0 0 0 0) (T_api_Opd.mk 0 0 0 0) (⟨#[]⟩:ByteArray) ([])):=⟨z64,z64,by decide,by decide,by intro s hs; cases hs⟩
theorem book_s1(p0:List (List T_palingbook_Act))(hw:∀l∈p0,∀x∈l,W_palingbook_Act x)(p1 p2:Nat)(h1:p1 ≤ 100)(h2:p2 ≤ 90) :
    ∃r,loopO (palingbook_Prog_s1 p0 (p1:Int) (p2:Int)) (0,[])=some r ∧ r.length ≤ p1 ∧ ∀t∈r,ThOk t:=by
  have main:∀(k j:Nat) (out:List T_api_Thread),p1-j=k → j ≤ p1 → out.length=j → (∀y∈out,ThOk y) → ∃r,loopO (palingbook_Prog_s1 p0 (p1:Int) (p2:Int)) ((j:Int),out)=some r ∧ r.length ≤ p1 ∧ ∀y∈r,ThOk y:=by
    intro k
    induction k with
    | zero =>
      intro j out q1 q2 q3 q4
      exact ⟨out,loopO_inr (by simp only [palingbook_Prog_s1]; rw [if_neg (by simp; omega)]),by omega,q4⟩
    | succ k ih =>
      intro j out q1 q2 q3 q4
      by_cases hj:j<p0.length
      · have hx:p0[j]?=some p0[j]:=by rw [List.getElem?_eq_getElem]
        obtain ⟨n,hn,hn1,hn2⟩:∃n:Nat,(if (p2:Int)<(p0[j].length:Int) then (p2:Int) else (p0[j].length:Int))=(n:Int) ∧ n ≤ p0[j].length ∧ n ≤ p2:=by
          split
          · exact ⟨p2,rfl,by omega,Nat.le_refl _⟩
          · exact ⟨p0[j].length,rfl,Nat.le_refl _,by omega⟩
        obtain ⟨r,e1,e2,e3⟩:=book_s2 p0 j p0[j] hx (hw _ (List.getElem_mem _)) n hn1 (by omega)
        obtain ⟨r2,e4,e5,e6⟩:=book_s3 n (by omega) n 0 (r++[T_api_Ins.mk 14 false 0 (T_api_Opd.mk 0 0 0 0) (T_api_Opd.mk 0 0 0 0) (⟨#[]⟩:ByteArray) ([])]) (by omega) (by omega) (by simp [e2]) (fun y hy=>by
          rcases List.mem_append.1 hy with h | h
          · exact (e3 y h).l
          · rw [List.mem_singleton.1 h]; exact hlt_ok)
        have e7:loopO (palingbook_Prog_s3 (n:Int)) (0,(r++[T_api_Ins.mk 14 false 0 (T_api_Opd.mk 0 0 0 0) (T_api_Opd.mk 0 0 0 0) (⟨#[]⟩:ByteArray) ([])]))=some r2:=e4
        have hst:palingbook_Prog_s1 p0 (p1:Int) (p2:Int) ((j:Int),out)=some (.inl ((j:Int)+1,out++[T_api_Thread.mk r2])):=by
          simp only [palingbook_Prog_s1]
          rw [if_pos (by simp; omega),if_pos (inb_at hx),rd_at hx,hn]
          simp only [Option.bind_some]
          rw [e1]
          simp only [Option.bind_some]
          rw [if_pos (show Fits (r.length+1) from by unfold Fits; omega),e7]
          simp only [Option.bind_some]
          rw [if_pos (show Fits (out.length+1) from by unfold Fits; omega),wi (by omega)]
        obtain ⟨r3,e8,e9,e10⟩:=ih (j+1) (out++[T_api_Thread.mk r2]) (by omega) (by omega) (by simp; omega) (fun t ht=>by
          rcases List.mem_append.1 ht with h | h
          · exact q4 t h
          · rw [List.mem_singleton.1 h]
            exact ⟨by show r2.length ≤ 700; omega,fun x hx=>(e6 x hx).ok⟩)
        exact ⟨r3,by rw [loopO_inl hst]; exact e8,e9,e10⟩
      · exact ⟨out,loopO_inr (by simp only [palingbook_Prog_s1]; rw [if_neg (by simp; omega)]),by omega,q4⟩
  exact main p1 0 [] (by omega) (by omega) rfl (by intro y hy; cases hy)
def bookSyms:List T_api_Sym:=[(T_api_Sym.mk (⟨#[120]⟩:ByteArray) 1 ([])),(T_api_Sym.mk (⟨#[121]⟩:ByteArray) 2 ([1])),(T_api_Sym.mk (⟨#[122]⟩:ByteArray) 1 ([0]))]
theorem bookSyms_ok:∀s∈bookSyms,SymOk s:=by
  intro s hs
  have i1:I64 1:=by unfold I64; decide
  have i2:I64 2:=by unfold I64; decide
  unfold bookSyms at hs
  simp only [List.mem_cons,List.mem_nil_iff,or_false] at hs
  rcases hs with rfl | rfl | rfl
  · exact ⟨by decide,by decide,i1,by intro v hv; cases hv⟩
  · exact ⟨by decide,by decide,i2,by intro v hv; rw [List.mem_singleton.1 hv]; exact i1⟩
  · exact ⟨by decide,by decide,i1,by intro v hv; rw [List.mem_singleton.1 hv]; exact z64⟩
theorem book_Prog(p0:List (List T_palingbook_Act))(hw:∀l∈p0,∀x∈l,W_palingbook_Act x)(p1 p2:Nat)(h1:p1 ≤ 100)(h2:p2 ≤ 90):∃p,palingbook_Prog p0 (p1:Int) (p2:Int)=some p ∧ ProgOk p:=by
  obtain ⟨r,e1,e2,e3⟩:=book_s1 p0 hw p1 p2 h1 h2
  refine ⟨⟨bookSyms,r⟩,?_,⟨by show 3 ≤ 100; omega,by show r.length ≤ 100; omega,bookSyms_ok,e3⟩⟩
  unfold palingbook_Prog
  rw [e1]; rfl
end Go.Vs
end

section
/-! What the book of programs makes is right. -/
set_option linter.unusedVariables false
set_option linter.unusedSimpArgs false
set_option linter.unusedSectionVars false
namespace Go.Vs
open Go.Lib
local instance tabPalShowC:Tab:=⟨fun _=>none⟩
def labelB(k:Int):ByteArray:=(⟨#[108]⟩:ByteArray)++(bytesI ([(IntKind.wrap .u8 (IntKind.wrap .i64 (48+(IntKind.wrap .i64 (Int.tdiv k 10))))),(IntKind.wrap .u8 (IntKind.wrap .i64 (48+(Int.tmod k 10))))]))
theorem label_eq(k:Int):palingbook_label k=some (labelB k):=by
  unfold palingbook_label
  rw [if_pos (catB (by show 1+2 ≤ _; omega))]
  rfl
theorem label_right_all:((List.range 100).all fun k=>rightS (labelB (k:Int)))=true:=by decide +kernel
theorem label_right{k:Nat}(h:k<100):rightS (labelB (k:Int))=true:=(List.all_eq_true.1 label_right_all) k (by simpa using h)
theorem label_inj_all:((List.range 100).all fun i=>(List.range 100).all fun j=>decide (i=j)||!decide (labelB (i:Int)=labelB (j:Int)))=true:=by decide +kernel
theorem label_inj{i j:Nat}(hi:i<100)(hj:j<100)(h:labelB (i:Int)=labelB (j:Int)):i=j:=by
  have:=(List.all_eq_true.1 ((List.all_eq_true.1 label_inj_all) i (by simpa using hi))) j (by simpa using hj)
  simpa [h] using this
theorem row_reg{op:Int}{A B:T_api_Opd}(h1:1 ≤ op)(h2:op ≤ 7)(hA:opdB A=true)(kA:A.Kind=1)(hB:opdB B=true):rowB ⟨op,false,0,A,B,⟨#[]⟩,[]⟩=true:=by
  unfold rowB
  have e1:(decide (op<1)||decide (op>9))=false:=by simp; omega
  have e8:(op==8)=false:=by simp; omega
  have e9:(op==9)=false:=by simp; omega
  simp [e1,e8,e9,hA,hB,kA]
theorem row_mem{op:Int}{lk:Bool}{A B:T_api_Opd}(h1:1 ≤ op)(h2:op ≤ 7)(hA:opdB A=true)(mA:memB A=true)(hB:opdB B=true)(mB:memB B=false)(hl:lk=true → 2 ≤ op ∧ op ≤ 6):rowB ⟨op,lk,0,A,B,⟨#[]⟩,[]⟩=true:=by
  unfold rowB
  have e1:(decide (op<1)||decide (op>9))=false:=by simp; omega
  have e8:(op==8)=false:=by simp; omega
  have e9:(op==9)=false:=by simp; omega
  have k1:(A.Kind==1)=false:=by
    have:=kind_mem A
    rw [mA,Bool.and_true] at this; exact this
  cases lk
  · simp [e1,e8,e9,hA,hB,k1,mA,mB]
  · have:=hl rfl
    simp [e1,e8,e9,hA,hB,k1,mA,mB]; omega
theorem ins_zero{y:T_api_Ins}(hc:condB y=true)(h1:1 ≤ y.Op)(h2:y.Op ≤ 14)(hr:rowB y=true)(hj:jumpB y=true → rightS y.To=true)(hn:jumpB y=false → y.To=⟨#[]⟩):insN y=0:=by
  unfold insN fitsB
  have e1:(decide (y.Op≥1)&&decide (y.Op ≤ 14))=true:=by simp; omega
  cases h:jumpB y
  · simp [hc,e1,hr,hn h]
  · simp [hc,e1,hr,hj h]
structure BookR (n:Nat) (y:T_api_Ins):Prop extends BookIns y where
  z:insN y=0
  pA:memB y.A=true → memChk y.A=true
  pB:memB y.B=true → memChk y.B=true
  j:jumpB y=true → ∃k:Nat,k<n ∧ y.To=labelB k
  nj:jumpB y=false → y.To=⟨#[]⟩
theorem memChk_b{o:T_api_Opd}(h:memChk o=true):opdB o=true ∧ memB o=true:=by
  unfold memChk at h
  simp only [Bool.and_eq_true] at h
  exact h.1
theorem reg_s{a:Int}(h:I64 a):∃o,palingbook_register a=some o ∧ I64 o.N ∧ opdB o=true ∧ o.Kind=1 ∧ memB o=false:=by
  obtain ⟨i,h1,h2⟩:=pick_i h 4 (by omega) (by omega)
  refine ⟨⟨1,i,0,0⟩,?_,z64,?_,rfl,rfl⟩
  · unfold palingbook_register
    rw [h1]; rfl
  · unfold opdB; simp; omega
theorem plain_s{b n:Int}(h:I64 b)(hn:I64 n):∃o,palingbook_plain b n=some o ∧ I64 o.N ∧ opdB o=true ∧ memB o=false:=by
  obtain ⟨i,h1,h2⟩:=pick_i h 3 (by omega) (by omega)
  unfold palingbook_plain
  rw [h1]
  simp only [Option.bind_some]
  split
  · obtain ⟨o,h3,h4,h5,_,h7⟩:=reg_s (div3 h)
    exact ⟨o,by rw [h3]; rfl,h4,h5,h7⟩
  · exact ⟨_,rfl,hn,rfl,rfl⟩
def GoodR(n:Nat)(o:Option T_api_Ins):Prop:=∃y,o=some y ∧ BookR n y
theorem goodR_ite{n:Nat}{b:Bool}{x y:Option T_api_Ins}(h1:b=true → GoodR n x)(h2:b=false → GoodR n y):GoodR n (if b=true then x else y):=by cases b <;> simp_all
theorem book_right{x:T_palingbook_Act}(hw:W_palingbook_Act x){n:Nat}(hn:0<n)(hn2:n ≤ 100):∃y,palingbook_Ins x n=some y ∧ BookR n y:=by
  obtain ⟨v1,e1,l1⟩:=pick_i hw.C.i64 5 (by omega) (by omega)
  obtain ⟨v3,e3,l3⟩:=pick_i hw.Kind.i64 22 (by omega) (by omega)
  obtain ⟨rA,eA,nA,oA,kA,zA⟩:=reg_s hw.A.i64
  obtain ⟨rB,eB,nB,oB,kB,zB⟩:=reg_s hw.B.i64
  obtain ⟨mA,fA,gA⟩:=mem_w hw.A.i64
  obtain ⟨mB,fB,gB⟩:=mem_w hw.B.i64
  obtain ⟨pB,hB,nP,oP,zP⟩:=plain_s hw.B.i64 hw.N.i64
  obtain ⟨j,ej,lj⟩:=pick_i hw.A.i64 n (by omega) (by omega)
  obtain ⟨c,ec,lc⟩:=pick_i hw.C.i64 10 (by omega) (by omega)
  have et:=label_eq (j:Int)
  have qA:=memChk_n gA
  have qB:=memChk_n gB
  obtain ⟨uA,wA⟩:=memChk_b gA
  obtain ⟨uB,wB⟩:=memChk_b gB
  have hj:j<n:=by omega
  have w2:IntKind.wrap .i64 (2+(v1:Int))=2+(v1:Int):=wi64_id ⟨by omega,by omega⟩
  have w1:IntKind.wrap .i64 (1+(c:Int))=1+(c:Int):=wi64_id ⟨by omega,by omega⟩
  have zt:(⟨#[]⟩:ByteArray).size ≤ 3:=by decide
  have noj:∀op lk A B,op≠10 → op≠11 → jumpB ⟨op,lk,0,A,B,⟨#[]⟩,[]⟩=false:=fun op lk A B a b=>by unfold jumpB; simp [a,b]
  have mk:∀op lk A B,1 ≤ op → op ≤ 9 → rowB ⟨op,lk,0,A,B,⟨#[]⟩,[]⟩=true → I64 A.N → I64 B.N → (memB A=true → memChk A=true) → (memB B=true → memChk B=true) → GoodR n (some ⟨op,lk,0,A,B,⟨#[]⟩,[]⟩):=by
    intro op lk A B h1 h2 hr hA hB cA cB
    have hnj:=noj op lk A B (by omega) (by omega)
    refine ⟨_,rfl,⟨⟨hA,hB,zt,rfl⟩,?_,cA,cB,(fun h=>by rw [hnj] at h; cases h),fun _=>rfl⟩⟩
    refine ins_zero ?_ h1 (by show op ≤ 14; omega) hr (fun h=>by rw [hnj] at h; cases h) (fun _=>rfl)
    have e11:(op==11)=false:=by simp; omega
    unfold condB
    simp [e11]
  have nm:∀{o:T_api_Opd},memB o=false → memB o=true → memChk o=true:=fun h1 h2=>by rw [h1] at h2; cases h2
  have rp:∀op,1 ≤ op → op ≤ 7 → GoodR n (some ⟨op,false,0,rA,pB,⟨#[]⟩,[]⟩):=fun op a b=>mk op false rA pB a (by omega) (row_reg a b oA kA oP) nA nP (nm zA) (nm zP)
  have rm:∀op,1 ≤ op → op ≤ 7 → GoodR n (some ⟨op,false,0,rA,mB,⟨#[]⟩,[]⟩):=fun op a b=>mk op false rA mB a (by omega) (row_reg a b oA kA uB) nA qB (nm zA) (fun _=>gB)
  have mp:∀op lk,1 ≤ op → op ≤ 7 → (lk=true → 2 ≤ op ∧ op ≤ 6) → GoodR n (some ⟨op,lk,0,mA,pB,⟨#[]⟩,[]⟩):=fun op lk a b h=>mk op lk mA pB a (by omega) (row_mem a b uA wA oP zP h) qA nP (fun _=>gA) (nm zP)
  have m8:GoodR n (some ⟨8,false,0,mA,rB,⟨#[]⟩,[]⟩):=mk 8 false mA rB (by omega) (by omega) (by unfold rowB; simp [uA,oB,wA,kB]) qA nB (fun _=>gA) (nm zB)
  have m9:GoodR n (some ⟨9,true,0,mA,rB,⟨#[]⟩,[]⟩):=mk 9 true mA rB (by omega) (by omega) (by unfold rowB; simp [uA,oB,wA,kB]) qA nB (fun _=>gA) (nm zB)
  have zO:∀op cd to,10 ≤ op → op ≤ 14 → (op=11 → 1 ≤ cd ∧ cd ≤ 10) → (op≠11 → cd=0) → to.size ≤ 3 → (op=10 ∨ op=11 → ∃k:Nat,k<n ∧ to=labelB k) → (op≠10 → op≠11 → to=⟨#[]⟩) → GoodR n (some ⟨op,false,cd,⟨0,0,0,0⟩,⟨0,0,0,0⟩,to,[]⟩):=by
    intro op cd to h1 h2 h3 h4 h5 h6 h7
    have hJ:jumpB ⟨op,false,cd,⟨0,0,0,0⟩,⟨0,0,0,0⟩,to,[]⟩=true → op=10 ∨ op=11:=fun h=>by unfold jumpB at h; simpa using h
    have hN:jumpB ⟨op,false,cd,⟨0,0,0,0⟩,⟨0,0,0,0⟩,to,[]⟩=false → op≠10 ∧ op≠11:=fun h=>by unfold jumpB at h; simpa using h
    refine ⟨_,rfl,⟨⟨z64,z64,h5,rfl⟩,?_,(fun h=>by cases h),(fun h=>by cases h),fun h=>h6 (hJ h),fun h=>h7 (hN h).1 (hN h).2⟩⟩
    refine ins_zero ?_ (by show 1 ≤ op; omega) h2 ?_ (fun h=>?_) (fun h=>h7 (hN h).1 (hN h).2)
    · unfold condB
      by_cases e:op=11
      · simp [e]; exact h3 e
      · simp [e]; exact h4 e
    · unfold rowB
      have:(decide (op<1)||decide (op>9))=true:=by simp; omega
      simp [this,zeroB]
    · obtain ⟨k,hk,e⟩:=h6 (hJ h)
      show rightS to=true
      rw [e]; exact label_right (by omega)
  have lsz:(labelB (j:Int)).size ≤ 3:=by
    obtain ⟨t,h1,h2⟩:=label_w (j:Int)
    rw [et] at h1
    obtain rfl:=Option.some.inj h1
    omega
  have g4:∀b,GoodR n (palingbook_Ins_j4 x v1 v3 n b):=by
    intro b
    unfold palingbook_Ins_j4 palingbook_Ins_j1
    repeat' refine goodR_ite (fun _=>?_) (fun _=>?_)
    all_goals try simp only [Option.bind_some,eA,eB,fA,fB,hB,ej,ec,et,w1,w2]
    · exact mp (2+(v1:Int)) false (by omega) (by omega) (by simp)
    · exact rm 7 (by omega) (by omega)
    · exact mp 7 false (by omega) (by omega) (by simp)
    · exact m8
    · exact m9
    · exact mp (2+(v1:Int)) true (by omega) (by omega) (fun _=>⟨by omega,by omega⟩)
    · exact zO 10 0 _ (by omega) (by omega) (by omega) (by simp) lsz (fun _=>⟨j,hj,rfl⟩) (by simp)
    · exact zO 11 (1+(c:Int)) _ (by omega) (by omega) (by omega) (by simp) lsz (fun _=>⟨j,hj,rfl⟩) (by simp)
    · exact zO 12 0 _ (by omega) (by omega) (by omega) (by simp) zt (by omega) (by simp)
    · exact rp 7 (by omega) (by omega)
    · exact zO 13 0 _ (by omega) (by omega) (by omega) (by simp) zt (by omega) (by simp)
  have g3:∀b,GoodR n (palingbook_Ins_j3 x v3 v1 n b):=by
    intro b
    unfold palingbook_Ins_j3
    repeat' first | exact g4 _ | refine goodR_ite (fun _=>?_) (fun _=>?_)
    all_goals try simp only [Option.bind_some,eA,eB,fA,fB,hB,ej,ec,et,w1,w2]
    all_goals first | exact g4 _ | exact mp 1 false (by omega) (by omega) (by simp) | exact rp (2+(v1:Int)) (by omega) (by omega) | exact rm (2+(v1:Int)) (by omega) (by omega)
  have g2:∀b,GoodR n (palingbook_Ins_j2 x v3 v1 n b):=by
    intro b
    unfold palingbook_Ins_j2
    repeat' first | exact g3 _ | refine goodR_ite (fun _=>?_) (fun _=>?_)
    all_goals try simp only [Option.bind_some,eA,eB,fA,fB,hB,ej,ec,et,w1,w2]
    all_goals first | exact g3 _ | exact rm 1 (by omega) (by omega)
  show GoodR n _
  unfold palingbook_Ins
  rw [e1,e3]
  simp only [Option.bind_some]
  repeat' first | exact g2 _ | refine goodR_ite (fun _=>?_) (fun _=>?_)
  all_goals try simp only [Option.bind_some,eA,eB,fA,fB,hB,ej,ec,et,w1,w2]
  all_goals first | exact g2 _ | exact rp 1 (by omega) (by omega)
end Go.Vs
end

section
/-! The threads that the book of programs makes. -/
set_option linter.unusedVariables false
set_option linter.unusedSimpArgs false
set_option linter.unusedSectionVars false
namespace Go.Vs
open Go.Lib
local instance tabPalShowD:Tab:=⟨fun _=>none⟩
theorem book_s2R(p0:List (List T_palingbook_Act))(i:Nat)(l:List T_palingbook_Act)(hi:p0[i]?=some l)(hl:∀x∈l,W_palingbook_Act x)(n:Nat)(hn:n ≤ l.length)(hn8:n<99) :
    ∃r,loopO (palingbook_Prog_s2 (n:Int) (i:Int) p0) (0,[])=some r ∧ r.length=n ∧ ∀y∈r,BookR (n+1) y:=by
  have main:∀(k j:Nat) (out:List T_api_Ins),n-j=k → j ≤ n → out.length=j → (∀y∈out,BookR (n+1) y) → ∃r,loopO (palingbook_Prog_s2 (n:Int) (i:Int) p0) ((j:Int),out)=some r ∧ r.length=n ∧ ∀y∈r,BookR (n+1) y:=by
    intro k
    induction k with
    | zero =>
      intro j out h1 h2 h3 h4
      obtain rfl:j=n:=by omega
      exact ⟨out,loopO_inr (by simp only [palingbook_Prog_s2]; rw [if_neg (by simp)]),h3,h4⟩
    | succ k ih =>
      intro j out h1 h2 h3 h4
      have hx:l[j]?=some l[j]:=by rw [List.getElem?_eq_getElem]
      obtain ⟨y,e1,e2⟩:=book_right (hl l[j] (List.getElem_mem _)) (n:=n+1) (by omega) (by omega)
      have e1':palingbook_Ins l[j] ((n:Int)+1)=some y:=e1
      have hst:palingbook_Prog_s2 (n:Int) (i:Int) p0 ((j:Int),out)=some (.inl ((j:Int)+1,out++[y])):=by
        simp only [palingbook_Prog_s2]
        rw [if_pos (by simp; omega),if_pos (inb_at hi),rd_at hi,if_pos (inb_at hx),rd_at hx,wi (by omega),e1',wi (by omega)]
        simp only [Option.bind_some]
        rw [if_pos (show Fits (out.length+1) from by unfold Fits; omega)]
      obtain ⟨r,e3,e4,e5⟩:=ih (j+1) (out++[y]) (by omega) (by omega) (by simp; omega) (fun z hz=>by
        rcases List.mem_append.1 hz with h | h
        · exact h4 z h
        · rw [List.mem_singleton.1 h]; exact e2)
      exact ⟨r,by rw [loopO_inl hst]; exact e3,e4,e5⟩
  exact main n 0 [] (by omega) (by omega) rfl (by intro y hy; cases hy)
def putL(m:Nat → Bool)(k:Nat)(x:T_api_Ins):T_api_Ins:=T_api_Ins.mk x.Op x.Lock x.Cond x.A x.B x.To (if m k then [labelB (k:Int)] else [])
def withL(o:List T_api_Ins)(m:Nat → Bool):List T_api_Ins:=o.mapIdx (putL m)
theorem withL_len{o m}:(withL o m).length=o.length:=List.length_mapIdx
theorem withL_get{o:List T_api_Ins}{m:Nat → Bool}{k:Nat}{x:T_api_Ins}(h:o[k]?=some x):(withL o m)[k]?=some (putL m k x):=by
  unfold withL; rw [List.getElem?_mapIdx,h]; rfl
theorem withL_set{o:List T_api_Ins}{m:Nat → Bool}{j:Nat}{x:T_api_Ins}(h:o[j]?=some x) :
    (withL o m).set j (T_api_Ins.mk x.Op x.Lock x.Cond x.A x.B x.To [labelB (j:Int)])=withL o (fun k=>m k||(k==j)):=by
  refine List.ext_getElem? fun k=>?_
  rw [List.getElem?_set]
  have hlt:=(List.getElem?_eq_some_iff.1 h).1
  by_cases e:j=k
  · subst e
    rw [if_pos rfl,if_pos (by rw [withL_len]; exact hlt),withL_get h]
    simp [putL]
  · rw [if_neg e]
    cases ho:o[k]? with
    | none=>unfold withL; rw [List.getElem?_mapIdx,List.getElem?_mapIdx,ho]; rfl
    | some y =>
      rw [withL_get ho,withL_get ho]
      have:(k==j)=false:=by simpa using fun e2=>e e2.symm
      simp [putL,this]
theorem withL_congr{o:List T_api_Ins}{m m':Nat → Bool}(h:∀k,k<o.length → m k=m' k):withL o m=withL o m':=by
  refine List.ext_getElem? fun k=>?_
  cases ho:o[k]? with
  | none=>unfold withL; rw [List.getElem?_mapIdx,List.getElem?_mapIdx,ho]; rfl
  | some y =>
    rw [withL_get ho,withL_get ho]
    have:=h k (List.getElem?_eq_some_iff.1 ho).1
    simp [putL,this]
theorem book_s4R(n:Nat)(hn:n ≤ 98)(o:List T_api_Ins)(ho:o.length=n+1)(i:Nat)(hi:i<n)(x:T_api_Ins)(hx:o[i]?=some x):∀(k j:Nat) (m:Nat → Bool),n+1-j=k → j ≤ n+1 →
    ∃m',loopO (palingbook_Prog_s4 (n:Int) (i:Int)) ((j:Int),withL o m)=some (withL o m') ∧ ∀q,q ≤ n → m' q=(m q||(decide (j ≤ q)&&decide (x.To=labelB (q:Int)))):=by
  intro k
  induction k with
  | zero =>
    intro j m h1 h2
    exact ⟨m,loopO_inr (by simp only [palingbook_Prog_s4]; rw [if_neg (by simp; omega)]),fun q hq=>by
      have:decide (j ≤ q)=false:=by simp; omega
      simp [this]⟩
  | succ k ih =>
    intro j m h1 h2
    have hj:j<o.length:=by omega
    obtain ⟨y,hy⟩:∃y,o[j]?=some y:=⟨_,List.getElem?_eq_getElem hj⟩
    have gx:=withL_get (m:=m) hx
    have gy:=withL_get (m:=m) hy
    have hst:palingbook_Prog_s4 (n:Int) (i:Int) ((j:Int),withL o m)=some (.inl ((j:Int)+1,withL o (fun q=>m q||((q==j)&&decide (x.To=labelB (j:Int)))))):=by
      simp only [palingbook_Prog_s4]
      rw [if_pos (by simp; omega),label_eq]
      simp only [Option.bind_some,if_pos (inb_at gx),rd_at gx,rd_at gy,inb_at gy,implies_true,if_true]
      unfold palingbook_Prog_j2
      rw [wi (by omega)]
      have hTo:(putL m i x).To=x.To:=rfl
      rw [hTo]
      by_cases ht:x.To=labelB (j:Int)
      · have d1:decide (labelB (j:Int)=x.To)=true:=by simp [ht]
        have d2:decide (x.To=labelB (j:Int))=true:=by simp [ht]
        simp only [d1,d2,Bool.true_and,Bool.and_true]
        cases hm:m j
        · have e:(((putL m j y).Labels.length:Int)==0)=true:=by simp [putL,hm]
          simp only [e,if_true]
          have:=withL_set (m:=m) hy
          rw [show (j:Int).toNat=j from rfl]
          exact congrArg (fun z=>some (Sum.inl ((j:Int)+1,z))) this
        · have e:(((putL m j y).Labels.length:Int)==0)=false:=by simp [putL,hm]
          simp only [e,Bool.false_eq_true,if_false]
          refine congrArg (fun z=>some (Sum.inl ((j:Int)+1,z))) (withL_congr fun q hq=>?_)
          by_cases e2:q=j
          · subst e2; simp [hm]
          · have:(q==j)=false:=by simpa using e2
            simp [this]
      · have d1:decide (labelB (j:Int)=x.To)=false:=by simp; exact fun e=>ht e.symm
        have d2:decide (x.To=labelB (j:Int))=false:=by simpa using ht
        simp only [d1,d2,Bool.false_and,Bool.and_false,Bool.or_false,Bool.false_eq_true,if_false]
    obtain ⟨m',e3,e4⟩:=ih (j+1) _ (by omega) (by omega)
    refine ⟨m',by rw [loopO_inl hst]; exact e3,fun q hq=>?_⟩
    rw [e4 q hq]
    by_cases e2:q=j
    · subst e2
      have a1:decide (q+1 ≤ q)=false:=by simp
      have a2:decide (q ≤ q)=true:=by simp
      simp [a1,a2]
    · have a0:(q==j)=false:=by simpa using e2
      have a1:decide (j+1 ≤ q)=decide (j ≤ q):=by
        by_cases h:j ≤ q
        · simp [h]; omega
        · simp [h]; omega
      simp [a0,a1]
theorem label_ne(q:Int):¬labelB q=⟨#[]⟩:=by
  intro h
  have h1:(labelB q).size=3:=by
    obtain ⟨t,h1,h2⟩:=label_w q
    rw [label_eq] at h1
    obtain rfl:=Option.some.inj h1
    exact h2
  rw [h] at h1
  exact absurd h1 (by decide)
def Hit(o:List T_api_Ins)(n j q:Nat):Prop:=∃(i:Nat) (x:T_api_Ins),j ≤ i ∧ i<n ∧ o[i]?=some x ∧ x.To=labelB (q:Int)
theorem book_s3R(n:Nat)(hn:n ≤ 98)(o:List T_api_Ins)(ho:o.length=n+1):∀(k j:Nat) (m:Nat → Bool),n-j=k → j ≤ n →
    ∃m',loopO (palingbook_Prog_s3 (n:Int)) ((j:Int),withL o m)=some (withL o m') ∧ ∀q,q ≤ n → (m' q=true ↔ m q=true ∨ Hit o n j q):=by
  intro k
  induction k with
  | zero =>
    intro j m h1 h2
    refine ⟨m,loopO_inr (by simp only [palingbook_Prog_s3]; rw [if_neg (by simp; omega)]),fun q hq=>⟨.inl,fun h=>h.elim id fun ⟨i,x,a,b,_⟩=>by omega⟩⟩
  | succ k ih =>
    intro j m h1 h2
    obtain ⟨x,hx⟩:∃x,o[j]?=some x:=⟨_,List.getElem?_eq_getElem (by omega)⟩
    have gx:=withL_get (m:=m) hx
    have hst:∃m1,palingbook_Prog_s3 (n:Int) ((j:Int),withL o m)=some (.inl ((j:Int)+1,withL o m1)) ∧ ∀q,q ≤ n → (m1 q=true ↔ m q=true ∨ x.To=labelB (q:Int)):=by
      simp only [palingbook_Prog_s3]
      rw [if_pos (by simp; omega),if_pos (inb_at gx),rd_at gx]
      unfold palingbook_Prog_j1
      rw [wi (by omega)]
      have hTo:(putL m j x).To=x.To:=rfl
      rw [hTo]
      by_cases he:x.To=⟨#[]⟩
      · rw [if_pos (by simpa using he)]
        exact ⟨m,rfl,fun q _=>⟨.inl,fun h=>h.elim id fun h=>absurd (h.symm.trans he) (label_ne _)⟩⟩
      · rw [if_neg (by simpa using he)]
        obtain ⟨m',e1,e2⟩:=book_s4R n hn o ho j (by omega) x hx (n+1) 0 m (by omega) (by omega)
        have e0:loopO (palingbook_Prog_s4 (n:Int) (j:Int)) (0,withL o m)=some (withL o m'):=e1
        rw [e0]
        refine ⟨m',rfl,fun q hq=>?_⟩
        rw [e2 q hq]
        simp
    obtain ⟨m1,e3,e4⟩:=hst
    obtain ⟨m',e5,e6⟩:=ih (j+1) m1 (by omega) (by omega)
    refine ⟨m',by rw [loopO_inl e3]; exact e5,fun q hq=>?_⟩
    rw [e6 q hq,e4 q hq]
    constructor
    · rintro ((h | h) | ⟨i,y,a,b,c,d⟩)
      · exact .inl h
      · exact .inr ⟨j,x,Nat.le_refl _,by omega,hx,h⟩
      · exact .inr ⟨i,y,by omega,b,c,d⟩
    · rintro (h | ⟨i,y,a,b,c,d⟩)
      · exact .inl (.inl h)
      · by_cases e:i=j
        · subst e
          rw [hx] at c
          obtain rfl:=Option.some.inj c
          exact .inl (.inr d)
        · exact .inr ⟨i,y,by omega,b,c,d⟩
end Go.Vs
end

section
/-! Made threads may be. -/
set_option linter.unusedVariables false
set_option linter.unusedSimpArgs false
set_option linter.unusedSectionVars false
namespace Go.Vs
open Go.Lib
local instance tabPalShowE:Tab:=⟨fun _=>none⟩
theorem insN_putL(m:Nat → Bool)(k:Nat)(y:T_api_Ins):insN (putL m k y)=insN y:=rfl
theorem place_book{p:T_api_Prog}(hp:p.Syms=bookSyms){o:T_api_Opd}(h:memB o=true → memChk o=true):placeN p o=0:=by
  unfold placeN
  cases hm:memB o
  · rfl
  · have hc:=h hm
    unfold memChk at hc
    simp only [Bool.and_eq_true,decide_eq_true_eq] at hc
    obtain ⟨_,h0,h2,h3,h4,h5⟩:=hc
    rw [hp]
    have e3:((bookSyms.length:Nat):Int)=3:=rfl
    rw [e3]
    have d1:decide (o.Sym≥3)=false:=by simp; omega
    simp only [Bool.not_true,Bool.false_eq_true,if_false,d1]
    by_cases hk:o.Kind=3
    · have hs:(rd bookSyms o.Sym).Size=rd [1,2,1] o.Sym:=by
        have:o.Sym=0 ∨ o.Sym=1 ∨ o.Sym=2:=by omega
        rcases this with e | e | e <;> rw [e] <;> rfl
      have:=h5 hk
      rw [hs]
      have d2:decide (o.N≥rd [1,2,1] o.Sym)=false:=by simp; omega
      simp [d2]
    · have:(o.Kind==3)=false:=by simpa using hk
      simp [this]
theorem ins_fold(p:T_api_Prog)(hp:p.Syms=bookSyms)(o:List T_api_Ins)(ho:o.length ≤ 100)(m:Nat → Bool)(hy:∀y∈o,insN y=0 ∧ (memB y.A=true → memChk y.A=true) ∧ (memB y.B=true → memChk y.B=true)) :
    ∀(k j:Nat) (L:List ByteArray),o.length-j=k → j ≤ o.length → (∀s∈L,∃q:Nat,q<j ∧ s=labelB (q:Int)) → ∃L',foldE (insF p) (Sum.inl:List ByteArray → List ByteArray ⊕ Int) j L ((withL o m).drop j)=.inl L':=by
  intro k
  induction k with
  | zero =>
    intro j L h1 h2 h3
    rw [List.drop_eq_nil_of_le (by rw [withL_len]; omega)]
    exact ⟨L,rfl⟩
  | succ k ih =>
    intro j L h1 h2 h3
    have hj:j<o.length:=by omega
    have hyj:o[j]?=some o[j]:=List.getElem?_eq_getElem hj
    have g:=withL_get (m:=m) hyj
    have hd:(withL o m).drop j=putL m j o[j]::(withL o m).drop (j+1):=by
      rw [List.drop_eq_getElem_cons (by rw [withL_len]; exact hj)]
      congr 1
      exact (List.getElem?_eq_some_iff.1 g).2
    rw [hd]
    obtain ⟨z,cA,cB⟩:=hy o[j] (List.getElem_mem _)
    have hl:labsE L (putL m j o[j]).Labels=.inl (if m j then L++[labelB (j:Int)] else L):=by
      unfold putL labsE
      cases hm:m j
      · rfl
      · have hn:has L (labelB (j:Int))=false:=by
          rw [has_not]
          intro hmem
          obtain ⟨q,hq,e⟩:=h3 _ hmem
          have:=label_inj (by omega) (by omega) e
          omega
        simp [foldE,labF,label_right (show j<100 by omega),hn]
    have hf:insF p j L (putL m j o[j])=.inl (if m j then L++[labelB (j:Int)] else L):=by
      unfold insF
      rw [hl]
      simp only [insN_putL,z]
      have pA:placeN p (putL m j o[j]).A=0:=place_book hp cA
      have pB:placeN p (putL m j o[j]).B=0:=place_book hp cB
      rw [pA,pB]
      rfl
    simp only [foldE,hf]
    refine ih (j+1) _ (by omega) (by omega) fun s hs=>?_
    split at hs
    · rcases List.mem_append.1 hs with h | h
      · obtain ⟨q,a,b⟩:=h3 s h; exact ⟨q,by omega,b⟩
      · exact ⟨j,by omega,List.mem_singleton.1 h⟩
    · obtain ⟨q,a,b⟩:=h3 s hs; exact ⟨q,by omega,b⟩
theorem count_le:∀(xs:List T_api_Ins) (k:Nat) (a:Int),foldE (fun _ (n:Int) (x:T_api_Ins)=>if (x.Op != 12)=true then .inl (n+1) else .inl n) (fun n=>n) k a xs ≤ a+xs.length
  | [],k,a=>by simp [foldE]
  | x::xs,k,a=>by
    simp only [foldE]
    by_cases h:(x.Op != 12)=true
    · simp only [h,if_true]
      have:=count_le xs (k+1) (a+1)
      simp only [List.length_cons]; omega
    · simp only [h,if_false]
      have:=count_le xs (k+1) a
      simp only [List.length_cons]
      simp only [Bool.false_eq_true,if_false]
      omega
theorem lead_ok(L:List ByteArray):∀(xs:List T_api_Ins) (k:Nat),(∀x∈xs,jumpB x=true → has L x.To=true) → foldE (leadF L) (Sum.inl:Unit → Unit ⊕ Int) k () xs=.inl ()
  | [],k,_=>rfl
  | x::xs,k,h=>by
    have hx:leadF L k () x=.inl ():=by
      unfold leadF
      cases hj:jumpB x
      · rfl
      · rw [h x (List.mem_cons_self ..) hj]; rfl
    simp only [foldE,hx]
    exact lead_ok L xs (k+1) fun y hy=>h y (List.mem_cons_of_mem _ hy)
def hltI:T_api_Ins:=T_api_Ins.mk 14 false 0 (T_api_Opd.mk 0 0 0 0) (T_api_Opd.mk 0 0 0 0) (⟨#[]⟩:ByteArray) ([])
theorem thread_zero(p:T_api_Prog)(hp:p.Syms=bookSyms)(r:List T_api_Ins)(n:Nat)(hr:r.length=n)(hn:n ≤ 98)(hy:∀y∈r,BookR (n+1) y)(m:Nat → Bool)(hm:∀q,q ≤ n → Hit (r++[hltI]) n 0 q → m q=true) :
    threadN p ⟨withL (r++[hltI]) m⟩=0:=by
  have hlen:(withL (r++[hltI]) m).length=n+1:=by rw [withL_len]; simp [hr]
  unfold threadN
  have hc:decide (countN ⟨withL (r++[hltI]) m⟩>4096)=false:=by
    have:=count_le (withL (r++[hltI]) m) 0 0
    rw [hlen] at this
    have h2:countN ⟨withL (r++[hltI]) m⟩ ≤ 0+((n+1:Nat):Int):=this
    simp; omega
  rw [hc]
  obtain ⟨L,hL⟩:=ins_fold p hp (r++[hltI]) (by simp; omega) m (fun y h=>by
    rcases List.mem_append.1 h with h | h
    · exact ⟨(hy y h).z,(hy y h).pA,(hy y h).pB⟩
    · rw [List.mem_singleton.1 h]; exact ⟨by decide +kernel,by decide,by decide⟩) _ 0 [] rfl (by omega) (by intro s hs; cases hs)
  rw [List.drop_zero] at hL
  simp only [Bool.false_eq_true,if_false]
  rw [hL]
  obtain ⟨hL2,_⟩:=insE_spec _ _ _ _ hL
  have hlast:lastOp ⟨withL (r++[hltI]) m⟩=14:=by
    unfold lastOp
    have:(withL (r++[hltI]) m)[n]?=some (putL m n hltI):=withL_get (by simp [← hr])
    have e:(((withL (r++[hltI]) m).length:Nat):Int)-1=(n:Int):=by rw [hlen]; omega
    show (rd (withL (r++[hltI]) m) (((withL (r++[hltI]) m).length:Int)-1)).Op=14
    rw [e,rd_at this]; rfl
  have h0:(((withL (r++[hltI]) m).length:Int)==0)=false:=by rw [hlen]; simp; omega
  simp only [hlast,h0]
  rw [lead_ok L _ 0 fun x hx hj=>?_]
  · rfl
  · obtain ⟨k,hk⟩:=List.mem_iff_getElem?.1 hx
    have hk2:k<(r++[hltI]).length:=by have:=(List.getElem?_eq_some_iff.1 hk).1; rw [withL_len] at this; exact this
    obtain ⟨y,hyk⟩:∃y,(r++[hltI])[k]?=some y:=⟨_,List.getElem?_eq_getElem hk2⟩
    rw [withL_get hyk] at hk
    obtain rfl:=Option.some.inj hk
    have hj2:jumpB y=true:=hj
    by_cases hkn:k<n
    · have hyr:r[k]?=some y:=by rw [List.getElem?_append_left (by omega)] at hyk; exact hyk
      obtain ⟨q,hq,hto⟩:=(hy y (List.mem_of_getElem? hyr)).j hj2
      have hmq:=hm q (by omega) ⟨k,y,Nat.zero_le _,hkn,hyk,hto⟩
      rw [has_mem,hL2,List.nil_append,List.mem_flatMap]
      obtain ⟨z,hz⟩:∃z,(r++[hltI])[q]?=some z:=⟨_,List.getElem?_eq_getElem (by simp; omega)⟩
      refine ⟨putL m q z,List.mem_of_getElem? (withL_get hz),?_⟩
      show y.To∈(if m q then [labelB (q:Int)] else [])
      rw [hmq,hto]; simp
    · have:k=r.length:=by simp at hk2; omega
      subst this
      rw [List.getElem?_append_right (Nat.le_refl _),Nat.sub_self] at hyk
      obtain rfl:=Option.some.inj hyk
      exact absurd hj2 (by decide)
end Go.Vs
end

section
/-! Made programs may be. -/
set_option linter.unusedVariables false
set_option linter.unusedSimpArgs false
set_option linter.unusedSectionVars false
namespace Go.Vs
open Go.Lib
local instance tabPalShowF:Tab:=⟨fun _=>none⟩
def BookT(t:T_api_Thread):Prop:=∃(r:List T_api_Ins) (n:Nat) (m:Nat → Bool),r.length=n ∧ n ≤ 98 ∧ (∀y∈r,BookR (n+1) y) ∧ (∀q,q ≤ n → (m q=true ↔ Hit (r++[hltI]) n 0 q)) ∧ t=⟨withL (r++[hltI]) m⟩
theorem withL_none{o:List T_api_Ins}(h:∀y∈o,y.Labels=[]):withL o (fun _=>false)=o:=by
  refine List.ext_getElem? fun k=>?_
  cases ho:o[k]? with
  | none=>unfold withL; rw [List.getElem?_mapIdx,ho]; rfl
  | some y =>
    rw [withL_get ho]
    have:=h y (List.mem_of_getElem? ho)
    congr 1
    unfold putL
    simp only [Bool.false_eq_true,if_false]
    rw [← this]
theorem book_s1R(p0:List (List T_palingbook_Act))(hw:∀l∈p0,∀x∈l,W_palingbook_Act x)(p1 p2:Nat)(h1:p1 ≤ 60)(h2:p2 ≤ 90) :
    ∃r,loopO (palingbook_Prog_s1 p0 (p1:Int) (p2:Int)) (0,[])=some r ∧ r.length ≤ p1 ∧ ∀t∈r,BookT t ∧ t.Ins.length ≤ p2+1:=by
  have main:∀(k j:Nat) (out:List T_api_Thread),p1-j=k → j ≤ p1 → out.length=j → (∀y∈out,BookT y ∧ y.Ins.length ≤ p2+1) → ∃r,loopO (palingbook_Prog_s1 p0 (p1:Int) (p2:Int)) ((j:Int),out)=some r ∧ r.length ≤ p1 ∧ ∀y∈r,BookT y ∧ y.Ins.length ≤ p2+1:=by
    intro k
    induction k with
    | zero =>
      intro j out q1 q2 q3 q4
      exact ⟨out,loopO_inr (by simp only [palingbook_Prog_s1]; rw [if_neg (by simp; omega)]),by omega,q4⟩
    | succ k ih =>
      intro j out q1 q2 q3 q4
      by_cases hj:j<p0.length
      · have hx:p0[j]?=some p0[j]:=by rw [List.getElem?_eq_getElem]
        obtain ⟨n,hn,hn1,hn2⟩:∃n:Nat,(if (p2:Int)<(p0[j].length:Int) then (p2:Int) else (p0[j].length:Int))=(n:Int) ∧ n ≤ p0[j].length ∧ n ≤ p2:=by
          split
          · exact ⟨p2,rfl,by omega,Nat.le_refl _⟩
          · exact ⟨p0[j].length,rfl,Nat.le_refl _,by omega⟩
        obtain ⟨r,e1,e2,e3⟩:=book_s2R p0 j p0[j] hx (hw _ (List.getElem_mem _)) n hn1 (by omega)
        obtain ⟨m,e4,e5⟩:=book_s3R n (by omega) (r++[hltI]) (by simp [e2]) n 0 (fun _=>false) (by omega) (by omega)
        rw [withL_none (fun y hy=>by
          rcases List.mem_append.1 hy with h | h
          · exact (e3 y h).lab
          · rw [List.mem_singleton.1 h]; rfl)] at e4
        have e7:loopO (palingbook_Prog_s3 (n:Int)) (0,(r++[T_api_Ins.mk 14 false 0 (T_api_Opd.mk 0 0 0 0) (T_api_Opd.mk 0 0 0 0) (⟨#[]⟩:ByteArray) ([])]))=some (withL (r++[hltI]) m):=e4
        have hst:palingbook_Prog_s1 p0 (p1:Int) (p2:Int) ((j:Int),out)=some (.inl ((j:Int)+1,out++[T_api_Thread.mk (withL (r++[hltI]) m)])):=by
          simp only [palingbook_Prog_s1]
          rw [if_pos (by simp; omega),if_pos (inb_at hx),rd_at hx,hn]
          simp only [Option.bind_some]
          rw [e1]
          simp only [Option.bind_some]
          rw [if_pos (show Fits (r.length+1) from by unfold Fits; omega),e7]
          simp only [Option.bind_some]
          rw [if_pos (show Fits (out.length+1) from by unfold Fits; omega),wi (by omega)]
        obtain ⟨r3,e8,e9,e10⟩:=ih (j+1) (out++[T_api_Thread.mk (withL (r++[hltI]) m)]) (by omega) (by omega) (by simp; omega) (fun t ht=>by
          rcases List.mem_append.1 ht with h | h
          · exact q4 t h
          · rw [List.mem_singleton.1 h]
            exact ⟨⟨r,n,m,e2,by omega,e3,fun q hq=>by rw [e5 q hq]; simp,rfl⟩,by show (withL (r++[hltI]) m).length ≤ _; rw [withL_len,List.length_append,e2]; simp; omega⟩)
        exact ⟨r3,by rw [loopO_inl hst]; exact e8,e9,e10⟩
      · exact ⟨out,loopO_inr (by simp only [palingbook_Prog_s1]; rw [if_neg (by simp; omega)]),by omega,q4⟩
  exact main p1 0 [] (by omega) (by omega) rfl (by intro y hy; cases hy)
theorem sym_zero:foldE symF (fun _=>(.inl ():Unit ⊕ Int)) 0 [] bookSyms=.inl ():=by decide +kernel
theorem th_zero(p:T_api_Prog):∀(ts:List T_api_Thread) (k:Nat),(∀t∈ts,threadN p t=0) → foldE (thF p) (Sum.inl:Unit → Unit ⊕ Int) k () ts=.inl ()
  | [],k,_=>rfl
  | t::ts,k,h=>by
    have:thF p k () t=.inl ():=by unfold thF; rw [h t (List.mem_cons_self ..)]; rfl
    simp only [foldE,this]
    exact th_zero p ts (k+1) fun y hy=>h y (List.mem_cons_of_mem _ hy)
theorem book_zero2(p0:List (List T_palingbook_Act))(hw:∀l∈p0,∀x∈l,W_palingbook_Act x)(p1 p2:Nat)(h1:p1 ≤ 60)(h2:p2 ≤ 90) :
    ∃p,palingbook_Prog p0 (p1:Int) (p2:Int)=some p ∧ p.Syms=bookSyms ∧ (∀t∈p.Threads,BookT t) ∧ p.Threads.length ≤ p1 ∧ checkN p=0 ∧ (∀t∈p.Threads,t.Ins.length ≤ p2+1):=by
  obtain ⟨r,e1,e2,e3⟩:=book_s1R p0 hw p1 p2 h1 h2
  refine ⟨⟨bookSyms,r⟩,?_,rfl,fun t ht=>(e3 t ht).1,e2,?_,fun t ht=>(e3 t ht).2⟩
  · unfold palingbook_Prog
    rw [e1]; rfl
  · unfold checkN
    have d:(decide (((bookSyms.length:Nat):Int)>64)||decide ((r.length:Int)>64))=false:=by
      have:decide ((r.length:Int)>64)=false:=by simp; omega
      rw [this]; rfl
    simp only [d,Bool.false_eq_true,if_false,sym_zero]
    rw [th_zero ⟨bookSyms,r⟩ r 0 fun t ht=>?_]
    obtain ⟨r',n,m,q1,q2,q3,q4,rfl⟩:=(e3 t ht).1
    exact thread_zero _ rfl r' n q1 q2 q3 m (fun q hq=>(q4 q hq).2)
end Go.Vs
end
