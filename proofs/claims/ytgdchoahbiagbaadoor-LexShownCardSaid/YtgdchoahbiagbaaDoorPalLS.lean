import Derived.Test.YtgdchoahbiagbaaDoorPT1
import Derived.Test.YtgdchoahbiagbaaDoorPP1
import Derived.Test.YtgdchoahbiagbaaDoorPalSh
/-! Chapter 5: a made program's text with a byte of it another one. -/
set_option linter.unusedVariables false
set_option linter.unusedSimpArgs false
set_option linter.unusedSectionVars false
namespace Go.Vs
local instance tabPalLS:Tab:=⟨fun _=>none⟩
/-! ### The size of a made program's text -/
theorem ins_small(x:T_api_Ins)(syms:List ByteArray)(ha:I64 x.A.N)(hb:I64 x.B.N)(ht:x.To.size ≤ 10)(hs:∀s∈syms,s.size ≤ 10):(insT x syms).size ≤ 100:=by
  have od:∀o:T_api_Opd,I64 o.N → (opdT o syms).size ≤ 33:=by
    intro o hn
    have hz:=itoaB_size hn
    have hy:=rd_size hs o.Sym
    have hr:=regT_size o.Reg
    unfold opdT
    split
    · rw [z7]; omega
    split
    · omega
    split
    · omega
    split
    · rw [z7]; omega
    split <;> simp only [ByteArray.size_append,z8,z9] <;> omega
  have ha:=od x.A ha
  have hb:=od x.B hb
  have ho:=opT_size x.Op x.Cond
  have hS:(if x.Lock then (⟨#[108,111,99,107,32]⟩:ByteArray)++opT x.Op x.Cond else opT x.Op x.Cond).size ≤ 15:=by
    split
    · rw [ByteArray.size_append,z10]; omega
    · omega
  unfold insT
  split
  · rw [z7]; omega
  simp only
  generalize (if x.Lock then (⟨#[108,111,99,107,32]⟩:ByteArray)++opT x.Op x.Cond else opT x.Op x.Cond)=S at hS ⊢
  split
  · simp only [ByteArray.size_append,z1]; omega
  split
  · omega
  split
  · rw [z7]; omega
  · simp only [ByteArray.size_append,z1,z11]; omega
theorem th_small(syms:List ByteArray)(hs:∀s∈syms,s.size ≤ 10)(t:T_api_Thread)(ht:BookT t)(n:Nat)(hn:t.Ins.length ≤ n)(a:ByteArray):(thT syms a t).size ≤ a.size+(n * 110+7):=by
  obtain ⟨r,k,m,e1,e2,e3,e4,rfl⟩:=ht
  have each:∀x∈withL (r++[hltI]) m,∀a:ByteArray,(lineT syms a x).size ≤ a.size+110:=by
    intro x hx a
    obtain ⟨i,hi⟩:=List.getElem?_of_mem hx
    have hlen:=(List.getElem?_eq_some_iff.1 hi).1
    rw [withL_len] at hlen
    obtain ⟨y,hy⟩:∃y,(r++[hltI])[i]?=some y:=⟨_,List.getElem?_eq_getElem hlen⟩
    rw [withL_get hy] at hi
    have hy':BookIns y ∨ y=hltI:=by
      rcases List.mem_append.1 (List.mem_of_getElem? hy) with h | h
      · exact .inl (e3 y h).toBookIns
      · exact .inr (List.mem_singleton.1 h)
    injection hi with hi
    subst hi
    have k1:I64 (putL m i y).A.N ∧ I64 (putL m i y).B.N ∧ (putL m i y).To.size ≤ 10:=by
      unfold putL
      rcases hy' with h | rfl
      · have:=h.to
        exact ⟨h.a,h.b,by simpa using (by omega:y.To.size ≤ 10)⟩
      · exact ⟨z64,z64,show (0:Nat) ≤ 10 by decide⟩
    have k2:((putL m i y).Labels.foldl labT a).size ≤ a.size+5:=by
      unfold putL
      simp only
      split
      · simp only [List.foldl_cons,List.foldl_nil,labT,ByteArray.size_append,z4]
        have:(labelB (i:Int)).size=3:=by unfold labelB; rfl
        omega
      · simp
    have k3:=ins_small (putL m i y) syms k1.1 k1.2.1 k1.2.2 hs
    unfold lineT
    simp only [ByteArray.size_append,z2,z5]
    omega
  unfold thT
  have:=foldl_size (lineT syms) 110 (withL (r++[hltI]) m) (fun a x hx=>each x hx a) (a++(⟨#[116,104,114,101,97,100,10]⟩:ByteArray))
  have h2:(withL (r++[hltI]) m).length * 110 ≤ n * 110:=Nat.mul_le_mul_right _ hn
  simp only [ByteArray.size_append,z6] at *
  omega
theorem book_Show(l:List (List T_palingbook_Act))(hw:∀x∈l,∀y∈x,W_palingbook_Act y)(p1 p2:Nat)(h1:p1 ≤ 3)(h2:p2 ≤ 8) :
    ∃p,palingbook_Prog l (p1:Int) (p2:Int)=some p ∧ palingref1_Show p=some (showT p) ∧ (showT p).size ≤ 4000 ∧ ProgOk p ∧ checkN p=0 ∧ p.Syms=bookSyms ∧ (∀t∈p.Threads,BookT t) ∧ p.Threads.length ≤ p1 ∧ (∀t∈p.Threads,t.Ins.length ≤ p2+1):=by
  obtain ⟨p,e1,e2⟩:=book_Prog l hw p1 p2 (by omega) (by omega)
  obtain ⟨p',e1',hsy,hth,hlen,hck,hi⟩:=book_zero2 l hw p1 p2 (by omega) (by omega)
  rw [e1] at e1'
  obtain rfl:=Option.some.inj e1'
  refine ⟨p,e1,ref_Show_eq p e2,?_,e2,hck,hsy,hth,hlen,hi⟩
  unfold showT
  have b:(checkN p != 0)=false:=by rw [hck]; rfl
  rw [b]
  simp only [Bool.false_eq_true,if_false]
  have hs:∀s∈symNames p,s.size ≤ 10:=by
    unfold symNames; rw [hsy]; decide
  have h3:=foldl_size (thT (symNames p)) 997 p.Threads (fun a t ht=>by have:=th_small _ hs t (hth t ht) 9 (by have:=hi t ht; omega) a; omega) (p.Syms.foldl symT ⟨#[]⟩)
  have h4:(p.Syms.foldl symT ⟨#[]⟩).size ≤ 100:=by rw [hsy]; decide +kernel
  have h5:p.Threads.length * 997 ≤ 3 * 997:=Nat.mul_le_mul_right _ (by omega)
  omega
theorem alive5_true:palinglaw5_alive=some true:=by
  rw [palinglaw5_alive,lex_Tokens_eq ⟨#[120,91,49,93,32,59,32,97]⟩ (show (8:Nat) ≤ 1000000 by decide),lex_Tokens_eq ⟨#[97,32,36]⟩ (show (3:Nat) ≤ 1000000 by decide)]
  simp only [Option.bind_some]
  have e1:tokens (⟨#[120,91,49,93,32,59,32,97]⟩:ByteArray)=([⟨1,1,1,⟨#[120]⟩⟩,⟨3,1,2,⟨#[91]⟩⟩,⟨2,1,3,⟨#[49]⟩⟩,⟨3,1,4,⟨#[93]⟩⟩,⟨4,1,9,⟨#[]⟩⟩],⟨0,0,0⟩):=by decide +kernel
  have e2:tokens (⟨#[97,32,36]⟩:ByteArray)=([],⟨1,1,3⟩):=by decide +kernel
  rw [e1,e2]
  rfl
theorem bytesI_size(l:List Int):(bytesI l).size=l.length:=by
  show (l.map fun n=>UInt8.ofNat n.toNat).toArray.size=_
  simp
theorem pick_ls{p:Int}(h:I64 p)(n:Int)(hn:0<n)(hn2:n ≤ 1000000):∃i,palingbook_Pick p n=some i ∧ 0 ≤ i ∧ i<n:=by
  rw [palingbook_Pick,if_pos (by omega)]
  have h1:=Int.tmod_lt_of_pos p hn
  have h2:-n<Int.tmod p n:=by
    have:=Int.tmod_lt_of_pos (-p) hn
    rw [Int.neg_tmod] at this; omega
  by_cases hc:Int.tmod p n<0
  · rw [if_pos (by simpa using hc),wi64_id ⟨by omega,by omega⟩]
    exact ⟨_,rfl,by omega,by omega⟩
  · rw [if_neg (by simpa using hc)]
    exact ⟨_,rfl,by omega,by omega⟩
theorem shown_j1(l:List Int)(h:l.length ≤ 4000):palinglaw5_LexShown_j1 l=some true:=by
  have hs:Sm (bytesI l):=by show (bytesI l).size ≤ 1000000; rw [bytesI_size]; omega
  have ht:(tokens (bytesI l)).1.length ≤ 2000000:=tokens_len _ hs
  unfold palinglaw5_LexShown_j1
  rw [lex_Tokens_eq _ hs,ref_Tokens_eq _ hs]
  simp only [Option.bind_some]
  rw [same_refl _ ht,alive5_true]
  simp
theorem LexShown_true(l:List (List T_palingbook_Act))(hw:∀x∈l,∀y∈x,W_palingbook_Act y)(at_ by_:Int)(ha:I64 at_):palinglaw5_LexShown l at_ by_=some true:=by
  obtain ⟨p,e1,e2,e3,_⟩:=book_Show l hw 2 5 (by omega) (by omega)
  unfold palinglaw5_LexShown
  rw [show palingbook_Prog l 2 5=some p from e1]
  simp only [Option.bind_some]
  rw [e2]
  simp only [Option.bind_some]
  have hl:(intsB (showT p)).length ≤ 4000:=by rw [intsB_length]; exact e3
  generalize intsB (showT p)=s at hl
  by_cases h0:decide ((s.length:Int)>0)=true
  · rw [if_pos h0]
    simp only [decide_eq_true_eq] at h0
    obtain ⟨i,f1,f2,f3⟩:=pick_ls ha (s.length:Int) h0 (by omega)
    rw [f1,Option.bind_some,if_pos ⟨f2,by omega⟩]
    exact shown_j1 _ (by rw [List.length_set]; exact hl)
  · rw [if_neg h0]
    exact shown_j1 _ hl
end Go.Vs
