import Derived.Test.YtgdchoahbiagbaaDoorVFacts
import Derived.Test.YtgdchoahbiagbaaDoorPP1
import Derived.Test.YtgdchoahbiagbaaDoorVu3
set_option linter.unusedVariables false
set_option linter.unusedSimpArgs false
set_option maxRecDepth 100000
set_option linter.unusedSectionVars false
namespace Go.Proofs.YtgdchoahbiagbaaDoor
open Go.Vs
theorem rows_of{α:Type}{n t:Nat}{f:α → List AV}{W:α → Prop}(h:∀xs,HasT Tryd.prog n t xs → ∃x,xs=f x ∧ W x):∀(rows:List (List AV)),(∀r∈rows,HasT Tryd.prog n t r) → ∃l:List α,rows=l.map f ∧ ∀x∈l,W x
  | [],_=>⟨[],rfl,by simp⟩
  | r::rows,hr=>by
    obtain ⟨x,e1,e2⟩:=h r (hr r (List.mem_cons_self ..))
    obtain ⟨l,e3,e4⟩:=rows_of h rows (fun r hm=>hr r (List.mem_cons_of_mem _ hm))
    exact ⟨x::l,by rw [e1,e3]; rfl,fun y hy=>(List.mem_cons.1 hy).elim (fun e=>e▸e2) (e4 y)⟩
theorem hasS{P:Program}{n:Nat}{t:TypeId}{fs:Array Field}{xs:List AV}(hu:P.underlying t=some (.struct fs))(h:HasT P (n+1) t xs):HasT.HasF (fun t=>HasT P n t) fs.toList xs:=by
  simp only [HasT,hu] at h
  exact h
theorem hasL{P:Program}{n:Nat}{t e:TypeId}{xs:List AV}(hu:P.underlying t=some (.slice e))(h:HasT P (n+1) t xs):∃rows,xs=[.sl rows] ∧ rows.length ≤ maxLen ∧ ∀r∈rows,HasT P n e r:=by
  simp only [HasT,hu] at h
  exact h
theorem has3{n:Nat}{xs:List AV}(h:HasT Tryd.prog (n+1) 3 xs):∃x:Int,xs=eInt .i64 x ∧ Wi .i64 x:=by
  simp only [HasT,Tryd.underlying3] at h
  obtain ⟨i,rfl,hw⟩:=h
  simp only [Lit.wf,Bool.and_eq_true,decide_eq_true_eq] at hw
  exact ⟨i,rfl,hw⟩
theorem pk3(x:Int):pk Tryd.prog 3 (eInt .i64 x)=(eInt .i64 x).headD .undef:=by unfold pk; rw [if_neg (by intro h; revert h; simp [aggOf,Tryd.underlying3])]
theorem has2{n:Nat}{xs:List AV}(h:HasT Tryd.prog (n+1) 2 xs):∃x:Int,xs=eInt .i64 x ∧ Wi .i64 x:=by
  simp only [HasT,Tryd.underlying2] at h
  obtain ⟨i,rfl,hw⟩:=h
  simp only [Lit.wf,Bool.and_eq_true,decide_eq_true_eq] at hw
  exact ⟨i,rfl,hw⟩
theorem has58{n:Nat}{xs:List AV}(h:HasT Tryd.prog (n+2) 58 xs):∃x:T_palingbook_Act,xs=e_palingbook_Act x ∧ W_palingbook_Act x:=by
  replace h:=hasS (n:=n+1) Tryd.underlying58 h
  simp only [HasT.HasF] at h
  obtain ⟨a0,b0,rfl,h0,a1,b1,rfl,h1,a2,b2,rfl,h2,a3,b3,rfl,h3,a4,b4,rfl,h4,rfl⟩:=h
  obtain ⟨x0,rfl,w0⟩:=has3 (n:=n+0) h0
  obtain ⟨x1,rfl,w1⟩:=has3 (n:=n+0) h1
  obtain ⟨x2,rfl,w2⟩:=has3 (n:=n+0) h2
  obtain ⟨x3,rfl,w3⟩:=has3 (n:=n+0) h3
  obtain ⟨x4,rfl,w4⟩:=has2 (n:=n+0) h4
  exact ⟨⟨x0,x1,x2,x3,x4⟩,rfl,⟨w0,w1,w2,w3,w4⟩⟩
theorem has55{n:Nat}{xs:List AV}(h:HasT Tryd.prog (n+3) 55 xs):∃x:(List T_palingbook_Act),xs=eSl e_palingbook_Act x ∧ x.length ≤ maxLen ∧ ∀yx∈x,W_palingbook_Act yx:=by
  obtain ⟨rows,rfl,hl,hr⟩:=hasL (n:=n+2) Tryd.underlying55 h
  obtain ⟨l,rfl,hw⟩:=rows_of (n:=n+2) (f:=e_palingbook_Act) (W:=fun x:T_palingbook_Act=>W_palingbook_Act x) (fun xs h=>has58 (n:=n+0) h) rows hr
  exact ⟨l,rfl,by simpa using hl,hw⟩
theorem has22{n:Nat}{xs:List AV}(h:HasT Tryd.prog (n+4) 22 xs):∃x:(List (List T_palingbook_Act)),xs=eSl (eSl e_palingbook_Act) x ∧ x.length ≤ maxLen ∧ ∀yx∈x,yx.length ≤ maxLen ∧ ∀yyx∈yx,W_palingbook_Act yyx:=by
  obtain ⟨rows,rfl,hl,hr⟩:=hasL (n:=n+3) Tryd.underlying22 h
  obtain ⟨l,rfl,hw⟩:=rows_of (n:=n+3) (f:=eSl e_palingbook_Act) (W:=fun x:(List T_palingbook_Act)=>x.length ≤ maxLen ∧ ∀yx∈x,W_palingbook_Act yx) (fun xs h=>has55 (n:=n+0) h) rows hr
  exact ⟨l,rfl,by simpa using hl,hw⟩
theorem pk22(x:(List (List T_palingbook_Act))):pk Tryd.prog 22 (eSl (eSl e_palingbook_Act) x)=(eSl (eSl e_palingbook_Act) x).headD .undef:=by unfold pk; rw [if_neg (by intro h; revert h; simp [aggOf,Tryd.underlying22])]
theorem has5{n:Nat}{xs:List AV}(h:HasT Tryd.prog (n+1) 5 xs):∃x:Int,xs=eInt .u8 x ∧ Wi .u8 x:=by
  simp only [HasT,Tryd.underlying5] at h
  obtain ⟨i,rfl,hw⟩:=h
  simp only [Lit.wf,Bool.and_eq_true,decide_eq_true_eq] at hw
  exact ⟨i,rfl,hw⟩
theorem pk5(x:Int):pk Tryd.prog 5 (eInt .u8 x)=(eInt .u8 x).headD .undef:=by unfold pk; rw [if_neg (by intro h; revert h; simp [aggOf,Tryd.underlying5])]
end Go.Proofs.YtgdchoahbiagbaaDoor
