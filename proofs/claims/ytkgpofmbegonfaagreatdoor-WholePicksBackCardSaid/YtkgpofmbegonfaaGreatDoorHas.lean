import Derived.Test.YtkgpofmbegonfaaGreatDoorVFacts
import Derived.Test.YtkgpofmbegonfaaGreatDoorPS0
import Derived.Test.YtkgpofmbegonfaaGreatDoorVu4
set_option linter.all false
set_option maxRecDepth 100000
namespace Go.Proofs.YtkgpofmbegonfaaGreatDoor
open Go.Vs
theorem zmo{α:Type}{n t:Nat}{f:α->List AV}{W:α->Prop}(h:∀xs,HasT Tryz.prog n t xs->∃x,xs=f x/\W x):∀(rows:List (List AV)),(∀r∈rows,HasT Tryz.prog n t r)->∃l:List α,rows=l.map f/\∀x∈l,W x
 | [],_=>⟨[],rfl,by simp⟩
 | r::rows,hr=>by
  obtain ⟨x,e1,e2⟩:=h r (hr r (List.mem_cons_self ..))
  obtain ⟨l,e3,e4⟩:=zmo h rows (fun r hm=>hr r (List.mem_cons_of_mem _ hm))
  exact ⟨x::l,by rw [e1,e3]; rfl,fun y hy=>(List.mem_cons.1 hy).elim (fun e=>e▸e2) (e4 y)⟩
theorem hasS{P:Program}{n:Nat}{t:TypeId}{fs:Array Field}{xs:List AV}(hu:P.underlying t=some (.struct fs))(h:HasT P (n+1) t xs):HasT.HasF (fun t=>HasT P n t) fs.toList xs:=by
 simp only [HasT,hu] at h
 exact h
theorem hasL{P:Program}{n:Nat}{t e:TypeId}{xs:List AV}(hu:P.underlying t=some (.slice e))(h:HasT P (n+1) t xs):∃rows,xs=[.sl rows]/\rows.length<=maxLen/\∀r∈rows,HasT P n e r:=by
 simp only [HasT,hu] at h
 exact h
theorem has3{n:Nat}{xs:List AV}(h:HasT Tryz.prog (n+1) 3 xs):∃x:Int,xs=eInt .i64 x/\Wi .i64 x:=by
 simp only [HasT,Tryz.underlying3] at h
 obtain ⟨i,rfl,hw⟩:=h
 simp only [Lit.wf,Bool.and_eq_true,decide_eq_true_eq] at hw
 exact ⟨i,rfl,hw⟩
theorem has4{n:Nat}{xs:List AV}(h:HasT Tryz.prog (n+1) 4 xs):∃x:Bool,xs=zgH x/\True:=by
 simp only [HasT,Tryz.underlying4] at h
 obtain ⟨b,rfl⟩:=h
 exact ⟨b,rfl,trivial⟩
theorem zzh{n:Nat}{xs:List AV}(h:HasT Tryz.prog (n+2) 39 xs):∃x:zan,xs=zag x/\zgm x:=by
 replace h:=hasS (n:=n+1) Tryz.underlying39 h
 simp only [HasT.HasF] at h
 obtain ⟨a0,b0,rfl,h0,a1,b1,rfl,h1,rfl⟩:=h
 obtain ⟨x0,rfl,w0⟩:=has3 (n:=n+0) h0
 obtain ⟨x1,rfl,w1⟩:=has4 (n:=n+0) h1
 exact ⟨⟨x0,x1⟩,rfl,⟨w0,w1⟩⟩
theorem zzi{n:Nat}{xs:List AV}(h:HasT Tryz.prog (n+3) 23 xs):∃x:(List zan),xs=eSl zag x/\x.length<=maxLen/\∀yx∈x,zgm yx:=by
 obtain ⟨rows,rfl,hl,hr⟩:=hasL (n:=n+2) Tryz.underlying23 h
 obtain ⟨l,rfl,hw⟩:=zmo (n:=n+2) (f:=zag) (W:=fun x:zan=>zgm x) (fun xs h=>zzh (n:=n+0) h) rows hr
 exact ⟨l,rfl,by simpa using hl,hw⟩
theorem pk23(x:(List zan)):pk Tryz.prog 23 (eSl zag x)=(eSl zag x).headD .undef:=by unfold pk; rw [if_neg (by intro h; revert h; simp [zaF,Tryz.underlying23])]
end Go.Proofs.YtkgpofmbegonfaaGreatDoor
