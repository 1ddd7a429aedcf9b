import Derived.Test.YtocjejladeeckaaGreatDoorVFacts
import Derived.Test.YtocjejladeeckaaGreatDoorPS1
import Derived.Test.YtocjejladeeckaaGreatDoorVu4
set_option linter.all false
set_option maxRecDepth 100000
namespace Go.Proofs.YtocjejladeeckaaGreatDoor
open Go.Vs
theorem znD{α:Type}{n t:Nat}{f:α->List AV}{W:α->Prop}(h:∀xs,HasT Tryz.prog n t xs->∃x,xs=f x/\W x):∀(rows:List (List AV)),(∀r∈rows,HasT Tryz.prog n t r)->∃l:List α,rows=l.map f/\∀x∈l,W x
 | [],_=>⟨[],rfl,by simp⟩
 | r::rows,hr=>by
  obtain ⟨x,e1,e2⟩:=h r (hr r (List.mem_cons_self ..))
  obtain ⟨l,e3,e4⟩:=znD h rows (fun r hm=>hr r (List.mem_cons_of_mem _ hm))
  exact ⟨x::l,by rw [e1,e3]; rfl,fun y hy=>(List.mem_cons.1 hy).elim (fun e=>e▸e2) (e4 y)⟩
theorem hasS{P:Program}{n:Nat}{t:TypeId}{fs:Array Field}{xs:List AV}(hu:P.underlying t=some (.struct fs))(h:HasT P (n+1) t xs):HasT.HasF (fun t=>HasT P n t) fs.toList xs:=by
 simp only [HasT,hu] at h
 exact h
theorem hasL{P:Program}{n:Nat}{t e:TypeId}{xs:List AV}(hu:P.underlying t=some (.slice e))(h:HasT P (n+1) t xs):∃rows,xs=[.sl rows]/\rows.length<=maxLen/\∀r∈rows,HasT P n e r:=by
 simp only [HasT,hu] at h
 exact h
theorem has3{n:Nat}{xs:List AV}(h:HasT Tryz.prog (n+1) 3 xs):∃x:Int,xs=eInt .i64 x/\Wi .i64 x:=by
 simp only [HasT,Tryz.underlying3] at h
 obtain ⟨i,rfl,hw⟩:=h
 simp only [Lit.wf,Bool.and_eq_true,decide_eq_true_eq] at hw
 exact ⟨i,rfl,hw⟩
theorem has2{n:Nat}{xs:List AV}(h:HasT Tryz.prog (n+1) 2 xs):∃x:Int,xs=eInt .i64 x/\Wi .i64 x:=by
 simp only [HasT,Tryz.underlying2] at h
 obtain ⟨i,rfl,hw⟩:=h
 simp only [Lit.wf,Bool.and_eq_true,decide_eq_true_eq] at hw
 exact ⟨i,rfl,hw⟩
theorem zy4{n:Nat}{xs:List AV}(h:HasT Tryz.prog (n+2) 68 xs):∃x:zay,xs=zap x/\zaZ x:=by
 replace h:=hasS (n:=n+1) Tryz.underlying68 h
 simp only [HasT.HasF] at h
 obtain ⟨a0,b0,rfl,h0,a1,b1,rfl,h1,a2,b2,rfl,h2,a3,b3,rfl,h3,a4,b4,rfl,h4,rfl⟩:=h
 obtain ⟨x0,rfl,w0⟩:=has3 (n:=n+0) h0
 obtain ⟨x1,rfl,w1⟩:=has3 (n:=n+0) h1
 obtain ⟨x2,rfl,w2⟩:=has3 (n:=n+0) h2
 obtain ⟨x3,rfl,w3⟩:=has3 (n:=n+0) h3
 obtain ⟨x4,rfl,w4⟩:=has2 (n:=n+0) h4
 exact ⟨⟨x0,x1,x2,x3,x4⟩,rfl,⟨w0,w1,w2,w3,w4⟩⟩
theorem zy5{n:Nat}{xs:List AV}(h:HasT Tryz.prog (n+3) 65 xs):∃x:(List zay),xs=eSl zap x/\x.length<=maxLen/\∀yx∈x,zaZ yx:=by
 obtain ⟨rows,rfl,hl,hr⟩:=hasL (n:=n+2) Tryz.underlying65 h
 obtain ⟨l,rfl,hw⟩:=znD (n:=n+2) (f:=zap) (W:=fun x:zay=>zaZ x) (fun xs h=>zy4 (n:=n+0) h) rows hr
 exact ⟨l,rfl,by simpa using hl,hw⟩
theorem zy6{n:Nat}{xs:List AV}(h:HasT Tryz.prog (n+4) 25 xs):∃x:(List (List zay)),xs=eSl (eSl zap) x/\x.length<=maxLen/\∀yx∈x,yx.length<=maxLen/\∀yyx∈yx,zaZ yyx:=by
 obtain ⟨rows,rfl,hl,hr⟩:=hasL (n:=n+3) Tryz.underlying25 h
 obtain ⟨l,rfl,hw⟩:=znD (n:=n+3) (f:=eSl zap) (W:=fun x:(List zay)=>x.length<=maxLen/\∀yx∈x,zaZ yx) (fun xs h=>zy5 (n:=n+0) h) rows hr
 exact ⟨l,rfl,by simpa using hl,hw⟩
theorem pk25(x:(List (List zay))):pk Tryz.prog 25 (eSl (eSl zap) x)=(eSl (eSl zap) x).headD .undef:=by unfold pk; rw [if_neg (by intro h; revert h; simp [zbV,Tryz.underlying25])]
end Go.Proofs.YtocjejladeeckaaGreatDoor
