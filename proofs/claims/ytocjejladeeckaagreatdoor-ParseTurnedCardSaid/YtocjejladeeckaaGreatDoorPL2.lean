import Derived.Test.YtocjejladeeckaaGreatDoorPL1
import Derived.Test.YtocjejladeeckaaGreatDoorPS1
import Derived.Test.YtocjejladeeckaaGreatDoorPS0
import Derived.Test.YtocjejladeeckaaGreatDoorPP4
set_option linter.all false
section
namespace Go.Vs
local instance tabPalLx5:Tab:=⟨fun _=>none⟩
abbrev It:=Int × List Rn
def zjU(l:List It):List Rn:=l.flatMap (·.2)
def toks(l:List It):List It:=l.filter (fun a=>a.1 != 0)
def itB(l:List It):ByteArray:=bs (flat (zjU l))
def ItOk(a:It):Prop:=(∀x∈a.2,Dec x)/\((a.1=0/\∃x,a.2=[x]/\x.bad=false/\zgk x.r=true)\/(a.1≠0/\∃x w,a.2=x::w/\Tk a.1 x w))
def wk2(k:Int):Bool:=(k==1)||(k==2)
def sep:List It->Bool
 | []=>true
 | a::r=>(!wk2 a.1||(match r with | []=>true | b::_=>!wk2 b.1))&&sep r
theorem zjl(a:It)(l:List It):zjU (a::l)=a.2++zjU l:=by simp [zjU]
theorem zqw(a b:List It):zjU (a++b)=zjU a++zjU b:=by simp [zjU]
theorem zgH(a b:List It):itB (a++b)=itB a++itB b:=by unfold itB; rw [zqw,zfX,znH]
theorem ze5:itB []=⟨#[]⟩:=rfl
theorem zem(a:It)(l:List It):itB (a::l)=bs (flat a.2)++itB l:=by unfold itB; rw [zjl,zfX,znH]
theorem zo2:∀l:List It,(∀a∈l,ItOk a)->sep l=true->Lx (zjU l) (toks l)
 | [],_,_=>Lx.nil
 | a::l,h,hs=>by
  unfold sep at hs
  simp only [Bool.and_eq_true] at hs
  have ih:=zo2 l (fun b hb=>h b (by simp [hb])) hs.2
  obtain ⟨_,h1⟩:=h a (by simp)
  rw [zjl]
  rcases h1 with ⟨k0,x,e,b1,b2⟩ | ⟨k0,x,w,e,ht⟩
  ·have:toks (a::l)=toks l:=by simp [toks,k0]
   rw [this,e]
   exact .blank b1 b2 ih
  ·have:toks (a::l)=(a.1,x::w)::toks l:=by
    have:(a.1 != 0)=true:=by simp [k0]
    simp only [toks,List.filter_cons,this,if_true]
    rw [← e]
   rw [this,e]
   refine .tok ht ?_ ih
   intro hk y hy
   have hw:wk2 a.1=true:=by unfold wk2; rcases hk with hk | hk <;> rw [hk] <;> rfl
   rw [hw] at hs
   cases l with
   | nil=>simp [zjU] at hy
   | cons b r =>
    obtain ⟨_,hb⟩:=h b (by simp)
    have hnb:wk2 b.1=false:=by simpa using hs.1
    rw [zjl] at hy
    rcases hb with ⟨_,z,e2,c1,c2⟩ | ⟨_,z,w2,e2,t0,t1,t2,t3⟩
    ·rw [e2] at hy
     simp at hy; subst hy
     exact zir c2
    ·rw [e2] at hy
     simp at hy; subst hy
     unfold wk2 at hnb
     simp only [Bool.or_eq_false_iff,beq_eq_false_iff_ne] at hnb
     rcases t3 with ⟨_,q,_⟩ | ⟨_,_,q,_⟩ | ⟨q,_⟩ | ⟨q,_⟩
     ·unfold Rn.word; rw [q]; cases z.bad <;> rfl
     ·unfold zjk at q
      simp only [Bool.or_eq_true,beq_iff_eq] at q
      rcases q with ((q | q) | q) | q <;> (unfold Rn.word; rw [q]; cases z.bad <;> rfl)
     ·exact absurd q hnb.1
     ·exact absurd q hnb.2
theorem zf6:∀(l:List It) (a:It) (m:List It),wk2 a.1=false->sep l=true->sep m=true->sep (l++a::m)=true
 | [],a,m,h,_,hm=>by simp [sep,h,hm]
 | b::l,a,m,h,hl,hm=>by
  unfold sep at hl
  simp only [Bool.and_eq_true] at hl
  have ih:=zf6 l a m h hl.2 hm
  rw [List.cons_append]
  unfold sep
  simp only [Bool.and_eq_true]
  refine ⟨?_,ih⟩
  cases l with
  | nil=>simp [h]
  | cons c l=>exact hl.1
def Ln(l:List It):Prop:=sep l=true/\∀m,sep m=true->sep (l++m)=true
theorem zo3(l:List It)(a:It)(h:wk2 a.1=false)(hl:sep l=true):Ln (l++[a]) :=
 ⟨zf6 l a [] h hl rfl,fun m hm=>by rw [List.append_assoc]; exact zf6 l a m h hl hm⟩
theorem zkG{α:Type}(f:α->List It):∀(l:List α),(∀x∈l,Ln (f x))->Ln (l.flatMap f)
 | [],_=>⟨rfl,fun m h=>h⟩
 | x::l,h=>by
  have h1:=h x (by simp)
  have h2:=zkG f l fun y hy=>h y (by simp [hy])
  rw [List.flatMap_cons]
  exact ⟨h1.2 _ h2.1,fun m hm=>by rw [List.append_assoc]; exact h1.2 _ (h2.2 m hm)⟩
theorem zra{a b:List It}(h1:Ln a)(h2:Ln b):Ln (a++b):=⟨h1.2 _ h2.1,fun m hm=>by rw [List.append_assoc]; exact h1.2 _ (h2.2 m hm)⟩
def spI:It:=(0,[asc 32])
def tbI:It:=(0,[asc 9])
def nlI:It:=(4,[asc 10])
def sgI(b:UInt8):It:=(3,[asc b])
def nmI(s:ByteArray):It:=(1,rns s)
def kwI(s:ByteArray):It:=(1,ascs s)
def nuI(v:Int):It:=(2,ascs (zfs v))
theorem ztx{k:Int}{s:ByteArray}{l:List Rn}(hk:k≠0)(h:Wd k s l):ItOk (k,l):=⟨h.dec,.inr ⟨hk,h.tk⟩⟩
theorem zks:ItOk spI:=⟨fun x hx=>by rw [List.mem_singleton.1 hx]; exact zjC (by decide),.inl ⟨rfl,_,rfl,rfl,rfl⟩⟩
theorem zu2:ItOk tbI:=⟨fun x hx=>by rw [List.mem_singleton.1 hx]; exact zjC (by decide),.inl ⟨rfl,_,rfl,rfl,rfl⟩⟩
theorem zoX:ItOk nlI:=⟨fun x hx=>by rw [List.mem_singleton.1 hx]; exact zjC (by decide),.inr ⟨by decide,_,_,rfl,rfl,rfl,by decide,.inl ⟨rfl,rfl,rfl⟩⟩⟩
theorem zls{b:UInt8}(h:b=44\/b=91\/b=93\/b=58):ItOk (sgI b):=by
 have:b.toNat<128:=by rcases h with rfl | rfl | rfl | rfl <;> decide
 refine ⟨fun x hx=>by rw [List.mem_singleton.1 hx]; exact zjC this,.inr ⟨show (3:Int)≠0 by decide,_,_,rfl,rfl,?_,?_,.inr (.inl ⟨rfl,?_,?_,rfl⟩)⟩⟩ <;> rcases h with rfl | rfl | rfl | rfl <;> decide
theorem znb{s:ByteArray}(h:zdy s=true):ItOk (nmI s):=ztx (by decide) (zsc h)
theorem zlH{s:ByteArray}(h:kwOk s=true):ItOk (kwI s):=ztx (by decide) (zyy h)
theorem zoW{v:Int}(h:I64 v):ItOk (nuI v):=ztx (by decide) (zvf h)
theorem zq4(s:ByteArray):bs (flat (nmI s).2)=s:=by show bs (flat (rns s))=s; rw [zoL,zmz]
theorem znq(s:ByteArray):bs (flat (kwI s).2)=s:=by show bs (flat (ascs s))=s; rw [zhU,zmz]
theorem zsq(v:Int):bs (flat (nuI v).2)=zfs v:=by show bs (flat (ascs _))=_; rw [zhU,zmz]
def zr7:ByteArray:=⟨#[115,121,109]⟩
def ztA:ByteArray:=⟨#[116,104,114,101,97,100]⟩
def zq9:ByteArray:=⟨#[108,111,99,107]⟩
def zmo(v:Int):List It:=[spI,nuI v]
def symI(s:zam):List It:=[kwI zr7,spI,nmI s.Name,spI,nuI s.Size]++s.Init.flatMap zmo++[nlI]
def labI(s:ByteArray):List It:=[nmI s,sgI 58,nlI]
def opdI(o:zap)(syms:List ByteArray):List It :=
 if o.Kind==1 then [kwI (regT o.Reg)] else if o.Kind==2 then [nuI o.N]
 else if o.Kind==3 then [nmI (rd syms o.Sym),sgI 91,nuI o.N,sgI 93] else [nmI (rd syms o.Sym),sgI 91,kwI (regT o.Reg),sgI 93]
def zng(b:Bool):List It:=if b then [kwI zq9,spI] else []
def znI(x:zae)(syms:List ByteArray):List It :=
 if zeE x then [kwI (opT x.Op x.Cond),spI,nmI x.To] else if decide (x.Op>9) then [kwI (opT x.Op x.Cond)]
 else [kwI (opT x.Op x.Cond),spI]++opdI x.A syms++[sgI 44,spI]++opdI x.B syms
def insI(x:zae)(syms:List ByteArray):List It:=tbI::(zng x.Lock++(znI x syms++[nlI]))
def zrd(syms:List ByteArray)(x:zae):List It:=x.zLb.flatMap labI++insI x syms
def thI(syms:List ByteArray)(t:zad):List It:=[kwI ztA,nlI]++t.Ins.flatMap (zrd syms)
def zkC(p:zaj):List It:=p.zSy.flatMap symI++p.zTh.flatMap (thI (zc3 p))
theorem zg6{α:Type}(g:ByteArray->α->ByteArray)(f:α->List It):∀(l:List α),(∀x∈l,∀a,g a x=a++itB (f x))->∀a,l.foldl g a=a++itB (l.flatMap f)
 | [],_,a=>by rw [List.flatMap_nil,ze5]; apply bext; simp
 | x::l,h,a=>by
  rw [List.foldl_cons,zg6 g f l (fun y hy=>h y (by simp [hy])),h x (by simp),List.flatMap_cons,zgH,ByteArray.append_assoc]
theorem zsE(v:Int)(a:ByteArray):zlj a v=a++itB (zmo v):=by
 unfold zlj zmo
 rw [zem,zem,ze5,zsq]
 congr 1
 apply bext; simp [spI,asc,flat,bs]
theorem ztB(s:zam)(a:ByteArray):symT a s=a++itB (symI s):=by
 unfold symT symI zhB
 rw [zg6 zlj zmo s.Init (fun v _ a=>zsE v a),zgH,zgH]
 simp only [zem,zq4,zsq,znq,ze5]
 apply bext; simp [spI,nlI,asc,flat,bs,zr7]
theorem zt9(s:ByteArray)(a:ByteArray):labT a s=a++itB (labI s):=by
 unfold labT labI
 simp only [zem,zq4,ze5]
 congr 1
theorem zqX(o:zap)(syms:List ByteArray)(h:opdB o=true)(hm:memB o=true->o.Sym<(syms.length:Int)):opdT o syms=itB (opdI o syms):=by
 unfold opdT opdI
 rw [h]
 unfold opdB at h
 unfold memB at hm
 by_cases k1:(o.Kind==1)=true
 ·rw [if_pos k1,if_pos k1]; rw [zem,znq,ze5]; simp only [Bool.not_true,Bool.false_eq_true,if_false]; apply bext; simp
 rw [if_neg k1,if_neg k1]
 by_cases k2:(o.Kind==2)=true
 ·rw [if_pos k2,if_pos k2]; rw [zem,zsq,ze5]; simp only [Bool.not_true,Bool.false_eq_true,if_false]; apply bext; simp
 rw [if_neg k2,if_neg k2]
 rw [if_neg k1,if_neg k2] at h
 have hs:o.Sym<(syms.length:Int):=by
  apply hm
  by_cases k3:(o.Kind==3)=true
  ·rw [k3]; rfl
  ·rw [if_neg k3] at h
   by_cases k4:(o.Kind==4)=true
   ·rw [k4]; simp
   ·rw [if_neg k4] at h; cases h
 rw [if_neg (show ¬(decide (o.Sym≥(syms.length:Int)))=true by simp; omega)]
 by_cases k3:(o.Kind==3)=true
 ·rw [if_pos k3,if_pos k3]
  simp only [zem,zq4,zsq,ze5]
  apply bext; simp [sgI,asc,flat,bs]
 ·rw [if_neg k3,if_neg k3]
  simp only [zem,zq4,znq,ze5]
  apply bext; simp [sgI,asc,flat,bs]
structure InsG (x:zae) (n:Nat):Prop where
 z:insN x=0
 a:memB x.A=true->x.A.Sym<(n:Int)
 b:memB x.B=true->x.B.Sym<(n:Int)
theorem zjv{x:zae}(h:insN x=0):zja x=true/\1<=x.Op/\x.Op<=14/\rowB x=true/\(zeE x=true->zdy x.To=true)/\(zeE x=false->x.To=⟨#[]⟩):=by
 unfold insN zll at h
 split at h
 ·rename_i h1
  simp only [Bool.and_eq_true,Bool.or_eq_true,decide_eq_true_eq] at h1
  refine ⟨h1.1.1,h1.1.2.1.1,h1.1.2.1.2,h1.1.2.2,fun hj=>?_,fun hj=>?_⟩
  ·rw [hj] at h
   cases hr:zdy x.To with
   | true=>rfl
   | false=>rw [hr] at h; simp at h
  ·rcases h1.2 with h2 | h2
   ·rw [hj] at h2; cases h2
   ·exact h2
 ·cases h
theorem zmR{x:zae}(h:rowB x=true)(h1:1<=x.Op)(h9:x.Op<=9):opdB x.A=true/\opdB x.B=true:=by
 unfold rowB at h
 rw [if_neg (by simp; omega)] at h
 split at h
 ·cases h
 ·rename_i hn
  simp only [Bool.or_eq_true,Bool.not_eq_true',not_or,Bool.not_eq_false] at hn
  exact hn
theorem zuc(x:zae)(syms:List ByteArray)(h:InsG x syms.length):insT x syms=itB (zng x.Lock++znI x syms):=by
 obtain ⟨_,o1,o2,hr,_,_⟩:=zjv h.z
 have hz:(insN x != 0)=false:=by rw [h.z]; rfl
 have hS:(if x.Lock then (⟨#[108,111,99,107,32]⟩:ByteArray)++opT x.Op x.Cond else opT x.Op x.Cond)=itB (zng x.Lock)++opT x.Op x.Cond:=by
  unfold zng
  cases x.Lock
  ·simp only [Bool.false_eq_true,if_false,ze5]; apply bext; simp
  ·simp only [if_true,zem,znq,ze5]; apply bext; simp [zq9,spI,asc,flat,bs]
 unfold insT
 rw [hz]
 simp only [Bool.false_eq_true,if_false]
 rw [hS,zgH]
 unfold znI
 by_cases hj:zeE x=true
 ·rw [if_pos hj,if_pos hj]
  simp only [zem,zq4,znq,ze5]
  apply bext; simp [spI,asc,flat,bs]
 rw [if_neg hj,if_neg hj]
 by_cases h9:decide (x.Op>9)=true
 ·rw [if_pos h9,if_pos h9]
  simp only [zem,znq,ze5]
  apply bext; simp
 rw [if_neg h9,if_neg h9]
 obtain ⟨ga,gb⟩:=zmR hr o1 (by simp at h9; omega)
 have hm:((memB x.A&&decide (x.A.Sym≥(syms.length:Int)))||(memB x.B&&decide (x.B.Sym≥(syms.length:Int))))=false:=by
  have h1:=h.a
  have h2:=h.b
  cases ha:memB x.A <;> cases hb:memB x.B <;> simp [ha,hb] at h1 h2 ⊢ <;> omega
 rw [hm]
 simp only [Bool.false_eq_true,if_false]
 rw [zqX x.A syms ga h.a,zqX x.B syms gb h.b,zgH,zgH,zgH]
 simp only [zem,znq,ze5]
 apply bext; simp [spI,sgI,asc,flat,bs]
theorem zsv(syms:List ByteArray)(x:zae)(h:InsG x syms.length)(a:ByteArray):zjX syms a x=a++itB (zrd syms x):=by
 unfold zjX zrd insI
 rw [zg6 labT labI x.zLb (fun s _ a=>zt9 s a),zuc x syms h]
 simp only [zgH,zem,ze5]
 apply bext; simp [tbI,nlI,asc,flat,bs]
theorem zu0(syms:List ByteArray)(t:zad)(h:∀x∈t.Ins,InsG x syms.length)(a:ByteArray):thT syms a t=a++itB (thI syms t):=by
 unfold thT thI
 rw [zg6 (zjX syms) (zrd syms) t.Ins (fun x hx a=>zsv syms x (h x hx) a),zgH]
 simp only [zem,znq,ze5]
 apply bext; simp [ztA,nlI,asc,flat,bs]
theorem zoH(p:zaj)(hc:zhs p=0)(h:∀t∈p.zTh,∀x∈t.Ins,InsG x p.zSy.length):zgO p=itB (zkC p):=by
 unfold zgO zkC
 have b:(zhs p != 0)=false:=by rw [hc]; rfl
 rw [b]
 simp only [Bool.false_eq_true,if_false]
 have hl:(zc3 p).length=p.zSy.length:=by simp [zc3]
 rw [zg6 symT symI p.zSy (fun s _ a=>ztB s a),zg6 (thT (zc3 p)) (thI (zc3 p)) p.zTh (fun t ht a=>zu0 _ t (by rw [hl]; exact h t ht) a),zgH]
 apply bext; simp
end Go.Vs
end
section
namespace Go.Vs
local instance tabPalLx6:Tab:=⟨fun _=>none⟩
def zs2:List ByteArray->List zam->Prop
 | _,[]=>True
 | L,s::l=>zdy s.Name=true/\has L s.Name=false/\1<=s.Size/\s.Size<=64/\(s.Init.length:Int)<=s.Size/\zs2 (L++[s.Name]) l
theorem zl1:∀(l:List zam) (i:Nat) (L:List ByteArray) (r:Unit ⊕ Int),zbv symF (fun _=>(.inl ():Unit ⊕ Int)) i L l=r->(r=.inl ()\/r=.inr 0)->zs2 L l/\r=.inl ()
 | [],i,L,r,h,h0=>⟨trivial,by rw [← h]; rfl⟩
 | s::l,i,L,r,h,h0=>by
  unfold zbv at h
  unfold symF at h
  by_cases c1:(!zdy s.Name)=true
  ·rw [if_pos c1] at h; simp only at h; rcases h0 with h0 | h0 <;> rw [h0] at h <;> cases h
  rw [if_neg c1] at h
  by_cases c2:has L s.Name=true
  ·rw [if_pos c2] at h; simp only at h; rcases h0 with h0 | h0 <;> rw [h0] at h <;> cases h
  rw [if_neg c2] at h
  by_cases c3:((decide (s.Size<1)||decide (s.Size>64))||decide ((s.Init.length:Int)>s.Size))=true
  ·rw [if_pos c3] at h; simp only at h; rcases h0 with h0 | h0 <;> rw [h0] at h <;> cases h
  rw [if_neg c3] at h
  simp only at h
  obtain ⟨a,b⟩:=zl1 l (i+1) _ r h h0
  simp only [Bool.or_eq_true,decide_eq_true_eq,not_or,Int.not_lt,Int.not_gt_eq] at c3
  exact ⟨⟨by simpa using c1,by simpa using c2,by omega,by omega,by omega,a⟩,b⟩
def zs3:List ByteArray->List ByteArray->Prop
 | _,[]=>True
 | L,s::l=>zdy s=true/\has L s=false/\zs3 (L++[s]) l
theorem zo5:∀(l:List ByteArray) (i:Nat) (L L':List ByteArray),zbv labF (.inl:List ByteArray->List ByteArray ⊕ Int) i L l=.inl L'->zs3 L l/\L'=L++l
 | [],i,L,L',h=>⟨trivial,by simp only [zbv] at h; cases h; simp⟩
 | s::l,i,L,L',h=>by
  unfold zbv at h
  unfold labF at h
  by_cases c1:(!zdy s)=true
  ·rw [if_pos c1] at h; cases h
  rw [if_neg c1] at h
  by_cases c2:has L s=true
  ·rw [if_pos c2] at h; cases h
  rw [if_neg c2] at h
  obtain ⟨a,b⟩:=zo5 l (i+1) _ L' h
  exact ⟨⟨by simpa using c1,by simpa using c2,a⟩,by rw [b]; simp⟩
def zs4(p:zaj):List ByteArray->List zae->Prop
 | _,[]=>True
 | L,x::l=>zs3 L x.zLb/\insN x=0/\zfa p x.A=0/\zfa p x.B=0/\zs4 p (L++x.zLb) l
theorem zo7(p:zaj):∀(l:List zae) (i:Nat) (L L':List ByteArray),zbv (insF p) (Sum.inl:List ByteArray->List ByteArray ⊕ Int) i L l=.inl L'->zs4 p L l/\L'=L++l.flatMap (·.zLb)
 | [],i,L,L',h=>⟨trivial,by simp only [zbv] at h; cases h; simp⟩
 | x::l,i,L,L',h=>by
  unfold zbv at h
  unfold insF at h
  cases hl:znp L x.zLb with
  | inr e=>rw [hl] at h; cases h
  | inl L1 =>
   rw [hl] at h
   obtain ⟨a,rfl⟩:=zo5 x.zLb 0 L L1 hl
   simp only at h
   by_cases c1:(insN x != 0)=true
   ·rw [if_pos c1] at h; cases h
   rw [if_neg c1] at h
   by_cases c2:(zfa p x.A != 0)=true
   ·rw [if_pos c2] at h; cases h
   rw [if_neg c2] at h
   by_cases c3:(zfa p x.B != 0)=true
   ·rw [if_pos c3] at h; cases h
   rw [if_neg c3] at h
   obtain ⟨b,c⟩:=zo7 p l (i+1) _ L' h
   exact ⟨⟨a,by simpa using c1,by simpa using c2,by simpa using c3,b⟩,by rw [c]; simp⟩
theorem znw(p:zaj):∀(l:List zae) (i:Nat) (L:List ByteArray) (e:Int),zbv (insF p) (Sum.inl:List ByteArray->List ByteArray ⊕ Int) i L l=.inr e->e≠0
 | [],i,L,e,h=>by simp only [zbv] at h; cases h
 | x::l,i,L,e,h=>by
  unfold zbv at h
  unfold insF at h
  cases hl:znp L x.zLb with
  | inr e' =>
   rw [hl] at h
   simp only at h
   injection h with h
   subst h
   have:∀(l:List ByteArray) (i:Nat) (L:List ByteArray) (e:Int),zbv labF (.inl:List ByteArray->List ByteArray ⊕ Int) i L l=.inr e->e≠0:=by
    intro l
    induction l with
    | nil=>intro i L e h; simp only [zbv] at h; cases h
    | cons s l ih =>
     intro i L e h
     unfold zbv at h
     unfold labF at h
     by_cases c1:(!zdy s)=true
     ·rw [if_pos c1] at h; simp only at h; injection h with h; omega
     rw [if_neg c1] at h
     by_cases c2:has L s=true
     ·rw [if_pos c2] at h; simp only at h; injection h with h; omega
     rw [if_neg c2] at h
     exact ih _ _ _ h
   exact this _ _ _ _ hl
  | inl L1 =>
   rw [hl] at h
   simp only at h
   by_cases c1:(insN x != 0)=true
   ·rw [if_pos c1] at h; simp only at h; injection h with h; subst h; simpa using c1
   rw [if_neg c1] at h
   by_cases c2:(zfa p x.A != 0)=true
   ·rw [if_pos c2] at h; simp only at h; injection h with h; subst h; simpa using c2
   rw [if_neg c2] at h
   by_cases c3:(zfa p x.B != 0)=true
   ·rw [if_pos c3] at h; simp only at h; injection h with h; subst h; simpa using c3
   rw [if_neg c3] at h
   exact znw p l _ _ e h
structure ThG (p:zaj) (t:zad):Prop where
 n:zjO t<=4096
 ins:zs4 p [] t.Ins
 ne:t.Ins≠[]
 last:zin t=10\/zin t=14
 to:∀x∈t.Ins,zeE x=true->has (t.Ins.flatMap (·.zLb)) x.To=true
theorem zu1{p:zaj}{t:zad}(h:zfQ p t=0):ThG p t:=by
 unfold zfQ at h
 by_cases c1:decide (zjO t>4096)=true
 ·rw [if_pos c1] at h; cases h
 rw [if_neg c1] at h
 cases hi:zbv (insF p) (Sum.inl:List ByteArray->List ByteArray ⊕ Int) 0 [] t.Ins with
 | inr e=>rw [hi] at h; exact absurd h (znw p _ _ _ e hi)
 | inl L =>
  rw [hi] at h
  obtain ⟨a,b⟩:=zo7 p _ _ _ _ hi
  simp only at h
  by_cases c2:(((t.Ins.length:Int)==0)||((zin t != 10)&&(zin t != 14)))=true
  ·rw [if_pos c2] at h; cases h
  rw [if_neg c2] at h
  simp only [Bool.or_eq_true,beq_iff_eq,Bool.and_eq_true,bne_iff_ne,ne_eq,not_or,not_and,Decidable.not_not] at c2
  refine ⟨by simpa using c1,a,fun e=>c2.1 (by rw [e]; rfl),?_,?_⟩
  ·by_cases q:zin t=10
   ·exact .inl q
   ·exact .inr (c2.2 q)
  ·have hb:L=t.Ins.flatMap (·.zLb):=by simpa using b
   have key:∀(l:List zae) (i:Nat),(match zbv (zkJ L) Sum.inl i () l with | .inl ()=>(0:Int) | .inr e=>e)=0->∀x∈l,zeE x=true->has L x.To=true:=by
    intro l
    induction l with
    | nil=>intro i _ x hx; cases hx
    | cons y l ih =>
     intro i h x hx hj
     unfold zbv at h
     unfold zkJ at h
     by_cases c:(zeE y&&!has L y.To)=true
     ·rw [if_pos c] at h; cases h
     ·rw [if_neg c] at h
      rcases List.mem_cons.1 hx with rfl | hx
      ·rw [hj] at c; simpa using c
      ·exact ih _ h x hx hj
   rw [← hb]
   exact key _ _ h
structure ChkG (p:zaj):Prop where
 ns:p.zSy.length<=64
 nt:p.zTh.length<=64
 syms:zs2 [] p.zSy
 th:∀t∈p.zTh,ThG p t
theorem zrI{p:zaj}(h:zhs p=0):ChkG p:=by
 unfold zhs at h
 by_cases c1:(decide ((p.zSy.length:Int)>64)||decide ((p.zTh.length:Int)>64))=true
 ·rw [if_pos c1] at h; cases h
 rw [if_neg c1] at h
 simp only [Bool.or_eq_true,decide_eq_true_eq,not_or] at c1
 cases hs:zbv symF (fun _=>(.inl ():Unit ⊕ Int)) 0 [] p.zSy with
 | inr e =>
  rw [hs] at h
  simp only at h
  have:=(zl1 _ _ _ _ hs (.inr (by rw [h]))).2
  cases this
 | inl u =>
  rw [hs] at h
  simp only at h
  refine ⟨by omega,by omega,(zl1 _ _ _ _ hs (.inl rfl)).1,?_⟩
  have key:∀(l:List zad) (i:Nat),(match zbv (thF p) (Sum.inl:Unit->Unit ⊕ Int) i () l with | .inr e=>e | .inl ()=>(0:Int))=0->∀t∈l,zfQ p t=0:=by
   intro l
   induction l with
   | nil=>intro i _ t ht; cases ht
   | cons y l ih =>
    intro i h t ht
    unfold zbv at h
    unfold thF at h
    by_cases c:(zfQ p y != 0)=true
    ·rw [if_pos c] at h; simp only at h; simp [h] at c
    ·rw [if_neg c] at h
     rcases List.mem_cons.1 ht with rfl | ht
     ·simpa using c
     ·exact ih _ h t ht
  exact fun t ht=>zu1 (key _ _ h t ht)
theorem zlz{p:zaj}{o:zap}(h:zfa p o=0)(hm:memB o=true):o.Sym<(p.zSy.length:Int):=by
 unfold zfa at h
 rw [hm] at h
 simp only [Bool.not_true,Bool.false_eq_true,if_false] at h
 split at h
 ·cases h
 ·rename_i c; simpa using c
structure NumG (p:zaj):Prop where
 sym:∀s∈p.zSy,I64 s.Size/\∀v∈s.Init,I64 v
 ins:∀t∈p.zTh,∀x∈t.Ins,I64 x.A.N/\I64 x.B.N
theorem zkq:∀(l:List zam) (L:List ByteArray),zs2 L l->∀s∈l,zdy s.Name=true
 | [],_,_,s,h=>by cases h
 | y::l,L,g,s,h=>by
  rcases List.mem_cons.1 h with rfl | h
  ·exact g.1
  ·exact zkq l _ g.2.2.2.2.2 s h
theorem zno:∀(l:List ByteArray) (L:List ByteArray),zs3 L l->∀s∈l,zdy s=true
 | [],_,_,s,h=>by cases h
 | y::l,L,g,s,h=>by
  rcases List.mem_cons.1 h with rfl | h
  ·exact g.1
  ·exact zno l _ g.2.2 s h
theorem zi1(p:zaj):∀(l:List zae) (L:List ByteArray),zs4 p L l->∀x∈l,InsG x p.zSy.length/\∀s∈x.zLb,zdy s=true
 | [],_,_,s,h=>by cases h
 | y::l,L,g,x,h=>by
  rcases List.mem_cons.1 h with rfl | h
  ·exact ⟨⟨g.2.1,zlz g.2.2.1,zlz g.2.2.2.1⟩,zno _ _ g.1⟩
  ·exact zi1 p l _ g.2.2.2.2 x h
theorem zve{x:zae}(h:insN x=0):kwOk (opT x.Op x.Cond)=true:=by
 obtain ⟨c,o1,o2,_⟩:=zjv h
 unfold zja at c
 have all1:∀s∈zfW,kwOk s=true:=by decide
 unfold opT
 by_cases e:x.Op=11
 ·rw [if_pos (show (x.Op==11)=true by rw [e]; rfl)] at c
  simp only [Bool.and_eq_true,decide_eq_true_eq] at c
  rw [if_pos (by simp [e,c])]
  have hb:InB (x.Cond-1) zfW.length:=⟨by omega,by show (x.Cond-1).toNat<10; omega⟩
  exact all1 _ (List.mem_of_getElem? (zjp hb))
 ·have e':(x.Op==11)=false:=by simpa using e
  rw [if_neg (show ¬(x.Op==11)=true by rw [e']; decide)] at c
  rw [if_neg (by simp [e]),if_pos (by simp [o1,o2]; simpa using c)]
  have key:∀n:Nat,n<14->n≠10->kwOk (rd opsL (n:Int))=true:=by decide
  have:=key (x.Op-1).toNat (by omega) (by omega)
  rwa [show (((x.Op-1).toNat:Nat):Int)=x.Op-1 by omega] at this
theorem zqE{r:Int}(h:0<=r)(h2:r<=7):kwOk (regT r)=true:=by
 have key:∀n:Nat,n<8->kwOk (regT (n:Int))=true:=by decide
 have:=key r.toNat (by omega)
 rwa [show ((r.toNat:Nat):Int)=r by omega] at this
end Go.Vs
end
section
namespace Go.Vs
local instance tabPalLx7:Tab:=⟨fun _=>none⟩
theorem zqv(o:zap)(syms:List ByteArray):sep (opdI o syms)=true:=by
 unfold opdI
 split
 ·rfl
 split
 ·rfl
 split <;> rfl
theorem zoI(x:zae)(syms:List ByteArray):sep (znI x syms)=true:=by
 unfold znI
 split
 ·rfl
 split
 ·rfl
 ·have h1:sep (spI::opdI x.B syms)=true:=zf6 [] spI _ rfl rfl (zqv _ _)
  have h2:sep (opdI x.A syms++sgI 44::(spI::opdI x.B syms))=true:=zf6 _ (sgI 44) _ rfl (zqv _ _) h1
  have h3:=zf6 [kwI (opT x.Op x.Cond)] spI _ rfl rfl h2
  simpa using h3
theorem zvp(x:zae)(syms:List ByteArray):Ln (insI x syms):=by
 have hb:sep (zng x.Lock++znI x syms)=true:=by
  unfold zng
  cases x.Lock
  ·exact zoI x syms
  ·exact zf6 [kwI zq9] spI _ rfl rfl (zoI x syms)
 have h2:sep (tbI::(zng x.Lock++znI x syms))=true:=zf6 [] tbI _ rfl rfl hb
 have:=zo3 _ nlI rfl h2
 unfold insI
 simpa using this
theorem zvn(s:zam):Ln (symI s):=by
 have hi:∀(l:List Int),sep (l.flatMap zmo)=true:=by
  intro l
  induction l with
  | nil=>rfl
  | cons v l ih =>
   rw [List.flatMap_cons]
   unfold zmo at ih ⊢
   cases l with
   | nil=>rfl
   | cons w l=>exact zf6 [] spI _ rfl rfl (zf6 [nuI v] spI _ rfl rfl (by
     rw [List.flatMap_cons] at ih
     have:=ih
     simp only [List.cons_append,List.nil_append] at this ⊢
     unfold sep at this
     simp only [Bool.and_eq_true] at this
     exact this.2))
 have h1:sep ([kwI zr7,spI,nmI s.Name,spI,nuI s.Size]++s.Init.flatMap zmo)=true:=by
  cases hs:s.Init with
  | nil=>rfl
  | cons v l =>
   have:=hi (v::l)
   rw [List.flatMap_cons] at this ⊢
   unfold zmo at this ⊢
   simp only [List.cons_append,List.nil_append] at this
   have h2:sep (nuI v::l.flatMap fun v=>[spI,nuI v])=true:=by
    unfold sep at this
    simp only [Bool.and_eq_true] at this
    exact this.2
   exact zf6 [kwI zr7,spI,nmI s.Name,spI,nuI s.Size] spI _ rfl rfl h2
 exact zo3 _ nlI rfl h1
theorem zvo(s:ByteArray):Ln (labI s):=zo3 [nmI s,sgI 58] nlI rfl rfl
theorem zyw(syms:List ByteArray)(t:zad):Ln (thI syms t) :=
 zra (zo3 [kwI ztA] nlI rfl rfl) (zkG _ _ fun x _=>zra (zkG _ _ fun s _=>zvo s) (zvp x syms))
theorem zr9(p:zaj):sep (zkC p)=true:=(zra (zkG _ _ fun s _=>zvn s) (zkG _ _ fun t _=>zyw _ t)).1
theorem zpK{o:zap}(h:opdB o=true):(o.Kind=1/\0<=o.Reg/\o.Reg<=7/\o.Sym=0/\o.N=0)\/(o.Kind=2/\o.Reg=0/\o.Sym=0)\/(o.Kind=3/\0<=o.Sym/\0<=o.N/\o.Reg=0)\/(o.Kind=4/\0<=o.Sym/\0<=o.Reg/\o.Reg<=7/\o.N=0):=by
 unfold opdB at h
 split at h
 ·rename_i k; simp at h k; exact .inl ⟨k,by omega,by omega,by omega,by omega⟩
 split at h
 ·rename_i k; simp at h k; exact .inr (.inl ⟨k,by omega,by omega⟩)
 split at h
 ·rename_i k; simp at h k; exact .inr (.inr (.inl ⟨k,by omega,by omega,by omega⟩))
 split at h
 ·rename_i k; simp at h k; exact .inr (.inr (.inr ⟨k,by omega,by omega,by omega,by omega⟩))
 ·cases h
theorem zmK{p:zaj}(hc:ChkG p){k:Int}(h0:0<=k)(h:k<(p.zSy.length:Int)):zdy (rd (zc3 p) k)=true:=by
 have hb:InB k (zc3 p).length:=⟨h0,by unfold zc3; rw [List.length_map]; omega⟩
 have:=List.mem_of_getElem? (zjp hb)
 unfold zc3 at this
 obtain ⟨s,hs,e⟩:=List.mem_map.1 this
 unfold zc3
 rw [← e]
 exact zkq _ _ hc.syms s hs
theorem zqY{p:zaj}(hc:ChkG p){o:zap}(h:opdB o=true)(hm:memB o=true->o.Sym<(p.zSy.length:Int))(hn:I64 o.N):∀a∈opdI o (zc3 p),ItOk a:=by
 intro a ha
 unfold opdI at ha
 rcases zpK h with ⟨k,r0,r1,_⟩ | ⟨k,_⟩ | ⟨k,s0,_⟩ | ⟨k,s0,r0,r1,_⟩
 ·rw [if_pos (by rw [k]; rfl)] at ha
  rw [List.mem_singleton.1 ha]
  exact zlH (zqE r0 r1)
 ·rw [if_neg (by rw [k]; decide),if_pos (by rw [k]; rfl)] at ha
  rw [List.mem_singleton.1 ha]
  exact zoW hn
 ·rw [if_neg (by rw [k]; decide),if_neg (by rw [k]; decide),if_pos (by rw [k]; rfl)] at ha
  have hr:=zmK hc s0 (hm (by unfold memB; rw [k]; rfl))
  simp only [List.mem_cons,List.mem_nil_iff,or_false] at ha
  rcases ha with rfl | rfl | rfl | rfl
  ·exact znb hr
  ·exact zls (by decide)
  ·exact zoW hn
  ·exact zls (by decide)
 ·rw [if_neg (by rw [k]; decide),if_neg (by rw [k]; decide),if_neg (by rw [k]; decide)] at ha
  have hr:=zmK hc s0 (hm (by unfold memB; rw [k]; rfl))
  simp only [List.mem_cons,List.mem_nil_iff,or_false] at ha
  rcases ha with rfl | rfl | rfl | rfl
  ·exact znb hr
  ·exact zls (by decide)
  ·exact zlH (zqE r0 r1)
  ·exact zls (by decide)
theorem zud{p:zaj}(hc:ChkG p){x:zae}(h:InsG x p.zSy.length)(ha:I64 x.A.N)(hb:I64 x.B.N):∀a∈insI x (zc3 p),ItOk a:=by
 obtain ⟨_,o1,o2,hr,hto,_⟩:=zjv h.z
 have hk:=zlH (zve h.z)
 intro a hm
 unfold insI at hm
 rcases List.mem_cons.1 hm with rfl | hm
 ·exact zu2
 rcases List.mem_append.1 hm with hm | hm
 ·unfold zng at hm
  split at hm
  ·simp only [List.mem_cons,List.mem_nil_iff,or_false] at hm
   rcases hm with rfl | rfl
   ·exact zlH (by decide)
   ·exact zks
  ·cases hm
 rcases List.mem_append.1 hm with hm | hm
 ·unfold znI at hm
  split at hm
  ·rename_i hj
   simp only [List.mem_cons,List.mem_nil_iff,or_false] at hm
   rcases hm with rfl | rfl | rfl
   ·exact hk
   ·exact zks
   ·exact znb (hto hj)
  split at hm
  ·rw [List.mem_singleton.1 hm]; exact hk
  ·rename_i h9
   obtain ⟨ga,gb⟩:=zmR hr o1 (by simp at h9; omega)
   simp only [List.mem_append,List.mem_cons,List.mem_nil_iff,or_false] at hm
   rcases hm with (((rfl | rfl) | hm) | rfl | rfl) | hm
   ·exact hk
   ·exact zks
   ·exact zqY hc ga h.a ha a hm
   ·exact zls (by decide)
   ·exact zks
   ·exact zqY hc gb h.b hb a hm
 ·rw [List.mem_singleton.1 hm]; exact zoX
theorem zoS{p:zaj}(hc:ChkG p)(hn:NumG p):∀a∈zkC p,ItOk a:=by
 intro a ha
 unfold zkC at ha
 rcases List.mem_append.1 ha with ha | ha
 ·obtain ⟨s,hs,ha⟩:=List.mem_flatMap.1 ha
  unfold symI at ha
  simp only [List.mem_append,List.mem_cons,List.mem_nil_iff,or_false] at ha
  rcases ha with ((rfl | rfl | rfl | rfl | rfl) | ha) | rfl
  ·exact zlH (by decide)
  ·exact zks
  ·exact znb (zkq _ _ hc.syms s hs)
  ·exact zks
  ·exact zoW (hn.sym s hs).1
  ·obtain ⟨v,hv,ha⟩:=List.mem_flatMap.1 ha
   unfold zmo at ha
   simp only [List.mem_cons,List.mem_nil_iff,or_false] at ha
   rcases ha with rfl | rfl
   ·exact zks
   ·exact zoW ((hn.sym s hs).2 v hv)
  ·exact zoX
 ·obtain ⟨t,ht,ha⟩:=List.mem_flatMap.1 ha
  unfold thI at ha
  simp only [List.mem_append,List.mem_cons,List.mem_nil_iff,or_false] at ha
  rcases ha with (rfl | rfl) | ha
  ·exact zlH (by decide)
  ·exact zoX
  ·obtain ⟨x,hx,ha⟩:=List.mem_flatMap.1 ha
   obtain ⟨g1,g2⟩:=zi1 p _ _ (hc.th t ht).ins x hx
   obtain ⟨n1,n2⟩:=hn.ins t ht x hx
   unfold zrd at ha
   rcases List.mem_append.1 ha with ha | ha
   ·obtain ⟨s,hs,ha⟩:=List.mem_flatMap.1 ha
    unfold labI at ha
    simp only [List.mem_cons,List.mem_nil_iff,or_false] at ha
    rcases ha with rfl | rfl | rfl
    ·exact znb (g2 s hs)
    ·exact zls (by decide)
    ·exact zoX
   ·exact zud hc g1 n1 n2 a ha
abbrev KT:=Int × ByteArray
def tkB(l:List It):List KT:=(toks l).map ka
theorem znT{p:zaj}(hk:zhs p=0)(hn:NumG p):(zaQ (zgO p)).2=⟨0,0,0⟩/\(zaQ (zgO p)).1.map kt=tkB (zkC p)++[(4,⟨#[]⟩)]:=by
 have hc:=zrI hk
 rw [zoH p hk fun t ht x hx=>(zi1 p _ _ (hc.th t ht).ins x hx).1]
 have h1:=zoS hc hn
 refine zql (T:=zjU (zkC p)) ?_ (zo2 _ h1 (zr9 p))
 intro x hx
 unfold zjU at hx
 obtain ⟨a,ha,hx⟩:=List.mem_flatMap.1 hx
 exact (h1 a ha).1 x hx
end Go.Vs
end
