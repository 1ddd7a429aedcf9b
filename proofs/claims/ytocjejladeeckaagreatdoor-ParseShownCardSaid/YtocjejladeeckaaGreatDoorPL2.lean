import Derived.Test.YtocjejladeeckaaGreatDoorPL1
import Derived.Test.YtocjejladeeckaaGreatDoorPS1
import Derived.Test.YtocjejladeeckaaGreatDoorPS0
import Derived.Test.YtocjejladeeckaaGreatDoorPP4
set_option linter.all false
section
namespace Go.Vs
local instance tabPalLx5:Tab:=⟨fun _=>none⟩
abbrev It:=Int × List Rn
def zjq(l:List It):List Rn:=l.flatMap (·.2)
def toks(l:List It):List It:=l.filter (fun a=>a.1 != 0)
def itB(l:List It):ByteArray:=bs (flat (zjq l))
def ItOk(a:It):Prop:=(∀x∈a.2,Dec x)/\((a.1=0/\∃x,a.2=[x]/\x.bad=false/\zeB x.r=true)\/(a.1≠0/\∃x w,a.2=x::w/\Tk a.1 x w))
def wk2(k:Int):Bool:=(k==1)||(k==2)
def sep:List It->Bool
 | []=>true
 | a::r=>(!wk2 a.1||(match r with | []=>true | b::_=>!wk2 b.1))&&sep r
theorem ziR(a:It)(l:List It):zjq (a::l)=a.2++zjq l:=by simp [zjq]
theorem zp2(a b:List It):zjq (a++b)=zjq a++zjq b:=by simp [zjq]
theorem zrD(a b:List It):toks (a++b)=toks a++toks b:=by simp [toks]
theorem zfX(a b:List It):itB (a++b)=itB a++itB b:=by unfold itB; rw [zp2,ze6,znl]
theorem zea:itB []=⟨#[]⟩:=rfl
theorem zdG(a:It)(l:List It):itB (a::l)=bs (flat a.2)++itB l:=by unfold itB; rw [ziR,ze6,znl]
theorem zox:∀l:List It,(∀a∈l,ItOk a)->sep l=true->Lx (zjq l) (toks l)
 | [],_,_=>Lx.nil
 | a::l,h,hs=>by
  unfold sep at hs
  simp only [Bool.and_eq_true] at hs
  have ih:=zox l (fun b hb=>h b (by simp [hb])) hs.2
  obtain ⟨_,h1⟩:=h a (by simp)
  rw [ziR]
  rcases h1 with ⟨k0,x,e,b1,b2⟩ | ⟨k0,x,w,e,ht⟩
  ·have:toks (a::l)=toks l:=by simp [toks,k0]
   rw [this,e]
   exact .blank b1 b2 ih
  ·have:toks (a::l)=(a.1,x::w)::toks l:=by
    have:(a.1 != 0)=true:=by simp [k0]
    simp only [toks,List.filter_cons,this,if_true]
    rw [← e]
   rw [this,e]
   refine .tok ht ?_ ih
   intro hk y hy
   have hw:wk2 a.1=true:=by unfold wk2; rcases hk with hk | hk <;> rw [hk] <;> rfl
   rw [hw] at hs
   cases l with
   | nil=>simp [zjq] at hy
   | cons b r =>
    obtain ⟨_,hb⟩:=h b (by simp)
    have hnb:wk2 b.1=false:=by simpa using hs.1
    rw [ziR] at hy
    rcases hb with ⟨_,z,e2,c1,c2⟩ | ⟨_,z,w2,e2,t0,t1,t2,t3⟩
    ·rw [e2] at hy
     simp at hy; subst hy
     exact zhM c2
    ·rw [e2] at hy
     simp at hy; subst hy
     unfold wk2 at hnb
     simp only [Bool.or_eq_false_iff,beq_eq_false_iff_ne] at hnb
     rcases t3 with ⟨_,q,_⟩ | ⟨_,_,q,_⟩ | ⟨q,_⟩ | ⟨q,_⟩
     ·unfold Rn.word; rw [q]; cases z.bad <;> rfl
     ·unfold zhw at q
      simp only [Bool.or_eq_true,beq_iff_eq] at q
      rcases q with ((q | q) | q) | q <;> (unfold Rn.word; rw [q]; cases z.bad <;> rfl)
     ·exact absurd q hnb.1
     ·exact absurd q hnb.2
theorem zfg:∀(l:List It) (a:It) (m:List It),wk2 a.1=false->sep l=true->sep m=true->sep (l++a::m)=true
 | [],a,m,h,_,hm=>by simp [sep,h,hm]
 | b::l,a,m,h,hl,hm=>by
  unfold sep at hl
  simp only [Bool.and_eq_true] at hl
  have ih:=zfg l a m h hl.2 hm
  rw [List.cons_append]
  unfold sep
  simp only [Bool.and_eq_true]
  refine ⟨?_,ih⟩
  cases l with
  | nil=>simp [h]
  | cons c l=>exact hl.1
def Ln(l:List It):Prop:=sep l=true/\∀m,sep m=true->sep (l++m)=true
theorem zoy(l:List It)(a:It)(h:wk2 a.1=false)(hl:sep l=true):Ln (l++[a]) :=
 ⟨zfg l a [] h hl rfl,fun m hm=>by rw [List.append_assoc]; exact zfg l a m h hl hm⟩
theorem zkg{α:Type}(f:α->List It):∀(l:List α),(∀x∈l,Ln (f x))->Ln (l.flatMap f)
 | [],_=>⟨rfl,fun m h=>h⟩
 | x::l,h=>by
  have h1:=h x (by simp)
  have h2:=zkg f l fun y hy=>h y (by simp [hy])
  rw [List.flatMap_cons]
  exact ⟨h1.2 _ h2.1,fun m hm=>by rw [List.append_assoc]; exact h1.2 _ (h2.2 m hm)⟩
theorem zqI{a b:List It}(h1:Ln a)(h2:Ln b):Ln (a++b):=⟨h1.2 _ h2.1,fun m hm=>by rw [List.append_assoc]; exact h1.2 _ (h2.2 m hm)⟩
def spI:It:=(0,[asc 32])
def tbI:It:=(0,[asc 9])
def nlI:It:=(4,[asc 10])
def sgI(b:UInt8):It:=(3,[asc b])
def nmI(s:ByteArray):It:=(1,rns s)
def kwI(s:ByteArray):It:=(1,ascs s)
def nuI(v:Int):It:=(2,ascs (zd2 v))
theorem zs3{k:Int}{s:ByteArray}{l:List Rn}(hk:k≠0)(h:Wd k s l):ItOk (k,l):=⟨h.dec,.inr ⟨hk,h.tk⟩⟩
theorem zjX:ItOk spI:=⟨fun x hx=>by rw [List.mem_singleton.1 hx]; exact zi9 (by decide),.inl ⟨rfl,_,rfl,rfl,rfl⟩⟩
theorem zuK:ItOk tbI:=⟨fun x hx=>by rw [List.mem_singleton.1 hx]; exact zi9 (by decide),.inl ⟨rfl,_,rfl,rfl,rfl⟩⟩
theorem zos:ItOk nlI:=⟨fun x hx=>by rw [List.mem_singleton.1 hx]; exact zi9 (by decide),.inr ⟨by decide,_,_,rfl,rfl,rfl,by decide,.inl ⟨rfl,rfl,rfl⟩⟩⟩
theorem zla{b:UInt8}(h:b=44\/b=91\/b=93\/b=58):ItOk (sgI b):=by
 have:b.toNat<128:=by rcases h with rfl | rfl | rfl | rfl <;> decide
 refine ⟨fun x hx=>by rw [List.mem_singleton.1 hx]; exact zi9 this,.inr ⟨show (3:Int)≠0 by decide,_,_,rfl,rfl,?_,?_,.inr (.inl ⟨rfl,?_,?_,rfl⟩)⟩⟩ <;> rcases h with rfl | rfl | rfl | rfl <;> decide
theorem zmN{s:ByteArray}(h:zbp s=true):ItOk (nmI s):=zs3 (by decide) (zol h)
theorem zll{s:ByteArray}(h:kwOk s=true):ItOk (kwI s):=zs3 (by decide) (zyS h)
theorem zor{v:Int}(h:I64 v):ItOk (nuI v):=zs3 (by decide) (zu2 h)
theorem zpo(s:ByteArray):bs (flat (nmI s).2)=s:=by show bs (flat (rns s))=s; rw [zjD,zk0]
theorem zl0(s:ByteArray):bs (flat (kwI s).2)=s:=by show bs (flat (ascs s))=s; rw [zhd,zk0]
theorem zqB(v:Int):bs (flat (nuI v).2)=zd2 v:=by show bs (flat (ascs _))=_; rw [zhd,zk0]
def zrG:ByteArray:=⟨#[115,121,109]⟩
def zs6:ByteArray:=⟨#[116,104,114,101,97,100]⟩
def zqH:ByteArray:=⟨#[108,111,99,107]⟩
def zi4(v:Int):List It:=[spI,nuI v]
def symI(s:zan):List It:=[kwI zrG,spI,nmI s.Name,spI,nuI s.Size]++s.Init.flatMap zi4++[nlI]
def labI(s:ByteArray):List It:=[nmI s,sgI 58,nlI]
def opdI(o:zak)(syms:List ByteArray):List It :=
 if o.Kind==1 then [kwI (regT o.Reg)] else if o.Kind==2 then [nuI o.N]
 else if o.Kind==3 then [nmI (rd syms o.Sym),sgI 91,nuI o.N,sgI 93] else [nmI (rd syms o.Sym),sgI 91,kwI (regT o.Reg),sgI 93]
def zlU(b:Bool):List It:=if b then [kwI zqH,spI] else []
def zjw(x:zad)(syms:List ByteArray):List It :=
 if zdP x then [kwI (opT x.Op x.Cond),spI,nmI x.To] else if decide (x.Op>9) then [kwI (opT x.Op x.Cond)]
 else [kwI (opT x.Op x.Cond),spI]++opdI x.A syms++[sgI 44,spI]++opdI x.B syms
def insI(x:zad)(syms:List ByteArray):List It:=tbI::(zlU x.Lock++(zjw x syms++[nlI]))
def znN(syms:List ByteArray)(x:zad):List It:=x.zLb.flatMap labI++insI x syms
def thI(syms:List ByteArray)(t:zae):List It:=[kwI zs6,nlI]++t.Ins.flatMap (znN syms)
def zlO(p:zaf):List It:=p.zSy.flatMap symI++p.zTh.flatMap (thI (zaY p))
theorem zgm{α:Type}(g:ByteArray->α->ByteArray)(f:α->List It):∀(l:List α),(∀x∈l,∀a,g a x=a++itB (f x))->∀a,l.foldl g a=a++itB (l.flatMap f)
 | [],_,a=>by rw [List.flatMap_nil,zea]; apply bext; simp
 | x::l,h,a=>by
  rw [List.foldl_cons,zgm g f l (fun y hy=>h y (by simp [hy])),h x (by simp),List.flatMap_cons,zfX,ByteArray.append_assoc]
theorem zsb(v:Int)(a:ByteArray):zjt a v=a++itB (zi4 v):=by
 unfold zjt zi4
 rw [zdG,zdG,zea,zqB]
 congr 1
 apply bext; simp [spI,asc,flat,bs]
theorem zs8(s:zan)(a:ByteArray):symT a s=a++itB (symI s):=by
 unfold symT symI zfQ
 rw [zgm zjt zi4 s.Init (fun v _ a=>zsb v a),zfX,zfX]
 simp only [zdG,zpo,zqB,zl0,zea]
 apply bext; simp [spI,nlI,asc,flat,bs,zrG]
theorem ztA(s:ByteArray)(a:ByteArray):labT a s=a++itB (labI s):=by
 unfold labT labI
 simp only [zdG,zpo,zea]
 congr 1
theorem zqv(o:zak)(syms:List ByteArray)(h:opdB o=true)(hm:memB o=true->o.Sym<(syms.length:Int)):opdT o syms=itB (opdI o syms):=by
 unfold opdT opdI
 rw [h]
 unfold opdB at h
 unfold memB at hm
 by_cases k1:(o.Kind==1)=true
 ·rw [if_pos k1,if_pos k1]; rw [zdG,zl0,zea]; simp only [Bool.not_true,Bool.false_eq_true,if_false]; apply bext; simp
 rw [if_neg k1,if_neg k1]
 by_cases k2:(o.Kind==2)=true
 ·rw [if_pos k2,if_pos k2]; rw [zdG,zqB,zea]; simp only [Bool.not_true,Bool.false_eq_true,if_false]; apply bext; simp
 rw [if_neg k2,if_neg k2]
 rw [if_neg k1,if_neg k2] at h
 have hs:o.Sym<(syms.length:Int):=by
  apply hm
  by_cases k3:(o.Kind==3)=true
  ·rw [k3]; rfl
  ·rw [if_neg k3] at h
   by_cases k4:(o.Kind==4)=true
   ·rw [k4]; simp
   ·rw [if_neg k4] at h; cases h
 rw [if_neg (show ¬(decide (o.Sym≥(syms.length:Int)))=true by simp; omega)]
 by_cases k3:(o.Kind==3)=true
 ·rw [if_pos k3,if_pos k3]
  simp only [zdG,zpo,zqB,zea]
  apply bext; simp [sgI,asc,flat,bs]
 ·rw [if_neg k3,if_neg k3]
  simp only [zdG,zpo,zl0,zea]
  apply bext; simp [sgI,asc,flat,bs]
structure InsG (x:zad) (n:Nat):Prop where
 z:insN x=0
 a:memB x.A=true->x.A.Sym<(n:Int)
 b:memB x.B=true->x.B.Sym<(n:Int)
theorem zdS{x:zad}(h:insN x=0):ziH x=true/\1<=x.Op/\x.Op<=14/\rowB x=true/\(zdP x=true->zbp x.To=true)/\(zdP x=false->x.To=⟨#[]⟩):=by
 unfold insN zju at h
 split at h
 ·rename_i h1
  simp only [Bool.and_eq_true,Bool.or_eq_true,decide_eq_true_eq] at h1
  refine ⟨h1.1.1,h1.1.2.1.1,h1.1.2.1.2,h1.1.2.2,fun hj=>?_,fun hj=>?_⟩
  ·rw [hj] at h
   cases hr:zbp x.To with
   | true=>rfl
   | false=>rw [hr] at h; simp at h
  ·rcases h1.2 with h2 | h2
   ·rw [hj] at h2; cases h2
   ·exact h2
 ·cases h
theorem zj5{x:zad}(h:rowB x=true)(h1:1<=x.Op)(h9:x.Op<=9):opdB x.A=true/\opdB x.B=true:=by
 unfold rowB at h
 rw [if_neg (by simp; omega)] at h
 split at h
 ·cases h
 ·rename_i hn
  simp only [Bool.or_eq_true,Bool.not_eq_true',not_or,Bool.not_eq_false] at hn
  exact hn
theorem ztD(x:zad)(syms:List ByteArray)(h:InsG x syms.length):insT x syms=itB (zlU x.Lock++zjw x syms):=by
 obtain ⟨_,o1,o2,hr,_,_⟩:=zdS h.z
 have hz:(insN x != 0)=false:=by rw [h.z]; rfl
 have hS:(if x.Lock then (⟨#[108,111,99,107,32]⟩:ByteArray)++opT x.Op x.Cond else opT x.Op x.Cond)=itB (zlU x.Lock)++opT x.Op x.Cond:=by
  unfold zlU
  cases x.Lock
  ·simp only [Bool.false_eq_true,if_false,zea]; apply bext; simp
  ·simp only [if_true,zdG,zl0,zea]; apply bext; simp [zqH,spI,asc,flat,bs]
 unfold insT
 rw [hz]
 simp only [Bool.false_eq_true,if_false]
 rw [hS,zfX]
 unfold zjw
 by_cases hj:zdP x=true
 ·rw [if_pos hj,if_pos hj]
  simp only [zdG,zpo,zl0,zea]
  apply bext; simp [spI,asc,flat,bs]
 rw [if_neg hj,if_neg hj]
 by_cases h9:decide (x.Op>9)=true
 ·rw [if_pos h9,if_pos h9]
  simp only [zdG,zl0,zea]
  apply bext; simp
 rw [if_neg h9,if_neg h9]
 obtain ⟨ga,gb⟩:=zj5 hr o1 (by simp at h9; omega)
 have hm:((memB x.A&&decide (x.A.Sym≥(syms.length:Int)))||(memB x.B&&decide (x.B.Sym≥(syms.length:Int))))=false:=by
  have h1:=h.a
  have h2:=h.b
  cases ha:memB x.A <;> cases hb:memB x.B <;> simp [ha,hb] at h1 h2 ⊢ <;> omega
 rw [hm]
 simp only [Bool.false_eq_true,if_false]
 rw [zqv x.A syms ga h.a,zqv x.B syms gb h.b,zfX,zfX,zfX]
 simp only [zdG,zl0,zea]
 apply bext; simp [spI,sgI,asc,flat,bs]
theorem zr2(syms:List ByteArray)(x:zad)(h:InsG x syms.length)(a:ByteArray):zkh syms a x=a++itB (znN syms x):=by
 unfold zkh znN insI
 rw [zgm labT labI x.zLb (fun s _ a=>ztA s a),ztD x syms h]
 simp only [zfX,zdG,zea]
 apply bext; simp [tbI,nlI,asc,flat,bs]
theorem zuH(syms:List ByteArray)(t:zae)(h:∀x∈t.Ins,InsG x syms.length)(a:ByteArray):thT syms a t=a++itB (thI syms t):=by
 unfold thT thI
 rw [zgm (zkh syms) (znN syms) t.Ins (fun x hx a=>zr2 syms x (h x hx) a),zfX]
 simp only [zdG,zl0,zea]
 apply bext; simp [zs6,nlI,asc,flat,bs]
theorem zrH(p:zaf)(hc:zgJ p=0)(h:∀t∈p.zTh,∀x∈t.Ins,InsG x p.zSy.length):zjY p=itB (zlO p):=by
 unfold zjY zlO
 have b:(zgJ p != 0)=false:=by rw [hc]; rfl
 rw [b]
 simp only [Bool.false_eq_true,if_false]
 have hl:(zaY p).length=p.zSy.length:=by simp [zaY]
 rw [zgm symT symI p.zSy (fun s _ a=>zs8 s a),zgm (thT (zaY p)) (thI (zaY p)) p.zTh (fun t ht a=>zuH _ t (by rw [hl]; exact h t ht) a),zfX]
 apply bext; simp
end Go.Vs
end
section
namespace Go.Vs
local instance tabPalLx6:Tab:=⟨fun _=>none⟩
def zk1:List ByteArray->List zan->Prop
 | _,[]=>True
 | L,s::l=>zbp s.Name=true/\has L s.Name=false/\1<=s.Size/\s.Size<=64/\(s.Init.length:Int)<=s.Size/\zk1 (L++[s.Name]) l
theorem zlI:∀(l:List zan) (i:Nat) (L:List ByteArray) (r:Unit ⊕ Int),zaM symF (fun _=>(.inl ():Unit ⊕ Int)) i L l=r->(r=.inl ()\/r=.inr 0)->zk1 L l/\r=.inl ()
 | [],i,L,r,h,h0=>⟨trivial,by rw [← h]; rfl⟩
 | s::l,i,L,r,h,h0=>by
  unfold zaM at h
  unfold symF at h
  by_cases c1:(!zbp s.Name)=true
  ·rw [if_pos c1] at h; simp only at h; rcases h0 with h0 | h0 <;> rw [h0] at h <;> cases h
  rw [if_neg c1] at h
  by_cases c2:has L s.Name=true
  ·rw [if_pos c2] at h; simp only at h; rcases h0 with h0 | h0 <;> rw [h0] at h <;> cases h
  rw [if_neg c2] at h
  by_cases c3:((decide (s.Size<1)||decide (s.Size>64))||decide ((s.Init.length:Int)>s.Size))=true
  ·rw [if_pos c3] at h; simp only at h; rcases h0 with h0 | h0 <;> rw [h0] at h <;> cases h
  rw [if_neg c3] at h
  simp only at h
  obtain ⟨a,b⟩:=zlI l (i+1) _ r h h0
  simp only [Bool.or_eq_true,decide_eq_true_eq,not_or,Int.not_lt,Int.not_gt_eq] at c3
  exact ⟨⟨by simpa using c1,by simpa using c2,by omega,by omega,by omega,a⟩,b⟩
def zja:List ByteArray->List ByteArray->Prop
 | _,[]=>True
 | L,s::l=>zbp s=true/\has L s=false/\zja (L++[s]) l
theorem zoE:∀(l:List ByteArray) (i:Nat) (L L':List ByteArray),zaM labF (.inl:List ByteArray->List ByteArray ⊕ Int) i L l=.inl L'->zja L l/\L'=L++l
 | [],i,L,L',h=>⟨trivial,by simp only [zaM] at h; cases h; simp⟩
 | s::l,i,L,L',h=>by
  unfold zaM at h
  unfold labF at h
  by_cases c1:(!zbp s)=true
  ·rw [if_pos c1] at h; cases h
  rw [if_neg c1] at h
  by_cases c2:has L s=true
  ·rw [if_pos c2] at h; cases h
  rw [if_neg c2] at h
  obtain ⟨a,b⟩:=zoE l (i+1) _ L' h
  exact ⟨⟨by simpa using c1,by simpa using c2,a⟩,by rw [b]; simp⟩
def ziN(p:zaf):List ByteArray->List zad->Prop
 | _,[]=>True
 | L,x::l=>zja L x.zLb/\insN x=0/\zcD p x.A=0/\zcD p x.B=0/\ziN p (L++x.zLb) l
theorem zoI(p:zaf):∀(l:List zad) (i:Nat) (L L':List ByteArray),zaM (insF p) (Sum.inl:List ByteArray->List ByteArray ⊕ Int) i L l=.inl L'->ziN p L l/\L'=L++l.flatMap (·.zLb)
 | [],i,L,L',h=>⟨trivial,by simp only [zaM] at h; cases h; simp⟩
 | x::l,i,L,L',h=>by
  unfold zaM at h
  unfold insF at h
  cases hl:znO L x.zLb with
  | inr e=>rw [hl] at h; cases h
  | inl L1 =>
   rw [hl] at h
   obtain ⟨a,rfl⟩:=zoE x.zLb 0 L L1 hl
   simp only at h
   by_cases c1:(insN x != 0)=true
   ·rw [if_pos c1] at h; cases h
   rw [if_neg c1] at h
   by_cases c2:(zcD p x.A != 0)=true
   ·rw [if_pos c2] at h; cases h
   rw [if_neg c2] at h
   by_cases c3:(zcD p x.B != 0)=true
   ·rw [if_pos c3] at h; cases h
   rw [if_neg c3] at h
   obtain ⟨b,c⟩:=zoI p l (i+1) _ L' h
   exact ⟨⟨a,by simpa using c1,by simpa using c2,by simpa using c3,b⟩,by rw [c]; simp⟩
theorem zm7(p:zaf):∀(l:List zad) (i:Nat) (L:List ByteArray) (e:Int),zaM (insF p) (Sum.inl:List ByteArray->List ByteArray ⊕ Int) i L l=.inr e->e≠0
 | [],i,L,e,h=>by simp only [zaM] at h; cases h
 | x::l,i,L,e,h=>by
  unfold zaM at h
  unfold insF at h
  cases hl:znO L x.zLb with
  | inr e' =>
   rw [hl] at h
   simp only at h
   injection h with h
   subst h
   have:∀(l:List ByteArray) (i:Nat) (L:List ByteArray) (e:Int),zaM labF (.inl:List ByteArray->List ByteArray ⊕ Int) i L l=.inr e->e≠0:=by
    intro l
    induction l with
    | nil=>intro i L e h; simp only [zaM] at h; cases h
    | cons s l ih =>
     intro i L e h
     unfold zaM at h
     unfold labF at h
     by_cases c1:(!zbp s)=true
     ·rw [if_pos c1] at h; simp only at h; injection h with h; omega
     rw [if_neg c1] at h
     by_cases c2:has L s=true
     ·rw [if_pos c2] at h; simp only at h; injection h with h; omega
     rw [if_neg c2] at h
     exact ih _ _ _ h
   exact this _ _ _ _ hl
  | inl L1 =>
   rw [hl] at h
   simp only at h
   by_cases c1:(insN x != 0)=true
   ·rw [if_pos c1] at h; simp only at h; injection h with h; subst h; simpa using c1
   rw [if_neg c1] at h
   by_cases c2:(zcD p x.A != 0)=true
   ·rw [if_pos c2] at h; simp only at h; injection h with h; subst h; simpa using c2
   rw [if_neg c2] at h
   by_cases c3:(zcD p x.B != 0)=true
   ·rw [if_pos c3] at h; simp only at h; injection h with h; subst h; simpa using c3
   rw [if_neg c3] at h
   exact zm7 p l _ _ e h
structure ThG (p:zaf) (t:zae):Prop where
 n:zlx t<=4096
 ins:ziN p [] t.Ins
 ne:t.Ins≠[]
 last:zfM t=10\/zfM t=14
 to:∀x∈t.Ins,zdP x=true->has (t.Ins.flatMap (·.zLb)) x.To=true
theorem zuJ{p:zaf}{t:zae}(h:zfd p t=0):ThG p t:=by
 unfold zfd at h
 by_cases c1:decide (zlx t>4096)=true
 ·rw [if_pos c1] at h; cases h
 rw [if_neg c1] at h
 cases hi:zaM (insF p) (Sum.inl:List ByteArray->List ByteArray ⊕ Int) 0 [] t.Ins with
 | inr e=>rw [hi] at h; exact absurd h (zm7 p _ _ _ e hi)
 | inl L =>
  rw [hi] at h
  obtain ⟨a,b⟩:=zoI p _ _ _ _ hi
  simp only at h
  by_cases c2:(((t.Ins.length:Int)==0)||((zfM t != 10)&&(zfM t != 14)))=true
  ·rw [if_pos c2] at h; cases h
  rw [if_neg c2] at h
  simp only [Bool.or_eq_true,beq_iff_eq,Bool.and_eq_true,bne_iff_ne,ne_eq,not_or,not_and,Decidable.not_not] at c2
  refine ⟨by simpa using c1,a,fun e=>c2.1 (by rw [e]; rfl),?_,?_⟩
  ·by_cases q:zfM t=10
   ·exact .inl q
   ·exact .inr (c2.2 q)
  ·have hb:L=t.Ins.flatMap (·.zLb):=by simpa using b
   have key:∀(l:List zad) (i:Nat),(match zaM (zki L) Sum.inl i () l with | .inl ()=>(0:Int) | .inr e=>e)=0->∀x∈l,zdP x=true->has L x.To=true:=by
    intro l
    induction l with
    | nil=>intro i _ x hx; cases hx
    | cons y l ih =>
     intro i h x hx hj
     unfold zaM at h
     unfold zki at h
     by_cases c:(zdP y&&!has L y.To)=true
     ·rw [if_pos c] at h; cases h
     ·rw [if_neg c] at h
      rcases List.mem_cons.1 hx with rfl | hx
      ·rw [hj] at c; simpa using c
      ·exact ih _ h x hx hj
   rw [← hb]
   exact key _ _ h
structure ChkG (p:zaf):Prop where
 ns:p.zSy.length<=64
 nt:p.zTh.length<=64
 syms:zk1 [] p.zSy
 th:∀t∈p.zTh,ThG p t
theorem zri{p:zaf}(h:zgJ p=0):ChkG p:=by
 unfold zgJ at h
 by_cases c1:(decide ((p.zSy.length:Int)>64)||decide ((p.zTh.length:Int)>64))=true
 ·rw [if_pos c1] at h; cases h
 rw [if_neg c1] at h
 simp only [Bool.or_eq_true,decide_eq_true_eq,not_or] at c1
 cases hs:zaM symF (fun _=>(.inl ():Unit ⊕ Int)) 0 [] p.zSy with
 | inr e =>
  rw [hs] at h
  simp only at h
  have:=(zlI _ _ _ _ hs (.inr (by rw [h]))).2
  cases this
 | inl u =>
  rw [hs] at h
  simp only at h
  refine ⟨by omega,by omega,(zlI _ _ _ _ hs (.inl rfl)).1,?_⟩
  have key:∀(l:List zae) (i:Nat),(match zaM (thF p) (Sum.inl:Unit->Unit ⊕ Int) i () l with | .inr e=>e | .inl ()=>(0:Int))=0->∀t∈l,zfd p t=0:=by
   intro l
   induction l with
   | nil=>intro i _ t ht; cases ht
   | cons y l ih =>
    intro i h t ht
    unfold zaM at h
    unfold thF at h
    by_cases c:(zfd p y != 0)=true
    ·rw [if_pos c] at h; simp only at h; simp [h] at c
    ·rw [if_neg c] at h
     rcases List.mem_cons.1 ht with rfl | ht
     ·simpa using c
     ·exact ih _ h t ht
  exact fun t ht=>zuJ (key _ _ h t ht)
theorem zho{p:zaf}{o:zak}(h:zcD p o=0)(hm:memB o=true):o.Sym<(p.zSy.length:Int):=by
 unfold zcD at h
 rw [hm] at h
 simp only [Bool.not_true,Bool.false_eq_true,if_false] at h
 split at h
 ·cases h
 ·rename_i c; simpa using c
structure NumG (p:zaf):Prop where
 sym:∀s∈p.zSy,I64 s.Size/\∀v∈s.Init,I64 v
 ins:∀t∈p.zTh,∀x∈t.Ins,I64 x.A.N/\I64 x.B.N
theorem zfe:∀(l:List zan) (L:List ByteArray),zk1 L l->∀s∈l,zbp s.Name=true
 | [],_,_,s,h=>by cases h
 | y::l,L,g,s,h=>by
  rcases List.mem_cons.1 h with rfl | h
  ·exact g.1
  ·exact zfe l _ g.2.2.2.2.2 s h
theorem zmZ:∀(l:List ByteArray) (L:List ByteArray),zja L l->∀s∈l,zbp s=true
 | [],_,_,s,h=>by cases h
 | y::l,L,g,s,h=>by
  rcases List.mem_cons.1 h with rfl | h
  ·exact g.1
  ·exact zmZ l _ g.2.2 s h
theorem zfs(p:zaf):∀(l:List zad) (L:List ByteArray),ziN p L l->∀x∈l,InsG x p.zSy.length/\∀s∈x.zLb,zbp s=true
 | [],_,_,s,h=>by cases h
 | y::l,L,g,x,h=>by
  rcases List.mem_cons.1 h with rfl | h
  ·exact ⟨⟨g.2.1,zho g.2.2.1,zho g.2.2.2.1⟩,zmZ _ _ g.1⟩
  ·exact zfs p l _ g.2.2.2.2 x h
theorem zu0{x:zad}(h:insN x=0):kwOk (opT x.Op x.Cond)=true:=by
 obtain ⟨c,o1,o2,_⟩:=zdS h
 unfold ziH at c
 have all1:∀s∈zfr,kwOk s=true:=by decide
 unfold opT
 by_cases e:x.Op=11
 ·rw [if_pos (show (x.Op==11)=true by rw [e]; rfl)] at c
  simp only [Bool.and_eq_true,decide_eq_true_eq] at c
  rw [if_pos (by simp [e,c])]
  have hb:InB (x.Cond-1) zfr.length:=⟨by omega,by show (x.Cond-1).toNat<10; omega⟩
  exact all1 _ (List.mem_of_getElem? (zhT hb))
 ·have e':(x.Op==11)=false:=by simpa using e
  rw [if_neg (show ¬(x.Op==11)=true by rw [e']; decide)] at c
  rw [if_neg (by simp [e]),if_pos (by simp [o1,o2]; simpa using c)]
  have key:∀n:Nat,n<14->n≠10->kwOk (rd opsL (n:Int))=true:=by decide
  have:=key (x.Op-1).toNat (by omega) (by omega)
  rwa [show (((x.Op-1).toNat:Nat):Int)=x.Op-1 by omega] at this
theorem zqi{r:Int}(h:0<=r)(h2:r<=7):kwOk (regT r)=true:=by
 have key:∀n:Nat,n<8->kwOk (regT (n:Int))=true:=by decide
 have:=key r.toNat (by omega)
 rwa [show ((r.toNat:Nat):Int)=r by omega] at this
end Go.Vs
end
section
namespace Go.Vs
local instance tabPalLx7:Tab:=⟨fun _=>none⟩
theorem zp1(o:zak)(syms:List ByteArray):sep (opdI o syms)=true:=by
 unfold opdI
 split
 ·rfl
 split
 ·rfl
 split <;> rfl
theorem zoh(x:zad)(syms:List ByteArray):sep (zjw x syms)=true:=by
 unfold zjw
 split
 ·rfl
 split
 ·rfl
 ·have h1:sep (spI::opdI x.B syms)=true:=zfg [] spI _ rfl rfl (zp1 _ _)
  have h2:sep (opdI x.A syms++sgI 44::(spI::opdI x.B syms))=true:=zfg _ (sgI 44) _ rfl (zp1 _ _) h1
  have h3:=zfg [kwI (opT x.Op x.Cond)] spI _ rfl rfl h2
  simpa using h3
theorem zve(x:zad)(syms:List ByteArray):Ln (insI x syms):=by
 have hb:sep (zlU x.Lock++zjw x syms)=true:=by
  unfold zlU
  cases x.Lock
  ·exact zoh x syms
  ·exact zfg [kwI zqH] spI _ rfl rfl (zoh x syms)
 have h2:sep (tbI::(zlU x.Lock++zjw x syms))=true:=zfg [] tbI _ rfl rfl hb
 have:=zoy _ nlI rfl h2
 unfold insI
 simpa using this
theorem zvc(s:zan):Ln (symI s):=by
 have hi:∀(l:List Int),sep (l.flatMap zi4)=true:=by
  intro l
  induction l with
  | nil=>rfl
  | cons v l ih =>
   rw [List.flatMap_cons]
   unfold zi4 at ih ⊢
   cases l with
   | nil=>rfl
   | cons w l=>exact zfg [] spI _ rfl rfl (zfg [nuI v] spI _ rfl rfl (by
     rw [List.flatMap_cons] at ih
     have:=ih
     simp only [List.cons_append,List.nil_append] at this ⊢
     unfold sep at this
     simp only [Bool.and_eq_true] at this
     exact this.2))
 have h1:sep ([kwI zrG,spI,nmI s.Name,spI,nuI s.Size]++s.Init.flatMap zi4)=true:=by
  cases hs:s.Init with
  | nil=>rfl
  | cons v l =>
   have:=hi (v::l)
   rw [List.flatMap_cons] at this ⊢
   unfold zi4 at this ⊢
   simp only [List.cons_append,List.nil_append] at this
   have h2:sep (nuI v::l.flatMap fun v=>[spI,nuI v])=true:=by
    unfold sep at this
    simp only [Bool.and_eq_true] at this
    exact this.2
   exact zfg [kwI zrG,spI,nmI s.Name,spI,nuI s.Size] spI _ rfl rfl h2
 exact zoy _ nlI rfl h1
theorem zvd(s:ByteArray):Ln (labI s):=zoy [nmI s,sgI 58] nlI rfl rfl
theorem zyN(syms:List ByteArray)(t:zae):Ln (thI syms t) :=
 zqI (zoy [kwI zs6] nlI rfl rfl) (zkg _ _ fun x _=>zqI (zkg _ _ fun s _=>zvd s) (zve x syms))
theorem zrJ(p:zaf):sep (zlO p)=true:=(zqI (zkg _ _ fun s _=>zvc s) (zkg _ _ fun t _=>zyN _ t)).1
theorem zlh{o:zak}(h:opdB o=true):(o.Kind=1/\0<=o.Reg/\o.Reg<=7/\o.Sym=0/\o.N=0)\/(o.Kind=2/\o.Reg=0/\o.Sym=0)\/(o.Kind=3/\0<=o.Sym/\0<=o.N/\o.Reg=0)\/(o.Kind=4/\0<=o.Sym/\0<=o.Reg/\o.Reg<=7/\o.N=0):=by
 unfold opdB at h
 split at h
 ·rename_i k; simp at h k; exact .inl ⟨k,by omega,by omega,by omega,by omega⟩
 split at h
 ·rename_i k; simp at h k; exact .inr (.inl ⟨k,by omega,by omega⟩)
 split at h
 ·rename_i k; simp at h k; exact .inr (.inr (.inl ⟨k,by omega,by omega,by omega⟩))
 split at h
 ·rename_i k; simp at h k; exact .inr (.inr (.inr ⟨k,by omega,by omega,by omega,by omega⟩))
 ·cases h
theorem zml{p:zaf}(hc:ChkG p){k:Int}(h0:0<=k)(h:k<(p.zSy.length:Int)):zbp (rd (zaY p) k)=true:=by
 have hb:InB k (zaY p).length:=⟨h0,by unfold zaY; rw [List.length_map]; omega⟩
 have:=List.mem_of_getElem? (zhT hb)
 unfold zaY at this
 obtain ⟨s,hs,e⟩:=List.mem_map.1 this
 unfold zaY
 rw [← e]
 exact zfe _ _ hc.syms s hs
theorem zqw{p:zaf}(hc:ChkG p){o:zak}(h:opdB o=true)(hm:memB o=true->o.Sym<(p.zSy.length:Int))(hn:I64 o.N):∀a∈opdI o (zaY p),ItOk a:=by
 intro a ha
 unfold opdI at ha
 rcases zlh h with ⟨k,r0,r1,_⟩ | ⟨k,_⟩ | ⟨k,s0,_⟩ | ⟨k,s0,r0,r1,_⟩
 ·rw [if_pos (by rw [k]; rfl)] at ha
  rw [List.mem_singleton.1 ha]
  exact zll (zqi r0 r1)
 ·rw [if_neg (by rw [k]; decide),if_pos (by rw [k]; rfl)] at ha
  rw [List.mem_singleton.1 ha]
  exact zor hn
 ·rw [if_neg (by rw [k]; decide),if_neg (by rw [k]; decide),if_pos (by rw [k]; rfl)] at ha
  have hr:=zml hc s0 (hm (by unfold memB; rw [k]; rfl))
  simp only [List.mem_cons,List.mem_nil_iff,or_false] at ha
  rcases ha with rfl | rfl | rfl | rfl
  ·exact zmN hr
  ·exact zla (by decide)
  ·exact zor hn
  ·exact zla (by decide)
 ·rw [if_neg (by rw [k]; decide),if_neg (by rw [k]; decide),if_neg (by rw [k]; decide)] at ha
  have hr:=zml hc s0 (hm (by unfold memB; rw [k]; rfl))
  simp only [List.mem_cons,List.mem_nil_iff,or_false] at ha
  rcases ha with rfl | rfl | rfl | rfl
  ·exact zmN hr
  ·exact zla (by decide)
  ·exact zll (zqi r0 r1)
  ·exact zla (by decide)
theorem ztE{p:zaf}(hc:ChkG p){x:zad}(h:InsG x p.zSy.length)(ha:I64 x.A.N)(hb:I64 x.B.N):∀a∈insI x (zaY p),ItOk a:=by
 obtain ⟨_,o1,o2,hr,hto,_⟩:=zdS h.z
 have hk:=zll (zu0 h.z)
 intro a hm
 unfold insI at hm
 rcases List.mem_cons.1 hm with rfl | hm
 ·exact zuK
 rcases List.mem_append.1 hm with hm | hm
 ·unfold zlU at hm
  split at hm
  ·simp only [List.mem_cons,List.mem_nil_iff,or_false] at hm
   rcases hm with rfl | rfl
   ·exact zll (by decide)
   ·exact zjX
  ·cases hm
 rcases List.mem_append.1 hm with hm | hm
 ·unfold zjw at hm
  split at hm
  ·rename_i hj
   simp only [List.mem_cons,List.mem_nil_iff,or_false] at hm
   rcases hm with rfl | rfl | rfl
   ·exact hk
   ·exact zjX
   ·exact zmN (hto hj)
  split at hm
  ·rw [List.mem_singleton.1 hm]; exact hk
  ·rename_i h9
   obtain ⟨ga,gb⟩:=zj5 hr o1 (by simp at h9; omega)
   simp only [List.mem_append,List.mem_cons,List.mem_nil_iff,or_false] at hm
   rcases hm with (((rfl | rfl) | hm) | rfl | rfl) | hm
   ·exact hk
   ·exact zjX
   ·exact zqw hc ga h.a ha a hm
   ·exact zla (by decide)
   ·exact zjX
   ·exact zqw hc gb h.b hb a hm
 ·rw [List.mem_singleton.1 hm]; exact zos
theorem zrV{p:zaf}(hc:ChkG p)(hn:NumG p):∀a∈zlO p,ItOk a:=by
 intro a ha
 unfold zlO at ha
 rcases List.mem_append.1 ha with ha | ha
 ·obtain ⟨s,hs,ha⟩:=List.mem_flatMap.1 ha
  unfold symI at ha
  simp only [List.mem_append,List.mem_cons,List.mem_nil_iff,or_false] at ha
  rcases ha with ((rfl | rfl | rfl | rfl | rfl) | ha) | rfl
  ·exact zll (by decide)
  ·exact zjX
  ·exact zmN (zfe _ _ hc.syms s hs)
  ·exact zjX
  ·exact zor (hn.sym s hs).1
  ·obtain ⟨v,hv,ha⟩:=List.mem_flatMap.1 ha
   unfold zi4 at ha
   simp only [List.mem_cons,List.mem_nil_iff,or_false] at ha
   rcases ha with rfl | rfl
   ·exact zjX
   ·exact zor ((hn.sym s hs).2 v hv)
  ·exact zos
 ·obtain ⟨t,ht,ha⟩:=List.mem_flatMap.1 ha
  unfold thI at ha
  simp only [List.mem_append,List.mem_cons,List.mem_nil_iff,or_false] at ha
  rcases ha with (rfl | rfl) | ha
  ·exact zll (by decide)
  ·exact zos
  ·obtain ⟨x,hx,ha⟩:=List.mem_flatMap.1 ha
   obtain ⟨g1,g2⟩:=zfs p _ _ (hc.th t ht).ins x hx
   obtain ⟨n1,n2⟩:=hn.ins t ht x hx
   unfold znN at ha
   rcases List.mem_append.1 ha with ha | ha
   ·obtain ⟨s,hs,ha⟩:=List.mem_flatMap.1 ha
    unfold labI at ha
    simp only [List.mem_cons,List.mem_nil_iff,or_false] at ha
    rcases ha with rfl | rfl | rfl
    ·exact zmN (g2 s hs)
    ·exact zla (by decide)
    ·exact zos
   ·exact ztE hc g1 n1 n2 a ha
abbrev KT:=Int × ByteArray
def tkB(l:List It):List KT:=(toks l).map ka
theorem zeD(a b:List It):tkB (a++b)=tkB a++tkB b:=by simp [tkB,zrD]
theorem zdm:tkB []=[]:=rfl
theorem zjb(l:List It):tkB (spI::l)=tkB l:=rfl
theorem zuF(l:List It):tkB (tbI::l)=tkB l:=rfl
theorem zob(l:List It):tkB (nlI::l)=(4,⟨#[10]⟩)::tkB l:=rfl
theorem zgF(s:ByteArray)(l:List It):tkB (kwI s::l)=(1,s)::tkB l:=by
 show (1,bs (flat (kwI s).2))::tkB l=_
 rw [zl0]
theorem zjT(s:ByteArray)(l:List It):tkB (nmI s::l)=(1,s)::tkB l:=by
 show (1,bs (flat (nmI s).2))::tkB l=_
 rw [zpo]
theorem zk5(v:Int)(l:List It):tkB (nuI v::l)=(2,zd2 v)::tkB l:=by
 show (2,bs (flat (nuI v).2))::tkB l=_
 rw [zqB]
theorem zk4(b:UInt8)(l:List It):tkB (sgI b::l)=(3,bs [b])::tkB l:=rfl
theorem znr{p:zaf}(hk:zgJ p=0)(hn:NumG p):(zaS (zjY p)).2=⟨0,0,0⟩/\(zaS (zjY p)).1.map kt=tkB (zlO p)++[(4,⟨#[]⟩)]:=by
 have hc:=zri hk
 rw [zrH p hk fun t ht x hx=>(zfs p _ _ (hc.th t ht).ins x hx).1]
 have h1:=zrV hc hn
 refine zpS (T:=zjq (zlO p)) ?_ (zox _ h1 (zrJ p))
 intro x hx
 unfold zjq at hx
 obtain ⟨a,ha,hx⟩:=List.mem_flatMap.1 hx
 exact (h1 a ha).1 x hx
end Go.Vs
end
section
namespace Go.Vs
local instance tabPalLx8:Tab:=⟨fun _=>none⟩
def Rd(T:List zaa)(i:Nat)(r:List KT):Prop:=(T.map kt).drop i=r
theorem Rd.cons{T:List zaa}{i:Nat}{a:KT}{r:List KT}(h:Rd T i (a::r)):i<T.length/\(tk T i).Kind=a.1/\(tk T i).Text=a.2/\Rd T (i+1) r:=by
 unfold Rd at h ⊢
 have hi:i<(T.map kt).length:=by
  apply Classical.byContradiction
  intro hn
  rw [List.drop_of_length_le (by omega)] at h; cases h
 rw [List.drop_eq_getElem_cons hi] at h
 injection h with h1 h2
 rw [List.length_map] at hi
 have e:tk T i=T[i]:=by
  have:T[i]?=some T[i]:=List.getElem?_eq_getElem hi
  exact zci this
 rw [List.getElem_map] at h1
 refine ⟨hi,?_,?_,h2⟩
 ·rw [e,← h1]; rfl
 ·rw [e,← h1]; rfl
theorem zuP{T:List zaa}{i:Nat}{s:ByteArray}(h:(tk T i).Kind≠3):sgB T i s=false:=by
 unfold sgB
 have:((tk T i).Kind==3)=false:=by simpa using h
 rw [this]; rfl
theorem ziQ{T:List zaa}{i:Nat}{b:UInt8}{r:List KT}(h:Rd T i ((3,bs [b])::r)){s:ByteArray}(hs:s=bs [b]):sgB T i s=true:=by
 obtain ⟨_,h1,h2,_⟩:=h.cons
 unfold sgB
 rw [h1,h2,hs]; simp
theorem ze7{s:ByteArray}(h:zbp s=true):ze3 s=false:=by
 unfold zbp at h
 simp only [Bool.and_eq_true,Bool.not_eq_true'] at h
 exact h.1.2
theorem zom{s:ByteArray}(h:zbp s=true):s≠⟨#[]⟩:=by
 rintro rfl
 unfold zbp at h
 have:(zaX (⟨#[]⟩:ByteArray)).length=0:=rfl
 rw [this] at h
 simp at h
theorem zmu{s:ByteArray}(h:zbp s=true):fnd zfj s=none:=by
 have h1:=ze7 h
 unfold ze3 at h1
 have:decide (s=(⟨#[]⟩:ByteArray))=false:=decide_eq_false (zom h)
 rw [this] at h1
 simp only [Bool.not_false,Bool.true_and,Bool.or_eq_false_iff] at h1
 cases hf:fnd zfj s with
 | none=>rfl
 | some k=>rw [hf] at h1; simp at h1
theorem zqh{r:Int}(h0:0<=r)(h1:r<=7):fnd zfj (regT r)=some r.toNat:=by
 have key:∀n:Nat,n<8->fnd zfj (regT (n:Int))=some n:=by decide
 have:=key r.toNat (by omega)
 rwa [show ((r.toNat:Nat):Int)=r by omega] at this
theorem zoO:∀(l:List zan) (L:List ByteArray) (k:Nat) (s:zan),zk1 L l->l[k]?=some s->fnd (l.map (·.Name)) s.Name=some k/\has L s.Name=false
 | [],L,k,s,g,h=>by simp at h
 | y::l,L,0,s,g,h=>by
  simp at h; subst h
  exact ⟨by unfold fnd; rw [List.map_cons,List.findIdx?_cons,decide_eq_true rfl]; rfl,g.2.1⟩
 | y::l,L,k+1,s,g,h=>by
  simp at h
  obtain ⟨a,b⟩:=zoO l _ k s g.2.2.2.2.2 h
  have hb:has L s.Name=false/\¬(y.Name=s.Name):=by
   unfold has at b ⊢
   rw [List.any_append] at b
   simp only [Bool.or_eq_false_iff,List.any_cons,List.any_nil,Bool.or_false,decide_eq_false_iff_not] at b
   exact b
  refine ⟨?_,hb.1⟩
  unfold fnd at a ⊢
  rw [List.map_cons,List.findIdx?_cons,decide_eq_false hb.2]
  simp only [Bool.false_eq_true,if_false]
  rw [a]; rfl
section
variable {p:zaf} (hc:ChkG p) {T:List zaa}
include hc
theorem zoq{o:zak}{i:Nat}{r:List KT}(h:opdB o=true)(hp:zcD p o=0)(hn:I64 o.N)(hr:Rd T i (tkB (opdI o (zaY p))++r)):∃j,i<j/\opdP T p.zSy i=.inr (o,j)/\Rd T j r:=by
 have mem:memB o=true->0<=o.Sym->∃s,p.zSy[o.Sym.toNat]?=some s/\rd (zaY p) o.Sym=s.Name/\zbp s.Name=true/\fnd (ze5 p.zSy) s.Name=some o.Sym.toNat/\rd p.zSy o.Sym=s:=by
  intro hm h0
  have hlt:=zho hp hm
  have hb:InB o.Sym p.zSy.length:=⟨h0,by omega⟩
  have hg:=zhT hb
  obtain ⟨f1,_⟩:=zoO _ _ _ _ hc.syms hg
  refine ⟨_,hg,?_,zfe _ _ hc.syms _ (List.mem_of_getElem? hg),f1,rfl⟩
  have hb2:(zaY p)[o.Sym.toNat]?=some (rd p.zSy o.Sym).Name:=by unfold zaY; rw [List.getElem?_map,hg]; rfl
  have:=zci hb2
  rwa [show ((o.Sym.toNat:Nat):Int)=o.Sym by omega] at this
 unfold opdI at hr
 unfold opdP
 rcases zlh h with ⟨k,r0,r1,c1,c2⟩ | ⟨k,c1,c2⟩ | ⟨k,s0,c1,c2⟩ | ⟨k,s0,r0,r1,c2⟩
 ·rw [if_pos (by rw [k]; rfl),zgF,zdm] at hr
  obtain ⟨_,h1,h2,h3⟩:=hr.cons
  simp only at h1 h2
  rw [h1,h2,zqh r0 r1]
  refine ⟨i+1,by omega,?_,h3⟩
  cases o
  simp only at *
  subst k; subst c1; subst c2
  rw [if_neg (by decide),if_neg (by decide)]
  rw [show ((_:Nat):Int)=_ from Int.toNat_of_nonneg r0]
 ·rw [if_neg (by rw [k]; decide),if_pos (by rw [k]; rfl),zk5,zdm] at hr
  obtain ⟨_,h1,h2,h3⟩:=hr.cons
  simp only at h1 h2
  rw [h1,h2,zf5 hn]
  refine ⟨i+1,by omega,?_,h3⟩
  cases o
  simp only at *
  subst k; subst c1; subst c2
  rfl
 ·rw [if_neg (by rw [k]; decide),if_neg (by rw [k]; decide),if_pos (by rw [k]; rfl)] at hr
  have hm:memB o=true:=by unfold memB; rw [k]; rfl
  obtain ⟨s,g1,g2,g3,g4,g5⟩:=mem hm s0
  have hlt:=zho hp hm
  have hsz:o.N<s.Size:=by
   unfold zcD at hp
   rw [hm,g5,if_neg (by decide),if_neg (by simp; omega)] at hp
   split at hp
   ·cases hp
   ·rename_i hh; rw [k] at hh; simpa using hh
  rw [g2,zjT,zk4,zk5,zk4,zdm] at hr
  obtain ⟨_,h1,h2,h3⟩:=hr.cons
  obtain ⟨_,h4,h5,h6⟩:=h3.cons
  obtain ⟨_,h7,h8,h9⟩:=h6.cons
  obtain ⟨_,h10,h11,h12⟩:=h9.cons
  simp only at h1 h2 h7 h8
  rw [h1,h2,zmu g3,ze7 g3,g4]
  rw [if_neg (by decide),if_neg (by decide)]
  simp only [Bool.false_eq_true,if_false]
  rw [ziQ h3 (by rfl)]
  have hidx:idxP T p.zSy o.Sym.toNat (i+2)=.inr (o,i+3):=by
   unfold idxP
   rw [show (tk T (i+2)).Kind=2 from h7,show (tk T (i+2)).Text=zd2 o.N from h8,zf5 hn]
   rw [show ((o.Sym.toNat:Nat):Int)=o.Sym from Int.toNat_of_nonneg s0,g5]
   rw [if_pos (by decide),if_neg (by simp; omega)]
   cases o
   simp only at *
   subst k; subst c2
   rfl
  rw [hidx]
  simp only [Bool.not_true,Bool.false_eq_true,if_false]
  rw [show sgB T (i+3) ⟨#[93]⟩=true from ziQ h9 (by rfl)]
  exact ⟨i+4,by omega,rfl,h12⟩
 ·rw [if_neg (by rw [k]; decide),if_neg (by rw [k]; decide),if_neg (by rw [k]; decide)] at hr
  have hm:memB o=true:=by unfold memB; rw [k]; rfl
  obtain ⟨s,g1,g2,g3,g4,g5⟩:=mem hm s0
  rw [g2,zjT,zk4,zgF,zk4,zdm] at hr
  obtain ⟨_,h1,h2,h3⟩:=hr.cons
  obtain ⟨_,h4,h5,h6⟩:=h3.cons
  obtain ⟨_,h7,h8,h9⟩:=h6.cons
  obtain ⟨_,h10,h11,h12⟩:=h9.cons
  simp only at h1 h2 h7 h8
  rw [h1,h2,zmu g3,ze7 g3,g4]
  rw [if_neg (by decide),if_neg (by decide)]
  simp only [Bool.false_eq_true,if_false]
  rw [ziQ h3 (by rfl)]
  have hidx:idxP T p.zSy o.Sym.toNat (i+2)=.inr (o,i+3):=by
   unfold idxP
   rw [show (tk T (i+2)).Kind=1 from h7,show (tk T (i+2)).Text=regT o.Reg from h8,zqh r0 r1]
   rw [if_neg (by decide)]
   simp only
   rw [show ((o.Sym.toNat:Nat):Int)=o.Sym from Int.toNat_of_nonneg s0,show ((o.Reg.toNat:Nat):Int)=o.Reg from Int.toNat_of_nonneg r0]
   cases o
   simp only at *
   subst k; subst c2
   rfl
  rw [hidx]
  simp only [Bool.not_true,Bool.false_eq_true,if_false]
  rw [show sgB T (i+3) ⟨#[93]⟩=true from ziQ h9 (by rfl)]
  exact ⟨i+4,by omega,rfl,h12⟩
end
end Go.Vs
end
section
namespace Go.Vs
local instance tabPalLx9:Tab:=⟨fun _=>none⟩
theorem zqx{x:zad}(h:insN x=0):opW (opT x.Op x.Cond)=(x.Op,x.Cond,true)/\opT x.Op x.Cond≠symW/\opT x.Op x.Cond≠thrW/\opT x.Op x.Cond≠zpp:=by
 obtain ⟨c,o1,o2,_⟩:=zdS h
 unfold ziH at c
 by_cases e:x.Op=11
 ·rw [if_pos (show (x.Op==11)=true by rw [e]; rfl)] at c
  simp only [Bool.and_eq_true,decide_eq_true_eq] at c
  have key:∀n:Nat,n<11->n≠0->opW (opT 11 (n:Int))=(11,(n:Int),true)/\opT 11 (n:Int)≠symW/\opT 11 (n:Int)≠thrW/\opT 11 (n:Int)≠zpp:=by decide
  have:=key x.Cond.toNat (by omega) (by omega)
  rw [show ((x.Cond.toNat:Nat):Int)=x.Cond by omega] at this
  rw [e]; exact this
 ·have e':(x.Op==11)=false:=by simpa using e
  rw [if_neg (show ¬(x.Op==11)=true by rw [e']; decide)] at c
  have c0:x.Cond=0:=by simpa using c
  have key:∀n:Nat,n<15->(n≠0/\n≠11)->opW (opT (n:Int) 0)=((n:Int),0,true)/\opT (n:Int) 0≠symW/\opT (n:Int) 0≠thrW/\opT (n:Int) 0≠zpp:=by decide
  have:=key x.Op.toNat (by omega) ⟨by omega,by omega⟩
  rw [show ((x.Op.toNat:Nat):Int)=x.Op by omega] at this
  rw [c0]; exact this
theorem ztg{x:zad}(h:rowB x=true)(h1:1<=x.Op):zlV x.Lock x.Op=false/\(x.Op<=9->ziD x.Op x.Lock x.A=false)/\(9<x.Op->zkH x.A=true/\zkH x.B=true/\x.Lock=false):=by
 unfold rowB at h
 by_cases h9:9<x.Op
 ·rw [if_pos (by simp; omega)] at h
  simp only [Bool.and_eq_true,Bool.not_eq_true'] at h
  refine ⟨?_,fun q=>by omega,fun _=>⟨h.1.1,h.1.2,h.2⟩⟩
  unfold zlV
  rw [h.2]
  have:(x.Op==9)=false:=by simp; omega
  rw [this]; rfl
 ·rw [if_neg (by simp; omega)] at h
  split at h
  ·cases h
  have mem2:∀o:zak,memB o=true->(o.Kind==2)=false/\(o.Kind==1)=false:=by
   intro o ho
   unfold memB at ho
   simp only [Bool.or_eq_true,beq_iff_eq] at ho
   rcases ho with ho | ho <;> rw [ho] <;> exact ⟨rfl,rfl⟩
  refine ⟨?_,fun _=>?_,fun q=>absurd q h9⟩
  ·unfold zlV
   split at h
   ·rename_i e; simp at e h
    rw [h.2,e]; rfl
   split at h
   ·rename_i e; simp at e h
    rw [h.2,e]; rfl
   rename_i e8 e9
   have e9':(x.Op==9)=false:=by simpa using e9
   rw [e9']
   split at h
   ·have:x.Lock=false:=by simpa using h
    rw [this]; rfl
   ·simp only [Bool.and_eq_true,Bool.or_eq_true,Bool.not_eq_true',decide_eq_true_eq] at h
    rcases h.2 with h2 | h2
    ·rw [h2]; rfl
    ·cases x.Lock
     ·rfl
     ·simp [h2]
  ·unfold ziD
   split at h
   ·rename_i e; simp at e h
    obtain ⟨m1,m2⟩:=mem2 _ h.1.1
    rw [m1,m2]; rfl
   split at h
   ·rename_i e; simp at e h
    obtain ⟨m1,m2⟩:=mem2 _ h.1.1
    rw [m1,m2]; rfl
   rename_i e8 e9
   split at h
   ·rename_i e
    have e1:x.A.Kind=1:=by simpa using e
    have:x.Lock=false:=by simpa using h
    have e8':(x.Op==8)=false:=by simpa using e8
    rw [e1,this,e8']; rfl
   ·simp only [Bool.and_eq_true] at h
    obtain ⟨m1,m2⟩:=mem2 _ h.1.1
    rw [m1,m2]; rfl
theorem zjx{o:zak}(h:zkH o=true):o=zO:=by
 unfold zkH at h
 simp only [Bool.and_eq_true,beq_iff_eq] at h
 cases o
 simp only at h
 obtain ⟨rfl,rfl,rfl,rfl⟩:=h
 rfl
section
variable {p:zaf} (hc:ChkG p) {T:List zaa}
include hc
theorem zna{x:zad}{i:Nat}{r:List KT}(h:insN x=0)(ha:zcD p x.A=0)(hb:zcD p x.B=0)(na:I64 x.A.N)(nb:I64 x.B.N)(hr:Rd T i (tkB (zjw x (zaY p))++r)):∃j t,i<j/\zi3 T p.zSy x.Lock i=.inr ((⟨x.Op,x.Lock,x.Cond,x.A,x.B,x.To,[]⟩,t),j)/\Rd T j r:=by
 obtain ⟨_,o1,o2,hrow,hto,hto0⟩:=zdS h
 obtain ⟨w1,_⟩:=zqx h
 obtain ⟨l1,l2,l3⟩:=ztg hrow o1
 unfold zjw at hr
 unfold zi3
 by_cases hj:zdP x=true
 ·rw [if_pos hj,zgF,zjb,zjT,zdm] at hr
  obtain ⟨_,h1,h2,h3⟩:=hr.cons
  obtain ⟨_,h4,h5,h6⟩:=h3.cons
  simp only at h1 h2 h4 h5
  rw [h1,h2,w1]
  simp only
  rw [l1,if_neg (by decide),if_pos (by unfold zdP at hj; exact hj)]
  have hn:nameP T (i+1)=none:=by
   unfold nameP
   rw [show (tk T (i+1)).Kind=1 from h4,show (tk T (i+1)).Text=x.To from h5,ze7 (hto hj)]; rfl
  rw [hn]
  have h9:9<x.Op:=by
   unfold zdP at hj
   simp only [Bool.or_eq_true,beq_iff_eq] at hj
   omega
  obtain ⟨z1,z2,z3⟩:=l3 h9
  refine ⟨i+2,tk T (i+1),by omega,?_,h6⟩
  rw [zjx z1,zjx z2,show (tk T (i+1)).Text=x.To from h5]
 ·rw [if_neg hj] at hr
  have hj':zdP x=false:=by simpa using hj
  have hnj:((x.Op==10)||(x.Op==11))=false:=hj'
  by_cases h9:decide (x.Op>9)=true
  ·rw [if_pos h9,zgF,zdm] at hr
   obtain ⟨_,h1,h2,h3⟩:=hr.cons
   simp only at h1 h2
   simp only [decide_eq_true_eq] at h9
   obtain ⟨z1,z2,z3⟩:=l3 h9
   rw [h1,h2,w1]
   simp only
   rw [l1,if_neg (by decide),hnj,if_neg (by decide),if_neg (by simp; omega)]
   refine ⟨i+1,zT,by omega,?_,h3⟩
   rw [zjx z1,zjx z2,hto0 hj']
  ·rw [if_neg h9] at hr
   simp only [decide_eq_true_eq,Int.not_gt_eq] at h9
   obtain ⟨ga,gb⟩:=zj5 hrow o1 h9
   simp only [List.cons_append,List.nil_append,List.append_assoc,zeD,zgF,zjb,zk4,zdm] at hr
   obtain ⟨_,h1,h2,h3⟩:=hr.cons
   simp only at h1 h2
   rw [h1,h2,w1]
   simp only
   rw [l1,if_neg (by decide),hnj,if_neg (by decide),if_pos (by simpa using h9)]
   obtain ⟨j,j1,j2,j3⟩:=zoq hc ga ha na h3
   obtain ⟨_,_,_,h4⟩:=j3.cons
   obtain ⟨k,k1,k2,k3⟩:=zoq hc gb hb nb h4
   have ho:opsP T p.zSy x.Op x.Lock (i+1)=.inr ((x.A,x.B),k):=by
    unfold opsP
    rw [j2]
    simp only
    rw [l2 h9,if_neg (by decide),show sgB T j ⟨#[44]⟩=true from ziQ j3 (by rfl)]
    simp only [Bool.not_true,Bool.false_eq_true,if_false]
    rw [k2]
    simp only
    have:row0 x.Op x.Lock x.A x.B=true:=hrow
    rw [this]; rfl
   rw [ho]
   refine ⟨k,zT,by omega,?_,k3⟩
   simp only
   rw [hto0 hj']
end
def Go'(T:List zaa)(S S':PSt):Prop:=∃k,S.at_+k<=S'.at_/\∀n,zcK T (n+k) S=zcK T n S'
theorem Go'.refl{T:List zaa}{S:PSt}:Go' T S S:=⟨0,by omega,fun n=>rfl⟩
theorem Go'.trans{T:List zaa}{S S1 S2:PSt}(h1:Go' T S S1)(h2:Go' T S1 S2):Go' T S S2:=by
 obtain ⟨k1,a1,b1⟩:=h1
 obtain ⟨k2,a2,b2⟩:=h2
 exact ⟨k2+k1,by omega,fun n=>by rw [show n+(k2+k1)=(n+k2)+k1 by omega,b1,b2]⟩
theorem Go'.one{T:List zaa}{S S':PSt}(hi:S.at_<T.length)(hl:zfW T S=.inr S')(h:S.at_<S'.at_):Go' T S S':=⟨1,by omega,fun n=>by rw [zcK,if_pos hi,hl]⟩
section
variable {p:zaf} (hc:ChkG p) {T:List zaa}
include hc
theorem zr6{s:ByteArray}{i:Nat}{r:List KT}{done:List Bd}{c:Bd}(h:zbp s=true)(hh:has c.all s=false)(hr:Rd T i (tkB (labI s)++r)):∃j,Go' T ⟨i,p.zSy,done,some c⟩ ⟨j,p.zSy,done,some ⟨c.head,c.all++[s],c.open_++[s],c.zFi,c.zTg,c.ins⟩⟩/\Rd T j r:=by
 unfold labI at hr
 rw [zjT,zk4,zob,zdm] at hr
 obtain ⟨a0,h1,h2,h3⟩:=hr.cons
 obtain ⟨a1,h4,h5,h6⟩:=h3.cons
 obtain ⟨a2,h7,h8,h9⟩:=h6.cons
 simp only at h1 h2 h4 h7
 refine ⟨i+3,Go'.one a0 ?_ (by show i<i+3; omega),h9⟩
 have hw:=ze7 h
 have n1:decide (s=symW)=false:=decide_eq_false fun e=>by rw [e] at hw; exact absurd hw (by decide)
 have n2:decide (s=thrW)=false:=decide_eq_false fun e=>by rw [e] at hw; exact absurd hw (by decide)
 have hl:zeX T T.length i c.all c.open_=.inr (i+2,c.all++[s],c.open_++[s]):=by
  obtain ⟨n,hn⟩:∃n,T.length=n+2:=⟨T.length-2,by omega⟩
  rw [hn,zeX,h1,h2,ziQ h3 (by rfl),hw,hh]
  simp only [Bool.false_eq_true,if_false]
  rw [if_pos (by decide),zeX,show (tk T (i+2)).Kind=4 from h7]
  rfl
 unfold zfW zdF
 simp only
 rw [h1,h2,n1,n2,if_neg (by decide),if_neg (by decide),if_neg (by decide)]
 unfold ziT
 simp only
 rw [hl]
 simp only
 rw [show (tk T (i+2)).Kind=4 from h7,if_pos (by decide)]
 unfold zg6
 simp only
 rw [show (tk T (i+2)).Kind=4 from h7,if_neg (by decide)]
theorem zmY:∀(l:List ByteArray) (i:Nat) (r:List KT) (done:List Bd) (c:Bd),zja c.all l->Rd T i (tkB (l.flatMap labI)++r)->∃j,Go' T ⟨i,p.zSy,done,some c⟩ ⟨j,p.zSy,done,some ⟨c.head,c.all++l,c.open_++l,c.zFi,c.zTg,c.ins⟩⟩/\Rd T j r
 | [],i,r,done,c,g,h=>⟨i,by simp only [List.append_nil]; exact Go'.refl,by simpa [zdm] using h⟩
 | s::l,i,r,done,c,g,h=>by
  rw [List.flatMap_cons,zeD,List.append_assoc] at h
  obtain ⟨j,h1,h2⟩:=zr6 hc (done:=done) (c:=c) g.1 g.2.1 h
  obtain ⟨k,h3,h4⟩:=zmY l j r done ⟨c.head,c.all++[s],c.open_++[s],c.zFi,c.zTg,c.ins⟩ g.2.2 h2
  refine ⟨k,h1.trans ?_,h4⟩
  simpa [List.append_assoc] using h3
theorem zr8{x:zad}{i:Nat}{r:List KT}{done:List Bd}{c:Bd}(h:insN x=0)(ha:zcD p x.A=0)(hb:zcD p x.B=0)(na:I64 x.A.N)(nb:I64 x.B.N)(hr:Rd T i (tkB (insI x (zaY p))++r)):∃j f t,Go' T ⟨i,p.zSy,done,some c⟩ ⟨j,p.zSy,done,some ⟨c.head,c.all,[],c.zFi++[f],c.zTg++[t],c.ins++[⟨x.Op,x.Lock,x.Cond,x.A,x.B,x.To,c.open_⟩]⟩⟩/\Rd T j r:=by
 unfold insI at hr
 rw [zuF,zeD,zeD,zob,zdm,List.append_assoc,List.append_assoc] at hr
 obtain ⟨w1,w2,w3,w4⟩:=zqx h
 have hbody:∃q,tkB (zjw x (zaY p))=(1,opT x.Op x.Cond)::q/\∀a q',q=a::q'->a.1=1\/a.1=2:=by
  unfold zjw
  split
  ·rw [zgF,zjb,zjT]
   exact ⟨_,rfl,fun a q' e=>by injection e with e1 e2; rw [← e1]; exact .inl rfl⟩
  split
  ·rw [zgF]
   exact ⟨_,rfl,fun a q' e=>by cases e⟩
  ·simp only [List.cons_append,List.nil_append,List.append_assoc,zgF,zjb,zeD]
   refine ⟨_,rfl,fun a q' e=>?_⟩
   unfold opdI at e
   split at e
   ·rw [zgF] at e; injection e with e1 e2; rw [← e1]; exact .inl rfl
   split at e
   ·rw [zk5] at e; injection e with e1 e2; rw [← e1]; exact .inr rfl
   split at e <;> (rw [zjT] at e; injection e with e1 e2; rw [← e1]; exact .inl rfl)
 obtain ⟨q,q1,q2⟩:=hbody
 have main:∃j t,i<j/\insP T p.zSy i=.inr ((⟨x.Op,x.Lock,x.Cond,x.A,x.B,x.To,[]⟩,t),j)/\Rd T j ([(4,⟨#[10]⟩)]++r)/\(tk T i).Kind=1/\(tk T i).Text≠symW/\(tk T i).Text≠thrW/\(tk T (i+1)).Kind≠3:=by
  unfold zlU at hr
  cases hl:x.Lock with
  | true =>
   rw [hl] at hr
   simp only [if_true,zgF,zjb,zdm,List.cons_append,List.nil_append] at hr
   obtain ⟨a0,h1,h2,h3⟩:=hr.cons
   simp only at h1 h2
   obtain ⟨j,t,j1,j2,j3⟩:=zna hc h ha hb na nb h3
   rw [hl] at j2
   have h3':=h3
   rw [q1,List.cons_append] at h3'
   obtain ⟨_,h4,h5,_⟩:=h3'.cons
   refine ⟨j,t,by omega,?_,j3,h1,?_,?_,?_⟩
   ·unfold insP
    rw [h1,h2,if_neg (by decide),if_pos (by rfl),j2]
   ·rw [h2]; decide
   ·rw [h2]; decide
   ·rw [show (tk T (i+1)).Kind=1 from h4]; decide
  | false =>
   rw [hl] at hr
   simp only [Bool.false_eq_true,if_false,zdm,List.nil_append] at hr
   obtain ⟨j,t,j1,j2,j3⟩:=zna hc h ha hb na nb hr
   rw [hl] at j2
   have hr':=hr
   rw [q1,List.cons_append] at hr'
   obtain ⟨a0,h1,h2,h3⟩:=hr'.cons
   simp only at h1 h2
   refine ⟨j,t,j1,?_,j3,h1,?_,?_,?_⟩
   ·unfold insP
    rw [h1,h2,if_neg (by decide),if_neg w4,j2]
   ·rw [h2]; exact w2
   ·rw [h2]; exact w3
   ·cases q with
    | nil =>
     obtain ⟨_,h4,_⟩:=h3.cons
     rw [show (tk T (i+1)).Kind=4 from h4]; decide
    | cons a q' =>
     obtain ⟨_,h4,_⟩:=h3.cons
     rcases q2 a q' rfl with e | e <;> (rw [show (tk T (i+1)).Kind=a.1 from h4,e]; decide)
 obtain ⟨j,t,j1,j2,j3,k1,k2,k3,k4⟩:=main
 obtain ⟨b0,b1,_,b3⟩:=j3.cons
 simp only at b1
 refine ⟨j+1,tk T i,t,Go'.one (by show i<T.length; omega) ?_ (by show i<j+1; omega),b3⟩
 have hl:zeX T T.length i c.all c.open_=.inr (i,c.all,c.open_):=by
  obtain ⟨n,hn⟩:∃n,T.length=n+1:=⟨T.length-1,by omega⟩
  rw [hn,zeX,zuP k4]
  simp
 unfold zfW zdF
 simp only
 rw [k1,decide_eq_false k2,decide_eq_false k3,if_neg (by decide),if_neg (by decide),if_neg (by decide)]
 unfold ziT
 simp only
 rw [hl]
 simp only
 rw [k1,if_neg (by decide),j2]
 unfold zg6
 simp only
 rw [b1,if_neg (by decide)]
end
end Go.Vs
end
section
namespace Go.Vs
local instance tabPalLxA:Tab:=⟨fun _=>none⟩
theorem zlo{T:List zaa}(n:Int):∀(l:List Int) (f i:Nat) (a:List Int) (r:List KT) (e:KT),e.1≠2->l.length<f->(∀v∈l,I64 v)->(a.length:Int)+l.length<=n->Rd T i (tkB (l.flatMap zi4)++e::r)->∃j,i<=j/\zdI T n f i a=.inr (j,a++l)/\Rd T j (e::r)
 | [],f,i,a,r,e,he,hf,hv,hn,h=>by
  cases f with
  | zero=>simp at hf
  | succ f =>
   simp only [List.flatMap_nil,zdm,List.nil_append] at h
   obtain ⟨_,h1,_⟩:=h.cons
   refine ⟨i,Nat.le_refl _,?_,h⟩
   rw [zdI,h1,if_neg (by simpa using he)]; simp
 | v::l,f,i,a,r,e,he,hf,hv,hn,h=>by
  cases f with
  | zero=>simp at hf
  | succ f =>
   rw [List.flatMap_cons,zeD] at h
   unfold zi4 at h
   rw [zjb,zk5,zdm] at h
   simp only [List.cons_append,List.nil_append] at h
   obtain ⟨_,h1,h2,h3⟩:=h.cons
   simp only at h1 h2
   obtain ⟨j,j1,j2,j3⟩:=zlo n l f (i+1) (a++[v]) r e he (by simpa using hf) (fun w hw=>hv w (by simp [hw])) (by simp at hn ⊢; omega) h3
   refine ⟨j,by omega,?_,j3⟩
   rw [zdI,h1,h2,zf5 (hv v (by simp)),if_pos (by decide),if_neg (by simp at hn ⊢; omega),j2]
   simp
theorem zrF{T:List zaa}{L:List zan}{s:zan}{i:Nat}{r:List KT}(h:zbp s.Name=true)(hh:has (ze5 L) s.Name=false)(h1:1<=s.Size)(h2:s.Size<=64)(h3:(s.Init.length:Int)<=s.Size)(hL:L.length<64)(n1:I64 s.Size)(n2:∀v∈s.Init,I64 v)(hr:Rd T i (tkB (symI s)++r)):∃j,Go' T ⟨i,L,[],none⟩ ⟨j,L++[s],[],none⟩/\Rd T j r:=by
 unfold symI at hr
 simp only [List.cons_append,List.nil_append,List.append_assoc,zeD,zgF,zjb,zjT,zk5,zob,zdm] at hr
 obtain ⟨a0,b1,b2,b3⟩:=hr.cons
 obtain ⟨a1,c1,c2,c3⟩:=b3.cons
 obtain ⟨a2,d1,d2,d3⟩:=c3.cons
 simp only at b1 b2 c1 c2 d1 d2
 have hlen:s.Init.length<T.length:=by
  have:=congrArg List.length d3
  have e1:∀l:List Int,(tkB (l.flatMap zi4)).length=l.length:=by
   intro l
   induction l with
   | nil=>rfl
   | cons v l ih=>rw [List.flatMap_cons,zeD,List.length_append,ih]; unfold zi4; rw [zjb,zk5]; simp [zdm]; omega
  simp only [List.length_drop,List.length_map,List.length_append,List.length_cons,e1] at this
  omega
 obtain ⟨j,j1,j2,j3⟩:=zlo s.Size s.Init T.length (i+3) [] r (4,⟨#[10]⟩) (by decide) hlen n2 (by simpa using h3) d3
 obtain ⟨a4,e1,_,e3⟩:=j3.cons
 simp only at e1
 refine ⟨j+1,Go'.one a0 ?_ (by show i<j+1; omega),e3⟩
 unfold zfW zdF
 simp only
 rw [b1,b2,if_neg (by decide),if_pos (by rfl)]
 unfold symP
 have hn:nameP T (i+1)=none:=by
  unfold nameP
  rw [show (tk T (i+1)).Kind=1 from c1,show (tk T (i+1)).Text=s.Name from c2,ze7 h]; rfl
 have hf:fnd (ze5 L) s.Name=none:=by
  unfold fnd
  rw [List.findIdx?_eq_none_iff]
  intro x hx
  unfold has at hh
  rw [List.any_eq_false] at hh
  simpa using hh x hx
 rw [if_neg (by simp [PSt.bs]),if_neg (by simp only; omega)]
 simp only
 rw [hn]
 simp only
 rw [show (tk T (i+1)).Text=s.Name from c2,hf]
 simp only
 rw [show (tk T (i+2)).Kind=2 from d1,show (tk T (i+2)).Text=zd2 s.Size from d2,zf5 n1]
 rw [if_neg (by decide),if_neg (by simp; omega),j2]
 unfold zg6
 simp only [List.nil_append]
 rw [e1,if_neg (by decide)]
theorem zmj{T:List zaa}:∀(l:List zan) (L:List zan) (i:Nat) (r:List KT),zk1 (ze5 L) l->L.length+l.length<=64->(∀s∈l,I64 s.Size/\∀v∈s.Init,I64 v)->Rd T i (tkB (l.flatMap symI)++r)->∃j,Go' T ⟨i,L,[],none⟩ ⟨j,L++l,[],none⟩/\Rd T j r
 | [],L,i,r,g,hl,hn,h=>⟨i,by simp only [List.append_nil]; exact Go'.refl,by simpa [zdm] using h⟩
 | s::l,L,i,r,g,hl,hn,h=>by
  rw [List.flatMap_cons,zeD,List.append_assoc] at h
  obtain ⟨g1,g2,g3,g4,g5,g6⟩:=g
  obtain ⟨n1,n2⟩:=hn s (by simp)
  obtain ⟨j,h1,h2⟩:=zrF g1 g2 g3 g4 g5 (by simp at hl; omega) n1 n2 h
  obtain ⟨k,h3,h4⟩:=zmj l (L++[s]) j r (by unfold ze5 at g6 ⊢; simpa using g6) (by simp at hl ⊢; omega) (fun y hy=>hn y (by simp [hy])) h2
  refine ⟨k,h1.trans ?_,h4⟩
  simpa [List.append_assoc] using h3
section
variable {p:zaf} (hc:ChkG p) {T:List zaa}
include hc
theorem zm1:∀(l:List zad) (i:Nat) (r:List KT) (done:List Bd) (c:Bd),ziN p c.all l->c.open_=[]->(∀x∈l,I64 x.A.N/\I64 x.B.N)->Rd T i (tkB (l.flatMap (znN (zaY p)))++r) ->
  ∃j fs tg,Go' T ⟨i,p.zSy,done,some c⟩ ⟨j,p.zSy,done,some ⟨c.head,c.all++l.flatMap (·.zLb),[],c.zFi++fs,c.zTg++tg,c.ins++l⟩⟩/\Rd T j r
 | [],i,r,done,c,g,ho,hn,h=>⟨i,[],[],by
   simp only [List.append_nil,List.flatMap_nil]
   cases c
   simp only at ho
   subst ho
   exact Go'.refl,by simpa [zdm] using h⟩
 | x::l,i,r,done,c,g,ho,hn,h=>by
  obtain ⟨g1,g2,g3,g4,g5⟩:=g
  obtain ⟨n1,n2⟩:=hn x (by simp)
  rw [List.flatMap_cons,zeD,List.append_assoc] at h
  unfold znN at h
  rw [zeD,List.append_assoc] at h
  obtain ⟨j,h1,h2⟩:=zmY hc x.zLb i _ done c g1 h
  obtain ⟨k,f,t,h3,h4⟩:=zr8 hc (done:=done) (c:=⟨c.head,c.all++x.zLb,c.open_++x.zLb,c.zFi,c.zTg,c.ins⟩) g2 g3 g4 n1 n2 h2
  obtain ⟨m,fs,tg,h5,h6⟩:=zm1 l k r done ⟨c.head,c.all++x.zLb,[],c.zFi++[f],c.zTg++[t],c.ins++[⟨x.Op,x.Lock,x.Cond,x.A,x.B,x.To,c.open_++x.zLb⟩]⟩ g5 rfl (fun y hy=>hn y (by simp [hy])) h4
  refine ⟨m,f::fs,t::tg,(h1.trans h3).trans ?_,h6⟩
  rw [ho] at h5 ⊢
  simpa [List.append_assoc] using h5
theorem zs7{t:zae}{i:Nat}{r:List KT}{done:List Bd}{cur:Option Bd}(g:ziN p [] t.Ins)(hl:(PSt.mk i p.zSy done cur).bs.length<64)(hn:∀x∈t.Ins,I64 x.A.N/\I64 x.B.N)(hr:Rd T i (tkB (thI (zaY p) t)++r)) :
  ∃j hd fs tg,Go' T ⟨i,p.zSy,done,cur⟩ ⟨j,p.zSy,done++cur.toList,some ⟨hd,t.Ins.flatMap (·.zLb),[],fs,tg,t.Ins⟩⟩/\Rd T j r:=by
 unfold thI at hr
 simp only [List.cons_append,List.nil_append,zgF,zob] at hr
 obtain ⟨a0,b1,b2,b3⟩:=hr.cons
 obtain ⟨a1,c1,c2,c3⟩:=b3.cons
 simp only at b1 b2 c1
 obtain ⟨j,fs,tg,h1,h2⟩:=zm1 hc t.Ins (i+2) r (done++cur.toList) ⟨tk T i,[],[],[],[],[]⟩ g rfl hn c3
 refine (fun hl1:zfW T ⟨i,p.zSy,done,cur⟩=.inr ⟨i+2,p.zSy,done++cur.toList,some ⟨tk T i,[],[],[],[],[]⟩⟩=>?_) ?_
 ·exact ⟨j,tk T i,fs,tg,(Go'.one a0 hl1 (by show i<i+2; omega)).trans (by simpa using h1),h2⟩
 unfold zfW zdF
 simp only
 rw [b1,b2,if_neg (by decide),if_neg (by decide),if_pos (by rfl)]
 unfold thrP
 rw [if_neg (by omega)]
 unfold zg6 PSt.bs
 simp only
 rw [show (tk T (i+1)).Kind=4 from c1,if_neg (by decide)]
def Was(b:Bd)(t:zae):Prop:=b.all=t.Ins.flatMap (·.zLb)/\b.open_=[]/\b.ins=t.Ins
theorem zod:∀(l:List zae) (i:Nat) (r:List KT) (done:List Bd) (cur:Option Bd),(∀t∈l,ziN p [] t.Ins)->(PSt.mk i p.zSy done cur).bs.length+l.length<=64->(∀t∈l,∀x∈t.Ins,I64 x.A.N/\I64 x.B.N)->Rd T i (tkB (l.flatMap (thI (zaY p)))++r) ->
  ∃S:PSt,Go' T ⟨i,p.zSy,done,cur⟩ S/\S.syms=p.zSy/\Rd T S.at_ r/\∃bs:List Bd,S.bs=(PSt.mk i p.zSy done cur).bs++bs/\bs.length=l.length/\∀(k:Nat) b t,bs[k]?=some b->l[k]?=some t->Was b t
 | [],i,r,done,cur,g,hl,hn,h=>⟨_,Go'.refl,rfl,by simpa [zdm] using h,[],by simp,rfl,fun k b t h=>by simp at h⟩
 | t::l,i,r,done,cur,g,hl,hn,h=>by
  rw [List.flatMap_cons,zeD,List.append_assoc] at h
  obtain ⟨j,hd,fs,tg,h1,h2⟩:=zs7 hc (done:=done) (cur:=cur) (g t (by simp)) (by simp at hl; omega) (hn t (by simp)) h
  have hb:∀q,(PSt.mk j p.zSy (done++cur.toList) (some q)).bs=(PSt.mk i p.zSy done cur).bs++[q]:=fun q=>by simp [PSt.bs]
  obtain ⟨S,h3,h4,h5,bs,h6,h7,h8⟩:=zod l j r (done++cur.toList) (some ⟨hd,t.Ins.flatMap (·.zLb),[],fs,tg,t.Ins⟩) (fun y hy=>g y (by simp [hy])) (by rw [hb]; simp at hl ⊢; omega) (fun y hy=>hn y (by simp [hy])) h2
  refine ⟨S,h1.trans h3,h4,h5,⟨hd,t.Ins.flatMap (·.zLb),[],fs,tg,t.Ins⟩::bs,by rw [h6,hb]; simp,by simp [h7],fun k b t' hk ht=>?_⟩
  cases k with
  | zero=>simp at hk ht; subst hk; subst ht; exact ⟨rfl,rfl,rfl⟩
  | succ k=>simp at hk ht; exact h8 k b t' hk ht
end
theorem zl7{fs:List zaa}:∀(l:List zad) (i j:Nat) (a:Int),0<=a->zaM (fun _ (n:Int) (x:zad)=>if (x.Op != 12)=true then .inl (n+1) else .inl n) (fun n=>n) j a l<=4096->zaM (cntF fs) (fun _=>none) i a l=none/\a<=4096
 | [],i,j,a,h0,h=>⟨rfl,h⟩
 | x::l,i,j,a,h0,h=>by
  unfold zaM at h ⊢
  by_cases c:x.Op=12
  ·rw [if_neg (by rw [c]; decide)] at h
   simp only at h
   obtain ⟨h1,h2⟩:=zl7 l (i+1) (j+1) a h0 h
   refine ⟨?_,h2⟩
   unfold cntF
   rw [if_pos (by rw [c]; rfl)]
   exact h1
  ·rw [if_pos (by simpa using c)] at h
   simp only at h
   obtain ⟨h1,h2⟩:=zl7 l (i+1) (j+1) (a+1) (by omega) h
   refine ⟨?_,by omega⟩
   unfold cntF
   rw [if_neg (by simpa using c),if_neg (by simp; omega),zbG ⟨by omega,by omega⟩]
   exact h1
theorem zo3{p:zaf}{b:Bd}{t:zae}(g:ThG p t)(w:Was b t):zfC b=none:=by
 obtain ⟨w1,w2,w3⟩:=w
 unfold zfC
 rw [w2,w3]
 have hne:(t.Ins.length:Int)≠0:=fun e=>g.ne (List.length_eq_zero_iff.1 (by omega))
 have hlast:zh6 t.Ins=zfM t:=by
  unfold zh6 zfM
  congr 2
  omega
 have h1:((((t.Ins.length:Int)==0)||decide ((([]:List ByteArray).length:Int)>0))||((zh6 t.Ins != 10)&&(zh6 t.Ins != 14)))=false:=by
  rw [hlast]
  have:((t.Ins.length:Int)==0)=false:=by simpa using hne
  rw [this]
  rcases g.last with e | e <;> rw [e] <;> rfl
 rw [if_neg (by rw [h1]; decide)]
 have h2:=(zl7 (fs:=b.zFi) t.Ins 0 0 0 (Int.le_refl _) g.n).1
 rw [h2]
 simp only
 rw [w1]
 have key:∀(l:List zad) (i:Nat),(∀x∈l,(x.To≠⟨#[]⟩->has (t.Ins.flatMap (·.zLb)) x.To=true))->zaM (toF (t.Ins.flatMap (·.zLb)) b.zTg) (fun _=>none) i () l=none:=by
  intro l
  induction l with
  | nil=>intro i _; rfl
  | cons x l ih =>
   intro i hx
   unfold zaM toF
   by_cases e:x.To=⟨#[]⟩
   ·rw [decide_eq_true e]
    exact ih _ fun y hy=>hx y (by simp [hy])
   ·rw [hx x (by simp) e]
    simp only [Bool.not_true,Bool.and_false,Bool.false_eq_true,if_false]
    exact ih _ fun y hy=>hx y (by simp [hy])
 refine key _ _ fun x hx hto=>?_
 refine g.to x hx ?_
 have hz:=(zfs p _ _ g.ins x hx).1.z
 obtain ⟨_,_,_,_,_,h0⟩:=zdS hz
 cases hj:zdP x with
 | true=>rfl
 | false=>exact absurd (h0 hj) hto
theorem zjQ{p:zaf}:∀(bs:List Bd) (l:List zae) (i:Nat),bs.length=l.length->(∀(k:Nat) b t,bs[k]?=some b->l[k]?=some t->Was b t)->(∀t∈l,ThG p t)->zaM zfD (fun _=>none) i () bs=none/\bs.map toTh=l
 | [],[],i,_,_,_=>⟨rfl,rfl⟩
 | [],_::_,i,h,_,_=>by simp at h
 | _::_,[],i,h,_,_=>by simp at h
 | b::bs,t::l,i,h,hw,hg=>by
  have w:=hw 0 b t rfl rfl
  obtain ⟨h1,h2⟩:=zjQ bs l (i+1) (by simpa using h) (fun k b t hb ht=>hw (k+1) b t (by simpa using hb) (by simpa using ht)) (fun y hy=>hg y (by simp [hy]))
  unfold zaM zfD
  rw [zo3 (hg t (by simp)) w]
  refine ⟨h1,?_⟩
  rw [List.map_cons,h2]
  congr 1
  unfold toTh
  rw [w.2.2]
theorem zpm{p:zaf}(hk:zgJ p=0)(hn:NumG p):zdC (zjY p)=(p,⟨0,0,0⟩):=by
 have hc:=zri hk
 obtain ⟨t1,t2⟩:=znr hk hn
 unfold zdC
 rw [t1]
 simp only [bne_self_eq_false,Bool.false_eq_true,if_false]
 generalize (zaS (zjY p)).1=T at t2
 have h0:Rd T 0 (tkB (zlO p)++[(4,⟨#[]⟩)]):=by unfold Rd; rw [t2]; rfl
 unfold zlO at h0
 rw [zeD,List.append_assoc] at h0
 obtain ⟨j,h1,h2⟩:=zmj p.zSy [] 0 _ hc.syms (by simpa using hc.ns) hn.sym h0
 obtain ⟨S,h3,h4,h5,bs,h6,h7,h8⟩:=zod hc p.zTh j _ [] none (fun t ht=>(hc.th t ht).ins) (by simp [PSt.bs]; exact hc.nt) hn.ins h2
 obtain ⟨a0,b1,_,b3⟩:=h5.cons
 simp only at b1
 have hend:S.at_+1=T.length:=by
  unfold Rd at b3
  have:=congrArg List.length b3
  simp only [List.length_drop,List.length_map,List.length_nil] at this
  omega
 have hlast:zfW T S=.inr ⟨S.at_+1,S.syms,S.done,S.cur⟩:=by
  unfold zfW zdF
  rw [b1,if_pos (by decide)]
  unfold zg6
  simp only
  rw [b1,if_neg (by decide)]
 have hgo:Go' T St0 S:=Go'.trans (by simpa [St0] using h1) (by simpa using h3)
 have hgo2:=hgo.trans (Go'.one a0 hlast (by show S.at_<S.at_+1; omega))
 obtain ⟨k,k1,k2⟩:=hgo2
 have hl:zcK T T.length St0=.inr ⟨S.at_+1,S.syms,S.done,S.cur⟩:=by
  have:=k2 (T.length-k)
  have hk:k<=T.length:=by
   have:St0.at_=0:=rfl
   simp only at k1; omega
  rw [show T.length-k+k=T.length by omega] at this
  rw [this]
  cases T.length-k with
  | zero=>rfl
  | succ n=>rw [zcK,if_neg (by simp only; omega)]
 unfold zf8
 rw [hl]
 simp only
 have hbs:(PSt.mk (S.at_+1) S.syms S.done S.cur).bs=bs:=by
  have:(PSt.mk (S.at_+1) S.syms S.done S.cur).bs=S.bs:=rfl
  rw [this,h6]; simp [PSt.bs]
 rw [hbs]
 obtain ⟨w1,w2⟩:=zjQ bs p.zTh 0 h7 h8 hc.th
 unfold zfP
 rw [w1]
 simp only
 rw [w2,h4]
end Go.Vs
end
