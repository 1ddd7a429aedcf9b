import Derived.Test.YtocjejladeeckaaDoorPP2
set_option linter.all false
section
namespace Go.Vs
local instance tabPalP9:Tab:=⟨fun _=>none⟩
structure StOk (T:List zab) (S:PSt):Prop where
 at_:S.at_<=T.length
 syms:S.syms.length<=64
 done:S.done.length+S.cur.toList.length<=64
 cur:∀c,S.cur=some c->c.all.length<=S.at_/\c.open_.length<=S.at_/\c.zFi.length<=S.at_/\c.zTg.length=c.zFi.length/\c.ins.length=c.zFi.length
def ziM(T:List zab)(S:PSt):zag ⊕ PSt:=match S.cur with
 | none=>.inl (flt 4 (tk T S.at_))
 | some c=>match zfL T T.length S.at_ c.all c.open_ with
  | .inl f=>.inl f
  | .inr (j,al,op)=>if (tk T j).Kind==4 then .inr ⟨j,S.syms,S.done,some ⟨c.head,al,op,c.zFi,c.zTg,c.ins⟩⟩
   else match insP T S.syms j with
    | .inl f=>.inl f
    | .inr ((y,t),k)=>.inr ⟨k,S.syms,S.done,some ⟨c.head,al,[],c.zFi++[tk T j],c.zTg++[t],c.ins++[⟨y.Op,y.Lock,y.Cond,y.A,y.B,y.To,op⟩]⟩⟩
def zii(T:List zab)(q:zag ⊕ PSt):zag ⊕ PSt:=match q with
 | .inl f=>.inl f
 | .inr S=>if (tk T S.at_).Kind != 4 then .inl (flt 4 (tk T S.at_)) else .inr ⟨S.at_+1,S.syms,S.done,S.cur⟩
theorem zin(T:List zab)(S:PSt)(f:zag)(hT:zcx T)(hi:S.at_<T.length):∃ok R',za3 (stB T S f)=some (ok,R')/\OutB T f ok R' (zii T (.inr S)):=by
 have hl:=hT.len
 unfold za3 zii
 show ∃ok R',(if InB (S.at_:Int) T.length then (if ((rd T (S.at_:Int)).Kind != 4)=true then (if InB (S.at_:Int) T.length then _ else _) else _) else none)=some (ok,R')/\_
 rw [if_pos (zbA hi),if_pos (zbA hi)]
 by_cases h:((tk T S.at_).Kind != 4)=true
 ·simp only
  rw [if_pos h,if_pos h]
  exact ⟨_,_,rfl,rfl,rfl⟩
 ·simp only
  rw [if_neg h,if_neg h]
  exact ⟨_,_,rfl,rfl,by unfold stB; simp only; rw [w1 (by omega)]; rfl⟩
theorem zlg(R:zaa){k:Nat}(hT:zcx R.l)(hk:k<R.l.length)(ha:R.at_=(k:Int)):zbZ R=some (if (tk R.l k).Kind != 4 then (false,⟨R.l,(k:Int),R.p,R.b,flt 4 (tk R.l k)⟩) else (true,⟨R.l,((k+1:Nat):Int),R.p,R.b,R.f⟩)):=by
 have hl:=hT.len
 unfold zbZ
 rw [ha,if_pos (zbA hk),if_pos (zbA hk)]
 by_cases h:((tk R.l k).Kind != 4)=true
 ·rw [if_pos h,if_pos h]; rfl
 ·rw [if_neg h,if_neg h,w1 (by omega)]
theorem zp7(S:PSt){c:Bd}(h:S.cur=some c):S.bs=S.done++[c]:=by unfold PSt.bs; rw [h]; rfl
theorem zgn(T:List zab)(i:Nat)(syms:List zau)(D:List Bd)(c:Bd)(f:zag):stB T ⟨i,syms,D,some c⟩ f=⟨T,(i:Int),⟨syms,D.map toTh++[⟨c.ins⟩]⟩,D.map toB++[⟨c.head,tmap c.all,c.open_,c.zFi,c.zTg⟩],f⟩:=by
 unfold stB PSt.bs; simp [toTh,toB]
theorem zm1(T:List zab)(S:PSt)(f:zag)(hT:zcx T)(hS:StOk T S)(hi:S.at_<T.length)(hd:S.cur=none->S.done=[]):∃ok R',zbE (stB T S f) (tk T S.at_)=some (ok,R')/\OutB T f ok R' (zii T (ziM T S)):=by
 have hl:=hT.len
 obtain ⟨i,syms,D,cur⟩:=S
 obtain ⟨f1,f2,f3⟩:=f
 cases cur with
 | none =>
  have hd':D=[]:=hd rfl
  subst hd'
  exact ⟨_,_,rfl,rfl,rfl⟩
 | some c =>
  obtain ⟨h1,h2,h3,h4⟩:=hS
  obtain ⟨c1,c2,c3,c4,c5⟩:=h4 c rfl
  simp only [Option.toList_some,List.length_singleton] at h3
  simp only at h1 h2 h3 c1 c2 c3 c4 c5 hi
  rw [zgn]
  unfold zbE
  have hlen:(D.map toB++[(⟨c.head,tmap c.all,c.open_,c.zFi,c.zTg⟩:zao)]).length=(D.map toB).length+1:=by simp
  have hw:IntKind.wrap .i64 (((D.map toB++[(⟨c.head,tmap c.all,c.open_,c.zFi,c.zTg⟩:zao)]).length:Int)-1)=((D.map toB).length:Int):=by
   rw [hlen]; exact zpl (by simp; omega)
  have h0:¬(((D.map toB++[(⟨c.head,tmap c.all,c.open_,c.zFi,c.zTg⟩:zao)]).length:Int)==0)=true:=by
   rw [hlen]; simp; omega
  simp only
  rw [if_neg h0,hw,if_pos (zcw _ _)]
  obtain ⟨r,hr1,hr2⟩:=zrt ⟨T,(i:Int),⟨syms,D.map toTh++[⟨c.ins⟩]⟩,D.map toB++[⟨c.head,tmap c.all,c.open_,c.zFi,c.zTg⟩],⟨f1,f2,f3⟩⟩ T syms (D.map toTh++[⟨c.ins⟩]) (D.map toB) c.head c.zFi c.zTg f1 f2 f3 hT hlen (by simp; omega) T.length i c.all c.open_ hi (by omega) c2
  rw [hr1]
  unfold ziM
  simp only
  cases hx:zfL T T.length i c.all c.open_ with
  | inl g =>
   rw [hx] at hr2
   obtain ⟨R',rfl,hf⟩:=hr2
   exact ⟨_,_,rfl,rfl,hf⟩
  | inr q =>
   obtain ⟨j,al,op⟩:=q
   rw [hx] at hr2
   subst hr2
   obtain ⟨n1,n2,w,n3,n4,n5⟩:=ze0 hT _ _ _ _ hi hx
   simp only [Option.bind_some,zcj]
   rw [if_pos (zbA n2)]
   by_cases h4:((tk T j).Kind==4)=true
   ·rw [if_pos h4,if_pos h4]
    obtain ⟨ok,R',e1,e2⟩:=zin T ⟨j,syms,D,some ⟨c.head,al,op,c.zFi,c.zTg,c.ins⟩⟩ ⟨f1,f2,f3⟩ hT n2
    rw [zgn] at e1
    simp only at e1
    rw [e1]
    exact ⟨_,_,rfl,e2⟩
   ·rw [if_neg h4,if_neg h4,if_pos (zcw _ _),if_pos (zbA n2),zfj]
    simp only
    rw [if_pos (zeS (by omega))]
    simp only [Option.bind_some,Int.toNat_natCast,zfv]
    rw [if_pos (zcw _ _),zfj]
    simp only
    rw [if_pos (zeS (by omega))]
    have hil:((j:Int))=((j:Nat):Int):=rfl
    obtain ⟨x,ok,R',e1,e2⟩:=zom ⟨T,(j:Int),⟨syms,D.map toTh++[⟨c.ins⟩]⟩,D.map toB++[⟨c.head,tmap al,op,c.zFi++[tk T j],c.zTg++[zT]⟩],⟨f1,f2,f3⟩⟩ (D.map toB) c.head (tmap al) op (c.zFi++[tk T j]) c.zTg hT n2 h2 rfl rfl (by omega)
    have e1':zaW ⟨T,(j:Int),⟨syms,D.map toTh++[⟨c.ins⟩]⟩,D.map toB++[⟨c.head,tmap al,op,c.zFi++[rd T (j:Int)],c.zTg++[⟨0,0,0,⟨#[]⟩⟩]⟩],⟨f1,f2,f3⟩⟩ ((D.map toB).length:Int)=some (x,ok,R'):=e1
    rw [e1']
    simp only [Option.bind_some]
    unfold zqb at e2
    simp only at e2
    cases hy:insP T syms j with
    | inl g =>
     rw [hy] at e2
     obtain ⟨rfl,hf⟩:=e2
     simp only [Bool.not_false,Bool.not_true,Bool.false_eq_true,if_false,Option.bind_some,Bool.or_self,if_true]
     exact ⟨_,_,rfl,rfl,hf⟩
    | inr q =>
     obtain ⟨⟨y,t⟩,k⟩:=q
     rw [hy] at e2
     obtain ⟨rfl,rfl,rfl⟩:=e2
     obtain ⟨m1,m2,m3,m4⟩:=zgY hT n2 hy
     simp only [Bool.not_true,Bool.not_false,if_true]
     rw [zlg (k:=k) _ hT m2 rfl]
     simp only [Option.bind_some,zii]
     by_cases h5:((tk T k).Kind != 4)=true
     ·rw [if_pos h5,if_pos h5]
      simp only [Bool.not_true,Bool.not_false,Bool.or_true,if_true]
      exact ⟨_,_,rfl,rfl,rfl⟩
     ·rw [if_neg h5,if_neg h5]
      simp only [Bool.not_true,Bool.or_self,Bool.false_eq_true,if_false]
      rw [if_pos (zcw _ _),zfj]
      simp only [Option.bind_some,Int.toNat_natCast,zfv]
      have hw2:IntKind.wrap .i64 (((D.map toTh++[(⟨c.ins⟩:zaj)]).length:Int)-1)=((D.map toTh).length:Int):=by
       rw [List.length_append,List.length_singleton]; exact zpl (by simp; omega)
      rw [hw2,if_pos (zcw _ _),zfj]
      simp only
      rw [if_pos (zeS (by omega))]
      simp only [Int.toNat_natCast,zfv]
      rw [if_pos (zcw _ _)]
      exact ⟨_,_,rfl,rfl,by rw [zgn]⟩
end Go.Vs
end
section
namespace Go.Vs
local instance tabPalPA:Tab:=⟨fun _=>none⟩
def zdN(T:List zab)(n:Int):Nat->Nat->List Int->zag ⊕ (Nat × List Int)
 | 0,i,l=>.inr (i,l)
 | k+1,i,l=>if (tk T i).Kind==2 then (if (l.length:Int)==n then .inl (flt 5 (tk T i)) else zdN T n k (i+1) (l++[(zbY (tk T i).Text).1])) else .inr (i,l)
theorem zfr{T:List zab}{n:Int}(hT:zcx T)(hn:0<=n):∀(k i:Nat) (l:List Int) {j l'},i<T.length->(l.length:Int)<=n->zdN T n k i l=.inr (j,l')->i<=j/\j<T.length/\(l'.length:Int)<=n
 | 0,i,l,j,l',hi,hl,h=>by
  simp only [zdN,Sum.inr.injEq,Prod.mk.injEq] at h
  obtain ⟨rfl,rfl⟩:=h
  exact ⟨Nat.le_refl _,hi,hl⟩
 | k+1,i,l,j,l',hi,hl,h=>by
  unfold zdN at h
  split at h
  ·rename_i hk
   have h1:i+1<T.length:=hT.next i hi (zc1 hk (by decide))
   split at h
   ·cases h
   ·rename_i hne
    have hne':¬(l.length:Int)=n:=by simpa using hne
    obtain ⟨a,b,c⟩:=zfr hT hn k (i+1) _ h1 (by simp; omega) h
    exact ⟨by omega,b,c⟩
  ·simp only [Sum.inr.injEq,Prod.mk.injEq] at h
   obtain ⟨rfl,rfl⟩:=h
   exact ⟨Nat.le_refl _,hi,hl⟩
def symP(T:List zab)(S:PSt):zag ⊕ PSt :=
 if S.bs.length>0 then .inl (flt 4 (tk T S.at_))
 else if S.syms.length≥64 then .inl (flt 10 (tk T S.at_))
 else match nameP T (S.at_+1) with
  | some f=>.inl f
  | none=>match fnd (zeK S.syms) (tk T (S.at_+1)).Text with
   | some _=>.inl (flt 6 (tk T (S.at_+1)))
   | none=>if (tk T (S.at_+2)).Kind != 2 then .inl (flt 4 (tk T (S.at_+2)))
    else if decide ((zbY (tk T (S.at_+2)).Text).1<1)||decide ((zbY (tk T (S.at_+2)).Text).1>64) then .inl (flt 5 (tk T (S.at_+2)))
    else match zdN T (zbY (tk T (S.at_+2)).Text).1 T.length (S.at_+3) [] with
     | .inl f=>.inl f
     | .inr (j,l)=>.inr ⟨j,S.syms++[⟨(tk T (S.at_+1)).Text,(zbY (tk T (S.at_+2)).Text).1,l⟩],S.done,S.cur⟩
def thrP(T:List zab)(S:PSt):zag ⊕ PSt :=
 if S.bs.length≥64 then .inl (flt 10 (tk T S.at_)) else .inr ⟨S.at_+1,S.syms,S.bs,some ⟨tk T S.at_,[],[],[],[],[]⟩⟩
theorem zhQ(v16:Int × Bool × zaa)(v25:Int × Bool)(hT:zcx v16.2.2.l)(hn:v25.1<=64):∀(k i:Nat) (l:List Int),i<v16.2.2.l.length->v16.2.2.l.length-i<=k->(l.length:Int)<=v25.1->∃r,zbg (za0 v16 v25) ((i:Int),l)=some r/\match zdN v16.2.2.l v25.1 k i l with
  | .inl g=>∃R',r=.inr (false,R')/\R'.f=g
  | .inr (j,l')=>r=.inl ((j:Int),l')
 | 0,i,l,hi,hk,hl=>by omega
 | k+1,i,l,hi,hk,hl=>by
  have hlen:=hT.len
  unfold zdN
  by_cases h2:((tk v16.2.2.l i).Kind==2)=true
  ·rw [if_pos h2]
   have h1:i+1<v16.2.2.l.length:=hT.next i hi (zc1 h2 (by decide))
   by_cases he:((l.length:Int)==v25.1)=true
   ·rw [if_pos he]
    refine ⟨_,zaG (r:=.inr (false,⟨v16.2.2.l,(i:Int),v16.2.2.p,v16.2.2.b,flt 5 (tk v16.2.2.l i)⟩)) ?_,_,rfl,rfl⟩
    simp only [za0]
    rw [if_pos (zbA hi),if_pos h2,if_pos he,if_pos (zbA hi)]
    rfl
   ·rw [if_neg he]
    have he':¬(l.length:Int)=v25.1:=by simpa using he
    rw [zbu (a':=(((i+1:Nat):Int),l++[(zbY (tk v16.2.2.l i).Text).1])) ?_]
    ·exact zhQ v16 v25 hT hn k (i+1) _ h1 (by omega) (by simp; omega)
    ·simp only [za0]
     rw [if_pos (zbA hi),if_pos h2,if_neg he,if_pos (zbA hi),hT.read hi]
     simp only [Option.bind_some]
     rw [if_pos (zeS (by omega)),w1 (by omega)]
  ·rw [if_neg h2]
   refine ⟨_,zaG (r:=.inl ((i:Int),l)) ?_,rfl⟩
   simp only [za0]
   rw [if_pos (zbA hi),if_neg h2]
theorem znl(S:PSt):S.bs.length=S.done.length+S.cur.toList.length:=by unfold PSt.bs; simp
theorem zjM(T:List zab)(S:PSt)(f:zag)(hT:zcx T)(hS:StOk T S)(hi:S.at_+1<T.length):∃ok R',zbC (stB T S f) (tk T S.at_)=some (ok,R')/\OutB T f ok R' (zii T (symP T S)):=by
 have hl:=hT.len
 have hsy:=hS.syms
 unfold zbC symP
 have hb:((stB T S f).b.length:Int)=(S.bs.length:Int):=by simp [stB]
 have hat:(stB T S f).at_=(S.at_:Int):=rfl
 have hll:(stB T S f).l=T:=rfl
 have hss:(stB T S f).p.zSy=S.syms:=rfl
 rw [hb,hat,hll,hss]
 by_cases h0:S.bs.length>0
 ·rw [if_pos (by simpa using h0),if_pos h0]
  exact ⟨_,_,rfl,rfl,rfl⟩
 rw [if_neg (by simpa using h0),if_neg h0]
 by_cases h64:S.syms.length≥64
 ·rw [if_pos (by simp; omega),if_pos h64]
  exact ⟨_,_,rfl,rfl,rfl⟩
 rw [if_neg (by simp; omega),if_neg h64,w1 (show S.at_<=2000010 by omega),if_pos (zbA hi),zct]
 unfold nameP
 by_cases h1:((tk T (S.at_+1)).Kind != 1)=true
 ·rw [if_pos h1,if_pos h1]
  exact ⟨_,_,rfl,rfl,rfl⟩
 rw [if_neg h1,if_neg h1]
 have h1':(tk T (S.at_+1)).Kind=1:=by simpa [bne] using h1
 have hi2:S.at_+2<T.length:=hT.next (S.at_+1) hi (by show (tk T (S.at_+1)).Kind≠4; omega)
 simp only [Option.bind_some]
 by_cases hw:zeD (tk T (S.at_+1)).Text=true
 ·rw [if_pos hw,if_pos hw]
  exact ⟨_,_,rfl,rfl,rfl⟩
 rw [if_neg hw,if_neg hw,zpW _ _ (by rw [hss]; omega),hss]
 simp only [Option.bind_some]
 cases hf:fnd (zeK S.syms) (tk T (S.at_+1)).Text with
 | some k =>
  simp only [if_true]
  exact ⟨_,_,rfl,rfl,rfl⟩
 | none =>
  simp only [Bool.false_eq_true,if_false]
  rw [hat,hll,w2 (show S.at_<=2000010 by omega),if_pos (zbA hi2)]
  by_cases h2:((tk T (S.at_+2)).Kind != 2)=true
  ·rw [if_pos h2,if_pos h2]
   exact ⟨_,_,rfl,rfl,rfl⟩
  rw [if_neg h2,if_neg h2]
  have h2':(tk T (S.at_+2)).Kind=2:=by simpa [bne] using h2
  have hi3:S.at_+3<T.length:=hT.next (S.at_+2) hi2 (by show (tk T (S.at_+2)).Kind≠4; omega)
  rw [hT.read hi2]
  simp only [Option.bind_some]
  by_cases hr:(decide ((zbY (tk T (S.at_+2)).Text).1<1)||decide ((zbY (tk T (S.at_+2)).Text).1>64))=true
  ·rw [if_pos hr,if_pos hr]
   exact ⟨_,_,rfl,rfl,rfl⟩
  rw [if_neg hr,if_neg hr,w3 (show S.at_<=2000010 by omega)]
  have hr':=hr
  simp only [Bool.or_eq_true,decide_eq_true_eq,not_or,Int.not_lt,Int.not_gt_eq] at hr'
  obtain ⟨r,e1,e2⟩:=zhQ (0,false,stB T S f) (zbY (tk T (S.at_+2)).Text) hT hr'.2 T.length (S.at_+3) [] hi3 (by show T.length-(S.at_+3)<=T.length; omega) (by simp; omega)
  rw [e1]
  simp only at e2
  rw [hll] at e2
  cases hx:zdN T (zbY (tk T (S.at_+2)).Text).1 T.length (S.at_+3) [] with
  | inl g =>
   rw [hx] at e2
   obtain ⟨R',rfl,hf⟩:=e2
   exact ⟨_,_,rfl,rfl,hf⟩
  | inr q =>
   obtain ⟨j,l⟩:=q
   rw [hx] at e2
   subst e2
   obtain ⟨_,hj,_⟩:=zfr hT (by omega) _ _ _ hi3 (by simp; omega) hx
   simp only [Option.bind_some,zcj]
   rw [if_pos (zeS (by rw [hss]; omega)),hss]
   obtain ⟨ok,R',k1,k2⟩:=zin T ⟨j,S.syms++[⟨(tk T (S.at_+1)).Text,(zbY (tk T (S.at_+2)).Text).1,l⟩],S.done,S.cur⟩ f hT hj
   have k1':za3 ⟨T,(j:Int),⟨S.syms++[⟨(rd T ((S.at_+1:Nat):Int)).Text,(zbY (tk T (S.at_+2)).Text).1,l⟩],(stB T S f).p.zTh⟩,(stB T S f).b,(stB T S f).f⟩=some (ok,R'):=k1
   rw [k1']
   exact ⟨_,_,rfl,k2⟩
end Go.Vs
end
section
namespace Go.Vs
local instance tabPalPB:Tab:=⟨fun _=>none⟩
def symW:ByteArray:=⟨#[115,121,109]⟩
def thrW:ByteArray:=⟨#[116,104,114,101,97,100]⟩
def zd2(T:List zab)(S:PSt):zag ⊕ PSt :=
 if (tk T S.at_).Kind==4 then .inr S
 else if ((tk T S.at_).Kind==1)&&decide ((tk T S.at_).Text=symW) then symP T S
 else if ((tk T S.at_).Kind==1)&&decide ((tk T S.at_).Text=thrW) then thrP T S
 else ziM T S
def zjD(T:List zab)(S:PSt):zag ⊕ PSt:=zii T (zd2 T S)
theorem zmY(T:List zab)(S:PSt)(f:zag)(hT:zcx T)(hS:StOk T S)(hi:S.at_<T.length)(hd:S.cur=none->S.done=[]):∃ok R',zbO (stB T S f)=some (ok,R')/\OutB T f ok R' (zjD T S):=by
 have hl:=hT.len
 have hlen:=znl S
 have hdone:=hS.done
 unfold zbO zjD zd2
 show ∃ok R',(if InB (S.at_:Int) T.length then (if ((rd T (S.at_:Int)).Kind==4)=true then _ else (some (((rd T (S.at_:Int)).Kind==1)&&decide ((rd T (S.at_:Int)).Text=symW))).bind _) else none)=some (ok,R')/\_
 rw [if_pos (zbA hi)]
 by_cases h4:((tk T S.at_).Kind==4)=true
 ·rw [if_pos h4,if_pos h4]
  refine ⟨_,_,rfl,?_⟩
  unfold zii
  have h4':(tk T S.at_).Kind=4:=by simpa using h4
  simp only
  rw [if_neg (by simp [bne,h4'])]
  refine ⟨rfl,?_⟩
  rw [show IntKind.wrap .i64 ((stB T S f).at_+1)=((S.at_+1:Nat):Int) from w1 (by omega)]
  rfl
 rw [if_neg h4,if_neg h4]
 simp only [Option.bind_some]
 by_cases h1:(((tk T S.at_).Kind==1)&&decide ((tk T S.at_).Text=symW))=true
 ·rw [if_pos h1,if_pos h1]
  have hk:((tk T S.at_).Kind==1)=true:=by simp only [Bool.and_eq_true] at h1; exact h1.1
  obtain ⟨ok,R',e1,e2⟩:=zjM T S f hT hS (hT.next _ hi (zc1 hk (by decide)))
  have e1':zbC (stB T S f) (rd (stB T S f).l (stB T S f).at_)=some (ok,R'):=e1
  rw [e1']
  exact ⟨_,_,rfl,e2⟩
 rw [if_neg h1,if_neg h1]
 show ∃ok R',(if (((tk T S.at_).Kind==1)&&decide ((tk T S.at_).Text=thrW))=true then _ else _)=some (ok,R')/\_
 by_cases h2:(((tk T S.at_).Kind==1)&&decide ((tk T S.at_).Text=thrW))=true
 ·rw [if_pos h2,if_pos h2]
  have hk:((tk T S.at_).Kind==1)=true:=by simp only [Bool.and_eq_true] at h2; exact h2.1
  unfold thrP
  have hb:(stB T S f).b.length=S.bs.length:=by simp [stB]
  have hb2:(stB T S f).p.zTh.length=S.bs.length:=by simp [stB]
  rw [hb]
  by_cases h64:S.bs.length≥64
  ·rw [if_pos (by simp; omega),if_pos h64]
   exact ⟨_,_,rfl,rfl,rfl⟩
  rw [if_neg (by simp; omega),if_neg h64,if_pos (zeS (by omega)),hb2]
  rw [if_pos (zeS (by omega))]
  obtain ⟨ok,R',e1,e2⟩:=zin T ⟨S.at_+1,S.syms,S.bs,some ⟨tk T S.at_,[],[],[],[],[]⟩⟩ f hT (hT.next _ hi (zc1 hk (by decide)))
  rw [zgn] at e1
  rw [show IntKind.wrap .i64 ((stB T S f).at_+1)=((S.at_+1:Nat):Int) from w1 (by omega)]
  have e1':za3 ⟨T,((S.at_+1:Nat):Int),⟨(stB T S f).p.zSy,(stB T S f).p.zTh++[⟨[]⟩]⟩,(stB T S f).b++[⟨rd T (S.at_:Int),[],[],[],[]⟩],(stB T S f).f⟩=some (ok,R'):=e1
  show ∃ok R',((za3 ⟨T,((S.at_+1:Nat):Int),⟨(stB T S f).p.zSy,(stB T S f).p.zTh++[⟨[]⟩]⟩,(stB T S f).b++[⟨rd T (S.at_:Int),[],[],[],[]⟩],(stB T S f).f⟩).bind fun v20=>some (v20.1,v20.2))=some (ok,R')/\_
  rw [e1']
  exact ⟨_,_,rfl,e2⟩
 rw [if_neg h2,if_neg h2]
 obtain ⟨ok,R',e1,e2⟩:=zm1 T S f hT hS hi hd
 have e1':zbE (stB T S f) (rd (stB T S f).l (stB T S f).at_)=some (ok,R'):=e1
 show ∃ok R',((zbE (stB T S f) (rd (stB T S f).l (stB T S f).at_)).bind fun v22=>some (v22.1,v22.2))=some (ok,R')/\_
 rw [e1']
 exact ⟨_,_,rfl,e2⟩
theorem zjC{T:List zab}{S S':PSt}(hT:zcx T)(hS:StOk T S)(hi:S.at_<T.length)(h:zd2 T S=.inr S'):S.at_<=S'.at_/\S'.at_<T.length/\S'.syms.length<=64/\(S'.done.length+S'.cur.toList.length<=64)/\(∀c,S'.cur=some c->c.all.length<=S'.at_+1/\c.open_.length<=S'.at_+1/\c.zFi.length<=S'.at_+1/\c.zTg.length=c.zFi.length/\c.ins.length=c.zFi.length)/\((S.cur=none->S.done=[])->S'.cur=none->S'.done=[]):=by
 obtain ⟨g1,g2,g3,g4⟩:=hS
 have hbl:=znl S
 unfold zd2 at h
 split at h
 ·cases h
  exact ⟨Nat.le_refl _,hi,g2,g3,fun c hc=>by have:=g4 c hc; omega,fun a=>a⟩
 split at h
 ·rename_i h1
  have hk:((tk T S.at_).Kind==1)=true:=by simp only [Bool.and_eq_true] at h1; exact h1.1
  have hi1:S.at_+1<T.length:=hT.next _ hi (zc1 hk (by decide))
  unfold symP at h
  split at h
  ·cases h
  split at h
  ·cases h
  rename_i h64
  split at h
  ·cases h
  rename_i hnp
  have hi2:S.at_+2<T.length:=hT.next (S.at_+1) hi1 (by have:=zhH hnp; omega)
  split at h
  ·cases h
  split at h
  ·cases h
  rename_i h2
  have h2':(tk T (S.at_+2)).Kind=2:=by simpa [bne] using h2
  have hi3:S.at_+3<T.length:=hT.next (S.at_+2) hi2 (by show (tk T (S.at_+2)).Kind≠4; omega)
  split at h
  ·cases h
  rename_i hr
  simp only [Bool.or_eq_true,decide_eq_true_eq,not_or,Int.not_lt,Int.not_gt_eq] at hr
  split at h
  ·cases h
  rename_i j l hx
  obtain ⟨a,b,_⟩:=zfr hT (by omega) _ _ _ hi3 (by simp; omega) hx
  cases h
  exact ⟨by show S.at_<=j; omega,b,by simp; omega,g3,fun c hc=>by have:=g4 c hc; show c.all.length<=j+1/\c.open_.length<=j+1/\c.zFi.length<=j+1/\_/\_; omega,fun a=>a⟩
 split at h
 ·rename_i h1
  have hk:((tk T S.at_).Kind==1)=true:=by simp only [Bool.and_eq_true] at h1; exact h1.1
  have hi1:S.at_+1<T.length:=hT.next _ hi (zc1 hk (by decide))
  unfold thrP at h
  split at h
  ·cases h
  cases h
  refine ⟨Nat.le_succ _,hi1,g2,by simp; omega,fun c hc=>?_,fun _ e=>by cases e⟩
  cases hc
  simp
 ·unfold ziM at h
  split at h
  ·cases h
  rename_i c hc
  obtain ⟨c1,c2,c3,c4,c5⟩:=g4 c hc
  split at h
  ·cases h
  rename_i j al op hx
  obtain ⟨n1,n2,w,n3,n4,n5⟩:=ze0 hT _ _ _ _ hi hx
  rw [hc] at g3
  have al_len:al.length<=j:=by rw [n3,List.length_append]; omega
  have op_len:op.length<=j:=by rw [n4,List.length_append]; omega
  split at h
  ·cases h
   refine ⟨n1,n2,g2,g3,fun c hc=>?_,fun _ e=>by cases e⟩
   cases hc
   exact ⟨Nat.le_succ_of_le al_len,Nat.le_succ_of_le op_len,(by show c.zFi.length<=j+1; omega),c4,c5⟩
  ·split at h
   ·cases h
   rename_i y t k hy
   obtain ⟨m1,m2,m3,m4⟩:=zgY hT n2 hy
   cases h
   refine ⟨by show S.at_<=k; omega,m2,g2,g3,fun c hc=>?_,fun _ e=>by cases e⟩
   cases hc
   simp only [List.length_append,List.length_singleton,List.length_nil]
   omega
end Go.Vs
end
