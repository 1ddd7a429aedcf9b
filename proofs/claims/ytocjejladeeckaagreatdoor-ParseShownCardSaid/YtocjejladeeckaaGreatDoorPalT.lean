import Derived.Test.YtocjejladeeckaaGreatDoorVu3
set_option linter.all false
namespace Go.Vs
@[go_sem,reducible] def zi(x:Int):AV:=.int .i64 x
@[go_sem,reducible] def zM{α:Type}(b w k:Nat)(l:List α):AV:=.msl b w 0 k l.length l.length
@[go_sem,reducible] def zw(x:Int):Int:=IntKind.wrap .i64 x
theorem zo{α:Type}{a b:α}(h:some a=some b):a=b:=Option.some.inj h
variable [Tab]
@[go_sem] def eInt(k:IntKind)(n:Int):List AV:=[.int k n]
@[go_sem] def eStr(s:ByteArray):List AV:=[.str s]
@[go_sem] def eSl{α:Type}(f:α->List AV)(l:List α):List AV:=[.sl (l.map f)]
@[go_sem] theorem zy1{k:IntKind}(l:List Int):(l.map (eInt k)).all clB=true:=cl_o (fun _ _=>rfl) l
@[go_sem] theorem zwI{k:IntKind}(l:List Int):frzR (l.map (eInt k))=l.map (eInt k):=znf (fun _=>rfl) l
@[go_sem] theorem zyI{k:IntKind}(l:List Int):okR (l.map (eInt k))=true:=ok_o (fun _=>rfl) l
@[go_sem] theorem zux{k:IntKind}(n:Nat)(l:List Int):(l.map (eInt k)).all (zbE n)=true:=by simp only [List.all_map,List.all_eq_true]; intro x _; rfl
@[go_sem] theorem zuV{k:IntKind}(l:List Int):(l.map (eInt k)).all zcA=true:=by simp only [List.all_map,List.all_eq_true]; intro x _; rfl
@[go_sem] theorem zwk{m:Nat->Nat}(l:List ByteArray):(l.map eStr).map (rens m)=l.map eStr:=zrN (fun _=>rfl) l
@[go_sem] theorem zy0(l:List ByteArray):(l.map eStr).all clB=true:=cl_o (fun _ _=>rfl) l
@[go_sem] theorem zwH(l:List ByteArray):frzR (l.map eStr)=l.map eStr:=znf (fun _=>rfl) l
@[go_sem] theorem zyH(l:List ByteArray):okR (l.map eStr)=true:=ok_o (fun _=>rfl) l
@[go_sem] theorem zuw(n:Nat)(l:List ByteArray):(l.map eStr).all (zbE n)=true:=by simp only [List.all_map,List.all_eq_true]; intro x _; rfl
@[go_sem] theorem zuU(l:List ByteArray):(l.map eStr).all zcA=true:=by simp only [List.all_map,List.all_eq_true]; intro x _; rfl
def ziJ(l:List Int):ByteArray:=⟨(l.map fun n=>UInt8.ofNat n.toNat).toArray⟩
@[go_sem] theorem ztf(n:Int):ziS [[.int .u8 n]]=some (ziJ [n]):=rfl
@[go_sem] theorem zte(n m:Int):ziS [[.int .u8 n],[.int .u8 m]]=some (ziJ [n,m]):=rfl
def zbu{α β γ:Type}(f:α->Option γ)(g:β->Option γ):α ⊕ β->Option γ | .inl a=>f a | .inr b=>g b
theorem zc5{α β γ:Type}{f:α->Option γ}{g:β->Option γ}{a:α}{x:Option γ}(h:zbu f g (.inl a)=x):f a=x:=h
theorem zc4{α β γ:Type}{f:α->Option γ}{g:β->Option γ}{b:β}{x:Option γ}(h:zbu f g (.inr b)=x):g b=x:=h
attribute [go_sem] List.all_append List.all_cons List.all_nil
@[go_sem] theorem zy4{α:Type}{p:α->Bool}{l:List α}{i:Nat}{a:α}(hl:l.all p=true)(ha:p a=true):(l.set i a).all p=true:=by
 rw [List.all_eq_true] at hl ⊢
 intro x hx
 rcases List.mem_or_eq_of_mem_set hx with h | h
 ·exact hl x h
 ·rw [h]; exact ha
structure zan where
 mk ::
 Name:ByteArray
 Size:Int
 Init:(List Int)
 deriving Inhabited,DecidableEq
@[go_sem] def zaD(x:zan):List AV:=[.str x.Name,.int .i64 x.Size,.sl (x.Init.map (eInt .i64))]
@[go_sem] theorem zrT(l:List zan):(l.map zaD).all zcA=true:=by simp only [List.all_map,List.all_eq_true]; intro x _; rfl
@[go_sem] theorem zrt(n:Nat)(l:List zan):(l.map zaD).all (zbE n)=true:=by simp only [List.all_map,List.all_eq_true]; intro x _; rfl
@[go_sem] theorem ztS(l:List zan):(l.map zaD).all clB=true:=cl_o (fun _ _=>rfl) l
@[go_sem] theorem zsF{m:Nat->Nat}(l:List zan):(l.map zaD).map (rens m)=l.map zaD:=zrN (fun _=>rfl) l
@[go_sem] theorem zsQ(l:List zan):frzR (l.map zaD)=l.map zaD:=znf (fun _=>rfl) l
@[go_sem] theorem zts(l:List zan):okR (l.map zaD)=true:=ok_o (fun _=>rfl) l
structure zak where
 mk ::
 Kind:Int
 Reg:Int
 Sym:Int
 N:Int
 deriving Inhabited,DecidableEq
@[go_sem] def ziF(x:zak):List AV:=[.int .i64 x.Kind,.int .i64 x.Reg,.int .i64 x.Sym,.int .i64 x.N]
structure zad where
 mk ::
 Op:Int
 Lock:Bool
 Cond:Int
 A:zak
 B:zak
 To:ByteArray
 zLb:(List ByteArray)
 deriving Inhabited,DecidableEq
@[go_sem] def zas(x:zad):List AV:=[.int .i64 x.Op,.bool x.Lock,.int .i64 x.Cond,.int .i64 x.A.Kind,.int .i64 x.A.Reg,.int .i64 x.A.Sym,.int .i64 x.A.N,.int .i64 x.B.Kind,.int .i64 x.B.Reg,.int .i64 x.B.Sym,.int .i64 x.B.N,.str x.To,.sl (x.zLb.map eStr)]
@[go_sem] theorem zrU(l:List zad):(l.map zas).all zcA=true:=by simp only [List.all_map,List.all_eq_true]; intro x _; rfl
@[go_sem] theorem zru(n:Nat)(l:List zad):(l.map zas).all (zbE n)=true:=by simp only [List.all_map,List.all_eq_true]; intro x _; rfl
@[go_sem] theorem ztT(l:List zad):(l.map zas).all clB=true:=cl_o (fun _ _=>rfl) l
@[go_sem] theorem zsR(l:List zad):frzR (l.map zas)=l.map zas:=znf (fun _=>rfl) l
@[go_sem] theorem ztt(l:List zad):okR (l.map zas)=true:=ok_o (fun _=>rfl) l
structure zae where
 mk ::
 Ins:(List zad)
 deriving Inhabited,DecidableEq
@[go_sem] def zav(x:zae):List AV:=[.sl (x.Ins.map zas)]
@[go_sem] def zaz(x:zae):List AV:=[.zBx (x.Ins.map zas) 13 63]
@[go_sem] theorem zpD(n:Nat)(l:List zae):(l.map zaz).all (zbE n)=true:=zn3 (fun _ _=>rfl) n l
@[go_sem] theorem zrs(l:List zae):(l.map zaz).all clB=true:=cl_o (fun _ _=>rfl) l
@[go_sem] theorem zqf{m:Nat->Nat}(l:List zae):(l.map zaz).map (rens m)=l.map zaz:=zrN (fun _=>rfl) l
@[go_sem] theorem zq4(l:List zae):frzR (l.map zaz)=l.map zav:=znf (fun x=>by simp only [zaz,zav,frzL,frzC,go_sem]) l
@[go_sem] theorem zrl(l:List zae):okR (l.map zaz)=true:=ok_o (fun x=>by simp only [zaz,okL,okC,zek,Bool.and_true,Bool.true_and,go_sem]) l
structure zaf where
 mk ::
 zSy:(List zan)
 zTh:(List zae)
 deriving Inhabited,DecidableEq
@[go_sem] def zam(x:zaf):List AV:=[.sl (x.zSy.map zaD),.sl (x.zTh.map zav)]
structure zai where
 mk ::
 Code:Int
 Line:Int
 Col:Int
 deriving Inhabited,DecidableEq
@[go_sem] def zce(x:zai):List AV:=[.int .i64 x.Code,.int .i64 x.Line,.int .i64 x.Col]
structure zaa where
 mk ::
 Kind:Int
 Line:Int
 Col:Int
 Text:ByteArray
 deriving Inhabited,DecidableEq
@[go_sem] def zaj(x:zaa):List AV:=[.int .i64 x.Kind,.int .i64 x.Line,.int .i64 x.Col,.str x.Text]
@[go_sem] theorem zqr(l:List zaa):(l.map zaj).all zcA=true:=by simp only [List.all_map,List.all_eq_true]; intro x _; rfl
@[go_sem] theorem zpL(n:Nat)(l:List zaa):(l.map zaj).all (zbE n)=true:=by simp only [List.all_map,List.all_eq_true]; intro x _; rfl
@[go_sem] theorem zss(l:List zaa):(l.map zaj).all clB=true:=cl_o (fun _ _=>rfl) l
@[go_sem] theorem zrn(l:List zaa):frzR (l.map zaj)=l.map zaj:=znf (fun _=>rfl) l
@[go_sem] theorem zrX(l:List zaa):okR (l.map zaj)=true:=ok_o (fun _=>rfl) l
@[go_sem] theorem zzt{l:List (List zaa)}{i:Int}(h:InB i l.length):(l.map (oSl 4 41 zaj)).set i.toNat [.zBx ((rd l i).map zaj) 4 41]=l.map (oSl 4 41 zaj):=zuQ h rfl
structure zbd where
 mk ::
 Kind:Int
 A:Int
 B:Int
 C:Int
 N:Int
 deriving Inhabited,DecidableEq
@[go_sem] def zpK(x:zbd):List AV:=[.int .i64 x.Kind,.int .i64 x.A,.int .i64 x.B,.int .i64 x.C,.int .i64 x.N]
structure zao where
 mk ::
 Rune:Int
 At:Int
 Size:Int
 Line:Int
 Col:Int
 Bad:Bool
 deriving Inhabited,DecidableEq
@[go_sem] def zar(x:zao):List AV:=[.int .i32 x.Rune,.int .i64 x.At,.int .i64 x.Size,.int .i64 x.Line,.int .i64 x.Col,.bool x.Bad]
@[go_sem] theorem zmF(l:List zao):(l.map zar).all zcA=true:=by simp only [List.all_map,List.all_eq_true]; intro x _; rfl
@[go_sem] theorem zmb(n:Nat)(l:List zao):(l.map zar).all (zbE n)=true:=by simp only [List.all_map,List.all_eq_true]; intro x _; rfl
@[go_sem] theorem znp(l:List zao):frzR (l.map zar)=l.map zar:=znf (fun _=>rfl) l
@[go_sem] theorem znH(l:List zao):okR (l.map zar)=true:=ok_o (fun _=>rfl) l
structure zat where
 mk ::
 head:zaa
 labels:(List (ByteArray × Bool))
 open_:(List ByteArray)
 zFi:(List zaa)
 zTg:(List zaa)
 deriving Inhabited,DecidableEq
@[go_sem] def zag(x:zat):List AV:=[.int .i64 x.head.Kind,.int .i64 x.head.Line,.int .i64 x.head.Col,.str x.head.Text,.zBm (x.labels.map (eKV AV.str AV.bool)),.zBx (x.open_.map eStr) 1 9,.zBx (x.zFi.map zaj) 4 41,.zBx (x.zTg.map zaj) 4 41]
@[go_sem] theorem zpC(n:Nat)(l:List zat):(l.map zag).all (zbE n)=true:=zn3 (fun _ _=>rfl) n l
@[go_sem] theorem zrr(l:List zat):(l.map zag).all clB=true:=cl_o (fun _ _=>rfl) l
@[go_sem] theorem zqe{m:Nat->Nat}(l:List zat):(l.map zag).map (rens m)=l.map zag:=zrN (fun _=>rfl) l
@[go_sem] theorem zp0{l:List zat}{i:Int}(h:InB i l.length):(l.map zag).set i.toNat [.int .i64 ((rd l i).head.Kind),.int .i64 ((rd l i).head.Line),.int .i64 ((rd l i).head.Col),.str ((rd l i).head.Text),.zBm (((rd l i).labels).map (eKV AV.str AV.bool)),.zBx (((rd l i).open_).map eStr) 1 9,.zBx (((rd l i).zFi).map zaj) 4 41,.zBx (((rd l i).zTg).map zaj) 4 41]=l.map zag:=zuQ h rfl
structure zab where
 mk ::
 l:(List zaa)
 at_:Int
 p:zaf
 b:(List zat)
 f:zai
 deriving Inhabited,DecidableEq
@[go_sem] def zaA(x:zab):List AV:=[.sl (x.l.map zaj),.int .i64 x.at_,.zBx (x.p.zSy.map zaD) 3 54,.zBx (x.p.zTh.map zaz) 1 59,.zBx (x.b.map zag) 8 109,.int .i64 x.f.Code,.int .i64 x.f.Line,.int .i64 x.f.Col]
structure zac where
 mk ::
 T:(List zaa)
 I:Int
 P:zaf
 zHd:(List zaa)
 First:(List (List zaa))
 To:(List (List zaa))
 Left:(List Int)
 All:(List ByteArray)
 Wait:(List ByteArray)
 Bad:zai
 deriving Inhabited,DecidableEq
@[go_sem] def znJ(x:zac):List AV:=[.sl (x.T.map zaj),.int .i64 x.I,.zBx (x.P.zSy.map zaD) 3 54,.zBx (x.P.zTh.map zaz) 1 59,.zBx (x.zHd.map zaj) 4 41,.zBx (x.First.map (oSl 4 41 zaj)) 1 34,.zBx (x.To.map (oSl 4 41 zaj)) 1 34,.zBx (x.Left.map (eInt .i64)) 1 3,.zBx (x.All.map eStr) 1 9,.zBx (x.Wait.map eStr) 1 9,.int .i64 x.Bad.Code,.int .i64 x.Bad.Line,.int .i64 x.Bad.Col]
structure zal where
 mk ::
 Rune:Int
 At:Int
 Size:Int
 Line:Int
 Col:Int
 Bad:Bool
 deriving Inhabited,DecidableEq
@[go_sem] def zax(x:zal):List AV:=[.int .i32 x.Rune,.int .i64 x.At,.int .i64 x.Size,.int .i64 x.Line,.int .i64 x.Col,.bool x.Bad]
@[go_sem] theorem zpH(l:List zal):(l.map zax).all zcA=true:=by simp only [List.all_map,List.all_eq_true]; intro x _; rfl
@[go_sem] theorem zpE(n:Nat)(l:List zal):(l.map zax).all (zbE n)=true:=by simp only [List.all_map,List.all_eq_true]; intro x _; rfl
@[go_sem] theorem zq5(l:List zal):frzR (l.map zax)=l.map zax:=znf (fun _=>rfl) l
@[go_sem] theorem zrm(l:List zal):okR (l.map zax)=true:=ok_o (fun _=>rfl) l
structure zf0 where
 mk ::
 Reg:Int
 deriving Inhabited,DecidableEq
structure zf1 where
 mk ::
 N:Int
 deriving Inhabited,DecidableEq
structure zgC where
 mk ::
 Sym:Int
 N:Int
 deriving Inhabited,DecidableEq
structure zgB where
 mk ::
 Sym:Int
 Reg:Int
 deriving Inhabited,DecidableEq
inductive zcf where
 | nil
 | RegPart (x:zf0)
 | NumPart (x:zf1)
 | AtPart (x:zgC)
 | ByPart (x:zgB)
 deriving Inhabited,DecidableEq
def zc1:zcf->AV
 | .nil=>.nili
 | .RegPart x=>.iface 180 (.agg [.int .i64 x.Reg])
 | .NumPart x=>.iface 185 (.agg [.int .i64 x.N])
 | .AtPart x=>.iface 187 (.agg [.int .i64 x.Sym,.int .i64 x.N])
 | .ByPart x=>.iface 189 (.agg [.int .i64 x.Sym,.int .i64 x.Reg])
@[go_sem] theorem zeY:zc1 .nil=.nili:=rfl
@[go_sem] theorem zdY{x:zf0}:zc1 (.RegPart x)=.iface 180 (.agg [.int .i64 x.Reg]):=rfl
@[go_sem] theorem zdZ{x:zf1}:zc1 (.NumPart x)=.iface 185 (.agg [.int .i64 x.N]):=rfl
@[go_sem] theorem zed{x:zgC}:zc1 (.AtPart x)=.iface 187 (.agg [.int .i64 x.Sym,.int .i64 x.N]):=rfl
@[go_sem] theorem zec{x:zgB}:zc1 (.ByPart x)=.iface 189 (.agg [.int .i64 x.Sym,.int .i64 x.Reg]):=rfl
@[go_sem] theorem zpI{x:zcf}:zek (zc1 x)=true:=by cases x <;> rfl
@[go_sem] theorem zpF{k:Nat}{x:zcf}:za3 k (zc1 x)=true:=by cases x <;> rfl
@[go_sem,reducible] def zbS(l:List zan):AV:=.zBx (l.map zaD) 3 54
@[go_sem,reducible] def zbT(l:List zae):AV:=.zBx (l.map zaz) 1 59
@[go_sem,reducible] def zbB(l:List zat):AV:=.zBx (l.map zag) 8 109
@[go_sem,reducible] def zbK(l:List zaa):AV:=.zBx (l.map zaj) 4 41
@[go_sem,reducible] def zbL(l:List (List zaa)):AV:=.zBx (l.map (oSl 4 41 zaj)) 1 34
@[go_sem,reducible] def zbI(l:List Int):AV:=.zBx (l.map (eInt .i64)) 1 3
@[go_sem,reducible] def zbW(l:List ByteArray):AV:=.zBx (l.map eStr) 1 9
@[go_sem,reducible] def zkc(l:List zaa)(a:Int)(s t b:AV)(c d e:Int):LO:=.cells [.sl (l.map zaj),.int .i64 a,s,t,b,.int .i64 c,.int .i64 d,.int .i64 e] 0 82
@[go_sem,reducible] def zkb(x:zab)(a:Int)(s t b:AV):LO:=.cells [.sl (x.l.map zaj),.int .i64 a,s,t,b,.int .i64 x.f.Code,.int .i64 x.f.Line,.int .i64 x.f.Col] 0 82
@[go_sem,reducible] def zka(x:zab)(a:Int)(b:AV):LO:=.cells [.sl (x.l.map zaj),.int .i64 a,.zBx (x.p.zSy.map zaD) 3 54,.zBx (x.p.zTh.map zaz) 1 59,b,.int .i64 x.f.Code,.int .i64 x.f.Line,.int .i64 x.f.Col] 0 82
@[go_sem,reducible] def zqd(l:List zaa)(a:Int)(s t h f g u v w:AV)(c d e:Int):LO:=.cells [.sl (l.map zaj),.int .i64 a,s,t,h,f,g,u,v,w,.int .i64 c,.int .i64 d,.int .i64 e] 0 90
@[go_sem,reducible] def zqc(x:zac)(a:Int)(s t h f g u v w:AV):LO:=.cells [.sl (x.T.map zaj),.int .i64 a,s,t,h,f,g,u,v,w,.int .i64 x.Bad.Code,.int .i64 x.Bad.Line,.int .i64 x.Bad.Col] 0 90
@[go_sem,reducible] def zqb(x:zac)(a:Int)(s t w:AV):LO:=.cells [.sl (x.T.map zaj),.int .i64 a,s,t,.zBx (x.zHd.map zaj) 4 41,.zBx (x.First.map (oSl 4 41 zaj)) 1 34,.zBx (x.To.map (oSl 4 41 zaj)) 1 34,.zBx (x.Left.map (eInt .i64)) 1 3,.zBx (x.All.map eStr) 1 9,w,.int .i64 x.Bad.Code,.int .i64 x.Bad.Line,.int .i64 x.Bad.Col] 0 90
@[go_sem,reducible] def zqa(x:zac)(a:Int)(w:AV):LO:=.cells [.sl (x.T.map zaj),.int .i64 a,.zBx (x.P.zSy.map zaD) 3 54,.zBx (x.P.zTh.map zaz) 1 59,.zBx (x.zHd.map zaj) 4 41,.zBx (x.First.map (oSl 4 41 zaj)) 1 34,.zBx (x.To.map (oSl 4 41 zaj)) 1 34,.zBx (x.Left.map (eInt .i64)) 1 3,.zBx (x.All.map eStr) 1 9,w,.int .i64 x.Bad.Code,.int .i64 x.Bad.Line,.int .i64 x.Bad.Col] 0 90
@[go_sem,reducible] def zqT(x:zaa):AV:=.agg [.int .i64 x.Kind,.int .i64 x.Line,.int .i64 x.Col,.str x.Text]
theorem W.sqh{P:Program}{N n0:Nat}{id}{l:List Oper}{y s h Q k}(F:List Nat)(s1:zaC)(hy:WK P N n0 y Q s1 h)(hN:zfv N l.toArray=true:=by rfl)
  (hrun:RunE P l.toArray (fun s h0=>AT n0 ⟨F,[]⟩ s1 h s h0) l s h (held _):=by exact RO):W P N n0 (.seq (.region id l.toArray false) y) Q s h k:=W.sq F s1 h hy hN hrun
theorem W.wk{P:Program}{N n0:Nat}{c s h Q k}(F:Gs)(s1:zaC)(h1:Hp)(hy:WK P N n0 c Q s1 h1)(hw:AT n0 F s1 h1 s h:=by exact RO):W P N n0 c Q s h k:=W.weak F hw hy
theorem W.rt{P:Program}{N n0:Nat}{s h Q k}(hq:Q .ret s h:=by first | exact zkF.retW ⟨[],[]⟩ RO | exact zee.retW [] RO):W P N n0 .ret Q s h k:=W.ret hq
end Go.Vs
