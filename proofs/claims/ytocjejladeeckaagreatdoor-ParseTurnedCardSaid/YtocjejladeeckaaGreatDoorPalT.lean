import Derived.Test.YtocjejladeeckaaGreatDoorVu3
set_option linter.all false
namespace Go.Vs
@[go_sem,reducible] def zi(x:Int):AV:=.int .i64 x
@[go_sem,reducible] def zM{α:Type}(b w k:Nat)(l:List α):AV:=.msl b w 0 k l.length l.length
@[go_sem,reducible] def zw(x:Int):Int:=IntKind.wrap .i64 x
theorem zo{α:Type}{a b:α}(h:some a=some b):a=b:=Option.some.inj h
variable [Tab]
@[go_sem] def eInt(k:IntKind)(n:Int):List AV:=[.int k n]
@[go_sem] def eStr(s:ByteArray):List AV:=[.str s]
@[go_sem] def eSl{α:Type}(f:α->List AV)(l:List α):List AV:=[.sl (l.map f)]
@[go_sem] theorem zyI{k:IntKind}(l:List Int):(l.map (eInt k)).all clB=true:=cl_o (fun _ _=>rfl) l
@[go_sem] theorem zwB{k:IntKind}(l:List Int):frzR (l.map (eInt k))=l.map (eInt k):=znB (fun _=>rfl) l
@[go_sem] theorem zyt{k:IntKind}(l:List Int):okR (l.map (eInt k))=true:=ok_o (fun _=>rfl) l
@[go_sem] theorem zuT{k:IntKind}(n:Nat)(l:List Int):(l.map (eInt k)).all (zcE n)=true:=by simp only [List.all_map,List.all_eq_true]; intro x _; rfl
@[go_sem] theorem zvc{k:IntKind}(l:List Int):(l.map (eInt k)).all zdH=true:=by simp only [List.all_map,List.all_eq_true]; intro x _; rfl
@[go_sem] theorem zwl{m:Nat->Nat}(l:List ByteArray):(l.map eStr).map (rens m)=l.map eStr:=zsd (fun _=>rfl) l
@[go_sem] theorem zyH(l:List ByteArray):(l.map eStr).all clB=true:=cl_o (fun _ _=>rfl) l
@[go_sem] theorem zwA(l:List ByteArray):frzR (l.map eStr)=l.map eStr:=znB (fun _=>rfl) l
@[go_sem] theorem zys(l:List ByteArray):okR (l.map eStr)=true:=ok_o (fun _=>rfl) l
@[go_sem] theorem zuS(n:Nat)(l:List ByteArray):(l.map eStr).all (zcE n)=true:=by simp only [List.all_map,List.all_eq_true]; intro x _; rfl
@[go_sem] theorem zvb(l:List ByteArray):(l.map eStr).all zdH=true:=by simp only [List.all_map,List.all_eq_true]; intro x _; rfl
def zjc(l:List Int):ByteArray:=⟨(l.map fun n=>UInt8.ofNat n.toNat).toArray⟩
@[go_sem] theorem ztJ(n:Int):zjm [[.int .u8 n]]=some (zjc [n]):=rfl
@[go_sem] theorem ztI(n m:Int):zjm [[.int .u8 n],[.int .u8 m]]=some (zjc [n,m]):=rfl
def zb0{α β γ:Type}(f:α->Option γ)(g:β->Option γ):α ⊕ β->Option γ | .inl a=>f a | .inr b=>g b
theorem zcJ{α β γ:Type}{f:α->Option γ}{g:β->Option γ}{a:α}{x:Option γ}(h:zb0 f g (.inl a)=x):f a=x:=h
theorem zcI{α β γ:Type}{f:α->Option γ}{g:β->Option γ}{b:β}{x:Option γ}(h:zb0 f g (.inr b)=x):g b=x:=h
attribute [go_sem] List.all_append List.all_cons List.all_nil
@[go_sem] theorem zyL{α:Type}{p:α->Bool}{l:List α}{i:Nat}{a:α}(hl:l.all p=true)(ha:p a=true):(l.set i a).all p=true:=by
 rw [List.all_eq_true] at hl ⊢
 intro x hx
 rcases List.mem_or_eq_of_mem_set hx with h | h
 ·exact hl x h
 ·rw [h]; exact ha
structure zam where
 mk ::
 Name:ByteArray
 Size:Int
 Init:(List Int)
 deriving Inhabited,DecidableEq
@[go_sem] def zan(x:zam):List AV:=[.str x.Name,.int .i64 x.Size,.sl (x.Init.map (eInt .i64))]
@[go_sem] theorem zsm(l:List zam):(l.map zan).all zdH=true:=by simp only [List.all_map,List.all_eq_true]; intro x _; rfl
@[go_sem] theorem zrW(n:Nat)(l:List zam):(l.map zan).all (zcE n)=true:=by simp only [List.all_map,List.all_eq_true]; intro x _; rfl
@[go_sem] theorem zuo(l:List zam):(l.map zan).all clB=true:=cl_o (fun _ _=>rfl) l
@[go_sem] theorem ztb{m:Nat->Nat}(l:List zam):(l.map zan).map (rens m)=l.map zan:=zsd (fun _=>rfl) l
@[go_sem] theorem ztm(l:List zam):frzR (l.map zan)=l.map zan:=znB (fun _=>rfl) l
@[go_sem] theorem zt1(l:List zam):okR (l.map zan)=true:=ok_o (fun _=>rfl) l
structure zap where
 mk ::
 Kind:Int
 Reg:Int
 Sym:Int
 N:Int
 deriving Inhabited,DecidableEq
@[go_sem] def zi8(x:zap):List AV:=[.int .i64 x.Kind,.int .i64 x.Reg,.int .i64 x.Sym,.int .i64 x.N]
structure zae where
 mk ::
 Op:Int
 Lock:Bool
 Cond:Int
 A:zap
 B:zap
 To:ByteArray
 zLb:(List ByteArray)
 deriving Inhabited,DecidableEq
@[go_sem] def zar(x:zae):List AV:=[.int .i64 x.Op,.bool x.Lock,.int .i64 x.Cond,.int .i64 x.A.Kind,.int .i64 x.A.Reg,.int .i64 x.A.Sym,.int .i64 x.A.N,.int .i64 x.B.Kind,.int .i64 x.B.Reg,.int .i64 x.B.Sym,.int .i64 x.B.N,.str x.To,.sl (x.zLb.map eStr)]
@[go_sem] theorem zsn(l:List zae):(l.map zar).all zdH=true:=by simp only [List.all_map,List.all_eq_true]; intro x _; rfl
@[go_sem] theorem zrX(n:Nat)(l:List zae):(l.map zar).all (zcE n)=true:=by simp only [List.all_map,List.all_eq_true]; intro x _; rfl
@[go_sem] theorem zup(l:List zae):(l.map zar).all clB=true:=cl_o (fun _ _=>rfl) l
@[go_sem] theorem ztn(l:List zae):frzR (l.map zar)=l.map zar:=znB (fun _=>rfl) l
@[go_sem] theorem zt2(l:List zae):okR (l.map zar)=true:=ok_o (fun _=>rfl) l
structure zad where
 mk ::
 Ins:(List zae)
 deriving Inhabited,DecidableEq
@[go_sem] def zax(x:zad):List AV:=[.sl (x.Ins.map zar)]
@[go_sem] def zah(x:zad):List AV:=[.zBx (x.Ins.map zar) 13 63]
@[go_sem] theorem zp1(n:Nat)(l:List zad):(l.map zah).all (zcE n)=true:=zox (fun _ _=>rfl) n l
@[go_sem] theorem zrV(l:List zad):(l.map zah).all clB=true:=cl_o (fun _ _=>rfl) l
@[go_sem] theorem zqD{m:Nat->Nat}(l:List zad):(l.map zah).map (rens m)=l.map zah:=zsd (fun _=>rfl) l
@[go_sem] theorem zrx(l:List zad):frzR (l.map zah)=l.map zax:=znB (fun x=>by simp only [zah,zax,frzL,frzC,go_sem]) l
@[go_sem] theorem zrP(l:List zad):okR (l.map zah)=true:=ok_o (fun x=>by simp only [zah,okL,okC,zeY,Bool.and_true,Bool.true_and,go_sem]) l
structure zaj where
 mk ::
 zSy:(List zam)
 zTh:(List zad)
 deriving Inhabited,DecidableEq
@[go_sem] def zaq(x:zaj):List AV:=[.sl (x.zSy.map zan),.sl (x.zTh.map zax)]
structure zak where
 mk ::
 Code:Int
 Line:Int
 Col:Int
 deriving Inhabited,DecidableEq
@[go_sem] def zbf(x:zak):List AV:=[.int .i64 x.Code,.int .i64 x.Line,.int .i64 x.Col]
structure zaa where
 mk ::
 Kind:Int
 Line:Int
 Col:Int
 Text:ByteArray
 deriving Inhabited,DecidableEq
@[go_sem] def zag(x:zaa):List AV:=[.int .i64 x.Kind,.int .i64 x.Line,.int .i64 x.Col,.str x.Text]
@[go_sem] theorem zqR(l:List zaa):(l.map zag).all zdH=true:=by simp only [List.all_map,List.all_eq_true]; intro x _; rfl
@[go_sem] theorem zp9(n:Nat)(l:List zaa):(l.map zag).all (zcE n)=true:=by simp only [List.all_map,List.all_eq_true]; intro x _; rfl
@[go_sem] theorem zsT(l:List zaa):(l.map zag).all clB=true:=cl_o (fun _ _=>rfl) l
@[go_sem] theorem zrR(l:List zaa):frzR (l.map zag)=l.map zag:=znB (fun _=>rfl) l
@[go_sem] theorem zsp(l:List zaa):okR (l.map zag)=true:=ok_o (fun _=>rfl) l
@[go_sem] theorem zy7{l:List (List zaa)}{i:Int}(h:InB i l.length):(l.map (oSl 4 41 zag)).set i.toNat [.zBx ((rd l i).map zag) 4 41]=l.map (oSl 4 41 zag):=zu5 h rfl
structure zaC where
 mk ::
 Kind:Int
 A:Int
 B:Int
 C:Int
 N:Int
 deriving Inhabited,DecidableEq
@[go_sem] def zas(x:zaC):List AV:=[.int .i64 x.Kind,.int .i64 x.A,.int .i64 x.B,.int .i64 x.C,.int .i64 x.N]
structure zav where
 mk ::
 Rune:Int
 At:Int
 Size:Int
 Line:Int
 Col:Int
 Bad:Bool
 deriving Inhabited,DecidableEq
@[go_sem] def zai(x:zav):List AV:=[.int .i32 x.Rune,.int .i64 x.At,.int .i64 x.Size,.int .i64 x.Line,.int .i64 x.Col,.bool x.Bad]
@[go_sem] theorem zm4(l:List zav):(l.map zai).all zdH=true:=by simp only [List.all_map,List.all_eq_true]; intro x _; rfl
@[go_sem] theorem zmC(n:Nat)(l:List zav):(l.map zai).all (zcE n)=true:=by simp only [List.all_map,List.all_eq_true]; intro x _; rfl
@[go_sem] theorem znO(l:List zav):frzR (l.map zai)=l.map zai:=znB (fun _=>rfl) l
@[go_sem] theorem zob(l:List zav):okR (l.map zai)=true:=ok_o (fun _=>rfl) l
structure zaz where
 mk ::
 head:zaa
 labels:(List (ByteArray × Bool))
 open_:(List ByteArray)
 zFi:(List zaa)
 zTg:(List zaa)
 deriving Inhabited,DecidableEq
@[go_sem] def zal(x:zaz):List AV:=[.int .i64 x.head.Kind,.int .i64 x.head.Line,.int .i64 x.head.Col,.str x.head.Text,.zBm (x.labels.map (eKV AV.str AV.bool)),.zBx (x.open_.map eStr) 1 9,.zBx (x.zFi.map zag) 4 41,.zBx (x.zTg.map zag) 4 41]
@[go_sem] theorem zp0(n:Nat)(l:List zaz):(l.map zal).all (zcE n)=true:=zox (fun _ _=>rfl) n l
@[go_sem] theorem zrU(l:List zaz):(l.map zal).all clB=true:=cl_o (fun _ _=>rfl) l
@[go_sem] theorem zqC{m:Nat->Nat}(l:List zaz):(l.map zal).map (rens m)=l.map zal:=zsd (fun _=>rfl) l
@[go_sem] theorem zqu{l:List zaz}{i:Int}(h:InB i l.length):(l.map zal).set i.toNat [.int .i64 ((rd l i).head.Kind),.int .i64 ((rd l i).head.Line),.int .i64 ((rd l i).head.Col),.str ((rd l i).head.Text),.zBm (((rd l i).labels).map (eKV AV.str AV.bool)),.zBx (((rd l i).open_).map eStr) 1 9,.zBx (((rd l i).zFi).map zag) 4 41,.zBx (((rd l i).zTg).map zag) 4 41]=l.map zal:=zu5 h rfl
structure zac where
 mk ::
 l:(List zaa)
 at_:Int
 p:zaj
 b:(List zaz)
 f:zak
 deriving Inhabited,DecidableEq
@[go_sem] def zaI(x:zac):List AV:=[.sl (x.l.map zag),.int .i64 x.at_,.zBx (x.p.zSy.map zan) 3 54,.zBx (x.p.zTh.map zah) 1 59,.zBx (x.b.map zal) 8 109,.int .i64 x.f.Code,.int .i64 x.f.Line,.int .i64 x.f.Col]
structure zab where
 mk ::
 T:(List zaa)
 I:Int
 P:zaj
 zHd:(List zaa)
 First:(List (List zaa))
 To:(List (List zaa))
 Left:(List Int)
 All:(List ByteArray)
 Wait:(List ByteArray)
 Bad:zak
 deriving Inhabited,DecidableEq
@[go_sem] def zat(x:zab):List AV:=[.sl (x.T.map zag),.int .i64 x.I,.zBx (x.P.zSy.map zan) 3 54,.zBx (x.P.zTh.map zah) 1 59,.zBx (x.zHd.map zag) 4 41,.zBx (x.First.map (oSl 4 41 zag)) 1 34,.zBx (x.To.map (oSl 4 41 zag)) 1 34,.zBx (x.Left.map (eInt .i64)) 1 3,.zBx (x.All.map eStr) 1 9,.zBx (x.Wait.map eStr) 1 9,.int .i64 x.Bad.Code,.int .i64 x.Bad.Line,.int .i64 x.Bad.Col]
structure zau where
 mk ::
 Rune:Int
 At:Int
 Size:Int
 Line:Int
 Col:Int
 Bad:Bool
 deriving Inhabited,DecidableEq
@[go_sem] def zaD(x:zau):List AV:=[.int .i32 x.Rune,.int .i64 x.At,.int .i64 x.Size,.int .i64 x.Line,.int .i64 x.Col,.bool x.Bad]
@[go_sem] theorem zp7(l:List zau):(l.map zaD).all zdH=true:=by simp only [List.all_map,List.all_eq_true]; intro x _; rfl
@[go_sem] theorem zp2(n:Nat)(l:List zau):(l.map zaD).all (zcE n)=true:=by simp only [List.all_map,List.all_eq_true]; intro x _; rfl
@[go_sem] theorem zry(l:List zau):frzR (l.map zaD)=l.map zaD:=znB (fun _=>rfl) l
@[go_sem] theorem zrQ(l:List zau):okR (l.map zaD)=true:=ok_o (fun _=>rfl) l
structure zgK where
 mk ::
 Reg:Int
 deriving Inhabited,DecidableEq
structure zgL where
 mk ::
 N:Int
 deriving Inhabited,DecidableEq
structure zhm where
 mk ::
 Sym:Int
 N:Int
 deriving Inhabited,DecidableEq
structure zhl where
 mk ::
 Sym:Int
 Reg:Int
 deriving Inhabited,DecidableEq
inductive zc1 where
 | nil
 | RegPart (x:zgK)
 | NumPart (x:zgL)
 | AtPart (x:zhm)
 | ByPart (x:zhl)
 deriving Inhabited,DecidableEq
def zdX:zc1->AV
 | .nil=>.nili
 | .RegPart x=>.iface 180 (.agg [.int .i64 x.Reg])
 | .NumPart x=>.iface 185 (.agg [.int .i64 x.N])
 | .AtPart x=>.iface 187 (.agg [.int .i64 x.Sym,.int .i64 x.N])
 | .ByPart x=>.iface 189 (.agg [.int .i64 x.Sym,.int .i64 x.Reg])
@[go_sem] theorem zfT:zdX .nil=.nili:=rfl
@[go_sem] theorem zeO{x:zgK}:zdX (.RegPart x)=.iface 180 (.agg [.int .i64 x.Reg]):=rfl
@[go_sem] theorem zeP{x:zgL}:zdX (.NumPart x)=.iface 185 (.agg [.int .i64 x.N]):=rfl
@[go_sem] theorem ze8{x:zhm}:zdX (.AtPart x)=.iface 187 (.agg [.int .i64 x.Sym,.int .i64 x.N]):=rfl
@[go_sem] theorem ze7{x:zhl}:zdX (.ByPart x)=.iface 189 (.agg [.int .i64 x.Sym,.int .i64 x.Reg]):=rfl
@[go_sem] theorem zp8{x:zc1}:zeY (zdX x)=true:=by cases x <;> rfl
@[go_sem] theorem zp3{k:Nat}{x:zc1}:zbU k (zdX x)=true:=by cases x <;> rfl
@[go_sem,reducible] def zbS(l:List zam):AV:=.zBx (l.map zan) 3 54
@[go_sem,reducible] def zbT(l:List zad):AV:=.zBx (l.map zah) 1 59
@[go_sem,reducible] def zbB(l:List zaz):AV:=.zBx (l.map zal) 8 109
@[go_sem,reducible] def zbK(l:List zaa):AV:=.zBx (l.map zag) 4 41
@[go_sem,reducible] def zbL(l:List (List zaa)):AV:=.zBx (l.map (oSl 4 41 zag)) 1 34
@[go_sem,reducible] def zbI(l:List Int):AV:=.zBx (l.map (eInt .i64)) 1 3
@[go_sem,reducible] def zbW(l:List ByteArray):AV:=.zBx (l.map eStr) 1 9
@[go_sem,reducible] def zkc(l:List zaa)(a:Int)(s t b:AV)(c d e:Int):LO:=.cells [.sl (l.map zag),.int .i64 a,s,t,b,.int .i64 c,.int .i64 d,.int .i64 e] 0 82
@[go_sem,reducible] def zkb(x:zac)(a:Int)(s t b:AV):LO:=.cells [.sl (x.l.map zag),.int .i64 a,s,t,b,.int .i64 x.f.Code,.int .i64 x.f.Line,.int .i64 x.f.Col] 0 82
@[go_sem,reducible] def zka(x:zac)(a:Int)(b:AV):LO:=.cells [.sl (x.l.map zag),.int .i64 a,.zBx (x.p.zSy.map zan) 3 54,.zBx (x.p.zTh.map zah) 1 59,b,.int .i64 x.f.Code,.int .i64 x.f.Line,.int .i64 x.f.Col] 0 82
@[go_sem,reducible] def zqd(l:List zaa)(a:Int)(s t h f g u v w:AV)(c d e:Int):LO:=.cells [.sl (l.map zag),.int .i64 a,s,t,h,f,g,u,v,w,.int .i64 c,.int .i64 d,.int .i64 e] 0 90
@[go_sem,reducible] def zqc(x:zab)(a:Int)(s t h f g u v w:AV):LO:=.cells [.sl (x.T.map zag),.int .i64 a,s,t,h,f,g,u,v,w,.int .i64 x.Bad.Code,.int .i64 x.Bad.Line,.int .i64 x.Bad.Col] 0 90
@[go_sem,reducible] def zqb(x:zab)(a:Int)(s t w:AV):LO:=.cells [.sl (x.T.map zag),.int .i64 a,s,t,.zBx (x.zHd.map zag) 4 41,.zBx (x.First.map (oSl 4 41 zag)) 1 34,.zBx (x.To.map (oSl 4 41 zag)) 1 34,.zBx (x.Left.map (eInt .i64)) 1 3,.zBx (x.All.map eStr) 1 9,w,.int .i64 x.Bad.Code,.int .i64 x.Bad.Line,.int .i64 x.Bad.Col] 0 90
@[go_sem,reducible] def zqa(x:zab)(a:Int)(w:AV):LO:=.cells [.sl (x.T.map zag),.int .i64 a,.zBx (x.P.zSy.map zan) 3 54,.zBx (x.P.zTh.map zah) 1 59,.zBx (x.zHd.map zag) 4 41,.zBx (x.First.map (oSl 4 41 zag)) 1 34,.zBx (x.To.map (oSl 4 41 zag)) 1 34,.zBx (x.Left.map (eInt .i64)) 1 3,.zBx (x.All.map eStr) 1 9,w,.int .i64 x.Bad.Code,.int .i64 x.Bad.Line,.int .i64 x.Bad.Col] 0 90
@[go_sem,reducible] def zqT(x:zaa):AV:=.agg [.int .i64 x.Kind,.int .i64 x.Line,.int .i64 x.Col,.str x.Text]
theorem W.sqh{P:Program}{N n0:Nat}{id}{l:List Oper}{y s h Q k}(F:List Nat)(s1:zaL)(hy:WK P N n0 y Q s1 h)(hN:zfF N l.toArray=true:=by rfl)
  (hrun:RunE P l.toArray (fun s h0=>AT n0 ⟨F,[]⟩ s1 h s h0) l s h (held _):=by exact RO):W P N n0 (.seq (.region id l.toArray false) y) Q s h k:=W.sq F s1 h hy hN hrun
theorem W.wk{P:Program}{N n0:Nat}{c s h Q k}(F:Gs)(s1:zaL)(h1:Hp)(hy:WK P N n0 c Q s1 h1)(hw:AT n0 F s1 h1 s h:=by exact RO):W P N n0 c Q s h k:=W.weak F hw hy
theorem W.rt{P:Program}{N n0:Nat}{s h Q k}(hq:Q .ret s h:=by first | exact zgM.retW ⟨[],[]⟩ RO | exact zen.retW [] RO):W P N n0 .ret Q s h k:=W.ret hq
end Go.Vs
