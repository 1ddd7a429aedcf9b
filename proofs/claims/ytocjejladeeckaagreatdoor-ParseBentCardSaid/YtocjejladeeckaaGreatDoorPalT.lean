import Derived.Test.YtocjejladeeckaaGreatDoorVu3
set_option linter.all false
namespace Go.Vs
@[go_sem,reducible] def zi(x:Int):AV:=.int .i64 x
@[go_sem,reducible] def zM{α:Type}(b w k:Nat)(l:List α):AV:=.msl b w 0 k l.length l.length
@[go_sem,reducible] def zw(x:Int):Int:=IntKind.wrap .i64 x
theorem zo{α:Type}{a b:α}(h:some a=some b):a=b:=Option.some.inj h
variable [Tab]
@[go_sem] def eInt(k:IntKind)(n:Int):List AV:=[.int k n]
@[go_sem] def eStr(s:ByteArray):List AV:=[.str s]
@[go_sem] def eSl{α:Type}(f:α->List AV)(l:List α):List AV:=[.sl (l.map f)]
@[go_sem] theorem zwS{k:IntKind}(l:List Int):(l.map (eInt k)).all clB=true:=cl_o (fun _ _=>rfl) l
@[go_sem] theorem zuP{k:IntKind}(l:List Int):frzR (l.map (eInt k))=l.map (eInt k):=zmN (fun _=>rfl) l
@[go_sem] theorem zwF{k:IntKind}(l:List Int):okR (l.map (eInt k))=true:=ok_o (fun _=>rfl) l
@[go_sem] theorem zti{k:IntKind}(n:Nat)(l:List Int):(l.map (eInt k)).all (zcB n)=true:=by simp only [List.all_map,List.all_eq_true]; intro x _; rfl
@[go_sem] theorem ztx{k:IntKind}(l:List Int):(l.map (eInt k)).all zdw=true:=by simp only [List.all_map,List.all_eq_true]; intro x _; rfl
@[go_sem] theorem zuz{m:Nat->Nat}(l:List ByteArray):(l.map eStr).map (rens m)=l.map eStr:=zqQ (fun _=>rfl) l
@[go_sem] theorem zwR(l:List ByteArray):(l.map eStr).all clB=true:=cl_o (fun _ _=>rfl) l
@[go_sem] theorem zuO(l:List ByteArray):frzR (l.map eStr)=l.map eStr:=zmN (fun _=>rfl) l
@[go_sem] theorem zwE(l:List ByteArray):okR (l.map eStr)=true:=ok_o (fun _=>rfl) l
@[go_sem] theorem zth(n:Nat)(l:List ByteArray):(l.map eStr).all (zcB n)=true:=by simp only [List.all_map,List.all_eq_true]; intro x _; rfl
@[go_sem] theorem ztw(l:List ByteArray):(l.map eStr).all zdw=true:=by simp only [List.all_map,List.all_eq_true]; intro x _; rfl
def ziN(l:List Int):ByteArray:=⟨(l.map fun n=>UInt8.ofNat n.toNat).toArray⟩
@[go_sem] theorem zsd(n:Int):ziW [[.int .u8 n]]=some (ziN [n]):=rfl
@[go_sem] theorem zsc(n m:Int):ziW [[.int .u8 n],[.int .u8 m]]=some (ziN [n,m]):=rfl
def zbY{α β γ:Type}(f:α->Option γ)(g:β->Option γ):α ⊕ β->Option γ | .inl a=>f a | .inr b=>g b
theorem zcG{α β γ:Type}{f:α->Option γ}{g:β->Option γ}{a:α}{x:Option γ}(h:zbY f g (.inl a)=x):f a=x:=h
theorem zcF{α β γ:Type}{f:α->Option γ}{g:β->Option γ}{b:β}{x:Option γ}(h:zbY f g (.inr b)=x):g b=x:=h
attribute [go_sem] List.all_append List.all_cons List.all_nil
@[go_sem] theorem zwW{α:Type}{p:α->Bool}{l:List α}{i:Nat}{a:α}(hl:l.all p=true)(ha:p a=true):(l.set i a).all p=true:=by
 rw [List.all_eq_true] at hl ⊢
 intro x hx
 rcases List.mem_or_eq_of_mem_set hx with h | h
 ·exact hl x h
 ·rw [h]; exact ha
structure zam where
 mk ::
 Name:ByteArray
 Size:Int
 Init:(List Int)
 deriving Inhabited,DecidableEq
@[go_sem] def zal(x:zam):List AV:=[.str x.Name,.int .i64 x.Size,.sl (x.Init.map (eInt .i64))]
@[go_sem] theorem zq1(l:List zam):(l.map zal).all zdw=true:=by simp only [List.all_map,List.all_eq_true]; intro x _; rfl
@[go_sem] theorem zqC(n:Nat)(l:List zam):(l.map zal).all (zcB n)=true:=by simp only [List.all_map,List.all_eq_true]; intro x _; rfl
@[go_sem] theorem zsN(l:List zam):(l.map zal).all clB=true:=cl_o (fun _ _=>rfl) l
@[go_sem] theorem zrI{m:Nat->Nat}(l:List zam):(l.map zal).map (rens m)=l.map zal:=zqQ (fun _=>rfl) l
@[go_sem] theorem zrS(l:List zam):frzR (l.map zal)=l.map zal:=zmN (fun _=>rfl) l
@[go_sem] theorem zsu(l:List zam):okR (l.map zal)=true:=ok_o (fun _=>rfl) l
structure zap where
 mk ::
 Kind:Int
 Reg:Int
 Sym:Int
 N:Int
 deriving Inhabited,DecidableEq
@[go_sem] def ziK(x:zap):List AV:=[.int .i64 x.Kind,.int .i64 x.Reg,.int .i64 x.Sym,.int .i64 x.N]
structure zae where
 mk ::
 Op:Int
 Lock:Bool
 Cond:Int
 A:zap
 B:zap
 To:ByteArray
 zLb:(List ByteArray)
 deriving Inhabited,DecidableEq
@[go_sem] def zar(x:zae):List AV:=[.int .i64 x.Op,.bool x.Lock,.int .i64 x.Cond,.int .i64 x.A.Kind,.int .i64 x.A.Reg,.int .i64 x.A.Sym,.int .i64 x.A.N,.int .i64 x.B.Kind,.int .i64 x.B.Reg,.int .i64 x.B.Sym,.int .i64 x.B.N,.str x.To,.sl (x.zLb.map eStr)]
@[go_sem] theorem zq2(l:List zae):(l.map zar).all zdw=true:=by simp only [List.all_map,List.all_eq_true]; intro x _; rfl
@[go_sem] theorem zqD(n:Nat)(l:List zae):(l.map zar).all (zcB n)=true:=by simp only [List.all_map,List.all_eq_true]; intro x _; rfl
@[go_sem] theorem zsO(l:List zae):(l.map zar).all clB=true:=cl_o (fun _ _=>rfl) l
@[go_sem] theorem zrT(l:List zae):frzR (l.map zar)=l.map zar:=zmN (fun _=>rfl) l
@[go_sem] theorem zsv(l:List zae):okR (l.map zar)=true:=ok_o (fun _=>rfl) l
structure zad where
 mk ::
 Ins:(List zae)
 deriving Inhabited,DecidableEq
@[go_sem] def zax(x:zad):List AV:=[.sl (x.Ins.map zar)]
@[go_sem] def zag(x:zad):List AV:=[.zBx (x.Ins.map zar) 13 63]
@[go_sem] theorem zoV(n:Nat)(l:List zad):(l.map zag).all (zcB n)=true:=znG (fun _ _=>rfl) n l
@[go_sem] theorem zqB(l:List zad):(l.map zag).all clB=true:=cl_o (fun _ _=>rfl) l
@[go_sem] theorem zpp{m:Nat->Nat}(l:List zad):(l.map zag).map (rens m)=l.map zag:=zqQ (fun _=>rfl) l
@[go_sem] theorem zqf(l:List zad):frzR (l.map zag)=l.map zax:=zmN (fun x=>by simp only [zag,zax,frzL,frzC,go_sem]) l
@[go_sem] theorem zqv(l:List zad):okR (l.map zag)=true:=ok_o (fun x=>by simp only [zag,okL,okC,zeP,Bool.and_true,Bool.true_and,go_sem]) l
structure zan where
 mk ::
 zSy:(List zam)
 zTh:(List zad)
 deriving Inhabited,DecidableEq
@[go_sem] def zaq(x:zan):List AV:=[.sl (x.zSy.map zal),.sl (x.zTh.map zax)]
structure zak where
 mk ::
 Code:Int
 Line:Int
 Col:Int
 deriving Inhabited,DecidableEq
@[go_sem] def zbf(x:zak):List AV:=[.int .i64 x.Code,.int .i64 x.Line,.int .i64 x.Col]
structure zaa where
 mk ::
 Kind:Int
 Line:Int
 Col:Int
 Text:ByteArray
 deriving Inhabited,DecidableEq
@[go_sem] def zah(x:zaa):List AV:=[.int .i64 x.Kind,.int .i64 x.Line,.int .i64 x.Col,.str x.Text]
@[go_sem] theorem zpC(l:List zaa):(l.map zah).all zdw=true:=by simp only [List.all_map,List.all_eq_true]; intro x _; rfl
@[go_sem] theorem zo3(n:Nat)(l:List zaa):(l.map zah).all (zcB n)=true:=by simp only [List.all_map,List.all_eq_true]; intro x _; rfl
@[go_sem] theorem zru(l:List zaa):(l.map zah).all clB=true:=cl_o (fun _ _=>rfl) l
@[go_sem] theorem zqx(l:List zaa):frzR (l.map zah)=l.map zah:=zmN (fun _=>rfl) l
@[go_sem] theorem zq4(l:List zaa):okR (l.map zah)=true:=ok_o (fun _=>rfl) l
@[go_sem] theorem zxj{l:List (List zaa)}{i:Int}(h:InB i l.length):(l.map (oSl 4 41 zah)).set i.toNat [.zBx ((rd l i).map zah) 4 41]=l.map (oSl 4 41 zah):=ztq h rfl
structure zaD where
 mk ::
 Kind:Int
 A:Int
 B:Int
 C:Int
 N:Int
 deriving Inhabited,DecidableEq
@[go_sem] def zas(x:zaD):List AV:=[.int .i64 x.Kind,.int .i64 x.A,.int .i64 x.B,.int .i64 x.C,.int .i64 x.N]
structure zav where
 mk ::
 Rune:Int
 At:Int
 Size:Int
 Line:Int
 Col:Int
 Bad:Bool
 deriving Inhabited,DecidableEq
@[go_sem] def zai(x:zav):List AV:=[.int .i32 x.Rune,.int .i64 x.At,.int .i64 x.Size,.int .i64 x.Line,.int .i64 x.Col,.bool x.Bad]
@[go_sem] theorem zmn(l:List zav):(l.map zai).all zdw=true:=by simp only [List.all_map,List.all_eq_true]; intro x _; rfl
@[go_sem] theorem zlZ(n:Nat)(l:List zav):(l.map zai).all (zcB n)=true:=by simp only [List.all_map,List.all_eq_true]; intro x _; rfl
@[go_sem] theorem zmX(l:List zav):frzR (l.map zai)=l.map zai:=zmN (fun _=>rfl) l
@[go_sem] theorem znj(l:List zav):okR (l.map zai)=true:=ok_o (fun _=>rfl) l
structure zaz where
 mk ::
 head:zaa
 labels:(List (ByteArray × Bool))
 open_:(List ByteArray)
 zFi:(List zaa)
 zTg:(List zaa)
 deriving Inhabited,DecidableEq
@[go_sem] def zaj(x:zaz):List AV:=[.int .i64 x.head.Kind,.int .i64 x.head.Line,.int .i64 x.head.Col,.str x.head.Text,.zBm (x.labels.map (eKV AV.str AV.bool)),.zBx (x.open_.map eStr) 1 9,.zBx (x.zFi.map zah) 4 41,.zBx (x.zTg.map zah) 4 41]
@[go_sem] theorem zoU(n:Nat)(l:List zaz):(l.map zaj).all (zcB n)=true:=znG (fun _ _=>rfl) n l
@[go_sem] theorem zqA(l:List zaz):(l.map zaj).all clB=true:=cl_o (fun _ _=>rfl) l
@[go_sem] theorem zpo{m:Nat->Nat}(l:List zaz):(l.map zaj).map (rens m)=l.map zaj:=zqQ (fun _=>rfl) l
@[go_sem] theorem zpi{l:List zaz}{i:Int}(h:InB i l.length):(l.map zaj).set i.toNat [.int .i64 ((rd l i).head.Kind),.int .i64 ((rd l i).head.Line),.int .i64 ((rd l i).head.Col),.str ((rd l i).head.Text),.zBm (((rd l i).labels).map (eKV AV.str AV.bool)),.zBx (((rd l i).open_).map eStr) 1 9,.zBx (((rd l i).zFi).map zah) 4 41,.zBx (((rd l i).zTg).map zah) 4 41]=l.map zaj:=ztq h rfl
structure zac where
 mk ::
 l:(List zaa)
 at_:Int
 p:zan
 b:(List zaz)
 f:zak
 deriving Inhabited,DecidableEq
@[go_sem] def zaH(x:zac):List AV:=[.sl (x.l.map zah),.int .i64 x.at_,.zBx (x.p.zSy.map zal) 3 54,.zBx (x.p.zTh.map zag) 1 59,.zBx (x.b.map zaj) 8 109,.int .i64 x.f.Code,.int .i64 x.f.Line,.int .i64 x.f.Col]
structure zab where
 mk ::
 T:(List zaa)
 I:Int
 P:zan
 zHd:(List zaa)
 First:(List (List zaa))
 To:(List (List zaa))
 Left:(List Int)
 All:(List ByteArray)
 Wait:(List ByteArray)
 Bad:zak
 deriving Inhabited,DecidableEq
@[go_sem] def zat(x:zab):List AV:=[.sl (x.T.map zah),.int .i64 x.I,.zBx (x.P.zSy.map zal) 3 54,.zBx (x.P.zTh.map zag) 1 59,.zBx (x.zHd.map zah) 4 41,.zBx (x.First.map (oSl 4 41 zah)) 1 34,.zBx (x.To.map (oSl 4 41 zah)) 1 34,.zBx (x.Left.map (eInt .i64)) 1 3,.zBx (x.All.map eStr) 1 9,.zBx (x.Wait.map eStr) 1 9,.int .i64 x.Bad.Code,.int .i64 x.Bad.Line,.int .i64 x.Bad.Col]
structure zau where
 mk ::
 Rune:Int
 At:Int
 Size:Int
 Line:Int
 Col:Int
 Bad:Bool
 deriving Inhabited,DecidableEq
@[go_sem] def zaC(x:zau):List AV:=[.int .i32 x.Rune,.int .i64 x.At,.int .i64 x.Size,.int .i64 x.Line,.int .i64 x.Col,.bool x.Bad]
@[go_sem] theorem zo1(l:List zau):(l.map zaC).all zdw=true:=by simp only [List.all_map,List.all_eq_true]; intro x _; rfl
@[go_sem] theorem zoW(n:Nat)(l:List zau):(l.map zaC).all (zcB n)=true:=by simp only [List.all_map,List.all_eq_true]; intro x _; rfl
@[go_sem] theorem zqg(l:List zau):frzR (l.map zaC)=l.map zaC:=zmN (fun _=>rfl) l
@[go_sem] theorem zqw(l:List zau):okR (l.map zaC)=true:=ok_o (fun _=>rfl) l
structure zgs where
 mk ::
 Reg:Int
 deriving Inhabited,DecidableEq
structure zgt where
 mk ::
 N:Int
 deriving Inhabited,DecidableEq
structure zg2 where
 mk ::
 Sym:Int
 N:Int
 deriving Inhabited,DecidableEq
structure zg1 where
 mk ::
 Sym:Int
 Reg:Int
 deriving Inhabited,DecidableEq
inductive zcW where
 | nil
 | RegPart (x:zgs)
 | NumPart (x:zgt)
 | AtPart (x:zg2)
 | ByPart (x:zg1)
 deriving Inhabited,DecidableEq
def zdL:zcW->AV
 | .nil=>.nili
 | .RegPart x=>.iface 180 (.agg [.int .i64 x.Reg])
 | .NumPart x=>.iface 185 (.agg [.int .i64 x.N])
 | .AtPart x=>.iface 187 (.agg [.int .i64 x.Sym,.int .i64 x.N])
 | .ByPart x=>.iface 189 (.agg [.int .i64 x.Sym,.int .i64 x.Reg])
@[go_sem] theorem zfJ:zdL .nil=.nili:=rfl
@[go_sem] theorem zeG{x:zgs}:zdL (.RegPart x)=.iface 180 (.agg [.int .i64 x.Reg]):=rfl
@[go_sem] theorem zeH{x:zgt}:zdL (.NumPart x)=.iface 185 (.agg [.int .i64 x.N]):=rfl
@[go_sem] theorem zeY{x:zg2}:zdL (.AtPart x)=.iface 187 (.agg [.int .i64 x.Sym,.int .i64 x.N]):=rfl
@[go_sem] theorem zeX{x:zg1}:zdL (.ByPart x)=.iface 189 (.agg [.int .i64 x.Sym,.int .i64 x.Reg]):=rfl
@[go_sem] theorem zo2{x:zcW}:zeP (zdL x)=true:=by cases x <;> rfl
@[go_sem] theorem zoX{k:Nat}{x:zcW}:zbQ k (zdL x)=true:=by cases x <;> rfl
@[go_sem,reducible] def zbS(l:List zam):AV:=.zBx (l.map zal) 3 54
@[go_sem,reducible] def zbT(l:List zad):AV:=.zBx (l.map zag) 1 59
@[go_sem,reducible] def zbB(l:List zaz):AV:=.zBx (l.map zaj) 8 109
@[go_sem,reducible] def zbK(l:List zaa):AV:=.zBx (l.map zah) 4 41
@[go_sem,reducible] def zbL(l:List (List zaa)):AV:=.zBx (l.map (oSl 4 41 zah)) 1 34
@[go_sem,reducible] def zbI(l:List Int):AV:=.zBx (l.map (eInt .i64)) 1 3
@[go_sem,reducible] def zbW(l:List ByteArray):AV:=.zBx (l.map eStr) 1 9
@[go_sem,reducible] def zkc(l:List zaa)(a:Int)(s t b:AV)(c d e:Int):LO:=.cells [.sl (l.map zah),.int .i64 a,s,t,b,.int .i64 c,.int .i64 d,.int .i64 e] 0 82
@[go_sem,reducible] def zkb(x:zac)(a:Int)(s t b:AV):LO:=.cells [.sl (x.l.map zah),.int .i64 a,s,t,b,.int .i64 x.f.Code,.int .i64 x.f.Line,.int .i64 x.f.Col] 0 82
@[go_sem,reducible] def zka(x:zac)(a:Int)(b:AV):LO:=.cells [.sl (x.l.map zah),.int .i64 a,.zBx (x.p.zSy.map zal) 3 54,.zBx (x.p.zTh.map zag) 1 59,b,.int .i64 x.f.Code,.int .i64 x.f.Line,.int .i64 x.f.Col] 0 82
@[go_sem,reducible] def zqd(l:List zaa)(a:Int)(s t h f g u v w:AV)(c d e:Int):LO:=.cells [.sl (l.map zah),.int .i64 a,s,t,h,f,g,u,v,w,.int .i64 c,.int .i64 d,.int .i64 e] 0 90
@[go_sem,reducible] def zqc(x:zab)(a:Int)(s t h f g u v w:AV):LO:=.cells [.sl (x.T.map zah),.int .i64 a,s,t,h,f,g,u,v,w,.int .i64 x.Bad.Code,.int .i64 x.Bad.Line,.int .i64 x.Bad.Col] 0 90
@[go_sem,reducible] def zqb(x:zab)(a:Int)(s t w:AV):LO:=.cells [.sl (x.T.map zah),.int .i64 a,s,t,.zBx (x.zHd.map zah) 4 41,.zBx (x.First.map (oSl 4 41 zah)) 1 34,.zBx (x.To.map (oSl 4 41 zah)) 1 34,.zBx (x.Left.map (eInt .i64)) 1 3,.zBx (x.All.map eStr) 1 9,w,.int .i64 x.Bad.Code,.int .i64 x.Bad.Line,.int .i64 x.Bad.Col] 0 90
@[go_sem,reducible] def zqa(x:zab)(a:Int)(w:AV):LO:=.cells [.sl (x.T.map zah),.int .i64 a,.zBx (x.P.zSy.map zal) 3 54,.zBx (x.P.zTh.map zag) 1 59,.zBx (x.zHd.map zah) 4 41,.zBx (x.First.map (oSl 4 41 zah)) 1 34,.zBx (x.To.map (oSl 4 41 zah)) 1 34,.zBx (x.Left.map (eInt .i64)) 1 3,.zBx (x.All.map eStr) 1 9,w,.int .i64 x.Bad.Code,.int .i64 x.Bad.Line,.int .i64 x.Bad.Col] 0 90
@[go_sem,reducible] def zqT(x:zaa):AV:=.agg [.int .i64 x.Kind,.int .i64 x.Line,.int .i64 x.Col,.str x.Text]
theorem W.sqh{P:Program}{N n0:Nat}{id}{l:List Oper}{y s h Q k}(F:List Nat)(s1:zaL)(hy:WK P N n0 y Q s1 h)(hN:zfu N l.toArray=true:=by rfl)
  (hrun:RunE P l.toArray (fun s h0=>AT n0 ⟨F,[]⟩ s1 h s h0) l s h (held _):=by exact RO):W P N n0 (.seq (.region id l.toArray false) y) Q s h k:=W.sq F s1 h hy hN hrun
theorem W.wk{P:Program}{N n0:Nat}{c s h Q k}(F:Gs)(s1:zaL)(h1:Hp)(hy:WK P N n0 c Q s1 h1)(hw:AT n0 F s1 h1 s h:=by exact RO):W P N n0 c Q s h k:=W.weak F hw hy
theorem W.rt{P:Program}{N n0:Nat}{s h Q k}(hq:Q .ret s h:=by first | exact zgu.retW ⟨[],[]⟩ RO | exact zed.retW [] RO):W P N n0 .ret Q s h k:=W.ret hq
end Go.Vs
