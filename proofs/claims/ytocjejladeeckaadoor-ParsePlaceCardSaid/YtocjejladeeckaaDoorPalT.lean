import Derived.Test.YtocjejladeeckaaDoorVu3
set_option linter.all false
namespace Go.Vs
@[go_sem,reducible] def zi(x:Int):AV:=.int .i64 x
@[go_sem,reducible] def zM{α:Type}(b w k:Nat)(l:List α):AV:=.msl b w 0 k l.length l.length
@[go_sem,reducible] def zw(x:Int):Int:=IntKind.wrap .i64 x
theorem zo{α:Type}{a b:α}(h:some a=some b):a=b:=Option.some.inj h
variable [Tab]
@[go_sem] def eInt(k:IntKind)(n:Int):List AV:=[.int k n]
@[go_sem] def eStr(s:ByteArray):List AV:=[.str s]
@[go_sem] theorem zpl{k:IntKind}(l:List Int):frzR (l.map (eInt k))=l.map (eInt k):=zi0 (fun _=>rfl) l
@[go_sem] theorem zqn{k:IntKind}(l:List Int):okR (l.map (eInt k))=true:=ok_o (fun _=>rfl) l
@[go_sem] theorem znQ{k:IntKind}(n:Nat)(l:List Int):(l.map (eInt k)).all (zbn n)=true:=by simp only [List.all_map,List.all_eq_true]; intro x _; rfl
@[go_sem] theorem zn2{k:IntKind}(l:List Int):(l.map (eInt k)).all zbW=true:=by simp only [List.all_map,List.all_eq_true]; intro x _; rfl
@[go_sem] theorem zqv(l:List ByteArray):(l.map eStr).all clB=true:=cl_o (fun _ _=>rfl) l
@[go_sem] theorem zpk(l:List ByteArray):frzR (l.map eStr)=l.map eStr:=zi0 (fun _=>rfl) l
@[go_sem] theorem zqm(l:List ByteArray):okR (l.map eStr)=true:=ok_o (fun _=>rfl) l
@[go_sem] theorem znP(n:Nat)(l:List ByteArray):(l.map eStr).all (zbn n)=true:=by simp only [List.all_map,List.all_eq_true]; intro x _; rfl
@[go_sem] theorem zn1(l:List ByteArray):(l.map eStr).all zbW=true:=by simp only [List.all_map,List.all_eq_true]; intro x _; rfl
def zbQ{α β γ:Type}(f:α->Option γ)(g:β->Option γ):α ⊕ β->Option γ | .inl a=>f a | .inr b=>g b
theorem zcJ{α β γ:Type}{f:α->Option γ}{g:β->Option γ}{a:α}{x:Option γ}(h:zbQ f g (.inl a)=x):f a=x:=h
theorem zcI{α β γ:Type}{f:α->Option γ}{g:β->Option γ}{b:β}{x:Option γ}(h:zbQ f g (.inr b)=x):g b=x:=h
attribute [go_sem] List.all_append List.all_cons List.all_nil
@[go_sem] theorem zqy{α:Type}{p:α->Bool}{l:List α}{i:Nat}{a:α}(hl:l.all p=true)(ha:p a=true):(l.set i a).all p=true:=by
 rw [List.all_eq_true] at hl ⊢
 intro x hx
 rcases List.mem_or_eq_of_mem_set hx with h | h
 ·exact hl x h
 ·rw [h]; exact ha
structure zag where
 mk ::
 Code:Int
 Line:Int
 Col:Int
 deriving Inhabited,DecidableEq
@[go_sem] def zaG(x:zag):List AV:=[.int .i64 x.Code,.int .i64 x.Line,.int .i64 x.Col]
structure zar where
 mk ::
 Name:ByteArray
 Size:Int
 Init:(List Int)
 deriving Inhabited,DecidableEq
@[go_sem] def zaf(x:zar):List AV:=[.str x.Name,.int .i64 x.Size,.sl (x.Init.map (eInt .i64))]
@[go_sem] theorem zl2(l:List zar):(l.map zaf).all zbW=true:=by simp only [List.all_map,List.all_eq_true]; intro x _; rfl
@[go_sem] theorem zlK(n:Nat)(l:List zar):(l.map zaf).all (zbn n)=true:=by simp only [List.all_map,List.all_eq_true]; intro x _; rfl
@[go_sem] theorem znr(l:List zar):(l.map zaf).all clB=true:=cl_o (fun _ _=>rfl) l
@[go_sem] theorem zmM(l:List zar):frzR (l.map zaf)=l.map zaf:=zi0 (fun _=>rfl) l
@[go_sem] theorem znb(l:List zar):okR (l.map zaf)=true:=ok_o (fun _=>rfl) l
structure zau where
 mk ::
 Kind:Int
 Reg:Int
 Sym:Int
 N:Int
 deriving Inhabited,DecidableEq
structure zaj where
 mk ::
 Op:Int
 Lock:Bool
 Cond:Int
 A:zau
 B:zau
 To:ByteArray
 zLb:(List ByteArray)
 deriving Inhabited,DecidableEq
@[go_sem] def zav(x:zaj):List AV:=[.int .i64 x.Op,.bool x.Lock,.int .i64 x.Cond,.int .i64 x.A.Kind,.int .i64 x.A.Reg,.int .i64 x.A.Sym,.int .i64 x.A.N,.int .i64 x.B.Kind,.int .i64 x.B.Reg,.int .i64 x.B.Sym,.int .i64 x.B.N,.str x.To,.sl (x.zLb.map eStr)]
@[go_sem] theorem zlL(n:Nat)(l:List zaj):(l.map zav).all (zbn n)=true:=by simp only [List.all_map,List.all_eq_true]; intro x _; rfl
@[go_sem] theorem zns(l:List zaj):(l.map zav).all clB=true:=cl_o (fun _ _=>rfl) l
@[go_sem] theorem zmN(l:List zaj):frzR (l.map zav)=l.map zav:=zi0 (fun _=>rfl) l
@[go_sem] theorem znc(l:List zaj):okR (l.map zav)=true:=ok_o (fun _=>rfl) l
structure zak where
 mk ::
 Ins:(List zaj)
 deriving Inhabited,DecidableEq
@[go_sem] def zbb(x:zak):List AV:=[.sl (x.Ins.map zav)]
@[go_sem] def zad(x:zak):List AV:=[.zBx (x.Ins.map zav) 13 55]
@[go_sem] theorem zj8(n:Nat)(l:List zak):(l.map zad).all (zbn n)=true:=zlA (fun _ _=>rfl) n l
@[go_sem] theorem zlJ(l:List zak):(l.map zad).all clB=true:=cl_o (fun _ _=>rfl) l
@[go_sem] theorem zlh(l:List zak):frzR (l.map zad)=l.map zbb:=zi0 (fun x=>by simp only [zad,zbb,frzL,frzC,go_sem]) l
@[go_sem] theorem zlD(l:List zak):okR (l.map zad)=true:=ok_o (fun x=>by simp only [zad,okL,okC,zcE,Bool.and_true,Bool.true_and,go_sem]) l
structure zaw where
 mk ::
 zSy:(List zar)
 zTh:(List zak)
 deriving Inhabited,DecidableEq
@[go_sem] def zat(x:zaw):List AV:=[.sl (x.zSy.map zaf),.sl (x.zTh.map zbb)]
structure zab where
 mk ::
 Kind:Int
 Line:Int
 Col:Int
 Text:ByteArray
 deriving Inhabited,DecidableEq
@[go_sem] def zac(x:zab):List AV:=[.int .i64 x.Kind,.int .i64 x.Line,.int .i64 x.Col,.str x.Text]
@[go_sem] theorem zkG(l:List zab):(l.map zac).all zbW=true:=by simp only [List.all_map,List.all_eq_true]; intro x _; rfl
@[go_sem] theorem zke(n:Nat)(l:List zab):(l.map zac).all (zbn n)=true:=by simp only [List.all_map,List.all_eq_true]; intro x _; rfl
@[go_sem] theorem zms(l:List zab):(l.map zac).all clB=true:=cl_o (fun _ _=>rfl) l
@[go_sem] theorem zlF(l:List zab):frzR (l.map zac)=l.map zac:=zi0 (fun _=>rfl) l
@[go_sem] theorem zl5(l:List zab):okR (l.map zac)=true:=ok_o (fun _=>rfl) l
structure zbA where
 mk ::
 Rune:Int
 At:Int
 Size:Int
 Line:Int
 Col:Int
 Bad:Bool
 deriving Inhabited,DecidableEq
structure zah where
 mk ::
 Rune:Int
 At:Int
 Size:Int
 Line:Int
 Col:Int
 Bad:Bool
 deriving Inhabited,DecidableEq
@[go_sem] def zap(x:zah):List AV:=[.int .i32 x.Rune,.int .i64 x.At,.int .i64 x.Size,.int .i64 x.Line,.int .i64 x.Col,.bool x.Bad]
@[go_sem] theorem zkc(l:List zah):(l.map zap).all zbW=true:=by simp only [List.all_map,List.all_eq_true]; intro x _; rfl
@[go_sem] theorem zj9(n:Nat)(l:List zah):(l.map zap).all (zbn n)=true:=by simp only [List.all_map,List.all_eq_true]; intro x _; rfl
@[go_sem] theorem zli(l:List zah):frzR (l.map zap)=l.map zap:=zi0 (fun _=>rfl) l
@[go_sem] theorem zlE(l:List zah):okR (l.map zap)=true:=ok_o (fun _=>rfl) l
structure zan where
 mk ::
 head:zab
 labels:(List (ByteArray × Bool))
 open_:(List ByteArray)
 zFi:(List zab)
 zTg:(List zab)
 deriving Inhabited,DecidableEq
@[go_sem] def zae(x:zan):List AV:=[.int .i64 x.head.Kind,.int .i64 x.head.Line,.int .i64 x.head.Col,.str x.head.Text,.zBm (x.labels.map (eKV AV.str AV.bool)),.zBx (x.open_.map eStr) 1 9,.zBx (x.zFi.map zac) 4 43,.zBx (x.zTg.map zac) 4 43]
@[go_sem] theorem zj7(n:Nat)(l:List zan):(l.map zae).all (zbn n)=true:=zlA (fun _ _=>rfl) n l
@[go_sem] theorem zlI(l:List zan):(l.map zae).all clB=true:=cl_o (fun _ _=>rfl) l
@[go_sem] theorem zky{m:Nat->Nat}(l:List zan):(l.map zae).map (rens m)=l.map zae:=zqj (fun _=>rfl) l
@[go_sem] theorem zku{l:List zan}{i:Int}(h:InB i l.length):(l.map zae).set i.toNat [.int .i64 ((rd l i).head.Kind),.int .i64 ((rd l i).head.Line),.int .i64 ((rd l i).head.Col),.str ((rd l i).head.Text),.zBm (((rd l i).labels).map (eKV AV.str AV.bool)),.zBx (((rd l i).open_).map eStr) 1 9,.zBx (((rd l i).zFi).map zac) 4 43,.zBx (((rd l i).zTg).map zac) 4 43]=l.map zae:=zqh h rfl
structure zaa where
 mk ::
 l:(List zab)
 at_:Int
 p:zaw
 b:(List zan)
 f:zag
 deriving Inhabited,DecidableEq
@[go_sem] def zas(x:zaa):List AV:=[.sl (x.l.map zac),.int .i64 x.at_,.zBx (x.p.zSy.map zaf) 3 86,.zBx (x.p.zTh.map zad) 1 65,.zBx (x.b.map zae) 8 135,.int .i64 x.f.Code,.int .i64 x.f.Line,.int .i64 x.f.Col]
structure zdF where
 mk ::
 Reg:Int
 deriving Inhabited,DecidableEq
structure zdG where
 mk ::
 N:Int
 deriving Inhabited,DecidableEq
structure zd5 where
 mk ::
 Sym:Int
 N:Int
 deriving Inhabited,DecidableEq
structure zd4 where
 mk ::
 Sym:Int
 Reg:Int
 deriving Inhabited,DecidableEq
inductive zbo where
 | nil
 | RegPart (x:zdF)
 | NumPart (x:zdG)
 | AtPart (x:zd5)
 | ByPart (x:zd4)
 deriving Inhabited,DecidableEq
def zbN:zbo->AV
 | .nil=>.nili
 | .RegPart x=>.iface 145 (.agg [.int .i64 x.Reg])
 | .NumPart x=>.iface 147 (.agg [.int .i64 x.N])
 | .AtPart x=>.iface 149 (.agg [.int .i64 x.Sym,.int .i64 x.N])
 | .ByPart x=>.iface 151 (.agg [.int .i64 x.Sym,.int .i64 x.Reg])
@[go_sem] theorem zc7:zbN .nil=.nili:=rfl
@[go_sem] theorem zco{x:zdF}:zbN (.RegPart x)=.iface 145 (.agg [.int .i64 x.Reg]):=rfl
@[go_sem] theorem zcp{x:zdG}:zbN (.NumPart x)=.iface 147 (.agg [.int .i64 x.N]):=rfl
@[go_sem] theorem zcx{x:zd5}:zbN (.AtPart x)=.iface 149 (.agg [.int .i64 x.Sym,.int .i64 x.N]):=rfl
@[go_sem] theorem zcw{x:zd4}:zbN (.ByPart x)=.iface 151 (.agg [.int .i64 x.Sym,.int .i64 x.Reg]):=rfl
@[go_sem] theorem zkd{x:zbo}:zcE (zbN x)=true:=by cases x <;> rfl
@[go_sem] theorem zka{k:Nat}{x:zbo}:zaO k (zbN x)=true:=by cases x <;> rfl
theorem W.sqh{P:Program}{N n0:Nat}{id}{l:List Oper}{y s h Q k}(F:List Nat)(s1:zax)(hy:WK P N n0 y Q s1 h)(hN:zdl N l.toArray=true:=by rfl)
  (hrun:RunE P l.toArray (fun s h0=>AT n0 ⟨F,[]⟩ s1 h s h0) l s h (held _):=by exact RO):W P N n0 (.seq (.region id l.toArray false) y) Q s h k:=W.sq F s1 h hy hN hrun
theorem W.wk{P:Program}{N n0:Nat}{c s h Q k}(F:Gs)(s1:zax)(h1:Hp)(hy:WK P N n0 c Q s1 h1)(hw:AT n0 F s1 h1 s h:=by exact RO):W P N n0 c Q s h k:=W.weak F hw hy
theorem W.rt{P:Program}{N n0:Nat}{s h Q k}(hq:Q .ret s h:=by first | exact zgN.retW ⟨[],[]⟩ RO | exact zdt.retW [] RO):W P N n0 .ret Q s h k:=W.ret hq
end Go.Vs
