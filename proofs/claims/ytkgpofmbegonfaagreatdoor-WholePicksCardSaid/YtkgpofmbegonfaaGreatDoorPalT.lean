import Derived.Test.YtkgpofmbegonfaaGreatDoorVu3
set_option linter.all false
namespace Go.Vs
@[go_sem,reducible] def zi(x:Int):AV:=.int .i64 x
@[go_sem,reducible] def zM{α:Type}(b w k:Nat)(l:List α):AV:=.msl b w 0 k l.length l.length
@[go_sem,reducible] def zw(x:Int):Int:=IntKind.wrap .i64 x
theorem zo{α:Type}{a b:α}(h:some a=some b):a=b:=Option.some.inj h
variable [Tab]
@[go_sem] def eInt(k:IntKind)(n:Int):List AV:=[.int k n]
@[go_sem] def eStr(s:ByteArray):List AV:=[.str s]
@[go_sem] theorem zqN{k:IntKind}(l:List Int):frzR (l.map (eInt k))=l.map (eInt k):=zjg (fun _=>rfl) l
@[go_sem] theorem zrE{k:IntKind}(l:List Int):okR (l.map (eInt k))=true:=ok_o (fun _=>rfl) l
@[go_sem] theorem zoM{k:IntKind}(n:Nat)(l:List Int):(l.map (eInt k)).all (za0 n)=true:=by simp only [List.all_map,List.all_eq_true]; intro x _; rfl
@[go_sem] theorem zo6{k:IntKind}(l:List Int):(l.map (eInt k)).all zbR=true:=by simp only [List.all_map,List.all_eq_true]; intro x _; rfl
@[go_sem] theorem zrP(l:List ByteArray):(l.map eStr).all clB=true:=cl_o (fun _ _=>rfl) l
@[go_sem] theorem zqM(l:List ByteArray):frzR (l.map eStr)=l.map eStr:=zjg (fun _=>rfl) l
@[go_sem] theorem zrD(l:List ByteArray):okR (l.map eStr)=true:=ok_o (fun _=>rfl) l
@[go_sem] theorem zoL(n:Nat)(l:List ByteArray):(l.map eStr).all (za0 n)=true:=by simp only [List.all_map,List.all_eq_true]; intro x _; rfl
@[go_sem] theorem zqI(l:List ByteArray):(l.map eStr).all (·.length==1)=true:=by simp only [List.all_map,List.all_eq_true]; intro x _; rfl
@[go_sem] theorem zo5(l:List ByteArray):(l.map eStr).all zbR=true:=by simp only [List.all_map,List.all_eq_true]; intro x _; rfl
structure A2 (α:Type) where
 mk ::
 a0:α
 a1:α
 deriving Inhabited,DecidableEq
def A2.get{α:Type}(x:A2 α)(i:Int):α:=if i=0 then x.a0 else x.a1
def A2.put{α:Type}(x:A2 α)(i:Int)(v:α):A2 α:=if i=0 then { x with a0:=v } else { x with a1:=v }
structure A8 (α:Type) where
 mk ::
 a0:α
 a1:α
 a2:α
 a3:α
 a4:α
 a5:α
 a6:α
 a7:α
 deriving Inhabited,DecidableEq
def A8.get{α:Type}(x:A8 α)(i:Int):α:=if i=0 then x.a0 else if i=1 then x.a1 else if i=2 then x.a2 else if i=3 then x.a3 else if i=4 then x.a4 else if i=5 then x.a5 else if i=6 then x.a6 else x.a7
def A8.put{α:Type}(x:A8 α)(i:Int)(v:α):A8 α:=if i=0 then { x with a0:=v } else if i=1 then { x with a1:=v } else if i=2 then { x with a2:=v } else if i=3 then { x with a3:=v } else if i=4 then { x with a4:=v } else if i=5 then { x with a5:=v } else if i=6 then { x with a6:=v } else { x with a7:=v }
structure A16 (α:Type) where
 mk ::
 a0:α
 a1:α
 a2:α
 a3:α
 a4:α
 a5:α
 a6:α
 a7:α
 a8:α
 a9:α
 a10:α
 a11:α
 a12:α
 a13:α
 a14:α
 a15:α
 deriving Inhabited,DecidableEq
def A16.get{α:Type}(x:A16 α)(i:Int):α:=if i=0 then x.a0 else if i=1 then x.a1 else if i=2 then x.a2 else if i=3 then x.a3 else if i=4 then x.a4 else if i=5 then x.a5 else if i=6 then x.a6 else if i=7 then x.a7 else if i=8 then x.a8 else if i=9 then x.a9 else if i=10 then x.a10 else if i=11 then x.a11 else if i=12 then x.a12 else if i=13 then x.a13 else if i=14 then x.a14 else x.a15
def A16.put{α:Type}(x:A16 α)(i:Int)(v:α):A16 α:=if i=0 then { x with a0:=v } else if i=1 then { x with a1:=v } else if i=2 then { x with a2:=v } else if i=3 then { x with a3:=v } else if i=4 then { x with a4:=v } else if i=5 then { x with a5:=v } else if i=6 then { x with a6:=v } else if i=7 then { x with a7:=v } else if i=8 then { x with a8:=v } else if i=9 then { x with a9:=v } else if i=10 then { x with a10:=v } else if i=11 then { x with a11:=v } else if i=12 then { x with a12:=v } else if i=13 then { x with a13:=v } else if i=14 then { x with a14:=v } else { x with a15:=v }
def znJ(l:List Int):ByteArray:=⟨(l.map fun n=>UInt8.ofNat n.toNat).toArray⟩
def zcl{α β γ:Type}(f:α->Option γ)(g:β->Option γ):α ⊕ β->Option γ | .inl a=>f a | .inr b=>g b
theorem zc9{α β γ:Type}{f:α->Option γ}{g:β->Option γ}{a:α}{x:Option γ}(h:zcl f g (.inl a)=x):f a=x:=h
theorem zc8{α β γ:Type}{f:α->Option γ}{g:β->Option γ}{b:β}{x:Option γ}(h:zcl f g (.inr b)=x):g b=x:=h
attribute [go_sem] List.all_append List.all_cons List.all_nil
@[go_sem] theorem zrS{α:Type}{p:α->Bool}{l:List α}{i:Nat}{a:α}(hl:l.all p=true)(ha:p a=true):(l.set i a).all p=true:=by
 rw [List.all_eq_true] at hl ⊢
 intro x hx
 rcases List.mem_or_eq_of_mem_set hx with h | h
 ·exact hl x h
 ·rw [h]; exact ha
structure zaj where
 mk ::
 Thread:Int
 Flush:Bool
 deriving Inhabited,DecidableEq
@[go_sem] def zah(x:zaj):List AV:=[.int .i64 x.Thread,.bool x.Flush]
@[go_sem] theorem zmm(l:List zaj):(l.map zah).all zbR=true:=by simp only [List.all_map,List.all_eq_true]; intro x _; rfl
@[go_sem] theorem zmi(n:Nat)(l:List zaj):(l.map zah).all (za0 n)=true:=by simp only [List.all_map,List.all_eq_true]; intro x _; rfl
@[go_sem] theorem zm2(l:List zaj):frzR (l.map zah)=l.map zah:=zjg (fun _=>rfl) l
@[go_sem] theorem znv(l:List zaj):okR (l.map zah)=true:=ok_o (fun _=>rfl) l
structure zav where
 mk ::
 Name:ByteArray
 Size:Int
 Init:(List Int)
 deriving Inhabited,DecidableEq
@[go_sem] def zaf(x:zav):List AV:=[.str x.Name,.int .i64 x.Size,.sl (x.Init.map (eInt .i64))]
@[go_sem] theorem zmN(l:List zav):(l.map zaf).all zbR=true:=by simp only [List.all_map,List.all_eq_true]; intro x _; rfl
@[go_sem] theorem zmv(n:Nat)(l:List zav):(l.map zaf).all (za0 n)=true:=by simp only [List.all_map,List.all_eq_true]; intro x _; rfl
@[go_sem] theorem zol(l:List zav):(l.map zaf).all clB=true:=cl_o (fun _ _=>rfl) l
@[go_sem] theorem znB(l:List zav):frzR (l.map zaf)=l.map zaf:=zjg (fun _=>rfl) l
@[go_sem] theorem zn2(l:List zav):okR (l.map zaf)=true:=ok_o (fun _=>rfl) l
structure zaw where
 mk ::
 Kind:Int
 Reg:Int
 Sym:Int
 N:Int
 deriving Inhabited,DecidableEq
@[go_sem] def zpx(x:zaw):List AV:=[.int .i64 x.Kind,.int .i64 x.Reg,.int .i64 x.Sym,.int .i64 x.N]
structure zao where
 mk ::
 Op:Int
 Lock:Bool
 Cond:Int
 A:zaw
 B:zaw
 To:ByteArray
 zLb:(List ByteArray)
 deriving Inhabited,DecidableEq
@[go_sem] def zaz(x:zao):List AV:=[.int .i64 x.Op,.bool x.Lock,.int .i64 x.Cond,.int .i64 x.A.Kind,.int .i64 x.A.Reg,.int .i64 x.A.Sym,.int .i64 x.A.N,.int .i64 x.B.Kind,.int .i64 x.B.Reg,.int .i64 x.B.Sym,.int .i64 x.B.N,.str x.To,.sl (x.zLb.map eStr)]
@[go_sem] theorem zmw(n:Nat)(l:List zao):(l.map zaz).all (za0 n)=true:=by simp only [List.all_map,List.all_eq_true]; intro x _; rfl
@[go_sem] theorem zom(l:List zao):(l.map zaz).all clB=true:=cl_o (fun _ _=>rfl) l
@[go_sem] theorem znC(l:List zao):frzR (l.map zaz)=l.map zaz:=zjg (fun _=>rfl) l
@[go_sem] theorem zn3(l:List zao):okR (l.map zaz)=true:=ok_o (fun _=>rfl) l
structure zal where
 mk ::
 Ins:(List zao)
 deriving Inhabited,DecidableEq
@[go_sem] def zbF(x:zal):List AV:=[.sl (x.Ins.map zaz)]
@[go_sem] def zad(x:zal):List AV:=[.zBx (x.Ins.map zaz) 13 203]
@[go_sem] theorem zk3(n:Nat)(l:List zal):(l.map zad).all (za0 n)=true:=zjM (fun _ _=>rfl) n l
@[go_sem] theorem zmu(l:List zal):(l.map zad).all clB=true:=cl_o (fun _ _=>rfl) l
@[go_sem] theorem zl2(l:List zal):frzR (l.map zad)=l.map zbF:=zjg (fun x=>by simp only [zad,zbF,frzL,frzC,go_sem]) l
@[go_sem] theorem zmn(l:List zal):okR (l.map zad)=true:=ok_o (fun x=>by simp only [zad,okL,okC,zcP,Bool.and_true,Bool.true_and,go_sem]) l
structure zaH where
 mk ::
 zSy:(List zav)
 zTh:(List zal)
 deriving Inhabited,DecidableEq
@[go_sem] def zdA(x:zaH):List AV:=[.sl (x.zSy.map zaf),.sl (x.zTh.map zbF)]
structure zai where
 mk ::
 Code:Int
 Line:Int
 Col:Int
 deriving Inhabited,DecidableEq
@[go_sem] def zaZ(x:zai):List AV:=[.int .i64 x.Code,.int .i64 x.Line,.int .i64 x.Col]
structure zac where
 mk ::
 Kind:Int
 Line:Int
 Col:Int
 Text:ByteArray
 deriving Inhabited,DecidableEq
@[go_sem] def zab(x:zac):List AV:=[.int .i64 x.Kind,.int .i64 x.Line,.int .i64 x.Col,.str x.Text]
@[go_sem] theorem zlC(l:List zac):(l.map zab).all zbR=true:=by simp only [List.all_map,List.all_eq_true]; intro x _; rfl
@[go_sem] theorem zlc(n:Nat)(l:List zac):(l.map zab).all (za0 n)=true:=by simp only [List.all_map,List.all_eq_true]; intro x _; rfl
@[go_sem] theorem znh(l:List zac):(l.map zab).all clB=true:=cl_o (fun _ _=>rfl) l
@[go_sem] theorem zmp(l:List zac):frzR (l.map zab)=l.map zab:=zjg (fun _=>rfl) l
@[go_sem] theorem zmO(l:List zac):okR (l.map zab)=true:=ok_o (fun _=>rfl) l
structure zap where
 mk ::
 head:zac
 labels:(List (ByteArray × Bool))
 open_:(List ByteArray)
 zFi:(List zac)
 zTg:(List zac)
 deriving Inhabited,DecidableEq
@[go_sem] def zae(x:zap):List AV:=[.int .i64 x.head.Kind,.int .i64 x.head.Line,.int .i64 x.head.Col,.str x.head.Text,.zBm (x.labels.map (eKV AV.str AV.bool)),.zBx (x.open_.map eStr) 1 9,.zBx (x.zFi.map zab) 4 192,.zBx (x.zTg.map zab) 4 192]
@[go_sem] theorem zk2(n:Nat)(l:List zap):(l.map zae).all (za0 n)=true:=zjM (fun _ _=>rfl) n l
@[go_sem] theorem zmt(l:List zap):(l.map zae).all clB=true:=cl_o (fun _ _=>rfl) l
@[go_sem] theorem zly{m:Nat->Nat}(l:List zap):(l.map zae).map (rens m)=l.map zae:=zo3 (fun _=>rfl) l
@[go_sem] theorem zls{l:List zap}{i:Int}(h:InB i l.length):(l.map zae).set i.toNat [.int .i64 ((rd l i).head.Kind),.int .i64 ((rd l i).head.Line),.int .i64 ((rd l i).head.Col),.str ((rd l i).head.Text),.zBm (((rd l i).labels).map (eKV AV.str AV.bool)),.zBx (((rd l i).open_).map eStr) 1 9,.zBx (((rd l i).zFi).map zab) 4 192,.zBx (((rd l i).zTg).map zab) 4 192]=l.map zae:=zry h rfl
structure zaa where
 mk ::
 l:(List zac)
 at_:Int
 p:zaH
 b:(List zap)
 f:zai
 deriving Inhabited,DecidableEq
@[go_sem] def zat(x:zaa):List AV:=[.sl (x.l.map zab),.int .i64 x.at_,.zBx (x.p.zSy.map zaf) 3 205,.zBx (x.p.zTh.map zad) 1 121,.zBx (x.b.map zae) 8 199,.int .i64 x.f.Code,.int .i64 x.f.Line,.int .i64 x.f.Col]
structure zak where
 mk ::
 Rune:Int
 At:Int
 Size:Int
 Line:Int
 Col:Int
 Bad:Bool
 deriving Inhabited,DecidableEq
@[go_sem] def zam(x:zak):List AV:=[.int .i32 x.Rune,.int .i64 x.At,.int .i64 x.Size,.int .i64 x.Line,.int .i64 x.Col,.bool x.Bad]
@[go_sem] theorem zk9(l:List zak):(l.map zam).all zbR=true:=by simp only [List.all_map,List.all_eq_true]; intro x _; rfl
@[go_sem] theorem zk4(n:Nat)(l:List zak):(l.map zam).all (za0 n)=true:=by simp only [List.all_map,List.all_eq_true]; intro x _; rfl
@[go_sem] theorem zl3(l:List zak):frzR (l.map zam)=l.map zam:=zjg (fun _=>rfl) l
@[go_sem] theorem zmo(l:List zak):okR (l.map zam)=true:=ok_o (fun _=>rfl) l
structure zd8 where
 mk ::
 Reg:Int
 deriving Inhabited,DecidableEq
structure zd9 where
 mk ::
 N:Int
 deriving Inhabited,DecidableEq
structure zdr where
 mk ::
 Sym:Int
 N:Int
 deriving Inhabited,DecidableEq
@[go_sem] def znb(x:zdr):List AV:=[.int .i64 x.Sym,.int .i64 x.N]
structure zdq where
 mk ::
 Sym:Int
 Reg:Int
 deriving Inhabited,DecidableEq
@[go_sem] def zna(x:zdq):List AV:=[.int .i64 x.Sym,.int .i64 x.Reg]
inductive zbo where
 | nil
 | RegPart (x:zd8)
 | NumPart (x:zd9)
 | AtPart (x:zdr)
 | ByPart (x:zdq)
 deriving Inhabited,DecidableEq
def zbZ:zbo->AV
 | .nil=>.nili
 | .RegPart x=>.iface 343 (.agg [.int .i64 x.Reg])
 | .NumPart x=>.iface 345 (.agg [.int .i64 x.N])
 | .AtPart x=>.iface 347 (.agg [.int .i64 x.Sym,.int .i64 x.N])
 | .ByPart x=>.iface 349 (.agg [.int .i64 x.Sym,.int .i64 x.Reg])
@[go_sem] theorem zdn:zbZ .nil=.nili:=rfl
@[go_sem] theorem zcE{x:zd8}:zbZ (.RegPart x)=.iface 343 (.agg [.int .i64 x.Reg]):=rfl
@[go_sem] theorem zcF{x:zd9}:zbZ (.NumPart x)=.iface 345 (.agg [.int .i64 x.N]):=rfl
@[go_sem] theorem zcK{x:zdr}:zbZ (.AtPart x)=.iface 347 (.agg [.int .i64 x.Sym,.int .i64 x.N]):=rfl
@[go_sem] theorem zcJ{x:zdq}:zbZ (.ByPart x)=.iface 349 (.agg [.int .i64 x.Sym,.int .i64 x.Reg]):=rfl
@[go_sem] theorem zla{x:zbo}:zcP (zbZ x)=true:=by cases x <;> rfl
@[go_sem] theorem zk5{k:Nat}{x:zbo}:zaS k (zbZ x)=true:=by cases x <;> rfl
@[go_sem,reducible] def zbS(l:List zav):AV:=.zBx (l.map zaf) 3 54
@[go_sem,reducible] def zbT(l:List zal):AV:=.zBx (l.map zad) 1 59
@[go_sem,reducible] def zbB(l:List zap):AV:=.zBx (l.map zae) 8 109
@[go_sem,reducible] def zbK(l:List zac):AV:=.zBx (l.map zab) 4 41
@[go_sem,reducible] def zbL(l:List (List zac)):AV:=.zBx (l.map (oSl 4 41 zab)) 1 34
@[go_sem,reducible] def zbI(l:List Int):AV:=.zBx (l.map (eInt .i64)) 1 3
@[go_sem,reducible] def zbW(l:List ByteArray):AV:=.zBx (l.map eStr) 1 9
@[go_sem,reducible] def zqT(x:zac):AV:=.agg [.int .i64 x.Kind,.int .i64 x.Line,.int .i64 x.Col,.str x.Text]
theorem W.sqh{P:Program}{N n0:Nat}{id}{l:List Oper}{y s h Q k}(F:List Nat)(s1:zax)(hy:WK P N n0 y Q s1 h)(hN:zdN N l.toArray=true:=by rfl)
  (hrun:RunE P l.toArray (fun s h0=>AT n0 ⟨F,[]⟩ s1 h s h0) l s h (held _):=by exact RO):W P N n0 (.seq (.region id l.toArray false) y) Q s h k:=W.sq F s1 h hy hN hrun
theorem W.wk{P:Program}{N n0:Nat}{c s h Q k}(F:Gs)(s1:zax)(h1:Hp)(hy:WK P N n0 c Q s1 h1)(hw:AT n0 F s1 h1 s h:=by exact RO):W P N n0 c Q s h k:=W.weak F hw hy
theorem W.rt{P:Program}{N n0:Nat}{s h Q k}(hq:Q .ret s h:=by first | exact zgg.retW ⟨[],[]⟩ RO | exact zcj.retW [] RO):W P N n0 .ret Q s h k:=W.ret hq
end Go.Vs
