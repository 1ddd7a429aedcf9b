import Derived.Test.YtocjejladeeckaaGreatDoorVu3
set_option linter.all false
namespace Go.Vs
@[go_sem,reducible] def zi(x:Int):AV:=.int .i64 x
@[go_sem,reducible] def zM{α:Type}(b w k:Nat)(l:List α):AV:=.msl b w 0 k l.length l.length
@[go_sem,reducible] def zw(x:Int):Int:=IntKind.wrap .i64 x
theorem zo{α:Type}{a b:α}(h:some a=some b):a=b:=Option.some.inj h
variable [Tab]
@[go_sem] def eInt(k:IntKind)(n:Int):List AV:=[.int k n]
@[go_sem] def eStr(s:ByteArray):List AV:=[.str s]
@[go_sem] def eSl{α:Type}(f:α->List AV)(l:List α):List AV:=[.sl (l.map f)]
@[go_sem] theorem zzd{k:IntKind}(l:List Int):(l.map (eInt k)).all clB=true:=cl_o (fun _ _=>rfl) l
@[go_sem] theorem zwS{k:IntKind}(l:List Int):frzR (l.map (eInt k))=l.map (eInt k):=znd (fun _=>rfl) l
@[go_sem] theorem zyR{k:IntKind}(l:List Int):okR (l.map (eInt k))=true:=ok_o (fun _=>rfl) l
@[go_sem] theorem zuQ{k:IntKind}(n:Nat)(l:List Int):(l.map (eInt k)).all (zbX n)=true:=by simp only [List.all_map,List.all_eq_true]; intro x _; rfl
@[go_sem] theorem zvb{k:IntKind}(l:List Int):(l.map (eInt k)).all zcQ=true:=by simp only [List.all_map,List.all_eq_true]; intro x _; rfl
@[go_sem] theorem zwu{m:Nat->Nat}(l:List ByteArray):(l.map eStr).map (rens m)=l.map eStr:=zrS (fun _=>rfl) l
@[go_sem] theorem zzc(l:List ByteArray):(l.map eStr).all clB=true:=cl_o (fun _ _=>rfl) l
@[go_sem] theorem zwR(l:List ByteArray):frzR (l.map eStr)=l.map eStr:=znd (fun _=>rfl) l
@[go_sem] theorem zyQ(l:List ByteArray):okR (l.map eStr)=true:=ok_o (fun _=>rfl) l
@[go_sem] theorem zuP(n:Nat)(l:List ByteArray):(l.map eStr).all (zbX n)=true:=by simp only [List.all_map,List.all_eq_true]; intro x _; rfl
@[go_sem] theorem zva(l:List ByteArray):(l.map eStr).all zcQ=true:=by simp only [List.all_map,List.all_eq_true]; intro x _; rfl
def ziG(l:List Int):ByteArray:=⟨(l.map fun n=>UInt8.ofNat n.toNat).toArray⟩
@[go_sem] theorem ztq(n:Int):ziR [[.int .u8 n]]=some (ziG [n]):=rfl
@[go_sem] theorem ztp(n m:Int):ziR [[.int .u8 n],[.int .u8 m]]=some (ziG [n,m]):=rfl
def zbM{α β γ:Type}(f:α->Option γ)(g:β->Option γ):α ⊕ β->Option γ | .inl a=>f a | .inr b=>g b
theorem zdk{α β γ:Type}{f:α->Option γ}{g:β->Option γ}{a:α}{x:Option γ}(h:zbM f g (.inl a)=x):f a=x:=h
theorem zdj{α β γ:Type}{f:α->Option γ}{g:β->Option γ}{b:β}{x:Option γ}(h:zbM f g (.inr b)=x):g b=x:=h
attribute [go_sem] List.all_append List.all_cons List.all_nil
@[go_sem] theorem zzg{α:Type}{p:α->Bool}{l:List α}{i:Nat}{a:α}(hl:l.all p=true)(ha:p a=true):(l.set i a).all p=true:=by
 rw [List.all_eq_true] at hl ⊢
 intro x hx
 rcases List.mem_or_eq_of_mem_set hx with h | h
 ·exact hl x h
 ·rw [h]; exact ha
structure zak where
 mk ::
 Name:ByteArray
 Size:Int
 Init:(List Int)
 deriving Inhabited,DecidableEq
@[go_sem] def zan(x:zak):List AV:=[.str x.Name,.int .i64 x.Size,.sl (x.Init.map (eInt .i64))]
@[go_sem] theorem zrX(l:List zak):(l.map zan).all zcQ=true:=by simp only [List.all_map,List.all_eq_true]; intro x _; rfl
@[go_sem] theorem zrv(n:Nat)(l:List zak):(l.map zan).all (zbX n)=true:=by simp only [List.all_map,List.all_eq_true]; intro x _; rfl
@[go_sem] theorem zt8(l:List zak):(l.map zan).all clB=true:=cl_o (fun _ _=>rfl) l
@[go_sem] theorem zsS{m:Nat->Nat}(l:List zak):(l.map zan).map (rens m)=l.map zan:=zrS (fun _=>rfl) l
@[go_sem] theorem zs1(l:List zak):frzR (l.map zan)=l.map zan:=znd (fun _=>rfl) l
@[go_sem] theorem ztJ(l:List zak):okR (l.map zan)=true:=ok_o (fun _=>rfl) l
structure zal where
 mk ::
 Kind:Int
 Reg:Int
 Sym:Int
 N:Int
 deriving Inhabited,DecidableEq
@[go_sem] def ziD(x:zal):List AV:=[.int .i64 x.Kind,.int .i64 x.Reg,.int .i64 x.Sym,.int .i64 x.N]
structure zae where
 mk ::
 Op:Int
 Lock:Bool
 Cond:Int
 A:zal
 B:zal
 To:ByteArray
 zLb:(List ByteArray)
 deriving Inhabited,DecidableEq
@[go_sem] def zar(x:zae):List AV:=[.int .i64 x.Op,.bool x.Lock,.int .i64 x.Cond,.int .i64 x.A.Kind,.int .i64 x.A.Reg,.int .i64 x.A.Sym,.int .i64 x.A.N,.int .i64 x.B.Kind,.int .i64 x.B.Reg,.int .i64 x.B.Sym,.int .i64 x.B.N,.str x.To,.sl (x.zLb.map eStr)]
@[go_sem] theorem zrY(l:List zae):(l.map zar).all zcQ=true:=by simp only [List.all_map,List.all_eq_true]; intro x _; rfl
@[go_sem] theorem zrw(n:Nat)(l:List zae):(l.map zar).all (zbX n)=true:=by simp only [List.all_map,List.all_eq_true]; intro x _; rfl
@[go_sem] theorem zt9(l:List zae):(l.map zar).all clB=true:=cl_o (fun _ _=>rfl) l
@[go_sem] theorem zs2(l:List zae):frzR (l.map zar)=l.map zar:=znd (fun _=>rfl) l
@[go_sem] theorem ztK(l:List zae):okR (l.map zar)=true:=ok_o (fun _=>rfl) l
structure zad where
 mk ::
 Ins:(List zae)
 deriving Inhabited,DecidableEq
@[go_sem] def zaB(x:zad):List AV:=[.sl (x.Ins.map zar)]
@[go_sem] def zai(x:zad):List AV:=[.zBx (x.Ins.map zar) 13 63]
@[go_sem] theorem zpC(n:Nat)(l:List zad):(l.map zai).all (zbX n)=true:=zn7 (fun _ _=>rfl) n l
@[go_sem] theorem zru(l:List zad):(l.map zai).all clB=true:=cl_o (fun _ _=>rfl) l
@[go_sem] theorem zqf{m:Nat->Nat}(l:List zad):(l.map zai).map (rens m)=l.map zai:=zrS (fun _=>rfl) l
@[go_sem] theorem zq7(l:List zad):frzR (l.map zai)=l.map zaB:=znd (fun x=>by simp only [zai,zaB,frzL,frzC,go_sem]) l
@[go_sem] theorem zrn(l:List zad):okR (l.map zai)=true:=ok_o (fun x=>by simp only [zai,okL,okC,zez,Bool.and_true,Bool.true_and,go_sem]) l
structure zag where
 mk ::
 zSy:(List zak)
 zTh:(List zad)
 deriving Inhabited,DecidableEq
@[go_sem] def zao(x:zag):List AV:=[.sl (x.zSy.map zan),.sl (x.zTh.map zaB)]
structure zaj where
 mk ::
 Code:Int
 Line:Int
 Col:Int
 deriving Inhabited,DecidableEq
@[go_sem] def zcs(x:zaj):List AV:=[.int .i64 x.Code,.int .i64 x.Line,.int .i64 x.Col]
structure zab where
 mk ::
 Kind:Int
 Line:Int
 Col:Int
 Text:ByteArray
 deriving Inhabited,DecidableEq
@[go_sem] def zam(x:zab):List AV:=[.int .i64 x.Kind,.int .i64 x.Line,.int .i64 x.Col,.str x.Text]
@[go_sem] theorem zqq(l:List zab):(l.map zam).all zcQ=true:=by simp only [List.all_map,List.all_eq_true]; intro x _; rfl
@[go_sem] theorem zpM(n:Nat)(l:List zab):(l.map zam).all (zbX n)=true:=by simp only [List.all_map,List.all_eq_true]; intro x _; rfl
@[go_sem] theorem zsz(l:List zab):(l.map zam).all clB=true:=cl_o (fun _ _=>rfl) l
@[go_sem] theorem zrp(l:List zab):frzR (l.map zam)=l.map zam:=znd (fun _=>rfl) l
@[go_sem] theorem zr1(l:List zab):okR (l.map zam)=true:=ok_o (fun _=>rfl) l
@[go_sem] theorem zzF{l:List (List zab)}{i:Int}(h:InB i l.length):(l.map (oSl 4 41 zam)).set i.toNat [.zBx ((rd l i).map zam) 4 41]=l.map (oSl 4 41 zam):=zu6 h rfl
structure zay where
 mk ::
 Kind:Int
 A:Int
 B:Int
 C:Int
 N:Int
 deriving Inhabited,DecidableEq
@[go_sem] def zap(x:zay):List AV:=[.int .i64 x.Kind,.int .i64 x.A,.int .i64 x.B,.int .i64 x.C,.int .i64 x.N]
structure zat where
 mk ::
 Rune:Int
 At:Int
 Size:Int
 Line:Int
 Col:Int
 Bad:Bool
 deriving Inhabited,DecidableEq
@[go_sem] def zav(x:zat):List AV:=[.int .i32 x.Rune,.int .i64 x.At,.int .i64 x.Size,.int .i64 x.Line,.int .i64 x.Col,.bool x.Bad]
@[go_sem] theorem zmH(l:List zat):(l.map zav).all zcQ=true:=by simp only [List.all_map,List.all_eq_true]; intro x _; rfl
@[go_sem] theorem zmf(n:Nat)(l:List zat):(l.map zav).all (zbX n)=true:=by simp only [List.all_map,List.all_eq_true]; intro x _; rfl
@[go_sem] theorem znp(l:List zat):frzR (l.map zav)=l.map zav:=znd (fun _=>rfl) l
@[go_sem] theorem znK(l:List zat):okR (l.map zav)=true:=ok_o (fun _=>rfl) l
structure zaw where
 mk ::
 head:zab
 labels:(List (ByteArray × Bool))
 open_:(List ByteArray)
 zFi:(List zab)
 zTg:(List zab)
 deriving Inhabited,DecidableEq
@[go_sem] def zah(x:zaw):List AV:=[.int .i64 x.head.Kind,.int .i64 x.head.Line,.int .i64 x.head.Col,.str x.head.Text,.zBm (x.labels.map (eKV AV.str AV.bool)),.zBx (x.open_.map eStr) 1 9,.zBx (x.zFi.map zam) 4 41,.zBx (x.zTg.map zam) 4 41]
@[go_sem] theorem zpB(n:Nat)(l:List zaw):(l.map zah).all (zbX n)=true:=zn7 (fun _ _=>rfl) n l
@[go_sem] theorem zrt(l:List zaw):(l.map zah).all clB=true:=cl_o (fun _ _=>rfl) l
@[go_sem] theorem zqe{m:Nat->Nat}(l:List zaw):(l.map zah).map (rens m)=l.map zah:=zrS (fun _=>rfl) l
@[go_sem] theorem zp1{l:List zaw}{i:Int}(h:InB i l.length):(l.map zah).set i.toNat [.int .i64 ((rd l i).head.Kind),.int .i64 ((rd l i).head.Line),.int .i64 ((rd l i).head.Col),.str ((rd l i).head.Text),.zBm (((rd l i).labels).map (eKV AV.str AV.bool)),.zBx (((rd l i).open_).map eStr) 1 9,.zBx (((rd l i).zFi).map zam) 4 41,.zBx (((rd l i).zTg).map zam) 4 41]=l.map zah:=zu6 h rfl
structure zaa where
 mk ::
 l:(List zab)
 at_:Int
 p:zag
 b:(List zaw)
 f:zaj
 deriving Inhabited,DecidableEq
@[go_sem] def zaD(x:zaa):List AV:=[.sl (x.l.map zam),.int .i64 x.at_,.zBx (x.p.zSy.map zan) 3 54,.zBx (x.p.zTh.map zai) 1 59,.zBx (x.b.map zah) 8 109,.int .i64 x.f.Code,.int .i64 x.f.Line,.int .i64 x.f.Col]
structure zac where
 mk ::
 T:(List zab)
 I:Int
 P:zag
 zHd:(List zab)
 First:(List (List zab))
 To:(List (List zab))
 Left:(List Int)
 All:(List ByteArray)
 Wait:(List ByteArray)
 Bad:zaj
 deriving Inhabited,DecidableEq
@[go_sem] def znM(x:zac):List AV:=[.sl (x.T.map zam),.int .i64 x.I,.zBx (x.P.zSy.map zan) 3 54,.zBx (x.P.zTh.map zai) 1 59,.zBx (x.zHd.map zam) 4 41,.zBx (x.First.map (oSl 4 41 zam)) 1 34,.zBx (x.To.map (oSl 4 41 zam)) 1 34,.zBx (x.Left.map (eInt .i64)) 1 3,.zBx (x.All.map eStr) 1 9,.zBx (x.Wait.map eStr) 1 9,.int .i64 x.Bad.Code,.int .i64 x.Bad.Line,.int .i64 x.Bad.Col]
structure zaq where
 mk ::
 Rune:Int
 At:Int
 Size:Int
 Line:Int
 Col:Int
 Bad:Bool
 deriving Inhabited,DecidableEq
@[go_sem] def zaA(x:zaq):List AV:=[.int .i32 x.Rune,.int .i64 x.At,.int .i64 x.Size,.int .i64 x.Line,.int .i64 x.Col,.bool x.Bad]
@[go_sem] theorem zpJ(l:List zaq):(l.map zaA).all zcQ=true:=by simp only [List.all_map,List.all_eq_true]; intro x _; rfl
@[go_sem] theorem zpD(n:Nat)(l:List zaq):(l.map zaA).all (zbX n)=true:=by simp only [List.all_map,List.all_eq_true]; intro x _; rfl
@[go_sem] theorem zq8(l:List zaq):frzR (l.map zaA)=l.map zaA:=znd (fun _=>rfl) l
@[go_sem] theorem zro(l:List zaq):okR (l.map zaA)=true:=ok_o (fun _=>rfl) l
structure zf1 where
 mk ::
 Reg:Int
 deriving Inhabited,DecidableEq
structure zf2 where
 mk ::
 N:Int
 deriving Inhabited,DecidableEq
structure zgE where
 mk ::
 Sym:Int
 N:Int
 deriving Inhabited,DecidableEq
structure zgD where
 mk ::
 Sym:Int
 Reg:Int
 deriving Inhabited,DecidableEq
inductive zct where
 | nil
 | RegPart (x:zf1)
 | NumPart (x:zf2)
 | AtPart (x:zgE)
 | ByPart (x:zgD)
 deriving Inhabited,DecidableEq
def zdg:zct->AV
 | .nil=>.nili
 | .RegPart x=>.iface 180 (.agg [.int .i64 x.Reg])
 | .NumPart x=>.iface 185 (.agg [.int .i64 x.N])
 | .AtPart x=>.iface 187 (.agg [.int .i64 x.Sym,.int .i64 x.N])
 | .ByPart x=>.iface 189 (.agg [.int .i64 x.Sym,.int .i64 x.Reg])
@[go_sem] theorem ze8:zdg .nil=.nili:=rfl
@[go_sem] theorem zed{x:zf1}:zdg (.RegPart x)=.iface 180 (.agg [.int .i64 x.Reg]):=rfl
@[go_sem] theorem zee{x:zf2}:zdg (.NumPart x)=.iface 185 (.agg [.int .i64 x.N]):=rfl
@[go_sem] theorem zes{x:zgE}:zdg (.AtPart x)=.iface 187 (.agg [.int .i64 x.Sym,.int .i64 x.N]):=rfl
@[go_sem] theorem zer{x:zgD}:zdg (.ByPart x)=.iface 189 (.agg [.int .i64 x.Sym,.int .i64 x.Reg]):=rfl
@[go_sem] theorem zpK{x:zct}:zez (zdg x)=true:=by cases x <;> rfl
@[go_sem] theorem zpE{k:Nat}{x:zct}:zbe k (zdg x)=true:=by cases x <;> rfl
@[go_sem,reducible] def zbS(l:List zak):AV:=.zBx (l.map zan) 3 54
@[go_sem,reducible] def zbT(l:List zad):AV:=.zBx (l.map zai) 1 59
@[go_sem,reducible] def zbB(l:List zaw):AV:=.zBx (l.map zah) 8 109
@[go_sem,reducible] def zbK(l:List zab):AV:=.zBx (l.map zam) 4 41
@[go_sem,reducible] def zbL(l:List (List zab)):AV:=.zBx (l.map (oSl 4 41 zam)) 1 34
@[go_sem,reducible] def zbI(l:List Int):AV:=.zBx (l.map (eInt .i64)) 1 3
@[go_sem,reducible] def zbW(l:List ByteArray):AV:=.zBx (l.map eStr) 1 9
@[go_sem,reducible] def zkc(l:List zab)(a:Int)(s t b:AV)(c d e:Int):LO:=.cells [.sl (l.map zam),.int .i64 a,s,t,b,.int .i64 c,.int .i64 d,.int .i64 e] 0 82
@[go_sem,reducible] def zkb(x:zaa)(a:Int)(s t b:AV):LO:=.cells [.sl (x.l.map zam),.int .i64 a,s,t,b,.int .i64 x.f.Code,.int .i64 x.f.Line,.int .i64 x.f.Col] 0 82
@[go_sem,reducible] def zka(x:zaa)(a:Int)(b:AV):LO:=.cells [.sl (x.l.map zam),.int .i64 a,.zBx (x.p.zSy.map zan) 3 54,.zBx (x.p.zTh.map zai) 1 59,b,.int .i64 x.f.Code,.int .i64 x.f.Line,.int .i64 x.f.Col] 0 82
@[go_sem,reducible] def zqd(l:List zab)(a:Int)(s t h f g u v w:AV)(c d e:Int):LO:=.cells [.sl (l.map zam),.int .i64 a,s,t,h,f,g,u,v,w,.int .i64 c,.int .i64 d,.int .i64 e] 0 90
@[go_sem,reducible] def zqc(x:zac)(a:Int)(s t h f g u v w:AV):LO:=.cells [.sl (x.T.map zam),.int .i64 a,s,t,h,f,g,u,v,w,.int .i64 x.Bad.Code,.int .i64 x.Bad.Line,.int .i64 x.Bad.Col] 0 90
@[go_sem,reducible] def zqb(x:zac)(a:Int)(s t w:AV):LO:=.cells [.sl (x.T.map zam),.int .i64 a,s,t,.zBx (x.zHd.map zam) 4 41,.zBx (x.First.map (oSl 4 41 zam)) 1 34,.zBx (x.To.map (oSl 4 41 zam)) 1 34,.zBx (x.Left.map (eInt .i64)) 1 3,.zBx (x.All.map eStr) 1 9,w,.int .i64 x.Bad.Code,.int .i64 x.Bad.Line,.int .i64 x.Bad.Col] 0 90
@[go_sem,reducible] def zqa(x:zac)(a:Int)(w:AV):LO:=.cells [.sl (x.T.map zam),.int .i64 a,.zBx (x.P.zSy.map zan) 3 54,.zBx (x.P.zTh.map zai) 1 59,.zBx (x.zHd.map zam) 4 41,.zBx (x.First.map (oSl 4 41 zam)) 1 34,.zBx (x.To.map (oSl 4 41 zam)) 1 34,.zBx (x.Left.map (eInt .i64)) 1 3,.zBx (x.All.map eStr) 1 9,w,.int .i64 x.Bad.Code,.int .i64 x.Bad.Line,.int .i64 x.Bad.Col] 0 90
@[go_sem,reducible] def zqT(x:zab):AV:=.agg [.int .i64 x.Kind,.int .i64 x.Line,.int .i64 x.Col,.str x.Text]
theorem W.sqh{P:Program}{N n0:Nat}{id}{l:List Oper}{y s h Q k}(F:List Nat)(s1:zaF)(hy:WK P N n0 y Q s1 h)(hN:ze9 N l.toArray=true:=by rfl)
  (hrun:RunE P l.toArray (fun s h0=>AT n0 ⟨F,[]⟩ s1 h s h0) l s h (held _):=by exact RO):W P N n0 (.seq (.region id l.toArray false) y) Q s h k:=W.sq F s1 h hy hN hrun
theorem W.wk{P:Program}{N n0:Nat}{c s h Q k}(F:Gs)(s1:zaF)(h1:Hp)(hy:WK P N n0 c Q s1 h1)(hw:AT n0 F s1 h1 s h:=by exact RO):W P N n0 c Q s h k:=W.weak F hw hy
theorem W.rt{P:Program}{N n0:Nat}{s h Q k}(hq:Q .ret s h:=by first | exact zkA.retW ⟨[],[]⟩ RO | exact zej.retW [] RO):W P N n0 .ret Q s h k:=W.ret hq
end Go.Vs
