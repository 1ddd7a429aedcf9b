import Derived.Test.YtkgpofmbegonfaaGreatDoorVu3
set_option linter.all false
namespace Go.Vs
@[go_sem,reducible] def zi(x:Int):AV:=.int .i64 x
@[go_sem,reducible] def zM{α:Type}(b w k:Nat)(l:List α):AV:=.msl b w 0 k l.length l.length
@[go_sem,reducible] def zw(x:Int):Int:=IntKind.wrap .i64 x
theorem zo{α:Type}{a b:α}(h:some a=some b):a=b:=Option.some.inj h
variable [Tab]
@[go_sem] def eInt(k:IntKind)(n:Int):List AV:=[.int k n]
@[go_sem] def zgH(b:Bool):List AV:=[.bool b]
@[go_sem] def eStr(s:ByteArray):List AV:=[.str s]
@[go_sem] def eSl{α:Type}(f:α->List AV)(l:List α):List AV:=[.sl (l.map f)]
@[go_sem] theorem zqH{k:IntKind}(l:List Int):zcP 1 (l.map (eInt k))=true:=zbB (k:=1) (f:=(eInt k)) (fun _=>⟨rfl,rfl⟩) l
@[go_sem] theorem zvG{k:IntKind}{m:Nat->Nat}(l:List Int):(l.map (eInt k)).map (rens m)=l.map (eInt k):=zd3 (fun _=>rfl) l
@[go_sem] theorem zzq{k:IntKind}(l:List Int):(l.map (eInt k)).all clB=true:=cl_o (fun _ _=>rfl) l
@[go_sem] theorem zwa{k:IntKind}(l:List Int):frzR (l.map (eInt k))=l.map (eInt k):=zeE (fun _=>rfl) l
@[go_sem] theorem zy6{k:IntKind}(l:List Int):okR (l.map (eInt k))=true:=ok_o (fun _=>rfl) l
@[go_sem] theorem zq6{k:IntKind}(n:Nat)(l:List Int):(l.map (eInt k)).all (zaU n)=true:=by simp only [List.all_map,List.all_eq_true]; intro x _; rfl
@[go_sem] theorem zv4{k:IntKind}(l:List Int):(l.map (eInt k)).all (·.length==1)=true:=by simp only [List.all_map,List.all_eq_true]; intro x _; rfl
@[go_sem] theorem zrA{k:IntKind}(l:List Int):(l.map (eInt k)).all zbe=true:=by simp only [List.all_map,List.all_eq_true]; intro x _; rfl
@[go_sem] theorem zpO(l:List Bool):zcP 1 (l.map zgH)=true:=zbB (k:=1) (f:=zgH) (fun _=>⟨rfl,rfl⟩) l
@[go_sem] theorem zrx{m:Nat->Nat}(l:List Bool):(l.map zgH).map (rens m)=l.map zgH:=zd3 (fun _=>rfl) l
@[go_sem] theorem zwq(l:List Bool):(l.map zgH).all clB=true:=cl_o (fun _ _=>rfl) l
@[go_sem] theorem zrV(l:List Bool):frzR (l.map zgH)=l.map zgH:=zeE (fun _=>rfl) l
@[go_sem] theorem zvO(l:List Bool):okR (l.map zgH)=true:=ok_o (fun _=>rfl) l
@[go_sem] theorem zqr(n:Nat)(l:List Bool):(l.map zgH).all (zaU n)=true:=by simp only [List.all_map,List.all_eq_true]; intro x _; rfl
@[go_sem] theorem zrN(l:List Bool):(l.map zgH).all (·.length==1)=true:=by simp only [List.all_map,List.all_eq_true]; intro x _; rfl
@[go_sem] theorem zqI(l:List Bool):(l.map zgH).all zbe=true:=by simp only [List.all_map,List.all_eq_true]; intro x _; rfl
@[go_sem] theorem zqG(l:List ByteArray):zcP 1 (l.map eStr)=true:=zbB (k:=1) (f:=eStr) (fun _=>⟨rfl,rfl⟩) l
@[go_sem] theorem zvF{m:Nat->Nat}(l:List ByteArray):(l.map eStr).map (rens m)=l.map eStr:=zd3 (fun _=>rfl) l
@[go_sem] theorem zzp(l:List ByteArray):(l.map eStr).all clB=true:=cl_o (fun _ _=>rfl) l
@[go_sem] theorem zv9(l:List ByteArray):frzR (l.map eStr)=l.map eStr:=zeE (fun _=>rfl) l
@[go_sem] theorem zy5(l:List ByteArray):okR (l.map eStr)=true:=ok_o (fun _=>rfl) l
@[go_sem] theorem zq5(n:Nat)(l:List ByteArray):(l.map eStr).all (zaU n)=true:=by simp only [List.all_map,List.all_eq_true]; intro x _; rfl
@[go_sem] theorem zv3(l:List ByteArray):(l.map eStr).all (·.length==1)=true:=by simp only [List.all_map,List.all_eq_true]; intro x _; rfl
@[go_sem] theorem zrz(l:List ByteArray):(l.map eStr).all zbe=true:=by simp only [List.all_map,List.all_eq_true]; intro x _; rfl
@[go_sem] theorem zrv{α:Type}{f:α->List AV}(l:List (List α)):zcP 1 (l.map (eSl f))=true:=zbB (k:=1) (f:=(eSl f)) (fun _=>⟨rfl,rfl⟩) l
@[go_sem] theorem zy2{α:Type}{f:α->List AV}{m:Nat->Nat}(l:List (List α)):(l.map (eSl f)).map (rens m)=l.map (eSl f):=zd3 (fun _=>rfl) l
@[go_sem] theorem zAk{α:Type}{f:α->List AV}(l:List (List α)):(l.map (eSl f)).all clB=true:=cl_o (fun _ _=>rfl) l
@[go_sem] theorem zzk{α:Type}{f:α->List AV}(l:List (List α)):frzR (l.map (eSl f))=l.map (eSl f):=zeE (fun _=>rfl) l
@[go_sem] theorem zAi{α:Type}{f:α->List AV}(l:List (List α)):okR (l.map (eSl f))=true:=ok_o (fun _=>rfl) l
@[go_sem] theorem zsf{α:Type}{f:α->List AV}(n:Nat)(l:List (List α)):(l.map (eSl f)).all (zaU n)=true:=by simp only [List.all_map,List.all_eq_true]; intro x _; rfl
@[go_sem] theorem zze{α:Type}{f:α->List AV}(l:List (List α)):(l.map (eSl f)).all (·.length==1)=true:=by simp only [List.all_map,List.all_eq_true]; intro x _; rfl
@[go_sem] theorem zvJ{α:Type}{f:α->List AV}(l:List (List α)):(l.map (eSl f)).all zbe=true:=by simp only [List.all_map,List.all_eq_true]; intro x _; rfl
structure A2 (α:Type) where
 mk ::
 a0:α
 a1:α
 deriving Inhabited,DecidableEq
def A2.get{α:Type}(x:A2 α)(i:Int):α:=if i=0 then x.a0 else x.a1
def A2.put{α:Type}(x:A2 α)(i:Int)(v:α):A2 α:=if i=0 then { x with a0:=v } else { x with a1:=v }
@[go_sem] theorem A2.get_0{α:Type}(x:A2 α):x.get 0=x.a0:=rfl
@[go_sem] theorem A2.put_0{α:Type}(x:A2 α)(v:α):x.put 0 v={ x with a0:=v }:=rfl
@[go_sem] theorem A2.get_1{α:Type}(x:A2 α):x.get 1=x.a1:=rfl
@[go_sem] theorem A2.put_1{α:Type}(x:A2 α)(v:α):x.put 1 v={ x with a1:=v }:=rfl
structure A8 (α:Type) where
 mk ::
 a0:α
 a1:α
 a2:α
 a3:α
 a4:α
 a5:α
 a6:α
 a7:α
 deriving Inhabited,DecidableEq
def A8.get{α:Type}(x:A8 α)(i:Int):α:=if i=0 then x.a0 else if i=1 then x.a1 else if i=2 then x.a2 else if i=3 then x.a3 else if i=4 then x.a4 else if i=5 then x.a5 else if i=6 then x.a6 else x.a7
def A8.put{α:Type}(x:A8 α)(i:Int)(v:α):A8 α:=if i=0 then { x with a0:=v } else if i=1 then { x with a1:=v } else if i=2 then { x with a2:=v } else if i=3 then { x with a3:=v } else if i=4 then { x with a4:=v } else if i=5 then { x with a5:=v } else if i=6 then { x with a6:=v } else { x with a7:=v }
@[go_sem] theorem A8.get_0{α:Type}(x:A8 α):x.get 0=x.a0:=rfl
@[go_sem] theorem A8.put_0{α:Type}(x:A8 α)(v:α):x.put 0 v={ x with a0:=v }:=rfl
@[go_sem] theorem A8.get_1{α:Type}(x:A8 α):x.get 1=x.a1:=rfl
@[go_sem] theorem A8.put_1{α:Type}(x:A8 α)(v:α):x.put 1 v={ x with a1:=v }:=rfl
@[go_sem] theorem A8.get_2{α:Type}(x:A8 α):x.get 2=x.a2:=rfl
@[go_sem] theorem A8.put_2{α:Type}(x:A8 α)(v:α):x.put 2 v={ x with a2:=v }:=rfl
@[go_sem] theorem A8.get_3{α:Type}(x:A8 α):x.get 3=x.a3:=rfl
@[go_sem] theorem A8.put_3{α:Type}(x:A8 α)(v:α):x.put 3 v={ x with a3:=v }:=rfl
@[go_sem] theorem A8.get_4{α:Type}(x:A8 α):x.get 4=x.a4:=rfl
@[go_sem] theorem A8.put_4{α:Type}(x:A8 α)(v:α):x.put 4 v={ x with a4:=v }:=rfl
@[go_sem] theorem A8.get_5{α:Type}(x:A8 α):x.get 5=x.a5:=rfl
@[go_sem] theorem A8.put_5{α:Type}(x:A8 α)(v:α):x.put 5 v={ x with a5:=v }:=rfl
@[go_sem] theorem A8.get_6{α:Type}(x:A8 α):x.get 6=x.a6:=rfl
@[go_sem] theorem A8.put_6{α:Type}(x:A8 α)(v:α):x.put 6 v={ x with a6:=v }:=rfl
@[go_sem] theorem A8.get_7{α:Type}(x:A8 α):x.get 7=x.a7:=rfl
@[go_sem] theorem A8.put_7{α:Type}(x:A8 α)(v:α):x.put 7 v={ x with a7:=v }:=rfl
structure A16 (α:Type) where
 mk ::
 a0:α
 a1:α
 a2:α
 a3:α
 a4:α
 a5:α
 a6:α
 a7:α
 a8:α
 a9:α
 a10:α
 a11:α
 a12:α
 a13:α
 a14:α
 a15:α
 deriving Inhabited,DecidableEq
def A16.get{α:Type}(x:A16 α)(i:Int):α:=if i=0 then x.a0 else if i=1 then x.a1 else if i=2 then x.a2 else if i=3 then x.a3 else if i=4 then x.a4 else if i=5 then x.a5 else if i=6 then x.a6 else if i=7 then x.a7 else if i=8 then x.a8 else if i=9 then x.a9 else if i=10 then x.a10 else if i=11 then x.a11 else if i=12 then x.a12 else if i=13 then x.a13 else if i=14 then x.a14 else x.a15
def A16.put{α:Type}(x:A16 α)(i:Int)(v:α):A16 α:=if i=0 then { x with a0:=v } else if i=1 then { x with a1:=v } else if i=2 then { x with a2:=v } else if i=3 then { x with a3:=v } else if i=4 then { x with a4:=v } else if i=5 then { x with a5:=v } else if i=6 then { x with a6:=v } else if i=7 then { x with a7:=v } else if i=8 then { x with a8:=v } else if i=9 then { x with a9:=v } else if i=10 then { x with a10:=v } else if i=11 then { x with a11:=v } else if i=12 then { x with a12:=v } else if i=13 then { x with a13:=v } else if i=14 then { x with a14:=v } else { x with a15:=v }
@[go_sem] theorem A16.get_0{α:Type}(x:A16 α):x.get 0=x.a0:=rfl
@[go_sem] theorem A16.put_0{α:Type}(x:A16 α)(v:α):x.put 0 v={ x with a0:=v }:=rfl
@[go_sem] theorem A16.get_1{α:Type}(x:A16 α):x.get 1=x.a1:=rfl
@[go_sem] theorem A16.put_1{α:Type}(x:A16 α)(v:α):x.put 1 v={ x with a1:=v }:=rfl
@[go_sem] theorem A16.get_2{α:Type}(x:A16 α):x.get 2=x.a2:=rfl
@[go_sem] theorem A16.put_2{α:Type}(x:A16 α)(v:α):x.put 2 v={ x with a2:=v }:=rfl
@[go_sem] theorem A16.get_3{α:Type}(x:A16 α):x.get 3=x.a3:=rfl
@[go_sem] theorem A16.put_3{α:Type}(x:A16 α)(v:α):x.put 3 v={ x with a3:=v }:=rfl
@[go_sem] theorem A16.get_4{α:Type}(x:A16 α):x.get 4=x.a4:=rfl
@[go_sem] theorem A16.put_4{α:Type}(x:A16 α)(v:α):x.put 4 v={ x with a4:=v }:=rfl
@[go_sem] theorem A16.get_5{α:Type}(x:A16 α):x.get 5=x.a5:=rfl
@[go_sem] theorem A16.put_5{α:Type}(x:A16 α)(v:α):x.put 5 v={ x with a5:=v }:=rfl
@[go_sem] theorem A16.get_6{α:Type}(x:A16 α):x.get 6=x.a6:=rfl
@[go_sem] theorem A16.put_6{α:Type}(x:A16 α)(v:α):x.put 6 v={ x with a6:=v }:=rfl
@[go_sem] theorem A16.get_7{α:Type}(x:A16 α):x.get 7=x.a7:=rfl
@[go_sem] theorem A16.put_7{α:Type}(x:A16 α)(v:α):x.put 7 v={ x with a7:=v }:=rfl
@[go_sem] theorem A16.get_8{α:Type}(x:A16 α):x.get 8=x.a8:=rfl
@[go_sem] theorem A16.put_8{α:Type}(x:A16 α)(v:α):x.put 8 v={ x with a8:=v }:=rfl
@[go_sem] theorem A16.get_9{α:Type}(x:A16 α):x.get 9=x.a9:=rfl
@[go_sem] theorem A16.put_9{α:Type}(x:A16 α)(v:α):x.put 9 v={ x with a9:=v }:=rfl
@[go_sem] theorem A16.get_10{α:Type}(x:A16 α):x.get 10=x.a10:=rfl
@[go_sem] theorem A16.put_10{α:Type}(x:A16 α)(v:α):x.put 10 v={ x with a10:=v }:=rfl
@[go_sem] theorem A16.get_11{α:Type}(x:A16 α):x.get 11=x.a11:=rfl
@[go_sem] theorem A16.put_11{α:Type}(x:A16 α)(v:α):x.put 11 v={ x with a11:=v }:=rfl
@[go_sem] theorem A16.get_12{α:Type}(x:A16 α):x.get 12=x.a12:=rfl
@[go_sem] theorem A16.put_12{α:Type}(x:A16 α)(v:α):x.put 12 v={ x with a12:=v }:=rfl
@[go_sem] theorem A16.get_13{α:Type}(x:A16 α):x.get 13=x.a13:=rfl
@[go_sem] theorem A16.put_13{α:Type}(x:A16 α)(v:α):x.put 13 v={ x with a13:=v }:=rfl
@[go_sem] theorem A16.get_14{α:Type}(x:A16 α):x.get 14=x.a14:=rfl
@[go_sem] theorem A16.put_14{α:Type}(x:A16 α)(v:α):x.put 14 v={ x with a14:=v }:=rfl
@[go_sem] theorem A16.get_15{α:Type}(x:A16 α):x.get 15=x.a15:=rfl
@[go_sem] theorem A16.put_15{α:Type}(x:A16 α)(v:α):x.put 15 v={ x with a15:=v }:=rfl
def zhB(l:List Int):ByteArray:=⟨(l.map fun n=>UInt8.ofNat n.toNat).toArray⟩
@[go_sem] theorem zpN(l:List Int):zeS (l.map (eInt .u8))=some (zhB l):=by
 have h:∀l:List Int,(l.map (eInt .u8)).mapM ziE=some (l.map fun n=>UInt8.ofNat n.toNat):=by
  intro l
  induction l with
  | nil=>rfl
  | cons n l ih=>simp only [List.map_cons,List.mapM_cons,ih]; rfl
 unfold zeS; rw [h]; rfl
@[go_sem] theorem zpM(n:Int):zeS [[.int .u8 n]]=some (zhB [n]):=rfl
@[go_sem] theorem zpL(n m:Int):zeS [[.int .u8 n],[.int .u8 m]]=some (zhB [n,m]):=rfl
@[go_sem] theorem zzs(s:ByteArray):bC s=(ziN s).map (eInt .u8):=rfl
def zcG{α β γ:Type}(f:α->Option γ)(g:β->Option γ):α ⊕ β->Option γ | .inl a=>f a | .inr b=>g b
theorem zdC{α β γ:Type}{f:α->Option γ}{g:β->Option γ}{a:α}{x:Option γ}(h:zcG f g (.inl a)=x):f a=x:=h
theorem zdB{α β γ:Type}{f:α->Option γ}{g:β->Option γ}{b:β}{x:Option γ}(h:zcG f g (.inr b)=x):g b=x:=h
attribute [go_sem] List.all_append List.all_cons List.all_nil
@[go_sem] theorem zzu{α:Type}{p:α->Bool}{l:List α}{i:Nat}{a:α}(hl:l.all p=true)(ha:p a=true):(l.set i a).all p=true:=by
 rw [List.all_eq_true] at hl ⊢
 intro x hx
 rcases List.mem_or_eq_of_mem_set hx with h | h
 ·exact hl x h
 ·rw [h]; exact ha
structure zan where
 mk ::
 Thread:Int
 Flush:Bool
 deriving Inhabited,DecidableEq
@[go_sem] def zag(x:zan):List AV:=[.int .i64 x.Thread,.bool x.Flush]
@[go_sem] theorem zmq(l:List zan):zcP 2 (l.map zag)=true:=zbB (k:=2) (f:=zag) (fun _=>⟨rfl,rfl⟩) l
@[go_sem] theorem znB(l:List zan):(l.map zag).all zbe=true:=by simp only [List.all_map,List.all_eq_true]; intro x _; rfl
@[go_sem] theorem znr(n:Nat)(l:List zan):(l.map zag).all (zaU n)=true:=by simp only [List.all_map,List.all_eq_true]; intro x _; rfl
@[go_sem] theorem zot(l:List zan):(l.map zag).all (·.length==2)=true:=by simp only [List.all_map,List.all_eq_true]; intro x _; rfl
@[go_sem] theorem zpx(l:List zan):(l.map zag).all clB=true:=cl_o (fun _ _=>rfl) l
@[go_sem] theorem zn9{m:Nat->Nat}(l:List zan):(l.map zag).map (rens m)=l.map zag:=zd3 (fun _=>rfl) l
@[go_sem] theorem zoB(l:List zan):frzR (l.map zag)=l.map zag:=zeE (fun _=>rfl) l
@[go_sem] theorem zpe(l:List zan):okR (l.map zag)=true:=ok_o (fun _=>rfl) l
structure zaz where
 mk ::
 Name:ByteArray
 Size:Int
 Init:(List Int)
 deriving Inhabited,DecidableEq
@[go_sem] def zaf(x:zaz):List AV:=[.str x.Name,.int .i64 x.Size,.sl (x.Init.map (eInt .i64))]
@[go_sem] theorem znv(l:List zaz):zcP 3 (l.map zaf)=true:=zbB (k:=3) (f:=zaf) (fun _=>⟨rfl,rfl⟩) l
@[go_sem] theorem zof(l:List zaz):(l.map zaf).all zbe=true:=by simp only [List.all_map,List.all_eq_true]; intro x _; rfl
@[go_sem] theorem znQ(n:Nat)(l:List zaz):(l.map zaf).all (zaU n)=true:=by simp only [List.all_map,List.all_eq_true]; intro x _; rfl
@[go_sem] theorem zpg(l:List zaz):(l.map zaf).all (·.length==3)=true:=by simp only [List.all_map,List.all_eq_true]; intro x _; rfl
@[go_sem] theorem zqk(l:List zaz):(l.map zaf).all clB=true:=cl_o (fun _ _=>rfl) l
@[go_sem] theorem zo6{m:Nat->Nat}(l:List zaz):(l.map zaf).map (rens m)=l.map zaf:=zd3 (fun _=>rfl) l
@[go_sem] theorem zpn(l:List zaz):frzR (l.map zaf)=l.map zaf:=zeE (fun _=>rfl) l
@[go_sem] theorem zpZ(l:List zaz):okR (l.map zaf)=true:=ok_o (fun _=>rfl) l
structure zax where
 mk ::
 Kind:Int
 Reg:Int
 Sym:Int
 N:Int
 deriving Inhabited,DecidableEq
@[go_sem] def zcz(x:zax):List AV:=[.int .i64 x.Kind,.int .i64 x.Reg,.int .i64 x.Sym,.int .i64 x.N]
@[go_sem] theorem znw(l:List zax):zcP 4 (l.map zcz)=true:=zbB (k:=4) (f:=zcz) (fun _=>⟨rfl,rfl⟩) l
@[go_sem] theorem zog(l:List zax):(l.map zcz).all zbe=true:=by simp only [List.all_map,List.all_eq_true]; intro x _; rfl
@[go_sem] theorem znR(n:Nat)(l:List zax):(l.map zcz).all (zaU n)=true:=by simp only [List.all_map,List.all_eq_true]; intro x _; rfl
@[go_sem] theorem zph(l:List zax):(l.map zcz).all (·.length==4)=true:=by simp only [List.all_map,List.all_eq_true]; intro x _; rfl
@[go_sem] theorem zql(l:List zax):(l.map zcz).all clB=true:=cl_o (fun _ _=>rfl) l
@[go_sem] theorem zo7{m:Nat->Nat}(l:List zax):(l.map zcz).map (rens m)=l.map zcz:=zd3 (fun _=>rfl) l
@[go_sem] theorem zpo(l:List zax):frzR (l.map zcz)=l.map zcz:=zeE (fun _=>rfl) l
@[go_sem] theorem zp0(l:List zax):okR (l.map zcz)=true:=ok_o (fun _=>rfl) l
structure zao where
 mk ::
 Op:Int
 Lock:Bool
 Cond:Int
 A:zax
 B:zax
 To:ByteArray
 zLb:(List ByteArray)
 deriving Inhabited,DecidableEq
@[go_sem] def zaD(x:zao):List AV:=[.int .i64 x.Op,.bool x.Lock,.int .i64 x.Cond,.int .i64 x.A.Kind,.int .i64 x.A.Reg,.int .i64 x.A.Sym,.int .i64 x.A.N,.int .i64 x.B.Kind,.int .i64 x.B.Reg,.int .i64 x.B.Sym,.int .i64 x.B.N,.str x.To,.sl (x.zLb.map eStr)]
@[go_sem] theorem znx(l:List zao):zcP 13 (l.map zaD)=true:=zbB (k:=13) (f:=zaD) (fun _=>⟨rfl,rfl⟩) l
@[go_sem] theorem zoh(l:List zao):(l.map zaD).all zbe=true:=by simp only [List.all_map,List.all_eq_true]; intro x _; rfl
@[go_sem] theorem znS(n:Nat)(l:List zao):(l.map zaD).all (zaU n)=true:=by simp only [List.all_map,List.all_eq_true]; intro x _; rfl
@[go_sem] theorem zpi(l:List zao):(l.map zaD).all (·.length==13)=true:=by simp only [List.all_map,List.all_eq_true]; intro x _; rfl
@[go_sem] theorem zqm(l:List zao):(l.map zaD).all clB=true:=cl_o (fun _ _=>rfl) l
@[go_sem] theorem zo8{m:Nat->Nat}(l:List zao):(l.map zaD).map (rens m)=l.map zaD:=zd3 (fun _=>rfl) l
@[go_sem] theorem zpp(l:List zao):frzR (l.map zaD)=l.map zaD:=zeE (fun _=>rfl) l
@[go_sem] theorem zp1(l:List zao):okR (l.map zaD)=true:=ok_o (fun _=>rfl) l
structure zaj where
 mk ::
 Ins:(List zao)
 deriving Inhabited,DecidableEq
@[go_sem] def zaQ(x:zaj):List AV:=[.sl (x.Ins.map zaD)]
@[go_sem] theorem zk1(l:List zaj):zcP 1 (l.map zaQ)=true:=zbB (k:=1) (f:=zaQ) (fun _=>⟨rfl,rfl⟩) l
@[go_sem] theorem zlQ(l:List zaj):(l.map zaQ).all zbe=true:=by simp only [List.all_map,List.all_eq_true]; intro x _; rfl
@[go_sem] theorem zlG(n:Nat)(l:List zaj):(l.map zaQ).all (zaU n)=true:=by simp only [List.all_map,List.all_eq_true]; intro x _; rfl
@[go_sem] theorem zmU(l:List zaj):(l.map zaQ).all (·.length==1)=true:=by simp only [List.all_map,List.all_eq_true]; intro x _; rfl
@[go_sem] theorem znP(l:List zaj):(l.map zaQ).all clB=true:=cl_o (fun _ _=>rfl) l
@[go_sem] theorem zmx{m:Nat->Nat}(l:List zaj):(l.map zaQ).map (rens m)=l.map zaQ:=zd3 (fun _=>rfl) l
@[go_sem] theorem znb(l:List zaj):frzR (l.map zaQ)=l.map zaQ:=zeE (fun _=>rfl) l
@[go_sem] theorem znE(l:List zaj):okR (l.map zaQ)=true:=ok_o (fun _=>rfl) l
@[go_sem] def zad(x:zaj):List AV:=[.zBx (x.Ins.map zaD) 13 203]
@[go_sem] theorem zlE(n:Nat)(l:List zaj):(l.map zad).all (zaU n)=true:=zhE (fun _ _=>rfl) n l
@[go_sem] theorem znN(l:List zaj):(l.map zad).all clB=true:=cl_o (fun _ _=>rfl) l
@[go_sem] theorem zmv{m:Nat->Nat}(l:List zaj):(l.map zad).map (rens m)=l.map zad:=zd3 (fun _=>rfl) l
@[go_sem] theorem zmS(l:List zaj):(l.map zad).all (·.length==1)=true:=zmV (f:=zad) (k:=1) (fun _=>rfl) l
@[go_sem] theorem zm9(l:List zaj):frzR (l.map zad)=l.map zaQ:=zeE (fun x=>by simp only [zad,zaQ,frzL,frzC,go_sem]) l
@[go_sem] theorem znC(l:List zaj):okR (l.map zad)=true:=ok_o (fun x=>by simp only [zad,okL,okC,zcX,Bool.and_true,Bool.true_and,go_sem]) l
@[go_sem] theorem zml{l:List zaj}{i:Int}(h:InB i l.length):(l.map zad).set i.toNat [.zBx (((rd l i).Ins).map zaD) 13 203]=l.map zad:=zn3 h rfl
structure zaE where
 mk ::
 zSy:(List zaz)
 zTh:(List zaj)
 deriving Inhabited,DecidableEq
@[go_sem] def zba(x:zaE):List AV:=[.sl (x.zSy.map zaf),.sl (x.zTh.map zaQ)]
@[go_sem] theorem zmp(l:List zaE):zcP 2 (l.map zba)=true:=zbB (k:=2) (f:=zba) (fun _=>⟨rfl,rfl⟩) l
@[go_sem] theorem znA(l:List zaE):(l.map zba).all zbe=true:=by simp only [List.all_map,List.all_eq_true]; intro x _; rfl
@[go_sem] theorem znq(n:Nat)(l:List zaE):(l.map zba).all (zaU n)=true:=by simp only [List.all_map,List.all_eq_true]; intro x _; rfl
@[go_sem] theorem zos(l:List zaE):(l.map zba).all (·.length==2)=true:=by simp only [List.all_map,List.all_eq_true]; intro x _; rfl
@[go_sem] theorem zpw(l:List zaE):(l.map zba).all clB=true:=cl_o (fun _ _=>rfl) l
@[go_sem] theorem zn8{m:Nat->Nat}(l:List zaE):(l.map zba).map (rens m)=l.map zba:=zd3 (fun _=>rfl) l
@[go_sem] theorem zoA(l:List zaE):frzR (l.map zba)=l.map zba:=zeE (fun _=>rfl) l
@[go_sem] theorem zpd(l:List zaE):okR (l.map zba)=true:=ok_o (fun _=>rfl) l
@[go_sem] def zb7(x:zaE):List AV:=[.zBx (x.zSy.map zaf) 3 205,.zBx (x.zTh.map zad) 1 121]
@[go_sem] theorem znp(n:Nat)(l:List zaE):(l.map zb7).all (zaU n)=true:=zhE (fun _ _=>rfl) n l
@[go_sem] theorem zpv(l:List zaE):(l.map zb7).all clB=true:=cl_o (fun _ _=>rfl) l
@[go_sem] theorem zn7{m:Nat->Nat}(l:List zaE):(l.map zb7).map (rens m)=l.map zb7:=zd3 (fun _=>rfl) l
@[go_sem] theorem zor(l:List zaE):(l.map zb7).all (·.length==2)=true:=zmV (f:=zb7) (k:=2) (fun _=>rfl) l
@[go_sem] theorem zoz(l:List zaE):frzR (l.map zb7)=l.map zba:=zeE (fun x=>by simp only [zb7,zba,frzL,frzC,go_sem]) l
@[go_sem] theorem zpc(l:List zaE):okR (l.map zb7)=true:=ok_o (fun x=>by simp only [zb7,okL,okC,zcX,Bool.and_true,Bool.true_and,go_sem]) l
@[go_sem] theorem zn1{l:List zaE}{i:Int}(h:InB i l.length):(l.map zb7).set i.toNat [.zBx (((rd l i).zSy).map zaf) 3 205,.zBx (((rd l i).zTh).map zad) 1 121]=l.map zb7:=zn3 h rfl
structure zah where
 mk ::
 Code:Int
 Line:Int
 Col:Int
 deriving Inhabited,DecidableEq
@[go_sem] def zaL(x:zah):List AV:=[.int .i64 x.Code,.int .i64 x.Line,.int .i64 x.Col]
@[go_sem] theorem zlM(l:List zah):zcP 3 (l.map zaL)=true:=zbB (k:=3) (f:=zaL) (fun _=>⟨rfl,rfl⟩) l
@[go_sem] theorem zmD(l:List zah):(l.map zaL).all zbe=true:=by simp only [List.all_map,List.all_eq_true]; intro x _; rfl
@[go_sem] theorem zl3(n:Nat)(l:List zah):(l.map zaL).all (zaU n)=true:=by simp only [List.all_map,List.all_eq_true]; intro x _; rfl
@[go_sem] theorem znG(l:List zah):(l.map zaL).all (·.length==3)=true:=by simp only [List.all_map,List.all_eq_true]; intro x _; rfl
@[go_sem] theorem zoS(l:List zah):(l.map zaL).all clB=true:=cl_o (fun _ _=>rfl) l
@[go_sem] theorem znz{m:Nat->Nat}(l:List zah):(l.map zaL).map (rens m)=l.map zaL:=zd3 (fun _=>rfl) l
@[go_sem] theorem znI(l:List zah):frzR (l.map zaL)=l.map zaL:=zeE (fun _=>rfl) l
@[go_sem] theorem zoj(l:List zah):okR (l.map zaL)=true:=ok_o (fun _=>rfl) l
structure zac where
 mk ::
 Kind:Int
 Line:Int
 Col:Int
 Text:ByteArray
 deriving Inhabited,DecidableEq
@[go_sem] def zab(x:zac):List AV:=[.int .i64 x.Kind,.int .i64 x.Line,.int .i64 x.Col,.str x.Text]
@[go_sem] theorem zlL(l:List zac):zcP 4 (l.map zab)=true:=zbB (k:=4) (f:=zab) (fun _=>⟨rfl,rfl⟩) l
@[go_sem] theorem zmC(l:List zac):(l.map zab).all zbe=true:=by simp only [List.all_map,List.all_eq_true]; intro x _; rfl
@[go_sem] theorem zl2(n:Nat)(l:List zac):(l.map zab).all (zaU n)=true:=by simp only [List.all_map,List.all_eq_true]; intro x _; rfl
@[go_sem] theorem znF(l:List zac):(l.map zab).all (·.length==4)=true:=by simp only [List.all_map,List.all_eq_true]; intro x _; rfl
@[go_sem] theorem zoR(l:List zac):(l.map zab).all clB=true:=cl_o (fun _ _=>rfl) l
@[go_sem] theorem zny{m:Nat->Nat}(l:List zac):(l.map zab).map (rens m)=l.map zab:=zd3 (fun _=>rfl) l
@[go_sem] theorem znH(l:List zac):frzR (l.map zab)=l.map zab:=zeE (fun _=>rfl) l
@[go_sem] theorem zoi(l:List zac):okR (l.map zab)=true:=ok_o (fun _=>rfl) l
structure zat where
 mk ::
 head:zac
 labels:(List (ByteArray × Bool))
 open_:(List ByteArray)
 zFi:(List zac)
 zTg:(List zac)
 deriving Inhabited,DecidableEq
@[go_sem] def zae(x:zat):List AV:=[.int .i64 x.head.Kind,.int .i64 x.head.Line,.int .i64 x.head.Col,.str x.head.Text,.zBm (x.labels.map (eKV AV.str AV.bool)),.zBx (x.open_.map eStr) 1 9,.zBx (x.zFi.map zab) 4 192,.zBx (x.zTg.map zab) 4 192]
@[go_sem] theorem zlD(n:Nat)(l:List zat):(l.map zae).all (zaU n)=true:=zhE (fun _ _=>rfl) n l
@[go_sem] theorem znM(l:List zat):(l.map zae).all clB=true:=cl_o (fun _ _=>rfl) l
@[go_sem] theorem zmu{m:Nat->Nat}(l:List zat):(l.map zae).map (rens m)=l.map zae:=zd3 (fun _=>rfl) l
@[go_sem] theorem zmR(l:List zat):(l.map zae).all (·.length==8)=true:=zmV (f:=zae) (k:=8) (fun _=>rfl) l
@[go_sem] theorem zmk{l:List zat}{i:Int}(h:InB i l.length):(l.map zae).set i.toNat [.int .i64 ((rd l i).head.Kind),.int .i64 ((rd l i).head.Line),.int .i64 ((rd l i).head.Col),.str ((rd l i).head.Text),.zBm (((rd l i).labels).map (eKV AV.str AV.bool)),.zBx (((rd l i).open_).map eStr) 1 9,.zBx (((rd l i).zFi).map zab) 4 192,.zBx (((rd l i).zTg).map zab) 4 192]=l.map zae:=zn3 h rfl
structure zaa where
 mk ::
 l:(List zac)
 at_:Int
 p:zaE
 b:(List zat)
 f:zah
 deriving Inhabited,DecidableEq
@[go_sem] def zas(x:zaa):List AV:=[.sl (x.l.map zab),.int .i64 x.at_,.zBx (x.p.zSy.map zaf) 3 205,.zBx (x.p.zTh.map zad) 1 121,.zBx (x.b.map zae) 8 199,.int .i64 x.f.Code,.int .i64 x.f.Line,.int .i64 x.f.Col]
@[go_sem] theorem zj4(n:Nat)(l:List zaa):(l.map zas).all (zaU n)=true:=zhE (fun _ _=>rfl) n l
@[go_sem] theorem zlZ(l:List zaa):(l.map zas).all clB=true:=cl_o (fun _ _=>rfl) l
@[go_sem] theorem zk4{m:Nat->Nat}(l:List zaa):(l.map zas).map (rens m)=l.map zas:=zd3 (fun _=>rfl) l
@[go_sem] theorem zlj(l:List zaa):(l.map zas).all (·.length==8)=true:=zmV (f:=zas) (k:=8) (fun _=>rfl) l
@[go_sem] theorem zkV{l:List zaa}{i:Int}(h:InB i l.length):(l.map zas).set i.toNat [.sl (((rd l i).l).map zab),.int .i64 ((rd l i).at_),.zBx (((rd l i).p.zSy).map zaf) 3 205,.zBx (((rd l i).p.zTh).map zad) 1 121,.zBx (((rd l i).b).map zae) 8 199,.int .i64 ((rd l i).f.Code),.int .i64 ((rd l i).f.Line),.int .i64 ((rd l i).f.Col)]=l.map zas:=zn3 h rfl
structure zam where
 mk ::
 Rune:Int
 At:Int
 Size:Int
 Line:Int
 Col:Int
 Bad:Bool
 deriving Inhabited,DecidableEq
@[go_sem] def zal(x:zam):List AV:=[.int .i32 x.Rune,.int .i64 x.At,.int .i64 x.Size,.int .i64 x.Line,.int .i64 x.Col,.bool x.Bad]
@[go_sem] theorem zk0(l:List zam):zcP 6 (l.map zal)=true:=zbB (k:=6) (f:=zal) (fun _=>⟨rfl,rfl⟩) l
@[go_sem] theorem zlP(l:List zam):(l.map zal).all zbe=true:=by simp only [List.all_map,List.all_eq_true]; intro x _; rfl
@[go_sem] theorem zlF(n:Nat)(l:List zam):(l.map zal).all (zaU n)=true:=by simp only [List.all_map,List.all_eq_true]; intro x _; rfl
@[go_sem] theorem zmT(l:List zam):(l.map zal).all (·.length==6)=true:=by simp only [List.all_map,List.all_eq_true]; intro x _; rfl
@[go_sem] theorem znO(l:List zam):(l.map zal).all clB=true:=cl_o (fun _ _=>rfl) l
@[go_sem] theorem zmw{m:Nat->Nat}(l:List zam):(l.map zal).map (rens m)=l.map zal:=zd3 (fun _=>rfl) l
@[go_sem] theorem zna(l:List zam):frzR (l.map zal)=l.map zal:=zeE (fun _=>rfl) l
@[go_sem] theorem znD(l:List zam):okR (l.map zal)=true:=ok_o (fun _=>rfl) l
structure za3 where
 mk ::
 Reg:Int
 deriving Inhabited,DecidableEq
@[go_sem] def zbf(x:za3):List AV:=[.int .i64 x.Reg]
@[go_sem] theorem zjJ(l:List za3):zcP 1 (l.map zbf)=true:=zbB (k:=1) (f:=zbf) (fun _=>⟨rfl,rfl⟩) l
@[go_sem] theorem zkm(l:List za3):(l.map zbf).all zbe=true:=by simp only [List.all_map,List.all_eq_true]; intro x _; rfl
@[go_sem] theorem zj5(n:Nat)(l:List za3):(l.map zbf).all (zaU n)=true:=by simp only [List.all_map,List.all_eq_true]; intro x _; rfl
@[go_sem] theorem zlk(l:List za3):(l.map zbf).all (·.length==1)=true:=by simp only [List.all_map,List.all_eq_true]; intro x _; rfl
@[go_sem] theorem zl0(l:List za3):(l.map zbf).all clB=true:=cl_o (fun _ _=>rfl) l
@[go_sem] theorem zk5{m:Nat->Nat}(l:List za3):(l.map zbf).map (rens m)=l.map zbf:=zd3 (fun _=>rfl) l
@[go_sem] theorem zlw(l:List za3):frzR (l.map zbf)=l.map zbf:=zeE (fun _=>rfl) l
@[go_sem] theorem zlS(l:List za3):okR (l.map zbf)=true:=ok_o (fun _=>rfl) l
structure za4 where
 mk ::
 N:Int
 deriving Inhabited,DecidableEq
@[go_sem] def zbg(x:za4):List AV:=[.int .i64 x.N]
@[go_sem] theorem zjK(l:List za4):zcP 1 (l.map zbg)=true:=zbB (k:=1) (f:=zbg) (fun _=>⟨rfl,rfl⟩) l
@[go_sem] theorem zkn(l:List za4):(l.map zbg).all zbe=true:=by simp only [List.all_map,List.all_eq_true]; intro x _; rfl
@[go_sem] theorem zj6(n:Nat)(l:List za4):(l.map zbg).all (zaU n)=true:=by simp only [List.all_map,List.all_eq_true]; intro x _; rfl
@[go_sem] theorem zll(l:List za4):(l.map zbg).all (·.length==1)=true:=by simp only [List.all_map,List.all_eq_true]; intro x _; rfl
@[go_sem] theorem zl1(l:List za4):(l.map zbg).all clB=true:=cl_o (fun _ _=>rfl) l
@[go_sem] theorem zk6{m:Nat->Nat}(l:List za4):(l.map zbg).map (rens m)=l.map zbg:=zd3 (fun _=>rfl) l
@[go_sem] theorem zlx(l:List za4):frzR (l.map zbg)=l.map zbg:=zeE (fun _=>rfl) l
@[go_sem] theorem zlT(l:List za4):okR (l.map zbg)=true:=ok_o (fun _=>rfl) l
structure zbi where
 mk ::
 Sym:Int
 N:Int
 deriving Inhabited,DecidableEq
@[go_sem] def zbu(x:zbi):List AV:=[.int .i64 x.Sym,.int .i64 x.N]
@[go_sem] theorem zki(l:List zbi):zcP 2 (l.map zbu)=true:=zbB (k:=2) (f:=zbu) (fun _=>⟨rfl,rfl⟩) l
@[go_sem] theorem zk8(l:List zbi):(l.map zbu).all zbe=true:=by simp only [List.all_map,List.all_eq_true]; intro x _; rfl
@[go_sem] theorem zkJ(n:Nat)(l:List zbi):(l.map zbu).all (zaU n)=true:=by simp only [List.all_map,List.all_eq_true]; intro x _; rfl
@[go_sem] theorem zlV(l:List zbi):(l.map zbu).all (·.length==2)=true:=by simp only [List.all_map,List.all_eq_true]; intro x _; rfl
@[go_sem] theorem znl(l:List zbi):(l.map zbu).all clB=true:=cl_o (fun _ _=>rfl) l
@[go_sem] theorem zlO{m:Nat->Nat}(l:List zbi):(l.map zbu).map (rens m)=l.map zbu:=zd3 (fun _=>rfl) l
@[go_sem] theorem zlX(l:List zbi):frzR (l.map zbu)=l.map zbu:=zeE (fun _=>rfl) l
@[go_sem] theorem zmJ(l:List zbi):okR (l.map zbu)=true:=ok_o (fun _=>rfl) l
structure zbh where
 mk ::
 Sym:Int
 Reg:Int
 deriving Inhabited,DecidableEq
@[go_sem] def zbt(x:zbh):List AV:=[.int .i64 x.Sym,.int .i64 x.Reg]
@[go_sem] theorem zkh(l:List zbh):zcP 2 (l.map zbt)=true:=zbB (k:=2) (f:=zbt) (fun _=>⟨rfl,rfl⟩) l
@[go_sem] theorem zk7(l:List zbh):(l.map zbt).all zbe=true:=by simp only [List.all_map,List.all_eq_true]; intro x _; rfl
@[go_sem] theorem zkI(n:Nat)(l:List zbh):(l.map zbt).all (zaU n)=true:=by simp only [List.all_map,List.all_eq_true]; intro x _; rfl
@[go_sem] theorem zlU(l:List zbh):(l.map zbt).all (·.length==2)=true:=by simp only [List.all_map,List.all_eq_true]; intro x _; rfl
@[go_sem] theorem znk(l:List zbh):(l.map zbt).all clB=true:=cl_o (fun _ _=>rfl) l
@[go_sem] theorem zlN{m:Nat->Nat}(l:List zbh):(l.map zbt).map (rens m)=l.map zbt:=zd3 (fun _=>rfl) l
@[go_sem] theorem zlW(l:List zbh):frzR (l.map zbt)=l.map zbt:=zeE (fun _=>rfl) l
@[go_sem] theorem zmI(l:List zbh):okR (l.map zbt)=true:=ok_o (fun _=>rfl) l
inductive zbb where
 | nil
 | RegPart (x:za3)
 | NumPart (x:za4)
 | AtPart (x:zbi)
 | ByPart (x:zbh)
 deriving Inhabited,DecidableEq
def zbo:zbb->AV
 | .nil=>.nili
 | .RegPart x=>.iface 343 (.agg [.int .i64 x.Reg])
 | .NumPart x=>.iface 345 (.agg [.int .i64 x.N])
 | .AtPart x=>.iface 347 (.agg [.int .i64 x.Sym,.int .i64 x.N])
 | .ByPart x=>.iface 349 (.agg [.int .i64 x.Sym,.int .i64 x.Reg])
@[go_sem] theorem zdy:zbo .nil=.nili:=rfl
@[go_sem] theorem zcR{x:za3}:zbo (.RegPart x)=.iface 343 (.agg [.int .i64 x.Reg]):=rfl
@[go_sem] theorem zcS{x:za4}:zbo (.NumPart x)=.iface 345 (.agg [.int .i64 x.N]):=rfl
@[go_sem] theorem zc2{x:zbi}:zbo (.AtPart x)=.iface 347 (.agg [.int .i64 x.Sym,.int .i64 x.N]):=rfl
@[go_sem] theorem zc1{x:zbh}:zbo (.ByPart x)=.iface 349 (.agg [.int .i64 x.Sym,.int .i64 x.Reg]):=rfl
@[go_sem] theorem zlR{x:zbb}:zcX (zbo x)=true:=by cases x <;> rfl
@[go_sem] theorem zmH{x:zbb}:oneB (zbo x)=true:=by cases x <;> rfl
@[go_sem] theorem zla{x:zbb}:zcv (zbo x)=true:=by cases x <;> rfl
@[go_sem] theorem zlH{k:Nat}{x:zbb}:zaX k (zbo x)=true:=by cases x <;> rfl
@[go_sem] theorem zmy{m:Nat->Nat}{x:zbb}:ren m (zbo x)=zbo x:=by cases x <;> rfl
theorem W.sqh{P:Program}{N n0:Nat}{id}{l:List Oper}{y s h Q k}(F:List Nat)(s1:zaC)(hy:WK P N n0 y Q s1 h)(hN:zdY N l.toArray=true:=by rfl)
  (hrun:RunE P l.toArray (fun s h0=>AT n0 ⟨F,[]⟩ s1 h s h0) l s h (held _):=by exact RO):W P N n0 (.seq (.region id l.toArray false) y) Q s h k:=W.sq F s1 h hy hN hrun
theorem W.wk{P:Program}{N n0:Nat}{c s h Q k}(F:Gs)(s1:zaC)(h1:Hp)(hy:WK P N n0 c Q s1 h1)(hw:AT n0 F s1 h1 s h:=by exact RO):W P N n0 c Q s h k:=W.weak F hw hy
theorem W.rt{P:Program}{N n0:Nat}{s h Q k}(hq:Q .ret s h:=by first | exact zgn.retW ⟨[],[]⟩ RO | exact zcB.retW [] RO):W P N n0 .ret Q s h k:=W.ret hq
end Go.Vs
