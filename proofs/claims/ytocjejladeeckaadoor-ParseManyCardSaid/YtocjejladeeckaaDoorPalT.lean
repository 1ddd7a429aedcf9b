import Derived.Test.YtocjejladeeckaaDoorVu3
set_option linter.all false
namespace Go.Vs
@[go_sem,reducible] def zi(x:Int):AV:=.int .i64 x
@[go_sem,reducible] def zM{α:Type}(b w k:Nat)(l:List α):AV:=.msl b w 0 k l.length l.length
@[go_sem,reducible] def zw(x:Int):Int:=IntKind.wrap .i64 x
theorem zo{α:Type}{a b:α}(h:some a=some b):a=b:=Option.some.inj h
variable [Tab]
@[go_sem] def eInt(k:IntKind)(n:Int):List AV:=[.int k n]
@[go_sem] def zg5(b:Bool):List AV:=[.bool b]
@[go_sem] def eStr(s:ByteArray):List AV:=[.str s]
@[go_sem] def eSl{α:Type}(f:α->List AV)(l:List α):List AV:=[.sl (l.map f)]
@[go_sem] theorem zqn{k:IntKind}(l:List Int):zcp 1 (l.map (eInt k))=true:=zbq (k:=1) (f:=(eInt k)) (fun _=>⟨rfl,rfl⟩) l
@[go_sem] theorem ztf{k:IntKind}{m:Nat->Nat}(l:List Int):(l.map (eInt k)).map (rens m)=l.map (eInt k):=zdB (fun _=>rfl) l
@[go_sem] theorem zwA{k:IntKind}(l:List Int):(l.map (eInt k)).all clB=true:=cl_o (fun _ _=>rfl) l
@[go_sem] theorem ztH{k:IntKind}(l:List Int):frzR (l.map (eInt k))=l.map (eInt k):=zd7 (fun _=>rfl) l
@[go_sem] theorem zwg{k:IntKind}(l:List Int):okR (l.map (eInt k))=true:=ok_o (fun _=>rfl) l
@[go_sem] theorem zqL{k:IntKind}(n:Nat)(l:List Int):(l.map (eInt k)).all (zaS n)=true:=by simp only [List.all_map,List.all_eq_true]; intro x _; rfl
@[go_sem] theorem ztB{k:IntKind}(l:List Int):(l.map (eInt k)).all (·.length==1)=true:=by simp only [List.all_map,List.all_eq_true]; intro x _; rfl
@[go_sem] theorem zq8{k:IntKind}(l:List Int):(l.map (eInt k)).all zba=true:=by simp only [List.all_map,List.all_eq_true]; intro x _; rfl
@[go_sem] theorem zpB(l:List Bool):zcp 1 (l.map zg5)=true:=zbq (k:=1) (f:=zg5) (fun _=>⟨rfl,rfl⟩) l
@[go_sem] theorem zq5{m:Nat->Nat}(l:List Bool):(l.map zg5).map (rens m)=l.map zg5:=zdB (fun _=>rfl) l
@[go_sem] theorem ztX(l:List Bool):(l.map zg5).all clB=true:=cl_o (fun _ _=>rfl) l
@[go_sem] theorem zrx(l:List Bool):frzR (l.map zg5)=l.map zg5:=zd7 (fun _=>rfl) l
@[go_sem] theorem ztl(l:List Bool):okR (l.map zg5)=true:=ok_o (fun _=>rfl) l
@[go_sem] theorem zp9(n:Nat)(l:List Bool):(l.map zg5).all (zaS n)=true:=by simp only [List.all_map,List.all_eq_true]; intro x _; rfl
@[go_sem] theorem zrn(l:List Bool):(l.map zg5).all (·.length==1)=true:=by simp only [List.all_map,List.all_eq_true]; intro x _; rfl
@[go_sem] theorem zqo(l:List Bool):(l.map zg5).all zba=true:=by simp only [List.all_map,List.all_eq_true]; intro x _; rfl
@[go_sem] theorem zqm(l:List ByteArray):zcp 1 (l.map eStr)=true:=zbq (k:=1) (f:=eStr) (fun _=>⟨rfl,rfl⟩) l
@[go_sem] theorem zte{m:Nat->Nat}(l:List ByteArray):(l.map eStr).map (rens m)=l.map eStr:=zdB (fun _=>rfl) l
@[go_sem] theorem zwz(l:List ByteArray):(l.map eStr).all clB=true:=cl_o (fun _ _=>rfl) l
@[go_sem] theorem ztG(l:List ByteArray):frzR (l.map eStr)=l.map eStr:=zd7 (fun _=>rfl) l
@[go_sem] theorem zwf(l:List ByteArray):okR (l.map eStr)=true:=ok_o (fun _=>rfl) l
@[go_sem] theorem zqK(n:Nat)(l:List ByteArray):(l.map eStr).all (zaS n)=true:=by simp only [List.all_map,List.all_eq_true]; intro x _; rfl
@[go_sem] theorem ztA(l:List ByteArray):(l.map eStr).all (·.length==1)=true:=by simp only [List.all_map,List.all_eq_true]; intro x _; rfl
@[go_sem] theorem zq7(l:List ByteArray):(l.map eStr).all zba=true:=by simp only [List.all_map,List.all_eq_true]; intro x _; rfl
@[go_sem] theorem zq3{α:Type}{f:α->List AV}(l:List (List α)):zcp 1 (l.map (eSl f))=true:=zbq (k:=1) (f:=(eSl f)) (fun _=>⟨rfl,rfl⟩) l
@[go_sem] theorem zwb{α:Type}{f:α->List AV}{m:Nat->Nat}(l:List (List α)):(l.map (eSl f)).map (rens m)=l.map (eSl f):=zdB (fun _=>rfl) l
@[go_sem] theorem zxi{α:Type}{f:α->List AV}(l:List (List α)):(l.map (eSl f)).all clB=true:=cl_o (fun _ _=>rfl) l
@[go_sem] theorem zwu{α:Type}{f:α->List AV}(l:List (List α)):frzR (l.map (eSl f))=l.map (eSl f):=zd7 (fun _=>rfl) l
@[go_sem] theorem zxg{α:Type}{f:α->List AV}(l:List (List α)):okR (l.map (eSl f))=true:=ok_o (fun _=>rfl) l
@[go_sem] theorem zrN{α:Type}{f:α->List AV}(n:Nat)(l:List (List α)):(l.map (eSl f)).all (zaS n)=true:=by simp only [List.all_map,List.all_eq_true]; intro x _; rfl
@[go_sem] theorem zwp{α:Type}{f:α->List AV}(l:List (List α)):(l.map (eSl f)).all (·.length==1)=true:=by simp only [List.all_map,List.all_eq_true]; intro x _; rfl
@[go_sem] theorem zti{α:Type}{f:α->List AV}(l:List (List α)):(l.map (eSl f)).all zba=true:=by simp only [List.all_map,List.all_eq_true]; intro x _; rfl
def zhb(l:List Int):ByteArray:=⟨(l.map fun n=>UInt8.ofNat n.toNat).toArray⟩
@[go_sem] theorem zpA(l:List Int):zeH (l.map (eInt .u8))=some (zhb l):=by
 have h:∀l:List Int,(l.map (eInt .u8)).mapM zh9=some (l.map fun n=>UInt8.ofNat n.toNat):=by
  intro l
  induction l with
  | nil=>rfl
  | cons n l ih=>simp only [List.map_cons,List.mapM_cons,ih]; rfl
 unfold zeH; rw [h]; rfl
@[go_sem] theorem zpz(n:Int):zeH [[.int .u8 n]]=some (zhb [n]):=rfl
@[go_sem] theorem zpy(n m:Int):zeH [[.int .u8 n],[.int .u8 m]]=some (zhb [n,m]):=rfl
def zcj{α β γ:Type}(f:α->Option γ)(g:β->Option γ):α ⊕ β->Option γ | .inl a=>f a | .inr b=>g b
theorem zdK{α β γ:Type}{f:α->Option γ}{g:β->Option γ}{a:α}{x:Option γ}(h:zcj f g (.inl a)=x):f a=x:=h
theorem zdJ{α β γ:Type}{f:α->Option γ}{g:β->Option γ}{b:β}{x:Option γ}(h:zcj f g (.inr b)=x):g b=x:=h
attribute [go_sem] List.all_append List.all_cons List.all_nil
@[go_sem] theorem zwD{α:Type}{p:α->Bool}{l:List α}{i:Nat}{a:α}(hl:l.all p=true)(ha:p a=true):(l.set i a).all p=true:=by
 rw [List.all_eq_true] at hl ⊢
 intro x hx
 rcases List.mem_or_eq_of_mem_set hx with h | h
 ·exact hl x h
 ·rw [h]; exact ha
structure zag where
 mk ::
 Code:Int
 Line:Int
 Col:Int
 deriving Inhabited,DecidableEq
@[go_sem] def zaD(x:zag):List AV:=[.int .i64 x.Code,.int .i64 x.Line,.int .i64 x.Col]
@[go_sem] theorem zly(l:List zag):zcp 3 (l.map zaD)=true:=zbq (k:=3) (f:=zaD) (fun _=>⟨rfl,rfl⟩) l
@[go_sem] theorem zmn(l:List zag):(l.map zaD).all zba=true:=by simp only [List.all_map,List.all_eq_true]; intro x _; rfl
@[go_sem] theorem zlP(n:Nat)(l:List zag):(l.map zaD).all (zaS n)=true:=by simp only [List.all_map,List.all_eq_true]; intro x _; rfl
@[go_sem] theorem znA(l:List zag):(l.map zaD).all (·.length==3)=true:=by simp only [List.all_map,List.all_eq_true]; intro x _; rfl
@[go_sem] theorem zoE(l:List zag):(l.map zaD).all clB=true:=cl_o (fun _ _=>rfl) l
@[go_sem] theorem znu{m:Nat->Nat}(l:List zag):(l.map zaD).map (rens m)=l.map zaD:=zdB (fun _=>rfl) l
@[go_sem] theorem znC(l:List zag):frzR (l.map zaD)=l.map zaD:=zd7 (fun _=>rfl) l
@[go_sem] theorem zoa(l:List zag):okR (l.map zaD)=true:=ok_o (fun _=>rfl) l
structure zau where
 mk ::
 Name:ByteArray
 Size:Int
 Init:(List Int)
 deriving Inhabited,DecidableEq
@[go_sem] def zaf(x:zau):List AV:=[.str x.Name,.int .i64 x.Size,.sl (x.Init.map (eInt .i64))]
@[go_sem] theorem znq(l:List zau):zcp 3 (l.map zaf)=true:=zbq (k:=3) (f:=zaf) (fun _=>⟨rfl,rfl⟩) l
@[go_sem] theorem zn6(l:List zau):(l.map zaf).all zba=true:=by simp only [List.all_map,List.all_eq_true]; intro x _; rfl
@[go_sem] theorem znK(n:Nat)(l:List zau):(l.map zaf).all (zaS n)=true:=by simp only [List.all_map,List.all_eq_true]; intro x _; rfl
@[go_sem] theorem zo3(l:List zau):(l.map zaf).all (·.length==3)=true:=by simp only [List.all_map,List.all_eq_true]; intro x _; rfl
@[go_sem] theorem zp2(l:List zau):(l.map zaf).all clB=true:=cl_o (fun _ _=>rfl) l
@[go_sem] theorem zoT{m:Nat->Nat}(l:List zau):(l.map zaf).map (rens m)=l.map zaf:=zdB (fun _=>rfl) l
@[go_sem] theorem zpb(l:List zau):frzR (l.map zaf)=l.map zaf:=zd7 (fun _=>rfl) l
@[go_sem] theorem zpK(l:List zau):okR (l.map zaf)=true:=ok_o (fun _=>rfl) l
structure zav where
 mk ::
 Kind:Int
 Reg:Int
 Sym:Int
 N:Int
 deriving Inhabited,DecidableEq
@[go_sem] def zco(x:zav):List AV:=[.int .i64 x.Kind,.int .i64 x.Reg,.int .i64 x.Sym,.int .i64 x.N]
@[go_sem] theorem znr(l:List zav):zcp 4 (l.map zco)=true:=zbq (k:=4) (f:=zco) (fun _=>⟨rfl,rfl⟩) l
@[go_sem] theorem zn7(l:List zav):(l.map zco).all zba=true:=by simp only [List.all_map,List.all_eq_true]; intro x _; rfl
@[go_sem] theorem znL(n:Nat)(l:List zav):(l.map zco).all (zaS n)=true:=by simp only [List.all_map,List.all_eq_true]; intro x _; rfl
@[go_sem] theorem zo4(l:List zav):(l.map zco).all (·.length==4)=true:=by simp only [List.all_map,List.all_eq_true]; intro x _; rfl
@[go_sem] theorem zp3(l:List zav):(l.map zco).all clB=true:=cl_o (fun _ _=>rfl) l
@[go_sem] theorem zoU{m:Nat->Nat}(l:List zav):(l.map zco).map (rens m)=l.map zco:=zdB (fun _=>rfl) l
@[go_sem] theorem zpc(l:List zav):frzR (l.map zco)=l.map zco:=zd7 (fun _=>rfl) l
@[go_sem] theorem zpL(l:List zav):okR (l.map zco)=true:=ok_o (fun _=>rfl) l
structure zak where
 mk ::
 Op:Int
 Lock:Bool
 Cond:Int
 A:zav
 B:zav
 To:ByteArray
 zLb:(List ByteArray)
 deriving Inhabited,DecidableEq
@[go_sem] def zax(x:zak):List AV:=[.int .i64 x.Op,.bool x.Lock,.int .i64 x.Cond,.int .i64 x.A.Kind,.int .i64 x.A.Reg,.int .i64 x.A.Sym,.int .i64 x.A.N,.int .i64 x.B.Kind,.int .i64 x.B.Reg,.int .i64 x.B.Sym,.int .i64 x.B.N,.str x.To,.sl (x.zLb.map eStr)]
@[go_sem] theorem zns(l:List zak):zcp 13 (l.map zax)=true:=zbq (k:=13) (f:=zax) (fun _=>⟨rfl,rfl⟩) l
@[go_sem] theorem zn8(l:List zak):(l.map zax).all zba=true:=by simp only [List.all_map,List.all_eq_true]; intro x _; rfl
@[go_sem] theorem znM(n:Nat)(l:List zak):(l.map zax).all (zaS n)=true:=by simp only [List.all_map,List.all_eq_true]; intro x _; rfl
@[go_sem] theorem zo5(l:List zak):(l.map zax).all (·.length==13)=true:=by simp only [List.all_map,List.all_eq_true]; intro x _; rfl
@[go_sem] theorem zp4(l:List zak):(l.map zax).all clB=true:=cl_o (fun _ _=>rfl) l
@[go_sem] theorem zoV{m:Nat->Nat}(l:List zak):(l.map zax).map (rens m)=l.map zax:=zdB (fun _=>rfl) l
@[go_sem] theorem zpd(l:List zak):frzR (l.map zax)=l.map zax:=zd7 (fun _=>rfl) l
@[go_sem] theorem zpM(l:List zak):okR (l.map zax)=true:=ok_o (fun _=>rfl) l
structure zaj where
 mk ::
 Ins:(List zak)
 deriving Inhabited,DecidableEq
@[go_sem] def zaK(x:zaj):List AV:=[.sl (x.Ins.map zax)]
@[go_sem] theorem zkV(l:List zaj):zcp 1 (l.map zaK)=true:=zbq (k:=1) (f:=zaK) (fun _=>⟨rfl,rfl⟩) l
@[go_sem] theorem zlC(l:List zaj):(l.map zaK).all zba=true:=by simp only [List.all_map,List.all_eq_true]; intro x _; rfl
@[go_sem] theorem zlt(n:Nat)(l:List zaj):(l.map zaK).all (zaS n)=true:=by simp only [List.all_map,List.all_eq_true]; intro x _; rfl
@[go_sem] theorem zmO(l:List zaj):(l.map zaK).all (·.length==1)=true:=by simp only [List.all_map,List.all_eq_true]; intro x _; rfl
@[go_sem] theorem znJ(l:List zaj):(l.map zaK).all clB=true:=cl_o (fun _ _=>rfl) l
@[go_sem] theorem zmg{m:Nat->Nat}(l:List zaj):(l.map zaK).map (rens m)=l.map zaK:=zdB (fun _=>rfl) l
@[go_sem] theorem zm7(l:List zaj):frzR (l.map zaK)=l.map zaK:=zd7 (fun _=>rfl) l
@[go_sem] theorem zny(l:List zaj):okR (l.map zaK)=true:=ok_o (fun _=>rfl) l
@[go_sem] def zad(x:zaj):List AV:=[.zBx (x.Ins.map zax) 13 55]
@[go_sem] theorem zlr(n:Nat)(l:List zaj):(l.map zad).all (zaS n)=true:=zhe (fun _ _=>rfl) n l
@[go_sem] theorem znH(l:List zaj):(l.map zad).all clB=true:=cl_o (fun _ _=>rfl) l
@[go_sem] theorem zme{m:Nat->Nat}(l:List zaj):(l.map zad).map (rens m)=l.map zad:=zdB (fun _=>rfl) l
@[go_sem] theorem zmM(l:List zaj):(l.map zad).all (·.length==1)=true:=zmP (f:=zad) (k:=1) (fun _=>rfl) l
@[go_sem] theorem zm5(l:List zaj):frzR (l.map zad)=l.map zaK:=zd7 (fun x=>by simp only [zad,zaK,frzL,frzC,go_sem]) l
@[go_sem] theorem znw(l:List zaj):okR (l.map zad)=true:=ok_o (fun x=>by simp only [zad,okL,okC,zcF,Bool.and_true,Bool.true_and,go_sem]) l
@[go_sem] theorem zl7{l:List zaj}{i:Int}(h:InB i l.length):(l.map zad).set i.toNat [.zBx (((rd l i).Ins).map zax) 13 55]=l.map zad:=znX h rfl
structure zat where
 mk ::
 zSy:(List zau)
 zTh:(List zaj)
 deriving Inhabited,DecidableEq
@[go_sem] def za7(x:zat):List AV:=[.sl (x.zSy.map zaf),.sl (x.zTh.map zaK)]
@[go_sem] theorem zma(l:List zat):zcp 2 (l.map za7)=true:=zbq (k:=2) (f:=za7) (fun _=>⟨rfl,rfl⟩) l
@[go_sem] theorem znv(l:List zat):(l.map za7).all zba=true:=by simp only [List.all_map,List.all_eq_true]; intro x _; rfl
@[go_sem] theorem znn(n:Nat)(l:List zat):(l.map za7).all (zaS n)=true:=by simp only [List.all_map,List.all_eq_true]; intro x _; rfl
@[go_sem] theorem zoi(l:List zat):(l.map za7).all (·.length==2)=true:=by simp only [List.all_map,List.all_eq_true]; intro x _; rfl
@[go_sem] theorem zpi(l:List zat):(l.map za7).all clB=true:=cl_o (fun _ _=>rfl) l
@[go_sem] theorem zn2{m:Nat->Nat}(l:List zat):(l.map za7).map (rens m)=l.map za7:=zdB (fun _=>rfl) l
@[go_sem] theorem zop(l:List zat):frzR (l.map za7)=l.map za7:=zd7 (fun _=>rfl) l
@[go_sem] theorem zo0(l:List zat):okR (l.map za7)=true:=ok_o (fun _=>rfl) l
@[go_sem] def zbX(x:zat):List AV:=[.zBx (x.zSy.map zaf) 3 86,.zBx (x.zTh.map zad) 1 65]
@[go_sem] theorem znm(n:Nat)(l:List zat):(l.map zbX).all (zaS n)=true:=zhe (fun _ _=>rfl) n l
@[go_sem] theorem zph(l:List zat):(l.map zbX).all clB=true:=cl_o (fun _ _=>rfl) l
@[go_sem] theorem zn1{m:Nat->Nat}(l:List zat):(l.map zbX).map (rens m)=l.map zbX:=zdB (fun _=>rfl) l
@[go_sem] theorem zoh(l:List zat):(l.map zbX).all (·.length==2)=true:=zmP (f:=zbX) (k:=2) (fun _=>rfl) l
@[go_sem] theorem zoo(l:List zat):frzR (l.map zbX)=l.map za7:=zd7 (fun x=>by simp only [zbX,za7,frzL,frzC,go_sem]) l
@[go_sem] theorem zoZ(l:List zat):okR (l.map zbX)=true:=ok_o (fun x=>by simp only [zbX,okL,okC,zcF,Bool.and_true,Bool.true_and,go_sem]) l
@[go_sem] theorem znV{l:List zat}{i:Int}(h:InB i l.length):(l.map zbX).set i.toNat [.zBx (((rd l i).zSy).map zaf) 3 86,.zBx (((rd l i).zTh).map zad) 1 65]=l.map zbX:=znX h rfl
structure zab where
 mk ::
 Kind:Int
 Line:Int
 Col:Int
 Text:ByteArray
 deriving Inhabited,DecidableEq
@[go_sem] def zac(x:zab):List AV:=[.int .i64 x.Kind,.int .i64 x.Line,.int .i64 x.Col,.str x.Text]
@[go_sem] theorem zlx(l:List zab):zcp 4 (l.map zac)=true:=zbq (k:=4) (f:=zac) (fun _=>⟨rfl,rfl⟩) l
@[go_sem] theorem zmm(l:List zab):(l.map zac).all zba=true:=by simp only [List.all_map,List.all_eq_true]; intro x _; rfl
@[go_sem] theorem zlO(n:Nat)(l:List zab):(l.map zac).all (zaS n)=true:=by simp only [List.all_map,List.all_eq_true]; intro x _; rfl
@[go_sem] theorem znz(l:List zab):(l.map zac).all (·.length==4)=true:=by simp only [List.all_map,List.all_eq_true]; intro x _; rfl
@[go_sem] theorem zoD(l:List zab):(l.map zac).all clB=true:=cl_o (fun _ _=>rfl) l
@[go_sem] theorem znt{m:Nat->Nat}(l:List zab):(l.map zac).map (rens m)=l.map zac:=zdB (fun _=>rfl) l
@[go_sem] theorem znB(l:List zab):frzR (l.map zac)=l.map zac:=zd7 (fun _=>rfl) l
@[go_sem] theorem zn9(l:List zab):okR (l.map zac)=true:=ok_o (fun _=>rfl) l
structure zaE where
 mk ::
 Rune:Int
 At:Int
 Size:Int
 Line:Int
 Col:Int
 Bad:Bool
 deriving Inhabited,DecidableEq
@[go_sem] def zaV(x:zaE):List AV:=[.int .i32 x.Rune,.int .i64 x.At,.int .i64 x.Size,.int .i64 x.Line,.int .i64 x.Col,.bool x.Bad]
@[go_sem] theorem ziw(l:List zaE):zcp 6 (l.map zaV)=true:=zbq (k:=6) (f:=zaV) (fun _=>⟨rfl,rfl⟩) l
@[go_sem] theorem ziS(l:List zaE):(l.map zaV).all zba=true:=by simp only [List.all_map,List.all_eq_true]; intro x _; rfl
@[go_sem] theorem ziy(n:Nat)(l:List zaE):(l.map zaV).all (zaS n)=true:=by simp only [List.all_map,List.all_eq_true]; intro x _; rfl
@[go_sem] theorem zjn(l:List zaE):(l.map zaV).all (·.length==6)=true:=by simp only [List.all_map,List.all_eq_true]; intro x _; rfl
@[go_sem] theorem zjS(l:List zaE):(l.map zaV).all clB=true:=cl_o (fun _ _=>rfl) l
@[go_sem] theorem zjl{m:Nat->Nat}(l:List zaE):(l.map zaV).map (rens m)=l.map zaV:=zdB (fun _=>rfl) l
@[go_sem] theorem zjo(l:List zaE):frzR (l.map zaV)=l.map zaV:=zd7 (fun _=>rfl) l
@[go_sem] theorem zjy(l:List zaE):okR (l.map zaV)=true:=ok_o (fun _=>rfl) l
structure zbh where
 mk ::
 Kind:Int
 A:Int
 B:Int
 C:Int
 N:Int
 deriving Inhabited,DecidableEq
@[go_sem] def zaY(x:zbh):List AV:=[.int .i64 x.Kind,.int .i64 x.A,.int .i64 x.B,.int .i64 x.C,.int .i64 x.N]
@[go_sem] theorem ziK(l:List zbh):zcp 5 (l.map zaY)=true:=zbq (k:=5) (f:=zaY) (fun _=>⟨rfl,rfl⟩) l
@[go_sem] theorem zjm(l:List zbh):(l.map zaY).all zba=true:=by simp only [List.all_map,List.all_eq_true]; intro x _; rfl
@[go_sem] theorem zji(n:Nat)(l:List zbh):(l.map zaY).all (zaS n)=true:=by simp only [List.all_map,List.all_eq_true]; intro x _; rfl
@[go_sem] theorem zjE(l:List zbh):(l.map zaY).all (·.length==5)=true:=by simp only [List.all_map,List.all_eq_true]; intro x _; rfl
@[go_sem] theorem zkB(l:List zbh):(l.map zaY).all clB=true:=cl_o (fun _ _=>rfl) l
@[go_sem] theorem zjx{m:Nat->Nat}(l:List zbh):(l.map zaY).map (rens m)=l.map zaY:=zdB (fun _=>rfl) l
@[go_sem] theorem zjO(l:List zbh):frzR (l.map zaY)=l.map zaY:=zd7 (fun _=>rfl) l
@[go_sem] theorem zkk(l:List zbh):okR (l.map zaY)=true:=ok_o (fun _=>rfl) l
structure zah where
 mk ::
 Rune:Int
 At:Int
 Size:Int
 Line:Int
 Col:Int
 Bad:Bool
 deriving Inhabited,DecidableEq
@[go_sem] def zal(x:zah):List AV:=[.int .i32 x.Rune,.int .i64 x.At,.int .i64 x.Size,.int .i64 x.Line,.int .i64 x.Col,.bool x.Bad]
@[go_sem] theorem zkU(l:List zah):zcp 6 (l.map zal)=true:=zbq (k:=6) (f:=zal) (fun _=>⟨rfl,rfl⟩) l
@[go_sem] theorem zlB(l:List zah):(l.map zal).all zba=true:=by simp only [List.all_map,List.all_eq_true]; intro x _; rfl
@[go_sem] theorem zls(n:Nat)(l:List zah):(l.map zal).all (zaS n)=true:=by simp only [List.all_map,List.all_eq_true]; intro x _; rfl
@[go_sem] theorem zmN(l:List zah):(l.map zal).all (·.length==6)=true:=by simp only [List.all_map,List.all_eq_true]; intro x _; rfl
@[go_sem] theorem znI(l:List zah):(l.map zal).all clB=true:=cl_o (fun _ _=>rfl) l
@[go_sem] theorem zmf{m:Nat->Nat}(l:List zah):(l.map zal).map (rens m)=l.map zal:=zdB (fun _=>rfl) l
@[go_sem] theorem zm6(l:List zah):frzR (l.map zal)=l.map zal:=zd7 (fun _=>rfl) l
@[go_sem] theorem znx(l:List zah):okR (l.map zal)=true:=ok_o (fun _=>rfl) l
structure zao where
 mk ::
 head:zab
 labels:(List (ByteArray × Bool))
 open_:(List ByteArray)
 zFi:(List zab)
 zTg:(List zab)
 deriving Inhabited,DecidableEq
@[go_sem] def zae(x:zao):List AV:=[.int .i64 x.head.Kind,.int .i64 x.head.Line,.int .i64 x.head.Col,.str x.head.Text,.zBm (x.labels.map (eKV AV.str AV.bool)),.zBx (x.open_.map eStr) 1 9,.zBx (x.zFi.map zac) 4 43,.zBx (x.zTg.map zac) 4 43]
@[go_sem] theorem zlq(n:Nat)(l:List zao):(l.map zae).all (zaS n)=true:=zhe (fun _ _=>rfl) n l
@[go_sem] theorem znG(l:List zao):(l.map zae).all clB=true:=cl_o (fun _ _=>rfl) l
@[go_sem] theorem zmd{m:Nat->Nat}(l:List zao):(l.map zae).map (rens m)=l.map zae:=zdB (fun _=>rfl) l
@[go_sem] theorem zmL(l:List zao):(l.map zae).all (·.length==8)=true:=zmP (f:=zae) (k:=8) (fun _=>rfl) l
@[go_sem] theorem zl6{l:List zao}{i:Int}(h:InB i l.length):(l.map zae).set i.toNat [.int .i64 ((rd l i).head.Kind),.int .i64 ((rd l i).head.Line),.int .i64 ((rd l i).head.Col),.str ((rd l i).head.Text),.zBm (((rd l i).labels).map (eKV AV.str AV.bool)),.zBx (((rd l i).open_).map eStr) 1 9,.zBx (((rd l i).zFi).map zac) 4 43,.zBx (((rd l i).zTg).map zac) 4 43]=l.map zae:=znX h rfl
structure zaa where
 mk ::
 l:(List zab)
 at_:Int
 p:zat
 b:(List zao)
 f:zag
 deriving Inhabited,DecidableEq
@[go_sem] def zan(x:zaa):List AV:=[.sl (x.l.map zac),.int .i64 x.at_,.zBx (x.p.zSy.map zaf) 3 86,.zBx (x.p.zTh.map zad) 1 65,.zBx (x.b.map zae) 8 135,.int .i64 x.f.Code,.int .i64 x.f.Line,.int .i64 x.f.Col]
@[go_sem] theorem zjW(n:Nat)(l:List zaa):(l.map zan).all (zaS n)=true:=zhe (fun _ _=>rfl) n l
@[go_sem] theorem zlL(l:List zaa):(l.map zan).all clB=true:=cl_o (fun _ _=>rfl) l
@[go_sem] theorem zkY{m:Nat->Nat}(l:List zaa):(l.map zan).map (rens m)=l.map zan:=zdB (fun _=>rfl) l
@[go_sem] theorem zla(l:List zaa):(l.map zan).all (·.length==8)=true:=zmP (f:=zan) (k:=8) (fun _=>rfl) l
@[go_sem] theorem zkP{l:List zaa}{i:Int}(h:InB i l.length):(l.map zan).set i.toNat [.sl (((rd l i).l).map zac),.int .i64 ((rd l i).at_),.zBx (((rd l i).p.zSy).map zaf) 3 86,.zBx (((rd l i).p.zTh).map zad) 1 65,.zBx (((rd l i).b).map zae) 8 135,.int .i64 ((rd l i).f.Code),.int .i64 ((rd l i).f.Line),.int .i64 ((rd l i).f.Col)]=l.map zan:=znX h rfl
structure za4 where
 mk ::
 Reg:Int
 deriving Inhabited,DecidableEq
@[go_sem] def zbd(x:za4):List AV:=[.int .i64 x.Reg]
@[go_sem] theorem zju(l:List za4):zcp 1 (l.map zbd)=true:=zbq (k:=1) (f:=zbd) (fun _=>⟨rfl,rfl⟩) l
@[go_sem] theorem zkh(l:List za4):(l.map zbd).all zba=true:=by simp only [List.all_map,List.all_eq_true]; intro x _; rfl
@[go_sem] theorem zjX(n:Nat)(l:List za4):(l.map zbd).all (zaS n)=true:=by simp only [List.all_map,List.all_eq_true]; intro x _; rfl
@[go_sem] theorem zlb(l:List za4):(l.map zbd).all (·.length==1)=true:=by simp only [List.all_map,List.all_eq_true]; intro x _; rfl
@[go_sem] theorem zlM(l:List za4):(l.map zbd).all clB=true:=cl_o (fun _ _=>rfl) l
@[go_sem] theorem zkZ{m:Nat->Nat}(l:List za4):(l.map zbd).map (rens m)=l.map zbd:=zdB (fun _=>rfl) l
@[go_sem] theorem zli(l:List za4):frzR (l.map zbd)=l.map zbd:=zd7 (fun _=>rfl) l
@[go_sem] theorem zlE(l:List za4):okR (l.map zbd)=true:=ok_o (fun _=>rfl) l
structure za5 where
 mk ::
 N:Int
 deriving Inhabited,DecidableEq
@[go_sem] def zbe(x:za5):List AV:=[.int .i64 x.N]
@[go_sem] theorem zjv(l:List za5):zcp 1 (l.map zbe)=true:=zbq (k:=1) (f:=zbe) (fun _=>⟨rfl,rfl⟩) l
@[go_sem] theorem zki(l:List za5):(l.map zbe).all zba=true:=by simp only [List.all_map,List.all_eq_true]; intro x _; rfl
@[go_sem] theorem zjY(n:Nat)(l:List za5):(l.map zbe).all (zaS n)=true:=by simp only [List.all_map,List.all_eq_true]; intro x _; rfl
@[go_sem] theorem zlc(l:List za5):(l.map zbe).all (·.length==1)=true:=by simp only [List.all_map,List.all_eq_true]; intro x _; rfl
@[go_sem] theorem zlN(l:List za5):(l.map zbe).all clB=true:=cl_o (fun _ _=>rfl) l
@[go_sem] theorem zk0{m:Nat->Nat}(l:List za5):(l.map zbe).map (rens m)=l.map zbe:=zdB (fun _=>rfl) l
@[go_sem] theorem zlj(l:List za5):frzR (l.map zbe)=l.map zbe:=zd7 (fun _=>rfl) l
@[go_sem] theorem zlF(l:List za5):okR (l.map zbe)=true:=ok_o (fun _=>rfl) l
structure zbj where
 mk ::
 Sym:Int
 N:Int
 deriving Inhabited,DecidableEq
@[go_sem] def zbw(x:zbj):List AV:=[.int .i64 x.Sym,.int .i64 x.N]
@[go_sem] theorem zkc(l:List zbj):zcp 2 (l.map zbw)=true:=zbq (k:=2) (f:=zbw) (fun _=>⟨rfl,rfl⟩) l
@[go_sem] theorem zk4(l:List zbj):(l.map zbw).all zba=true:=by simp only [List.all_map,List.all_eq_true]; intro x _; rfl
@[go_sem] theorem zkE(n:Nat)(l:List zbj):(l.map zbw).all (zaS n)=true:=by simp only [List.all_map,List.all_eq_true]; intro x _; rfl
@[go_sem] theorem zlH(l:List zbj):(l.map zbw).all (·.length==2)=true:=by simp only [List.all_map,List.all_eq_true]; intro x _; rfl
@[go_sem] theorem znj(l:List zbj):(l.map zbw).all clB=true:=cl_o (fun _ _=>rfl) l
@[go_sem] theorem zlA{m:Nat->Nat}(l:List zbj):(l.map zbw).map (rens m)=l.map zbw:=zdB (fun _=>rfl) l
@[go_sem] theorem zlJ(l:List zbj):frzR (l.map zbw)=l.map zbw:=zd7 (fun _=>rfl) l
@[go_sem] theorem zmu(l:List zbj):okR (l.map zbw)=true:=ok_o (fun _=>rfl) l
structure zbi where
 mk ::
 Sym:Int
 Reg:Int
 deriving Inhabited,DecidableEq
@[go_sem] def zbv(x:zbi):List AV:=[.int .i64 x.Sym,.int .i64 x.Reg]
@[go_sem] theorem zkb(l:List zbi):zcp 2 (l.map zbv)=true:=zbq (k:=2) (f:=zbv) (fun _=>⟨rfl,rfl⟩) l
@[go_sem] theorem zk3(l:List zbi):(l.map zbv).all zba=true:=by simp only [List.all_map,List.all_eq_true]; intro x _; rfl
@[go_sem] theorem zkD(n:Nat)(l:List zbi):(l.map zbv).all (zaS n)=true:=by simp only [List.all_map,List.all_eq_true]; intro x _; rfl
@[go_sem] theorem zlG(l:List zbi):(l.map zbv).all (·.length==2)=true:=by simp only [List.all_map,List.all_eq_true]; intro x _; rfl
@[go_sem] theorem zni(l:List zbi):(l.map zbv).all clB=true:=cl_o (fun _ _=>rfl) l
@[go_sem] theorem zlz{m:Nat->Nat}(l:List zbi):(l.map zbv).map (rens m)=l.map zbv:=zdB (fun _=>rfl) l
@[go_sem] theorem zlI(l:List zbi):frzR (l.map zbv)=l.map zbv:=zd7 (fun _=>rfl) l
@[go_sem] theorem zmt(l:List zbi):okR (l.map zbv)=true:=ok_o (fun _=>rfl) l
inductive za9 where
 | nil
 | RegPart (x:za4)
 | NumPart (x:za5)
 | AtPart (x:zbj)
 | ByPart (x:zbi)
 deriving Inhabited,DecidableEq
def zbn:za9->AV
 | .nil=>.nili
 | .RegPart x=>.iface 145 (.agg [.int .i64 x.Reg])
 | .NumPart x=>.iface 147 (.agg [.int .i64 x.N])
 | .AtPart x=>.iface 149 (.agg [.int .i64 x.Sym,.int .i64 x.N])
 | .ByPart x=>.iface 151 (.agg [.int .i64 x.Sym,.int .i64 x.Reg])
@[go_sem] theorem zde:zbn .nil=.nili:=rfl
@[go_sem] theorem zcA{x:za4}:zbn (.RegPart x)=.iface 145 (.agg [.int .i64 x.Reg]):=rfl
@[go_sem] theorem zcB{x:za5}:zbn (.NumPart x)=.iface 147 (.agg [.int .i64 x.N]):=rfl
@[go_sem] theorem zcK{x:zbj}:zbn (.AtPart x)=.iface 149 (.agg [.int .i64 x.Sym,.int .i64 x.N]):=rfl
@[go_sem] theorem zcJ{x:zbi}:zbn (.ByPart x)=.iface 151 (.agg [.int .i64 x.Sym,.int .i64 x.Reg]):=rfl
@[go_sem] theorem zlD{x:za9}:zcF (zbn x)=true:=by cases x <;> rfl
@[go_sem] theorem zms{x:za9}:oneB (zbn x)=true:=by cases x <;> rfl
@[go_sem] theorem zk6{x:za9}:zcl (zbn x)=true:=by cases x <;> rfl
@[go_sem] theorem zlu{k:Nat}{x:za9}:zaZ k (zbn x)=true:=by cases x <;> rfl
@[go_sem] theorem zmh{m:Nat->Nat}{x:za9}:ren m (zbn x)=zbn x:=by cases x <;> rfl
theorem W.sqh{P:Program}{N n0:Nat}{id}{l:List Oper}{y s h Q k}(F:List Nat)(s1:zaw)(hy:WK P N n0 y Q s1 h)(hN:zdx N l.toArray=true:=by rfl)
  (hrun:RunE P l.toArray (fun s h0=>AT n0 ⟨F,[]⟩ s1 h s h0) l s h (held _):=by exact RO):W P N n0 (.seq (.region id l.toArray false) y) Q s h k:=W.sq F s1 h hy hN hrun
theorem W.wk{P:Program}{N n0:Nat}{c s h Q k}(F:Gs)(s1:zaw)(h1:Hp)(hy:WK P N n0 c Q s1 h1)(hw:AT n0 F s1 h1 s h:=by exact RO):W P N n0 c Q s h k:=W.weak F hw hy
theorem W.rt{P:Program}{N n0:Nat}{s h Q k}(hq:Q .ret s h:=by first | exact zhh.retW ⟨[],[]⟩ RO | exact zeB.retW [] RO):W P N n0 .ret Q s h k:=W.ret hq
end Go.Vs
