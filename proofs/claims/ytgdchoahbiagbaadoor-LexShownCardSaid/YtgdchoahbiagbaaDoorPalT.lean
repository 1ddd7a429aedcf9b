import Derived.Test.YtgdchoahbiagbaaDoorVu3
set_option linter.unusedVariables false
set_option linter.unusedSimpArgs false
set_option linter.unusedSectionVars false
namespace Go.Vs
variable [Tab]
@[go_sem] def eInt(k:IntKind)(n:Int):List AV:=[.int k n]
@[go_sem] def eBool(b:Bool):List AV:=[.bool b]
@[go_sem] def eStr(s:ByteArray):List AV:=[.str s]
@[go_sem] def eSl{α:Type}(f:α → List AV)(l:List α):List AV:=[.sl (l.map f)]
@[go_sem] theorem rows1_eInt{k:IntKind}(l:List Int):rows1 1 (l.map (eInt k))=true:=rows1_map (k:=1) (f:=(eInt k)) (fun _=>⟨rfl,rfl⟩) l
@[go_sem] theorem ren_eInt{k:IntKind}{m:Nat → Nat}(l:List Int):(l.map (eInt k)).map (rens m)=l.map (eInt k):=ren_o (fun _=>rfl) l
@[go_sem] theorem cl_eInt{k:IntKind}(l:List Int):(l.map (eInt k)).all clB=true:=cl_o (fun _ _=>rfl) l
@[go_sem] theorem frz_eInt{k:IntKind}(l:List Int):frzR (l.map (eInt k))=l.map (eInt k):=frz_o (fun _=>rfl) l
@[go_sem] theorem ok_eInt{k:IntKind}(l:List Int):okR (l.map (eInt k))=true:=ok_o (fun _=>rfl) l
@[go_sem] theorem below_eInt{k:IntKind}(n:Nat)(l:List Int):(l.map (eInt k)).all (belowBs n)=true:=by simp only [List.all_map,List.all_eq_true]; intro x _; rfl
@[go_sem] theorem len_eInt{k:IntKind}(l:List Int):(l.map (eInt k)).all (·.length==1)=true:=by simp only [List.all_map,List.all_eq_true]; intro x _; rfl
@[go_sem] theorem pure_eInt{k:IntKind}(l:List Int):(l.map (eInt k)).all pureBs=true:=by simp only [List.all_map,List.all_eq_true]; intro x _; rfl
@[go_sem] theorem rows1_eBool(l:List Bool):rows1 1 (l.map eBool)=true:=rows1_map (k:=1) (f:=eBool) (fun _=>⟨rfl,rfl⟩) l
@[go_sem] theorem ren_eBool{m:Nat → Nat}(l:List Bool):(l.map eBool).map (rens m)=l.map eBool:=ren_o (fun _=>rfl) l
@[go_sem] theorem cl_eBool(l:List Bool):(l.map eBool).all clB=true:=cl_o (fun _ _=>rfl) l
@[go_sem] theorem frz_eBool(l:List Bool):frzR (l.map eBool)=l.map eBool:=frz_o (fun _=>rfl) l
@[go_sem] theorem ok_eBool(l:List Bool):okR (l.map eBool)=true:=ok_o (fun _=>rfl) l
@[go_sem] theorem below_eBool(n:Nat)(l:List Bool):(l.map eBool).all (belowBs n)=true:=by simp only [List.all_map,List.all_eq_true]; intro x _; rfl
@[go_sem] theorem len_eBool(l:List Bool):(l.map eBool).all (·.length==1)=true:=by simp only [List.all_map,List.all_eq_true]; intro x _; rfl
@[go_sem] theorem pure_eBool(l:List Bool):(l.map eBool).all pureBs=true:=by simp only [List.all_map,List.all_eq_true]; intro x _; rfl
@[go_sem] theorem rows1_eStr(l:List ByteArray):rows1 1 (l.map eStr)=true:=rows1_map (k:=1) (f:=eStr) (fun _=>⟨rfl,rfl⟩) l
@[go_sem] theorem ren_eStr{m:Nat → Nat}(l:List ByteArray):(l.map eStr).map (rens m)=l.map eStr:=ren_o (fun _=>rfl) l
@[go_sem] theorem cl_eStr(l:List ByteArray):(l.map eStr).all clB=true:=cl_o (fun _ _=>rfl) l
@[go_sem] theorem frz_eStr(l:List ByteArray):frzR (l.map eStr)=l.map eStr:=frz_o (fun _=>rfl) l
@[go_sem] theorem ok_eStr(l:List ByteArray):okR (l.map eStr)=true:=ok_o (fun _=>rfl) l
@[go_sem] theorem below_eStr(n:Nat)(l:List ByteArray):(l.map eStr).all (belowBs n)=true:=by simp only [List.all_map,List.all_eq_true]; intro x _; rfl
@[go_sem] theorem len_eStr(l:List ByteArray):(l.map eStr).all (·.length==1)=true:=by simp only [List.all_map,List.all_eq_true]; intro x _; rfl
@[go_sem] theorem pure_eStr(l:List ByteArray):(l.map eStr).all pureBs=true:=by simp only [List.all_map,List.all_eq_true]; intro x _; rfl
@[go_sem] theorem rows1_eSl{α:Type}{f:α → List AV}(l:List (List α)):rows1 1 (l.map (eSl f))=true:=rows1_map (k:=1) (f:=(eSl f)) (fun _=>⟨rfl,rfl⟩) l
@[go_sem] theorem ren_eSl{α:Type}{f:α → List AV}{m:Nat → Nat}(l:List (List α)):(l.map (eSl f)).map (rens m)=l.map (eSl f):=ren_o (fun _=>rfl) l
@[go_sem] theorem cl_eSl{α:Type}{f:α → List AV}(l:List (List α)):(l.map (eSl f)).all clB=true:=cl_o (fun _ _=>rfl) l
@[go_sem] theorem frz_eSl{α:Type}{f:α → List AV}(l:List (List α)):frzR (l.map (eSl f))=l.map (eSl f):=frz_o (fun _=>rfl) l
@[go_sem] theorem ok_eSl{α:Type}{f:α → List AV}(l:List (List α)):okR (l.map (eSl f))=true:=ok_o (fun _=>rfl) l
@[go_sem] theorem below_eSl{α:Type}{f:α → List AV}(n:Nat)(l:List (List α)):(l.map (eSl f)).all (belowBs n)=true:=by simp only [List.all_map,List.all_eq_true]; intro x _; rfl
@[go_sem] theorem len_eSl{α:Type}{f:α → List AV}(l:List (List α)):(l.map (eSl f)).all (·.length==1)=true:=by simp only [List.all_map,List.all_eq_true]; intro x _; rfl
@[go_sem] theorem pure_eSl{α:Type}{f:α → List AV}(l:List (List α)):(l.map (eSl f)).all pureBs=true:=by simp only [List.all_map,List.all_eq_true]; intro x _; rfl
structure A0 (α:Type) where
  mk ::

  deriving Inhabited,DecidableEq
structure A16 (α:Type) where
  mk ::
  a0:α
  a1:α
  a2:α
  a3:α
  a4:α
  a5:α
  a6:α
  a7:α
  a8:α
  a9:α
  a10:α
  a11:α
  a12:α
  a13:α
  a14:α
  a15:α
  deriving Inhabited,DecidableEq
def A16.get{α:Type}(x:A16 α)(i:Int):α:=if i=0 then x.a0 else if i=1 then x.a1 else if i=2 then x.a2 else if i=3 then x.a3 else if i=4 then x.a4 else if i=5 then x.a5 else if i=6 then x.a6 else if i=7 then x.a7 else if i=8 then x.a8 else if i=9 then x.a9 else if i=10 then x.a10 else if i=11 then x.a11 else if i=12 then x.a12 else if i=13 then x.a13 else if i=14 then x.a14 else x.a15
def A16.put{α:Type}(x:A16 α)(i:Int)(v:α):A16 α:=if i=0 then { x with a0:=v } else if i=1 then { x with a1:=v } else if i=2 then { x with a2:=v } else if i=3 then { x with a3:=v } else if i=4 then { x with a4:=v } else if i=5 then { x with a5:=v } else if i=6 then { x with a6:=v } else if i=7 then { x with a7:=v } else if i=8 then { x with a8:=v } else if i=9 then { x with a9:=v } else if i=10 then { x with a10:=v } else if i=11 then { x with a11:=v } else if i=12 then { x with a12:=v } else if i=13 then { x with a13:=v } else if i=14 then { x with a14:=v } else { x with a15:=v }
@[go_sem] theorem A16.get_0{α:Type}(x:A16 α):x.get 0=x.a0:=rfl
@[go_sem] theorem A16.put_0{α:Type}(x:A16 α)(v:α):x.put 0 v={ x with a0:=v }:=rfl
@[go_sem] theorem A16.get_1{α:Type}(x:A16 α):x.get 1=x.a1:=rfl
@[go_sem] theorem A16.put_1{α:Type}(x:A16 α)(v:α):x.put 1 v={ x with a1:=v }:=rfl
@[go_sem] theorem A16.get_2{α:Type}(x:A16 α):x.get 2=x.a2:=rfl
@[go_sem] theorem A16.put_2{α:Type}(x:A16 α)(v:α):x.put 2 v={ x with a2:=v }:=rfl
@[go_sem] theorem A16.get_3{α:Type}(x:A16 α):x.get 3=x.a3:=rfl
@[go_sem] theorem A16.put_3{α:Type}(x:A16 α)(v:α):x.put 3 v={ x with a3:=v }:=rfl
@[go_sem] theorem A16.get_4{α:Type}(x:A16 α):x.get 4=x.a4:=rfl
@[go_sem] theorem A16.put_4{α:Type}(x:A16 α)(v:α):x.put 4 v={ x with a4:=v }:=rfl
@[go_sem] theorem A16.get_5{α:Type}(x:A16 α):x.get 5=x.a5:=rfl
@[go_sem] theorem A16.put_5{α:Type}(x:A16 α)(v:α):x.put 5 v={ x with a5:=v }:=rfl
@[go_sem] theorem A16.get_6{α:Type}(x:A16 α):x.get 6=x.a6:=rfl
@[go_sem] theorem A16.put_6{α:Type}(x:A16 α)(v:α):x.put 6 v={ x with a6:=v }:=rfl
@[go_sem] theorem A16.get_7{α:Type}(x:A16 α):x.get 7=x.a7:=rfl
@[go_sem] theorem A16.put_7{α:Type}(x:A16 α)(v:α):x.put 7 v={ x with a7:=v }:=rfl
@[go_sem] theorem A16.get_8{α:Type}(x:A16 α):x.get 8=x.a8:=rfl
@[go_sem] theorem A16.put_8{α:Type}(x:A16 α)(v:α):x.put 8 v={ x with a8:=v }:=rfl
@[go_sem] theorem A16.get_9{α:Type}(x:A16 α):x.get 9=x.a9:=rfl
@[go_sem] theorem A16.put_9{α:Type}(x:A16 α)(v:α):x.put 9 v={ x with a9:=v }:=rfl
@[go_sem] theorem A16.get_10{α:Type}(x:A16 α):x.get 10=x.a10:=rfl
@[go_sem] theorem A16.put_10{α:Type}(x:A16 α)(v:α):x.put 10 v={ x with a10:=v }:=rfl
@[go_sem] theorem A16.get_11{α:Type}(x:A16 α):x.get 11=x.a11:=rfl
@[go_sem] theorem A16.put_11{α:Type}(x:A16 α)(v:α):x.put 11 v={ x with a11:=v }:=rfl
@[go_sem] theorem A16.get_12{α:Type}(x:A16 α):x.get 12=x.a12:=rfl
@[go_sem] theorem A16.put_12{α:Type}(x:A16 α)(v:α):x.put 12 v={ x with a12:=v }:=rfl
@[go_sem] theorem A16.get_13{α:Type}(x:A16 α):x.get 13=x.a13:=rfl
@[go_sem] theorem A16.put_13{α:Type}(x:A16 α)(v:α):x.put 13 v={ x with a13:=v }:=rfl
@[go_sem] theorem A16.get_14{α:Type}(x:A16 α):x.get 14=x.a14:=rfl
@[go_sem] theorem A16.put_14{α:Type}(x:A16 α)(v:α):x.put 14 v={ x with a14:=v }:=rfl
@[go_sem] theorem A16.get_15{α:Type}(x:A16 α):x.get 15=x.a15:=rfl
@[go_sem] theorem A16.put_15{α:Type}(x:A16 α)(v:α):x.put 15 v={ x with a15:=v }:=rfl
def bytesI(l:List Int):ByteArray:=⟨(l.map fun n=>UInt8.ofNat n.toNat).toArray⟩
@[go_sem] theorem rowsStr_map(l:List Int):rowsStr (l.map (eInt .u8))=some (bytesI l):=by
  have h:∀l:List Int,(l.map (eInt .u8)).mapM rowByte=some (l.map fun n=>UInt8.ofNat n.toNat):=by
    intro l
    induction l with
    | nil=>rfl
    | cons n l ih=>simp only [List.map_cons,List.mapM_cons,ih]; rfl
  unfold rowsStr; rw [h]; rfl
@[go_sem] theorem rowsStr_one(n:Int):rowsStr [[.int .u8 n]]=some (bytesI [n]):=rfl
@[go_sem] theorem rowsStr_two(n m:Int):rowsStr [[.int .u8 n],[.int .u8 m]]=some (bytesI [n,m]):=rfl
@[go_sem] theorem bC_ints(s:ByteArray):bC s=(intsB s).map (eInt .u8):=rfl
def onSum{α β γ:Type}(f:α → Option γ)(g:β → Option γ):α ⊕ β → Option γ | .inl a=>f a | .inr b=>g b
theorem of_inl{α β γ:Type}{f:α → Option γ}{g:β → Option γ}{a:α}{x:Option γ}(h:onSum f g (.inl a)=x):f a=x:=h
theorem of_inr{α β γ:Type}{f:α → Option γ}{g:β → Option γ}{b:β}{x:Option γ}(h:onSum f g (.inr b)=x):g b=x:=h
attribute [go_sem] List.all_append List.all_cons List.all_nil
@[go_sem] theorem all_set{α:Type}{p:α → Bool}{l:List α}{i:Nat}{a:α}(hl:l.all p=true)(ha:p a=true):(l.set i a).all p=true:=by
  rw [List.all_eq_true] at hl ⊢
  intro x hx
  rcases List.mem_or_eq_of_mem_set hx with h | h
  · exact hl x h
  · rw [h]; exact ha
structure T_api_Sym where
  mk ::
  Name:ByteArray
  Size:Int
  Init:(List Int)
  deriving Inhabited,DecidableEq
@[go_sem] def e_api_Sym(x:T_api_Sym):List AV:=[.str x.Name,.int .i64 x.Size,.sl (x.Init.map (eInt .i64))]
@[go_sem] theorem rows1e_api_Sym(l:List T_api_Sym):rows1 3 (l.map e_api_Sym)=true:=rows1_map (k:=3) (f:=e_api_Sym) (fun _=>⟨rfl,rfl⟩) l
@[go_sem] theorem puree_api_Sym(l:List T_api_Sym):(l.map e_api_Sym).all pureBs=true:=by simp only [List.all_map,List.all_eq_true]; intro x _; rfl
@[go_sem] theorem belowe_api_Sym(n:Nat)(l:List T_api_Sym):(l.map e_api_Sym).all (belowBs n)=true:=by simp only [List.all_map,List.all_eq_true]; intro x _; rfl
@[go_sem] theorem lene_api_Sym(l:List T_api_Sym):(l.map e_api_Sym).all (·.length==3)=true:=by simp only [List.all_map,List.all_eq_true]; intro x _; rfl
@[go_sem] theorem cle_api_Sym(l:List T_api_Sym):(l.map e_api_Sym).all clB=true:=cl_o (fun _ _=>rfl) l
@[go_sem] theorem rene_api_Sym{m:Nat → Nat}(l:List T_api_Sym):(l.map e_api_Sym).map (rens m)=l.map e_api_Sym:=ren_o (fun _=>rfl) l
@[go_sem] theorem frze_api_Sym(l:List T_api_Sym):frzR (l.map e_api_Sym)=l.map e_api_Sym:=frz_o (fun _=>rfl) l
@[go_sem] theorem oke_api_Sym(l:List T_api_Sym):okR (l.map e_api_Sym)=true:=ok_o (fun _=>rfl) l
structure T_api_Opd where
  mk ::
  Kind:Int
  Reg:Int
  Sym:Int
  N:Int
  deriving Inhabited,DecidableEq
@[go_sem] def e_api_Opd(x:T_api_Opd):List AV:=[.int .i64 x.Kind,.int .i64 x.Reg,.int .i64 x.Sym,.int .i64 x.N]
@[go_sem] theorem rows1e_api_Opd(l:List T_api_Opd):rows1 4 (l.map e_api_Opd)=true:=rows1_map (k:=4) (f:=e_api_Opd) (fun _=>⟨rfl,rfl⟩) l
@[go_sem] theorem puree_api_Opd(l:List T_api_Opd):(l.map e_api_Opd).all pureBs=true:=by simp only [List.all_map,List.all_eq_true]; intro x _; rfl
@[go_sem] theorem belowe_api_Opd(n:Nat)(l:List T_api_Opd):(l.map e_api_Opd).all (belowBs n)=true:=by simp only [List.all_map,List.all_eq_true]; intro x _; rfl
@[go_sem] theorem lene_api_Opd(l:List T_api_Opd):(l.map e_api_Opd).all (·.length==4)=true:=by simp only [List.all_map,List.all_eq_true]; intro x _; rfl
@[go_sem] theorem cle_api_Opd(l:List T_api_Opd):(l.map e_api_Opd).all clB=true:=cl_o (fun _ _=>rfl) l
@[go_sem] theorem rene_api_Opd{m:Nat → Nat}(l:List T_api_Opd):(l.map e_api_Opd).map (rens m)=l.map e_api_Opd:=ren_o (fun _=>rfl) l
@[go_sem] theorem frze_api_Opd(l:List T_api_Opd):frzR (l.map e_api_Opd)=l.map e_api_Opd:=frz_o (fun _=>rfl) l
@[go_sem] theorem oke_api_Opd(l:List T_api_Opd):okR (l.map e_api_Opd)=true:=ok_o (fun _=>rfl) l
structure T_api_Ins where
  mk ::
  Op:Int
  Lock:Bool
  Cond:Int
  A:T_api_Opd
  B:T_api_Opd
  To:ByteArray
  Labels:(List ByteArray)
  deriving Inhabited,DecidableEq
@[go_sem] def e_api_Ins(x:T_api_Ins):List AV:=[.int .i64 x.Op,.bool x.Lock,.int .i64 x.Cond,.int .i64 x.A.Kind,.int .i64 x.A.Reg,.int .i64 x.A.Sym,.int .i64 x.A.N,.int .i64 x.B.Kind,.int .i64 x.B.Reg,.int .i64 x.B.Sym,.int .i64 x.B.N,.str x.To,.sl (x.Labels.map eStr)]
@[go_sem] theorem rows1e_api_Ins(l:List T_api_Ins):rows1 13 (l.map e_api_Ins)=true:=rows1_map (k:=13) (f:=e_api_Ins) (fun _=>⟨rfl,rfl⟩) l
@[go_sem] theorem puree_api_Ins(l:List T_api_Ins):(l.map e_api_Ins).all pureBs=true:=by simp only [List.all_map,List.all_eq_true]; intro x _; rfl
@[go_sem] theorem belowe_api_Ins(n:Nat)(l:List T_api_Ins):(l.map e_api_Ins).all (belowBs n)=true:=by simp only [List.all_map,List.all_eq_true]; intro x _; rfl
@[go_sem] theorem lene_api_Ins(l:List T_api_Ins):(l.map e_api_Ins).all (·.length==13)=true:=by simp only [List.all_map,List.all_eq_true]; intro x _; rfl
@[go_sem] theorem cle_api_Ins(l:List T_api_Ins):(l.map e_api_Ins).all clB=true:=cl_o (fun _ _=>rfl) l
@[go_sem] theorem rene_api_Ins{m:Nat → Nat}(l:List T_api_Ins):(l.map e_api_Ins).map (rens m)=l.map e_api_Ins:=ren_o (fun _=>rfl) l
@[go_sem] theorem frze_api_Ins(l:List T_api_Ins):frzR (l.map e_api_Ins)=l.map e_api_Ins:=frz_o (fun _=>rfl) l
@[go_sem] theorem oke_api_Ins(l:List T_api_Ins):okR (l.map e_api_Ins)=true:=ok_o (fun _=>rfl) l
structure T_api_Thread where
  mk ::
  Ins:(List T_api_Ins)
  deriving Inhabited,DecidableEq
@[go_sem] def e_api_Thread(x:T_api_Thread):List AV:=[.sl (x.Ins.map e_api_Ins)]
@[go_sem] theorem rows1e_api_Thread(l:List T_api_Thread):rows1 1 (l.map e_api_Thread)=true:=rows1_map (k:=1) (f:=e_api_Thread) (fun _=>⟨rfl,rfl⟩) l
@[go_sem] theorem puree_api_Thread(l:List T_api_Thread):(l.map e_api_Thread).all pureBs=true:=by simp only [List.all_map,List.all_eq_true]; intro x _; rfl
@[go_sem] theorem belowe_api_Thread(n:Nat)(l:List T_api_Thread):(l.map e_api_Thread).all (belowBs n)=true:=by simp only [List.all_map,List.all_eq_true]; intro x _; rfl
@[go_sem] theorem lene_api_Thread(l:List T_api_Thread):(l.map e_api_Thread).all (·.length==1)=true:=by simp only [List.all_map,List.all_eq_true]; intro x _; rfl
@[go_sem] theorem cle_api_Thread(l:List T_api_Thread):(l.map e_api_Thread).all clB=true:=cl_o (fun _ _=>rfl) l
@[go_sem] theorem rene_api_Thread{m:Nat → Nat}(l:List T_api_Thread):(l.map e_api_Thread).map (rens m)=l.map e_api_Thread:=ren_o (fun _=>rfl) l
@[go_sem] theorem frze_api_Thread(l:List T_api_Thread):frzR (l.map e_api_Thread)=l.map e_api_Thread:=frz_o (fun _=>rfl) l
@[go_sem] theorem oke_api_Thread(l:List T_api_Thread):okR (l.map e_api_Thread)=true:=ok_o (fun _=>rfl) l
@[go_sem] def o_api_Thread(x:T_api_Thread):List AV:=[.boxsl (x.Ins.map e_api_Ins) 13 53]
@[go_sem] theorem belowo_api_Thread(n:Nat)(l:List T_api_Thread):(l.map o_api_Thread).all (belowBs n)=true:=below_o (fun _ _=>rfl) n l
@[go_sem] theorem clo_api_Thread(l:List T_api_Thread):(l.map o_api_Thread).all clB=true:=cl_o (fun _ _=>rfl) l
@[go_sem] theorem reno_api_Thread{m:Nat → Nat}(l:List T_api_Thread):(l.map o_api_Thread).map (rens m)=l.map o_api_Thread:=ren_o (fun _=>rfl) l
@[go_sem] theorem leno_api_Thread(l:List T_api_Thread):(l.map o_api_Thread).all (·.length==1)=true:=len_o (f:=o_api_Thread) (k:=1) (fun _=>rfl) l
@[go_sem] theorem frzo_api_Thread(l:List T_api_Thread):frzR (l.map o_api_Thread)=l.map e_api_Thread:=frz_o (fun x=>by simp only [o_api_Thread,e_api_Thread,frzL,frzC,go_sem]) l
@[go_sem] theorem oko_api_Thread(l:List T_api_Thread):okR (l.map o_api_Thread)=true:=ok_o (fun x=>by simp only [o_api_Thread,okL,okC,pureB,Bool.and_true,Bool.true_and,go_sem]) l
@[go_sem] theorem seto_api_Thread{l:List T_api_Thread}{i:Int}(h:InB i l.length):(l.map o_api_Thread).set i.toNat [.boxsl (((rd l i).Ins).map e_api_Ins) 13 53]=l.map o_api_Thread:=set_o h rfl
structure T_api_Prog where
  mk ::
  Syms:(List T_api_Sym)
  Threads:(List T_api_Thread)
  deriving Inhabited,DecidableEq
@[go_sem] def e_api_Prog(x:T_api_Prog):List AV:=[.sl (x.Syms.map e_api_Sym),.sl (x.Threads.map e_api_Thread)]
@[go_sem] theorem rows1e_api_Prog(l:List T_api_Prog):rows1 2 (l.map e_api_Prog)=true:=rows1_map (k:=2) (f:=e_api_Prog) (fun _=>⟨rfl,rfl⟩) l
@[go_sem] theorem puree_api_Prog(l:List T_api_Prog):(l.map e_api_Prog).all pureBs=true:=by simp only [List.all_map,List.all_eq_true]; intro x _; rfl
@[go_sem] theorem belowe_api_Prog(n:Nat)(l:List T_api_Prog):(l.map e_api_Prog).all (belowBs n)=true:=by simp only [List.all_map,List.all_eq_true]; intro x _; rfl
@[go_sem] theorem lene_api_Prog(l:List T_api_Prog):(l.map e_api_Prog).all (·.length==2)=true:=by simp only [List.all_map,List.all_eq_true]; intro x _; rfl
@[go_sem] theorem cle_api_Prog(l:List T_api_Prog):(l.map e_api_Prog).all clB=true:=cl_o (fun _ _=>rfl) l
@[go_sem] theorem rene_api_Prog{m:Nat → Nat}(l:List T_api_Prog):(l.map e_api_Prog).map (rens m)=l.map e_api_Prog:=ren_o (fun _=>rfl) l
@[go_sem] theorem frze_api_Prog(l:List T_api_Prog):frzR (l.map e_api_Prog)=l.map e_api_Prog:=frz_o (fun _=>rfl) l
@[go_sem] theorem oke_api_Prog(l:List T_api_Prog):okR (l.map e_api_Prog)=true:=ok_o (fun _=>rfl) l
@[go_sem] def o_api_Prog(x:T_api_Prog):List AV:=[.boxsl (x.Syms.map e_api_Sym) 3 43,.boxsl (x.Threads.map o_api_Thread) 1 49]
@[go_sem] theorem belowo_api_Prog(n:Nat)(l:List T_api_Prog):(l.map o_api_Prog).all (belowBs n)=true:=below_o (fun _ _=>rfl) n l
@[go_sem] theorem clo_api_Prog(l:List T_api_Prog):(l.map o_api_Prog).all clB=true:=cl_o (fun _ _=>rfl) l
@[go_sem] theorem reno_api_Prog{m:Nat → Nat}(l:List T_api_Prog):(l.map o_api_Prog).map (rens m)=l.map o_api_Prog:=ren_o (fun _=>rfl) l
@[go_sem] theorem leno_api_Prog(l:List T_api_Prog):(l.map o_api_Prog).all (·.length==2)=true:=len_o (f:=o_api_Prog) (k:=2) (fun _=>rfl) l
@[go_sem] theorem frzo_api_Prog(l:List T_api_Prog):frzR (l.map o_api_Prog)=l.map e_api_Prog:=frz_o (fun x=>by simp only [o_api_Prog,e_api_Prog,frzL,frzC,go_sem]) l
@[go_sem] theorem oko_api_Prog(l:List T_api_Prog):okR (l.map o_api_Prog)=true:=ok_o (fun x=>by simp only [o_api_Prog,okL,okC,pureB,Bool.and_true,Bool.true_and,go_sem]) l
@[go_sem] theorem seto_api_Prog{l:List T_api_Prog}{i:Int}(h:InB i l.length):(l.map o_api_Prog).set i.toNat [.boxsl (((rd l i).Syms).map e_api_Sym) 3 43,.boxsl (((rd l i).Threads).map o_api_Thread) 1 49]=l.map o_api_Prog:=set_o h rfl
structure T_api_Fault where
  mk ::
  Code:Int
  Line:Int
  Col:Int
  deriving Inhabited,DecidableEq
@[go_sem] def e_api_Fault(x:T_api_Fault):List AV:=[.int .i64 x.Code,.int .i64 x.Line,.int .i64 x.Col]
@[go_sem] theorem rows1e_api_Fault(l:List T_api_Fault):rows1 3 (l.map e_api_Fault)=true:=rows1_map (k:=3) (f:=e_api_Fault) (fun _=>⟨rfl,rfl⟩) l
@[go_sem] theorem puree_api_Fault(l:List T_api_Fault):(l.map e_api_Fault).all pureBs=true:=by simp only [List.all_map,List.all_eq_true]; intro x _; rfl
@[go_sem] theorem belowe_api_Fault(n:Nat)(l:List T_api_Fault):(l.map e_api_Fault).all (belowBs n)=true:=by simp only [List.all_map,List.all_eq_true]; intro x _; rfl
@[go_sem] theorem lene_api_Fault(l:List T_api_Fault):(l.map e_api_Fault).all (·.length==3)=true:=by simp only [List.all_map,List.all_eq_true]; intro x _; rfl
@[go_sem] theorem cle_api_Fault(l:List T_api_Fault):(l.map e_api_Fault).all clB=true:=cl_o (fun _ _=>rfl) l
@[go_sem] theorem rene_api_Fault{m:Nat → Nat}(l:List T_api_Fault):(l.map e_api_Fault).map (rens m)=l.map e_api_Fault:=ren_o (fun _=>rfl) l
@[go_sem] theorem frze_api_Fault(l:List T_api_Fault):frzR (l.map e_api_Fault)=l.map e_api_Fault:=frz_o (fun _=>rfl) l
@[go_sem] theorem oke_api_Fault(l:List T_api_Fault):okR (l.map e_api_Fault)=true:=ok_o (fun _=>rfl) l
structure T_palingbook_Act where
  mk ::
  Kind:Int
  A:Int
  B:Int
  C:Int
  N:Int
  deriving Inhabited,DecidableEq
@[go_sem] def e_palingbook_Act(x:T_palingbook_Act):List AV:=[.int .i64 x.Kind,.int .i64 x.A,.int .i64 x.B,.int .i64 x.C,.int .i64 x.N]
@[go_sem] theorem rows1e_palingbook_Act(l:List T_palingbook_Act):rows1 5 (l.map e_palingbook_Act)=true:=rows1_map (k:=5) (f:=e_palingbook_Act) (fun _=>⟨rfl,rfl⟩) l
@[go_sem] theorem puree_palingbook_Act(l:List T_palingbook_Act):(l.map e_palingbook_Act).all pureBs=true:=by simp only [List.all_map,List.all_eq_true]; intro x _; rfl
@[go_sem] theorem belowe_palingbook_Act(n:Nat)(l:List T_palingbook_Act):(l.map e_palingbook_Act).all (belowBs n)=true:=by simp only [List.all_map,List.all_eq_true]; intro x _; rfl
@[go_sem] theorem lene_palingbook_Act(l:List T_palingbook_Act):(l.map e_palingbook_Act).all (·.length==5)=true:=by simp only [List.all_map,List.all_eq_true]; intro x _; rfl
@[go_sem] theorem cle_palingbook_Act(l:List T_palingbook_Act):(l.map e_palingbook_Act).all clB=true:=cl_o (fun _ _=>rfl) l
@[go_sem] theorem rene_palingbook_Act{m:Nat → Nat}(l:List T_palingbook_Act):(l.map e_palingbook_Act).map (rens m)=l.map e_palingbook_Act:=ren_o (fun _=>rfl) l
@[go_sem] theorem frze_palingbook_Act(l:List T_palingbook_Act):frzR (l.map e_palingbook_Act)=l.map e_palingbook_Act:=frz_o (fun _=>rfl) l
@[go_sem] theorem oke_palingbook_Act(l:List T_palingbook_Act):okR (l.map e_palingbook_Act)=true:=ok_o (fun _=>rfl) l
structure T_glyph_Spot where
  mk ::
  Rune:Int
  At:Int
  Size:Int
  Line:Int
  Col:Int
  Bad:Bool
  deriving Inhabited,DecidableEq
@[go_sem] def e_glyph_Spot(x:T_glyph_Spot):List AV:=[.int .i32 x.Rune,.int .i64 x.At,.int .i64 x.Size,.int .i64 x.Line,.int .i64 x.Col,.bool x.Bad]
@[go_sem] theorem rows1e_glyph_Spot(l:List T_glyph_Spot):rows1 6 (l.map e_glyph_Spot)=true:=rows1_map (k:=6) (f:=e_glyph_Spot) (fun _=>⟨rfl,rfl⟩) l
@[go_sem] theorem puree_glyph_Spot(l:List T_glyph_Spot):(l.map e_glyph_Spot).all pureBs=true:=by simp only [List.all_map,List.all_eq_true]; intro x _; rfl
@[go_sem] theorem belowe_glyph_Spot(n:Nat)(l:List T_glyph_Spot):(l.map e_glyph_Spot).all (belowBs n)=true:=by simp only [List.all_map,List.all_eq_true]; intro x _; rfl
@[go_sem] theorem lene_glyph_Spot(l:List T_glyph_Spot):(l.map e_glyph_Spot).all (·.length==6)=true:=by simp only [List.all_map,List.all_eq_true]; intro x _; rfl
@[go_sem] theorem cle_glyph_Spot(l:List T_glyph_Spot):(l.map e_glyph_Spot).all clB=true:=cl_o (fun _ _=>rfl) l
@[go_sem] theorem rene_glyph_Spot{m:Nat → Nat}(l:List T_glyph_Spot):(l.map e_glyph_Spot).map (rens m)=l.map e_glyph_Spot:=ren_o (fun _=>rfl) l
@[go_sem] theorem frze_glyph_Spot(l:List T_glyph_Spot):frzR (l.map e_glyph_Spot)=l.map e_glyph_Spot:=frz_o (fun _=>rfl) l
@[go_sem] theorem oke_glyph_Spot(l:List T_glyph_Spot):okR (l.map e_glyph_Spot)=true:=ok_o (fun _=>rfl) l
structure T_api_Token where
  mk ::
  Kind:Int
  Line:Int
  Col:Int
  Text:ByteArray
  deriving Inhabited,DecidableEq
@[go_sem] def e_api_Token(x:T_api_Token):List AV:=[.int .i64 x.Kind,.int .i64 x.Line,.int .i64 x.Col,.str x.Text]
@[go_sem] theorem rows1e_api_Token(l:List T_api_Token):rows1 4 (l.map e_api_Token)=true:=rows1_map (k:=4) (f:=e_api_Token) (fun _=>⟨rfl,rfl⟩) l
@[go_sem] theorem puree_api_Token(l:List T_api_Token):(l.map e_api_Token).all pureBs=true:=by simp only [List.all_map,List.all_eq_true]; intro x _; rfl
@[go_sem] theorem belowe_api_Token(n:Nat)(l:List T_api_Token):(l.map e_api_Token).all (belowBs n)=true:=by simp only [List.all_map,List.all_eq_true]; intro x _; rfl
@[go_sem] theorem lene_api_Token(l:List T_api_Token):(l.map e_api_Token).all (·.length==4)=true:=by simp only [List.all_map,List.all_eq_true]; intro x _; rfl
@[go_sem] theorem cle_api_Token(l:List T_api_Token):(l.map e_api_Token).all clB=true:=cl_o (fun _ _=>rfl) l
@[go_sem] theorem rene_api_Token{m:Nat → Nat}(l:List T_api_Token):(l.map e_api_Token).map (rens m)=l.map e_api_Token:=ren_o (fun _=>rfl) l
@[go_sem] theorem frze_api_Token(l:List T_api_Token):frzR (l.map e_api_Token)=l.map e_api_Token:=frz_o (fun _=>rfl) l
@[go_sem] theorem oke_api_Token(l:List T_api_Token):okR (l.map e_api_Token)=true:=ok_o (fun _=>rfl) l
structure T_palingref1_Spot where
  mk ::
  Rune:Int
  At:Int
  Size:Int
  Line:Int
  Col:Int
  Bad:Bool
  deriving Inhabited,DecidableEq
@[go_sem] def e_palingref1_Spot(x:T_palingref1_Spot):List AV:=[.int .i32 x.Rune,.int .i64 x.At,.int .i64 x.Size,.int .i64 x.Line,.int .i64 x.Col,.bool x.Bad]
@[go_sem] theorem rows1e_palingref1_Spot(l:List T_palingref1_Spot):rows1 6 (l.map e_palingref1_Spot)=true:=rows1_map (k:=6) (f:=e_palingref1_Spot) (fun _=>⟨rfl,rfl⟩) l
@[go_sem] theorem puree_palingref1_Spot(l:List T_palingref1_Spot):(l.map e_palingref1_Spot).all pureBs=true:=by simp only [List.all_map,List.all_eq_true]; intro x _; rfl
@[go_sem] theorem belowe_palingref1_Spot(n:Nat)(l:List T_palingref1_Spot):(l.map e_palingref1_Spot).all (belowBs n)=true:=by simp only [List.all_map,List.all_eq_true]; intro x _; rfl
@[go_sem] theorem lene_palingref1_Spot(l:List T_palingref1_Spot):(l.map e_palingref1_Spot).all (·.length==6)=true:=by simp only [List.all_map,List.all_eq_true]; intro x _; rfl
@[go_sem] theorem cle_palingref1_Spot(l:List T_palingref1_Spot):(l.map e_palingref1_Spot).all clB=true:=cl_o (fun _ _=>rfl) l
@[go_sem] theorem rene_palingref1_Spot{m:Nat → Nat}(l:List T_palingref1_Spot):(l.map e_palingref1_Spot).map (rens m)=l.map e_palingref1_Spot:=ren_o (fun _=>rfl) l
@[go_sem] theorem frze_palingref1_Spot(l:List T_palingref1_Spot):frzR (l.map e_palingref1_Spot)=l.map e_palingref1_Spot:=frz_o (fun _=>rfl) l
@[go_sem] theorem oke_palingref1_Spot(l:List T_palingref1_Spot):okR (l.map e_palingref1_Spot)=true:=ok_o (fun _=>rfl) l
end Go.Vs
