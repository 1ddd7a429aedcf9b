import Derived.Test.YtocjejladeeckaaGreatDoorVu3
set_option linter.all false
namespace Go.Vs
@[go_sem, reducible] def zi (x : Int) : AV := .int .i64 x
@[go_sem, reducible] def zM {α : Type} (b w k : Nat) (l : List α) : AV := .msl b w 0 k l.length l.length
@[go_sem, reducible] def zw (x : Int) : Int := IntKind.wrap .i64 x
theorem zo {α : Type} {a b : α} (h : some a = some b) : a = b := Option.some.inj h
variable [Tab]
@[go_sem] def eInt (k : IntKind) (n : Int) : List AV := [.int k n]
@[go_sem] def eStr (s : ByteArray) : List AV := [.str s]
@[go_sem] theorem zs4 {k : IntKind} (l : List Int) : (l.map (eInt k)).all clB = true := cl_o (fun _ _ => rfl) l
@[go_sem] theorem zrr {k : IntKind} (l : List Int) : frzR (l.map (eInt k)) = l.map (eInt k) := zkq (fun _ => rfl) l
@[go_sem] theorem zsU {k : IntKind} (l : List Int) : okR (l.map (eInt k)) = true := ok_o (fun _ => rfl) l
@[go_sem] theorem zpM {k : IntKind} (n : Nat) (l : List Int) : (l.map (eInt k)).all (zb2 n) = true := by simp only [List.all_map, List.all_eq_true]; intro x _; rfl
@[go_sem] theorem zp2 {k : IntKind} (l : List Int) : (l.map (eInt k)).all zcI = true := by simp only [List.all_map, List.all_eq_true]; intro x _; rfl
@[go_sem] theorem zrc {m : Nat -> Nat} (l : List ByteArray) : (l.map eStr).map (rens m) = l.map eStr := znP (fun _ => rfl) l
@[go_sem] theorem zs3 (l : List ByteArray) : (l.map eStr).all clB = true := cl_o (fun _ _ => rfl) l
@[go_sem] theorem zrq (l : List ByteArray) : frzR (l.map eStr) = l.map eStr := zkq (fun _ => rfl) l
@[go_sem] theorem zsT (l : List ByteArray) : okR (l.map eStr) = true := ok_o (fun _ => rfl) l
@[go_sem] theorem zpL (n : Nat) (l : List ByteArray) : (l.map eStr).all (zb2 n) = true := by simp only [List.all_map, List.all_eq_true]; intro x _; rfl
@[go_sem] theorem zp1 (l : List ByteArray) : (l.map eStr).all zcI = true := by simp only [List.all_map, List.all_eq_true]; intro x _; rfl
def zbU {α β γ : Type} (f : α -> Option γ) (g : β -> Option γ) : α ⊕ β -> Option γ | .inl a => f a | .inr b => g b
theorem zcC {α β γ : Type} {f : α -> Option γ} {g : β -> Option γ} {a : α} {x : Option γ} (h : zbU f g (.inl a) = x) : f a = x := h
theorem zcB {α β γ : Type} {f : α -> Option γ} {g : β -> Option γ} {b : β} {x : Option γ} (h : zbU f g (.inr b) = x) : g b = x := h
attribute [go_sem] List.all_append List.all_cons List.all_nil
@[go_sem] theorem zs8 {α : Type} {p : α -> Bool} {l : List α} {i : Nat} {a : α} (hl : l.all p = true) (ha : p a = true) : (l.set i a).all p = true := by
 rw [List.all_eq_true] at hl ⊢
 intro x hx
 rcases List.mem_or_eq_of_mem_set hx with h | h
 ·exact hl x h
 ·rw [h]; exact ha
structure zaq where
 mk ::
 Name : ByteArray
 Size : Int
 Init : (List Int)
 deriving Inhabited, DecidableEq
@[go_sem] def zas (x : zaq) : List AV := [.str x.Name, .int .i64 x.Size, .sl (x.Init.map (eInt .i64))]
@[go_sem] theorem znY (l : List zaq) : (l.map zas).all zcI = true := by simp only [List.all_map, List.all_eq_true]; intro x _; rfl
@[go_sem] theorem znD (n : Nat) (l : List zaq) : (l.map zas).all (zb2 n) = true := by simp only [List.all_map, List.all_eq_true]; intro x _; rfl
@[go_sem] theorem zpk (l : List zaq) : (l.map zas).all clB = true := cl_o (fun _ _ => rfl) l
@[go_sem] theorem zox {m : Nat -> Nat} (l : List zaq) : (l.map zas).map (rens m) = l.map zas := znP (fun _ => rfl) l
@[go_sem] theorem zoG (l : List zaq) : frzR (l.map zas) = l.map zas := zkq (fun _ => rfl) l
@[go_sem] theorem zo4 (l : List zaq) : okR (l.map zas) = true := ok_o (fun _ => rfl) l
structure zau where
 mk ::
 Kind : Int
 Reg : Int
 Sym : Int
 N : Int
 deriving Inhabited, DecidableEq
@[go_sem] def za5 (x : zau) : List AV := [.int .i64 x.Kind, .int .i64 x.Reg, .int .i64 x.Sym, .int .i64 x.N]
structure zap where
 mk ::
 Op : Int
 Lock : Bool
 Cond : Int
 A : zau
 B : zau
 To : ByteArray
 zLb : (List ByteArray)
 deriving Inhabited, DecidableEq
@[go_sem] def zan (x : zap) : List AV := [.int .i64 x.Op, .bool x.Lock, .int .i64 x.Cond, .int .i64 x.A.Kind, .int .i64 x.A.Reg, .int .i64 x.A.Sym, .int .i64 x.A.N, .int .i64 x.B.Kind, .int .i64 x.B.Reg, .int .i64 x.B.Sym, .int .i64 x.B.N, .str x.To, .sl (x.zLb.map eStr)]
@[go_sem] theorem znZ (l : List zap) : (l.map zan).all zcI = true := by simp only [List.all_map, List.all_eq_true]; intro x _; rfl
@[go_sem] theorem znE (n : Nat) (l : List zap) : (l.map zan).all (zb2 n) = true := by simp only [List.all_map, List.all_eq_true]; intro x _; rfl
@[go_sem] theorem zpl (l : List zap) : (l.map zan).all clB = true := cl_o (fun _ _ => rfl) l
@[go_sem] theorem zoH (l : List zap) : frzR (l.map zan) = l.map zan := zkq (fun _ => rfl) l
@[go_sem] theorem zo5 (l : List zap) : okR (l.map zan) = true := ok_o (fun _ => rfl) l
structure zai where
 mk ::
 Ins : (List zap)
 deriving Inhabited, DecidableEq
@[go_sem] def zaT (x : zai) : List AV := [.sl (x.Ins.map zan)]
@[go_sem] def zaj (x : zai) : List AV := [.zBx (x.Ins.map zan) 13 63]
@[go_sem] theorem zmb (n : Nat) (l : List zai) : (l.map zaj).all (zb2 n) = true := zk5 (fun _ _ => rfl) n l
@[go_sem] theorem znC (l : List zai) : (l.map zaj).all clB = true := cl_o (fun _ _ => rfl) l
@[go_sem] theorem zmB {m : Nat -> Nat} (l : List zai) : (l.map zaj).map (rens m) = l.map zaj := znP (fun _ => rfl) l
@[go_sem] theorem znh (l : List zai) : frzR (l.map zaj) = l.map zaT := zkq (fun x => by simp only [zaj, zaT, frzL, frzC, go_sem]) l
@[go_sem] theorem znw (l : List zai) : okR (l.map zaj) = true := ok_o (fun x => by simp only [zaj, okL, okC, zdN, Bool.and_true, Bool.true_and, go_sem]) l
structure zat where
 mk ::
 zSy : (List zaq)
 zTh : (List zai)
 deriving Inhabited, DecidableEq
@[go_sem] def zaG (x : zat) : List AV := [.sl (x.zSy.map zas), .sl (x.zTh.map zaT)]
structure zao where
 mk ::
 Code : Int
 Line : Int
 Col : Int
 deriving Inhabited, DecidableEq
@[go_sem] def zaH (x : zao) : List AV := [.int .i64 x.Code, .int .i64 x.Line, .int .i64 x.Col]
structure zad where
 mk ::
 Kind : Int
 Line : Int
 Col : Int
 Text : ByteArray
 deriving Inhabited, DecidableEq
@[go_sem] def zab (x : zad) : List AV := [.int .i64 x.Kind, .int .i64 x.Line, .int .i64 x.Col, .str x.Text]
@[go_sem] theorem zmN (l : List zad) : (l.map zab).all zcI = true := by simp only [List.all_map, List.all_eq_true]; intro x _; rfl
@[go_sem] theorem zmh (n : Nat) (l : List zad) : (l.map zab).all (zb2 n) = true := by simp only [List.all_map, List.all_eq_true]; intro x _; rfl
@[go_sem] theorem zop (l : List zad) : (l.map zab).all clB = true := cl_o (fun _ _ => rfl) l
@[go_sem] theorem zny (l : List zad) : frzR (l.map zab) = l.map zab := zkq (fun _ => rfl) l
@[go_sem] theorem zn1 (l : List zad) : okR (l.map zab) = true := ok_o (fun _ => rfl) l
@[go_sem] theorem ztu {l : List (List zad)} {i : Int} (h : InB i l.length) : (l.map (oSl 4 41 zab)).set i.toNat [.zBx ((rd l i).map zab) 4 41] = l.map (oSl 4 41 zab) := zpV h rfl
structure zax where
 mk ::
 Rune : Int
 At : Int
 Size : Int
 Line : Int
 Col : Int
 Bad : Bool
 deriving Inhabited, DecidableEq
@[go_sem] def zag (x : zax) : List AV := [.int .i32 x.Rune, .int .i64 x.At, .int .i64 x.Size, .int .i64 x.Line, .int .i64 x.Col, .bool x.Bad]
@[go_sem] theorem zj4 (l : List zax) : (l.map zag).all zcI = true := by simp only [List.all_map, List.all_eq_true]; intro x _; rfl
@[go_sem] theorem zjL (n : Nat) (l : List zax) : (l.map zag).all (zb2 n) = true := by simp only [List.all_map, List.all_eq_true]; intro x _; rfl
@[go_sem] theorem zkA (l : List zax) : frzR (l.map zag) = l.map zag := zkq (fun _ => rfl) l
@[go_sem] theorem zkM (l : List zax) : okR (l.map zag) = true := ok_o (fun _ => rfl) l
structure zay where
 mk ::
 head : zad
 labels : (List (ByteArray × Bool))
 open_ : (List ByteArray)
 zFi : (List zad)
 zTg : (List zad)
 deriving Inhabited, DecidableEq
@[go_sem] def zac (x : zay) : List AV := [.int .i64 x.head.Kind, .int .i64 x.head.Line, .int .i64 x.head.Col, .str x.head.Text, .zBm (x.labels.map (eKV AV.str AV.bool)), .zBx (x.open_.map eStr) 1 9, .zBx (x.zFi.map zab) 4 41, .zBx (x.zTg.map zab) 4 41]
@[go_sem] theorem zma (n : Nat) (l : List zay) : (l.map zac).all (zb2 n) = true := zk5 (fun _ _ => rfl) n l
@[go_sem] theorem znB (l : List zay) : (l.map zac).all clB = true := cl_o (fun _ _ => rfl) l
@[go_sem] theorem zmA {m : Nat -> Nat} (l : List zay) : (l.map zac).map (rens m) = l.map zac := znP (fun _ => rfl) l
@[go_sem] theorem zmu {l : List zay} {i : Int} (h : InB i l.length) : (l.map zac).set i.toNat [.int .i64 ((rd l i).head.Kind), .int .i64 ((rd l i).head.Line), .int .i64 ((rd l i).head.Col), .str ((rd l i).head.Text), .zBm (((rd l i).labels).map (eKV AV.str AV.bool)), .zBx (((rd l i).open_).map eStr) 1 9, .zBx (((rd l i).zFi).map zab) 4 41, .zBx (((rd l i).zTg).map zab) 4 41] = l.map zac := zpV h rfl
structure zae where
 mk ::
 l : (List zad)
 at_ : Int
 p : zat
 b : (List zay)
 f : zao
 deriving Inhabited, DecidableEq
@[go_sem] def zah (x : zae) : List AV := [.sl (x.l.map zab), .int .i64 x.at_, .zBx (x.p.zSy.map zas) 3 54, .zBx (x.p.zTh.map zaj) 1 59, .zBx (x.b.map zac) 8 109, .int .i64 x.f.Code, .int .i64 x.f.Line, .int .i64 x.f.Col]
structure zaa where
 mk ::
 T : (List zad)
 I : Int
 P : zat
 zHd : (List zad)
 First : (List (List zad))
 To : (List (List zad))
 Left : (List Int)
 All : (List ByteArray)
 Wait : (List ByteArray)
 Bad : zao
 deriving Inhabited, DecidableEq
@[go_sem] def zaf (x : zaa) : List AV := [.sl (x.T.map zab), .int .i64 x.I, .zBx (x.P.zSy.map zas) 3 54, .zBx (x.P.zTh.map zaj) 1 59, .zBx (x.zHd.map zab) 4 41, .zBx (x.First.map (oSl 4 41 zab)) 1 34, .zBx (x.To.map (oSl 4 41 zab)) 1 34, .zBx (x.Left.map (eInt .i64)) 1 3, .zBx (x.All.map eStr) 1 9, .zBx (x.Wait.map eStr) 1 9, .int .i64 x.Bad.Code, .int .i64 x.Bad.Line, .int .i64 x.Bad.Col]
structure zaw where
 mk ::
 Rune : Int
 At : Int
 Size : Int
 Line : Int
 Col : Int
 Bad : Bool
 deriving Inhabited, DecidableEq
@[go_sem] def zar (x : zaw) : List AV := [.int .i32 x.Rune, .int .i64 x.At, .int .i64 x.Size, .int .i64 x.Line, .int .i64 x.Col, .bool x.Bad]
@[go_sem] theorem zmf (l : List zaw) : (l.map zar).all zcI = true := by simp only [List.all_map, List.all_eq_true]; intro x _; rfl
@[go_sem] theorem zmc (n : Nat) (l : List zaw) : (l.map zar).all (zb2 n) = true := by simp only [List.all_map, List.all_eq_true]; intro x _; rfl
@[go_sem] theorem zni (l : List zaw) : frzR (l.map zar) = l.map zar := zkq (fun _ => rfl) l
@[go_sem] theorem znx (l : List zaw) : okR (l.map zar) = true := ok_o (fun _ => rfl) l
structure zfe where
 mk ::
 Reg : Int
 deriving Inhabited, DecidableEq
structure zff where
 mk ::
 N : Int
 deriving Inhabited, DecidableEq
structure zes where
 mk ::
 Sym : Int
 N : Int
 deriving Inhabited, DecidableEq
@[go_sem] def zjG (x : zes) : List AV := [.int .i64 x.Sym, .int .i64 x.N]
structure zer where
 mk ::
 Sym : Int
 Reg : Int
 deriving Inhabited, DecidableEq
@[go_sem] def zjF (x : zer) : List AV := [.int .i64 x.Sym, .int .i64 x.Reg]
inductive zch where
 | nil
 | RegPart (x : zfe)
 | NumPart (x : zff)
 | AtPart (x : zes)
 | ByPart (x : zer)
 deriving Inhabited, DecidableEq
def zbj : zch -> AV
 | .nil => .nili
 | .RegPart x => .iface 180 (.agg [.int .i64 x.Reg])
 | .NumPart x => .iface 185 (.agg [.int .i64 x.N])
 | .AtPart x => .iface 187 (.agg [.int .i64 x.Sym, .int .i64 x.N])
 | .ByPart x => .iface 189 (.agg [.int .i64 x.Sym, .int .i64 x.Reg])
@[go_sem] theorem zeq : zbj .nil = .nili := rfl
@[go_sem] theorem zdC {x : zfe} : zbj (.RegPart x) = .iface 180 (.agg [.int .i64 x.Reg]) := rfl
@[go_sem] theorem zdD {x : zff} : zbj (.NumPart x) = .iface 185 (.agg [.int .i64 x.N]) := rfl
@[go_sem] theorem zdS {x : zes} : zbj (.AtPart x) = .iface 187 (.agg [.int .i64 x.Sym, .int .i64 x.N]) := rfl
@[go_sem] theorem zdR {x : zer} : zbj (.ByPart x) = .iface 189 (.agg [.int .i64 x.Sym, .int .i64 x.Reg]) := rfl
@[go_sem] theorem zmg {x : zch} : zdN (zbj x) = true := by cases x <;> rfl
@[go_sem] theorem zmd {k : Nat} {x : zch} : zbr k (zbj x) = true := by cases x <;> rfl
@[go_sem, reducible] def zbS (l : List zaq) : AV := .zBx (l.map zas) 3 54
@[go_sem, reducible] def zbT (l : List zai) : AV := .zBx (l.map zaj) 1 59
@[go_sem, reducible] def zbB (l : List zay) : AV := .zBx (l.map zac) 8 109
@[go_sem, reducible] def zbK (l : List zad) : AV := .zBx (l.map zab) 4 41
@[go_sem, reducible] def zbL (l : List (List zad)) : AV := .zBx (l.map (oSl 4 41 zab)) 1 34
@[go_sem, reducible] def zbI (l : List Int) : AV := .zBx (l.map (eInt .i64)) 1 3
@[go_sem, reducible] def zbW (l : List ByteArray) : AV := .zBx (l.map eStr) 1 9
@[go_sem, reducible] def zkc (l : List zad) (a : Int) (s t b : AV) (c d e : Int) : LO := .cells [.sl (l.map zab), .int .i64 a, s, t, b, .int .i64 c, .int .i64 d, .int .i64 e] 0 82
@[go_sem, reducible] def zkb (x : zae) (a : Int) (s t b : AV) : LO := .cells [.sl (x.l.map zab), .int .i64 a, s, t, b, .int .i64 x.f.Code, .int .i64 x.f.Line, .int .i64 x.f.Col] 0 82
@[go_sem, reducible] def zka (x : zae) (a : Int) (b : AV) : LO := .cells [.sl (x.l.map zab), .int .i64 a, .zBx (x.p.zSy.map zas) 3 54, .zBx (x.p.zTh.map zaj) 1 59, b, .int .i64 x.f.Code, .int .i64 x.f.Line, .int .i64 x.f.Col] 0 82
@[go_sem, reducible] def zqd (l : List zad) (a : Int) (s t h f g u v w : AV) (c d e : Int) : LO := .cells [.sl (l.map zab), .int .i64 a, s, t, h, f, g, u, v, w, .int .i64 c, .int .i64 d, .int .i64 e] 0 90
@[go_sem, reducible] def zqc (x : zaa) (a : Int) (s t h f g u v w : AV) : LO := .cells [.sl (x.T.map zab), .int .i64 a, s, t, h, f, g, u, v, w, .int .i64 x.Bad.Code, .int .i64 x.Bad.Line, .int .i64 x.Bad.Col] 0 90
@[go_sem, reducible] def zqb (x : zaa) (a : Int) (s t w : AV) : LO := .cells [.sl (x.T.map zab), .int .i64 a, s, t, .zBx (x.zHd.map zab) 4 41, .zBx (x.First.map (oSl 4 41 zab)) 1 34, .zBx (x.To.map (oSl 4 41 zab)) 1 34, .zBx (x.Left.map (eInt .i64)) 1 3, .zBx (x.All.map eStr) 1 9, w, .int .i64 x.Bad.Code, .int .i64 x.Bad.Line, .int .i64 x.Bad.Col] 0 90
@[go_sem, reducible] def zqa (x : zaa) (a : Int) (w : AV) : LO := .cells [.sl (x.T.map zab), .int .i64 a, .zBx (x.P.zSy.map zas) 3 54, .zBx (x.P.zTh.map zaj) 1 59, .zBx (x.zHd.map zab) 4 41, .zBx (x.First.map (oSl 4 41 zab)) 1 34, .zBx (x.To.map (oSl 4 41 zab)) 1 34, .zBx (x.Left.map (eInt .i64)) 1 3, .zBx (x.All.map eStr) 1 9, w, .int .i64 x.Bad.Code, .int .i64 x.Bad.Line, .int .i64 x.Bad.Col] 0 90
@[go_sem, reducible] def zqT (x : zad) : AV := .agg [.int .i64 x.Kind, .int .i64 x.Line, .int .i64 x.Col, .str x.Text]
theorem W.sqh {P : Program} {N n0 : Nat} {id} {l : List Oper} {y s h Q k} (F : List Nat) (s1 : zaK) (hy : WK P N n0 y Q s1 h) (hN : zeQ N l.toArray = true := by rfl)
  (hrun : RunE P l.toArray (fun s h0 => AT n0 ⟨F, []⟩ s1 h s h0) l s h (held _) := by exact RO) : W P N n0 (.seq (.region id l.toArray false) y) Q s h k := W.sq F s1 h hy hN hrun
theorem W.wk {P : Program} {N n0 : Nat} {c s h Q k} (F : Gs) (s1 : zaK) (h1 : Hp) (hy : WK P N n0 c Q s1 h1) (hw : AT n0 F s1 h1 s h := by exact RO) : W P N n0 c Q s h k := W.weak F hw hy
end Go.Vs
