import Derived.Test.YtocjejladeeckaaGreatDoorVu3
set_option linter.all false
namespace Go.Vs
@[go_sem, reducible] def zi (x : Int) : AV := .int .i64 x
@[go_sem, reducible] def zM {α : Type} (b w k : Nat) (l : List α) : AV := .msl b w 0 k l.length l.length
@[go_sem, reducible] def zw (x : Int) : Int := IntKind.wrap .i64 x
theorem zo {α : Type} {a b : α} (h : some a = some b) : a = b := Option.some.inj h
variable [Tab]
@[go_sem] def eInt (k : IntKind) (n : Int) : List AV := [.int k n]
@[go_sem] def eStr (s : ByteArray) : List AV := [.str s]
@[go_sem] def eSl {α : Type} (f : α -> List AV) (l : List α) : List AV := [.sl (l.map f)]
@[go_sem] theorem ztq {k : IntKind} (l : List Int) : (l.map (eInt k)).all clB = true := cl_o (fun _ _ => rfl) l
@[go_sem] theorem zrH {k : IntKind} (l : List Int) : frzR (l.map (eInt k)) = l.map (eInt k) := zkx (fun _ => rfl) l
@[go_sem] theorem ztf {k : IntKind} (l : List Int) : okR (l.map (eInt k)) = true := ok_o (fun _ => rfl) l
@[go_sem] theorem zp4 {k : IntKind} (n : Nat) (l : List Int) : (l.map (eInt k)).all (zbX n) = true := by simp only [List.all_map, List.all_eq_true]; intro x _; rfl
@[go_sem] theorem zqn {k : IntKind} (l : List Int) : (l.map (eInt k)).all zcH = true := by simp only [List.all_map, List.all_eq_true]; intro x _; rfl
@[go_sem] theorem zrr {m : Nat -> Nat} (l : List ByteArray) : (l.map eStr).map (rens m) = l.map eStr := zn3 (fun _ => rfl) l
@[go_sem] theorem ztp (l : List ByteArray) : (l.map eStr).all clB = true := cl_o (fun _ _ => rfl) l
@[go_sem] theorem zrG (l : List ByteArray) : frzR (l.map eStr) = l.map eStr := zkx (fun _ => rfl) l
@[go_sem] theorem zte (l : List ByteArray) : okR (l.map eStr) = true := ok_o (fun _ => rfl) l
@[go_sem] theorem zp3 (n : Nat) (l : List ByteArray) : (l.map eStr).all (zbX n) = true := by simp only [List.all_map, List.all_eq_true]; intro x _; rfl
@[go_sem] theorem zqm (l : List ByteArray) : (l.map eStr).all zcH = true := by simp only [List.all_map, List.all_eq_true]; intro x _; rfl
def zbU {α β γ : Type} (f : α -> Option γ) (g : β -> Option γ) : α ⊕ β -> Option γ | .inl a => f a | .inr b => g b
theorem zcC {α β γ : Type} {f : α -> Option γ} {g : β -> Option γ} {a : α} {x : Option γ} (h : zbU f g (.inl a) = x) : f a = x := h
theorem zcB {α β γ : Type} {f : α -> Option γ} {g : β -> Option γ} {b : β} {x : Option γ} (h : zbU f g (.inr b) = x) : g b = x := h
attribute [go_sem] List.all_append List.all_cons List.all_nil
@[go_sem] theorem ztu {α : Type} {p : α -> Bool} {l : List α} {i : Nat} {a : α} (hl : l.all p = true) (ha : p a = true) : (l.set i a).all p = true := by
 rw [List.all_eq_true] at hl ⊢
 intro x hx
 rcases List.mem_or_eq_of_mem_set hx with h | h
 ·exact hl x h
 ·rw [h]; exact ha
structure zan where
 mk ::
 Name : ByteArray
 Size : Int
 Init : (List Int)
 deriving Inhabited, DecidableEq
@[go_sem] def zau (x : zan) : List AV := [.str x.Name, .int .i64 x.Size, .sl (x.Init.map (eInt .i64))]
@[go_sem] theorem zoc (l : List zan) : (l.map zau).all zcH = true := by simp only [List.all_map, List.all_eq_true]; intro x _; rfl
@[go_sem] theorem znQ (n : Nat) (l : List zan) : (l.map zau).all (zbX n) = true := by simp only [List.all_map, List.all_eq_true]; intro x _; rfl
@[go_sem] theorem zpB (l : List zan) : (l.map zau).all clB = true := cl_o (fun _ _ => rfl) l
@[go_sem] theorem zoK {m : Nat -> Nat} (l : List zan) : (l.map zau).map (rens m) = l.map zau := zn3 (fun _ => rfl) l
@[go_sem] theorem zoT (l : List zan) : frzR (l.map zau) = l.map zau := zkx (fun _ => rfl) l
@[go_sem] theorem zpk (l : List zan) : okR (l.map zau) = true := ok_o (fun _ => rfl) l
structure zar where
 mk ::
 Kind : Int
 Reg : Int
 Sym : Int
 N : Int
 deriving Inhabited, DecidableEq
@[go_sem] def zg7 (x : zar) : List AV := [.int .i64 x.Kind, .int .i64 x.Reg, .int .i64 x.Sym, .int .i64 x.N]
structure zaj where
 mk ::
 Op : Int
 Lock : Bool
 Cond : Int
 A : zar
 B : zar
 To : ByteArray
 zLb : (List ByteArray)
 deriving Inhabited, DecidableEq
@[go_sem] def zat (x : zaj) : List AV := [.int .i64 x.Op, .bool x.Lock, .int .i64 x.Cond, .int .i64 x.A.Kind, .int .i64 x.A.Reg, .int .i64 x.A.Sym, .int .i64 x.A.N, .int .i64 x.B.Kind, .int .i64 x.B.Reg, .int .i64 x.B.Sym, .int .i64 x.B.N, .str x.To, .sl (x.zLb.map eStr)]
@[go_sem] theorem zod (l : List zaj) : (l.map zat).all zcH = true := by simp only [List.all_map, List.all_eq_true]; intro x _; rfl
@[go_sem] theorem znR (n : Nat) (l : List zaj) : (l.map zat).all (zbX n) = true := by simp only [List.all_map, List.all_eq_true]; intro x _; rfl
@[go_sem] theorem zpC (l : List zaj) : (l.map zat).all clB = true := cl_o (fun _ _ => rfl) l
@[go_sem] theorem zoU (l : List zaj) : frzR (l.map zat) = l.map zat := zkx (fun _ => rfl) l
@[go_sem] theorem zpl (l : List zaj) : okR (l.map zat) = true := ok_o (fun _ => rfl) l
structure zag where
 mk ::
 Ins : (List zaj)
 deriving Inhabited, DecidableEq
@[go_sem] def zaY (x : zag) : List AV := [.sl (x.Ins.map zat)]
@[go_sem] def zak (x : zag) : List AV := [.zBx (x.Ins.map zat) 13 63]
@[go_sem] theorem zmk (n : Nat) (l : List zag) : (l.map zak).all (zbX n) = true := zld (fun _ _ => rfl) n l
@[go_sem] theorem znP (l : List zag) : (l.map zak).all clB = true := cl_o (fun _ _ => rfl) l
@[go_sem] theorem zmL {m : Nat -> Nat} (l : List zag) : (l.map zak).map (rens m) = l.map zak := zn3 (fun _ => rfl) l
@[go_sem] theorem znu (l : List zag) : frzR (l.map zak) = l.map zaY := zkx (fun x => by simp only [zak, zaY, frzL, frzC, go_sem]) l
@[go_sem] theorem znJ (l : List zag) : okR (l.map zak) = true := ok_o (fun x => by simp only [zak, okL, okC, zdP, Bool.and_true, Bool.true_and, go_sem]) l
structure zaq where
 mk ::
 zSy : (List zan)
 zTh : (List zag)
 deriving Inhabited, DecidableEq
@[go_sem] def zaL (x : zaq) : List AV := [.sl (x.zSy.map zau), .sl (x.zTh.map zaY)]
structure zai where
 mk ::
 Code : Int
 Line : Int
 Col : Int
 deriving Inhabited, DecidableEq
@[go_sem] def za2 (x : zai) : List AV := [.int .i64 x.Code, .int .i64 x.Line, .int .i64 x.Col]
structure zaa where
 mk ::
 Kind : Int
 Line : Int
 Col : Int
 Text : ByteArray
 deriving Inhabited, DecidableEq
@[go_sem] def zad (x : zaa) : List AV := [.int .i64 x.Kind, .int .i64 x.Line, .int .i64 x.Col, .str x.Text]
@[go_sem] theorem zmZ (l : List zaa) : (l.map zad).all zcH = true := by simp only [List.all_map, List.all_eq_true]; intro x _; rfl
@[go_sem] theorem zmq (n : Nat) (l : List zaa) : (l.map zad).all (zbX n) = true := by simp only [List.all_map, List.all_eq_true]; intro x _; rfl
@[go_sem] theorem zoC (l : List zaa) : (l.map zad).all clB = true := cl_o (fun _ _ => rfl) l
@[go_sem] theorem znL (l : List zaa) : frzR (l.map zad) = l.map zad := zkx (fun _ => rfl) l
@[go_sem] theorem zof (l : List zaa) : okR (l.map zad) = true := ok_o (fun _ => rfl) l
@[go_sem] theorem ztN {l : List (List zaa)} {i : Int} (h : InB i l.length) : (l.map (oSl 4 41 zad)).set i.toNat [.zBx ((rd l i).map zad) 4 41] = l.map (oSl 4 41 zad) := zqg h rfl
structure zap where
 mk ::
 Rune : Int
 At : Int
 Size : Int
 Line : Int
 Col : Int
 Bad : Bool
 deriving Inhabited, DecidableEq
@[go_sem] def zae (x : zap) : List AV := [.int .i32 x.Rune, .int .i64 x.At, .int .i64 x.Size, .int .i64 x.Line, .int .i64 x.Col, .bool x.Bad]
@[go_sem] theorem zke (l : List zap) : (l.map zae).all zcH = true := by simp only [List.all_map, List.all_eq_true]; intro x _; rfl
@[go_sem] theorem zjT (n : Nat) (l : List zap) : (l.map zae).all (zbX n) = true := by simp only [List.all_map, List.all_eq_true]; intro x _; rfl
@[go_sem] theorem zkH (l : List zap) : frzR (l.map zae) = l.map zae := zkx (fun _ => rfl) l
@[go_sem] theorem zkU (l : List zap) : okR (l.map zae) = true := ok_o (fun _ => rfl) l
structure zav where
 mk ::
 head : zaa
 labels : (List (ByteArray × Bool))
 open_ : (List ByteArray)
 zFi : (List zaa)
 zTg : (List zaa)
 deriving Inhabited, DecidableEq
@[go_sem] def zah (x : zav) : List AV := [.int .i64 x.head.Kind, .int .i64 x.head.Line, .int .i64 x.head.Col, .str x.head.Text, .zBm (x.labels.map (eKV AV.str AV.bool)), .zBx (x.open_.map eStr) 1 9, .zBx (x.zFi.map zad) 4 41, .zBx (x.zTg.map zad) 4 41]
@[go_sem] theorem zmj (n : Nat) (l : List zav) : (l.map zah).all (zbX n) = true := zld (fun _ _ => rfl) n l
@[go_sem] theorem znO (l : List zav) : (l.map zah).all clB = true := cl_o (fun _ _ => rfl) l
@[go_sem] theorem zmK {m : Nat -> Nat} (l : List zav) : (l.map zah).map (rens m) = l.map zah := zn3 (fun _ => rfl) l
@[go_sem] theorem zmE {l : List zav} {i : Int} (h : InB i l.length) : (l.map zah).set i.toNat [.int .i64 ((rd l i).head.Kind), .int .i64 ((rd l i).head.Line), .int .i64 ((rd l i).head.Col), .str ((rd l i).head.Text), .zBm (((rd l i).labels).map (eKV AV.str AV.bool)), .zBx (((rd l i).open_).map eStr) 1 9, .zBx (((rd l i).zFi).map zad) 4 41, .zBx (((rd l i).zTg).map zad) 4 41] = l.map zah := zqg h rfl
structure zac where
 mk ::
 l : (List zaa)
 at_ : Int
 p : zaq
 b : (List zav)
 f : zai
 deriving Inhabited, DecidableEq
@[go_sem] def zaD (x : zac) : List AV := [.sl (x.l.map zad), .int .i64 x.at_, .zBx (x.p.zSy.map zau) 3 54, .zBx (x.p.zTh.map zak) 1 59, .zBx (x.b.map zah) 8 109, .int .i64 x.f.Code, .int .i64 x.f.Line, .int .i64 x.f.Col]
structure zab where
 mk ::
 T : (List zaa)
 I : Int
 P : zaq
 zHd : (List zaa)
 First : (List (List zaa))
 To : (List (List zaa))
 Left : (List Int)
 All : (List ByteArray)
 Wait : (List ByteArray)
 Bad : zai
 deriving Inhabited, DecidableEq
@[go_sem] def zal (x : zab) : List AV := [.sl (x.T.map zad), .int .i64 x.I, .zBx (x.P.zSy.map zau) 3 54, .zBx (x.P.zTh.map zak) 1 59, .zBx (x.zHd.map zad) 4 41, .zBx (x.First.map (oSl 4 41 zad)) 1 34, .zBx (x.To.map (oSl 4 41 zad)) 1 34, .zBx (x.Left.map (eInt .i64)) 1 3, .zBx (x.All.map eStr) 1 9, .zBx (x.Wait.map eStr) 1 9, .int .i64 x.Bad.Code, .int .i64 x.Bad.Line, .int .i64 x.Bad.Col]
structure zao where
 mk ::
 Rune : Int
 At : Int
 Size : Int
 Line : Int
 Col : Int
 Bad : Bool
 deriving Inhabited, DecidableEq
@[go_sem] def zaz (x : zao) : List AV := [.int .i32 x.Rune, .int .i64 x.At, .int .i64 x.Size, .int .i64 x.Line, .int .i64 x.Col, .bool x.Bad]
@[go_sem] theorem zmo (l : List zao) : (l.map zaz).all zcH = true := by simp only [List.all_map, List.all_eq_true]; intro x _; rfl
@[go_sem] theorem zml (n : Nat) (l : List zao) : (l.map zaz).all (zbX n) = true := by simp only [List.all_map, List.all_eq_true]; intro x _; rfl
@[go_sem] theorem znv (l : List zao) : frzR (l.map zaz) = l.map zaz := zkx (fun _ => rfl) l
@[go_sem] theorem znK (l : List zao) : okR (l.map zaz) = true := ok_o (fun _ => rfl) l
structure zfe where
 mk ::
 Reg : Int
 deriving Inhabited, DecidableEq
structure zff where
 mk ::
 N : Int
 deriving Inhabited, DecidableEq
structure zfN where
 mk ::
 Sym : Int
 N : Int
 deriving Inhabited, DecidableEq
structure zfM where
 mk ::
 Sym : Int
 Reg : Int
 deriving Inhabited, DecidableEq
inductive zcg where
 | nil
 | RegPart (x : zfe)
 | NumPart (x : zff)
 | AtPart (x : zfN)
 | ByPart (x : zfM)
 deriving Inhabited, DecidableEq
def zcT : zcg -> AV
 | .nil => .nili
 | .RegPart x => .iface 180 (.agg [.int .i64 x.Reg])
 | .NumPart x => .iface 185 (.agg [.int .i64 x.N])
 | .AtPart x => .iface 187 (.agg [.int .i64 x.Sym, .int .i64 x.N])
 | .ByPart x => .iface 189 (.agg [.int .i64 x.Sym, .int .i64 x.Reg])
@[go_sem] theorem zes : zcT .nil = .nili := rfl
@[go_sem] theorem zdE {x : zfe} : zcT (.RegPart x) = .iface 180 (.agg [.int .i64 x.Reg]) := rfl
@[go_sem] theorem zdF {x : zff} : zcT (.NumPart x) = .iface 185 (.agg [.int .i64 x.N]) := rfl
@[go_sem] theorem zdU {x : zfN} : zcT (.AtPart x) = .iface 187 (.agg [.int .i64 x.Sym, .int .i64 x.N]) := rfl
@[go_sem] theorem zdT {x : zfM} : zcT (.ByPart x) = .iface 189 (.agg [.int .i64 x.Sym, .int .i64 x.Reg]) := rfl
@[go_sem] theorem zmp {x : zcg} : zdP (zcT x) = true := by cases x <;> rfl
@[go_sem] theorem zmm {k : Nat} {x : zcg} : zbp k (zcT x) = true := by cases x <;> rfl
@[go_sem, reducible] def zbS (l : List zan) : AV := .zBx (l.map zau) 3 54
@[go_sem, reducible] def zbT (l : List zag) : AV := .zBx (l.map zak) 1 59
@[go_sem, reducible] def zbB (l : List zav) : AV := .zBx (l.map zah) 8 109
@[go_sem, reducible] def zbK (l : List zaa) : AV := .zBx (l.map zad) 4 41
@[go_sem, reducible] def zbL (l : List (List zaa)) : AV := .zBx (l.map (oSl 4 41 zad)) 1 34
@[go_sem, reducible] def zbI (l : List Int) : AV := .zBx (l.map (eInt .i64)) 1 3
@[go_sem, reducible] def zbW (l : List ByteArray) : AV := .zBx (l.map eStr) 1 9
@[go_sem, reducible] def zkc (l : List zaa) (a : Int) (s t b : AV) (c d e : Int) : LO := .cells [.sl (l.map zad), .int .i64 a, s, t, b, .int .i64 c, .int .i64 d, .int .i64 e] 0 82
@[go_sem, reducible] def zkb (x : zac) (a : Int) (s t b : AV) : LO := .cells [.sl (x.l.map zad), .int .i64 a, s, t, b, .int .i64 x.f.Code, .int .i64 x.f.Line, .int .i64 x.f.Col] 0 82
@[go_sem, reducible] def zka (x : zac) (a : Int) (b : AV) : LO := .cells [.sl (x.l.map zad), .int .i64 a, .zBx (x.p.zSy.map zau) 3 54, .zBx (x.p.zTh.map zak) 1 59, b, .int .i64 x.f.Code, .int .i64 x.f.Line, .int .i64 x.f.Col] 0 82
@[go_sem, reducible] def zqd (l : List zaa) (a : Int) (s t h f g u v w : AV) (c d e : Int) : LO := .cells [.sl (l.map zad), .int .i64 a, s, t, h, f, g, u, v, w, .int .i64 c, .int .i64 d, .int .i64 e] 0 90
@[go_sem, reducible] def zqc (x : zab) (a : Int) (s t h f g u v w : AV) : LO := .cells [.sl (x.T.map zad), .int .i64 a, s, t, h, f, g, u, v, w, .int .i64 x.Bad.Code, .int .i64 x.Bad.Line, .int .i64 x.Bad.Col] 0 90
@[go_sem, reducible] def zqb (x : zab) (a : Int) (s t w : AV) : LO := .cells [.sl (x.T.map zad), .int .i64 a, s, t, .zBx (x.zHd.map zad) 4 41, .zBx (x.First.map (oSl 4 41 zad)) 1 34, .zBx (x.To.map (oSl 4 41 zad)) 1 34, .zBx (x.Left.map (eInt .i64)) 1 3, .zBx (x.All.map eStr) 1 9, w, .int .i64 x.Bad.Code, .int .i64 x.Bad.Line, .int .i64 x.Bad.Col] 0 90
@[go_sem, reducible] def zqa (x : zab) (a : Int) (w : AV) : LO := .cells [.sl (x.T.map zad), .int .i64 a, .zBx (x.P.zSy.map zau) 3 54, .zBx (x.P.zTh.map zak) 1 59, .zBx (x.zHd.map zad) 4 41, .zBx (x.First.map (oSl 4 41 zad)) 1 34, .zBx (x.To.map (oSl 4 41 zad)) 1 34, .zBx (x.Left.map (eInt .i64)) 1 3, .zBx (x.All.map eStr) 1 9, w, .int .i64 x.Bad.Code, .int .i64 x.Bad.Line, .int .i64 x.Bad.Col] 0 90
@[go_sem, reducible] def zqT (x : zaa) : AV := .agg [.int .i64 x.Kind, .int .i64 x.Line, .int .i64 x.Col, .str x.Text]
theorem W.sqh {P : Program} {N n0 : Nat} {id} {l : List Oper} {y s h Q k} (F : List Nat) (s1 : zaE) (hy : WK P N n0 y Q s1 h) (hN : zeo N l.toArray = true := by rfl)
  (hrun : RunE P l.toArray (fun s h0 => AT n0 ⟨F, []⟩ s1 h s h0) l s h (held _) := by exact RO) : W P N n0 (.seq (.region id l.toArray false) y) Q s h k := W.sq F s1 h hy hN hrun
theorem W.wk {P : Program} {N n0 : Nat} {c s h Q k} (F : Gs) (s1 : zaE) (h1 : Hp) (hy : WK P N n0 c Q s1 h1) (hw : AT n0 F s1 h1 s h := by exact RO) : W P N n0 c Q s h k := W.weak F hw hy
end Go.Vs
