import Derived.Test.YtocjejladeeckaaDoorVu3
set_option linter.unusedVariables false
set_option linter.unusedSimpArgs false
set_option linter.unusedSectionVars false
namespace Go.Vs
variable [Tab]
@[go_sem] def eInt (k : IntKind) (n : Int) : List AV := [.int k n]
@[go_sem] def eBool (b : Bool) : List AV := [.bool b]
@[go_sem] def eStr (s : ByteArray) : List AV := [.str s]
@[go_sem] def eSl {α : Type} (f : α → List AV) (l : List α) : List AV := [.sl (l.map f)]
@[go_sem] theorem rows1_eInt {k : IntKind} (l : List Int) : rows1 1 (l.map (eInt k)) = true := rows1_map (k := 1) (f := (eInt k)) (fun _ => ⟨rfl, rfl⟩) l
@[go_sem] theorem ren_eInt {k : IntKind} {m : Nat → Nat} (l : List Int) : (l.map (eInt k)).map (rens m) = l.map (eInt k) := ren_o (fun _ => rfl) l
@[go_sem] theorem cl_eInt {k : IntKind} (l : List Int) : (l.map (eInt k)).all clB = true := cl_o (fun _ _ => rfl) l
@[go_sem] theorem frz_eInt {k : IntKind} (l : List Int) : frzR (l.map (eInt k)) = l.map (eInt k) := frz_o (fun _ => rfl) l
@[go_sem] theorem ok_eInt {k : IntKind} (l : List Int) : okR (l.map (eInt k)) = true := ok_o (fun _ => rfl) l
@[go_sem] theorem below_eInt {k : IntKind} (n : Nat) (l : List Int) : (l.map (eInt k)).all (belowBs n) = true := by simp only [List.all_map, List.all_eq_true]; intro x _; rfl
@[go_sem] theorem len_eInt {k : IntKind} (l : List Int) : (l.map (eInt k)).all (·.length == 1) = true := by simp only [List.all_map, List.all_eq_true]; intro x _; rfl
@[go_sem] theorem pure_eInt {k : IntKind} (l : List Int) : (l.map (eInt k)).all pureBs = true := by simp only [List.all_map, List.all_eq_true]; intro x _; rfl
@[go_sem] theorem rows1_eBool (l : List Bool) : rows1 1 (l.map eBool) = true := rows1_map (k := 1) (f := eBool) (fun _ => ⟨rfl, rfl⟩) l
@[go_sem] theorem ren_eBool {m : Nat → Nat} (l : List Bool) : (l.map eBool).map (rens m) = l.map eBool := ren_o (fun _ => rfl) l
@[go_sem] theorem cl_eBool (l : List Bool) : (l.map eBool).all clB = true := cl_o (fun _ _ => rfl) l
@[go_sem] theorem frz_eBool (l : List Bool) : frzR (l.map eBool) = l.map eBool := frz_o (fun _ => rfl) l
@[go_sem] theorem ok_eBool (l : List Bool) : okR (l.map eBool) = true := ok_o (fun _ => rfl) l
@[go_sem] theorem below_eBool (n : Nat) (l : List Bool) : (l.map eBool).all (belowBs n) = true := by simp only [List.all_map, List.all_eq_true]; intro x _; rfl
@[go_sem] theorem len_eBool (l : List Bool) : (l.map eBool).all (·.length == 1) = true := by simp only [List.all_map, List.all_eq_true]; intro x _; rfl
@[go_sem] theorem pure_eBool (l : List Bool) : (l.map eBool).all pureBs = true := by simp only [List.all_map, List.all_eq_true]; intro x _; rfl
@[go_sem] theorem rows1_eStr (l : List ByteArray) : rows1 1 (l.map eStr) = true := rows1_map (k := 1) (f := eStr) (fun _ => ⟨rfl, rfl⟩) l
@[go_sem] theorem ren_eStr {m : Nat → Nat} (l : List ByteArray) : (l.map eStr).map (rens m) = l.map eStr := ren_o (fun _ => rfl) l
@[go_sem] theorem cl_eStr (l : List ByteArray) : (l.map eStr).all clB = true := cl_o (fun _ _ => rfl) l
@[go_sem] theorem frz_eStr (l : List ByteArray) : frzR (l.map eStr) = l.map eStr := frz_o (fun _ => rfl) l
@[go_sem] theorem ok_eStr (l : List ByteArray) : okR (l.map eStr) = true := ok_o (fun _ => rfl) l
@[go_sem] theorem below_eStr (n : Nat) (l : List ByteArray) : (l.map eStr).all (belowBs n) = true := by simp only [List.all_map, List.all_eq_true]; intro x _; rfl
@[go_sem] theorem len_eStr (l : List ByteArray) : (l.map eStr).all (·.length == 1) = true := by simp only [List.all_map, List.all_eq_true]; intro x _; rfl
@[go_sem] theorem pure_eStr (l : List ByteArray) : (l.map eStr).all pureBs = true := by simp only [List.all_map, List.all_eq_true]; intro x _; rfl
@[go_sem] theorem rows1_eSl {α : Type} {f : α → List AV} (l : List (List α)) : rows1 1 (l.map (eSl f)) = true := rows1_map (k := 1) (f := (eSl f)) (fun _ => ⟨rfl, rfl⟩) l
@[go_sem] theorem ren_eSl {α : Type} {f : α → List AV} {m : Nat → Nat} (l : List (List α)) : (l.map (eSl f)).map (rens m) = l.map (eSl f) := ren_o (fun _ => rfl) l
@[go_sem] theorem cl_eSl {α : Type} {f : α → List AV} (l : List (List α)) : (l.map (eSl f)).all clB = true := cl_o (fun _ _ => rfl) l
@[go_sem] theorem frz_eSl {α : Type} {f : α → List AV} (l : List (List α)) : frzR (l.map (eSl f)) = l.map (eSl f) := frz_o (fun _ => rfl) l
@[go_sem] theorem ok_eSl {α : Type} {f : α → List AV} (l : List (List α)) : okR (l.map (eSl f)) = true := ok_o (fun _ => rfl) l
@[go_sem] theorem below_eSl {α : Type} {f : α → List AV} (n : Nat) (l : List (List α)) : (l.map (eSl f)).all (belowBs n) = true := by simp only [List.all_map, List.all_eq_true]; intro x _; rfl
@[go_sem] theorem len_eSl {α : Type} {f : α → List AV} (l : List (List α)) : (l.map (eSl f)).all (·.length == 1) = true := by simp only [List.all_map, List.all_eq_true]; intro x _; rfl
@[go_sem] theorem pure_eSl {α : Type} {f : α → List AV} (l : List (List α)) : (l.map (eSl f)).all pureBs = true := by simp only [List.all_map, List.all_eq_true]; intro x _; rfl
structure A0 (α : Type) where
  mk ::

  deriving Inhabited, DecidableEq
structure A16 (α : Type) where
  mk ::
  a0 : α
  a1 : α
  a2 : α
  a3 : α
  a4 : α
  a5 : α
  a6 : α
  a7 : α
  a8 : α
  a9 : α
  a10 : α
  a11 : α
  a12 : α
  a13 : α
  a14 : α
  a15 : α
  deriving Inhabited, DecidableEq
def bytesI (l : List Int) : ByteArray := ⟨(l.map fun n => UInt8.ofNat n.toNat).toArray⟩
@[go_sem] theorem rowsStr_map (l : List Int) : rowsStr (l.map (eInt .u8)) = some (bytesI l) := by
  have h : ∀ l : List Int, (l.map (eInt .u8)).mapM rowByte = some (l.map fun n => UInt8.ofNat n.toNat) := by
    intro l
    induction l with
    | nil => rfl
    | cons n l ih => simp only [List.map_cons, List.mapM_cons, ih]; rfl
  unfold rowsStr; rw [h]; rfl
@[go_sem] theorem rowsStr_one (n : Int) : rowsStr [[.int .u8 n]] = some (bytesI [n]) := rfl
@[go_sem] theorem rowsStr_two (n m : Int) : rowsStr [[.int .u8 n], [.int .u8 m]] = some (bytesI [n, m]) := rfl
def onSum {α β γ : Type} (f : α → Option γ) (g : β → Option γ) : α ⊕ β → Option γ | .inl a => f a | .inr b => g b
theorem of_inl {α β γ : Type} {f : α → Option γ} {g : β → Option γ} {a : α} {x : Option γ} (h : onSum f g (.inl a) = x) : f a = x := h
theorem of_inr {α β γ : Type} {f : α → Option γ} {g : β → Option γ} {b : β} {x : Option γ} (h : onSum f g (.inr b) = x) : g b = x := h
attribute [go_sem] List.all_append List.all_cons List.all_nil
@[go_sem] theorem all_set {α : Type} {p : α → Bool} {l : List α} {i : Nat} {a : α} (hl : l.all p = true) (ha : p a = true) : (l.set i a).all p = true := by
  rw [List.all_eq_true] at hl ⊢
  intro x hx
  rcases List.mem_or_eq_of_mem_set hx with h | h
  · exact hl x h
  · rw [h]; exact ha
structure T_api_Fault where
  mk ::
  Code : Int
  Line : Int
  Col : Int
  deriving Inhabited, DecidableEq
@[go_sem] def e_api_Fault (x : T_api_Fault) : List AV := [.int .i64 x.Code, .int .i64 x.Line, .int .i64 x.Col]
@[go_sem] theorem rows1e_api_Fault (l : List T_api_Fault) : rows1 3 (l.map e_api_Fault) = true := rows1_map (k := 3) (f := e_api_Fault) (fun _ => ⟨rfl, rfl⟩) l
@[go_sem] theorem puree_api_Fault (l : List T_api_Fault) : (l.map e_api_Fault).all pureBs = true := by simp only [List.all_map, List.all_eq_true]; intro x _; rfl
@[go_sem] theorem belowe_api_Fault (n : Nat) (l : List T_api_Fault) : (l.map e_api_Fault).all (belowBs n) = true := by simp only [List.all_map, List.all_eq_true]; intro x _; rfl
@[go_sem] theorem lene_api_Fault (l : List T_api_Fault) : (l.map e_api_Fault).all (·.length == 3) = true := by simp only [List.all_map, List.all_eq_true]; intro x _; rfl
@[go_sem] theorem cle_api_Fault (l : List T_api_Fault) : (l.map e_api_Fault).all clB = true := cl_o (fun _ _ => rfl) l
@[go_sem] theorem rene_api_Fault {m : Nat → Nat} (l : List T_api_Fault) : (l.map e_api_Fault).map (rens m) = l.map e_api_Fault := ren_o (fun _ => rfl) l
@[go_sem] theorem frze_api_Fault (l : List T_api_Fault) : frzR (l.map e_api_Fault) = l.map e_api_Fault := frz_o (fun _ => rfl) l
@[go_sem] theorem oke_api_Fault (l : List T_api_Fault) : okR (l.map e_api_Fault) = true := ok_o (fun _ => rfl) l
structure T_api_Sym where
  mk ::
  Name : ByteArray
  Size : Int
  Init : (List Int)
  deriving Inhabited, DecidableEq
@[go_sem] def e_api_Sym (x : T_api_Sym) : List AV := [.str x.Name, .int .i64 x.Size, .sl (x.Init.map (eInt .i64))]
@[go_sem] theorem rows1e_api_Sym (l : List T_api_Sym) : rows1 3 (l.map e_api_Sym) = true := rows1_map (k := 3) (f := e_api_Sym) (fun _ => ⟨rfl, rfl⟩) l
@[go_sem] theorem puree_api_Sym (l : List T_api_Sym) : (l.map e_api_Sym).all pureBs = true := by simp only [List.all_map, List.all_eq_true]; intro x _; rfl
@[go_sem] theorem belowe_api_Sym (n : Nat) (l : List T_api_Sym) : (l.map e_api_Sym).all (belowBs n) = true := by simp only [List.all_map, List.all_eq_true]; intro x _; rfl
@[go_sem] theorem lene_api_Sym (l : List T_api_Sym) : (l.map e_api_Sym).all (·.length == 3) = true := by simp only [List.all_map, List.all_eq_true]; intro x _; rfl
@[go_sem] theorem cle_api_Sym (l : List T_api_Sym) : (l.map e_api_Sym).all clB = true := cl_o (fun _ _ => rfl) l
@[go_sem] theorem rene_api_Sym {m : Nat → Nat} (l : List T_api_Sym) : (l.map e_api_Sym).map (rens m) = l.map e_api_Sym := ren_o (fun _ => rfl) l
@[go_sem] theorem frze_api_Sym (l : List T_api_Sym) : frzR (l.map e_api_Sym) = l.map e_api_Sym := frz_o (fun _ => rfl) l
@[go_sem] theorem oke_api_Sym (l : List T_api_Sym) : okR (l.map e_api_Sym) = true := ok_o (fun _ => rfl) l
structure T_api_Opd where
  mk ::
  Kind : Int
  Reg : Int
  Sym : Int
  N : Int
  deriving Inhabited, DecidableEq
@[go_sem] def e_api_Opd (x : T_api_Opd) : List AV := [.int .i64 x.Kind, .int .i64 x.Reg, .int .i64 x.Sym, .int .i64 x.N]
@[go_sem] theorem rows1e_api_Opd (l : List T_api_Opd) : rows1 4 (l.map e_api_Opd) = true := rows1_map (k := 4) (f := e_api_Opd) (fun _ => ⟨rfl, rfl⟩) l
@[go_sem] theorem puree_api_Opd (l : List T_api_Opd) : (l.map e_api_Opd).all pureBs = true := by simp only [List.all_map, List.all_eq_true]; intro x _; rfl
@[go_sem] theorem belowe_api_Opd (n : Nat) (l : List T_api_Opd) : (l.map e_api_Opd).all (belowBs n) = true := by simp only [List.all_map, List.all_eq_true]; intro x _; rfl
@[go_sem] theorem lene_api_Opd (l : List T_api_Opd) : (l.map e_api_Opd).all (·.length == 4) = true := by simp only [List.all_map, List.all_eq_true]; intro x _; rfl
@[go_sem] theorem cle_api_Opd (l : List T_api_Opd) : (l.map e_api_Opd).all clB = true := cl_o (fun _ _ => rfl) l
@[go_sem] theorem rene_api_Opd {m : Nat → Nat} (l : List T_api_Opd) : (l.map e_api_Opd).map (rens m) = l.map e_api_Opd := ren_o (fun _ => rfl) l
@[go_sem] theorem frze_api_Opd (l : List T_api_Opd) : frzR (l.map e_api_Opd) = l.map e_api_Opd := frz_o (fun _ => rfl) l
@[go_sem] theorem oke_api_Opd (l : List T_api_Opd) : okR (l.map e_api_Opd) = true := ok_o (fun _ => rfl) l
structure T_api_Ins where
  mk ::
  Op : Int
  Lock : Bool
  Cond : Int
  A : T_api_Opd
  B : T_api_Opd
  To : ByteArray
  Labels : (List ByteArray)
  deriving Inhabited, DecidableEq
@[go_sem] def e_api_Ins (x : T_api_Ins) : List AV := [.int .i64 x.Op, .bool x.Lock, .int .i64 x.Cond, .int .i64 x.A.Kind, .int .i64 x.A.Reg, .int .i64 x.A.Sym, .int .i64 x.A.N, .int .i64 x.B.Kind, .int .i64 x.B.Reg, .int .i64 x.B.Sym, .int .i64 x.B.N, .str x.To, .sl (x.Labels.map eStr)]
@[go_sem] theorem rows1e_api_Ins (l : List T_api_Ins) : rows1 13 (l.map e_api_Ins) = true := rows1_map (k := 13) (f := e_api_Ins) (fun _ => ⟨rfl, rfl⟩) l
@[go_sem] theorem puree_api_Ins (l : List T_api_Ins) : (l.map e_api_Ins).all pureBs = true := by simp only [List.all_map, List.all_eq_true]; intro x _; rfl
@[go_sem] theorem belowe_api_Ins (n : Nat) (l : List T_api_Ins) : (l.map e_api_Ins).all (belowBs n) = true := by simp only [List.all_map, List.all_eq_true]; intro x _; rfl
@[go_sem] theorem lene_api_Ins (l : List T_api_Ins) : (l.map e_api_Ins).all (·.length == 13) = true := by simp only [List.all_map, List.all_eq_true]; intro x _; rfl
@[go_sem] theorem cle_api_Ins (l : List T_api_Ins) : (l.map e_api_Ins).all clB = true := cl_o (fun _ _ => rfl) l
@[go_sem] theorem rene_api_Ins {m : Nat → Nat} (l : List T_api_Ins) : (l.map e_api_Ins).map (rens m) = l.map e_api_Ins := ren_o (fun _ => rfl) l
@[go_sem] theorem frze_api_Ins (l : List T_api_Ins) : frzR (l.map e_api_Ins) = l.map e_api_Ins := frz_o (fun _ => rfl) l
@[go_sem] theorem oke_api_Ins (l : List T_api_Ins) : okR (l.map e_api_Ins) = true := ok_o (fun _ => rfl) l
structure T_api_Thread where
  mk ::
  Ins : (List T_api_Ins)
  deriving Inhabited, DecidableEq
@[go_sem] def e_api_Thread (x : T_api_Thread) : List AV := [.sl (x.Ins.map e_api_Ins)]
@[go_sem] theorem rows1e_api_Thread (l : List T_api_Thread) : rows1 1 (l.map e_api_Thread) = true := rows1_map (k := 1) (f := e_api_Thread) (fun _ => ⟨rfl, rfl⟩) l
@[go_sem] theorem puree_api_Thread (l : List T_api_Thread) : (l.map e_api_Thread).all pureBs = true := by simp only [List.all_map, List.all_eq_true]; intro x _; rfl
@[go_sem] theorem belowe_api_Thread (n : Nat) (l : List T_api_Thread) : (l.map e_api_Thread).all (belowBs n) = true := by simp only [List.all_map, List.all_eq_true]; intro x _; rfl
@[go_sem] theorem lene_api_Thread (l : List T_api_Thread) : (l.map e_api_Thread).all (·.length == 1) = true := by simp only [List.all_map, List.all_eq_true]; intro x _; rfl
@[go_sem] theorem cle_api_Thread (l : List T_api_Thread) : (l.map e_api_Thread).all clB = true := cl_o (fun _ _ => rfl) l
@[go_sem] theorem rene_api_Thread {m : Nat → Nat} (l : List T_api_Thread) : (l.map e_api_Thread).map (rens m) = l.map e_api_Thread := ren_o (fun _ => rfl) l
@[go_sem] theorem frze_api_Thread (l : List T_api_Thread) : frzR (l.map e_api_Thread) = l.map e_api_Thread := frz_o (fun _ => rfl) l
@[go_sem] theorem oke_api_Thread (l : List T_api_Thread) : okR (l.map e_api_Thread) = true := ok_o (fun _ => rfl) l
@[go_sem] def o_api_Thread (x : T_api_Thread) : List AV := [.boxsl (x.Ins.map e_api_Ins) 13 55]
@[go_sem] theorem belowo_api_Thread (n : Nat) (l : List T_api_Thread) : (l.map o_api_Thread).all (belowBs n) = true := below_o (fun _ _ => rfl) n l
@[go_sem] theorem clo_api_Thread (l : List T_api_Thread) : (l.map o_api_Thread).all clB = true := cl_o (fun _ _ => rfl) l
@[go_sem] theorem reno_api_Thread {m : Nat → Nat} (l : List T_api_Thread) : (l.map o_api_Thread).map (rens m) = l.map o_api_Thread := ren_o (fun _ => rfl) l
@[go_sem] theorem leno_api_Thread (l : List T_api_Thread) : (l.map o_api_Thread).all (·.length == 1) = true := len_o (f := o_api_Thread) (k := 1) (fun _ => rfl) l
@[go_sem] theorem frzo_api_Thread (l : List T_api_Thread) : frzR (l.map o_api_Thread) = l.map e_api_Thread := frz_o (fun x => by simp only [o_api_Thread, e_api_Thread, frzL, frzC, go_sem]) l
@[go_sem] theorem oko_api_Thread (l : List T_api_Thread) : okR (l.map o_api_Thread) = true := ok_o (fun x => by simp only [o_api_Thread, okL, okC, pureB, Bool.and_true, Bool.true_and, go_sem]) l
@[go_sem] theorem seto_api_Thread {l : List T_api_Thread} {i : Int} (h : InB i l.length) : (l.map o_api_Thread).set i.toNat [.boxsl (((rd l i).Ins).map e_api_Ins) 13 55] = l.map o_api_Thread := set_o h rfl
structure T_api_Prog where
  mk ::
  Syms : (List T_api_Sym)
  Threads : (List T_api_Thread)
  deriving Inhabited, DecidableEq
@[go_sem] def e_api_Prog (x : T_api_Prog) : List AV := [.sl (x.Syms.map e_api_Sym), .sl (x.Threads.map e_api_Thread)]
@[go_sem] theorem rows1e_api_Prog (l : List T_api_Prog) : rows1 2 (l.map e_api_Prog) = true := rows1_map (k := 2) (f := e_api_Prog) (fun _ => ⟨rfl, rfl⟩) l
@[go_sem] theorem puree_api_Prog (l : List T_api_Prog) : (l.map e_api_Prog).all pureBs = true := by simp only [List.all_map, List.all_eq_true]; intro x _; rfl
@[go_sem] theorem belowe_api_Prog (n : Nat) (l : List T_api_Prog) : (l.map e_api_Prog).all (belowBs n) = true := by simp only [List.all_map, List.all_eq_true]; intro x _; rfl
@[go_sem] theorem lene_api_Prog (l : List T_api_Prog) : (l.map e_api_Prog).all (·.length == 2) = true := by simp only [List.all_map, List.all_eq_true]; intro x _; rfl
@[go_sem] theorem cle_api_Prog (l : List T_api_Prog) : (l.map e_api_Prog).all clB = true := cl_o (fun _ _ => rfl) l
@[go_sem] theorem rene_api_Prog {m : Nat → Nat} (l : List T_api_Prog) : (l.map e_api_Prog).map (rens m) = l.map e_api_Prog := ren_o (fun _ => rfl) l
@[go_sem] theorem frze_api_Prog (l : List T_api_Prog) : frzR (l.map e_api_Prog) = l.map e_api_Prog := frz_o (fun _ => rfl) l
@[go_sem] theorem oke_api_Prog (l : List T_api_Prog) : okR (l.map e_api_Prog) = true := ok_o (fun _ => rfl) l
@[go_sem] def o_api_Prog (x : T_api_Prog) : List AV := [.boxsl (x.Syms.map e_api_Sym) 3 86, .boxsl (x.Threads.map o_api_Thread) 1 65]
@[go_sem] theorem belowo_api_Prog (n : Nat) (l : List T_api_Prog) : (l.map o_api_Prog).all (belowBs n) = true := below_o (fun _ _ => rfl) n l
@[go_sem] theorem clo_api_Prog (l : List T_api_Prog) : (l.map o_api_Prog).all clB = true := cl_o (fun _ _ => rfl) l
@[go_sem] theorem reno_api_Prog {m : Nat → Nat} (l : List T_api_Prog) : (l.map o_api_Prog).map (rens m) = l.map o_api_Prog := ren_o (fun _ => rfl) l
@[go_sem] theorem leno_api_Prog (l : List T_api_Prog) : (l.map o_api_Prog).all (·.length == 2) = true := len_o (f := o_api_Prog) (k := 2) (fun _ => rfl) l
@[go_sem] theorem frzo_api_Prog (l : List T_api_Prog) : frzR (l.map o_api_Prog) = l.map e_api_Prog := frz_o (fun x => by simp only [o_api_Prog, e_api_Prog, frzL, frzC, go_sem]) l
@[go_sem] theorem oko_api_Prog (l : List T_api_Prog) : okR (l.map o_api_Prog) = true := ok_o (fun x => by simp only [o_api_Prog, okL, okC, pureB, Bool.and_true, Bool.true_and, go_sem]) l
@[go_sem] theorem seto_api_Prog {l : List T_api_Prog} {i : Int} (h : InB i l.length) : (l.map o_api_Prog).set i.toNat [.boxsl (((rd l i).Syms).map e_api_Sym) 3 86, .boxsl (((rd l i).Threads).map o_api_Thread) 1 65] = l.map o_api_Prog := set_o h rfl
structure T_palingref1_Spot where
  mk ::
  Rune : Int
  At : Int
  Size : Int
  Line : Int
  Col : Int
  Bad : Bool
  deriving Inhabited, DecidableEq
@[go_sem] def e_palingref1_Spot (x : T_palingref1_Spot) : List AV := [.int .i32 x.Rune, .int .i64 x.At, .int .i64 x.Size, .int .i64 x.Line, .int .i64 x.Col, .bool x.Bad]
@[go_sem] theorem rows1e_palingref1_Spot (l : List T_palingref1_Spot) : rows1 6 (l.map e_palingref1_Spot) = true := rows1_map (k := 6) (f := e_palingref1_Spot) (fun _ => ⟨rfl, rfl⟩) l
@[go_sem] theorem puree_palingref1_Spot (l : List T_palingref1_Spot) : (l.map e_palingref1_Spot).all pureBs = true := by simp only [List.all_map, List.all_eq_true]; intro x _; rfl
@[go_sem] theorem belowe_palingref1_Spot (n : Nat) (l : List T_palingref1_Spot) : (l.map e_palingref1_Spot).all (belowBs n) = true := by simp only [List.all_map, List.all_eq_true]; intro x _; rfl
@[go_sem] theorem lene_palingref1_Spot (l : List T_palingref1_Spot) : (l.map e_palingref1_Spot).all (·.length == 6) = true := by simp only [List.all_map, List.all_eq_true]; intro x _; rfl
@[go_sem] theorem cle_palingref1_Spot (l : List T_palingref1_Spot) : (l.map e_palingref1_Spot).all clB = true := cl_o (fun _ _ => rfl) l
@[go_sem] theorem rene_palingref1_Spot {m : Nat → Nat} (l : List T_palingref1_Spot) : (l.map e_palingref1_Spot).map (rens m) = l.map e_palingref1_Spot := ren_o (fun _ => rfl) l
@[go_sem] theorem frze_palingref1_Spot (l : List T_palingref1_Spot) : frzR (l.map e_palingref1_Spot) = l.map e_palingref1_Spot := frz_o (fun _ => rfl) l
@[go_sem] theorem oke_palingref1_Spot (l : List T_palingref1_Spot) : okR (l.map e_palingref1_Spot) = true := ok_o (fun _ => rfl) l
structure T_palingbook_Act where
  mk ::
  Kind : Int
  A : Int
  B : Int
  C : Int
  N : Int
  deriving Inhabited, DecidableEq
@[go_sem] def e_palingbook_Act (x : T_palingbook_Act) : List AV := [.int .i64 x.Kind, .int .i64 x.A, .int .i64 x.B, .int .i64 x.C, .int .i64 x.N]
@[go_sem] theorem rows1e_palingbook_Act (l : List T_palingbook_Act) : rows1 5 (l.map e_palingbook_Act) = true := rows1_map (k := 5) (f := e_palingbook_Act) (fun _ => ⟨rfl, rfl⟩) l
@[go_sem] theorem puree_palingbook_Act (l : List T_palingbook_Act) : (l.map e_palingbook_Act).all pureBs = true := by simp only [List.all_map, List.all_eq_true]; intro x _; rfl
@[go_sem] theorem belowe_palingbook_Act (n : Nat) (l : List T_palingbook_Act) : (l.map e_palingbook_Act).all (belowBs n) = true := by simp only [List.all_map, List.all_eq_true]; intro x _; rfl
@[go_sem] theorem lene_palingbook_Act (l : List T_palingbook_Act) : (l.map e_palingbook_Act).all (·.length == 5) = true := by simp only [List.all_map, List.all_eq_true]; intro x _; rfl
@[go_sem] theorem cle_palingbook_Act (l : List T_palingbook_Act) : (l.map e_palingbook_Act).all clB = true := cl_o (fun _ _ => rfl) l
@[go_sem] theorem rene_palingbook_Act {m : Nat → Nat} (l : List T_palingbook_Act) : (l.map e_palingbook_Act).map (rens m) = l.map e_palingbook_Act := ren_o (fun _ => rfl) l
@[go_sem] theorem frze_palingbook_Act (l : List T_palingbook_Act) : frzR (l.map e_palingbook_Act) = l.map e_palingbook_Act := frz_o (fun _ => rfl) l
@[go_sem] theorem oke_palingbook_Act (l : List T_palingbook_Act) : okR (l.map e_palingbook_Act) = true := ok_o (fun _ => rfl) l
structure T_glyph_Spot where
  mk ::
  Rune : Int
  At : Int
  Size : Int
  Line : Int
  Col : Int
  Bad : Bool
  deriving Inhabited, DecidableEq
@[go_sem] def e_glyph_Spot (x : T_glyph_Spot) : List AV := [.int .i32 x.Rune, .int .i64 x.At, .int .i64 x.Size, .int .i64 x.Line, .int .i64 x.Col, .bool x.Bad]
@[go_sem] theorem rows1e_glyph_Spot (l : List T_glyph_Spot) : rows1 6 (l.map e_glyph_Spot) = true := rows1_map (k := 6) (f := e_glyph_Spot) (fun _ => ⟨rfl, rfl⟩) l
@[go_sem] theorem puree_glyph_Spot (l : List T_glyph_Spot) : (l.map e_glyph_Spot).all pureBs = true := by simp only [List.all_map, List.all_eq_true]; intro x _; rfl
@[go_sem] theorem belowe_glyph_Spot (n : Nat) (l : List T_glyph_Spot) : (l.map e_glyph_Spot).all (belowBs n) = true := by simp only [List.all_map, List.all_eq_true]; intro x _; rfl
@[go_sem] theorem lene_glyph_Spot (l : List T_glyph_Spot) : (l.map e_glyph_Spot).all (·.length == 6) = true := by simp only [List.all_map, List.all_eq_true]; intro x _; rfl
@[go_sem] theorem cle_glyph_Spot (l : List T_glyph_Spot) : (l.map e_glyph_Spot).all clB = true := cl_o (fun _ _ => rfl) l
@[go_sem] theorem rene_glyph_Spot {m : Nat → Nat} (l : List T_glyph_Spot) : (l.map e_glyph_Spot).map (rens m) = l.map e_glyph_Spot := ren_o (fun _ => rfl) l
@[go_sem] theorem frze_glyph_Spot (l : List T_glyph_Spot) : frzR (l.map e_glyph_Spot) = l.map e_glyph_Spot := frz_o (fun _ => rfl) l
@[go_sem] theorem oke_glyph_Spot (l : List T_glyph_Spot) : okR (l.map e_glyph_Spot) = true := ok_o (fun _ => rfl) l
structure T_opnd_RegPart where
  mk ::
  Reg : Int
  deriving Inhabited, DecidableEq
@[go_sem] def e_opnd_RegPart (x : T_opnd_RegPart) : List AV := [.int .i64 x.Reg]
@[go_sem] theorem rows1e_opnd_RegPart (l : List T_opnd_RegPart) : rows1 1 (l.map e_opnd_RegPart) = true := rows1_map (k := 1) (f := e_opnd_RegPart) (fun _ => ⟨rfl, rfl⟩) l
@[go_sem] theorem puree_opnd_RegPart (l : List T_opnd_RegPart) : (l.map e_opnd_RegPart).all pureBs = true := by simp only [List.all_map, List.all_eq_true]; intro x _; rfl
@[go_sem] theorem belowe_opnd_RegPart (n : Nat) (l : List T_opnd_RegPart) : (l.map e_opnd_RegPart).all (belowBs n) = true := by simp only [List.all_map, List.all_eq_true]; intro x _; rfl
@[go_sem] theorem lene_opnd_RegPart (l : List T_opnd_RegPart) : (l.map e_opnd_RegPart).all (·.length == 1) = true := by simp only [List.all_map, List.all_eq_true]; intro x _; rfl
@[go_sem] theorem cle_opnd_RegPart (l : List T_opnd_RegPart) : (l.map e_opnd_RegPart).all clB = true := cl_o (fun _ _ => rfl) l
@[go_sem] theorem rene_opnd_RegPart {m : Nat → Nat} (l : List T_opnd_RegPart) : (l.map e_opnd_RegPart).map (rens m) = l.map e_opnd_RegPart := ren_o (fun _ => rfl) l
@[go_sem] theorem frze_opnd_RegPart (l : List T_opnd_RegPart) : frzR (l.map e_opnd_RegPart) = l.map e_opnd_RegPart := frz_o (fun _ => rfl) l
@[go_sem] theorem oke_opnd_RegPart (l : List T_opnd_RegPart) : okR (l.map e_opnd_RegPart) = true := ok_o (fun _ => rfl) l
structure T_opnd_NumPart where
  mk ::
  N : Int
  deriving Inhabited, DecidableEq
@[go_sem] def e_opnd_NumPart (x : T_opnd_NumPart) : List AV := [.int .i64 x.N]
@[go_sem] theorem rows1e_opnd_NumPart (l : List T_opnd_NumPart) : rows1 1 (l.map e_opnd_NumPart) = true := rows1_map (k := 1) (f := e_opnd_NumPart) (fun _ => ⟨rfl, rfl⟩) l
@[go_sem] theorem puree_opnd_NumPart (l : List T_opnd_NumPart) : (l.map e_opnd_NumPart).all pureBs = true := by simp only [List.all_map, List.all_eq_true]; intro x _; rfl
@[go_sem] theorem belowe_opnd_NumPart (n : Nat) (l : List T_opnd_NumPart) : (l.map e_opnd_NumPart).all (belowBs n) = true := by simp only [List.all_map, List.all_eq_true]; intro x _; rfl
@[go_sem] theorem lene_opnd_NumPart (l : List T_opnd_NumPart) : (l.map e_opnd_NumPart).all (·.length == 1) = true := by simp only [List.all_map, List.all_eq_true]; intro x _; rfl
@[go_sem] theorem cle_opnd_NumPart (l : List T_opnd_NumPart) : (l.map e_opnd_NumPart).all clB = true := cl_o (fun _ _ => rfl) l
@[go_sem] theorem rene_opnd_NumPart {m : Nat → Nat} (l : List T_opnd_NumPart) : (l.map e_opnd_NumPart).map (rens m) = l.map e_opnd_NumPart := ren_o (fun _ => rfl) l
@[go_sem] theorem frze_opnd_NumPart (l : List T_opnd_NumPart) : frzR (l.map e_opnd_NumPart) = l.map e_opnd_NumPart := frz_o (fun _ => rfl) l
@[go_sem] theorem oke_opnd_NumPart (l : List T_opnd_NumPart) : okR (l.map e_opnd_NumPart) = true := ok_o (fun _ => rfl) l
structure T_opnd_AtPart where
  mk ::
  Sym : Int
  N : Int
  deriving Inhabited, DecidableEq
@[go_sem] def e_opnd_AtPart (x : T_opnd_AtPart) : List AV := [.int .i64 x.Sym, .int .i64 x.N]
@[go_sem] theorem rows1e_opnd_AtPart (l : List T_opnd_AtPart) : rows1 2 (l.map e_opnd_AtPart) = true := rows1_map (k := 2) (f := e_opnd_AtPart) (fun _ => ⟨rfl, rfl⟩) l
@[go_sem] theorem puree_opnd_AtPart (l : List T_opnd_AtPart) : (l.map e_opnd_AtPart).all pureBs = true := by simp only [List.all_map, List.all_eq_true]; intro x _; rfl
@[go_sem] theorem belowe_opnd_AtPart (n : Nat) (l : List T_opnd_AtPart) : (l.map e_opnd_AtPart).all (belowBs n) = true := by simp only [List.all_map, List.all_eq_true]; intro x _; rfl
@[go_sem] theorem lene_opnd_AtPart (l : List T_opnd_AtPart) : (l.map e_opnd_AtPart).all (·.length == 2) = true := by simp only [List.all_map, List.all_eq_true]; intro x _; rfl
@[go_sem] theorem cle_opnd_AtPart (l : List T_opnd_AtPart) : (l.map e_opnd_AtPart).all clB = true := cl_o (fun _ _ => rfl) l
@[go_sem] theorem rene_opnd_AtPart {m : Nat → Nat} (l : List T_opnd_AtPart) : (l.map e_opnd_AtPart).map (rens m) = l.map e_opnd_AtPart := ren_o (fun _ => rfl) l
@[go_sem] theorem frze_opnd_AtPart (l : List T_opnd_AtPart) : frzR (l.map e_opnd_AtPart) = l.map e_opnd_AtPart := frz_o (fun _ => rfl) l
@[go_sem] theorem oke_opnd_AtPart (l : List T_opnd_AtPart) : okR (l.map e_opnd_AtPart) = true := ok_o (fun _ => rfl) l
structure T_opnd_ByPart where
  mk ::
  Sym : Int
  Reg : Int
  deriving Inhabited, DecidableEq
@[go_sem] def e_opnd_ByPart (x : T_opnd_ByPart) : List AV := [.int .i64 x.Sym, .int .i64 x.Reg]
@[go_sem] theorem rows1e_opnd_ByPart (l : List T_opnd_ByPart) : rows1 2 (l.map e_opnd_ByPart) = true := rows1_map (k := 2) (f := e_opnd_ByPart) (fun _ => ⟨rfl, rfl⟩) l
@[go_sem] theorem puree_opnd_ByPart (l : List T_opnd_ByPart) : (l.map e_opnd_ByPart).all pureBs = true := by simp only [List.all_map, List.all_eq_true]; intro x _; rfl
@[go_sem] theorem belowe_opnd_ByPart (n : Nat) (l : List T_opnd_ByPart) : (l.map e_opnd_ByPart).all (belowBs n) = true := by simp only [List.all_map, List.all_eq_true]; intro x _; rfl
@[go_sem] theorem lene_opnd_ByPart (l : List T_opnd_ByPart) : (l.map e_opnd_ByPart).all (·.length == 2) = true := by simp only [List.all_map, List.all_eq_true]; intro x _; rfl
@[go_sem] theorem cle_opnd_ByPart (l : List T_opnd_ByPart) : (l.map e_opnd_ByPart).all clB = true := cl_o (fun _ _ => rfl) l
@[go_sem] theorem rene_opnd_ByPart {m : Nat → Nat} (l : List T_opnd_ByPart) : (l.map e_opnd_ByPart).map (rens m) = l.map e_opnd_ByPart := ren_o (fun _ => rfl) l
@[go_sem] theorem frze_opnd_ByPart (l : List T_opnd_ByPart) : frzR (l.map e_opnd_ByPart) = l.map e_opnd_ByPart := frz_o (fun _ => rfl) l
@[go_sem] theorem oke_opnd_ByPart (l : List T_opnd_ByPart) : okR (l.map e_opnd_ByPart) = true := ok_o (fun _ => rfl) l
inductive I_opnd_Part where
  | nil
  | RegPart (x : T_opnd_RegPart)
  | NumPart (x : T_opnd_NumPart)
  | AtPart (x : T_opnd_AtPart)
  | ByPart (x : T_opnd_ByPart)
  deriving Inhabited, DecidableEq
def eI_opnd_Part : I_opnd_Part → AV
  | .nil => .nili
  | .RegPart x => .iface 145 (.agg [.int .i64 x.Reg])
  | .NumPart x => .iface 147 (.agg [.int .i64 x.N])
  | .AtPart x => .iface 149 (.agg [.int .i64 x.Sym, .int .i64 x.N])
  | .ByPart x => .iface 151 (.agg [.int .i64 x.Sym, .int .i64 x.Reg])
@[go_sem] theorem eI_opnd_Part_nil : eI_opnd_Part .nil = .nili := rfl
@[go_sem] theorem eI_opnd_Part_RegPart {x : T_opnd_RegPart} : eI_opnd_Part (.RegPart x) = .iface 145 (.agg [.int .i64 x.Reg]) := rfl
@[go_sem] theorem eI_opnd_Part_NumPart {x : T_opnd_NumPart} : eI_opnd_Part (.NumPart x) = .iface 147 (.agg [.int .i64 x.N]) := rfl
@[go_sem] theorem eI_opnd_Part_AtPart {x : T_opnd_AtPart} : eI_opnd_Part (.AtPart x) = .iface 149 (.agg [.int .i64 x.Sym, .int .i64 x.N]) := rfl
@[go_sem] theorem eI_opnd_Part_ByPart {x : T_opnd_ByPart} : eI_opnd_Part (.ByPart x) = .iface 151 (.agg [.int .i64 x.Sym, .int .i64 x.Reg]) := rfl
@[go_sem] theorem pure_I_opnd_Part {x : I_opnd_Part} : pureB (eI_opnd_Part x) = true := by cases x <;> rfl
@[go_sem] theorem one_I_opnd_Part {x : I_opnd_Part} : oneB (eI_opnd_Part x) = true := by cases x <;> rfl
@[go_sem] theorem plain_I_opnd_Part {x : I_opnd_Part} : plainB (eI_opnd_Part x) = true := by cases x <;> rfl
@[go_sem] theorem below_I_opnd_Part {k : Nat} {x : I_opnd_Part} : belowB k (eI_opnd_Part x) = true := by cases x <;> rfl
@[go_sem] theorem ren_I_opnd_Part {m : Nat → Nat} {x : I_opnd_Part} : ren m (eI_opnd_Part x) = eI_opnd_Part x := by cases x <;> rfl
end Go.Vs
