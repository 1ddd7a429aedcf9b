import Derived.Test.YtpojlconoflneaaVu3
set_option linter.unusedVariables false
set_option linter.unusedSimpArgs false
set_option linter.unusedSectionVars false
namespace Go.Vs
variable [Tab]
@[go_sem] def eInt (k : IntKind) (n : Int) : List AV := [.int k n]
@[go_sem] def eBool (b : Bool) : List AV := [.bool b]
@[go_sem] def eStr (s : ByteArray) : List AV := [.str s]
@[go_sem] def eSl {α : Type} (f : α → List AV) (l : List α) : List AV := [.sl (l.map f)]
@[go_sem] theorem rows1_eInt {k : IntKind} (l : List Int) : rows1 1 (l.map (eInt k)) = true := rows1_map (k := 1) (f := (eInt k)) (fun _ => ⟨rfl, rfl⟩) l
@[go_sem] theorem below_eInt {k : IntKind} (n : Nat) (l : List Int) : (l.map (eInt k)).all (belowBs n) = true := by simp only [List.all_map, List.all_eq_true]; intro x _; rfl
@[go_sem] theorem len_eInt {k : IntKind} (l : List Int) : (l.map (eInt k)).all (·.length == 1) = true := by simp only [List.all_map, List.all_eq_true]; intro x _; rfl
@[go_sem] theorem pure_eInt {k : IntKind} (l : List Int) : (l.map (eInt k)).all pureBs = true := by simp only [List.all_map, List.all_eq_true]; intro x _; rfl
@[go_sem] theorem rows1_eBool (l : List Bool) : rows1 1 (l.map eBool) = true := rows1_map (k := 1) (f := eBool) (fun _ => ⟨rfl, rfl⟩) l
@[go_sem] theorem below_eBool (n : Nat) (l : List Bool) : (l.map eBool).all (belowBs n) = true := by simp only [List.all_map, List.all_eq_true]; intro x _; rfl
@[go_sem] theorem len_eBool (l : List Bool) : (l.map eBool).all (·.length == 1) = true := by simp only [List.all_map, List.all_eq_true]; intro x _; rfl
@[go_sem] theorem pure_eBool (l : List Bool) : (l.map eBool).all pureBs = true := by simp only [List.all_map, List.all_eq_true]; intro x _; rfl
@[go_sem] theorem rows1_eStr (l : List ByteArray) : rows1 1 (l.map eStr) = true := rows1_map (k := 1) (f := eStr) (fun _ => ⟨rfl, rfl⟩) l
@[go_sem] theorem below_eStr (n : Nat) (l : List ByteArray) : (l.map eStr).all (belowBs n) = true := by simp only [List.all_map, List.all_eq_true]; intro x _; rfl
@[go_sem] theorem len_eStr (l : List ByteArray) : (l.map eStr).all (·.length == 1) = true := by simp only [List.all_map, List.all_eq_true]; intro x _; rfl
@[go_sem] theorem pure_eStr (l : List ByteArray) : (l.map eStr).all pureBs = true := by simp only [List.all_map, List.all_eq_true]; intro x _; rfl
@[go_sem] theorem rows1_eSl {α : Type} {f : α → List AV} (l : List (List α)) : rows1 1 (l.map (eSl f)) = true := rows1_map (k := 1) (f := (eSl f)) (fun _ => ⟨rfl, rfl⟩) l
@[go_sem] theorem below_eSl {α : Type} {f : α → List AV} (n : Nat) (l : List (List α)) : (l.map (eSl f)).all (belowBs n) = true := by simp only [List.all_map, List.all_eq_true]; intro x _; rfl
@[go_sem] theorem len_eSl {α : Type} {f : α → List AV} (l : List (List α)) : (l.map (eSl f)).all (·.length == 1) = true := by simp only [List.all_map, List.all_eq_true]; intro x _; rfl
@[go_sem] theorem pure_eSl {α : Type} {f : α → List AV} (l : List (List α)) : (l.map (eSl f)).all pureBs = true := by simp only [List.all_map, List.all_eq_true]; intro x _; rfl
structure A0 (α : Type) where
  mk ::

  deriving Inhabited, DecidableEq
def bytesI (l : List Int) : ByteArray := ⟨(l.map fun n => UInt8.ofNat n.toNat).toArray⟩
@[go_sem] theorem rowsStr_map (l : List Int) : rowsStr (l.map (eInt .u8)) = some (bytesI l) := by
  have h : ∀ l : List Int, (l.map (eInt .u8)).mapM rowByte = some (l.map fun n => UInt8.ofNat n.toNat) := by
    intro l
    induction l with
    | nil => rfl
    | cons n l ih => simp only [List.map_cons, List.mapM_cons, ih]; rfl
  unfold rowsStr; rw [h]; rfl
@[go_sem] theorem rowsStr_one (n : Int) : rowsStr [[.int .u8 n]] = some (bytesI [n]) := rfl
@[go_sem] theorem rowsStr_two (n m : Int) : rowsStr [[.int .u8 n], [.int .u8 m]] = some (bytesI [n, m]) := rfl
@[go_sem] theorem bC_ints (s : ByteArray) : bC s = (intsB s).map (eInt .u8) := rfl
def onSum {α β γ : Type} (f : α → Option γ) (g : β → Option γ) : α ⊕ β → Option γ | .inl a => f a | .inr b => g b
attribute [go_sem] List.all_append List.all_cons List.all_nil
@[go_sem] theorem all_set {α : Type} {p : α → Bool} {l : List α} {i : Nat} {a : α} (hl : l.all p = true) (ha : p a = true) : (l.set i a).all p = true := by
  rw [List.all_eq_true] at hl ⊢
  intro x hx
  rcases List.mem_or_eq_of_mem_set hx with h | h
  · exact hl x h
  · rw [h]; exact ha
structure T_opnd_NumPart where
  mk ::
  N : Int
  deriving Inhabited, DecidableEq
@[go_sem] def e_opnd_NumPart (x : T_opnd_NumPart) : List AV := [.int .i64 x.N]
@[go_sem] theorem rows1e_opnd_NumPart (l : List T_opnd_NumPart) : rows1 1 (l.map e_opnd_NumPart) = true := rows1_map (k := 1) (f := e_opnd_NumPart) (fun _ => ⟨rfl, rfl⟩) l
@[go_sem] theorem puree_opnd_NumPart (l : List T_opnd_NumPart) : (l.map e_opnd_NumPart).all pureBs = true := by simp only [List.all_map, List.all_eq_true]; intro x _; rfl
@[go_sem] theorem belowe_opnd_NumPart (n : Nat) (l : List T_opnd_NumPart) : (l.map e_opnd_NumPart).all (belowBs n) = true := by simp only [List.all_map, List.all_eq_true]; intro x _; rfl
@[go_sem] theorem lene_opnd_NumPart (l : List T_opnd_NumPart) : (l.map e_opnd_NumPart).all (·.length == 1) = true := by simp only [List.all_map, List.all_eq_true]; intro x _; rfl
structure T_opnd_AtPart where
  mk ::
  Sym : Int
  N : Int
  deriving Inhabited, DecidableEq
@[go_sem] def e_opnd_AtPart (x : T_opnd_AtPart) : List AV := [.int .i64 x.Sym, .int .i64 x.N]
@[go_sem] theorem rows1e_opnd_AtPart (l : List T_opnd_AtPart) : rows1 2 (l.map e_opnd_AtPart) = true := rows1_map (k := 2) (f := e_opnd_AtPart) (fun _ => ⟨rfl, rfl⟩) l
@[go_sem] theorem puree_opnd_AtPart (l : List T_opnd_AtPart) : (l.map e_opnd_AtPart).all pureBs = true := by simp only [List.all_map, List.all_eq_true]; intro x _; rfl
@[go_sem] theorem belowe_opnd_AtPart (n : Nat) (l : List T_opnd_AtPart) : (l.map e_opnd_AtPart).all (belowBs n) = true := by simp only [List.all_map, List.all_eq_true]; intro x _; rfl
@[go_sem] theorem lene_opnd_AtPart (l : List T_opnd_AtPart) : (l.map e_opnd_AtPart).all (·.length == 2) = true := by simp only [List.all_map, List.all_eq_true]; intro x _; rfl
structure T_opnd_ByPart where
  mk ::
  Sym : Int
  Reg : Int
  deriving Inhabited, DecidableEq
@[go_sem] def e_opnd_ByPart (x : T_opnd_ByPart) : List AV := [.int .i64 x.Sym, .int .i64 x.Reg]
@[go_sem] theorem rows1e_opnd_ByPart (l : List T_opnd_ByPart) : rows1 2 (l.map e_opnd_ByPart) = true := rows1_map (k := 2) (f := e_opnd_ByPart) (fun _ => ⟨rfl, rfl⟩) l
@[go_sem] theorem puree_opnd_ByPart (l : List T_opnd_ByPart) : (l.map e_opnd_ByPart).all pureBs = true := by simp only [List.all_map, List.all_eq_true]; intro x _; rfl
@[go_sem] theorem belowe_opnd_ByPart (n : Nat) (l : List T_opnd_ByPart) : (l.map e_opnd_ByPart).all (belowBs n) = true := by simp only [List.all_map, List.all_eq_true]; intro x _; rfl
@[go_sem] theorem lene_opnd_ByPart (l : List T_opnd_ByPart) : (l.map e_opnd_ByPart).all (·.length == 2) = true := by simp only [List.all_map, List.all_eq_true]; intro x _; rfl
structure T_opnd_RegPart where
  mk ::
  Reg : Int
  deriving Inhabited, DecidableEq
@[go_sem] def e_opnd_RegPart (x : T_opnd_RegPart) : List AV := [.int .i64 x.Reg]
@[go_sem] theorem rows1e_opnd_RegPart (l : List T_opnd_RegPart) : rows1 1 (l.map e_opnd_RegPart) = true := rows1_map (k := 1) (f := e_opnd_RegPart) (fun _ => ⟨rfl, rfl⟩) l
@[go_sem] theorem puree_opnd_RegPart (l : List T_opnd_RegPart) : (l.map e_opnd_RegPart).all pureBs = true := by simp only [List.all_map, List.all_eq_true]; intro x _; rfl
@[go_sem] theorem belowe_opnd_RegPart (n : Nat) (l : List T_opnd_RegPart) : (l.map e_opnd_RegPart).all (belowBs n) = true := by simp only [List.all_map, List.all_eq_true]; intro x _; rfl
@[go_sem] theorem lene_opnd_RegPart (l : List T_opnd_RegPart) : (l.map e_opnd_RegPart).all (·.length == 1) = true := by simp only [List.all_map, List.all_eq_true]; intro x _; rfl
structure T_api_Opd where
  mk ::
  Kind : Int
  Reg : Int
  Sym : Int
  N : Int
  deriving Inhabited, DecidableEq
@[go_sem] def e_api_Opd (x : T_api_Opd) : List AV := [.int .i64 x.Kind, .int .i64 x.Reg, .int .i64 x.Sym, .int .i64 x.N]
@[go_sem] theorem rows1e_api_Opd (l : List T_api_Opd) : rows1 4 (l.map e_api_Opd) = true := rows1_map (k := 4) (f := e_api_Opd) (fun _ => ⟨rfl, rfl⟩) l
@[go_sem] theorem puree_api_Opd (l : List T_api_Opd) : (l.map e_api_Opd).all pureBs = true := by simp only [List.all_map, List.all_eq_true]; intro x _; rfl
@[go_sem] theorem belowe_api_Opd (n : Nat) (l : List T_api_Opd) : (l.map e_api_Opd).all (belowBs n) = true := by simp only [List.all_map, List.all_eq_true]; intro x _; rfl
@[go_sem] theorem lene_api_Opd (l : List T_api_Opd) : (l.map e_api_Opd).all (·.length == 4) = true := by simp only [List.all_map, List.all_eq_true]; intro x _; rfl
inductive I_opnd_Part where
  | nil
  | NumPart (x : T_opnd_NumPart)
  | AtPart (x : T_opnd_AtPart)
  | ByPart (x : T_opnd_ByPart)
  | RegPart (x : T_opnd_RegPart)
  deriving Inhabited, DecidableEq
def eI_opnd_Part : I_opnd_Part → AV
  | .nil => .nili
  | .NumPart x => .iface 25 (.agg [.int .i64 x.N])
  | .AtPart x => .iface 27 (.agg [.int .i64 x.Sym, .int .i64 x.N])
  | .ByPart x => .iface 29 (.agg [.int .i64 x.Sym, .int .i64 x.Reg])
  | .RegPart x => .iface 32 (.agg [.int .i64 x.Reg])
@[go_sem] theorem eI_opnd_Part_nil : eI_opnd_Part .nil = .nili := rfl
@[go_sem] theorem eI_opnd_Part_NumPart {x : T_opnd_NumPart} : eI_opnd_Part (.NumPart x) = .iface 25 (.agg [.int .i64 x.N]) := rfl
@[go_sem] theorem eI_opnd_Part_AtPart {x : T_opnd_AtPart} : eI_opnd_Part (.AtPart x) = .iface 27 (.agg [.int .i64 x.Sym, .int .i64 x.N]) := rfl
@[go_sem] theorem eI_opnd_Part_ByPart {x : T_opnd_ByPart} : eI_opnd_Part (.ByPart x) = .iface 29 (.agg [.int .i64 x.Sym, .int .i64 x.Reg]) := rfl
@[go_sem] theorem eI_opnd_Part_RegPart {x : T_opnd_RegPart} : eI_opnd_Part (.RegPart x) = .iface 32 (.agg [.int .i64 x.Reg]) := rfl
@[go_sem] theorem pure_I_opnd_Part {x : I_opnd_Part} : pureB (eI_opnd_Part x) = true := by cases x <;> rfl
@[go_sem] theorem one_I_opnd_Part {x : I_opnd_Part} : oneB (eI_opnd_Part x) = true := by cases x <;> rfl
@[go_sem] theorem plain_I_opnd_Part {x : I_opnd_Part} : plainB (eI_opnd_Part x) = true := by cases x <;> rfl
@[go_sem] theorem below_I_opnd_Part {k : Nat} {x : I_opnd_Part} : belowB k (eI_opnd_Part x) = true := by cases x <;> rfl
@[go_sem] theorem ren_I_opnd_Part {m : Nat → Nat} {x : I_opnd_Part} : ren m (eI_opnd_Part x) = eI_opnd_Part x := by cases x <;> rfl
end Go.Vs
