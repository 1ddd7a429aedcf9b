import Derived.Test.YtlolkehjlkmcbaaDoorVu3
set_option linter.unusedVariables false
set_option linter.unusedSimpArgs false
set_option linter.unusedSectionVars false
namespace Go.Vs
variable [Tab]
@[go_sem] def eInt (k : IntKind) (n : Int) : List AV := [.int k n]
@[go_sem] def eBool (b : Bool) : List AV := [.bool b]
@[go_sem] def eStr (s : ByteArray) : List AV := [.str s]
@[go_sem] def eSl {α : Type} (f : α → List AV) (l : List α) : List AV := [.sl (l.map f)]
@[go_sem] theorem rows1_eInt {k : IntKind} (l : List Int) : rows1 1 (l.map (eInt k)) = true := rows1_map (k := 1) (f := (eInt k)) (fun _ => ⟨rfl, rfl⟩) l
@[go_sem] theorem ren_eInt {k : IntKind} {m : Nat → Nat} (l : List Int) : (l.map (eInt k)).map (rens m) = l.map (eInt k) := ren_o (fun _ => rfl) l
@[go_sem] theorem cl_eInt {k : IntKind} (l : List Int) : (l.map (eInt k)).all clB = true := cl_o (fun _ _ => rfl) l
@[go_sem] theorem frz_eInt {k : IntKind} (l : List Int) : frzR (l.map (eInt k)) = l.map (eInt k) := frz_o (fun _ => rfl) l
@[go_sem] theorem ok_eInt {k : IntKind} (l : List Int) : okR (l.map (eInt k)) = true := ok_o (fun _ => rfl) l
@[go_sem] theorem below_eInt {k : IntKind} (n : Nat) (l : List Int) : (l.map (eInt k)).all (belowBs n) = true := by simp only [List.all_map, List.all_eq_true]; intro x _; rfl
@[go_sem] theorem len_eInt {k : IntKind} (l : List Int) : (l.map (eInt k)).all (·.length == 1) = true := by simp only [List.all_map, List.all_eq_true]; intro x _; rfl
@[go_sem] theorem pure_eInt {k : IntKind} (l : List Int) : (l.map (eInt k)).all pureBs = true := by simp only [List.all_map, List.all_eq_true]; intro x _; rfl
@[go_sem] theorem rows1_eBool (l : List Bool) : rows1 1 (l.map eBool) = true := rows1_map (k := 1) (f := eBool) (fun _ => ⟨rfl, rfl⟩) l
@[go_sem] theorem ren_eBool {m : Nat → Nat} (l : List Bool) : (l.map eBool).map (rens m) = l.map eBool := ren_o (fun _ => rfl) l
@[go_sem] theorem cl_eBool (l : List Bool) : (l.map eBool).all clB = true := cl_o (fun _ _ => rfl) l
@[go_sem] theorem frz_eBool (l : List Bool) : frzR (l.map eBool) = l.map eBool := frz_o (fun _ => rfl) l
@[go_sem] theorem ok_eBool (l : List Bool) : okR (l.map eBool) = true := ok_o (fun _ => rfl) l
@[go_sem] theorem below_eBool (n : Nat) (l : List Bool) : (l.map eBool).all (belowBs n) = true := by simp only [List.all_map, List.all_eq_true]; intro x _; rfl
@[go_sem] theorem len_eBool (l : List Bool) : (l.map eBool).all (·.length == 1) = true := by simp only [List.all_map, List.all_eq_true]; intro x _; rfl
@[go_sem] theorem pure_eBool (l : List Bool) : (l.map eBool).all pureBs = true := by simp only [List.all_map, List.all_eq_true]; intro x _; rfl
@[go_sem] theorem rows1_eStr (l : List ByteArray) : rows1 1 (l.map eStr) = true := rows1_map (k := 1) (f := eStr) (fun _ => ⟨rfl, rfl⟩) l
@[go_sem] theorem ren_eStr {m : Nat → Nat} (l : List ByteArray) : (l.map eStr).map (rens m) = l.map eStr := ren_o (fun _ => rfl) l
@[go_sem] theorem cl_eStr (l : List ByteArray) : (l.map eStr).all clB = true := cl_o (fun _ _ => rfl) l
@[go_sem] theorem frz_eStr (l : List ByteArray) : frzR (l.map eStr) = l.map eStr := frz_o (fun _ => rfl) l
@[go_sem] theorem ok_eStr (l : List ByteArray) : okR (l.map eStr) = true := ok_o (fun _ => rfl) l
@[go_sem] theorem below_eStr (n : Nat) (l : List ByteArray) : (l.map eStr).all (belowBs n) = true := by simp only [List.all_map, List.all_eq_true]; intro x _; rfl
@[go_sem] theorem len_eStr (l : List ByteArray) : (l.map eStr).all (·.length == 1) = true := by simp only [List.all_map, List.all_eq_true]; intro x _; rfl
@[go_sem] theorem pure_eStr (l : List ByteArray) : (l.map eStr).all pureBs = true := by simp only [List.all_map, List.all_eq_true]; intro x _; rfl
@[go_sem] theorem rows1_eSl {α : Type} {f : α → List AV} (l : List (List α)) : rows1 1 (l.map (eSl f)) = true := rows1_map (k := 1) (f := (eSl f)) (fun _ => ⟨rfl, rfl⟩) l
@[go_sem] theorem ren_eSl {α : Type} {f : α → List AV} {m : Nat → Nat} (l : List (List α)) : (l.map (eSl f)).map (rens m) = l.map (eSl f) := ren_o (fun _ => rfl) l
@[go_sem] theorem cl_eSl {α : Type} {f : α → List AV} (l : List (List α)) : (l.map (eSl f)).all clB = true := cl_o (fun _ _ => rfl) l
@[go_sem] theorem frz_eSl {α : Type} {f : α → List AV} (l : List (List α)) : frzR (l.map (eSl f)) = l.map (eSl f) := frz_o (fun _ => rfl) l
@[go_sem] theorem ok_eSl {α : Type} {f : α → List AV} (l : List (List α)) : okR (l.map (eSl f)) = true := ok_o (fun _ => rfl) l
@[go_sem] theorem below_eSl {α : Type} {f : α → List AV} (n : Nat) (l : List (List α)) : (l.map (eSl f)).all (belowBs n) = true := by simp only [List.all_map, List.all_eq_true]; intro x _; rfl
@[go_sem] theorem len_eSl {α : Type} {f : α → List AV} (l : List (List α)) : (l.map (eSl f)).all (·.length == 1) = true := by simp only [List.all_map, List.all_eq_true]; intro x _; rfl
@[go_sem] theorem pure_eSl {α : Type} {f : α → List AV} (l : List (List α)) : (l.map (eSl f)).all pureBs = true := by simp only [List.all_map, List.all_eq_true]; intro x _; rfl
structure A0 (α : Type) where
  mk ::

  deriving Inhabited, DecidableEq
structure A8 (α : Type) where
  mk ::
  a0 : α
  a1 : α
  a2 : α
  a3 : α
  a4 : α
  a5 : α
  a6 : α
  a7 : α
  deriving Inhabited, DecidableEq
def A8.get {α : Type} (x : A8 α) (i : Int) : α := if i = 0 then x.a0 else if i = 1 then x.a1 else if i = 2 then x.a2 else if i = 3 then x.a3 else if i = 4 then x.a4 else if i = 5 then x.a5 else if i = 6 then x.a6 else x.a7
def A8.put {α : Type} (x : A8 α) (i : Int) (v : α) : A8 α := if i = 0 then { x with a0 := v } else if i = 1 then { x with a1 := v } else if i = 2 then { x with a2 := v } else if i = 3 then { x with a3 := v } else if i = 4 then { x with a4 := v } else if i = 5 then { x with a5 := v } else if i = 6 then { x with a6 := v } else { x with a7 := v }
@[go_sem] theorem A8.get_0 {α : Type} (x : A8 α) : x.get 0 = x.a0 := rfl
@[go_sem] theorem A8.put_0 {α : Type} (x : A8 α) (v : α) : x.put 0 v = { x with a0 := v } := rfl
@[go_sem] theorem A8.get_1 {α : Type} (x : A8 α) : x.get 1 = x.a1 := rfl
@[go_sem] theorem A8.put_1 {α : Type} (x : A8 α) (v : α) : x.put 1 v = { x with a1 := v } := rfl
@[go_sem] theorem A8.get_2 {α : Type} (x : A8 α) : x.get 2 = x.a2 := rfl
@[go_sem] theorem A8.put_2 {α : Type} (x : A8 α) (v : α) : x.put 2 v = { x with a2 := v } := rfl
@[go_sem] theorem A8.get_3 {α : Type} (x : A8 α) : x.get 3 = x.a3 := rfl
@[go_sem] theorem A8.put_3 {α : Type} (x : A8 α) (v : α) : x.put 3 v = { x with a3 := v } := rfl
@[go_sem] theorem A8.get_4 {α : Type} (x : A8 α) : x.get 4 = x.a4 := rfl
@[go_sem] theorem A8.put_4 {α : Type} (x : A8 α) (v : α) : x.put 4 v = { x with a4 := v } := rfl
@[go_sem] theorem A8.get_5 {α : Type} (x : A8 α) : x.get 5 = x.a5 := rfl
@[go_sem] theorem A8.put_5 {α : Type} (x : A8 α) (v : α) : x.put 5 v = { x with a5 := v } := rfl
@[go_sem] theorem A8.get_6 {α : Type} (x : A8 α) : x.get 6 = x.a6 := rfl
@[go_sem] theorem A8.put_6 {α : Type} (x : A8 α) (v : α) : x.put 6 v = { x with a6 := v } := rfl
@[go_sem] theorem A8.get_7 {α : Type} (x : A8 α) : x.get 7 = x.a7 := rfl
@[go_sem] theorem A8.put_7 {α : Type} (x : A8 α) (v : α) : x.put 7 v = { x with a7 := v } := rfl
theorem inb_8 {i : Int} (h : InB i 8) : i = 0 ∨ i = 1 ∨ i = 2 ∨ i = 3 ∨ i = 4 ∨ i = 5 ∨ i = 6 ∨ i = 7 := by obtain ⟨h1, h2⟩ := h; omega
def bytesI (l : List Int) : ByteArray := ⟨(l.map fun n => UInt8.ofNat n.toNat).toArray⟩
@[go_sem] theorem rowsStr_map (l : List Int) : rowsStr (l.map (eInt .u8)) = some (bytesI l) := by
  have h : ∀ l : List Int, (l.map (eInt .u8)).mapM rowByte = some (l.map fun n => UInt8.ofNat n.toNat) := by
    intro l
    induction l with
    | nil => rfl
    | cons n l ih => simp only [List.map_cons, List.mapM_cons, ih]; rfl
  unfold rowsStr; rw [h]; rfl
@[go_sem] theorem rowsStr_one (n : Int) : rowsStr [[.int .u8 n]] = some (bytesI [n]) := rfl
@[go_sem] theorem rowsStr_two (n m : Int) : rowsStr [[.int .u8 n], [.int .u8 m]] = some (bytesI [n, m]) := rfl
def onSum {α β γ : Type} (f : α → Option γ) (g : β → Option γ) : α ⊕ β → Option γ | .inl a => f a | .inr b => g b
theorem of_inl {α β γ : Type} {f : α → Option γ} {g : β → Option γ} {a : α} {x : Option γ} (h : onSum f g (.inl a) = x) : f a = x := h
theorem of_inr {α β γ : Type} {f : α → Option γ} {g : β → Option γ} {b : β} {x : Option γ} (h : onSum f g (.inr b) = x) : g b = x := h
attribute [go_sem] List.all_append List.all_cons List.all_nil
@[go_sem] theorem all_set {α : Type} {p : α → Bool} {l : List α} {i : Nat} {a : α} (hl : l.all p = true) (ha : p a = true) : (l.set i a).all p = true := by
  rw [List.all_eq_true] at hl ⊢
  intro x hx
  rcases List.mem_or_eq_of_mem_set hx with h | h
  · exact hl x h
  · rw [h]; exact ha
structure T_api_Flags where
  mk ::
  Z : Bool
  S : Bool
  C : Bool
  O : Bool
  deriving Inhabited, DecidableEq
@[go_sem] def e_api_Flags (x : T_api_Flags) : List AV := [.bool x.Z, .bool x.S, .bool x.C, .bool x.O]
@[go_sem] theorem rows1e_api_Flags (l : List T_api_Flags) : rows1 4 (l.map e_api_Flags) = true := rows1_map (k := 4) (f := e_api_Flags) (fun _ => ⟨rfl, rfl⟩) l
@[go_sem] theorem puree_api_Flags (l : List T_api_Flags) : (l.map e_api_Flags).all pureBs = true := by simp only [List.all_map, List.all_eq_true]; intro x _; rfl
@[go_sem] theorem belowe_api_Flags (n : Nat) (l : List T_api_Flags) : (l.map e_api_Flags).all (belowBs n) = true := by simp only [List.all_map, List.all_eq_true]; intro x _; rfl
@[go_sem] theorem lene_api_Flags (l : List T_api_Flags) : (l.map e_api_Flags).all (·.length == 4) = true := by simp only [List.all_map, List.all_eq_true]; intro x _; rfl
@[go_sem] theorem cle_api_Flags (l : List T_api_Flags) : (l.map e_api_Flags).all clB = true := cl_o (fun _ _ => rfl) l
@[go_sem] theorem rene_api_Flags {m : Nat → Nat} (l : List T_api_Flags) : (l.map e_api_Flags).map (rens m) = l.map e_api_Flags := ren_o (fun _ => rfl) l
@[go_sem] theorem frze_api_Flags (l : List T_api_Flags) : frzR (l.map e_api_Flags) = l.map e_api_Flags := frz_o (fun _ => rfl) l
@[go_sem] theorem oke_api_Flags (l : List T_api_Flags) : okR (l.map e_api_Flags) = true := ok_o (fun _ => rfl) l
structure T_api_Thr where
  mk ::
  Regs : (A8 Int)
  Flags : T_api_Flags
  PC : Int
  Phase : Int
  Latch : Int
  Status : Int
  deriving Inhabited, DecidableEq
@[go_sem] def e_api_Thr (x : T_api_Thr) : List AV := [.int .i64 x.Regs.a0, .int .i64 x.Regs.a1, .int .i64 x.Regs.a2, .int .i64 x.Regs.a3, .int .i64 x.Regs.a4, .int .i64 x.Regs.a5, .int .i64 x.Regs.a6, .int .i64 x.Regs.a7, .bool x.Flags.Z, .bool x.Flags.S, .bool x.Flags.C, .bool x.Flags.O, .int .i64 x.PC, .int .i64 x.Phase, .int .i64 x.Latch, .int .i64 x.Status]
@[go_sem] theorem rows1e_api_Thr (l : List T_api_Thr) : rows1 16 (l.map e_api_Thr) = true := rows1_map (k := 16) (f := e_api_Thr) (fun _ => ⟨rfl, rfl⟩) l
@[go_sem] theorem puree_api_Thr (l : List T_api_Thr) : (l.map e_api_Thr).all pureBs = true := by simp only [List.all_map, List.all_eq_true]; intro x _; rfl
@[go_sem] theorem belowe_api_Thr (n : Nat) (l : List T_api_Thr) : (l.map e_api_Thr).all (belowBs n) = true := by simp only [List.all_map, List.all_eq_true]; intro x _; rfl
@[go_sem] theorem lene_api_Thr (l : List T_api_Thr) : (l.map e_api_Thr).all (·.length == 16) = true := by simp only [List.all_map, List.all_eq_true]; intro x _; rfl
@[go_sem] theorem cle_api_Thr (l : List T_api_Thr) : (l.map e_api_Thr).all clB = true := cl_o (fun _ _ => rfl) l
@[go_sem] theorem rene_api_Thr {m : Nat → Nat} (l : List T_api_Thr) : (l.map e_api_Thr).map (rens m) = l.map e_api_Thr := ren_o (fun _ => rfl) l
@[go_sem] theorem frze_api_Thr (l : List T_api_Thr) : frzR (l.map e_api_Thr) = l.map e_api_Thr := frz_o (fun _ => rfl) l
@[go_sem] theorem oke_api_Thr (l : List T_api_Thr) : okR (l.map e_api_Thr) = true := ok_o (fun _ => rfl) l
structure T_api_Entry where
  mk ::
  Addr : Int
  Val : Int
  deriving Inhabited, DecidableEq
@[go_sem] def e_api_Entry (x : T_api_Entry) : List AV := [.int .i64 x.Addr, .int .i64 x.Val]
@[go_sem] theorem rows1e_api_Entry (l : List T_api_Entry) : rows1 2 (l.map e_api_Entry) = true := rows1_map (k := 2) (f := e_api_Entry) (fun _ => ⟨rfl, rfl⟩) l
@[go_sem] theorem puree_api_Entry (l : List T_api_Entry) : (l.map e_api_Entry).all pureBs = true := by simp only [List.all_map, List.all_eq_true]; intro x _; rfl
@[go_sem] theorem belowe_api_Entry (n : Nat) (l : List T_api_Entry) : (l.map e_api_Entry).all (belowBs n) = true := by simp only [List.all_map, List.all_eq_true]; intro x _; rfl
@[go_sem] theorem lene_api_Entry (l : List T_api_Entry) : (l.map e_api_Entry).all (·.length == 2) = true := by simp only [List.all_map, List.all_eq_true]; intro x _; rfl
@[go_sem] theorem cle_api_Entry (l : List T_api_Entry) : (l.map e_api_Entry).all clB = true := cl_o (fun _ _ => rfl) l
@[go_sem] theorem rene_api_Entry {m : Nat → Nat} (l : List T_api_Entry) : (l.map e_api_Entry).map (rens m) = l.map e_api_Entry := ren_o (fun _ => rfl) l
@[go_sem] theorem frze_api_Entry (l : List T_api_Entry) : frzR (l.map e_api_Entry) = l.map e_api_Entry := frz_o (fun _ => rfl) l
@[go_sem] theorem oke_api_Entry (l : List T_api_Entry) : okR (l.map e_api_Entry) = true := ok_o (fun _ => rfl) l
@[go_sem] theorem frzS24 (l : List (List T_api_Entry)) : frzR (l.map (oSl 2 42 e_api_Entry)) = l.map (eSl e_api_Entry) := frz_o (fun x => by simp only [oSl, eSl, frzL, frzC, frze_api_Entry]) l
@[go_sem] theorem setS24 {l : List (List T_api_Entry)} {i : Int} (h : InB i l.length) : (l.map (oSl 2 42 e_api_Entry)).set i.toNat [.boxsl ((rd l i).map e_api_Entry) 2 42] = l.map (oSl 2 42 e_api_Entry) := set_o h rfl
@[go_sem] theorem okS24 (l : List (List T_api_Entry)) : okR (l.map (oSl 2 42 e_api_Entry)) = true := ok_o (fun x => by simp only [oSl, okL, okC, oke_api_Entry, Bool.and_true]) l
structure T_api_State where
  mk ::
  Mem : (List Int)
  Thr : (List T_api_Thr)
  Bufs : (List (List T_api_Entry))
  Lock : Int
  deriving Inhabited, DecidableEq
@[go_sem] def e_api_State (x : T_api_State) : List AV := [.sl (x.Mem.map (eInt .i64)), .sl (x.Thr.map e_api_Thr), .sl (x.Bufs.map (eSl e_api_Entry)), .int .i64 x.Lock]
@[go_sem] theorem rows1e_api_State (l : List T_api_State) : rows1 4 (l.map e_api_State) = true := rows1_map (k := 4) (f := e_api_State) (fun _ => ⟨rfl, rfl⟩) l
@[go_sem] theorem puree_api_State (l : List T_api_State) : (l.map e_api_State).all pureBs = true := by simp only [List.all_map, List.all_eq_true]; intro x _; rfl
@[go_sem] theorem belowe_api_State (n : Nat) (l : List T_api_State) : (l.map e_api_State).all (belowBs n) = true := by simp only [List.all_map, List.all_eq_true]; intro x _; rfl
@[go_sem] theorem lene_api_State (l : List T_api_State) : (l.map e_api_State).all (·.length == 4) = true := by simp only [List.all_map, List.all_eq_true]; intro x _; rfl
@[go_sem] theorem cle_api_State (l : List T_api_State) : (l.map e_api_State).all clB = true := cl_o (fun _ _ => rfl) l
@[go_sem] theorem rene_api_State {m : Nat → Nat} (l : List T_api_State) : (l.map e_api_State).map (rens m) = l.map e_api_State := ren_o (fun _ => rfl) l
@[go_sem] theorem frze_api_State (l : List T_api_State) : frzR (l.map e_api_State) = l.map e_api_State := frz_o (fun _ => rfl) l
@[go_sem] theorem oke_api_State (l : List T_api_State) : okR (l.map e_api_State) = true := ok_o (fun _ => rfl) l
@[go_sem] def o_api_State (x : T_api_State) : List AV := [.boxsl (x.Mem.map (eInt .i64)) 1 2, .boxsl (x.Thr.map e_api_Thr) 16 39, .boxsl (x.Bufs.map (oSl 2 42 e_api_Entry)) 1 40, .int .i64 x.Lock]
@[go_sem] theorem belowo_api_State (n : Nat) (l : List T_api_State) : (l.map o_api_State).all (belowBs n) = true := below_o (fun _ _ => rfl) n l
@[go_sem] theorem clo_api_State (l : List T_api_State) : (l.map o_api_State).all clB = true := cl_o (fun _ _ => rfl) l
@[go_sem] theorem reno_api_State {m : Nat → Nat} (l : List T_api_State) : (l.map o_api_State).map (rens m) = l.map o_api_State := ren_o (fun _ => rfl) l
@[go_sem] theorem leno_api_State (l : List T_api_State) : (l.map o_api_State).all (·.length == 4) = true := len_o (f := o_api_State) (k := 4) (fun _ => rfl) l
@[go_sem] theorem frzo_api_State (l : List T_api_State) : frzR (l.map o_api_State) = l.map e_api_State := frz_o (fun x => by simp only [o_api_State, e_api_State, frzL, frzC, go_sem]) l
@[go_sem] theorem oko_api_State (l : List T_api_State) : okR (l.map o_api_State) = true := ok_o (fun x => by simp only [o_api_State, okL, okC, pureB, Bool.and_true, Bool.true_and, go_sem]) l
@[go_sem] theorem seto_api_State {l : List T_api_State} {i : Int} (h : InB i l.length) : (l.map o_api_State).set i.toNat [.boxsl (((rd l i).Mem).map (eInt .i64)) 1 2, .boxsl (((rd l i).Thr).map e_api_Thr) 16 39, .boxsl (((rd l i).Bufs).map (oSl 2 42 e_api_Entry)) 1 40, .int .i64 ((rd l i).Lock)] = l.map o_api_State := set_o h rfl
end Go.Vs
