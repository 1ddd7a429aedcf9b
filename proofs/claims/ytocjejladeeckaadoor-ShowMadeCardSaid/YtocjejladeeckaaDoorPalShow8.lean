import Derived.Test.YtocjejladeeckaaDoorPalShow7
/-! The text of a program, the document's way. -/
set_option linter.unusedVariables false
set_option linter.unusedSimpArgs false
set_option linter.unusedSectionVars false
namespace Go.Vs
open Go.Lib
local instance tabPalShow8 : Tab := ⟨fun _ => none⟩
theorem rshow_inits (p : T_api_Prog) (i : Nat) (s : T_api_Sym) (hx : p.Syms[i]? = some s) (hk : SymOk s) (a : ByteArray) (ha : a.size ≤ 2000000) : loopO (palingref1_Show_s2 i p) (a, 0) = some (s.Init.foldl initT a) := by
  have hn := hk.n
  refine loop_foldl s.Init (fun i (a : ByteArray) => (a, i)) (palingref1_Show_s2 i p) initT id (·.size) 2000000 22 a ha (fun a x hx => initT_size (hk.init x hx)) (fun j v hv b hb => ?_) (fun b => ?_)
  · have hj : j ≤ 1000 := by have := (List.getElem?_eq_some_iff.1 hv).1; omega
    have hz := itoaB_size (hk.init v (List.mem_of_getElem? hv))
    simp only [palingref1_Show_s2]
    simp only [rd_at hx, if_pos (inb_at hx)]
    rw [if_pos (lt_at hv), if_pos (inb_at hv), rd_at hv, palingref1_Text_eq _ (hk.init v (List.mem_of_getElem? hv)), wi (by omega)]
    simp only [Option.bind_some]
    rw [if_pos (catB (by rw [z1]; omega)), if_pos (catB (by rw [app_size, z1]; omega))]
    rfl
  · simp only [palingref1_Show_s2, rd_at hx, if_pos (inb_at hx)]
    rw [if_neg (by simp)]; rfl
theorem rshow_syms (p : T_api_Prog) (hp : ProgOk p) : loopO (palingref1_Show_s1 p) ((⟨#[]⟩ : ByteArray), 0) = some (p.Syms.foldl symT ⟨#[]⟩) := by
  have hn := hp.ns
  refine loop_foldl p.Syms (fun i (b : ByteArray) => (b, i)) (palingref1_Show_s1 p) symT id (·.size) 0 3300 ⟨#[]⟩ (by simp [z7])
    (fun b s hs => symT_size (hp.sym s hs) b) (fun j s hs b hb => ?_) (fun b => ?_)
  · have hj : j ≤ 100 := by have := (List.getElem?_eq_some_iff.1 hs).1; omega
    have hj2 : j * 3300 ≤ 100 * 3300 := Nat.mul_le_mul_right _ hj
    have hk := hp.sym s (List.mem_of_getElem? hs)
    have hz := itoaB_size hk.size
    have hm := hk.name
    have hh := symHead_size hk
    have hin := inits_size hk (b ++ symHead s)
    try simp only at hb
    simp only [palingref1_Show_s1]
    simp only [if_pos (lt_at hs), if_pos (inb_at hs), rd_at hs]
    rw [palingref1_Text_eq _ hk.size, wi (by omega)]
    simp only [Option.bind_some]
    have c1 : CatOk (⟨#[115, 121, 109, 32]⟩ : ByteArray) s.Name := catB (by rw [z3]; omega)
    have c2 : CatOk ((⟨#[115, 121, 109, 32]⟩ : ByteArray) ++ s.Name) (⟨#[32]⟩ : ByteArray) := catB (by rw [app_size, z3, z1]; omega)
    have c3 : CatOk (((⟨#[115, 121, 109, 32]⟩ : ByteArray) ++ s.Name) ++ (⟨#[32]⟩ : ByteArray)) (itoaB s.Size) := catB (by rw [app_size, app_size, z3, z1]; omega)
    simp only [if_pos c1, if_pos c2, if_pos c3]
    have e : ((((⟨#[115, 121, 109, 32]⟩ : ByteArray) ++ s.Name) ++ (⟨#[32]⟩ : ByteArray)) ++ itoaB s.Size) = symHead s := rfl
    rw [e, if_pos (catB (show b.size + (symHead s).size ≤ _ by omega))]
    rw [rshow_inits p j s hs hk _ (by rw [app_size]; omega)]
    simp only [Option.bind_some]
    rw [if_pos (catB (by rw [app_size] at hin; rw [z2]; omega))]
    rfl
  · simp only [palingref1_Show_s1]
    rw [if_neg (by simp)]; rfl
theorem rshow_labs (x : T_api_Ins) (hk : LabOk x) (a : ByteArray) (ha : a.size ≤ 2000000000) : loopO (palingref1_Show_s5 x.Labels) (a, 0) = some (x.Labels.foldl labT a) := by
  have hn := hk.n
  refine loop_foldl x.Labels (fun i (a : ByteArray) => (a, i)) (palingref1_Show_s5 x.Labels) labT id (·.size) 2000000000 1002 a ha (fun a s hs => by have := hk.lab s hs; unfold labT; simp only [app_size, z4]; omega) (fun j s hs b hb => ?_) (fun b => ?_)
  · have hj : j ≤ 100 := by have := (List.getElem?_eq_some_iff.1 hs).1; omega
    have hj2 : j * 1002 ≤ 100 * 1002 := Nat.mul_le_mul_right _ hj
    have hz := hk.lab s (List.mem_of_getElem? hs)
    simp only [palingref1_Show_s5]
    rw [if_pos (lt_at hs), if_pos (inb_at hs), rd_at hs, wi (by omega), if_pos (catB (by rw [z4]; omega)), if_pos (catB (by rw [app_size, z4]; omega))]
    rfl
  · simp only [palingref1_Show_s5]
    rw [if_neg (by simp)]; rfl
theorem rshow_lines (p : T_api_Prog) (i : Nat) (t : T_api_Thread) (hx : p.Threads[i]? = some t) (hk : ThOk t) (syms : List ByteArray) (hq : Names syms) (a : ByteArray) (ha : a.size ≤ 1500000000) :
    loopO (palingref1_Show_s4 i p syms) (a, 0) = some (t.Ins.foldl (lineT syms) a) := by
  have hn := hk.n
  refine loop_foldl t.Ins (fun i (a : ByteArray) => (a, i)) (palingref1_Show_s4 i p syms) (lineT syms) id (·.size) 1500000000 102400 a ha (fun a x hx => lineT_size hq (hk.ins x hx) a) (fun j x hs b hb => ?_) (fun b => ?_)
  · have hj : j ≤ 100 := by have := (List.getElem?_eq_some_iff.1 hs).1; omega
    have hj2 : j * 102400 ≤ 100 * 102400 := Nat.mul_le_mul_right _ hj
    have hl := hk.ins x (List.mem_of_getElem? hs)
    have hz := insT_size x syms hl hq
    have hls := labs_size hl b
    try simp only at hb
    simp only [palingref1_Show_s4]
    simp only [rd_at hx, if_pos (inb_at hx)]
    rw [if_pos (lt_at hs), if_pos (inb_at hs)]
    simp only [rd_at hs, Option.bind_some]
    have eta : T_api_Ins.mk x.Op x.Lock x.Cond x.A x.B x.To x.Labels = x := rfl
    rw [eta, rshow_labs x hl b (by omega), ref_ShowIns_eq x syms hl.toInsOk hq.syms, wi (by omega)]
    simp only [Option.bind_some]
    rw [if_pos (catB (by rw [z5]; omega)), if_pos (catB (by rw [app_size, z5, z2]; omega)), if_pos (catB (by simp only [app_size, z5, z2]; omega))]
    rfl
  · simp only [palingref1_Show_s4, rd_at hx, if_pos (inb_at hx)]
    rw [if_neg (by simp)]; rfl
theorem ref_SymNames_eq (p : T_api_Prog) (hn : p.Syms.length ≤ 1000000) : palingref1_SymNames p = some (symNames p) := by
  unfold palingref1_SymNames
  have := loop_foldl p.Syms (fun i (b : List ByteArray) => (i, b)) (palingref1_SymNames_s1 p) (fun b s => b ++ [s.Name]) id (·.length) 0 1 [] (by simp) (fun b s hs => by simp) (fun j s hs b hb => ?_) (fun b => ?_)
  · rw [this]
    simp only [Option.bind_some, id]
    have key : ∀ (l : List T_api_Sym) (L : List ByteArray), l.foldl (fun b s => b ++ [s.Name]) L = L ++ l.map (·.Name) := by
      intro l
      induction l with
      | nil => intro L; simp
      | cons s l ih => intro L; simp only [List.foldl_cons]; rw [ih]; simp
    rw [key]; rfl
  · have hj : j < 1000000 := by have := (List.getElem?_eq_some_iff.1 hs).1; omega
    simp only [palingref1_SymNames_s1]
    rw [if_pos (lt_at hs), if_pos (inb_at hs), rd_at hs, wi (by omega), if_pos (show Fits (b.length + 1) from by unfold Fits; omega)]
    rfl
  · simp only [palingref1_SymNames_s1]
    rw [if_neg (by simp)]; rfl
theorem ref_Show_eq (p : T_api_Prog) (hp : ProgOk p) : palingref1_Show p = some (showT p) := by
  have hn := hp.nt
  have hnm := symNames_ok hp
  have hns := hp.ns
  unfold palingref1_Show showT
  rw [ref_Check_eq p hp]
  simp only [Option.bind_some]
  split
  · rfl
  rw [rshow_syms p hp, ref_SymNames_eq p (by omega)]
  simp only [Option.bind_some]
  have hsz : (p.Syms.foldl symT ⟨#[]⟩).size ≤ 330000 := by
    have := foldl_size symT 3300 p.Syms (fun a s hs => symT_size (hp.sym s hs) a) ⟨#[]⟩
    have : p.Syms.length * 3300 ≤ 100 * 3300 := Nat.mul_le_mul_right _ hp.ns
    rw [z7] at *; omega
  have := loop_foldl p.Threads (fun i (a : ByteArray) => (a, i)) (palingref1_Show_s3 p (symNames p)) (thT (symNames p)) id (·.size) 330000 10241000 _ hsz (fun a t ht => thT_size hnm (hp.th t ht) a) (fun j t hs b hb => ?_) (fun b => ?_)
  · rw [this]
    simp only [Option.bind_some, id]
  · have hj : j < 100 := by have := (List.getElem?_eq_some_iff.1 hs).1; omega
    have hj2 : j * 10241000 ≤ 100 * 10241000 := Nat.mul_le_mul_right _ (by omega)
    try simp only at hb
    simp only [palingref1_Show_s3]
    rw [if_pos (lt_at hs), if_pos (catB (by rw [z6]; omega)), wi (by omega)]
    rw [rshow_lines p j t hs (hp.th t (List.mem_of_getElem? hs)) (symNames p) hnm _ (by rw [app_size, z6]; omega)]
    rfl
  · simp only [palingref1_Show_s3]
    rw [if_neg (by simp)]; rfl
end Go.Vs
