import Derived.Test.YtlolkehjlkmcbaaDoorPalSt2
/-! The text of a state: both are one. -/
set_option linter.unusedVariables false
set_option linter.unusedSimpArgs false
set_option linter.unusedSectionVars false
set_option maxRecDepth 10000
namespace Go.Vs
open Go.Lib
local instance tabPalSt3 : Tab := ⟨fun _ => none⟩
structure ThrI (x : T_api_Thr) : Prop where
  r0 : I64 x.Regs.a0
  r1 : I64 x.Regs.a1
  r2 : I64 x.Regs.a2
  r3 : I64 x.Regs.a3
  r4 : I64 x.Regs.a4
  r5 : I64 x.Regs.a5
  r6 : I64 x.Regs.a6
  r7 : I64 x.Regs.a7
  pc : I64 x.PC
  ph : I64 x.Phase
  la : I64 x.Latch
  st : I64 x.Status
structure StI (s : T_api_State) : Prop where
  mem : ∀ x ∈ s.Mem, I64 x
  thr : ∀ x ∈ s.Thr, ThrI x
  ent : ∀ l ∈ s.Bufs, ∀ x ∈ l, I64 x.Addr ∧ I64 x.Val
  lock : I64 s.Lock
def regsL (x : T_api_Thr) : List Int := [x.Regs.a0, x.Regs.a1, x.Regs.a2, x.Regs.a3, x.Regs.a4, x.Regs.a5, x.Regs.a6, x.Regs.a7]
theorem regs_i {x : T_api_Thr} (h : ThrI x) : ∀ y ∈ regsL x, I64 y := by
  intro y hy
  simp only [regsL, List.mem_cons, List.not_mem_nil, or_false] at hy
  rcases hy with rfl | rfl | rfl | rfl | rfl | rfl | rfl | rfl
  · exact h.r0
  · exact h.r1
  · exact h.r2
  · exact h.r3
  · exact h.r4
  · exact h.r5
  · exact h.r6
  · exact h.r7
def thrT (x : T_api_Thr) : ByteArray := (⟨#[124]⟩ : ByteArray) ++ itoaB x.PC ++ (⟨#[46]⟩ : ByteArray) ++ itoaB x.Phase ++ (⟨#[46]⟩ : ByteArray) ++ itoaB x.Latch ++ (⟨#[46]⟩ : ByteArray) ++ itoaB x.Status ++ (⟨#[46]⟩ : ByteArray) ++ flB x.Flags ++ (⟨#[46]⟩ : ByteArray) ++ nums (regsL x)
theorem flB_size (f : T_api_Flags) : (flB f).size = 4 := by simp only [flB, ByteArray.size_append, bitB_size]
theorem thrT_size {x : T_api_Thr} (h : ThrI x) : (thrT x).size ≤ 300 := by
  have h1 := itoaB_size h.pc
  have h2 := itoaB_size h.ph
  have h3 := itoaB_size h.la
  have h4 := itoaB_size h.st
  have h5 : (nums (regsL x)).size ≤ 176 := nums_size (regs_i h)
  have h6 := flB_size x.Flags
  simp only [thrT, ByteArray.size_append, l1]; omega
def entT (e : T_api_Entry) : ByteArray := itoaB e.Addr ++ (⟨#[61]⟩ : ByteArray) ++ itoaB e.Val
theorem entT_size {e : T_api_Entry} (h : I64 e.Addr ∧ I64 e.Val) : (entT e).size ≤ 43 := by
  have h1 := itoaB_size h.1
  have h2 := itoaB_size h.2
  simp only [entT, ByteArray.size_append, l1]; omega
def bufT (l : List T_api_Entry) : ByteArray := (⟨#[40]⟩ : ByteArray) ++ sepG entT 0 ⟨#[]⟩ l ++ (⟨#[41]⟩ : ByteArray)
theorem bufT_size {l : List T_api_Entry} (hl : l.length ≤ 13) (h : ∀ x ∈ l, I64 x.Addr ∧ I64 x.Val) : (bufT l).size ≤ 600 := by
  have h1 := sepG_size entT 43 l 0 ⟨#[]⟩ (fun x hx => entT_size (h x hx))
  rw [l0] at h1
  simp only [bufT, ByteArray.size_append, l1]; omega
def txt (s : T_api_State) : ByteArray := catG bufT (catG thrT (nums s.Mem) s.Thr) s.Bufs ++ ((⟨#[35]⟩ : ByteArray) ++ itoaB s.Lock)
theorem st_ents (p0 : T_api_State) (i : Nat) (x : List T_api_Entry) (hx : p0.Bufs[i]? = some x) (hl : x.length ≤ 13) (h : ∀ e ∈ x, I64 e.Addr ∧ I64 e.Val) (s : ByteArray) (hs : s.size ≤ 1000000) :
    loopO (state_Text_s3 p0 (i : Int)) (0, s) = some (s ++ sepG entT 0 ⟨#[]⟩ x) := by
  have := loop_sep entT 43 1000000 x (fun e he => entT_size (h e he)) (fun k s => (k, s)) (state_Text_s3 p0 (i : Int)) (fun s => s) s hs (fun k e he s hs => by
    have hk : k < x.length := (List.getElem?_eq_some_iff.1 he).1
    have hi := h e (List.mem_of_getElem? he)
    have hz1 := itoaB_size hi.1
    have hz2 := itoaB_size hi.2
    simp only [state_Text_s3, rd_at hx]
    rw [if_pos (lt_at he), if_pos (inb_at he)]
    unfold sepS
    by_cases h0 : 0 < k
    · rw [if_pos (by simpa using h0), if_pos (by unfold Fits; rw [l1]; omega)]
      simp only [state_Text_j2, state_Text_j1, rd_at hx, rd_at he, num_Text_eq hi.1, num_Text_eq hi.2, Option.bind_some, if_pos h0]
      repeat (rw [if_pos]; rotate_left; · first | (unfold CatOk; (try simp only [ByteArray.size_append, l1, l0]); omega) | (unfold Fits; (try simp only [ByteArray.size_append, l1, l0]); omega))
      rw [wi (by omega)]
      rfl
    · rw [if_neg (by simpa using h0)]
      simp only [state_Text_j2, state_Text_j1, rd_at hx, rd_at he, num_Text_eq hi.1, num_Text_eq hi.2, Option.bind_some, if_neg h0]
      repeat (rw [if_pos]; rotate_left; · first | (unfold CatOk; (try simp only [ByteArray.size_append, l1, l0]); omega) | (unfold Fits; (try simp only [ByteArray.size_append, l1, l0]); omega))
      rw [wi (by omega)]
      rfl) (fun s => by
    simp only [state_Text_s3, rd_at hx]
    rw [if_neg (by simp)])
  rw [sepG_empty] at this
  exact this
theorem st_Text_eq (p : T_api_State) (hq : Small p) (hi : StI p) : state_Text p = some (txt p) := by
  unfold state_Text
  have hm := nums_size hi.mem
  have hm1 := hq.mem
  rw [numbers_eq _ _ (by rw [l0]; omega) (by have := hq.mem; omega) hi.mem, Option.bind_some, show (⟨#[]⟩ : ByteArray) ++ nums p.Mem = nums p.Mem from ByteArray.empty_append]
  have hs1 := catG_size thrT 300 p.Thr (nums p.Mem) (fun x hx => thrT_size (hi.thr x hx))
  have ht := hq.thr
  have hb := hq.buf
  have L1 := loop_cat thrT 300 690 p.Thr (fun x hx => thrT_size (hi.thr x hx)) (fun i s => (i, s)) (state_Text_s1 p) (fun s => s) (nums p.Mem) (by omega) (fun i x hx s hs => by
    have hil : i < p.Thr.length := (List.getElem?_eq_some_iff.1 hx).1
    have w := hi.thr x (List.mem_of_getElem? hx)
    have h1 := itoaB_size w.pc
    have h2 := itoaB_size w.ph
    have h3 := itoaB_size w.la
    have h4 := itoaB_size w.st
    have h5 : (nums (regsL x)).size ≤ 176 := nums_size (regs_i w)
    have h6 := flB_size x.Flags
    have hr : ∀ s : ByteArray, s.size ≤ 1000000 → state_numbers s [x.Regs.a0, x.Regs.a1, x.Regs.a2, x.Regs.a3, x.Regs.a4, x.Regs.a5, x.Regs.a6, x.Regs.a7] = some (s ++ nums (regsL x)) := fun s hs => numbers_eq s (regsL x) hs (by simp [regsL]) (regs_i w)
    simp only [state_Text_s1, rd_at hx, num_Text_eq w.pc, num_Text_eq w.ph, num_Text_eq w.la, num_Text_eq w.st, flags_eq, Option.bind_some]
    rw [if_pos (lt_at hx), if_pos (inb_at hx)]
    repeat (rw [if_pos]; rotate_left; · first | (unfold CatOk; (try simp only [ByteArray.size_append, l1, l0]); omega) | (unfold Fits; (try simp only [ByteArray.size_append, l1, l0]); omega))
    rw [hr _ (by simp only [ByteArray.size_append, l1]; omega), Option.bind_some, wi (by omega)]
    simp only [thrT, ByteArray.append_assoc]) (fun s => by
    simp only [state_Text_s1]
    rw [if_neg (by simp)])
  rw [L1, Option.bind_some]
  have hs2 := catG_size bufT 600 p.Bufs (catG thrT (nums p.Mem) p.Thr) (fun x hx => bufT_size (hq.ent x hx) (hi.ent x hx))
  have L2 := loop_cat bufT 600 3100 p.Bufs (fun x hx => bufT_size (hq.ent x hx) (hi.ent x hx)) (fun i s => (i, s)) (state_Text_s2 p) (fun s => s) (catG thrT (nums p.Mem) p.Thr) (by omega) (fun i x hx s hs => by
    have hil : i < p.Bufs.length := (List.getElem?_eq_some_iff.1 hx).1
    have h1 := sepG_size entT 43 x 0 ⟨#[]⟩ (fun y hy => entT_size (hi.ent x (List.mem_of_getElem? hx) y hy))
    rw [l0] at h1
    have h2 := hq.ent x (List.mem_of_getElem? hx)
    simp only [state_Text_s2]
    rw [if_pos (lt_at hx), if_pos (inb_at hx), if_pos (by unfold Fits; rw [l1]; omega)]
    simp only [Option.bind_some]
    rw [st_ents p i x hx h2 (hi.ent x (List.mem_of_getElem? hx)) _ (by rw [ByteArray.size_append, l1]; omega)]
    simp only [Option.bind_some]
    repeat (rw [if_pos]; rotate_left; · first | (unfold CatOk; (try simp only [ByteArray.size_append, l1, l0]); omega) | (unfold Fits; (try simp only [ByteArray.size_append, l1, l0]); omega))
    rw [wi (by omega)]
    simp only [bufT, ByteArray.append_assoc]) (fun s => by
    simp only [state_Text_s2]
    rw [if_neg (by simp)])
  rw [L2, Option.bind_some]
  have hl := itoaB_size hi.lock
  simp only [num_Text_eq hi.lock, Option.bind_some]
  repeat (rw [if_pos]; rotate_left; · first | (unfold CatOk; (try simp only [ByteArray.size_append, l1, l0]); omega) | (unfold Fits; (try simp only [ByteArray.size_append, l1, l0]); omega))
  simp only [txt, ByteArray.append_assoc]
end Go.Vs
