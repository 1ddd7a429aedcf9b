import Derived.Test.YtlolkehjlkmcbaaDoorPalSt5
/-! Two states of one text are one. -/
set_option linter.unusedVariables false
set_option linter.unusedSimpArgs false
set_option linter.unusedSectionVars false
namespace Go.Vs
open Go.Lib
local instance tabPalSt6 : Tab := ⟨fun _ => none⟩
theorem bl_itoaB (n : Int) : (itoaB n).data.toList = itoa n := by unfold itoaB; rw [bl_bs]
theorem itoa_head0 (n : Int) : ∃ c q, itoa n = c :: q ∧ numB c = true := by
  have h := itoa_numB n
  cases e : itoa n with
  | nil => exact absurd e (itoa_ne n)
  | cons c q => rw [e, List.all_cons, Bool.and_eq_true] at h; exact ⟨c, q, rfl, h.1⟩
theorem bl_nums (l : List Int) : (nums l).data.toList = listL itoa l := by
  unfold nums
  rw [bl_sep0]
  simp only [bl_itoaB]
theorem nums_read {l l' : List Int} {r s : List UInt8} (hl : ∀ x ∈ l, I64 x) (hl' : ∀ x ∈ l', I64 x) (hr : Stop r) (hs : Stop s) (h1 : r.head? ≠ some 44) (h2 : s.head? ≠ some 44) (h : listL itoa l ++ r = listL itoa l' ++ s) : l = l' ∧ r = s :=
  list_read (W := I64) (fun x y r s hx hy hr hs h => num_read hx hy hr hs h) itoa_head0 hl hl' hr hs h1 h2 h
def entL (e : T_api_Entry) : List UInt8 := itoa e.Addr ++ 61 :: itoa e.Val
theorem bl_entT (e : T_api_Entry) : (entT e).data.toList = entL e := by
  simp [entT, entL, bl_append, bl_itoaB]
theorem ent_read (x y : T_api_Entry) (r s : List UInt8) (hx : I64 x.Addr ∧ I64 x.Val) (hy : I64 y.Addr ∧ I64 y.Val) (hr : Stop r) (hs : Stop s) (h : entL x ++ r = entL y ++ s) : x = y ∧ r = s := by
  obtain ⟨a, v⟩ := x; obtain ⟨a', v'⟩ := y
  simp only [entL, List.append_assoc, List.cons_append] at h
  obtain ⟨e1, h1⟩ := num_read hx.1 hy.1 (stop_cons (by decide)) (stop_cons (by decide)) h
  obtain ⟨e2, h2⟩ := num_read hx.2 hy.2 hr hs (List.cons.inj h1).2
  simp only at e1 e2
  subst e1 e2
  exact ⟨rfl, h2⟩
def bufL (l : List T_api_Entry) : List UInt8 := 40 :: (listL entL l ++ [41])
theorem bl_bufT (l : List T_api_Entry) : (bufT l).data.toList = bufL l := by
  simp only [bufT, bl_append, bl_sep0, bl_entT, bufL]
  simp
theorem buf_read (x y : List T_api_Entry) (r s : List UInt8) (hx : ∀ e ∈ x, I64 e.Addr ∧ I64 e.Val) (hy : ∀ e ∈ y, I64 e.Addr ∧ I64 e.Val) (h : bufL x ++ r = bufL y ++ s) : x = y ∧ r = s := by
  simp only [bufL, List.cons_append, List.append_assoc, List.nil_append] at h
  have h := (List.cons.inj h).2
  obtain ⟨e1, e2⟩ := list_read (W := fun e : T_api_Entry => I64 e.Addr ∧ I64 e.Val) (fun x y r s hx hy hr hs h => ent_read x y r s hx hy hr hs h) (fun e => by
    obtain ⟨c, q, e1, e2⟩ := itoa_head0 e.Addr
    exact ⟨c, q ++ 61 :: itoa e.Val, by simp [entL, e1], e2⟩) hx hy (stop_cons (by decide)) (stop_cons (by decide)) (by simp) (by simp) h
  exact ⟨e1, (List.cons.inj e2).2⟩
def bitL (b : Bool) : UInt8 := if b = true then 49 else 48
theorem bl_bit (b : Bool) : (bitB b).data.toList = [bitL b] := by cases b <;> rfl
theorem bit_inj {a b : Bool} (h : bitL a = bitL b) : a = b := by cases a <;> cases b <;> first | rfl | (exact absurd h (by decide))
def thrL (x : T_api_Thr) : List UInt8 := 124 :: (itoa x.PC ++ 46 :: (itoa x.Phase ++ 46 :: (itoa x.Latch ++ 46 :: (itoa x.Status ++ 46 :: bitL x.Flags.Z :: bitL x.Flags.S :: bitL x.Flags.C :: bitL x.Flags.O :: 46 :: listL itoa (regsL x)))))
theorem bl_thrT (x : T_api_Thr) : (thrT x).data.toList = thrL x := by
  simp [thrT, thrL, flB, bl_append, bl_itoaB, bl_bit, bl_nums]
theorem thr_read (x y : T_api_Thr) (r s : List UInt8) (hx : ThrI x) (hy : ThrI y) (hr : Stop r ∧ r.head? ≠ some 44) (hs : Stop s ∧ s.head? ≠ some 44) (h : thrL x ++ r = thrL y ++ s) : x = y ∧ r = s := by
  simp only [thrL, List.cons_append, List.append_assoc] at h
  have dt : numB 46 = false := by decide
  have h := (List.cons.inj h).2
  obtain ⟨e1, h⟩ := num_read hx.pc hy.pc (stop_cons dt) (stop_cons dt) h
  obtain ⟨e2, h⟩ := num_read hx.ph hy.ph (stop_cons dt) (stop_cons dt) (List.cons.inj h).2
  obtain ⟨e3, h⟩ := num_read hx.la hy.la (stop_cons dt) (stop_cons dt) (List.cons.inj h).2
  obtain ⟨e4, h⟩ := num_read hx.st hy.st (stop_cons dt) (stop_cons dt) (List.cons.inj h).2
  simp only [List.cons.injEq, true_and] at h
  obtain ⟨b1, b2, b3, b4, h⟩ := h
  obtain ⟨e5, h⟩ := nums_read (regs_i hx) (regs_i hy) hr.1 hs.1 hr.2 hs.2 h
  refine ⟨?_, h⟩
  have g1 := bit_inj b1
  have g2 := bit_inj b2
  have g3 := bit_inj b3
  have g4 := bit_inj b4
  clear b1 b2 b3 b4
  obtain ⟨⟨a0, a1, a2, a3, a4, a5, a6, a7⟩, ⟨z, u, c, o⟩, p, q, l, t⟩ := x
  obtain ⟨⟨c0, c1, c2, c3, c4, c5, c6, c7⟩, ⟨z', u', c', o'⟩, p', q', l', t'⟩ := y
  simp only [regsL, List.cons.injEq, and_true] at e5
  obtain ⟨f0, f1, f2, f3, f4, f5, f6, f7⟩ := e5
  simp only at e1 e2 e3 e4 g1 g2 g3 g4
  subst e1 e2 e3 e4 g1 g2 g3 g4 f0 f1 f2 f3 f4 f5 f6 f7
  rfl
theorem cat_read {α : Type} {t : α → List UInt8} {W : α → Prop} {R : List UInt8 → Prop} {c0 : UInt8} (ht : ∀ x y r s, W x → W y → R r → R s → t x ++ r = t y ++ s → x = y ∧ r = s) (h0 : ∀ x, ∃ q, t x = c0 :: q) (hR : ∀ r, R (c0 :: r)) :
    ∀ {l l' : List α} {r s : List UInt8}, (∀ x ∈ l, W x) → (∀ x ∈ l', W x) → R r → R s → r.head? ≠ some c0 → s.head? ≠ some c0 → l.flatMap t ++ r = l'.flatMap t ++ s → l = l' ∧ r = s
  | [], [], r, s, _, _, _, _, _, _, h => ⟨rfl, by simpa using h⟩
  | [], y :: l', r, s, _, _, _, _, h1, _, h => by
    exfalso; apply h1
    obtain ⟨q, e⟩ := h0 y
    simp only [List.flatMap_nil, List.nil_append, List.flatMap_cons, e] at h
    rw [h]; rfl
  | x :: l, [], r, s, _, _, _, _, _, h2, h => by
    exfalso; apply h2
    obtain ⟨q, e⟩ := h0 x
    simp only [List.flatMap_nil, List.nil_append, List.flatMap_cons, e] at h
    rw [← h]; rfl
  | x :: l, y :: l', r, s, hl, hl', hr, hs, h1, h2, h => by
    have st : ∀ (l : List α) (r : List UInt8), R r → R (l.flatMap t ++ r) := fun l r hr => by
      cases l with
      | nil => simpa using hr
      | cons z l => obtain ⟨q, e⟩ := h0 z; simp only [List.flatMap_cons, e, List.cons_append]; exact hR _
    simp only [List.flatMap_cons, List.append_assoc] at h
    obtain ⟨e1, e2⟩ := ht x y _ _ (hl x (List.mem_cons_self ..)) (hl' y (List.mem_cons_self ..)) (st l r hr) (st l' s hs) h
    obtain ⟨e3, e4⟩ := cat_read ht h0 hR (fun z hz => hl z (List.mem_cons_of_mem _ hz)) (fun z hz => hl' z (List.mem_cons_of_mem _ hz)) hr hs h1 h2 e2
    exact ⟨by rw [e1, e3], e4⟩
theorem bl_catG {α : Type} (t : α → ByteArray) : ∀ (l : List α) (s : ByteArray), (catG t s l).data.toList = s.data.toList ++ l.flatMap fun x => (t x).data.toList
  | [], s => by simp [catG]
  | x :: l, s => by
    simp only [catG]
    rw [bl_catG t l]
    simp [bl_append]
theorem bl_txt (s : T_api_State) : (txt s).data.toList = listL itoa s.Mem ++ (s.Thr.flatMap thrL ++ (s.Bufs.flatMap bufL ++ 35 :: itoa s.Lock)) := by
  simp only [txt, bl_append, bl_catG, bl_nums, bl_thrT, bl_bufT, bl_itoaB]
  simp
theorem txt_inj {a b : T_api_State} (ha : StI a) (hb : StI b) (h : txt a = txt b) : a = b := by
  have h := congrArg (fun x => x.data.toList) h
  simp only [bl_txt] at h
  have hd : ∀ (T : List T_api_Thr) (B : List (List T_api_Entry)) (n : Int), Stop (T.flatMap thrL ++ (B.flatMap bufL ++ 35 :: itoa n)) ∧ (T.flatMap thrL ++ (B.flatMap bufL ++ 35 :: itoa n)).head? ≠ some 44 := fun T B n => by
    cases T with
    | cons x T => exact ⟨stop_cons (by decide), by simp [thrL]⟩
    | nil => cases B with
      | cons x B => exact ⟨stop_cons (by decide), by simp [bufL]⟩
      | nil => exact ⟨stop_cons (by decide), by simp⟩
  have hd2 : ∀ (B : List (List T_api_Entry)) (n : Int), (Stop (B.flatMap bufL ++ 35 :: itoa n) ∧ (B.flatMap bufL ++ 35 :: itoa n).head? ≠ some 44) ∧ (B.flatMap bufL ++ 35 :: itoa n).head? ≠ some 124 := fun B n => by
    refine ⟨hd [] B n, ?_⟩
    cases B with
    | cons x B => simp [bufL]
    | nil => simp
  obtain ⟨e1, h⟩ := nums_read ha.mem hb.mem (hd _ _ _).1 (hd _ _ _).1 (hd _ _ _).2 (hd _ _ _).2 h
  obtain ⟨e2, h⟩ := cat_read (W := ThrI) (R := fun r => Stop r ∧ r.head? ≠ some 44) (c0 := 124) thr_read (fun x => ⟨_, rfl⟩) (fun r => ⟨stop_cons (by decide), by simp⟩) ha.thr hb.thr (hd2 _ _).1 (hd2 _ _).1 (hd2 _ _).2 (hd2 _ _).2 h
  obtain ⟨e3, h⟩ := cat_read (W := fun l : List T_api_Entry => ∀ e ∈ l, I64 e.Addr ∧ I64 e.Val) (R := fun _ => True) (c0 := 40) (fun x y r s hx hy _ _ h => buf_read x y r s hx hy h) (fun x => ⟨_, rfl⟩) (fun _ => trivial) ha.ent hb.ent trivial trivial (by simp) (by simp) h
  have e4 := itoa_inj ha.lock hb.lock (List.cons.inj h).2
  obtain ⟨am, at_, ab, al⟩ := a
  obtain ⟨bm, bt, bb, bl⟩ := b
  simp only at e1 e2 e3 e4
  subst e1 e2 e3 e4
  rfl
theorem txt_eq {a b : T_api_State} (ha : StI a) (hb : StI b) : decide (txt a = txt b) = decide (a = b) := by
  rw [Bool.eq_iff_iff]
  simp only [decide_eq_true_eq]
  exact ⟨txt_inj ha hb, fun h => by rw [h]⟩
end Go.Vs
