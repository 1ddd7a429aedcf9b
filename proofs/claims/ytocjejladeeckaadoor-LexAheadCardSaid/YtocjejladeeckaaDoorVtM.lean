import Derived.Test.YtocjejladeeckaaDoorVtI
/-! Slices by a literal, texts, interfaces. -/
set_option linter.unusedVariables false
set_option linter.unusedSectionVars false
set_option linter.unusedSimpArgs false
namespace Go.Vs
variable [Tab]
variable {P : Program}

theorem spl_eq (xs cs : List AV) (off : Nat) (h : off + xs.length ≤ cs.length) : spl cs off xs = cs.take off ++ xs ++ cs.drop (off + xs.length) := by
  apply List.ext_getElem?
  intro j
  rw [spl_get _ _ _ _ h, List.append_assoc, List.getElem?_append, List.length_take, Nat.min_eq_left (by omega)]
  by_cases h1 : j < off
  · rw [if_neg (by omega), if_pos h1, List.getElem?_take_of_lt h1]
  · rw [if_neg h1, List.getElem?_append]
    by_cases h2 : j < off + xs.length
    · rw [if_pos ⟨by omega, h2⟩, if_pos (by omega)]
    · rw [if_neg (by omega), if_neg (by omega), List.getElem?_drop]
      congr 1; omega

theorem fillA_rows (k : Nat) : ∀ (vals : List AV) (s : Nat) (cs : List AV), (∀ x ∈ vals, (cellsOf x).length = k ∧ (cellsOf x).all oneB = true) → (s + vals.length) * k ≤ cs.length →
    fillA (fun i => some (i * k, k)) cs ((vals.zipIdx s).map fun q => (q.2, q.1)) = some (cs.take (s * k) ++ (vals.map cellsOf).flatten ++ cs.drop ((s + vals.length) * k))
  | [], s, cs, _, _ => by simp [fillA]
  | x :: vals, s, cs, hx, hl => by
    obtain ⟨h1, h2⟩ := hx x (List.mem_cons_self ..)
    have hl' : (s + 1 + vals.length) * k ≤ cs.length := by simpa [Nat.add_assoc, Nat.add_comm 1] using hl
    have hsk : s * k + k ≤ cs.length := by
      have : (s + 1) * k ≤ (s + 1 + vals.length) * k := Nat.mul_le_mul_right _ (by omega)
      rw [Nat.add_mul, Nat.one_mul] at this; omega
    simp only [List.zipIdx_cons, List.map_cons, fillA]
    rw [if_pos ⟨h1, hsk, h2⟩, fillA_rows k vals (s + 1) _ (fun x hx' => hx x (List.mem_cons_of_mem _ hx')) (by rw [spl_length]; exact hl')]
    rw [spl_eq _ _ _ (by rw [h1]; exact hsk), h1]
    have e1 : (s + 1) * k = s * k + k := by rw [Nat.add_mul, Nat.one_mul]
    have e2 : (s + (vals.length + 1)) * k = (s + 1 + vals.length) * k := by congr 1; omega
    simp only [List.flatten_cons, List.length_cons]
    rw [e2, e1]
    congr 1
    have hA : (List.take (s * k) cs).length = s * k := by simp; omega
    have t1 : List.take (s * k + k) (List.take (s * k) cs ++ cellsOf x ++ List.drop (s * k + k) cs) = List.take (s * k) cs ++ cellsOf x := by
      rw [List.take_append_of_le_length (by simp [hA, h1]), List.take_of_length_le (by simp [hA, h1])]
    have hge : s * k + k ≤ (s + 1 + vals.length) * k := by rw [← e1]; exact Nat.mul_le_mul_right _ (by omega)
    have t2 : List.drop ((s + 1 + vals.length) * k) (List.take (s * k) cs ++ cellsOf x ++ List.drop (s * k + k) cs) = List.drop ((s + 1 + vals.length) * k) cs := by
      rw [List.drop_append, List.drop_eq_nil_of_le (by simp [hA, h1]; omega), List.nil_append, List.drop_drop]
      congr 1
      simp [hA, h1]; omega
    rw [t1, t2]
    simp [List.append_assoc]

theorem flat_get {k : Nat} : ∀ (rows : List (List AV)), (∀ r ∈ rows, r.length = k) → ∀ (i j : Nat) r, rows[i]? = some r → j < k → rows.flatten[i * k + j]? = r[j]?
  | [], _, i, j, r, h, _ => by simp at h
  | r0 :: rows, hl, i, j, r, h, hj => by
    have h0 := hl r0 (List.mem_cons_self ..)
    rw [List.flatten_cons, List.getElem?_append]
    cases i with
    | zero =>
      simp at h; subst h
      rw [Nat.zero_mul, Nat.zero_add, if_pos (by omega)]
    | succ i =>
      rw [if_neg (by rw [h0, Nat.add_mul, Nat.one_mul]; omega), h0]
      have : (i + 1) * k + j - k = i * k + j := by rw [Nat.add_mul, Nat.one_mul]; omega
      rw [this]
      exact flat_get rows (fun r hr => hl r (List.mem_cons_of_mem _ hr)) i j r (by simpa using h) hj

def rowOk (k : Nat) (x : AV) : Bool := (cellsOf x).length == k && (cellsOf x).all oneB && pureBs (cellsOf x)

theorem Step.buildSlice {o : Oper} {ρ : Operand → AV} {h : Hp} {t e : TypeId} {n k : Nat} {parts : Array (Nat × Operand)} {z : List AV} (ho : o.op = .buildSlice t n parts) (he : elemOf' P t = some e) (hk : tsz P e = some k)
    (hz : tzero P e = some z) (hn : parts.toList.map (·.1) = List.range n) (hn0 : n ≠ 0) (hk0 : k ≠ 0) (hb : n * k ≤ 16777216) (hr : (parts.toList.map fun q => ρ q.2).all (rowOk k) = true) :
    Step P o ρ h (.sl (parts.toList.map fun q => cellsOf (ρ q.2))) h := by
  intro I ι w a hrel _ hx next Q K
  have hu := elemOf_slice he
  obtain ⟨zv, hzr, _⟩ := run_zero hz
  have hlen : parts.toList.length = n := by have := congrArg List.length hn; simpa using this
  have hrow : ∀ x ∈ parts.toList.map (fun q => ρ q.2), (cellsOf x).length = k ∧ (cellsOf x).all oneB = true ∧ pureBs (cellsOf x) = true := fun x hx => by
    have := (List.all_eq_true.1 hr) x hx
    simp only [rowOk, Bool.and_eq_true, beq_iff_eq] at this
    exact ⟨this.1.1, this.1.2, this.2⟩
  have hparts : (parts.toList.map fun q => (q.1, ρ q.2)) = ((parts.toList.map fun q => ρ q.2).zipIdx 0).map fun q => (q.2, q.1) := by
    apply List.ext_getElem?
    intro j
    simp only [List.getElem?_map, List.getElem?_zipIdx, Nat.zero_add]
    cases hj : parts.toList[j]? with
    | none => simp
    | some q =>
      have h1 := congrArg (·[j]?) hn
      simp only [List.getElem?_map, hj, Option.map_some] at h1
      have hlt : j < n := by rw [← hlen]; exact (List.getElem?_eq_some_iff.1 hj).1
      rw [List.getElem?_range hlt] at h1
      simp only [Option.some.injEq] at h1
      simp [h1]
  have hfa := fillA_rows k (parts.toList.map fun q => ρ q.2) 0 (List.replicate (n * k) .undef) (fun x hx => ⟨(hrow x hx).1, (hrow x hx).2.1⟩) (by simp [hlen])
  rw [← hparts] at hfa
  simp only [List.length_map, hlen, Nat.zero_add, Nat.zero_mul, List.take_zero, List.nil_append] at hfa
  rw [List.drop_eq_nil_of_le (by simp), List.append_nil] at hfa
  have hxs : ∀ q ∈ parts, VR I w ι (ρ q.2) (a.eval q.2) := fun q hq => hx q.2 (by simp only [ho, Op.operands]; simp; exact ⟨q.1, hq⟩)
  obtain ⟨arr', ha, hcr⟩ := fill_real (I := I) (w := w) (ι := ι) (place := fun i => some (i * k, k)) (parts.toList.map fun q => (q.1, ρ q.2)) (parts.toList.map fun q => (q.1, a.eval q.2)) _ ((Array.range (n * k)).map (zv.cells[· % zv.cells.size]!)) (by simp)
    (fun j p q hp hq => by
      simp only [List.getElem?_map, Array.getElem?_toList, Option.map_eq_some_iff] at hp hq
      obtain ⟨p0, hp0, rfl⟩ := hp
      obtain ⟨q0, hq0, rfl⟩ := hq
      rw [hp0] at hq0
      obtain rfl := Option.some.inj hq0
      exact ⟨rfl, hxs p0 (Array.mem_of_getElem? hp0)⟩) (cs := List.replicate (n * k) .undef) ⟨by simp, fun j x y hx hy => by
        have := List.eq_of_mem_replicate (List.mem_of_getElem? hx); subst this; exact .undef⟩ hfa
  have hrun : (execOp a.eval o).run P w = .ok (.value (.slice (some ⟨w.heap.size, 0, none⟩) n n)) (w.alloc (.cells arr' e)) := by
    unfold execOp
    have hparts2 : (parts.map fun q => (q.1, a.eval q.2)).toList = parts.toList.map fun q => (q.1, a.eval q.2) := by simp
    simp only [ho, Instr.buildSlice]
    rw [Sem.run_bind, Sem.run_bind, run_underlying' hu]
    simp only [Result.andThen_ok]
    rw [Sem.run_bind, run_sizeOf' hk]
    simp only [Result.andThen_ok]
    rw [if_neg (by omega)]
    have hnk : ¬ n * k = 0 := Nat.mul_ne_zero hn0 hk0
    simp only [if_neg hnk]
    simp only [Sem.run_bind, hzr, Result.andThen_ok, Sem.run_pure]
    rw [hparts2, ha]
    simp [newRow]
  unfold Oper.wp
  rw [hrun]
  have ext := Ext.allocI hrel (.cells arr' e)
  refine K _ _ _ ι ext ?_
  have mono : ∀ {x v}, VR I w ι x v → VR (fun c => I c ∨ c = w.heap.size) (w.alloc (.cells arr' e)) ι x v := fun hv => hv.ext hrel ext
  refine .sl k w.heap.size 0 n (.inr rfl) (by simp [hlen]) (Nat.le_refl _) ?_ ?_ ?_
  · intro i r hi
    simp only [List.getElem?_map, Option.map_eq_some_iff] at hi
    obtain ⟨q, hq, rfl⟩ := hi
    exact (hrow _ (List.mem_map.2 ⟨q, List.mem_of_getElem? hq, rfl⟩)).1
  all_goals
    intro i r j x
    have key : (parts.toList.map fun q => cellsOf (ρ q.2))[i]? = some r → r[j]? = some x → ∃ y, arr'[i * k + j]? = some y ∧ VR I w ι x y ∧ pureB x = true := by
      intro hi hj
      simp only [List.getElem?_map, Option.map_eq_some_iff] at hi
      obtain ⟨q, hq, rfl⟩ := hi
      have hm := hrow _ (List.mem_map.2 ⟨q, List.mem_of_getElem? hq, rfl⟩)
      have hjk : j < k := by rw [← hm.1]; exact (List.getElem?_eq_some_iff.1 hj).1
      have hfl := flat_get ((parts.toList.map fun q => ρ q.2).map cellsOf) (fun r hr => by
        obtain ⟨y, hy, rfl⟩ := List.mem_map.1 hr
        exact (hrow y hy).1) i j (cellsOf (ρ q.2)) (by simp [hq]) hjk
      rw [hj] at hfl
      have hlt := (List.getElem?_eq_some_iff.1 hfl).1
      rw [← hcr.1] at hlt
      exact ⟨arr'[i * k + j], by simp [hlt], hcr.2 _ x _ hfl (by simp [hlt]), pureBs_get hm.2.2 j x hj⟩
    first
    | (intro hi hj
       obtain ⟨y, hy, _⟩ := key hi hj
       exact ⟨y, by simp only [World.cell?, alloc_new, Nat.zero_add]; simpa using hy⟩)
    | (intro y hi hj hy
       obtain ⟨y', hy', hv, hp⟩ := key hi hj
       simp only [World.cell?, alloc_new, Nat.zero_add] at hy
       have : y' = y := by
         have h2 : arr'[i * k + j]? = some y := by simpa using hy
         rw [hy'] at h2; exact Option.some.inj h2
       subst this
       exact (mono hv).to_pure hp)
end Go.Vs
