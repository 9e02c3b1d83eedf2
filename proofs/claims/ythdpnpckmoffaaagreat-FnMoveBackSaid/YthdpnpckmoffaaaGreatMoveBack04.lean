/- What the claim of FnMoveBack leans on, part 5 of 16. -/
import Derived.Test.YthdpnpckmoffaaaGreatMoveBack00
import Derived.Test.YthdpnpckmoffaaaGreatMoveBack01
import Derived.Test.YthdpnpckmoffaaaGreatMoveBack02
import Derived.Test.YthdpnpckmoffaaaGreatMoveBack03
set_option linter.unusedVariables false
set_option linter.unusedSimpArgs false
set_option linter.unusedSectionVars false
set_option maxRecDepth 100000
namespace Go.PT
variable {P : Program} {Γ : Ctx}
abbrev FL := List (Nat × Nat × Nat × Array Value)
theorem tb_set (D i j : Nat) : (Nat.lor D (Nat.shiftLeft 1 i)).testBit j = (D.testBit j || decide (j = i)) := by
  show (D ||| 1 <<< i).testBit j = _
  rw [Nat.testBit_or, Nat.testBit_shiftLeft]
  by_cases h : j = i
  · subst h; simp
  · have : (decide (j ≥ i) && Nat.testBit 1 (j - i)) = false := by
      by_cases hge : j ≥ i
      · have : Nat.testBit 1 (j - i) = false := by
          have h1 : j - i ≠ 0 := by omega
          cases hh : j - i with
          | zero => exact absurd hh h1
          | succ n => simp [Nat.testBit_succ]
        simp [this]
      · simp [hge]
    rw [this]; simp [h]
theorem tb_or (a b j : Nat) : (Nat.lor a b).testBit j = (a.testBit j || b.testBit j) := Nat.testBit_or a b j
theorem tb_one (i j : Nat) : (Nat.shiftLeft 1 i).testBit j = decide (j = i) := by
  have := tb_set 0 i j
  have h0 : Nat.lor 0 (Nat.shiftLeft 1 i) = Nat.shiftLeft 1 i := Nat.zero_or _
  rw [h0] at this
  rw [this]; simp
theorem tb_sub {a b : Nat} (h : Nat.beq (Nat.land a b) a = true) {j : Nat} (hj : a.testBit j = true) : b.testBit j = true := by
  have h1 : Nat.land a b = a := Nat.eq_of_beq_eq_true h
  have h2 : (a &&& b).testBit j = true := by rw [show (a &&& b) = a from h1]; exact hj
  rw [Nat.testBit_and] at h2
  simp at h2
  exact h2.2
theorem sub_tb {a b : Nat} (h : ∀ j, a.testBit j = true → b.testBit j = true) : Nat.beq (Nat.land a b) a = true := by
  have : Nat.land a b = a := by
    refine Nat.eq_of_testBit_eq fun j => ?_
    rw [show Nat.land a b = a &&& b from rfl, Nat.testBit_and]
    cases ha : a.testBit j
    · simp
    · simp [h j ha]
  rw [this]; exact Nat.beq_refl a
theorem tb_land0 {a b : Nat} (h : Nat.beq (Nat.land a b) 0 = true) {j : Nat} (hj : a.testBit j = true) : b.testBit j = false := by
  have h1 : Nat.land a b = 0 := Nat.eq_of_beq_eq_true h
  have h2 : (a &&& b).testBit j = false := by rw [show (a &&& b) = 0 from h1]; simp
  rw [Nat.testBit_and, hj] at h2
  simpa using h2
theorem maskOf_bits (T : List Nat) (j : Nat) : ∀ (l : List Edge) (s : Nat),
    (l.foldl (fun s e => bif Region.binds .any e then Nat.lor (Nat.lor s (Nat.shiftLeft 1 e.on)) (T.getD e.on 0) else s) s).testBit j = true ↔
      s.testBit j = true ∨ ∃ e ∈ l, Region.binds .any e = true ∧ (j = e.on ∨ (T.getD e.on 0).testBit j = true) := by
  intro l
  induction l with
  | nil => intro s; simp
  | cons e l ih =>
    intro s
    rw [List.foldl_cons, ih]
    cases hb : Region.binds .any e
    · simp [hb]
    · simp only [cond_true, tb_or, tb_one, Bool.or_eq_true, decide_eq_true_eq, List.mem_cons]
      constructor
      · rintro (((h | h) | h) | ⟨x, hx, h⟩)
        · exact .inl h
        · exact .inr ⟨e, .inl rfl, hb, .inl h⟩
        · exact .inr ⟨e, .inl rfl, hb, .inr h⟩
        · exact .inr ⟨x, .inr hx, h⟩
      · rintro (h | ⟨x, rfl | hx, h1, h2⟩)
        · exact .inl (.inl (.inl h))
        · rcases h2 with h2 | h2
          · exact .inl (.inl (.inr h2))
          · exact .inl (.inr h2)
        · exact .inr ⟨x, hx, h1, h2⟩
structure Stat (Γ : Ctx) (ops : Array Oper) (T : List Nat) (fs : FL) (Fm : Nat) : Prop where
  direct : ∀ (i : Nat) (o : Oper), ops[i]? = some o → ∀ e ∈ o.after, Region.binds .any e = true → (T.getD i 0).testBit e.on = true
  via : ∀ (i : Nat) (o : Oper), ops[i]? = some o → ∀ j, (T.getD i 0).testBit j = true → ∃ e ∈ o.after, Region.binds .any e = true ∧ (j = e.on ∨ (T.getD e.on 0).testBit j = true)
  lt : ∀ (i : Nat) (o : Oper), ops[i]? = some o → ∀ j, (T.getD i 0).testBit j = true → j < i
  distinct : ∀ (i j : Nat) (oi oj : Oper) (d : Nat), ops[i]? = some oi → ops[j]? = some oj → oi.dst = some d → oj.dst = some d → i = j
  look : ∀ (i : Nat) (o : Oper), ops[i]? = some o → ∀ t ∈ o.looksAt ops, ∀ (j : Nat) (oj : Oper), ops[j]? = some oj → oj.dst = some t → j = i ∨ (T.getD i 0).testBit j = true ∨ (T.getD j 0).testBit i = true
  free : ∀ (p j d t : Nat) (z : Array Value), fs[p]? = some (j, d, t, z) → Fm.testBit j = true ∧ ∃ o : Oper, ops[j]? = some o ∧ o.op = .alloc t ∧ o.dst = some d ∧ o.guard = none ∧ T.getD j 0 = 0 ∧ (Γ.ti t).zero = some z
  inj : ∀ (p q j d t d' t' : Nat) (z z' : Array Value), fs[p]? = some (j, d, t, z) → fs[q]? = some (j, d', t', z') → p = q
  mask : ∀ j, Fm.testBit j = true → ∃ (p d t : Nat) (z : Array Value), fs[p]? = some (j, d, t, z)
theorem okT_spec {T : List Nat} : ∀ (l : List Oper) (k : Nat), okT T k l = true → ∀ (i : Nat) (o : Oper), l[i]? = some o → T.getD (k + i) 0 = maskOf o T ∧ T.getD (k + i) 0 < Nat.shiftLeft 1 (k + i)
  | [], _, _, i, o, h => by simp at h
  | x :: l, k, h, i, o, hi => by
    simp only [okT, Bool.and_eq_true] at h
    cases i with
    | zero =>
      simp only [List.getElem?_cons_zero, Option.some.injEq] at hi
      subst hi
      refine ⟨Nat.eq_of_beq_eq_true h.1.1, ?_⟩
      have := h.1.2
      simp only [Nat.blt] at this
      exact Nat.le_of_ble_eq_true this
    | succ i =>
      have := okT_spec l (k + 1) h.2 i o (by simpa using hi)
      rwa [Nat.add_assoc, Nat.add_comm 1 i] at this
theorem writers_mem : ∀ (l : List Oper) (k : Nat) (i : Nat) (o : Oper) (d : Nat), l[i]? = some o → o.dst = some d → (d, k + i) ∈ writers k l
  | [], _, i, o, d, h, _ => by simp at h
  | x :: l, k, i, o, d, h, hd => by
    cases i with
    | zero =>
      simp only [List.getElem?_cons_zero, Option.some.injEq] at h
      subst h
      simp [writers, hd]
    | succ i =>
      have := writers_mem l (k + 1) i o d (by simpa using h) hd
      rw [Nat.add_assoc, Nat.add_comm 1 i] at this
      unfold writers
      split
      · exact List.mem_cons_of_mem _ this
      · exact this
theorem distinctW_spec : ∀ (l : List (Nat × Nat)), distinctW l = true → ∀ d i j, (d, i) ∈ l → (d, j) ∈ l → i = j
  | [], _, d, i, j, h, _ => by cases h
  | (d0, i0) :: r, h, d, i, j, hi, hj => by
    simp only [distinctW, Bool.and_eq_true] at h
    have hne : ∀ x, (d0, x) ∈ r → False := fun x hx => by
      have := (List.all_eq_true.1 h.1) _ hx
      simp at this
    rcases List.mem_cons.1 hi with e1 | h1 <;> rcases List.mem_cons.1 hj with e2 | h2
    · cases e1; cases e2; rfl
    · cases e1; exact (hne _ h2).elim
    · cases e2; exact (hne _ h1).elim
    · exact distinctW_spec r h.2 d i j h1 h2
theorem okW_spec {ops : Array Oper} {T : List Nat} {W : List (Nat × Nat)} : ∀ (l : List Oper) (k : Nat), okW ops T W k l = true → ∀ (i : Nat) (o : Oper), l[i]? = some o → ∀ t ∈ o.looksAt ops, okW1 T W (k + i) t = true
  | [], _, _, i, o, h, _, _ => by simp at h
  | x :: l, k, h, i, o, hi, t, ht => by
    simp only [okW, Bool.and_eq_true] at h
    cases i with
    | zero =>
      simp only [List.getElem?_cons_zero, Option.some.injEq] at hi
      subst hi
      exact (List.all_eq_true.1 h.1) t ht
    | succ i =>
      have := okW_spec l (k + 1) h.2 i o (by simpa using hi) t ht
      rwa [Nat.add_assoc, Nat.add_comm 1 i] at this
theorem freesOf_spec {ops : List Oper} {T : List Nat} : ∀ (F : List Nat) (fs : FL), freesOf Γ ops T F = some fs → fs.map (·.1) = F ∧ ∀ x ∈ fs, freeOf Γ ops T x.1 = some x
  | [], fs, h => by simp only [freesOf, Option.some.injEq] at h; subst h; simp
  | j :: js, fs, h => by
    simp only [freesOf] at h
    split at h
    · rename_i x xs hx hxs
      simp only [Option.some.injEq] at h
      subst h
      obtain ⟨h1, h2⟩ := freesOf_spec js xs hxs
      have hj : x.1 = j := by
        unfold freeOf at hx
        split at hx
        · split at hx
          · rename_i o t d _ _ _
            cases hc : (Nat.beq (T.getD j 0) 0 && !guardSrc ops j)
            · rw [hc] at hx; cases hx
            · rw [hc] at hx
              simp only [cond_true] at hx
              split at hx
              · simp only [Option.some.injEq] at hx; rw [← hx]
              · cases hx
          · cases hx
        · cases hx
      refine ⟨by simp [hj, h1], fun y hy => ?_⟩
      rcases List.mem_cons.1 hy with rfl | hy
      · rw [hj]; exact hx
      · exact h2 y hy
    · cases h
theorem maskL_bits (j : Nat) : ∀ F : List Nat, (maskL F).testBit j = true ↔ j ∈ F
  | [] => by simp [maskL]
  | x :: F => by
    simp only [maskL, tb_or, Bool.or_eq_true, maskL_bits j F, List.mem_cons]
    rw [tb_one]; simp
theorem stat_of {ops : Array Oper} {dh : DH} {fs : FL} (h : okDraw ops dh = true) (hf : freesOf Γ ops.toList dh.T dh.F = some fs) : Stat Γ ops dh.T fs (maskL dh.F) := by
  simp only [okDraw, Bool.and_eq_true] at h
  obtain ⟨⟨⟨h1, h2⟩, h3⟩, h4⟩ := h
  obtain ⟨g1, g2⟩ := freesOf_spec _ _ hf
  have gl : ∀ {i : Nat} {o : Oper}, ops[i]? = some o → ops.toList[i]? = some o := fun h => by simpa using h
  refine ⟨?_, ?_, ?_, ?_, ?_, ?_, ?_, ?_⟩
  · intro i o ho e he hb
    obtain ⟨q, _⟩ := okT_spec _ _ h1 i o (gl ho)
    rw [Nat.zero_add] at q
    rw [q]
    exact (maskOf_bits _ _ _ _).2 (.inr ⟨e, Array.mem_toList_iff.2 he, hb, .inl rfl⟩)
  · intro i o ho j hj
    obtain ⟨q, _⟩ := okT_spec _ _ h1 i o (gl ho)
    rw [Nat.zero_add] at q
    rw [q] at hj
    rcases (maskOf_bits _ _ _ _).1 hj with h | ⟨e, he, h⟩
    · simp at h
    · exact ⟨e, Array.mem_toList_iff.1 he, h⟩
  · intro i o ho j hj
    obtain ⟨_, q⟩ := okT_spec _ _ h1 i o (gl ho)
    rw [Nat.zero_add] at q
    have hge := Nat.ge_two_pow_of_testBit hj
    have : Nat.shiftLeft 1 i = 2 ^ i := by show 1 <<< i = _; rw [Nat.shiftLeft_eq]; simp
    rw [this] at q
    exact (Nat.pow_lt_pow_iff_right (by omega)).1 (Nat.lt_of_le_of_lt hge q)
  · intro i j oi oj d hi hj hdi hdj
    have := distinctW_spec _ h2 d _ _ (writers_mem _ 0 i oi d (gl hi) hdi) (writers_mem _ 0 j oj d (gl hj) hdj)
    omega
  · intro i o ho t ht j oj hj hd
    have := okW_spec _ _ h3 i o (gl ho) t ht
    have hm := (List.all_eq_true.1 this) _ (writers_mem _ 0 j oj t (gl hj) hd)
    simp only [Nat.zero_add, Bool.or_eq_true, Nat.beq_refl, Bool.not_true, Bool.false_eq_true, false_or] at hm
    rcases hm with (hm | hm) | hm
    · exact .inl (Nat.eq_of_beq_eq_true hm)
    · exact .inr (.inl hm)
    · exact .inr (.inr hm)
  · intro p j d t z hp
    have hm := List.mem_of_getElem? hp
    have hx := g2 _ hm
    refine ⟨(maskL_bits _ _).2 (by rw [← g1]; exact List.mem_map.2 ⟨_, hm, rfl⟩), ?_⟩
    unfold freeOf at hx
    split at hx
    · rename_i o ho
      split at hx
      · rename_i t' d' h5 h6 h7
        cases hc : (Nat.beq (dh.T.getD j 0) 0 && !guardSrc ops.toList j)
        · rw [hc] at hx; cases hx
        · rw [hc] at hx
          simp only [Bool.and_eq_true] at hc
          simp only [cond_true] at hx
          split at hx
          · rename_i z' hz
            simp only [Option.some.injEq, Prod.mk.injEq, true_and] at hx
            obtain ⟨rfl, rfl, rfl⟩ := hx
            exact ⟨o, by simpa using ho, h5, h6, h7, Nat.eq_of_beq_eq_true hc.1, hz⟩
          · cases hx
      · cases hx
    · cases hx
  · intro p q j d t d' t' z z' hp hq
    have hp' : (fs.map (·.1))[p]? = some j := by simp [hp]
    have hq' : (fs.map (·.1))[q]? = some j := by simp [hq]
    rw [g1] at hp' hq'
    have hlp := (List.getElem?_eq_some_iff.1 hp').1
    exact (List.getElem?_inj hlp (by simpa using h4)).1 (hp'.trans hq'.symm)
  · intro j hj
    have := (maskL_bits _ _).1 hj
    rw [← g1] at this
    obtain ⟨⟨j', d, t, z⟩, hm, rfl⟩ := List.mem_map.1 this
    obtain ⟨p, hp⟩ := List.getElem?_of_mem hm
    exact ⟨p, d, t, z, hp⟩
end Go.PT
