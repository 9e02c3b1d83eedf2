/- A step of a heap, as plain data. -/
import Derived.Test.YtegddhbcglghdaaGreatGA
/- A step of a heap, as plain data. -/
set_option linter.unusedVariables false
set_option linter.unusedSimpArgs false
namespace Go.PT
def putC (h : Hp) (i : Int) (c : Cl) : Hp := { h with calls := h.calls.set i.toNat c }
def nowC (h : Hp) : Cl := callAt h.calls h.now
def dieC (c : Cl) : Cl := { c with dead := true, stack := [], sender := -1 }
def dieH (h : Hp) (i : Int) : Hp := putC h i (dieC (callAt h.calls i))
def pushC (c : Cl) (v : V) : Cl := { c with stack := c.stack ++ [v] }
def pushH (h : Hp) (v : V) : Hp := putC h h.now (pushC (nowC h) v)
def saidV (h : Hp) (v : V) : V := if v.1 = 2 then (v.1, (callAt h.calls v.2).method) else v
def sayH (h : Hp) (v : V) : Hp := { h with said := h.said ++ [saidV h v] }
def newC (p : Pg) (k : Int) (args : List V) (s : Int) : Cl := ⟨k, 0, args ++ List.replicate ((methAt p k).temps - args.length).toNat (0, 0), [], s, false⟩
def callH (p : Pg) (h : Hp) (k : Int) (args : List V) : Hp :=
  if 30 ≤ h.born then { h with code := 3 } else { h with calls := h.calls ++ [newC p k args h.now], now := h.calls.length, born := h.born + 1 }
def leaveH (h : Hp) : Hp := { dieH h h.now with now := (nowC h).sender }
def retH (h : Hp) (v : V) : Hp :=
  if (nowC h).sender < 0 then { sayH (leaveH h) v with code := 1 } else pushH (leaveH h) v
def backL : Nat → Hp → Int → Hp
  | 0, h, _ => h
  | n + 1, h, to => if h.now = to then h else backL n (leaveH h) to
def backH (h : Hp) (to : Int) (v : V) : Hp :=
  if (callAt h.calls to).dead then { h with code := 2 } else pushH (backL h.calls.length h to) v
def bitV (b : Bool) : V := if b then (1, 1) else (1, 0)
def lookV (h : Hp) (op : Int × Int) (i : Int) : V :=
  if op.1 = 12 then (if (callAt h.calls i).sender ≥ 0 then (2, (callAt h.calls i).sender) else (0, 0))
  else if op.1 = 13 then (if op.2 < (callAt h.calls i).temps.length then pairAt (callAt h.calls i).temps op.2 else (0, 0))
  else if op.1 = 17 then bitV (callAt h.calls i).dead
  else if op.1 = 18 then (1, (callAt h.calls i).pc) else (0, 0)
def setT (h : Hp) (i a : Int) (v : V) : Hp := putC h i { callAt h.calls i with temps := (callAt h.calls i).temps.set a.toNat v }
def setPc (h : Hp) (a : Int) : Hp := putC h h.now { nowC h with pc := a }
def pokeH (h : Hp) (i a : Int) (v : V) : Hp := if a < (callAt h.calls i).temps.length then setT h i a v else h
def takes (p : Pg) (op : Int × Int) : Int × Int :=
  if op.1 = 1 ∨ op.1 = 2 ∨ op.1 = 11 then (0, 1) else
  if op.1 = 3 ∨ op.1 = 4 ∨ op.1 = 8 ∨ op.1 = 10 ∨ op.1 = 16 then (1, 0) else
  if op.1 = 5 ∨ op.1 = 6 then (2, 1) else
  if op.1 = 12 ∨ op.1 = 13 ∨ op.1 = 17 ∨ op.1 = 18 then (1, 1) else
  if op.1 = 14 then (2, 0) else if op.1 = 15 then (2, 1) else
  if op.1 = 9 then (if inB op.2 0 (p.length - 1) then ((methAt p op.2).args, 1) else (0, 0)) else (0, 0)
def kindsOk (op : Int × Int) (args : List V) : Bool :=
  if op.1 = 5 then decide ((pairAt args 0).1 = 1) && decide ((pairAt args 1).1 = 1)
  else if op.1 = 12 ∨ op.1 = 13 ∨ op.1 = 17 ∨ op.1 = 18 ∨ op.1 = 14 ∨ op.1 = 15 then decide ((pairAt args 0).1 = 2) else true
def madeV (op : Int × Int) (args : List V) : Option V :=
  if op.1 = 1 then some (1, op.2)
  else if op.1 = 5 then some (1, ((pairAt args 0).2 + (pairAt args 1).2).tmod 1000)
  else if op.1 = 6 then some (bitV (pairAt args 0 == pairAt args 1)) else none
def doH (p : Pg) (h : Hp) (op : Int × Int) (args : List V) : Hp :=
  match madeV op args with
  | some v => pushH h v
  | none =>
    if op.1 = 2 then pushH h (pairAt (nowC h).temps op.2)
    else if op.1 = 3 then setT h h.now op.2 (pairAt args 0)
    else if op.1 = 7 then setPc h op.2
    else if op.1 = 8 then (if (pairAt args 0).1 = 0 ∨ pairAt args 0 = (1, 0) then setPc h op.2 else h)
    else if op.1 = 9 then callH p h op.2 args
    else if op.1 = 10 then retH h (pairAt args 0)
    else if op.1 = 11 then pushH h (2, h.now)
    else if op.1 = 12 ∨ op.1 = 13 ∨ op.1 = 17 ∨ op.1 = 18 then pushH h (lookV h op (pairAt args 0).2)
    else if op.1 = 14 then pokeH h (pairAt args 0).2 op.2 (pairAt args 1)
    else if op.1 = 15 then backH h (pairAt args 0).2 (pairAt args 1)
    else if op.1 = 16 then sayH h (pairAt args 0) else h
def opsNow (p : Pg) (h : Hp) : List (Int × Int) := (methAt p (nowC h).method).ops
def opNow (p : Pg) (h : Hp) : Int × Int := pairAt (opsNow p h) (nowC h).pc
def leftNow (p : Pg) (h : Hp) : Int := (nowC h).stack.length - (takes p (opNow p h)).1
def tookH (p : Pg) (h : Hp) : Hp := putC h h.now { nowC h with stack := (nowC h).stack.take (leftNow p h).toNat, pc := (nowC h).pc + 1 }
def argsNow (p : Pg) (h : Hp) : List V := (nowC h).stack.drop (leftNow p h).toNat
def stepH (p : Pg) (h : Hp) : Hp :=
  if ((opsNow p h).length : Int) ≤ (nowC h).pc then { h with code := 2 }
  else if leftNow p h < 0 ∨ 6 < leftNow p h + (takes p (opNow p h)).2 then { h with code := 2 }
  else if kindsOk (opNow p h) (argsNow p h) = false then { h with code := 2 }
  else doH p (tookH p h) (opNow p h) (argsNow p h)
def runH (p : Pg) : Nat → Hp → Hp
  | 0, h => h
  | n + 1, h => if h.code = 0 then runH p n (stepH p h) else h

/-! ### elements of lists that were written -/
theorem callAt_set {cs : List Cl} {i j : Int} {c : Cl} (hi : 0 ≤ i) (hl : i < cs.length) (hj : 0 ≤ j) : callAt (cs.set i.toNat c) j = if j = i then c else callAt cs j := by
  unfold callAt
  rw [List.getD_eq_getElem?_getD, List.getD_eq_getElem?_getD, List.getElem?_set]
  by_cases h : j = i
  · subst h
    rw [if_pos rfl, if_pos (by omega), if_pos rfl]; rfl
  · rw [if_neg (by omega), if_neg h]
theorem callAt_app {cs : List Cl} {j : Int} {c : Cl} (hj : 0 ≤ j) : callAt (cs ++ [c]) j = if j < cs.length then callAt cs j else if j = cs.length then c else call0 := by
  unfold callAt
  rw [List.getD_eq_getElem?_getD, List.getD_eq_getElem?_getD]
  by_cases h : j < cs.length
  · rw [if_pos h, List.getElem?_append_left (by omega)]
  · rw [if_neg h, List.getElem?_append_right (by omega)]
    by_cases h2 : j = cs.length
    · rw [if_pos h2, show j.toNat - cs.length = 0 by omega]; rfl
    · rw [if_neg h2, List.getElem?_eq_none (by simp; omega)]; rfl
theorem callAt_mem {cs : List Cl} {i : Int} (h0 : 0 ≤ i) (h1 : i < cs.length) : callAt cs i ∈ cs := by
  unfold callAt
  rw [List.getD_eq_getElem?_getD, List.getElem?_eq_getElem (by omega)]
  exact List.getElem_mem _
theorem mem_callAt {cs : List Cl} {c : Cl} (h : c ∈ cs) : ∃ i : Int, 0 ≤ i ∧ i < cs.length ∧ callAt cs i = c := by
  obtain ⟨n, h1, h2⟩ := List.getElem_of_mem h
  refine ⟨n, by omega, by omega, ?_⟩
  unfold callAt
  rw [List.getD_eq_getElem?_getD, Int.toNat_natCast, List.getElem?_eq_getElem h1, ← h2]; rfl
theorem pairAt_mem {l : List V} {i : Int} (h0 : 0 ≤ i) (h1 : i < l.length) : pairAt l i ∈ l := by
  unfold pairAt
  rw [List.getD_eq_getElem?_getD, List.getElem?_eq_getElem (by omega)]
  exact List.getElem_mem _
theorem methAt_mem {p : Pg} {i : Int} (h0 : 0 ≤ i) (h1 : i < p.length) : methAt p i ∈ p := by
  unfold methAt
  rw [List.getD_eq_getElem?_getD, List.getElem?_eq_getElem (by omega)]
  exact List.getElem_mem _

/-! ### the way from a call on -/
def Way (cs : List Cl) : Int → List Int → Prop
  | a, [] => a < 0
  | a, x :: l => a = x ∧ 0 ≤ x ∧ x < cs.length ∧ (callAt cs x).dead = false ∧ Way cs (callAt cs x).sender l
theorem Way.congr {cs ds : List Cl} : ∀ {l : List Int} {a : Int}, Way cs a l → (∀ x ∈ l, x < cs.length → x < ds.length ∧ (callAt ds x).dead = (callAt cs x).dead ∧ (callAt ds x).sender = (callAt cs x).sender) → Way ds a l
  | [], a, h, _ => h
  | x :: l, a, ⟨h1, h2, h3, h4, h5⟩, hd => by
    obtain ⟨d1, d2, d3⟩ := hd x (by simp) h3
    refine ⟨h1, h2, d1, d2.trans h4, ?_⟩
    rw [d3]
    exact h5.congr (fun y hy => hd y (by simp [hy]))
theorem Way.range {cs : List Cl} : ∀ {l : List Int} {a : Int}, Way cs a l → ∀ x ∈ l, 0 ≤ x ∧ x < cs.length ∧ (callAt cs x).dead = false
  | x :: l, a, ⟨h1, h2, h3, h4, h5⟩, y, hy => by
    rcases List.mem_cons.mp hy with rfl | hy
    · exact ⟨h2, h3, h4⟩
    · exact h5.range y hy
theorem Way.path {cs : List Cl} : ∀ {l : List Int} {a : Int}, Way cs a l → ∀ k, l.length ≤ k → pathF cs k a = some l
  | [], a, h, k, _ => by
    have h : a < 0 := h
    cases k <;> (unfold pathF; rw [if_pos h])
  | x :: l, a, ⟨h1, h2, h3, h4, h5⟩, k, hk => by
    subst h1
    cases k with
    | zero => simp at hk
    | succ k =>
      unfold pathF
      rw [if_neg (by omega), h4, h5.path k (by simpa using hk)]
      rfl
theorem way_of_path {cs : List Cl} (hs : ∀ c ∈ cs, c.sender < cs.length) : ∀ {k : Nat} {a : Int} {l : List Int}, pathF cs k a = some l → a < cs.length → Way cs a l
  | 0, a, l, h, ha => by
    unfold pathF at h
    split at h
    · injection h with h; subst h; assumption
    · cases h
  | k + 1, a, l, h, ha => by
    unfold pathF at h
    split at h
    · injection h with h; subst h; assumption
    · split at h
      · cases h
      · rename_i h0 hd
        obtain ⟨l', h1, rfl⟩ := Option.map_eq_some_iff.mp h
        exact ⟨rfl, by omega, ha, by simpa using hd, way_of_path hs h1 (hs _ (callAt_mem (by omega) ha))⟩
theorem Way.det {cs : List Cl} {a : Int} {l m : List Int} (h : Way cs a l) (h' : Way cs a m) : l = m := by
  have h1 := h.path (max l.length m.length) (by omega)
  have h2 := h'.path (max l.length m.length) (by omega)
  rw [h1] at h2; exact Option.some.inj h2
theorem Way.nodup {cs : List Cl} : ∀ {l : List Int} {a : Int}, Way cs a l → l.Nodup
  | [], a, h => List.nodup_nil
  | x :: l, a, h => by
    have h5 := h.2.2.2.2
    refine List.nodup_cons.mpr ⟨fun hx => ?_, h5.nodup⟩
    have := path_tail (h.path _ (Nat.le_refl _)) x (by simpa using hx)
    exact this h.1.symm

/-! ### counting -/
theorem length_le_of_sub {α : Type} [DecidableEq α] : ∀ {l m : List α}, l.Nodup → (∀ x ∈ l, x ∈ m) → l.length ≤ m.length
  | [], m, _, _ => by simp
  | x :: l, m, h, hs => by
    have hx := hs x (by simp)
    obtain ⟨h1, h2⟩ := List.nodup_cons.mp h
    have := length_le_of_sub (m := m.erase x) h2 (fun y hy => by
      refine (List.mem_erase_of_ne ?_).mpr (hs y (by simp [hy]))
      intro e; subst e; exact h1 hy)
    rw [List.length_erase_of_mem hx] at this
    have := List.length_pos_of_mem hx
    simp; omega
theorem sub_of_length {α : Type} [DecidableEq α] {l m : List α} (h : l.Nodup) (hs : ∀ x ∈ l, x ∈ m) (hl : m.length ≤ l.length) : ∀ x ∈ m, x ∈ l := by
  intro x hx
  refine Classical.byContradiction fun hn => ?_
  have := length_le_of_sub (l := x :: l) (m := m) (List.nodup_cons.mpr ⟨hn, h⟩) (fun y hy => by
    rcases List.mem_cons.mp hy with rfl | hy
    · exact hx
    · exact hs y hy)
  simp at this; omega
def liveL (cs : List Cl) : List Int := ((List.range cs.length).map (fun n : Nat => (n : Int))).filter (fun x => !(callAt cs x).dead)
theorem mem_liveL {cs : List Cl} {x : Int} : x ∈ liveL cs ↔ 0 ≤ x ∧ x < cs.length ∧ (callAt cs x).dead = false := by
  unfold liveL
  rw [List.mem_filter, List.mem_map]
  constructor
  · rintro ⟨⟨n, h1, rfl⟩, h2⟩
    have := List.mem_range.mp h1
    exact ⟨by omega, by omega, by simpa using h2⟩
  · rintro ⟨h0, h1, h2⟩
    exact ⟨⟨x.toNat, List.mem_range.mpr (by omega), by omega⟩, by simp [h2]⟩
theorem liveL_nodup (cs : List Cl) : (liveL cs).Nodup := by
  unfold liveL
  have h : ((List.range cs.length).map (fun n : Nat => (n : Int))).Pairwise (· ≠ ·) :=
    List.Pairwise.map _ (fun a b h e => h (by have : (a : Int) = b := e; omega)) List.nodup_range
  exact h.filter _
theorem liveL_len (cs : List Cl) : ((liveL cs).length : Int) = liveN cs := by
  unfold liveN liveL
  have key : ∀ (xs pre : List Cl), ((((List.range' pre.length xs.length).map (fun n : Nat => (n : Int))).filter (fun x => !(callAt (pre ++ xs) x).dead)).length : Int) = (xs.filter (fun c => !c.dead)).length := by
    intro xs
    induction xs with
    | nil => intro pre; simp
    | cons c xs ih =>
      intro pre
      have h1 : callAt (pre ++ c :: xs) (pre.length : Int) = c := by
        unfold callAt
        rw [List.getD_eq_getElem?_getD, Int.toNat_natCast, List.getElem?_append_right (Nat.le_refl _)]
        simp
      have h2 := ih (pre ++ [c])
      simp only [List.length_append, List.length_cons, List.length_nil, Nat.zero_add, List.append_assoc, List.cons_append, List.nil_append] at h2
      rw [List.length_cons, List.range'_succ, List.map_cons, List.filter_cons, h1, List.filter_cons]
      cases hd : c.dead
      · simp only [Bool.not_false, if_true, List.length_cons]; omega
      · simp only [Bool.not_true]; simpa using h2
  have := key cs []
  simpa [List.range_eq_range'] using this
end Go.PT

/- A step of a heap keeps what is asked of heaps. -/
set_option linter.unusedVariables false
set_option linter.unusedSimpArgs false
namespace Go.PT
structure HOK (p : Pg) (h : Hp) : Prop where
  prog : progOk p = true
  now1 : -1 ≤ h.now
  now2 : h.now < h.calls.length
  born1 : 1 ≤ h.born
  born2 : h.born ≤ 30
  size : (h.calls.length : Int) ≤ h.born
  code1 : 0 ≤ h.code
  code2 : h.code ≤ 3
  said : saidOk p h.said = true
  ended : h.code = 1 ↔ h.now < 0
  forms : ∀ c ∈ h.calls, form p h.calls.length c = true
  way : ∃ l, Way h.calls h.now l ∧ (∀ x : Int, 0 ≤ x → x < h.calls.length → (callAt h.calls x).dead = false → x ∈ l) ∧ ∀ x ∈ l.tail, ((callAt h.calls x).stack.length : Int) < 6
structure FormP (p : Pg) (n : Int) (c : Cl) : Prop where
  m0 : 0 ≤ c.method
  m1 : c.method < p.length
  pc0 : 0 ≤ c.pc
  pc1 : c.pc ≤ (methAt p c.method).ops.length
  temps : (c.temps.length : Int) = (methAt p c.method).temps
  stack : (c.stack.length : Int) ≤ 6
  s0 : -1 ≤ c.sender
  s1 : c.sender < n
  tv : ∀ v ∈ c.temps, valOk n v = true
  sv : ∀ v ∈ c.stack, valOk n v = true
  dead : c.dead = true → c.sender = -1 ∧ c.stack = []
theorem form_iff {p : Pg} {n : Int} {c : Cl} : form p n c = true ↔ FormP p n c := by
  constructor
  · intro h
    unfold form valsOk at h
    simp only [Bool.and_eq_true, inB_iff, decide_eq_true_eq, List.all_eq_true, Bool.or_eq_true, Bool.not_eq_true'] at h
    obtain ⟨h1, h2, h3, h4, h5, h6, h7, h8⟩ := h
    exact ⟨h1.1, by omega, h2.1, h2.2, h3, h4, h5.1, by omega, h6, h7, fun hd => by
      rcases h8 with h8 | h8
      · rw [hd] at h8; cases h8
      · exact ⟨h8.1, List.length_eq_zero_iff.mp (by omega)⟩⟩
  · intro h
    unfold form valsOk
    simp only [Bool.and_eq_true, inB_iff, decide_eq_true_eq, List.all_eq_true, Bool.or_eq_true, Bool.not_eq_true']
    have := h.m1
    have := h.s1
    refine ⟨⟨h.m0, by omega⟩, ⟨h.pc0, h.pc1⟩, h.temps, h.stack, ⟨h.s0, by omega⟩, h.tv, h.sv, ?_⟩
    cases hd : c.dead
    · exact .inl rfl
    · obtain ⟨h1, h2⟩ := h.dead hd
      exact .inr ⟨h1, by rw [h2]; rfl⟩
theorem valOk_up {n m : Int} {v : V} (h : valOk n v = true) (hm : n ≤ m) : valOk m v = true := by
  unfold valOk at h ⊢
  split
  · simpa [*] using h
  · split
    · simpa [*] using h
    · split
      · simp only [*, if_true, if_false, ite_true, ite_false, inB_iff] at h ⊢
        rw [if_neg (by omega), if_neg (by omega), inB_iff] at h
        omega
      · simp [*] at h
theorem valOk_call {n : Int} {v : V} (h : valOk n v = true) (h2 : v.1 = 2) : 0 ≤ v.2 ∧ v.2 < n := by
  unfold valOk at h
  rw [h2, if_neg (by decide), if_neg (by decide), if_pos rfl, inB_iff] at h
  omega
theorem valOk_num {n : Int} {v : V} (h : valOk n v = true) (h2 : v.1 = 1) : 0 ≤ v.2 ∧ v.2 ≤ 999 := by
  unfold valOk at h
  rw [h2, if_neg (by decide), if_pos rfl, inB_iff] at h
  omega
theorem valOk_none {n : Int} {v : V} (h : valOk n v = true) (h2 : v.1 = 0) : v.2 = 0 := by
  unfold valOk at h
  rw [h2, if_pos rfl] at h
  simpa using h
theorem valOk_kind {n : Int} {v : V} (h : valOk n v = true) : v.1 = 0 ∨ v.1 = 1 ∨ v.1 = 2 := by
  unfold valOk at h
  by_cases h0 : v.1 = 0
  · exact .inl h0
  · by_cases h1 : v.1 = 1
    · exact .inr (.inl h1)
    · by_cases h2 : v.1 = 2
      · exact .inr (.inr h2)
      · simp [h0, h1, h2] at h
theorem ok_num {n x : Int} (h0 : 0 ≤ x) (h1 : x ≤ 999) : valOk n (1, x) = true := by unfold valOk; simp [inB_iff]; omega
theorem ok_call {n x : Int} (h0 : 0 ≤ x) (h1 : x < n) : valOk n (2, x) = true := by unfold valOk; simp [inB_iff]; omega
theorem ok_none {n : Int} : valOk n (0, 0) = true := by unfold valOk; simp
theorem ok_bit {n : Int} {b : Bool} : valOk n (bitV b) = true := by cases b <;> (unfold bitV; exact ok_num (by decide) (by decide))
theorem FormP.up {p : Pg} {n m : Int} {c : Cl} (h : FormP p n c) (hm : n ≤ m) : FormP p m c :=
  ⟨h.m0, h.m1, h.pc0, h.pc1, h.temps, h.stack, h.s0, by have := h.s1; omega, fun v hv => valOk_up (h.tv v hv) hm, fun v hv => valOk_up (h.sv v hv) hm, h.dead⟩
theorem chain_path {h : Hp} (hs : ∀ c ∈ h.calls, c.sender < h.calls.length) (hn : h.now < h.calls.length) : chain h = match pathF h.calls h.calls.length h.now with | some l => l | none => [] := by
  unfold chain
  rw [chainS_path hs _ _ _ hn]
  cases pathF h.calls h.calls.length h.now <;> simp
theorem Way.len {cs : List Cl} {l : List Int} {a : Int} (h : Way cs a l) : l.length ≤ cs.length := by
  have h1 := length_le_of_sub h.nodup (fun x hx => mem_liveL.mpr (h.range x hx))
  have h2 := liveL_len cs
  have h3 := (liveN_le cs).2
  omega
theorem hok_iff {p : Pg} {h : Hp} : heapOk p h = true ↔ HOK p h := by
  constructor
  · intro H
    unfold heapOk at H
    simp only [Bool.and_eq_true, inB_iff, decide_eq_true_eq, List.all_eq_true, beq_iff_eq, decide_eq_decide] at H
    obtain ⟨h1, h2, h3, h4, h5, h6, h7, h8, h9, h10, h11⟩ := H
    have hs : ∀ c ∈ h.calls, c.sender < h.calls.length := fun c hc => (form_iff.mp (h8 c hc)).s1
    have hc := chain_path hs (by omega)
    refine ⟨h1, h2.1, by omega, h3.1, h3.2, h4, h5.1, h5.2, h6, h7, h8, ?_⟩
    have mk : ∀ l, pathF h.calls h.calls.length h.now = some l → ∃ l, Way h.calls h.now l ∧ (∀ x : Int, 0 ≤ x → x < h.calls.length → (callAt h.calls x).dead = false → x ∈ l) ∧ ∀ x ∈ l.tail, ((callAt h.calls x).stack.length : Int) < 6 := by
      intro l hl
      rw [hl] at hc
      simp only at hc
      have hw := way_of_path hs hl (by omega)
      refine ⟨l, hw, fun x x0 x1 x2 => ?_, fun x hx => ?_⟩
      · refine sub_of_length hw.nodup (fun y hy => mem_liveL.mpr (hw.range y hy)) ?_ x (mem_liveL.mpr ⟨x0, x1, x2⟩)
        have := liveL_len h.calls
        rw [hc] at h10; omega
      · unfold wait at h11
        rw [hc, List.all_eq_true] at h11
        have := h11 x hx
        unfold room at this
        simpa using this
    cases hp : pathF h.calls h.calls.length h.now with
    | some l => exact mk l hp
    | none =>
      rw [hp] at hc
      simp only at hc
      rw [hc] at h10
      by_cases hn : h.now < 0
      · have : pathF h.calls h.calls.length h.now = some [] := by cases h.calls.length <;> (unfold pathF; rw [if_pos hn])
        rw [hp] at this; cases this
      · have hd : (callAt h.calls h.now).dead = false := by simpa [hn] using h9
        have := liveN_pos (callAt_mem (by omega) (by omega)) hd
        simp at h10; omega
  · intro H
    obtain ⟨l, hw, hcov, hroom⟩ := H.way
    have hs : ∀ c ∈ h.calls, c.sender < h.calls.length := fun c hc => (form_iff.mp (H.forms c hc)).s1
    have hc := chain_path hs H.now2
    have hp := hw.path h.calls.length hw.len
    rw [hp] at hc
    simp only at hc
    have hlen : (l.length : Int) = liveN h.calls := by
      rw [← liveL_len]
      have h1 := length_le_of_sub hw.nodup (fun x hx => mem_liveL.mpr (hw.range x hx))
      have h2 := length_le_of_sub (liveL_nodup h.calls) (fun x hx => by
        obtain ⟨a, b, c⟩ := mem_liveL.mp hx
        exact hcov x a b c)
      omega
    unfold heapOk
    simp only [Bool.and_eq_true, inB_iff, decide_eq_true_eq, List.all_eq_true, beq_iff_eq, decide_eq_decide]
    have := H.now2
    refine ⟨H.prog, ⟨H.now1, by omega⟩, ⟨H.born1, H.born2⟩, H.size, ⟨H.code1, H.code2⟩, H.said, H.ended, H.forms, ?_, by rw [hc]; exact hlen, ?_⟩
    · by_cases hn : h.now < 0
      · simp [hn]
      · cases l with
        | nil => exact absurd hw hn
        | cons x l => obtain ⟨rfl, _, _, hd, _⟩ := hw; simp [hd]
    · unfold wait
      rw [hc, List.all_eq_true]
      intro x hx
      unfold room
      simpa using hroom x hx

/-! ### what an operation does -/
variable {p : Pg} {h : Hp}
theorem HOK.at (H : HOK p h) {i : Int} (h0 : 0 ≤ i) (h1 : i < h.calls.length) : FormP p h.calls.length (callAt h.calls i) := form_iff.mp (H.forms _ (callAt_mem h0 h1))
theorem HOK.now0 (H : HOK p h) (hr : h.code = 0) : 0 ≤ h.now := by
  have h1 := H.ended
  have h2 := H.now1
  rcases Int.lt_or_le h.now 0 with h3 | h3
  · have := h1.mpr h3; omega
  · exact h3
theorem putC_len (h : Hp) (i : Int) (c : Cl) : (putC h i c).calls.length = h.calls.length := by unfold putC; simp
theorem callAt_put {i j : Int} {c : Cl} (hi : 0 ≤ i) (hl : i < h.calls.length) (hj : 0 ≤ j) : callAt (putC h i c).calls j = if j = i then c else callAt h.calls j := callAt_set hi hl hj
theorem put_forms {n : Int} {i : Int} {c : Cl} (hn : ∀ c ∈ h.calls, form p n c = true) (hf : FormP p n c) : ∀ d ∈ (putC h i c).calls, form p n d = true := by
  intro d hd
  rcases List.mem_or_eq_of_mem_set hd with hd | rfl
  · exact hn d hd
  · exact form_iff.mpr hf
theorem HOK.put (H : HOK p h) {i : Int} {c : Cl} (h0 : 0 ≤ i) (h1 : i < h.calls.length) (hf : FormP p h.calls.length c) (hd : c.dead = (callAt h.calls i).dead) (hs : c.sender = (callAt h.calls i).sender)
    (hk : i = h.now ∨ c.stack.length ≤ (callAt h.calls i).stack.length) : HOK p (putC h i c) := by
  obtain ⟨l, hw, hcov, hroom⟩ := H.way
  refine ⟨H.prog, H.now1, by rw [putC_len]; exact H.now2, H.born1, H.born2, by rw [putC_len]; exact H.size, H.code1, H.code2, H.said, H.ended, by rw [putC_len]; exact put_forms H.forms hf, l, ?_, ?_, ?_⟩
  · refine hw.congr (fun x hx hl => ?_)
    have := hw.range x hx
    rw [callAt_put h0 h1 this.1, putC_len]
    refine ⟨hl, ?_, ?_⟩ <;> split <;> simp [*]
  · intro x x0 x1 x2
    rw [putC_len] at x1
    rw [callAt_put h0 h1 x0] at x2
    refine hcov x x0 x1 ?_
    split at x2
    · rename_i e; rw [e, ← hd]; exact x2
    · exact x2
  · intro x hx
    have hr := hw.range x (List.mem_of_mem_tail hx)
    have := hroom x hx
    rw [callAt_put h0 h1 hr.1]
    split
    · rename_i e
      subst e
      rcases hk with hk | hk
      · subst hk
        exact absurd rfl (path_tail (hw.path _ (Nat.le_refl _)) _ hx)
      · omega
    · exact this
theorem HOK.code (H : HOK p h) {k : Int} (hr : h.code ≠ 1) (h0 : 0 ≤ k) (h3 : k ≤ 3) (h1 : k ≠ 1) : HOK p { h with code := k } :=
  ⟨H.prog, H.now1, H.now2, H.born1, H.born2, H.size, h0, h3, H.said, ⟨fun e => absurd e h1, fun e => absurd (H.ended.mpr e) hr⟩, H.forms, H.way⟩
theorem HOK.say (H : HOK p h) {v : V} (hv : valOk p.length v = true) : HOK p { h with said := h.said ++ [v] } :=
  ⟨H.prog, H.now1, H.now2, H.born1, H.born2, H.size, H.code1, H.code2, by have := H.said; unfold saidOk at this ⊢; simp only [List.all_append, this, List.all_cons, hv, List.all_nil]; rfl, H.ended, H.forms, H.way⟩
theorem saidV_ok (H : HOK p h) {v : V} (hv : valOk h.calls.length v = true) : valOk p.length (saidV h v) = true := by
  unfold saidV
  split
  · rename_i h2
    obtain ⟨a, b⟩ := valOk_call hv h2
    have := H.at a b
    rw [h2]
    exact ok_call this.m0 this.m1
  · rename_i h2
    rw [valOk_ne2 h2]
    rwa [valOk_ne2 h2] at hv
theorem push_form {n : Int} {c : Cl} (hf : FormP p n c) {v : V} (hv : valOk n v = true) (hr : (c.stack.length : Int) < 6) (hd : c.dead = false) : FormP p n (pushC c v) :=
  ⟨hf.m0, hf.m1, hf.pc0, hf.pc1, hf.temps, by unfold pushC; simp; omega, hf.s0, hf.s1, hf.tv, fun u hu => by
    unfold pushC at hu
    rcases List.mem_append.mp hu with hu | hu
    · exact hf.sv u hu
    · rw [List.mem_singleton.mp hu]; exact hv, fun e => by
    have : c.dead = true := e
    rw [hd] at this; cases this⟩
theorem HOK.alive (H : HOK p h) (h0 : 0 ≤ h.now) : (nowC h).dead = false := by
  obtain ⟨l, hw, _⟩ := H.way
  cases l with
  | nil => have : h.now < 0 := hw; omega
  | cons x l => obtain ⟨rfl, _, _, hd, _⟩ := hw; exact hd
theorem HOK.push (H : HOK p h) (h0 : 0 ≤ h.now) {v : V} (hv : valOk h.calls.length v = true) (hr : ((nowC h).stack.length : Int) < 6) : HOK p (pushH h v) :=
  H.put h0 H.now2 (push_form (H.at h0 H.now2) hv hr (H.alive h0)) rfl rfl (.inl rfl)
theorem die_form {n : Int} {c : Cl} (hf : FormP p n c) (hn : 0 ≤ n) : FormP p n (dieC c) :=
  ⟨hf.m0, hf.m1, hf.pc0, hf.pc1, hf.temps, by unfold dieC; simp, by unfold dieC; simp, by unfold dieC; simp; omega, hf.tv, fun u hu => by unfold dieC at hu; simp at hu, fun _ => ⟨rfl, rfl⟩⟩
theorem leave_calls : (leaveH h).calls = (putC h h.now (dieC (nowC h))).calls := rfl
theorem leave_len : (leaveH h).calls.length = h.calls.length := by rw [leave_calls, putC_len]
/-- The way behind a call that returned. -/
theorem leave_way {l : List Int} (hw : Way h.calls h.now l) (h0 : 0 ≤ h.now) : Way (leaveH h).calls (leaveH h).now l.tail := by
  cases l with
  | nil => have : h.now < 0 := hw; omega
  | cons x l =>
    have hnd := hw.nodup
    obtain ⟨rfl, x0, x1, hd, hw'⟩ := hw
    have hnd := (List.nodup_cons.mp hnd).1
    refine Way.congr (cs := h.calls) hw' (fun y hy hl => ?_)
    have hr := hw'.range y hy
    rw [leave_len, leave_calls, callAt_put x0 x1 hr.1, if_neg (fun e : y = h.now => hnd (e ▸ hy))]
    exact ⟨hl, rfl, rfl⟩
theorem HOK.leaves (H : HOK p h) (hr : h.code = 0) : (∀ c ∈ (leaveH h).calls, form p (leaveH h).calls.length c = true) ∧
    ∃ l, Way (leaveH h).calls (leaveH h).now l ∧ (∀ x : Int, 0 ≤ x → x < (leaveH h).calls.length → (callAt (leaveH h).calls x).dead = false → x ∈ l) ∧ (∀ x ∈ l, ((callAt (leaveH h).calls x).stack.length : Int) < 6) ∧ l.length < h.calls.length + 1 := by
  have h0 := H.now0 hr
  have h1 := H.now2
  refine ⟨by rw [leave_len]; exact put_forms H.forms (die_form (H.at h0 h1) (by omega)), ?_⟩
  obtain ⟨l, hw, hcov, hroom⟩ := H.way
  have hlen := hw.len
  refine ⟨l.tail, leave_way hw h0, ?_, ?_, by rw [List.length_tail]; omega⟩
  · intro x x0 x1 x2
    rw [leave_len] at x1
    rw [leave_calls, callAt_put h0 h1 x0] at x2
    split at x2
    · cases x2
    · rename_i hne
      have := hcov x x0 x1 x2
      cases l with
      | nil => simp at this
      | cons y l =>
        obtain ⟨rfl, _⟩ := hw
        simpa [hne] using this
  · intro x hx
    have hr := hw.range x (List.mem_of_mem_tail hx)
    rw [leave_calls, callAt_put h0 h1 hr.1]
    split
    · unfold dieC; simp
    · exact hroom x hx
theorem HOK.leave (H : HOK p h) (hr : h.code = 0) (hs : 0 ≤ (nowC h).sender) : HOK p (leaveH h) ∧ ((nowC (leaveH h)).stack.length : Int) < 6 := by
  obtain ⟨hf, l, hw, hcov, hroom, hlen⟩ := H.leaves hr
  have hsend := H.at (H.now0 hr) H.now2
  refine ⟨⟨H.prog, ?_, ?_, H.born1, H.born2, by rw [leave_len]; exact H.size, H.code1, H.code2, H.said, ⟨fun e => ?_, fun e => ?_⟩, hf, l, hw, hcov, fun x hx => hroom x (List.mem_of_mem_tail hx)⟩, ?_⟩
  · exact hsend.s0
  · rw [leave_len]; exact hsend.s1
  · have : h.code = 1 := e
    omega
  · have : (nowC h).sender < 0 := e
    omega
  · cases l with
    | nil => have : (nowC h).sender < 0 := hw; omega
    | cons x l =>
      obtain ⟨hx, _⟩ := id hw
      have := hroom x (by simp)
      rw [← hx] at this
      exact this
theorem HOK.finish (H : HOK p h) (hr : h.code = 0) (hs : (nowC h).sender < 0) {v : V} (hv : valOk p.length v = true) : HOK p { leaveH h with said := h.said ++ [v], code := 1 } := by
  obtain ⟨hf, l, hw, hcov, hroom, hlen⟩ := H.leaves hr
  have hsend := H.at (H.now0 hr) H.now2
  refine ⟨H.prog, hsend.s0, by show (nowC h).sender < _; rw [leave_len]; exact hsend.s1, H.born1, H.born2, by rw [leave_len]; exact H.size, by show (0 : Int) ≤ 1; decide, by show (1 : Int) ≤ 3; decide, ?_, ⟨fun _ => hs, fun _ => rfl⟩, hf, l, hw, hcov, fun x hx => hroom x (List.mem_of_mem_tail hx)⟩
  have := H.said; unfold saidOk at this ⊢; simp only [List.all_append, this, List.all_cons, hv, List.all_nil]; rfl
theorem leave_code : (leaveH h).code = h.code := rfl
theorem back_ok {to : Int} : ∀ (n : Nat) (l : List Int) (h : Hp), Way h.calls h.now l → HOK p h → h.code = 0 → to ∈ l → l.length ≤ n + 1 →
    HOK p (backL n h to) ∧ (backL n h to).now = to ∧ (backL n h to).calls.length = h.calls.length ∧ (backL n h to).code = 0 ∧ (h.now = to → backL n h to = h) ∧ (h.now ≠ to → ((nowC (backL n h to)).stack.length : Int) < 6)
  | 0, l, h, hw, H, hr, ht, hl => by
    cases l with
    | nil => simp at ht
    | cons x l =>
      have hl : l = [] := List.length_eq_zero_iff.mp (by simpa using hl)
      subst hl
      have hx : to = x := by simpa using ht
      subst hx
      obtain ⟨hx, _⟩ := hw
      exact ⟨H, hx, rfl, hr, fun _ => rfl, fun hne => absurd hx hne⟩
  | n + 1, l, h, hw, H, hr, ht, hl => by
    unfold backL
    by_cases he : h.now = to
    · rw [if_pos he]
      exact ⟨H, he, rfl, hr, fun _ => rfl, fun hne => absurd he hne⟩
    · rw [if_neg he]
      have h0 := H.now0 hr
      have hw' := leave_way hw h0
      have ht' : to ∈ l.tail := by
        cases l with
        | nil => simp at ht
        | cons x l =>
          obtain ⟨hx, _⟩ := hw
          rcases List.mem_cons.mp ht with e | e
          · exact absurd (hx.trans e.symm) he
          · exact e
      have hs : 0 ≤ (nowC h).sender := by
        rcases Int.lt_or_le (nowC h).sender 0 with hneg | hpos
        · have e : l.tail = [] := hw'.det (m := []) hneg
          rw [e] at ht'; simp at ht'
        · exact hpos
      obtain ⟨H', hroom⟩ := H.leave hr hs
      obtain ⟨a1, a2, a3, a4, a5, a6⟩ := back_ok n l.tail (leaveH h) hw' H' hr ht' (by rw [List.length_tail]; omega)
      refine ⟨a1, a2, a3.trans leave_len, a4, fun e => absurd e he, fun _ => ?_⟩
      by_cases h1 : (leaveH h).now = to
      · rw [a5 h1]; exact hroom
      · exact a6 h1
structure DoPre (p : Pg) (h : Hp) (op : Int × Int) (args : List V) : Prop where
  ok : HOK p h
  run : h.code = 0
  isOp : opOk p (methAt p (nowC h).method) op = true
  len : (args.length : Int) = (takes p op).1
  vals : ∀ v ∈ args, valOk h.calls.length v = true
  room : ((nowC h).stack.length : Int) + (takes p op).2 ≤ 6
  kinds : kindsOk op args = true
theorem opOk_kind {m : Meth} {op : Int × Int} (h : opOk p m op = true) : 1 ≤ op.1 ∧ op.1 ≤ 18 := by
  unfold opOk at h
  by_cases h1 : op.1 = 1 ∨ op.1 = 2 ∨ op.1 = 3 ∨ op.1 = 7 ∨ op.1 = 8 ∨ op.1 = 9 ∨ op.1 = 13 ∨ op.1 = 14
  · omega
  · rw [if_neg (by omega), if_neg (by omega), if_neg (by omega), if_neg (by omega), if_neg (by omega), Bool.and_eq_true, inB_iff] at h
    omega
theorem prog_meth (H : progOk p = true) {i : Int} (h0 : 0 ≤ i) (h1 : i < p.length) : methOk p (methAt p i) = true := by
  unfold progOk at H
  simp only [Bool.and_eq_true, List.all_eq_true] at H
  exact H.2.2 _ (methAt_mem h0 h1)
structure MethP (p : Pg) (m : Meth) : Prop where
  a0 : 0 ≤ m.args
  a1 : m.args ≤ 2
  t0 : m.args ≤ m.temps
  t1 : m.temps ≤ 4
  ops : m.ops.length ≤ 14
  all : ∀ op ∈ m.ops, opOk p m op = true
theorem methOk_iff {m : Meth} : methOk p m = true ↔ MethP p m := by
  unfold methOk
  simp only [Bool.and_eq_true, List.all_eq_true, inB_iff, decide_eq_true_eq]
  exact ⟨fun ⟨a, b, c, d⟩ => ⟨a.1, a.2, b.1, b.2, by omega, d⟩, fun h => ⟨⟨h.a0, h.a1⟩, ⟨h.t0, h.t1⟩, by have := h.ops; omega, h.all⟩⟩
theorem prog_len (H : progOk p = true) : 1 ≤ p.length ∧ p.length ≤ 4 := by
  unfold progOk at H
  simp only [Bool.and_eq_true, inB_iff] at H
  omega
theorem HOK.meth (H : HOK p h) {i : Int} (h0 : 0 ≤ i) (h1 : i < h.calls.length) : MethP p (methAt p (callAt h.calls i).method) := by
  have hf := H.at h0 h1
  exact methOk_iff.mp (prog_meth H.prog hf.m0 hf.m1)
theorem takes_range (H : progOk p = true) (op : Int × Int) : 0 ≤ (takes p op).1 ∧ (takes p op).1 ≤ 2 ∧ 0 ≤ (takes p op).2 ∧ (takes p op).2 ≤ 1 := by
  unfold takes
  repeat' split
  all_goals first | (refine ⟨?_, ?_, ?_, ?_⟩ <;> simp <;> done) | skip
  rename_i hin
  rw [inB_iff] at hin
  have := methOk_iff.mp (prog_meth H hin.1 (by omega))
  exact ⟨this.a0, this.a1, by show (0 : Int) ≤ 1; decide, by show (1 : Int) ≤ 1; decide⟩
theorem took_len : (tookH p h).calls.length = h.calls.length := putC_len ..
theorem step_pre (H : HOK p h) (hr : h.code = 0) (h1 : ¬ ((opsNow p h).length : Int) ≤ (nowC h).pc) (h2 : ¬ (leftNow p h < 0 ∨ 6 < leftNow p h + (takes p (opNow p h)).2)) (h3 : ¬ kindsOk (opNow p h) (argsNow p h) = false) :
    DoPre p (tookH p h) (opNow p h) (argsNow p h) := by
  have h0 := H.now0 hr
  have hf := H.at h0 H.now2
  have hm := H.meth h0 H.now2
  have ht := takes_range H.prog (opNow p h)
  have hle : leftNow p h = (nowC h).stack.length - (takes p (opNow p h)).1 := rfl
  have hnow : nowC (tookH p h) = { nowC h with stack := (nowC h).stack.take (leftNow p h).toNat, pc := (nowC h).pc + 1 } := by
    unfold nowC
    show callAt (putC h h.now _).calls h.now = _
    rw [callAt_put h0 H.now2 h0, if_pos rfl]; rfl
  have hpc0 := hf.pc0
  have hpc1 := hf.pc1
  refine ⟨H.put h0 H.now2 ⟨hf.m0, hf.m1, ?_, ?_, hf.temps, ?_, hf.s0, hf.s1, hf.tv, fun v hv => hf.sv v (List.mem_of_mem_take hv), fun hd => ?_⟩ rfl rfl (.inl rfl), hr, ?_, ?_, ?_, ?_, by simpa using h3⟩
  · show 0 ≤ (nowC h).pc + 1
    have : 0 ≤ (nowC h).pc := hpc0
    omega
  · show (nowC h).pc + 1 ≤ ((opsNow p h).length : Int)
    omega
  · show (((nowC h).stack.take (leftNow p h).toNat).length : Int) ≤ 6
    have := hf.stack
    have h9 := List.length_take_le (leftNow p h).toNat (nowC h).stack
    have : ((nowC h).stack.length : Int) ≤ 6 := this
    have := List.length_take_le' (leftNow p h).toNat (nowC h).stack
    omega
  · have := H.alive h0
    have hd : (nowC h).dead = true := hd
    rw [this] at hd; cases hd
  · rw [hnow]
    have hlt : (nowC h).pc < ((opsNow p h).length : Int) := by omega
    exact hm.all _ (pairAt_mem (l := opsNow p h) hpc0 hlt)
  · show (((nowC h).stack.drop (leftNow p h).toNat).length : Int) = _
    rw [List.length_drop]
    omega
  · intro v hv
    rw [took_len]
    exact hf.sv v (List.mem_of_mem_drop hv)
  · rw [hnow]
    show ((((nowC h).stack.take (leftNow p h).toNat).length : Nat) : Int) + _ ≤ 6
    rw [List.length_take]
    omega
theorem args_at {l : List V} {P : V → Prop} (h : ∀ v ∈ l, P v) {i : Int} (h0 : 0 ≤ i) (h1 : i < l.length) : P (pairAt l i) := h _ (pairAt_mem h0 h1)
theorem set_form {n : Int} {c : Cl} (hf : FormP p n c) {v : V} (hv : valOk n v = true) (a : Nat) : FormP p n { c with temps := c.temps.set a v } :=
  ⟨hf.m0, hf.m1, hf.pc0, hf.pc1, by show ((c.temps.set a v).length : Int) = _; rw [List.length_set]; exact hf.temps, hf.stack, hf.s0, hf.s1, fun u hu => by
    rcases List.mem_or_eq_of_mem_set hu with hu | rfl
    · exact hf.tv u hu
    · exact hv, hf.sv, hf.dead⟩
theorem HOK.call (H : HOK p h) (hr : h.code = 0) {k : Int} {args : List V} (k0 : 0 ≤ k) (k1 : k < p.length) (hl : (args.length : Int) = (methAt p k).args) (hv : ∀ v ∈ args, valOk h.calls.length v = true) (hroom : ((nowC h).stack.length : Int) < 6) :
    HOK p (callH p h k args) := by
  unfold callH
  split
  · exact H.code (by omega) (by decide) (by decide) (by decide)
  · have h0 := H.now0 hr
    have h1 := H.now2
    have hm := methOk_iff.mp (prog_meth H.prog k0 k1)
    have hb := H.size
    have hsz : (h.calls ++ [newC p k args h.now]).length = h.calls.length + 1 := by simp
    have hat := hm.t0
    obtain ⟨l, hw, hcov, hrm⟩ := H.way
    have hnew : FormP p (h.calls.length + 1) (newC p k args h.now) := by
      refine ⟨k0, k1, Int.le_refl _, by show (0 : Int) ≤ _; omega, ?_, by show ((0 : Nat) : Int) ≤ 6; decide, by show -1 ≤ h.now; omega, by show h.now < _; omega, fun v hv' => ?_, fun v hv' => ?_, fun e => by cases e⟩
      · show (((args ++ List.replicate ((methAt p k).temps - args.length).toNat (0, 0)).length : Nat) : Int) = (methAt p k).temps
        rw [List.length_append, List.length_replicate]
        omega
      · have hv' : v ∈ args ++ List.replicate ((methAt p k).temps - args.length).toNat (0, 0) := hv'
        rcases List.mem_append.mp hv' with h9 | h9
        · exact valOk_up (hv v h9) (by omega)
        · rw [(List.mem_replicate.mp h9).2]; exact ok_none
      · have : v ∈ ([] : List V) := hv'
        simp at this
    refine ⟨H.prog, by show -1 ≤ (h.calls.length : Int); omega, by show (h.calls.length : Int) < _; rw [hsz]; omega, by show 1 ≤ h.born + 1; have := H.born1; omega, by show h.born + 1 ≤ 30; have := H.born2; omega, by show (_ : Int) ≤ h.born + 1; rw [hsz]; omega, H.code1, H.code2, H.said,
      ⟨fun e => by have : h.code = 1 := e; omega, fun e => by have : (h.calls.length : Int) < 0 := e; omega⟩, ?_, (h.calls.length : Int) :: l, ⟨rfl, by omega, by rw [hsz]; omega, ?_, ?_⟩, ?_, ?_⟩
    · intro c hc
      rw [hsz]
      rcases List.mem_append.mp hc with h9 | h9
      · exact form_iff.mpr ((form_iff.mp (H.forms c h9)).up (by omega))
      · rw [List.mem_singleton.mp h9]; exact form_iff.mpr (by simpa using hnew)
    · rw [callAt_app (by omega), if_neg (by omega), if_pos rfl]; rfl
    · rw [callAt_app (by omega), if_neg (by omega), if_pos rfl]
      refine Way.congr (cs := h.calls) hw (fun x hx hlx => ?_)
      have hrx := hw.range x hx
      rw [callAt_app hrx.1, if_pos hlx]
      exact ⟨by rw [hsz]; omega, rfl, rfl⟩
    · intro x x0 x1 x2
      rw [hsz] at x1
      by_cases hx : x < h.calls.length
      · rw [callAt_app x0, if_pos hx] at x2
        exact List.mem_cons_of_mem _ (hcov x x0 hx x2)
      · have : x = h.calls.length := by omega
        rw [this]; simp
    · intro x hx
      have hx : x ∈ l := hx
      have hrx := hw.range x hx
      rw [callAt_app hrx.1, if_pos hrx.2.1]
      cases l with
      | nil => simp at hx
      | cons y l =>
        obtain ⟨rfl, _⟩ := hw
        rcases List.mem_cons.mp hx with rfl | h9
        · exact hroom
        · exact hrm x h9
theorem look_ok (H : HOK p h) {op : Int × Int} {i : Int} (ho : 0 ≤ op.2) (i0 : 0 ≤ i) (i1 : i < h.calls.length) : valOk h.calls.length (lookV h op i) = true := by
  have hf := H.at i0 i1
  have hm := H.meth i0 i1
  unfold lookV
  split
  · split
    · exact ok_call (by omega) hf.s1
    · exact ok_none
  · split
    · split
      · exact hf.tv _ (pairAt_mem ho (by assumption))
      · exact ok_none
    · split
      · exact ok_bit
      · split
        · exact ok_num hf.pc0 (by have := hf.pc1; have := hm.ops; omega)
        · exact ok_none
theorem made_ok {op : Int × Int} {args : List V} {v : V} {n : Int} {m : Meth} (hop : opOk p m op = true) (hl : (args.length : Int) = (takes p op).1) (hv : ∀ v ∈ args, valOk n v = true) (hk : kindsOk op args = true) (h : madeV op args = some v) : valOk n v = true ∧ (takes p op).2 = 1 := by
  unfold madeV at h
  split at h
  · rename_i h1
    injection h with h; subst h
    unfold opOk at hop
    rw [if_pos h1, inB_iff] at hop
    exact ⟨ok_num hop.1 (by omega), by unfold takes; rw [if_pos (.inl h1)]⟩
  · split at h
    · rename_i h1 h5
      injection h with h; subst h
      have ht : takes p op = (2, 1) := by unfold takes; simp [h5]
      rw [ht] at hl
      unfold kindsOk at hk
      rw [if_pos h5, Bool.and_eq_true, decide_eq_true_eq, decide_eq_true_eq] at hk
      have a := valOk_num (args_at hv (i := 0) (by omega) (by omega)) hk.1
      have b := valOk_num (args_at hv (i := 1) (by omega) (by omega)) hk.2
      refine ⟨?_, by rw [ht]⟩
      rw [Int.tmod_eq_emod_of_nonneg (by omega)]
      exact ok_num (by omega) (by omega)
    · split at h
      · rename_i h1 h5 h6
        injection h with h; subst h
        exact ⟨ok_bit, by unfold takes; simp [h6]⟩
      · cases h
theorem do_ok {op : Int × Int} {args : List V} (D : DoPre p h op args) : HOK p (doH p h op args) := by
  have H := D.ok
  have hr := D.run
  have h0 := H.now0 hr
  have h1 := H.now2
  have hf := H.at h0 h1
  have hm := H.meth h0 h1
  have hop := D.isOp
  have hl := D.len
  have hv := D.vals
  have hroom := D.room
  have hk := D.kinds
  have hnow : callAt h.calls h.now = nowC h := rfl
  unfold doH
  cases hmv : madeV op args with
  | some v =>
    obtain ⟨a, b⟩ := made_ok hop hl hv hk hmv
    exact H.push h0 a (by omega)
  | none =>
    simp only
    have arg : ∀ {i : Int}, 0 ≤ i → i < (takes p op).1 → valOk h.calls.length (pairAt args i) = true := fun {i} a b => args_at hv a (by omega)
    have hkk : op.1 = 12 ∨ op.1 = 13 ∨ op.1 = 17 ∨ op.1 = 18 ∨ op.1 = 14 ∨ op.1 = 15 → (pairAt args 0).1 = 2 := fun hc => by
      unfold kindsOk at hk
      rw [if_neg (by omega), if_pos hc] at hk
      simpa using hk
    by_cases h2 : op.1 = 2
    · rw [if_pos h2]
      have ht : takes p op = (0, 1) := by unfold takes; simp [h2]
      rw [ht] at hroom
      unfold opOk at hop
      rw [if_neg (by omega), if_pos (.inl h2), inB_iff] at hop
      have htl : ((nowC h).temps.length : Int) = _ := hf.temps
      exact H.push h0 (hf.tv _ (pairAt_mem hop.1 (by rw [hnow, htl]; show op.2 < (methAt p (nowC h).method).temps; omega))) (by have hroom : ((nowC h).stack.length : Int) + 1 ≤ 6 := hroom; omega)
    rw [if_neg h2]
    by_cases h3 : op.1 = 3
    · rw [if_pos h3]
      have ht : takes p op = (1, 0) := by unfold takes; simp [h3]
      rw [ht] at arg
      exact H.put h0 h1 (set_form hf (arg (by decide) (by decide)) _) rfl rfl (.inl rfl)
    rw [if_neg h3]
    by_cases h7 : op.1 = 7
    · rw [if_pos h7]
      unfold opOk at hop
      rw [if_neg (by omega), if_neg (by omega), if_pos (.inl h7), inB_iff] at hop
      exact H.put h0 h1 ⟨hf.m0, hf.m1, hop.1, by have := hop.2; show op.2 ≤ ((methAt p (nowC h).method).ops.length : Int); omega, hf.temps, hf.stack, hf.s0, hf.s1, hf.tv, hf.sv, hf.dead⟩ rfl rfl (.inl rfl)
    rw [if_neg h7]
    by_cases h8 : op.1 = 8
    · rw [if_pos h8]
      split
      · unfold opOk at hop
        rw [if_neg (by omega), if_neg (by omega), if_pos (.inr h8), inB_iff] at hop
        exact H.put h0 h1 ⟨hf.m0, hf.m1, hop.1, by have := hop.2; show op.2 ≤ ((methAt p (nowC h).method).ops.length : Int); omega, hf.temps, hf.stack, hf.s0, hf.s1, hf.tv, hf.sv, hf.dead⟩ rfl rfl (.inl rfl)
      · exact H
    rw [if_neg h8]
    by_cases h9 : op.1 = 9
    · rw [if_pos h9]
      unfold opOk at hop
      rw [if_neg (by omega), if_neg (by omega), if_neg (by omega), if_pos h9] at hop
      have ht : takes p op = ((methAt p op.2).args, 1) := by unfold takes; simp [h9, hop]
      rw [ht] at hl hroom
      rw [inB_iff] at hop
      exact H.call hr hop.1 (by omega) hl hv (by have hroom : ((nowC h).stack.length : Int) + 1 ≤ 6 := hroom; omega)
    rw [if_neg h9]
    by_cases h10 : op.1 = 10
    · rw [if_pos h10]
      have ht : takes p op = (1, 0) := by unfold takes; simp [h10]
      rw [ht] at arg
      have ha := arg (i := 0) (by decide) (by decide)
      unfold retH
      split
      · rename_i hs
        refine H.finish hr hs (v := saidV (leaveH h) (pairAt args 0)) ?_
        have hx := saidV_ok H ha
        unfold saidV at hx ⊢
        split
        · rename_i h2
          rw [if_pos h2] at hx
          obtain ⟨a, b⟩ := valOk_call ha h2
          rw [leave_calls, callAt_put h0 h1 a]
          split
          · rename_i e
            rw [e] at hx
            exact hx
          · exact hx
        · rename_i h2
          rw [if_neg h2] at hx
          exact hx
      · rename_i hs
        obtain ⟨H', hrm⟩ := H.leave hr (by omega)
        exact H'.push (H'.now0 hr) (by rw [leave_len]; exact ha) hrm
    rw [if_neg h10]
    by_cases h11 : op.1 = 11
    · rw [if_pos h11]
      have ht : takes p op = (0, 1) := by unfold takes; simp [h11]
      rw [ht] at hroom
      exact H.push h0 (ok_call h0 h1) (by have hroom : ((nowC h).stack.length : Int) + 1 ≤ 6 := hroom; omega)
    rw [if_neg h11]
    by_cases h12 : op.1 = 12 ∨ op.1 = 13 ∨ op.1 = 17 ∨ op.1 = 18
    · rw [if_pos h12]
      have ht : takes p op = (1, 1) := by unfold takes; rcases h12 with h | h | h | h <;> simp [h]
      rw [ht] at arg hroom
      have ha := arg (i := 0) (by decide) (by decide)
      obtain ⟨a, b⟩ := valOk_call ha (hkk (by omega))
      refine H.push h0 (look_ok H ?_ a b) (by have hroom : ((nowC h).stack.length : Int) + 1 ≤ 6 := hroom; omega)
      unfold opOk at hop
      by_cases h13 : op.1 = 13
      · rw [if_neg (by omega), if_neg (by omega), if_neg (by omega), if_neg (by omega), if_pos (.inl h13), inB_iff] at hop
        exact hop.1
      · rw [if_neg (by omega), if_neg (by omega), if_neg (by omega), if_neg (by omega), if_neg (by omega), Bool.and_eq_true, decide_eq_true_eq] at hop
        omega
    rw [if_neg h12]
    by_cases h14 : op.1 = 14
    · rw [if_pos h14]
      have ht : takes p op = (2, 0) := by unfold takes; simp [h14]
      rw [ht] at arg
      have ha := arg (i := 0) (by decide) (by decide)
      have hb := arg (i := 1) (by decide) (by decide)
      obtain ⟨a, b⟩ := valOk_call ha (hkk (by omega))
      unfold pokeH
      split
      · exact H.put a b (set_form (H.at a b) hb _) rfl rfl (.inr (Nat.le_refl _))
      · exact H
    rw [if_neg h14]
    by_cases h15 : op.1 = 15
    · rw [if_pos h15]
      have ht : takes p op = (2, 1) := by unfold takes; simp [h15]
      rw [ht] at arg hroom
      have ha := arg (i := 0) (by decide) (by decide)
      have hb := arg (i := 1) (by decide) (by decide)
      obtain ⟨a, b⟩ := valOk_call ha (hkk (by omega))
      unfold backH
      split
      · exact H.code (by omega) (by decide) (by decide) (by decide)
      · rename_i hd
        obtain ⟨l, hw, hcov, hrm⟩ := H.way
        have hin := hcov _ a b (by simpa using hd)
        obtain ⟨a1, a2, a3, a4, a5, a6⟩ := back_ok h.calls.length l h hw H hr hin (by have := hw.len; omega)
        refine a1.push (by rw [a2]; exact a) (by rw [a3]; exact hb) ?_
        by_cases he : h.now = (pairAt args 0).2
        · rw [a5 he]; have hroom : ((nowC h).stack.length : Int) + 1 ≤ 6 := hroom; omega
        · exact a6 he
    rw [if_neg h15]
    by_cases h16 : op.1 = 16
    · rw [if_pos h16]
      have ht : takes p op = (1, 0) := by unfold takes; simp [h16]
      rw [ht] at arg
      have ha := arg (i := 0) (by decide) (by decide)
      exact H.say (saidV_ok H ha)
    rw [if_neg h16]
    exact H
theorem step_ok (H : HOK p h) (hr : h.code = 0) : HOK p (stepH p h) := by
  unfold stepH
  split
  · exact H.code (by omega) (by decide) (by decide) (by decide)
  split
  · exact H.code (by omega) (by decide) (by decide) (by decide)
  split
  · exact H.code (by omega) (by decide) (by decide) (by decide)
  · exact do_ok (step_pre H hr (by assumption) (by assumption) (by assumption))
theorem run_ok : ∀ (n : Nat) (h : Hp), HOK p h → HOK p (runH p n h)
  | 0, h, H => H
  | n + 1, h, H => by
    unfold runH
    split
    · exact run_ok n _ (step_ok H (by assumption))
    · exact H
end Go.PT

/- What each operation does, as the laws say it: a heap in which the next operation is a given one, and what stands behind it. -/
set_option linter.unusedVariables false
set_option linter.unusedSimpArgs false
namespace Go.PT
def withP (p : Pg) (h : Hp) (op : Int × Int) : Pg := p.set (nowC h).method.toNat { methAt p (nowC h).method with ops := (opsNow p h).set (nowC h).pc.toNat op }
def withH (h : Hp) (st : List V) : Hp := putC h h.now { nowC h with stack := st }
def canW (p : Pg) (h : Hp) : Prop := HOK p h ∧ h.code = 0 ∧ (nowC h).pc < (opsNow p h).length
def okWith (p : Pg) (h : Hp) (op : Int × Int) (st : List V) : Prop := canW p h ∧ progOk (withP p h op) = true ∧ HOK (withP p h op) (withH h st)
def afterH (g : Hp) (st : List V) : Hp := putC g g.now { nowC g with stack := st, pc := (nowC g).pc + 1 }
theorem putC_put {h : Hp} {i : Int} {c d : Cl} : putC (putC h i c) i d = putC h i d := by unfold putC; simp [List.set_set]
theorem nowC_put {h : Hp} {c : Cl} (h0 : 0 ≤ h.now) (h1 : h.now < h.calls.length) : nowC (putC h h.now c) = c := by
  unfold nowC
  show callAt (putC h h.now c).calls h.now = c
  rw [callAt_put h0 h1 h0, if_pos rfl]
theorem now_put {h : Hp} {i : Int} {c : Cl} : (putC h i c).now = h.now := rfl
theorem methAt_set {p : Pg} {i j : Int} {m : Meth} (hi : 0 ≤ i) (hl : i < p.length) (hj : 0 ≤ j) : methAt (p.set i.toNat m) j = if j = i then m else methAt p j := by
  unfold methAt
  rw [List.getD_eq_getElem?_getD, List.getD_eq_getElem?_getD, List.getElem?_set]
  by_cases h : j = i
  · subst h
    rw [if_pos rfl, if_pos (by omega), if_pos rfl]; rfl
  · rw [if_neg (by omega), if_neg h]
theorem pairAt_set {l : List V} {i : Int} {v : V} (hi : 0 ≤ i) (hl : i < l.length) : pairAt (l.set i.toNat v) i = v := by
  unfold pairAt
  rw [List.getD_eq_getElem?_getD, List.getElem?_set, if_pos rfl, if_pos (by omega)]; rfl
section
variable {p : Pg} {h : Hp} {op : Int × Int} {st : List V}
theorem okWith.facts (W : okWith p h op st) : 0 ≤ h.now ∧ h.now < h.calls.length ∧ 0 ≤ (nowC h).method ∧ (nowC h).method < p.length ∧ 0 ≤ (nowC h).pc ∧ (nowC h).pc < (opsNow p h).length := by
  obtain ⟨⟨H, hr, hpc⟩, _, _⟩ := W
  have h0 := H.now0 hr
  have f := H.at h0 H.now2
  exact ⟨h0, H.now2, f.m0, f.m1, f.pc0, hpc⟩
theorem okWith.now (W : okWith p h op st) : nowC (withH h st) = { nowC h with stack := st } := by
  obtain ⟨a, b, _⟩ := W.facts
  exact nowC_put a b
theorem okWith.ops (W : okWith p h op st) : opsNow (withP p h op) (withH h st) = (opsNow p h).set (nowC h).pc.toNat op := by
  obtain ⟨a, b, c, d, e, f⟩ := W.facts
  unfold opsNow
  rw [W.now]
  unfold withP
  show (methAt _ (nowC h).method).ops = _
  rw [methAt_set c d c, if_pos rfl]
  rfl
theorem okWith.isOp (W : okWith p h op st) : opNow (withP p h op) (withH h st) = op := by
  obtain ⟨a, b, c, d, e, f⟩ := W.facts
  unfold opNow
  rw [W.ops, W.now]
  exact pairAt_set e f
theorem okWith.opOk (W : okWith p h op st) : opOk (withP p h op) (methAt (withP p h op) (nowC h).method) op = true := by
  obtain ⟨a, b, c, d, e, f⟩ := W.facts
  have hm := methOk_iff.mp (prog_meth W.2.1 (i := (nowC h).method) c (by unfold withP; rw [List.length_set]; exact d))
  refine hm.all op ?_
  unfold withP
  rw [methAt_set c d c, if_pos rfl]
  show op ∈ (opsNow p h).set (nowC h).pc.toNat op
  exact List.mem_of_getElem? (i := (nowC h).pc.toNat) (by rw [List.getElem?_set, if_pos rfl, if_pos (by omega)])
/-- A step where the next operation is given. -/
theorem okWith.step (W : okWith p h op st) (t1 t2 : Int) (ht : takes (withP p h op) op = (t1, t2)) (h1 : t1 ≤ st.length) (h2 : (st.length : Int) - t1 + t2 ≤ 6) (hk : kindsOk op (st.drop ((st.length : Int) - t1).toNat) = true) :
    stepH (withP p h op) (withH h st) = doH (withP p h op) (afterH (withH h st) (st.take ((st.length : Int) - t1).toNat)) op (st.drop ((st.length : Int) - t1).toNat) := by
  obtain ⟨a, b, c, d, e, f⟩ := W.facts
  have hl : leftNow (withP p h op) (withH h st) = (st.length : Int) - t1 := by unfold leftNow; rw [W.isOp, ht, W.now]
  have ha : argsNow (withP p h op) (withH h st) = st.drop ((st.length : Int) - t1).toNat := by unfold argsNow; rw [hl, W.now]
  unfold stepH
  rw [W.ops, W.now, W.isOp, hl, ha, ht, hk, List.length_set]
  have f' : ¬ (((opsNow p h).length : Int) ≤ ({ nowC h with stack := st } : Cl).pc) := by show ¬ (_ ≤ (nowC h).pc); omega
  have g' : ¬ ((st.length : Int) - t1 < 0 ∨ 6 < (st.length : Int) - t1 + (t1, t2).2) := by simp; omega
  rw [if_neg f', if_neg g', if_neg (by decide)]
  unfold tookH
  rw [hl, W.now]
  unfold afterH
  rw [W.now]
end
end Go.PT

/- The laws of the operations: what a step does where the next operation is a given one. -/
set_option linter.unusedVariables false
set_option linter.unusedSimpArgs false
namespace Go.PT
section
variable {p : Pg} {h g : Hp} {op : Int × Int} {st : List V}
theorem okWith.gok (W : okWith p h op st) : HOK (withP p h op) (withH h st) := W.2.2
theorem okWith.run (W : okWith p h op st) : runH (withP p h op) 1 (withH h st) = stepH (withP p h op) (withH h st) := by
  have hc : (withH h st).code = 0 := W.1.2.1
  show (if (withH h st).code = 0 then _ else _) = _
  rw [if_pos hc]; rfl
theorem now_len {g : Hp} {st : List V} : (afterH g st).now = g.now ∧ (afterH g st).calls.length = g.calls.length := ⟨rfl, putC_len _ _ _⟩
theorem after_now {g : Hp} {st : List V} (h0 : 0 ≤ g.now) (h1 : g.now < g.calls.length) : nowC (afterH g st) = { nowC g with stack := st, pc := (nowC g).pc + 1 } := nowC_put h0 h1
theorem push_after {g : Hp} {st : List V} {v : V} (h0 : 0 ≤ g.now) (h1 : g.now < g.calls.length) : pushH (afterH g st) v = afterH g (st ++ [v]) := by
  unfold pushH
  rw [after_now h0 h1]
  exact putC_put
theorem after_at {g : Hp} {st : List V} {k : Int} (h0 : 0 ≤ g.now) (h1 : g.now < g.calls.length) (k0 : 0 ≤ k) : callAt (afterH g st).calls k = if k = g.now then { nowC g with stack := st, pc := (nowC g).pc + 1 } else callAt g.calls k := callAt_put h0 h1 k0
theorem okWith.range (W : okWith p h op st) : 0 ≤ (withH h st).now ∧ (withH h st).now < (withH h st).calls.length := by
  obtain ⟨a, b, _⟩ := W.facts
  exact ⟨a, by show h.now < ((putC h h.now _).calls.length : Int); rw [putC_len]; exact b⟩
theorem okWith.temps (W : okWith p h op st) : ((nowC (withH h st)).temps.length : Int) = (methAt (withP p h op) (nowC h).method).temps := by
  have r := W.range
  have f := W.gok.at r.1 r.2
  have e : (callAt (withH h st).calls (withH h st).now) = nowC (withH h st) := rfl
  rw [e] at f
  have := f.temps
  rw [this, W.now]
theorem step_num {n : Int} (W : okWith p h (1, n) st) (hs : st.length ≤ 5) : stepH (withP p h (1, n)) (withH h st) = afterH (withH h st) (st ++ [(1, n)]) := by
  have r := W.range
  rw [W.step 0 1 rfl (by omega) (by omega) rfl]
  have e1 : st.take ((st.length : Int) - 0).toNat = st := List.take_of_length_le (by omega)
  rw [e1, ← push_after r.1 r.2]
  rfl
theorem step_temp {n : Int} (W : okWith p h (2, n) st) (hs : st.length ≤ 5) : 0 ≤ n ∧ n < (nowC (withH h st)).temps.length ∧ stepH (withP p h (2, n)) (withH h st) = afterH (withH h st) (st ++ [pairAt (nowC (withH h st)).temps n]) := by
  have r := W.range
  have ho := W.opOk
  have ht := W.temps
  have ho : inB n 0 ((methAt (withP p h (2, n)) (nowC h).method).temps - 1) = true := ho
  rw [inB_iff] at ho
  refine ⟨ho.1, by omega, ?_⟩
  rw [W.step 0 1 rfl (by omega) (by omega) rfl]
  have e1 : st.take ((st.length : Int) - 0).toNat = st := List.take_of_length_le (by omega)
  rw [e1, ← push_after r.1 r.2]
  show pushH _ (pairAt (nowC (afterH (withH h st) st)).temps n) = _
  rw [after_now r.1 r.2]
theorem step_set {n : Int} {a v : V} (W : okWith p h (3, n) [a, v]) : 0 ≤ n ∧ n < (nowC (withH h [a, v])).temps.length ∧ stepH (withP p h (3, n)) (withH h [a, v]) = setT (afterH (withH h [a, v]) [a]) (withH h [a, v]).now n v := by
  have ho := W.opOk
  have ht := W.temps
  have ho : inB n 0 ((methAt (withP p h (3, n)) (nowC h).method).temps - 1) = true := ho
  rw [inB_iff] at ho
  refine ⟨ho.1, by omega, ?_⟩
  rw [W.step 1 0 rfl (by simp) (by simp) rfl]
  rfl
theorem step_drop {n : Int} {a v : V} (W : okWith p h (4, n) [a, v]) : stepH (withP p h (4, n)) (withH h [a, v]) = afterH (withH h [a, v]) [a] := by
  rw [W.step 1 0 rfl (by simp) (by simp) rfl]
  rfl
theorem step_add {n x y : Int} {a : V} (W : okWith p h (5, n) [a, (1, x), (1, y)]) : stepH (withP p h (5, n)) (withH h [a, (1, x), (1, y)]) = afterH (withH h [a, (1, x), (1, y)]) [a, (1, (x + y).tmod 1000)] := by
  have r := W.range
  rw [W.step 2 1 rfl (by simp) (by simp) rfl, show [a, (1, (x + y).tmod 1000)] = [a] ++ [(1, (x + y).tmod 1000)] from rfl, ← push_after r.1 r.2]
  rfl
theorem step_same {n : Int} {a b : V} (W : okWith p h (6, n) [a, b]) : stepH (withP p h (6, n)) (withH h [a, b]) = afterH (withH h [a, b]) [bitV (a == b)] := by
  have r := W.range
  rw [W.step 2 1 rfl (by simp) (by simp) rfl, show [bitV (a == b)] = [] ++ [bitV (a == b)] from rfl, ← push_after r.1 r.2]
  rfl
theorem step_jump {n : Int} {a : V} (W : okWith p h (7, n) [a]) : stepH (withP p h (7, n)) (withH h [a]) = setPc (afterH (withH h [a]) [a]) n := by
  rw [W.step 0 0 rfl (by simp) (by simp) rfl]
  rfl
theorem step_zero {n : Int} {a v : V} (W : okWith p h (8, n) [a, v]) : stepH (withP p h (8, n)) (withH h [a, v]) = if v.1 = 0 ∨ v = (1, 0) then setPc (afterH (withH h [a, v]) [a]) n else afterH (withH h [a, v]) [a] := by
  rw [W.step 1 0 rfl (by simp) (by simp) rfl]
  rfl
theorem step_here {a : V} {n : Int} (W : okWith p h (11, n) [a]) : stepH (withP p h (11, n)) (withH h [a]) = afterH (withH h [a]) [a, (2, (withH h [a]).now)] := by
  have r := W.range
  rw [W.step 0 1 rfl (by simp) (by simp) rfl, show [a, ((2, (withH h [a]).now) : V)] = [a] ++ [(2, (withH h [a]).now)] from rfl, ← push_after r.1 r.2]
  rfl
/-- A call that stands in the values is one. -/
theorem okWith.val (W : okWith p h op st) {v : V} (hv : v ∈ st) : valOk (withH h st).calls.length v = true := by
  have r := W.range
  have f := W.gok.at r.1 r.2
  have e : (callAt (withH h st).calls (withH h st).now) = nowC (withH h st) := rfl
  rw [e, W.now] at f
  exact f.sv v hv
theorem okWith.of (W : okWith p h op st) {k : Int} (hv : ((2, k) : V) ∈ st) : 0 ≤ k ∧ k < (withH h st).calls.length := valOk_call (W.val hv) rfl
theorem step_look1 {o n : Int} {k : Int} {a : V} (ho : o = 12 ∨ o = 13 ∨ o = 17 ∨ o = 18) (W : okWith p h (o, n) [a, (2, k)]) : stepH (withP p h (o, n)) (withH h [a, (2, k)]) = afterH (withH h [a, (2, k)]) [a, lookV (afterH (withH h [a, (2, k)]) [a]) (o, n) k] := by
  have r := W.range
  rcases ho with rfl | rfl | rfl | rfl <;>
  · rw [W.step 1 1 rfl (by simp) (by simp) rfl]
    exact push_after (st := [a]) r.1 r.2
theorem step_look0 {o n : Int} {k : Int} (ho : o = 12 ∨ o = 13 ∨ o = 17 ∨ o = 18) (W : okWith p h (o, n) [(2, k)]) : stepH (withP p h (o, n)) (withH h [(2, k)]) = afterH (withH h [(2, k)]) [lookV (afterH (withH h [(2, k)]) []) (o, n) k] := by
  have r := W.range
  rcases ho with rfl | rfl | rfl | rfl <;>
  · rw [W.step 1 1 rfl (by simp) (by simp) rfl]
    exact push_after (st := []) r.1 r.2
theorem look_sender {g : Hp} {st : List V} {n k : Int} (h0 : 0 ≤ g.now) (h1 : g.now < g.calls.length) (k0 : 0 ≤ k) : lookV (afterH g st) (12, n) k = if (callAt g.calls k).sender ≥ 0 then (2, (callAt g.calls k).sender) else (0, 0) := by
  show (if (callAt (afterH g st).calls k).sender ≥ 0 then _ else _) = _
  rw [after_at h0 h1 k0]
  by_cases h : k = g.now
  · subst h; rw [if_pos rfl]; rfl
  · rw [if_neg h]
theorem look_peek {g : Hp} {st : List V} {n k : Int} (h0 : 0 ≤ g.now) (h1 : g.now < g.calls.length) (k0 : 0 ≤ k) : lookV (afterH g st) (13, n) k = if n < (callAt g.calls k).temps.length then pairAt (callAt g.calls k).temps n else (0, 0) := by
  show (if n < ((callAt (afterH g st).calls k).temps.length : Int) then _ else _) = _
  rw [after_at h0 h1 k0]
  by_cases h : k = g.now
  · subst h; rw [if_pos rfl]; rfl
  · rw [if_neg h]
theorem look_dead {g : Hp} {st : List V} {n k : Int} (h0 : 0 ≤ g.now) (h1 : g.now < g.calls.length) (k0 : 0 ≤ k) : lookV (afterH g st) (17, n) k = bitV (callAt g.calls k).dead := by
  show bitV (callAt (afterH g st).calls k).dead = _
  rw [after_at h0 h1 k0]
  by_cases h : k = g.now
  · subst h; rw [if_pos rfl]; rfl
  · rw [if_neg h]
theorem look_where {g : Hp} {st : List V} {n k : Int} (h0 : 0 ≤ g.now) (h1 : g.now < g.calls.length) (k0 : 0 ≤ k) : lookV (afterH g st) (18, n) k = (1, if k = g.now then (callAt g.calls k).pc + 1 else (callAt g.calls k).pc) := by
  show (1, (callAt (afterH g st).calls k).pc) = _
  rw [after_at h0 h1 k0]
  by_cases h : k = g.now
  · subst h; rw [if_pos rfl, if_pos rfl]; rfl
  · rw [if_neg h, if_neg h]
theorem step_poke {n k : Int} {a v : V} (W : okWith p h (14, n) [a, (2, k), v]) : 0 ≤ n ∧ stepH (withP p h (14, n)) (withH h [a, (2, k), v]) = if n < (callAt (afterH (withH h [a, (2, k), v]) [a]).calls k).temps.length then setT (afterH (withH h [a, (2, k), v]) [a]) k n v else afterH (withH h [a, (2, k), v]) [a] := by
  have ho := W.opOk
  have ho : inB n 0 3 = true := ho
  rw [inB_iff] at ho
  refine ⟨ho.1, ?_⟩
  rw [W.step 2 0 rfl (by simp) (by simp) rfl]
  rfl
theorem step_say {n : Int} {a v : V} (W : okWith p h (16, n) [a, v]) : stepH (withP p h (16, n)) (withH h [a, v]) = sayH (afterH (withH h [a, v]) [a]) v := by
  rw [W.step 1 0 rfl (by simp) (by simp) rfl]
  rfl
theorem said_after {g : Hp} {st : List V} {v : V} (h0 : 0 ≤ g.now) (h1 : g.now < g.calls.length) (hv : v.1 = 2 → 0 ≤ v.2) : saidV (afterH g st) v = if v.1 = 2 then (2, (callAt g.calls v.2).method) else v := by
  unfold saidV
  by_cases h2 : v.1 = 2
  · rw [if_pos h2, if_pos h2, after_at h0 h1 (hv h2), h2]
    by_cases h : v.2 = g.now
    · rw [if_pos h, h]; rfl
    · rw [if_neg h]
  · rw [if_neg h2, if_neg h2]
theorem step_back {n k : Int} {a v : V} (W : okWith p h (15, n) [a, (2, k), v]) : stepH (withP p h (15, n)) (withH h [a, (2, k), v]) = backH (afterH (withH h [a, (2, k), v]) [a]) k v := by
  rw [W.step 2 1 rfl (by simp) (by simp) rfl]
  rfl
/-- What a call that returns leaves, as the law says it. -/
def outH (g : Hp) : Hp := { putC g g.now { nowC g with dead := true, sender := -1 } with now := (nowC g).sender }
theorem leave_after {g : Hp} {st : List V} (h0 : 0 ≤ g.now) (h1 : g.now < g.calls.length) : leaveH (afterH g st) = outH (afterH g []) := by
  have e : (nowC (afterH g st)).sender = (nowC (afterH g [])).sender := by rw [after_now h0 h1, after_now h0 h1]
  unfold leaveH outH dieH
  rw [e]
  have : putC (afterH g st) (afterH g st).now (dieC (callAt (afterH g st).calls (afterH g st).now)) = putC (afterH g []) (afterH g []).now { nowC (afterH g []) with dead := true, sender := -1 } := by
    have e2 : callAt (afterH g st).calls (afterH g st).now = nowC (afterH g st) := rfl
    rw [e2, after_now h0 h1, after_now h0 h1]
    exact putC_put.trans putC_put.symm
  rw [this]
theorem ret_range (W : okWith p h op st) : (nowC (withH h st)).sender < (withH h st).calls.length := by
  have r := W.range
  exact (W.gok.at r.1 r.2).s1
theorem step_ret {n : Int} {a v : V} (W : okWith p h (10, n) [a, v]) (hv : v.1 ≠ 2) : stepH (withP p h (10, n)) (withH h [a, v]) =
    if (nowC (afterH (withH h [a, v]) [])).sender < 0 then { outH (afterH (withH h [a, v]) []) with said := (withH h [a, v]).said ++ [v], code := 1 } else pushH (outH (afterH (withH h [a, v]) [])) v := by
  have r := W.range
  rw [W.step 1 0 rfl (by simp) (by simp) rfl]
  show retH (afterH (withH h [a, v]) [a]) v = _
  have e : (nowC (afterH (withH h [a, v]) [a])).sender = (nowC (afterH (withH h [a, v]) [])).sender := by rw [after_now r.1 r.2, after_now r.1 r.2]
  unfold retH
  rw [e, leave_after r.1 r.2]
  split
  · unfold sayH saidV
    rw [if_neg hv]
    rfl
  · rfl
theorem meth_with {j : Int} (W : okWith p h op st) (h0 : 0 ≤ j) : (methAt (withP p h op) j).args = (methAt p j).args ∧ (methAt (withP p h op) j).temps = (methAt p j).temps := by
  obtain ⟨a, b, c, d, e, f⟩ := W.facts
  unfold withP
  rw [methAt_set c d h0]
  split
  · rename_i e; subst e; exact ⟨rfl, rfl⟩
  · exact ⟨rfl, rfl⟩
theorem step_call {k : Int} {st : List V} (W : okWith p h (9, k) st) (hs : st.length = 3) : 0 ≤ k ∧ k < (withP p h (9, k)).length ∧ MethP (withP p h (9, k)) (methAt (withP p h (9, k)) k) ∧
    stepH (withP p h (9, k)) (withH h st) = callH (withP p h (9, k)) (afterH (withH h st) (st.take (3 - (methAt (withP p h (9, k)) k).args).toNat)) k (st.drop (3 - (methAt (withP p h (9, k)) k).args).toNat) := by
  have ho := W.opOk
  have ho : inB k 0 ((withP p h (9, k)).length - 1) = true := ho
  have hi := inB_iff.mp ho
  have hm := methOk_iff.mp (prog_meth W.2.1 hi.1 (by omega))
  have a0 := hm.a0
  have a1 := hm.a1
  have ht : takes (withP p h (9, k)) (9, k) = ((methAt (withP p h (9, k)) k).args, 1) := by
    show (if inB k 0 ((withP p h (9, k)).length - 1) = true then _ else _) = _
    rw [if_pos ho]
  refine ⟨hi.1, by omega, hm, ?_⟩
  have e3 : ((st.length : Int) - (methAt (withP p h (9, k)) k).args).toNat = (3 - (methAt (withP p h (9, k)) k).args).toNat := by rw [hs]; rfl
  rw [W.step _ 1 ht (by omega) (by omega) rfl, e3]
  rfl
theorem okWith.born (W : okWith p h op st) : (withH h st).born ≤ 30 := W.gok.born2
end
/-- On the way back to a call. -/
def BackI (k : Int) (m : Nat) (g : Hp) : Prop := ∃ l, Way g.calls g.now l ∧ k ∈ l ∧ l.length ≤ m + 1
theorem back_stop {k : Int} {g : Hp} (h : g.now = k) : ∀ m, backL m g k = g
  | 0 => rfl
  | m + 1 => by unfold backL; rw [if_pos h]
theorem BackI.now {k : Int} {m : Nat} {g : Hp} (B : BackI k m g) : 0 ≤ g.now ∧ g.now < g.calls.length := by
  obtain ⟨l, hw, hk, hl⟩ := B
  cases l with
  | nil => cases hk
  | cons x l => obtain ⟨rfl, a, b, _⟩ := hw; exact ⟨a, b⟩
theorem BackI.step {k : Int} {m : Nat} {g : Hp} (B : BackI k m g) (h : g.now ≠ k) : ∃ j, m = j + 1 ∧ backL m g k = backL j (leaveH g) k ∧ BackI k j (leaveH g) := by
  have hn := B.now
  obtain ⟨l, hw, hk, hl⟩ := B
  have hw2 := leave_way hw hn.1
  cases l with
  | nil => cases hk
  | cons x l =>
    have hx : g.now = x := hw.1
    have hk2 : k ∈ l := by
      rcases List.mem_cons.mp hk with e | e
      · exact absurd (hx.trans e.symm) h
      · exact e
    have := List.length_pos_of_mem hk2
    simp only [List.length_cons] at hl
    obtain ⟨j, rfl⟩ : ∃ j, m = j + 1 := ⟨m - 1, by omega⟩
    refine ⟨j, rfl, ?_, l, hw2, hk2, by omega⟩
    conv => lhs; unfold backL
    rw [if_neg h]
theorem okWith.back {p : Pg} {h : Hp} {op : Int × Int} {st s2 : List V} (W : okWith p h op st) {k : Int} (k0 : 0 ≤ k) (k1 : k < (withH h st).calls.length) (hd : (callAt (afterH (withH h st) s2).calls k).dead = false) : BackI k (afterH (withH h st) s2).calls.length (afterH (withH h st) s2) := by
  have r := W.range
  obtain ⟨l, hw, hcov, _⟩ := W.gok.way
  have hw2 : Way (afterH (withH h st) s2).calls (withH h st).now l := hw.congr (fun x hx hl => by
    have hx0 := (hw.range x hx).1
    refine ⟨by rw [now_len.2]; exact hl, ?_, ?_⟩ <;>
    · rw [after_at r.1 r.2 hx0]
      by_cases e : x = (withH h st).now
      · rw [if_pos e, e]; rfl
      · rw [if_neg e])
  refine ⟨l, hw2, hcov k k0 k1 ?_, ?_⟩
  · rw [after_at r.1 r.2 k0] at hd
    by_cases e : k = (withH h st).now
    · rw [if_pos e] at hd; rw [e]; exact hd
    · rwa [if_neg e] at hd
  · have := hw2.len; omega
end Go.PT

/- What has returned never runs again. -/
set_option linter.unusedVariables false
set_option linter.unusedSimpArgs false
namespace Go.PT
/-- What has returned stays so; nobody's method changes. -/
def Keeps (h h' : Hp) : Prop := h.calls.length ≤ h'.calls.length ∧ ∀ i : Int, 0 ≤ i → i < h.calls.length → (callAt h'.calls i).method = (callAt h.calls i).method ∧ ((callAt h.calls i).dead = true → (callAt h'.calls i).dead = true ∧ (callAt h'.calls i).pc = (callAt h.calls i).pc)
theorem Keeps.refl (h : Hp) : Keeps h h := ⟨Nat.le_refl _, fun _ _ _ => ⟨rfl, fun d => ⟨d, rfl⟩⟩⟩
theorem Keeps.trans {a b c : Hp} (h : Keeps a b) (k : Keeps b c) : Keeps a c := by
  refine ⟨Nat.le_trans h.1 k.1, fun i i0 i1 => ?_⟩
  have h1 := h.2 i i0 i1
  have k1 := k.2 i i0 (by have := h.1; omega)
  exact ⟨k1.1.trans h1.1, fun d => ⟨(k1.2 (h1.2 d).1).1, ((k1.2 (h1.2 d).1).2).trans (h1.2 d).2⟩⟩
theorem keeps_put {h : Hp} {i : Int} {c : Cl} (hm : c.method = (callAt h.calls i).method) (hd : (callAt h.calls i).dead = true → c.dead = true ∧ c.pc = (callAt h.calls i).pc) : Keeps h (putC h i c) := by
  refine ⟨by rw [putC_len]; exact Nat.le_refl _, fun j j0 j1 => ?_⟩
  have e : callAt (putC h i c).calls j = if j.toNat = i.toNat then c else callAt h.calls j := by
    unfold callAt putC
    rw [List.getD_eq_getElem?_getD, List.getD_eq_getElem?_getD, List.getElem?_set]
    by_cases he : j.toNat = i.toNat
    · rw [if_pos he.symm, if_pos he, if_pos (by omega)]; rfl
    · rw [if_neg (fun e => he e.symm), if_neg he]
  rw [e]
  split
  · rename_i he
    have : callAt h.calls j = callAt h.calls i := by unfold callAt; rw [he]
    rw [this]; exact ⟨hm, hd⟩
  · exact ⟨rfl, fun d => ⟨d, rfl⟩⟩
theorem keeps_calls {h h' : Hp} (e : h'.calls = h.calls) : Keeps h h' := by unfold Keeps; rw [e]; exact (Keeps.refl h)
theorem Keeps.calls {a b c : Hp} (k : Keeps a b) (e : c.calls = b.calls) : Keeps a c := k.trans (keeps_calls e)
theorem keeps_push (h : Hp) (v : V) : Keeps h (pushH h v) := keeps_put rfl (fun d => ⟨d, rfl⟩)
theorem keeps_setT (h : Hp) (i a : Int) (v : V) : Keeps h (setT h i a v) := keeps_put rfl (fun d => ⟨d, rfl⟩)
theorem keeps_setPc (h : Hp) (a : Int) (hd : (nowC h).dead = false) : Keeps h (setPc h a) := keeps_put rfl (fun d => by
  have : (nowC h).dead = true := d
  rw [hd] at this; cases this)
theorem keeps_die (h : Hp) (i : Int) : Keeps h (dieH h i) := keeps_put rfl (fun d => ⟨rfl, rfl⟩)
theorem keeps_leave (h : Hp) : Keeps h (leaveH h) := (keeps_die h h.now).calls rfl
theorem keeps_back (to : Int) : ∀ (n : Nat) (h : Hp), Keeps h (backL n h to)
  | 0, h => Keeps.refl h
  | n + 1, h => by
    unfold backL
    split
    · exact Keeps.refl h
    · exact (keeps_leave h).trans (keeps_back to n _)
theorem keeps_call (p : Pg) (h : Hp) (k : Int) (args : List V) : Keeps h (callH p h k args) := by
  unfold callH
  split
  · exact keeps_calls rfl
  · refine ⟨by simp, fun i i0 i1 => ?_⟩
    show (callAt (h.calls ++ _) i).method = _ ∧ (_ → (callAt (h.calls ++ _) i).dead = true ∧ (callAt (h.calls ++ _) i).pc = _)
    rw [callAt_app i0, if_pos i1]
    exact ⟨rfl, fun d => ⟨d, rfl⟩⟩
theorem keeps_do (p : Pg) (h : Hp) (op : Int × Int) (args : List V) (hd : (nowC h).dead = false) : Keeps h (doH p h op args) := by
  unfold doH
  split
  · exact keeps_push _ _
  · repeat' split
    all_goals first
      | exact keeps_push _ _
      | exact keeps_setT _ _ _ _
      | exact keeps_setPc _ _ hd
      | exact keeps_call _ _ _ _
      | exact Keeps.refl _
      | exact keeps_calls rfl
      | skip
    · unfold retH
      split
      · exact (keeps_leave h).calls rfl
      · exact (keeps_leave h).trans (keeps_push _ _)
    · unfold pokeH
      split
      · exact keeps_setT _ _ _ _
      · exact Keeps.refl _
    · unfold backH
      split
      · exact keeps_calls rfl
      · exact (keeps_back _ _ h).trans (keeps_push _ _)
theorem keeps_step {p : Pg} {h : Hp} (h0 : 0 ≤ h.now) (h1 : h.now < h.calls.length) (hd : (nowC h).dead = false) : Keeps h (stepH p h) := by
  unfold stepH
  repeat' split
  all_goals first
    | exact keeps_calls rfl
    | skip
  have k : Keeps h (tookH p h) := keeps_put rfl (fun d => by
    have : (nowC h).dead = true := d
    rw [hd] at this; cases this)
  refine k.trans (keeps_do p _ _ _ ?_)
  unfold tookH
  rw [nowC_put h0 h1]
  exact hd
theorem keeps_run {p : Pg} : ∀ (n : Nat) {h : Hp}, HOK p h → Keeps h (runH p n h)
  | 0, h, _ => Keeps.refl h
  | n + 1, h, H => by
    unfold runH
    split
    · rename_i hc
      have h0 := H.now0 hc
      exact (keeps_step h0 H.now2 (H.alive h0)).trans (keeps_run n (step_ok H hc))
    · exact Keeps.refl h
end Go.PT

/- A new heap. -/
set_option linter.unusedVariables false
set_option linter.unusedSimpArgs false
namespace Go.PT
section
variable {p : Pg}
def newH (p : Pg) : Hp := ⟨[newC p 0 [] (-1)], 0, 1, [], 0⟩
theorem newH_ok (hp : progOk p = true) : HOK p (newH p) := by
  have hl := prog_len hp
  have hm := methOk_iff.mp (prog_meth hp (i := 0) (by omega) (by omega))
  have ha : (methAt p 0).args = 0 := by
    unfold progOk at hp
    simp only [Bool.and_eq_true, decide_eq_true_eq] at hp
    exact hp.2.1
  have hc : callAt (newH p).calls 0 = newC p 0 [] (-1) := rfl
  have hln : (newH p).calls.length = 1 := rfl
  refine ⟨hp, by show (-1 : Int) ≤ 0; omega, by show (0 : Int) < 1; omega, by show (1 : Int) ≤ 1; omega, by show (1 : Int) ≤ 30; omega, by show ((1 : Nat) : Int) ≤ 1; omega, by show (0 : Int) ≤ 0; omega, by show (0 : Int) ≤ 3; omega, rfl, ⟨fun e => by have e : (0 : Int) = 1 := e; omega, fun e => by have e : (0 : Int) < 0 := e; omega⟩, fun c hc => ?_, [0], ⟨rfl, by omega, by show (0 : Int) < 1; omega, rfl, by show (-1 : Int) < 0; omega⟩, fun x x0 x1 _ => ?_, fun x hx => by cases hx⟩
  · have : c = newC p 0 [] (-1) := by
      have hc : c ∈ [newC p 0 [] (-1)] := hc
      simpa using hc
    subst this
    have h0 := hm.t0
    have h1 := hm.a0
    refine form_iff.mpr ⟨by show (0 : Int) ≤ 0; omega, by show (0 : Int) < p.length; omega, by show (0 : Int) ≤ 0; omega, by show (0 : Int) ≤ _; omega, ?_, by show ((0 : Nat) : Int) ≤ 6; omega, by show (-1 : Int) ≤ -1; omega, by show (-1 : Int) < 1; omega, fun v hv => ?_, fun v hv => (by cases hv), fun e => (by cases e)⟩
    · show (([] ++ List.replicate ((methAt p 0).temps - ([] : List V).length).toNat ((0, 0) : V)).length : Int) = (methAt p 0).temps
      rw [List.nil_append, List.length_replicate]
      show (((methAt p 0).temps - 0).toNat : Int) = _
      omega
    · have hv : v ∈ [] ++ List.replicate ((methAt p 0).temps - ([] : List V).length).toNat ((0, 0) : V) := hv
      rw [List.nil_append] at hv
      rw [(List.mem_replicate.mp hv).2]
      unfold valOk; simp
  · have x1 : x < 1 := x1
    have : x = 0 := by omega
    subst this; simp
end
end Go.PT
