/- The program on programs and heaps. -/
import Derived.Test.YtegddhbcglghdaaGreatGA
import Derived.Test.YtegddhbcglghdaaGreatHTextB
/- What the program asks of values, calls and what was said. -/
set_option linter.unusedVariables false
set_option linter.unusedSimpArgs false
namespace Go.PT
attribute [local irreducible] ldT ldsT stT stsT allocT boxT bldT bslT nilT fadT ixaT fldT extT lenT pickT binT notT cviT opT opU condT clT clvT ivT loopT arT ndT World.cell? World.frozen? World.alloc World.drew World.setCell Blk Cells Sl
theorem c_implIn {a b c : Int} {w : World} {R : VW} (h : R (.bool (inB a b c)) w) : clT PR 147 [.int .i64 a, .int .i64 b, .int .i64 c] w R := by
  refine Fimpl_in.cl ?_
  unfold Fimpl_in
  repeat (((refine geq_of ?_)))
  refine condP_of (fun hc => ?_) (fun hc => ?_)
  · repeat (((refine leq_of ?_)))
    have : inB a b c = decide (a ≤ c) := by unfold inB; rw [decide_eq_true (show b ≤ a from hc), Bool.true_and]
    rw [← this]; exact h
  · have : inB a b c = false := by unfold inB; rw [decide_eq_false (show ¬ b ≤ a from hc), Bool.false_and]
    rw [← this]; exact h
theorem c_valOk {v : V} {n : Int} {w : World} {R : VW} (hn : 0 ≤ n) (hn' : n ≤ 1073741824) (hR : ∀ w', Ext w w' → R (.bool (valOk n v)) w') : clT PR 204 [.agg #[.int .i64 v.1, .int .i64 v.2], .int .i64 n] w R := by
  replace hR : ∀ w' b, Ext w w' → b = valOk n v → R (.bool b) w' := fun w' b e h => h ▸ hR w' e
  refine Fimpl_Val_ok.cl ?_
  unfold Fimpl_Val_ok
  refine box_of' (fun b1 w1 e1 hb1 (k1 : Blk w1 b1 [.int .i64 v.1, .int .i64 v.2]) => ?_)
  repeat' (first | (first | refine fad_of ?_ | refine eql_of ?_) | ((refine sub_of (by (omega)) (by (omega)) ?_)) | ((apply ld_of; (case h => iterate 14 (first | done | exact Blk.cell (by assumption) (by exact rfl))))) | ((fail)) | ((refine condP_of (fun _ => ?_) (fun _ => ?_))) | refine c_implIn ?_)
  all_goals exact hR _ _ (by iterate 20 (first | done | assumption)) (by unfold valOk; simp [*])
/-- A function value that tells of pairs what 'f' tells. -/
def Tells (w : World) (fv : Value) (f : V → Bool) : Prop :=
  ∀ (v : V) (w1 : World) (R : VW), Ext w w1 → (∀ w', Ext w1 w' → R (.bool (f v)) w') → clvT PR CX fv [.agg #[.int .i64 v.1, .int .i64 v.2]] w1 R
theorem c_indexV {l : List V} {u fv : Value} {f : V → Bool} {w : World} {R : VW} (h : Sl kPair Any w [] l u) (hl : l.length ≤ 1073741824) (hf : Tells w fv f)
    (hR : ∀ w' n, Ext w w' → (0 ≤ n ↔ l.any f = true) → R (.int .i64 n) w') : clT PR 251 [u, fv] w R := by
  refine Fslices_IndexFunc_Val.cl ?_
  unfold Fslices_IndexFunc_Val
  repeat ((refine Sl.len_of (by assumption) ?_))
  refine loop_of (fun m s w' => Ext w w' ∧ ∃ i : Nat, i + m = l.length ∧ s = [u, fv, .int .i64 0, .int .i64 l.length, .int .i64 i] ∧ (l.take i).any f = false) ?_ (m := l.length) ⟨Fr.refl _ _, 0, by omega, rfl, rfl⟩
  rintro m s w' Kn ⟨he, i, hi, rfl, hok⟩ hKn
  intro _
  simp only [List.headD_cons, List.tail_cons]
  repeat (((refine lss_of ?_)))
  refine condLt_of (fun hc => ?_) (fun hc => ?_)
  · have hil : i < l.length := by omega
    refine pair_ix (i := (i : Int)) h (by omega) (by omega) (fun b o hcell => ?_)
    have hx : l[i]? = some (pairAt l i) := by unfold pairAt; rw [Int.toNat_natCast, List.getD_eq_getElem?_getD, List.getElem?_eq_getElem hil]; rfl
    generalize pairAt l (i : Int) = v at hx hcell
    repeat (((apply lds_of; (case h => iterate 14 (first | done | assumption | (apply fun h => Cells.ext h (by assumption)))); (case hn => exact rfl))))
    refine hf v _ _ he (fun w1 e1 => ?_)
    refine cond_of (fun ht => ?_) (fun hff => ?_)
    · intro _
      refine hR _ _ (by iterate 20 (first | done | assumption | (apply fun h => Fr.trans h (by assumption)))) ⟨fun _ => ?_, fun _ => by omega⟩
      rw [List.any_eq_true]
      exact ⟨v, List.mem_of_getElem? hx, ht⟩
    · repeat (((refine add_of (by (omega)) (by (omega)) ?_)))
      refine hKn (m - 1) _ _ (by omega) ⟨by iterate 20 (first | done | assumption | (apply fun h => Fr.trans h (by assumption))), i + 1, by omega, rfl, ?_⟩
      rw [List.take_add_one, hx, List.any_append, hok]
      simp [hff]
  · intro _
    have hei : l.take i = l := List.take_of_length_le (by omega)
    rw [hei] at hok
    exact hR _ _ he ⟨fun h => by omega, fun h => by rw [hok] at h; cases h⟩
theorem c_containsV {l : List V} {u fv : Value} {f : V → Bool} {w : World} {R : VW} (h : Sl kPair Any w [] l u) (hl : l.length ≤ 1073741824) (hf : Tells w fv f)
    (hR : ∀ w', Ext w w' → R (.bool (l.any f)) w') : clT PR 205 [u, fv] w R := by
  refine Fslices_ContainsFunc_Val.cl ?_
  unfold Fslices_ContainsFunc_Val
  refine c_indexV h hl hf (fun w1 n e1 hn => ?_)
  repeat (((refine geq_of ?_)))
  have : decide (n ≥ 0) = l.any f := by rw [Bool.eq_iff_iff, decide_eq_true_eq]; exact hn
  rw [this]
  exact hR _ e1
theorem c_valsOk {l : List V} {u : Value} {n : Int} {w : World} {R : VW} (h : Sl kPair Any w [] l u) (hl : l.length ≤ 1073741824) (hn : 0 ≤ n) (hn' : n ≤ 1073741824) (hR : ∀ w', Ext w w' → R (.bool (valsOk n l)) w') :
    clT PR 240 [u, .int .i64 n] w R := by
  refine Fimpl_valsOk.cl ?_
  unfold Fimpl_valsOk
  refine box_of' (fun b1 w1 e1 hb1 (k1 : Blk w1 b1 [.int .i64 n]) => ?_)
  refine c_containsV (f := fun v => !valOk n v) (h.ext e1) hl ?_ (fun w2 e2 => ?_)
  · intro v w3 R' e3 hR'
    refine clv_of (by kernel_rfl) rfl ?_
    refine Fimpl_valsOk_1.cl ?_
    unfold Fimpl_valsOk_1
    refine box_of' (fun b2 w4 e4 hb2 (k2 : Blk w4 b2 [.int .i64 v.1, .int .i64 v.2]) => ?_)
    repeat ((first | (apply ld_of; (case h => iterate 14 (first | done | exact Blk.cell (by assumption) (by exact rfl) | (apply Ext.cell (by assumption))))) | (apply lds_of; (case h => iterate 14 (first | done | exact Blk.cells (by assumption))); (case hn => exact rfl))))
    refine c_valOk hn hn' (fun w5 e5 => ?_)
    repeat (((refine not_of ?_)))
    exact hR' _ (e4.trans e5)
  · repeat (((refine not_of ?_)))
    have : (!l.any fun v => !valOk n v) = valsOk n l := by unfold valsOk; rw [List.not_any_eq_all_not]; simp
    rw [this]
    exact hR _ (e1.trans e2)
end Go.PT

/- What the program asks of calls in form, and of what is told. -/
set_option linter.unusedVariables false
set_option linter.unusedSimpArgs false
namespace Go.PT
attribute [local irreducible] ldT ldsT stT stsT allocT boxT bldT bslT nilT fadT ixaT fldT extT lenT pickT binT notT cviT opT opU condT clT clvT ivT loopT arT ndT World.cell? World.frozen? World.alloc World.drew World.setCell Blk Cells Sl
theorem c_formed {p : Pg} {c : Cl} {n : Int} {w : World} {R : VW} {u ut us : Value} (hp : Sl kMeth Any w [] p u) (ht : Sl kPair Any w [] c.temps ut) (hs : Sl kPair Any w [] c.stack us) (hpl : p.length ≤ 1073741824) (htl : c.temps.length ≤ 1073741824)
    (hsl : c.stack.length ≤ 1073741824) (hn : 0 ≤ n) (hn' : n ≤ 1073741824) (hR : ∀ w', Ext w w' → R (.bool (form p n c)) w') :
    clT PR 178 [.agg #[.int .i64 c.method, .int .i64 c.pc, ut, us, .int .i64 c.sender, .bool c.dead], .agg #[u], .int .i64 n] w R := by
  replace hR : ∀ w' b, Ext w w' → b = form p n c → R (.bool b) w' := fun w' b e h => h ▸ hR w' e
  refine Fimpl_Call_formed.cl ?_
  unfold Fimpl_Call_formed
  refine box_of' (fun b2 w1 e1 hb2 (k2 : Blk w1 b2 [.int .i64 c.method, .int .i64 c.pc, ut, us, .int .i64 c.sender, .bool c.dead]) => ?_)
  refine box_of' (fun b1 w2 e2 hb1 (k1 : Blk w2 b1 [u]) => ?_)
  repeat' (first | (first | refine fad_of ?_ | refine gtr_of ?_ | refine eql_of ?_ | refine neq_of ?_ | refine not_of ?_) | ((refine sub_of (by (omega)) (by (omega)) ?_)) | ((apply ld_of; (case h => iterate 14 (first | done | exact Blk.cell (by assumption) (by exact rfl) | exact Cells.at (by assumption) _ (by exact rfl) | apply cell_drew | (apply Ext.cell (by assumption)))))) | (refine Sl.len_of (by assumption) ?_) | ((fail)) | (first | refine condNIn_of (fun _ => ?_) (fun _ => ?_) | refine condNe_of (fun _ => ?_) (fun _ => ?_) | refine condGt_of (fun _ => ?_) (fun _ => ?_) | refine condP_of (fun _ => ?_) (fun _ => ?_) | refine condN_of (fun _ => ?_) (fun _ => ?_)) | refine c_implIn ?_ | refine meth_ix (by assumption) (by omega) (by omega) (fun _ _ _ _ _ => ?_) | refine c_valsOk (by iterate 14 (first | done | assumption | apply Sl.drew | (apply fun h => Sl.ext h (by assumption)))) (by omega) (by omega) (by omega) (fun _ _ => ?_))
  all_goals exact hR _ _ (by iterate 20 (first | done | assumption | apply Fr.drew | (apply fun h => Fr.trans h (by assumption)))) (by unfold form; first | (simp [*, inB_t, inB_f]; done) | (simp [*, inB_t, inB_f, -List.length_eq_zero_iff, -Int.natCast_eq_zero]; done) | (simp [*, inB_t, inB_f]; intros; omega))
theorem c_told {p : Pg} {l : List V} {born code : Int} {ended : Bool} {u us : Value} {w : World} {R : VW} (hp : Sl kMeth Any w [] p u) (hs : Sl kPair Any w [] l us) (hpl : p.length ≤ 1073741824) (hsl : l.length ≤ 1073741824)
    (hR : ∀ w', Ext w w' → R (.bool (inB born 1 30 && (saidOk p l && (inB code 0 3 && (decide (code = 1) == ended))))) w') :
    clT PR 137 [.agg #[u], .int .i64 born, us, .int .i64 code, .bool ended] w R := by
  replace hR : ∀ w' b, Ext w w' → b = (inB born 1 30 && (saidOk p l && (inB code 0 3 && (decide (code = 1) == ended)))) → R (.bool b) w' := fun w' b e h => h ▸ hR w' e
  refine Fimpl_told.cl ?_
  unfold Fimpl_told
  refine box_of' (fun b1 w1 e1 hb1 (k1 : Blk w1 b1 [u]) => ?_)
  refine c_implIn ?_
  refine condIn_of (fun h1 => ?_) (fun h1 => ?_)
  · refine c_containsV (f := fun v => !valOk p.length v) (hs.ext e1) hsl ?_ (fun w2 e2 => ?_)
    · intro v w3 R' e3 hR'
      refine clv_of (by kernel_rfl) rfl ?_
      refine Fimpl_told_1.cl ?_
      unfold Fimpl_told_1
      refine box_of' (fun b2 w4 e4 hb2 (k2 : Blk w4 b2 [.int .i64 v.1, .int .i64 v.2]) => ?_)
      repeat (first | ((refine fad_of ?_)) | (first | (apply ld_of; (case h => iterate 14 (first | done | exact Blk.cell (by assumption) (by exact rfl) | (apply Ext.cell (by assumption))))) | (apply lds_of; (case h => iterate 14 (first | done | exact Blk.cells (by assumption))); (case hn => exact rfl))) | (refine Sl.len_of (by assumption) ?_))
      refine c_valOk (by omega) (by omega) (fun w5 e5 => ?_)
      repeat (((refine not_of ?_)))
      exact hR' _ (e4.trans e5)
    · have hsd : (!l.any fun v => !valOk p.length v) = saidOk p l := by unfold saidOk; rw [List.not_any_eq_all_not]; simp
      repeat (((refine not_of ?_)))
      rw [hsd]
      refine cond_of (fun h2 => ?_) (fun h2 => ?_)
      · refine c_implIn ?_
        refine condIn_of (fun h3 => ?_) (fun h3 => ?_)
        · repeat (((refine eql_of ?_)))
          refine eqlB_of (by kernel_rfl) ?_
          exact hR _ _ (by iterate 20 (first | done | assumption | (apply fun h => Fr.trans h (by assumption)))) (by rw [inB_t h1.1 h1.2, h2, inB_t h3.1 h3.2]; rfl)
        · exact hR _ _ (by iterate 20 (first | done | assumption | (apply fun h => Fr.trans h (by assumption)))) (by rw [inB_t h1.1 h1.2, h2, inB_f h3]; rfl)
      · exact hR _ _ (by iterate 20 (first | done | assumption | (apply fun h => Fr.trans h (by assumption)))) (by rw [inB_t h1.1 h1.2, h2]; rfl)
  · exact hR _ _ (by iterate 20 (first | done | assumption)) (by rw [inB_f h1]; rfl)
end Go.PT

/- What the program knows of kinds of operations. -/
set_option linter.unusedVariables false
set_option linter.unusedSimpArgs false
namespace Go.PT
attribute [local irreducible] ldT ldsT stT stsT allocT boxT bldT bslT nilT fadT ixaT fldT extT lenT pickT binT notT cviT opT opU condT clT clvT ivT loopT arT ndT World.cell? World.frozen? World.alloc World.drew World.setCell Blk Cells Sl
/-- How many values a kind takes and leaves, of which kinds they must be. -/
def takesT : List Int := [0, 0, 0, 1, 1, 2, 2, 0, 1, 0, 1, 0, 1, 1, 2, 2, 1, 1, 1]
def leftT : List Int := [0, 1, 1, 0, 0, 1, 1, 0, 0, 1, 0, 1, 1, 1, 0, 1, 0, 1, 1]
def kindsT : List (List Int) := [[], [], [], [-1], [-1], [1, 1], [-1, -1], [], [-1], [], [-1], [], [2], [2], [2, -1], [2, -1], [-1], [2], [2]]
/-- How many numbers an operation's number may be, if it has one. -/
def mostOf (p : Pg) (m : Meth) (k : Int) : Option Int :=
  if k = 1 then some 100 else if k = 2 ∨ k = 3 then some m.temps else if k = 7 ∨ k = 8 then some m.ops.length else if k = 9 then some p.length else if k = 13 ∨ k = 14 then some 4 else none
def Most (w : World) (fv : Value) (k : Int) : Prop :=
  (fv = .nilFunc ∧ ∀ p m, mostOf p m k = none) ∨
  ((∃ f x y, fv = .func f x y) ∧ ∀ (p : Pg) (m : Meth) (u um : Value) (w1 : World) (R : VW), Ext w w1 → Sl kMeth Any w1 [] p u → Sl kPair Any w1 [] m.ops um → p.length ≤ 1073741824 → m.ops.length ≤ 1073741824 →
    (∀ w' n, Ext w1 w' → mostOf p m k = some n → R (.int .i64 n) w') → clvT PR CX fv [.agg #[u], .agg #[.int .i64 m.args, .int .i64 m.temps, um]] w1 R)
theorem most_const {w : World} {b : Nat} {n k : Int} (hk : Blk w b [.int .i64 n]) (hm : ∀ p m, mostOf p m k = some n) : Most w (.func (.func 282) #[] #[.pointer (some ⟨b, 0, none⟩)]) k := by
  refine .inr ⟨⟨_, _, _, rfl⟩, ?_⟩
  intro p m u um w1 R he hp ho hpl hml hR
  refine clv_of (by kernel_rfl) rfl ?_
  refine Fimpl_manners_1_1.cl ?_
  unfold Fimpl_manners_1_1
  refine box_of' (fun b1 w2 e1 hb1 _ => ?_)
  refine box_of' (fun b2 w3 e2 hb2 _ => ?_)
  repeat (((apply ld_of; (case h => iterate 14 (first | done | exact Blk.cell (by assumption) (by exact rfl) | (apply Ext.cell (by assumption)))))))
  exact hR _ _ (e1.trans e2) (hm p m)
theorem most_temps {w : World} {k : Int} (hm : ∀ p m, mostOf p m k = some m.temps) : Most w (.func (.func 283) #[] #[]) k := by
  refine .inr ⟨⟨_, _, _, rfl⟩, ?_⟩
  intro p m u um w1 R he hp ho hpl hml hR
  refine clv_of (by kernel_rfl) rfl ?_
  refine Fimpl_manners_2.cl ?_
  unfold Fimpl_manners_2
  refine box_of' (fun b1 w2 e1 hb1 (k1 : Blk w2 b1 [u]) => ?_)
  refine box_of' (fun b2 w3 e2 hb2 (k2 : Blk w3 b2 [.int .i64 m.args, .int .i64 m.temps, um]) => ?_)
  repeat (first | ((refine fad_of ?_)) | ((apply ld_of; (case h => iterate 14 (first | done | exact Blk.cell (by assumption) (by exact rfl))))))
  exact hR _ _ (e1.trans e2) (hm p m)
theorem most_ops {w : World} {k : Int} (hm : ∀ p m, mostOf p m k = some m.ops.length) : Most w (.func (.func 284) #[] #[]) k := by
  refine .inr ⟨⟨_, _, _, rfl⟩, ?_⟩
  intro p m u um w1 R he hp ho hpl hml hR
  refine clv_of (by kernel_rfl) rfl ?_
  refine Fimpl_manners_3.cl ?_
  unfold Fimpl_manners_3
  refine box_of' (fun b1 w2 e1 hb1 (k1 : Blk w2 b1 [u]) => ?_)
  refine box_of' (fun b2 w3 e2 hb2 (k2 : Blk w3 b2 [.int .i64 m.args, .int .i64 m.temps, um]) => ?_)
  repeat (first | ((refine fad_of ?_)) | ((apply ld_of; (case h => iterate 14 (first | done | exact Blk.cell (by assumption) (by exact rfl))))) | (refine Sl.len_of (by assumption) ?_))
  exact hR _ _ (e1.trans e2) (hm p m)
theorem most_methods {w : World} {k : Int} (hm : ∀ p m, mostOf p m k = some (List.length (α := Meth) p)) : Most w (.func (.func 285) #[] #[]) k := by
  refine .inr ⟨⟨_, _, _, rfl⟩, ?_⟩
  intro p m u um w1 R he hp ho hpl hml hR
  refine clv_of (by kernel_rfl) rfl ?_
  refine Fimpl_manners_4.cl ?_
  unfold Fimpl_manners_4
  refine box_of' (fun b1 w2 e1 hb1 (k1 : Blk w2 b1 [u]) => ?_)
  refine box_of' (fun b2 w3 e2 hb2 (k2 : Blk w3 b2 [.int .i64 m.args, .int .i64 m.temps, um]) => ?_)
  repeat (first | ((refine fad_of ?_)) | ((apply ld_of; (case h => iterate 14 (first | done | exact Blk.cell (by assumption) (by exact rfl) | (apply Ext.cell (by assumption)))))) | (refine Sl.len_of (by assumption) ?_))
  exact hR _ _ (e1.trans e2) (hm p m)
end Go.PT

/- The program's table of kinds of operations. -/
set_option linter.unusedVariables false
set_option linter.unusedSimpArgs false
namespace Go.PT
attribute [local irreducible] ldT ldsT stT stsT allocT boxT bldT bslT nilT fadT ixaT fldT extT lenT pickT binT notT cviT opT opU condT clT clvT ivT loopT arT ndT World.cell? World.frozen? World.alloc World.drew World.setCell Blk Cells Sl
theorem sl_ints {w : World} {b : Nat} (xs : List Int) (h : Blk w b (xs.map fun n => Value.int .i64 n)) : Sl kInt Any w [] xs (.slice (some ⟨b, 0, none⟩) xs.length xs.length) := by
  unfold Sl
  refine ⟨_, xs.length, rfl, Nat.le_refl _, .inr ⟨b, 0, rfl, h.lt, fun i x hx => ⟨[.int .i64 x], rfl, ?_⟩⟩⟩
  refine h.part _ 1 ?_
  have hlt := (List.getElem?_eq_some_iff.mp hx).1
  rw [← List.map_drop, ← List.map_take]
  have : ((xs.drop (0 + i * kInt.sz)).take 1) = [x] := by
    have e : 0 + i * kInt.sz = i := by show 0 + i * 1 = i; omega
    rw [e, List.drop_eq_getElem_cons hlt]
    have := (List.getElem?_eq_some_iff.mp hx).2
    rw [this]; rfl
  rw [this]; rfl
structure ManRow (w : World) (b k : Nat) : Prop where
  is : ∃ s u f, Cells w b (k * 5) [s, .int .i64 (takesT.getD k 0), .int .i64 (leftT.getD k 0), u, f] ∧ Sl kInt Any w [] (kindsT.getD k []) u ∧ Most w f k ∧ s.oneCell' = true ∧ f.oneCell' = true
theorem Most.ext {w w' : World} {f : Value} {k : Int} (h : Most w f k) (e : Ext w w') : Most w' f k := by
  rcases h with h | ⟨h1, h2⟩
  · exact .inl h
  · exact .inr ⟨h1, fun p m u um w1 R he => h2 p m u um w1 R (e.trans he)⟩
theorem c_manner1 {n : Int} {w : World} {R : VW} (hR : ∀ b w', Ext w w' → w.heap.size ≤ b → Blk w' b [.int .i64 n] → R (.func (.func 282) #[] #[.pointer (some ⟨b, 0, none⟩)]) w') : clvT PR CX (.func (.func 281) #[] #[]) [.int .i64 n] w R := by
  refine clv_of (by kernel_rfl) rfl ?_
  refine Fimpl_manners_1.cl ?_
  unfold Fimpl_manners_1
  refine box_of' (fun b1 w2 e1 hb1 (k1 : Blk w2 b1 [.int .i64 n]) => ?_)
  exact hR _ _ e1 hb1 k1
theorem c_manners {w : World} {R : VW} (hR : ∀ w' b, Ext w w' → w.heap.size ≤ b → (∀ w'', Fr (fun x => x < w.heap.size) w' w'' → ∀ k, 1 ≤ k → k ≤ 18 → ManRow w'' b k) → R (.slice (some ⟨b, 0, none⟩) 19 19) w') : clT PR 265 [] w R := by
  refine Fimpl_manners.cl ?_
  unfold Fimpl_manners
  refine bsl_of' rfl rfl rfl (fun b7 w1 e1 hb7 (k7 : Blk w1 b7 [.int .i64 (-1)]) => ?_)
  refine bsl_of' rfl rfl rfl (fun b8 w2 e2 hb8 (k8 : Blk w2 b8 [.int .i64 2]) => ?_)
  refine bld_of (cs := #[_, _, _, _, _]) (by exact rfl) ?_
  refine c_manner1 (fun b11 w3 e3 hb11 k11 => ?_)
  refine bld_of (cs := #[_, _, _, _, _]) (by exact rfl) ?_
  refine bld_of (cs := #[_, _, _, _, _]) (by exact rfl) ?_
  refine bld_of (cs := #[_, _, _, _, _]) (by exact rfl) ?_
  refine bld_of (cs := #[_, _, _, _, _]) (by exact rfl) ?_
  refine bsl_of' rfl rfl rfl (fun b20 w4 e4 hb20 (k20 : Blk w4 b20 [.int .i64 1, .int .i64 1]) => ?_)
  refine bld_of (cs := #[_, _, _, _, _]) (by exact rfl) ?_
  refine bsl_of' rfl rfl rfl (fun b22 w5 e5 hb22 (k22 : Blk w5 b22 [.int .i64 (-1), .int .i64 (-1)]) => ?_)
  refine bld_of (cs := #[_, _, _, _, _]) (by exact rfl) ?_
  refine bld_of (cs := #[_, _, _, _, _]) (by exact rfl) ?_
  refine bld_of (cs := #[_, _, _, _, _]) (by exact rfl) ?_
  refine bld_of (cs := #[_, _, _, _, _]) (by exact rfl) ?_
  refine bld_of (cs := #[_, _, _, _, _]) (by exact rfl) ?_
  refine bld_of (cs := #[_, _, _, _, _]) (by exact rfl) ?_
  refine bld_of (cs := #[_, _, _, _, _]) (by exact rfl) ?_
  refine c_manner1 (fun b38 w6 e6 hb38 k38 => ?_)
  refine bld_of (cs := #[_, _, _, _, _]) (by exact rfl) ?_
  refine bsl_of' rfl rfl rfl (fun b40 w7 e7 hb40 (k40 : Blk w7 b40 [.int .i64 2, .int .i64 (-1)]) => ?_)
  refine c_manner1 (fun b42 w8 e8 hb42 k42 => ?_)
  refine bld_of (cs := #[_, _, _, _, _]) (by exact rfl) ?_
  refine bsl_of' rfl rfl rfl (fun b44 w9 e9 hb44 (k44 : Blk w9 b44 [.int .i64 2, .int .i64 (-1)]) => ?_)
  refine bld_of (cs := #[_, _, _, _, _]) (by exact rfl) ?_
  refine bld_of (cs := #[_, _, _, _, _]) (by exact rfl) ?_
  refine bld_of (cs := #[_, _, _, _, _]) (by exact rfl) ?_
  refine bld_of (cs := #[_, _, _, _, _]) (by exact rfl) ?_
  refine bsl_of' rfl rfl rfl (fun b52 w10 e10 hb52 k52 => ?_)
  have z1 := e1.size
  have z2 := e2.size
  have z3 := e3.size
  have z4 := e4.size
  have z5 := e5.size
  have z6 := e6.size
  have z7 := e7.size
  have z8 := e8.size
  have z9 := e9.size
  have z10 := e10.size
  refine hR _ _ (by iterate 20 (first | done | assumption | (apply fun h => Fr.trans h (by assumption)))) (by omega) (fun w11 e11 k h1 h2 => ?_)
  have hk : k = 1 ∨ k = 2 ∨ k = 3 ∨ k = 4 ∨ k = 5 ∨ k = 6 ∨ k = 7 ∨ k = 8 ∨ k = 9 ∨ k = 10 ∨ k = 11 ∨ k = 12 ∨ k = 13 ∨ k = 14 ∨ k = 15 ∨ k = 16 ∨ k = 17 ∨ k = 18 := by omega
  rcases hk with rfl | rfl | rfl | rfl | rfl | rfl | rfl | rfl | rfl | rfl | rfl | rfl | rfl | rfl | rfl | rfl | rfl | rfl
  · exact ⟨⟨_, _, _, (k52.fr e11 (by omega)).part (1 * 5) 5 (by exact rfl), Sl.nil .., most_const (b := b11) (n := 100) (Blk.fr (w := w10) (by iterate 14 (first | done | assumption | (apply fun h => Blk.ext h (by assumption)))) e11 (by omega)) (fun p m => rfl), rfl, rfl⟩⟩
  · exact ⟨⟨_, _, _, (k52.fr e11 (by omega)).part (2 * 5) 5 (by exact rfl), Sl.nil .., most_temps (fun p m => rfl), rfl, rfl⟩⟩
  · exact ⟨⟨_, _, _, (k52.fr e11 (by omega)).part (3 * 5) 5 (by exact rfl), sl_ints [-1] (b := b7) (Blk.fr (w := w10) (by iterate 14 (first | done | assumption | (apply fun h => Blk.ext h (by assumption)))) e11 (by omega)), most_temps (fun p m => rfl), rfl, rfl⟩⟩
  · exact ⟨⟨_, _, _, (k52.fr e11 (by omega)).part (4 * 5) 5 (by exact rfl), sl_ints [-1] (b := b7) (Blk.fr (w := w10) (by iterate 14 (first | done | assumption | (apply fun h => Blk.ext h (by assumption)))) e11 (by omega)), .inl ⟨rfl, fun p m => rfl⟩, rfl, rfl⟩⟩
  · exact ⟨⟨_, _, _, (k52.fr e11 (by omega)).part (5 * 5) 5 (by exact rfl), sl_ints [1, 1] (b := b20) (Blk.fr (w := w10) (by iterate 14 (first | done | assumption | (apply fun h => Blk.ext h (by assumption)))) e11 (by omega)), .inl ⟨rfl, fun p m => rfl⟩, rfl, rfl⟩⟩
  · exact ⟨⟨_, _, _, (k52.fr e11 (by omega)).part (6 * 5) 5 (by exact rfl), sl_ints [-1, -1] (b := b22) (Blk.fr (w := w10) (by iterate 14 (first | done | assumption | (apply fun h => Blk.ext h (by assumption)))) e11 (by omega)), .inl ⟨rfl, fun p m => rfl⟩, rfl, rfl⟩⟩
  · exact ⟨⟨_, _, _, (k52.fr e11 (by omega)).part (7 * 5) 5 (by exact rfl), Sl.nil .., most_ops (fun p m => rfl), rfl, rfl⟩⟩
  · exact ⟨⟨_, _, _, (k52.fr e11 (by omega)).part (8 * 5) 5 (by exact rfl), sl_ints [-1] (b := b7) (Blk.fr (w := w10) (by iterate 14 (first | done | assumption | (apply fun h => Blk.ext h (by assumption)))) e11 (by omega)), most_ops (fun p m => rfl), rfl, rfl⟩⟩
  · exact ⟨⟨_, _, _, (k52.fr e11 (by omega)).part (9 * 5) 5 (by exact rfl), Sl.nil .., most_methods (fun p m => rfl), rfl, rfl⟩⟩
  · exact ⟨⟨_, _, _, (k52.fr e11 (by omega)).part (10 * 5) 5 (by exact rfl), sl_ints [-1] (b := b7) (Blk.fr (w := w10) (by iterate 14 (first | done | assumption | (apply fun h => Blk.ext h (by assumption)))) e11 (by omega)), .inl ⟨rfl, fun p m => rfl⟩, rfl, rfl⟩⟩
  · exact ⟨⟨_, _, _, (k52.fr e11 (by omega)).part (11 * 5) 5 (by exact rfl), Sl.nil .., .inl ⟨rfl, fun p m => rfl⟩, rfl, rfl⟩⟩
  · exact ⟨⟨_, _, _, (k52.fr e11 (by omega)).part (12 * 5) 5 (by exact rfl), sl_ints [2] (b := b8) (Blk.fr (w := w10) (by iterate 14 (first | done | assumption | (apply fun h => Blk.ext h (by assumption)))) e11 (by omega)), .inl ⟨rfl, fun p m => rfl⟩, rfl, rfl⟩⟩
  · exact ⟨⟨_, _, _, (k52.fr e11 (by omega)).part (13 * 5) 5 (by exact rfl), sl_ints [2] (b := b8) (Blk.fr (w := w10) (by iterate 14 (first | done | assumption | (apply fun h => Blk.ext h (by assumption)))) e11 (by omega)), most_const (b := b38) (n := 4) (Blk.fr (w := w10) (by iterate 14 (first | done | assumption | (apply fun h => Blk.ext h (by assumption)))) e11 (by omega)) (fun p m => rfl), rfl, rfl⟩⟩
  · exact ⟨⟨_, _, _, (k52.fr e11 (by omega)).part (14 * 5) 5 (by exact rfl), sl_ints [2, -1] (b := b40) (Blk.fr (w := w10) (by iterate 14 (first | done | assumption | (apply fun h => Blk.ext h (by assumption)))) e11 (by omega)), most_const (b := b42) (n := 4) (Blk.fr (w := w10) (by iterate 14 (first | done | assumption | (apply fun h => Blk.ext h (by assumption)))) e11 (by omega)) (fun p m => rfl), rfl, rfl⟩⟩
  · exact ⟨⟨_, _, _, (k52.fr e11 (by omega)).part (15 * 5) 5 (by exact rfl), sl_ints [2, -1] (b := b44) (Blk.fr (w := w10) (by iterate 14 (first | done | assumption | (apply fun h => Blk.ext h (by assumption)))) e11 (by omega)), .inl ⟨rfl, fun p m => rfl⟩, rfl, rfl⟩⟩
  · exact ⟨⟨_, _, _, (k52.fr e11 (by omega)).part (16 * 5) 5 (by exact rfl), sl_ints [-1] (b := b7) (Blk.fr (w := w10) (by iterate 14 (first | done | assumption | (apply fun h => Blk.ext h (by assumption)))) e11 (by omega)), .inl ⟨rfl, fun p m => rfl⟩, rfl, rfl⟩⟩
  · exact ⟨⟨_, _, _, (k52.fr e11 (by omega)).part (17 * 5) 5 (by exact rfl), sl_ints [2] (b := b8) (Blk.fr (w := w10) (by iterate 14 (first | done | assumption | (apply fun h => Blk.ext h (by assumption)))) e11 (by omega)), .inl ⟨rfl, fun p m => rfl⟩, rfl, rfl⟩⟩
  · exact ⟨⟨_, _, _, (k52.fr e11 (by omega)).part (18 * 5) 5 (by exact rfl), sl_ints [2] (b := b8) (Blk.fr (w := w10) (by iterate 14 (first | done | assumption | (apply fun h => Blk.ext h (by assumption)))) e11 (by omega)), .inl ⟨rfl, fun p m => rfl⟩, rfl, rfl⟩⟩

/-- What is known of a kind. -/
theorem c_mannerOf {k : Int} {w : World} {R : VW} (hno : ¬ (1 ≤ k ∧ k ≤ 18) → ∀ w', Ext w w' → R (.tuple #[.agg #[.string ByteArray.empty, .int .i64 0, .int .i64 0, .slice none 0 0, .nilFunc], .bool false]) w')
    (hyes : 1 ≤ k ∧ k ≤ 18 → ∀ w' s u f, Ext w w' → Sl kInt Any w' [] (kindsT.getD k.toNat []) u → Most w' f k → s.oneCell' = true → f.oneCell' = true →
      R (.tuple #[.agg #[s, .int .i64 (takesT.getD k.toNat 0), .int .i64 (leftT.getD k.toNat 0), u, f], .bool true]) w') : clT PR 249 [.int .i64 k] w R := by
  refine Fimpl_mannerOf.cl ?_
  unfold Fimpl_mannerOf
  refine al_of' (fun b1 w1 e1 hb1 k1 => ?_)
  refine c_implIn ?_
  repeat (((refine not_of ?_)))
  refine condNIn_of (fun hk => ?_) (fun hk => ?_)
  · refine bld_of (cs := #[_, _, _, _, _]) (by exact rfl) ?_
    refine sts_of' (vs := [_, _, _, _, _]) (by exact rfl) k1 rfl rfl (by simp [Value.oneCell']) (fun w3 e3 k3 => ?_)
    refine lds_of k3.cells rfl ?_
    exact hno hk _ (e1.trans' e3 (fun _ _ h => h) (fun x hx e => by omega))
  · refine c_manners (fun w2 b2 e2 hb2 hrow => ?_)
    have l1 := k1.lt
    obtain ⟨⟨s, u, f, hc, hu, hm, hs, hf⟩⟩ := hrow w2 (Fr.refl _ _) k.toNat (by omega) (by omega)
    refine ixaS_of (by omega) (by omega) ?_
    rw [Nat.zero_add]
    refine lds_of hc rfl ?_
    refine sts_of' (vs := [s, .int .i64 (takesT.getD k.toNat 0), .int .i64 (leftT.getD k.toNat 0), u, f]) rfl (k1.ext e2) rfl rfl (by intro x hx; simp only [List.mem_cons, List.not_mem_nil, or_false] at hx; rcases hx with h | h | h | h | h <;> rw [h] <;> first | exact hs | exact hf | exact hu.one | rfl) (fun w3 e3 k3 => ?_)
    refine lds_of k3.cells rfl ?_
    have e23 : Fr (fun x => x < w1.heap.size) w2 w3 := e3.to (fun x _ e => by omega)
    obtain ⟨⟨s', u', f', hc', hu', hm', hs', hf'⟩⟩ := hrow w3 e23 k.toNat (by omega) (by omega)
    have same : s' = s ∧ u' = u ∧ f' = f := by
      have hc3 := hc.fr e23 (fun h => by omega)
      have q0 := (hc'.at 0 rfl).symm.trans (hc3.at 0 rfl)
      have q3 := (hc'.at 3 rfl).symm.trans (hc3.at 3 rfl)
      have q4 := (hc'.at 4 rfl).symm.trans (hc3.at 4 rfl)
      exact ⟨Option.some.inj q0, Option.some.inj q3, Option.some.inj q4⟩
    obtain ⟨rfl, rfl, rfl⟩ := same
    have hk' : (k.toNat : Int) = k := by omega
    rw [hk'] at hm'
    exact hyes hk _ _ _ _ ((e1.trans e2).trans' e3 (fun _ _ h => h) (fun x hx e => by omega)) hu' hm' hs hf
end Go.PT

/- What the program asks of operations, methods and programs. -/
set_option linter.unusedVariables false
set_option linter.unusedSimpArgs false
namespace Go.PT
attribute [local irreducible] ldT ldsT stT stsT allocT boxT bldT bslT nilT fadT ixaT fldT extT lenT pickT binT notT cviT opT opU condT clT clvT ivT loopT arT ndT World.cell? World.frozen? World.alloc World.drew World.setCell Blk Cells Sl
def isFuncB (P : Program) (t : Nat) : Bool := match P.underlying t with | some (.func ..) => true | _ => false
theorem isFuncB_of {P : Program} {t : Nat} (h : isFuncB P t = true) : ∃ a b c, P.underlying t = some (.func a b c) := by
  unfold isFuncB at h
  split at h
  · exact ⟨_, _, _, by assumption⟩
  · cases h
theorem eqlF_of {P : Program} {t : Nat} {x y : Operand} {f : Value} {w : World} {k : VW} (ht : isFuncB P t = true) (h1 : f = .nilFunc → k (.bool true) w) (h2 : (∃ a b c, f = .func a b c) → k (.bool false) w) (hf : f = .nilFunc ∨ ∃ a b c, f = .func a b c) :
    opT P (do eqGuard .eql t x y f .nilFunc; binOp .eql t f .nilFunc) w k := by
  obtain ⟨a, b, c, hu⟩ := isFuncB_of ht
  have e : Op.maxDepth = (Op.maxDepth - 1) + 1 := rfl
  unfold opT
  rcases hf with rfl | ⟨g, y1, z1, rfl⟩
  · have : (do eqGuard .eql t x y .nilFunc .nilFunc; binOp .eql t .nilFunc .nilFunc : Sem Value).run P w = .ok (.bool true) w := by
      simp only [eqGuard, binOp, Op.equal]
      rw [e]
      simp [Op.equalIn, run_underlying hu]
    simp only [this]
    exact h1 rfl
  · have : (do eqGuard .eql t x y (.func g y1 z1) .nilFunc; binOp .eql t (.func g y1 z1) .nilFunc : Sem Value).run P w = .ok (.bool false) w := by
      simp only [eqGuard, binOp, Op.equal]
      rw [e]
      simp [Op.equalIn, run_underlying hu]
    simp only [this]
    exact h2 ⟨_, _, _, rfl⟩

theorem opOk_most {p : Pg} {m : Meth} {op : Int × Int} {n : Int} (h : mostOf p m op.1 = some n) : opOk p m op = inB op.2 0 (n - 1) := by
  unfold mostOf at h
  unfold opOk
  repeat' split at h
  all_goals first | cases h | skip
  all_goals simp [*]
theorem opOk_none {p : Pg} {m : Meth} {op : Int × Int} (h : mostOf p m op.1 = none) : opOk p m op = (inB op.1 1 18 && decide (op.2 = 0)) := by
  unfold mostOf at h
  unfold opOk
  repeat' split at h
  all_goals first | cases h | skip
  all_goals simp [*]
theorem mostOf_range {p : Pg} {m : Meth} {k n : Int} (h : mostOf p m k = some n) (ht0 : 0 ≤ m.temps) (ht1 : m.temps ≤ 4) (hp : p.length ≤ 1073741824) (hm : m.ops.length ≤ 1073741824) : 0 ≤ n ∧ n ≤ 1073741824 := by
  unfold mostOf at h
  repeat' split at h
  all_goals first | cases h | skip
  all_goals omega
theorem c_opOk {p : Pg} {m : Meth} {op : Int × Int} {w : World} {R : VW} {u um : Value} (hp : Sl kMeth Any w [] p u) (hm : Sl kPair Any w [] m.ops um) (hpl : p.length ≤ 1073741824) (hml : m.ops.length ≤ 1073741824) (ht0 : 0 ≤ m.temps) (ht1 : m.temps ≤ 4)
    (hR : ∀ w', Ext w w' → R (.bool (opOk p m op)) w') : clT PR 201 [.agg #[.int .i64 op.1, .int .i64 op.2], .agg #[u], .agg #[.int .i64 m.args, .int .i64 m.temps, um]] w R := by
  refine Fimpl_Op_ok.cl ?_
  unfold Fimpl_Op_ok
  refine box_of' (fun b3 w1 e1 hb3 (k3 : Blk w1 b3 [.int .i64 op.1, .int .i64 op.2]) => ?_)
  refine box_of' (fun b1 w2 e2 hb1 (k1 : Blk w2 b1 [u]) => ?_)
  refine box_of' (fun b2 w3 e3 hb2 (k2 : Blk w3 b2 [.int .i64 m.args, .int .i64 m.temps, um]) => ?_)
  repeat (first | ((refine fad_of ?_)) | ((apply ld_of; (case h => iterate 14 (first | done | exact Blk.cell (by assumption) (by exact rfl) | (apply Ext.cell (by assumption)))))))
  refine c_mannerOf (fun hk w4 e4 => ?_) (fun hk w4 s v f e4 hv hf hs1 hf1 => ?_)
  · refine ext_of rfl ?_
    refine ext_of rfl ?_
    refine al_of' (fun b5 w5 e5 hb5 k5 => ?_)
    refine sts_of' (vs := [_, _, _, _, _]) (by exact rfl) k5 rfl rfl (by simp [Value.oneCell']) (fun w6 e6 k6 => ?_)
    have e46 : Ext w4 w6 := (e5.fr (S := fun x => x = b5)).trans' e6 (fun x hx e => by omega) (fun x hx e => by omega)
    clear e5 e6
    refine not_of ?_
    refine condT_true ?_
    refine condT_false ?_
    have : opOk p m op = false := by
      have hn : mostOf p m op.1 = none := by
        unfold mostOf
        rw [if_neg (by omega), if_neg (by omega), if_neg (by omega), if_neg (by omega), if_neg (by omega)]
      rw [opOk_none hn, inB_f hk]; rfl
    rw [← this]
    exact hR _ (by iterate 20 (first | done | assumption | (apply fun h => Fr.trans h (by assumption))))
  · refine ext_of rfl ?_
    refine ext_of rfl ?_
    refine al_of' (fun b5 w5 e5 hb5 k5 => ?_)
    refine sts_of' (vs := [s, .int .i64 (takesT.getD op.1.toNat 0), .int .i64 (leftT.getD op.1.toNat 0), v, f]) rfl k5 rfl rfl (by intro x hx; simp only [List.mem_cons, List.not_mem_nil, or_false] at hx; rcases hx with h | h | h | h | h <;> rw [h] <;> first | exact hs1 | exact hf1 | exact hv.one | rfl) (fun w6 e6 k6 => ?_)
    have e46 : Ext w4 w6 := (e5.fr (S := fun x => x = b5)).trans' e6 (fun x hx e => by omega) (fun x hx e => by omega)
    clear e5 e6
    refine not_of ?_
    refine condT_false ?_
    repeat (first | ((refine fad_of ?_)) | ((apply ld_of; (case h => iterate 14 (first | done | exact Blk.cell (by assumption) (by exact rfl))))))
    refine eqlF_of (by kernel_rfl) (fun hnil => ?_) (fun hfun => ?_) (by rcases hf with ⟨h, _⟩ | ⟨h, _⟩; exact .inl h; exact .inr h)
    · refine condT_true ?_
      refine condT_true ?_
      repeat (first | (first | refine fad_of ?_ | refine eql_of ?_) | ((apply ld_of; (case h => iterate 14 (first | done | exact Blk.cell (by assumption) (by exact rfl) | (apply Ext.cell (by assumption)))))))
      have hn : mostOf p m op.1 = none := by
        rcases hf with ⟨_, h⟩ | ⟨⟨a, b, c, h⟩, _⟩
        · exact h p m
        · rw [hnil] at h; cases h
      have := opOk_none hn
      rw [inB_t hk.1 hk.2, Bool.true_and] at this
      rw [← this]
      exact hR _ (by iterate 20 (first | done | assumption | (apply fun h => Fr.trans h (by assumption))))
    · refine condT_false ?_
      rcases hf with ⟨h, _⟩ | ⟨_, hf⟩
      · obtain ⟨a, b, c, h'⟩ := hfun; rw [h] at h'; cases h'
      repeat (first | ((refine fad_of ?_)) | (first | (apply ld_of; (case h => iterate 14 (first | done | exact Blk.cell (by assumption) (by exact rfl) | apply cell_drew | (apply Ext.cell (by assumption))))) | (apply lds_of; (case h => iterate 14 (first | done | exact Blk.cells (by assumption) | apply Cells.drew | (apply fun h => Cells.ext h (by assumption)))); (case hn => exact rfl))))
      refine hf p m u um w6.drew _ e46.drew (by iterate 14 (first | done | assumption | apply Sl.drew | (apply fun h => Sl.ext h (by assumption)))) (by iterate 14 (first | done | assumption | apply Sl.drew | (apply fun h => Sl.ext h (by assumption)))) hpl hml (fun w8 n e8 hn => ?_)
      have hr := mostOf_range hn ht0 ht1 hpl hml
      have e68 : Ext w6 w8 := (Fr.refl No w6).drew.trans e8
      clear e8
      refine ⟨?_, ?_⟩
      · repeat (((apply ld_of; (case h => iterate 14 (first | done | exact Blk.cell (by assumption) (by exact rfl) | (apply Ext.cell (by assumption)))))))
        rfl
      · repeat (((refine sub_of (by (omega)) (by (omega)) ?_)))
        refine c_implIn ?_
        rw [← opOk_most hn]
        exact hR _ (by iterate 20 (first | done | assumption | (apply fun h => Fr.trans h (by assumption))))
end Go.PT

/- What the program asks of programs. -/
set_option linter.unusedVariables false
set_option linter.unusedSimpArgs false
namespace Go.PT
attribute [local irreducible] ldT ldsT stT stsT allocT boxT bldT bslT nilT fadT ixaT fldT extT lenT pickT binT notT cviT opT opU condT clT clvT ivT loopT arT ndT World.cell? World.frozen? World.alloc World.drew World.setCell Blk Cells Sl
theorem c_indexOp {l : List V} {u fv : Value} {f : V → Bool} {w : World} {R : VW} (h : Sl kPair Any w [] l u) (hl : l.length ≤ 1073741824) (hf : Tells w fv f)
    (hR : ∀ w' n, Ext w w' → (0 ≤ n ↔ l.any f = true) → R (.int .i64 n) w') : clT PR 248 [u, fv] w R := by
  refine Fslices_IndexFunc_Op.cl ?_
  unfold Fslices_IndexFunc_Op
  repeat ((refine Sl.len_of (by assumption) ?_))
  refine loop_of (fun m s w' => Ext w w' ∧ ∃ i : Nat, i + m = l.length ∧ s = [u, fv, .int .i64 0, .int .i64 l.length, .int .i64 i] ∧ (l.take i).any f = false) ?_ (m := l.length) ⟨Fr.refl _ _, 0, by omega, rfl, rfl⟩
  rintro m s w' Kn ⟨he, i, hi, rfl, hok⟩ hKn
  intro _
  simp only [List.headD_cons, List.tail_cons]
  repeat (((refine lss_of ?_)))
  refine condLt_of (fun hc => ?_) (fun hc => ?_)
  · have hil : i < l.length := by omega
    refine pair_ix (i := (i : Int)) h (by omega) (by omega) (fun b o hcell => ?_)
    have hx : l[i]? = some (pairAt l i) := by unfold pairAt; rw [Int.toNat_natCast, List.getD_eq_getElem?_getD, List.getElem?_eq_getElem hil]; rfl
    generalize pairAt l (i : Int) = v at hx hcell
    repeat (((apply lds_of; (case h => iterate 14 (first | done | assumption | (apply fun h => Cells.ext h (by assumption)))); (case hn => exact rfl))))
    refine hf v _ _ he (fun w1 e1 => ?_)
    refine cond_of (fun ht => ?_) (fun hff => ?_)
    · intro _
      refine hR _ _ (by iterate 20 (first | done | assumption | (apply fun h => Fr.trans h (by assumption)))) ⟨fun _ => ?_, fun _ => by omega⟩
      rw [List.any_eq_true]
      exact ⟨v, List.mem_of_getElem? hx, ht⟩
    · repeat (((refine add_of (by (omega)) (by (omega)) ?_)))
      refine hKn (m - 1) _ _ (by omega) ⟨by iterate 20 (first | done | assumption | (apply fun h => Fr.trans h (by assumption))), i + 1, by omega, rfl, ?_⟩
      rw [List.take_add_one, hx, List.any_append, hok]
      simp [hff]
  · intro _
    have hei : l.take i = l := List.take_of_length_le (by omega)
    rw [hei] at hok
    exact hR _ _ he ⟨fun h => by omega, fun h => by rw [hok] at h; cases h⟩
theorem c_containsOp {l : List V} {u fv : Value} {f : V → Bool} {w : World} {R : VW} (h : Sl kPair Any w [] l u) (hl : l.length ≤ 1073741824) (hf : Tells w fv f)
    (hR : ∀ w', Ext w w' → R (.bool (l.any f)) w') : clT PR 199 [u, fv] w R := by
  refine Fslices_ContainsFunc_Op.cl ?_
  unfold Fslices_ContainsFunc_Op
  refine c_indexOp h hl hf (fun w1 n e1 hn => ?_)
  repeat (((refine geq_of ?_)))
  have : decide (n ≥ 0) = l.any f := by rw [Bool.eq_iff_iff, decide_eq_true_eq]; exact hn
  rw [this]
  exact hR _ e1
/-- A function value that tells of methods what 'f' tells. -/
def TellsM (w : World) (l : Pg) (fv : Value) (f : Meth → Bool) : Prop :=
  ∀ (m : Meth) (um : Value) (w1 : World) (R : VW), Ext w w1 → m ∈ l → Sl kPair Any w1 [] m.ops um → (∀ w', Ext w1 w' → R (.bool (f m)) w') → clvT PR CX fv [.agg #[.int .i64 m.args, .int .i64 m.temps, um]] w1 R
theorem c_indexM {l : Pg} {u fv : Value} {f : Meth → Bool} {w : World} {R : VW} (h : Sl kMeth Any w [] l u) (hl : l.length ≤ 1073741824) (hf : TellsM w l fv f)
    (hR : ∀ w' n, Ext w w' → (0 ≤ n ↔ l.any f = true) → R (.int .i64 n) w') : clT PR 247 [u, fv] w R := by
  refine Fslices_IndexFunc_Method.cl ?_
  unfold Fslices_IndexFunc_Method
  repeat ((refine Sl.len_of (by assumption) ?_))
  refine loop_of (fun m s w' => Ext w w' ∧ ∃ i : Nat, i + m = l.length ∧ s = [u, fv, .int .i64 0, .int .i64 l.length, .int .i64 i] ∧ (l.take i).any f = false) ?_ (m := l.length) ⟨Fr.refl _ _, 0, by omega, rfl, rfl⟩
  rintro m s w' Kn ⟨he, i, hi, rfl, hok⟩ hKn
  intro _
  simp only [List.headD_cons, List.tail_cons]
  repeat (((refine lss_of ?_)))
  refine condLt_of (fun hc => ?_) (fun hc => ?_)
  · have hil : i < l.length := by omega
    refine meth_ix (i := (i : Int)) h (by omega) (by omega) (fun b o um hcell hum => ?_)
    have hx : l[i]? = some (methAt l i) := by unfold methAt; rw [Int.toNat_natCast, List.getD_eq_getElem?_getD, List.getElem?_eq_getElem hil]; rfl
    generalize methAt l (i : Int) = v at hx hcell hum
    repeat (((apply lds_of; (case h => iterate 14 (first | done | assumption | (apply fun h => Cells.ext h (by assumption)))); (case hn => exact rfl))))
    refine hf v um _ _ he (List.mem_of_getElem? hx) (by iterate 14 (first | done | assumption | (apply fun h => Sl.ext h (by assumption)))) (fun w1 e1 => ?_)
    refine cond_of (fun ht => ?_) (fun hff => ?_)
    · intro _
      refine hR _ _ (by iterate 20 (first | done | assumption | (apply fun h => Fr.trans h (by assumption)))) ⟨fun _ => ?_, fun _ => by omega⟩
      rw [List.any_eq_true]
      exact ⟨v, List.mem_of_getElem? hx, ht⟩
    · repeat (((refine add_of (by (omega)) (by (omega)) ?_)))
      refine hKn (m - 1) _ _ (by omega) ⟨by iterate 20 (first | done | assumption | (apply fun h => Fr.trans h (by assumption))), i + 1, by omega, rfl, ?_⟩
      rw [List.take_add_one, hx, List.any_append, hok]
      simp [hff]
  · intro _
    have hei : l.take i = l := List.take_of_length_le (by omega)
    rw [hei] at hok
    exact hR _ _ he ⟨fun h => by omega, fun h => by rw [hok] at h; cases h⟩
theorem c_containsM {l : Pg} {u fv : Value} {f : Meth → Bool} {w : World} {R : VW} (h : Sl kMeth Any w [] l u) (hl : l.length ≤ 1073741824) (hf : TellsM w l fv f)
    (hR : ∀ w', Ext w w' → R (.bool (l.any f)) w') : clT PR 197 [u, fv] w R := by
  refine Fslices_ContainsFunc_Method.cl ?_
  unfold Fslices_ContainsFunc_Method
  refine c_indexM h hl hf (fun w1 n e1 hn => ?_)
  repeat (((refine geq_of ?_)))
  have : decide (n ≥ 0) = l.any f := by rw [Bool.eq_iff_iff, decide_eq_true_eq]; exact hn
  rw [this]
  exact hR _ e1
theorem c_progOk {p : Pg} {w : World} {R : VW} {u : Value} (hp : Sl kMeth Any w [] p u) (hpl : p.length ≤ 1073741824) (hml : ∀ m ∈ p, m.ops.length ≤ 1073741824)
    (hR : ∀ w', Ext w w' → R (.bool (progOk p)) w') : clT PR 135 [.agg #[u]] w R := by
  replace hR : ∀ w' b, Ext w w' → b = progOk p → R (.bool b) w' := fun w' b e h => h ▸ hR w' e
  refine Fimpl_ProgOk.cl ?_
  unfold Fimpl_ProgOk
  refine box_of' (fun b1 w1 e1 hb1 (k1 : Blk w1 b1 [u]) => ?_)
  repeat' (first | (first | refine fad_of ?_ | refine neq_of ?_ | refine not_of ?_) | ((fail)) | ((apply ld_of; (case h => iterate 14 (first | done | exact Blk.cell (by assumption) (by exact rfl) | exact Cells.at (by assumption) _ (by exact rfl) | (apply Ext.cell (by assumption)))))) | (refine Sl.len_of (by assumption) ?_) | ((fail)) | (first | refine condNIn_of (fun _ => ?_) (fun _ => ?_) | refine condNe_of (fun _ => ?_) (fun _ => ?_)) | refine c_implIn ?_ | refine meth_ix (by assumption) (by omega) (by omega) (fun _ _ _ _ _ => ?_))
  · exact hR _ _ (by iterate 20 (first | done | assumption)) (by unfold progOk; (simp [*, inB_t, inB_f]; done))
  · exact hR _ _ (by iterate 20 (first | done | assumption)) (by unfold progOk; (simp [*, inB_t, inB_f]; done))
  · rename_i h1 b0 o0 u0 hc0 hs0 h2
    refine c_containsM (f := fun m => !methOk p m) (by iterate 14 (first | done | assumption | (apply fun h => Sl.ext h (by assumption)))) hpl ?_ (fun w2 e2 => ?_)
    · intro m um w3 R' e3 hmem hum hR'
      have hmo := hml m hmem
      replace hR' : ∀ w' b, Ext w3 w' → b = !methOk p m → R' (.bool b) w' := fun w' b e h => h ▸ hR' w' e
      refine clv_of (by kernel_rfl) rfl ?_
      refine Fimpl_ProgOk_1.cl ?_
      unfold Fimpl_ProgOk_1
      refine box_of' (fun b2 w4 e4 hb2 (k2 : Blk w4 b2 [.int .i64 m.args, .int .i64 m.temps, um]) => ?_)
      repeat' (first | (first | refine fad_of ?_ | refine gtr_of ?_ | refine not_of ?_) | ((fail)) | ((apply ld_of; (case h => iterate 14 (first | done | exact Blk.cell (by assumption) (by exact rfl))))) | (refine Sl.len_of (by assumption) ?_) | ((fail)) | (first | refine condNIn_of (fun _ => ?_) (fun _ => ?_) | refine condGt_of (fun _ => ?_) (fun _ => ?_)) | refine c_implIn ?_)
      · exact hR' _ _ (by iterate 20 (first | done | assumption)) (by unfold methOk; (simp [*, inB_t, inB_f]; done))
      · exact hR' _ _ (by iterate 20 (first | done | assumption)) (by unfold methOk; (simp [*, inB_t, inB_f]; done))
      · exact hR' _ _ (by iterate 20 (first | done | assumption)) (by unfold methOk; (simp [*, inB_t, inB_f]; done))
      · rename_i g1 g2 g3
        refine c_containsOp (f := fun op => !opOk p m op) (by iterate 14 (first | done | assumption | (apply fun h => Sl.ext h (by assumption)))) hmo ?_ (fun w5 e5 => ?_)
        · intro op w6 R'' e6 hR''
          refine clv_of (by kernel_rfl) rfl ?_
          refine Fimpl_ProgOk_1_1.cl ?_
          unfold Fimpl_ProgOk_1_1
          refine box_of' (fun b3 w7 e7 hb3 (k3 : Blk w7 b3 [.int .i64 op.1, .int .i64 op.2]) => ?_)
          repeat (((apply lds_of; (case h => iterate 14 (first | done | exact Blk.cells (by assumption) | (apply fun h => Cells.ext h (by assumption)))); (case hn => exact rfl))))
          refine c_opOk (by iterate 14 (first | done | assumption | (apply fun h => Sl.ext h (by assumption)))) (by iterate 14 (first | done | assumption | (apply fun h => Sl.ext h (by assumption)))) hpl hmo (by omega) (by omega) (fun w8 e8 => ?_)
          repeat (((refine not_of ?_)))
          exact hR'' _ (e7.trans e8)
        · refine hR' _ _ (by iterate 20 (first | done | assumption | (apply fun h => Fr.trans h (by assumption)))) ?_
          unfold methOk
          rw [inB_t g1.1 g1.2, inB_t g2.1 g2.2, decide_eq_true g3]
          simp only [Bool.true_and]
          rw [List.not_all_eq_any_not]
    · repeat (((refine not_of ?_)))
      refine hR _ _ (by iterate 20 (first | done | assumption | (apply fun h => Fr.trans h (by assumption)))) ?_
      unfold progOk
      rw [inB_t h1.1 h1.2, decide_eq_true h2]
      simp only [Bool.true_and]
      rw [List.not_any_eq_all_not]; simp
end Go.PT

/- What the program asks of heaps. -/
set_option linter.unusedVariables false
set_option linter.unusedSimpArgs false
namespace Go.PT
attribute [local irreducible] ldT ldsT stT stsT allocT boxT bldT bslT nilT fadT ixaT fldT extT lenT pickT binT notT cviT opT opU condT clT clvT ivT loopT arT ndT World.cell? World.frozen? World.alloc World.drew World.setCell Blk Cells Sl
theorem form_of {p : Pg} {n : Int} {c : Cl} (h : form p n c = true) : c.sender ≤ n - 1 ∧ -1 ≤ c.sender ∧ (c.stack.length : Int) ≤ 6 := by
  unfold form at h
  simp only [Bool.and_eq_true, inB_iff, decide_eq_true_eq] at h
  omega
theorem c_heapOk {p : Pg} {h : Hp} {w : World} {R : VW} {u uc us : Value} (hp : Sl kMeth Any w [] p u) (hpl : p.length ≤ 1073741824) (hml : ∀ m ∈ p, m.ops.length ≤ 1073741824) (hh : HeapV w h uc us)
    (hR : ∀ w', Ext w w' → R (.bool (heapOk p h)) w') : clT PR 92 [.agg #[u], .agg #[uc, .int .i64 h.now, .int .i64 h.born, us, .int .i64 h.code]] w R := by
  replace hR : ∀ w' b, Ext w w' → b = heapOk p h → R (.bool b) w' := fun w' b e h => h ▸ hR w' e
  refine Fimpl_HeapOk.cl ?_
  unfold Fimpl_HeapOk
  have hn := hh.n
  have hS := hh.calls
  have hD := hh.said
  have hns := hh.ns
  refine box_of' (fun b1 w1 e1 hb1 (k1 : Blk w1 b1 [u]) => ?_)
  refine box_of' (fun b2 w2 e2 hb2 (k2 : Blk w2 b2 [uc, .int .i64 h.now, .int .i64 h.born, us, .int .i64 h.code]) => ?_)
  repeat (((apply lds_of; (case h => iterate 14 (first | done | exact Blk.cells (by assumption) | (apply fun h => Cells.ext h (by assumption)))); (case hn => exact rfl))))
  refine c_progOk (by iterate 14 (first | done | assumption | (apply fun h => Sl.ext h (by assumption)))) hpl hml (fun w3 e3 => ?_)
  repeat (((refine not_of ?_)))
  refine condN_of (fun h1 => ?_) (fun h1 => ?_)
  · exact hR _ _ (by iterate 20 (first | done | assumption | (apply fun h => Fr.trans h (by assumption)))) (by unfold heapOk; rw [h1]; rfl)
  repeat (first | ((refine fad_of ?_)) | ((refine sub_of (by (omega)) (by (omega)) ?_)) | ((apply ld_of; (case h => iterate 14 (first | done | exact Blk.cell (by assumption) (by exact rfl) | (apply Ext.cell (by assumption)))))) | (refine Sl.len_of (by assumption) ?_))
  refine c_implIn ?_
  repeat (((refine not_of ?_)))
  refine condNIn_of (fun h2 => ?_) (fun h2 => ?_)
  · exact hR _ _ (by iterate 20 (first | done | assumption | (apply fun h => Fr.trans h (by assumption)))) (by unfold heapOk; rw [inB_f h2]; simp)
  repeat (first | (first | refine fad_of ?_ | refine eql_of ?_) | (first | (apply ld_of; (case h => iterate 14 (first | done | exact Blk.cell (by assumption) (by exact rfl) | (apply Ext.cell (by assumption))))) | (apply lds_of; (case h => iterate 14 (first | done | exact Blk.cells (by assumption) | (apply fun h => Cells.ext h (by assumption)))); (case hn => exact rfl))))
  refine c_told (by iterate 14 (first | done | assumption | (apply fun h => Sl.ext h (by assumption)))) (by iterate 14 (first | done | assumption | (apply fun h => Sl.ext h (by assumption)))) hpl hns (fun w4 e4 => ?_)
  have hend : decide (h.now = -1) = decide (h.now < 0) := by rw [decide_eq_decide]; omega
  rw [hend]
  repeat (((refine not_of ?_)))
  refine condN_of (fun h3 => ?_) (fun h3 => ?_)
  · refine hR _ _ (by iterate 20 (first | done | assumption | (apply fun h => Fr.trans h (by assumption)))) ?_
    unfold heapOk
    rw [h1, inB_t h2.1 h2.2]
    simp only [Bool.true_and]
    generalize inB h.born 1 30 = x1 at *
    generalize saidOk p h.said = x2 at *
    generalize inB h.code 0 3 = x3 at *
    generalize (decide (h.code = 1) == decide (h.now < 0)) = x4 at *
    cases x1 <;> cases x2 <;> cases x3 <;> cases x4 <;> simp_all
  repeat (first | (first | refine fad_of ?_ | refine gtr_of ?_) | ((apply ld_of; (case h => iterate 14 (first | done | exact Blk.cell (by assumption) (by exact rfl) | (apply Ext.cell (by assumption)))))) | (refine Sl.len_of (by assumption) ?_))
  refine condGt_of (fun h4 => ?_) (fun h4 => ?_)
  · refine hR _ _ (by iterate 20 (first | done | assumption | (apply fun h => Fr.trans h (by assumption)))) ?_
    unfold heapOk
    rw [decide_eq_false (by omega : ¬ (h.calls.length : Int) ≤ h.born)]
    simp
  simp only [Bool.and_eq_true, inB_iff] at h3
  obtain ⟨h5, h6, h7, h8⟩ := h3
  have pre : ∀ b, heapOk p h = b ↔ (h.calls.all (form p h.calls.length) && ((decide (h.now < 0) || !(callAt h.calls h.now).dead) && (decide (((chain h).length : Int) = liveN h.calls) && wait h))) = b := by
    intro b
    unfold heapOk
    rw [h1, inB_t h2.1 h2.2, inB_t h5.1 h5.2, decide_eq_true h4, inB_t h7.1 h7.2, h6, h8]
    simp only [Bool.true_and]
  replace hR : ∀ w' b, Ext w w' → (h.calls.all (form p h.calls.length) && ((decide (h.now < 0) || !(callAt h.calls h.now).dead) && (decide (((chain h).length : Int) = liveN h.calls) && wait h))) = b → R (.bool b) w' := fun w' b e hb => hR w' b e ((pre b).mpr hb).symm
  clear pre
  repeat (first | ((refine fad_of ?_)) | ((apply ld_of; (case h => iterate 14 (first | done | exact Blk.cell (by assumption) (by exact rfl) | (apply Ext.cell (by assumption)))))) | (refine Sl.len_of (by assumption) ?_))
  refine loop_of (fun m s w' => Ext w4 w' ∧ ∃ i : Nat, i + m = h.calls.length ∧ s = [.pointer (some ⟨b1, 0, none⟩), .pointer (some ⟨b2, 0, none⟩), .bool false, .int .i64 (liveN (h.calls.take i)), uc, .int .i64 h.calls.length, .int .i64 i] ∧ (h.calls.take i).all (form p h.calls.length) = true) ?_
    (m := h.calls.length) ⟨Fr.refl _ _, 0, by omega, rfl, rfl⟩
  rintro m s w' Kn ⟨he, i, hi, rfl, hok⟩ hKn
  intro _
  simp only [List.headD_cons, List.tail_cons]
  have hlv : 0 ≤ liveN (h.calls.take i) ∧ liveN (h.calls.take i) ≤ i := by
    unfold liveN
    have h1 := List.length_filter_le (fun c : Cl => !c.dead) (h.calls.take i)
    have h2 : (h.calls.take i).length ≤ i := by rw [List.length_take]; omega
    omega
  repeat (((refine lss_of ?_)))
  refine condLt_of (fun hc => ?_) (fun hc => ?_)
  · have hil : i < h.calls.length := by omega
    have hx : h.calls[i]? = some (callAt h.calls i) := by unfold callAt; rw [Int.toNat_natCast, List.getD_eq_getElem?_getD, List.getElem?_eq_getElem hil]; rfl
    refine call_ix (i := (i : Int)) hS (by omega) (by omega) (fun b o u1 u2 hcell hu1 hu2 => ?_)
    generalize callAt h.calls (i : Int) = c at hx hcell hu1 hu2
    repeat (((apply lds_of; (case h => iterate 14 (first | done | assumption | (apply fun h => Cells.ext h (by assumption)))); (case hn => exact rfl))))
    refine al_of' (fun b3 w6 e6 hb3 k6 => ?_)
    refine sts_of' (vs := [.int .i64 c.method, .int .i64 c.pc, u1, u2, .int .i64 c.sender, .bool c.dead]) rfl k6 rfl rfl (by intro x hx; simp only [List.mem_cons, List.not_mem_nil, or_false] at hx; rcases hx with h | h | h | h | h | h <;> rw [h] <;> first | exact hu1.one | exact hu2.one | rfl) (fun w7 e7 k7 => ?_)
    have z := he.size
    have e47 : Ext w4 w7 := (he.trans e6).trans' e7 (fun _ _ h => h) (fun x hx e => by omega)
    clear e6 e7
    have hnt := hh.nt _ (List.mem_of_getElem? hx)
    repeat (first | ((refine fad_of ?_)) | (first | (apply ld_of; (case h => iterate 14 (first | done | exact Blk.cell (by assumption) (by exact rfl) | (apply Ext.cell (by assumption))))) | (apply lds_of; (case h => iterate 14 (first | done | exact Blk.cells (by assumption) | (apply fun h => Cells.ext h (by assumption)))); (case hn => exact rfl))) | (refine Sl.len_of (by assumption) ?_))
    have hew : Ext w w7 := (((e1.trans e2).trans e3).trans e4).trans e47
    refine c_formed (c := c) (hp.ext hew) (hu1.ext hew) (hu2.ext hew) (by omega) (by omega) (by omega) (by omega) (by omega) (fun w8 e8 => ?_)
    clear hew
    repeat (((refine not_of ?_)))
    have k8 := k7.ext e8
    refine condN_of (fun hf => ?_) (fun ht => ?_)
    · intro _
      refine hR _ _ (by iterate 20 (first | done | assumption | (apply fun h => Fr.trans h (by assumption)))) ?_
      have : h.calls.all (form p h.calls.length) = false := by rw [List.all_eq_false]; exact ⟨_, List.mem_of_getElem? hx, by rw [hf]; simp⟩
      rw [this]; rfl
    · repeat (first | (first | refine fad_of ?_ | refine not_of ?_) | ((apply ld_of; (case h => iterate 14 (first | done | exact Blk.cell (by assumption) (by exact rfl))))))
      have hok' : (h.calls.take (i + 1)).all (form p h.calls.length) = true := by rw [List.take_add_one, hx, List.all_append, hok]; simp [ht]
      have hlive : ∀ d, c.dead = d → liveN (h.calls.take (i + 1)) = liveN (h.calls.take i) + (if d then 0 else 1) := by
        intro d hd
        unfold liveN
        rw [List.take_add_one, hx, List.filter_append, List.length_append]
        cases d <;> simp [hd]
      refine condN_of (fun hd => ?_) (fun hd => ?_)
      · have := hlive _ hd
        repeat (((refine add_of (by (omega)) (by (omega)) ?_)))
        refine hKn (m - 1) _ _ (by omega) ⟨e47.trans e8, i + 1, by omega, ?_, hok'⟩
        rw [this]; rfl
      · have := hlive _ hd
        repeat (((refine add_of (by (omega)) (by (omega)) ?_)))
        refine hKn (m - 1) _ _ (by omega) ⟨e47.trans e8, i + 1, by omega, ?_, hok'⟩
        rw [this]; simp
  · intro _
    have hei : h.calls.take i = h.calls := List.take_of_length_le (by omega)
    rw [hei] at hok ⊢
    rw [hok, Bool.true_and] at hR
    clear hKn hlv
    have hforms : ∀ c ∈ h.calls, c.sender < h.calls.length ∧ (c.stack.length : Int) ≤ 6 := fun c hc => by
      have := form_of (List.all_eq_true.mp hok c hc); omega
    have hlv := liveN_le h.calls
    rw [chain_walk hforms (by omega)] at hR
    repeat (first | ((refine fad_of ?_)) | ((apply ld_of; (case h => iterate 14 (first | done | exact Blk.cell (by assumption) (by exact rfl) | (apply Ext.cell (by assumption)))))))
    refine loop_of (fun m s wx => Ext w' wx ∧ ∃ a : Int, s = [.pointer (some ⟨b2, 0, none⟩), .bool false, .int .i64 m, .int .i64 a] ∧ a < h.calls.length ∧ walkI h.calls h.now (liveN h.calls).toNat h.now = walkI h.calls h.now m a ∧ m ≤ (liveN h.calls).toNat) ?_ (m := (liveN h.calls).toNat)
      ⟨Fr.refl _ _, h.now, by rw [Int.toNat_of_nonneg hlv.1], by omega, rfl, Nat.le_refl _⟩
    rintro m s wx Kn ⟨hex, a, rfl, hal, hwk, hml2⟩ hKn
    intro _
    simp only [List.headD_cons, List.tail_cons]
    repeat (((refine geq_of ?_)))
    refine condGe_of (fun ha => ?_) (fun ha => ?_)
    · repeat (first | ((refine fad_of ?_)) | ((apply ld_of; (case h => iterate 14 (first | done | exact Blk.cell (by assumption) (by exact rfl) | (apply Ext.cell (by assumption)))))))
      refine call_ix hS (by omega) (by omega) (fun b o u1 u2 hcell hu1 hu2 => ?_)
      have hmem : callAt h.calls a ∈ h.calls := by
        unfold callAt
        rw [List.getD_eq_getElem?_getD, List.getElem?_eq_getElem (by omega)]
        exact List.getElem_mem _
      have hsend := (hforms _ hmem).1
      generalize hcc : callAt h.calls a = c at hcell hu1 hu2 hsend
      repeat (((apply lds_of; (case h => iterate 14 (first | done | assumption | (apply fun h => Cells.ext h (by assumption)))); (case hn => exact rfl))))
      refine al_of' (fun b3 w6 e6 hb3 k6 => ?_)
      refine sts_of' (vs := [.int .i64 c.method, .int .i64 c.pc, u1, u2, .int .i64 c.sender, .bool c.dead]) rfl k6 rfl rfl (by intro x hx; simp only [List.mem_cons, List.not_mem_nil, or_false] at hx; rcases hx with h | h | h | h | h | h <;> rw [h] <;> first | exact hu1.one | exact hu2.one | rfl) (fun w7 e7 k7 => ?_)
      have z := hex.size
      have e47 : Ext w' w7 := (hex.trans e6).trans' e7 (fun _ _ h => h) (fun x hx e => by omega)
      clear e6 e7 hex
      have stop : walkI h.calls h.now m a = false → ∀ x, Fimpl_HeapOk.r5 (.pointer (some ⟨b2, 0, none⟩)) (.bool false) x (.int .i64 a) w7 R := by
        intro hw x
        intro _
        exact hR _ _ (by iterate 20 (first | done | assumption | (apply fun h => Fr.trans h (by assumption)))) (by rw [hwk, hw])
      cases m with
      | zero =>
        repeat (first | (first | refine lss_of ?_ | refine condT_true ?_) | ((refine sub_of (by (omega)) (by (omega)) ?_)))
        exact stop (by unfold walkI; rw [decide_eq_false (by omega)]) _
      | succ m =>
        have hw2 : walkI h.calls h.now (m + 1) a = (if c.dead then false else if a ≠ h.now ∧ (c.stack.length : Int) = 6 then false else walkI h.calls h.now m c.sender) := by
          conv => lhs; unfold walkI
          rw [if_neg (by omega), hcc]
        repeat (first | ((refine lss_of ?_)) | ((refine sub_of (by (omega)) (by (omega)) ?_)))
        refine condP_f (by omega) ?_
        repeat (first | ((refine fad_of ?_)) | ((apply ld_of; (case h => iterate 14 (first | done | exact Blk.cell (by assumption) (by exact rfl))))))
        refine cond_of (fun hd => ?_) (fun hd => ?_)
        · exact stop (by rw [hw2, hd]; rfl) _
        · rw [hd] at hw2
          repeat (first | (first | refine fad_of ?_ | refine neq_of ?_) | ((apply ld_of; (case h => iterate 14 (first | done | exact Blk.cell (by assumption) (by exact rfl) | (apply Ext.cell (by assumption)))))))
          have go : walkI h.calls h.now (m + 1) a = walkI h.calls h.now m c.sender → fadT 0 (.pointer (some ⟨b2, 0, none⟩)) fun t69 => ldT t69 w7 fun t70 => ixaT 6 t70 (.int .i64 a) fun t72 => fadT 4 t72 fun t73 => ldT t73 w7 fun t74 =>
              Kn [.pointer (some ⟨b2, 0, none⟩), .bool false, .int .i64 (((m + 1 : Nat) : Int) - 1), t74] w7 := by
            intro hw
            repeat (first | ((refine fad_of ?_)) | ((apply ld_of; (case h => iterate 14 (first | done | exact Blk.cell (by assumption) (by exact rfl) | (apply Ext.cell (by assumption)))))))
            refine call_ix hS (by omega) (by omega) (fun b o u1 u2 hcell hu1 hu2 => ?_)
            rw [hcc] at hcell
            repeat (first | ((refine fad_of ?_)) | ((apply ld_of; (case h => iterate 14 (first | done | exact Cells.at (by assumption) _ (by exact rfl) | (apply Ext.cell (by assumption)))))))
            refine hKn m _ _ (by omega) ⟨e47, c.sender, ?_, hsend, hwk.trans hw, by omega⟩
            rw [show ((m + 1 : Nat) : Int) - 1 = (m : Int) by omega]
          refine condNe_of (fun hne => ?_) (fun heq => ?_)
          · repeat (first | (first | refine fad_of ?_ | refine eql_of ?_) | ((apply ld_of; (case h => iterate 14 (first | done | exact Blk.cell (by assumption) (by exact rfl))))) | (refine Sl.len_of (by assumption) ?_))
            refine condP_of (fun h6' => ?_) (fun h6' => ?_)
            · exact stop (by rw [hw2]; simp [hne, h6']) _
            · exact go (by rw [hw2]; simp [h6'])
          · exact go (by rw [hw2]; simp [heq])
    · intro _
      repeat (((refine eql_of ?_)))
      refine hR _ _ (by iterate 20 (first | done | assumption | (apply fun h => Fr.trans h (by assumption)))) ?_
      rw [hwk]
      cases m with
      | zero => unfold walkI; rw [decide_eq_true ha]; simp
      | succ m => unfold walkI; rw [if_pos ha, decide_eq_false (by omega)]
end Go.PT
