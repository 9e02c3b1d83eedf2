/- The program's TurnSteps returns what the reference's returns: the law's code says so at all arguments. -/
import Derived.Test.YtfcbjfijidobaaaTurn
import Derived.Test.YtfcbjfijidobaaaTrod
set_option linter.unusedVariables false
namespace Go.PT
theorem c_toTurn {a b : Int} {w : World} {R : VW} (hR : ∀ w', Ext w w' → R (.agg #[.int .i64 a, .int .i64 b]) w') : clT PR 12 [.agg #[.int .i64 a, .int .i64 b]] w R := by
  refine Flaws_toTurn.cl ?_
  unfold Flaws_toTurn
  refine box_of' (fun b1 w1 e1 h1 k1 => ?_)
  refine al_of' (fun b2 w2 e2 h2 k2 => ?_)
  refine al_of' (fun b3 w3 e3 h3 k3 => ?_)
  have z1 := e1.size
  have z2 := e2.size
  have z3 := e3.size
  have l1 := k1.lt
  have l2 := k2.lt
  have k13 : Blk w3 b1 [.int .i64 a, .int .i64 b] := (k1.ext e2).ext e3
  repeat (first | (first | refine fad_of ?_ | refine nil_of ?_ | refine lss_of ?_ | refine leq_of ?_ | refine gtr_of ?_ | refine geq_of ?_ | refine eql_of ?_ | refine neq_of ?_ | refine not_of ?_ | refine cvi_of ?_ | refine lenS_of ?_ | refine condT_true ?_ | refine condT_false ?_) | (first | refine add_of (by omega) (by omega) ?_ | refine sub_of (by omega) (by omega) ?_ | refine mul_of (by omega) (by omega) ?_) | (first | refine ld_of (by repeat (first | assumption | exact Blk.cell (by assumption) (by rfl) | exact Cells.at (by assumption) _ (by rfl) | refine cell_drew ?_ | refine Ext.cell (by assumption) ?_ | refine Fr.cell' (by assumption) (by first | assumption | omega) ?_)) ?_ | refine lds_of (by repeat (first | assumption | exact Blk.cells (by assumption) | refine Cells.drew ?_ | refine Cells.ext ?_ (by assumption) | refine Cells.fr' ?_ (by assumption) (by first | assumption | omega))) (by rfl) ?_))
  refine st_of' k3 (by simp) rfl (fun w4 e4 k4 => ?_)
  have k14 : Blk w4 b1 [.int .i64 a, .int .i64 b] := k13.fr e4 (by omega)
  repeat (first | (first | refine fad_of ?_ | refine nil_of ?_ | refine lss_of ?_ | refine leq_of ?_ | refine gtr_of ?_ | refine geq_of ?_ | refine eql_of ?_ | refine neq_of ?_ | refine not_of ?_ | refine cvi_of ?_ | refine lenS_of ?_ | refine condT_true ?_ | refine condT_false ?_) | (first | refine add_of (by omega) (by omega) ?_ | refine sub_of (by omega) (by omega) ?_ | refine mul_of (by omega) (by omega) ?_) | (first | refine ld_of (by repeat (first | assumption | exact Blk.cell (by assumption) (by rfl) | exact Cells.at (by assumption) _ (by rfl) | refine cell_drew ?_ | refine Ext.cell (by assumption) ?_ | refine Fr.cell' (by assumption) (by first | assumption | omega) ?_)) ?_ | refine lds_of (by repeat (first | assumption | exact Blk.cells (by assumption) | refine Cells.drew ?_ | refine Cells.ext ?_ (by assumption) | refine Cells.fr' ?_ (by assumption) (by first | assumption | omega))) (by rfl) ?_))
  refine st_of' k4 (by simp) rfl (fun w5 e5 k5 => ?_)
  refine lds_of (cs := [.int .i64 a, .int .i64 b]) (k5.cells) rfl ?_
  refine sts_of' (vs := [.int .i64 a, .int .i64 b]) rfl (((k2.ext e3).fr e4 (by omega)).fr e5 (by omega)) rfl rfl (by simp [Value.oneCell']) (fun w6 e6 k6 => ?_)
  refine lds_of (cs := [.int .i64 a, .int .i64 b]) (k6.cells) rfl ?_
  exact hR _ ((((e1.trans e2).trans e3).trans' e4 (fun _ _ h => h) (fun x hx e => by omega)).trans' e5 (fun _ _ h => h) (fun x hx e => by omega) |>.trans' e6 (fun _ _ h => h) (fun x hx e => by omega))
theorem c_eqTurn {a b c d : Int} {w : World} {R : VW} (hR : ∀ w', Ext w w' → R (.bool (decide (a = c ∧ b = d))) w') : clT PR 14 [.agg #[.int .i64 a, .int .i64 b], .agg #[.int .i64 c, .int .i64 d]] w R := by
  refine Flaws_eqTurn.cl ?_
  unfold Flaws_eqTurn
  refine box_of' (fun b1 w1 e1 h1 k1 => ?_)
  refine box_of' (fun b2 w2 e2 h2 k2 => ?_)
  have k12 : Blk w2 b1 [.int .i64 a, .int .i64 b] := k1.ext e2
  have k22 : Blk w2 b2 [.int .i64 c, .int .i64 d] := k2
  repeat (first | (first | refine fad_of ?_ | refine nil_of ?_ | refine lss_of ?_ | refine leq_of ?_ | refine gtr_of ?_ | refine geq_of ?_ | refine eql_of ?_ | refine neq_of ?_ | refine not_of ?_ | refine cvi_of ?_ | refine lenS_of ?_ | refine condT_true ?_ | refine condT_false ?_) | (first | refine add_of (by omega) (by omega) ?_ | refine sub_of (by omega) (by omega) ?_ | refine mul_of (by omega) (by omega) ?_) | (first | refine ld_of (by repeat (first | assumption | exact Blk.cell (by assumption) (by rfl) | exact Cells.at (by assumption) _ (by rfl) | refine cell_drew ?_ | refine Ext.cell (by assumption) ?_ | refine Fr.cell' (by assumption) (by first | assumption | omega) ?_)) ?_ | refine lds_of (by repeat (first | assumption | exact Blk.cells (by assumption) | refine Cells.drew ?_ | refine Cells.ext ?_ (by assumption) | refine Cells.fr' ?_ (by assumption) (by first | assumption | omega))) (by rfl) ?_))
  refine condP_of (fun hc => ?_) (fun hc => ?_)
  · have := hR _ (e1.trans e2)
    rwa [decide_eq_false (by omega)] at this
  · repeat (first | (first | refine fad_of ?_ | refine nil_of ?_ | refine lss_of ?_ | refine leq_of ?_ | refine gtr_of ?_ | refine geq_of ?_ | refine eql_of ?_ | refine neq_of ?_ | refine not_of ?_ | refine cvi_of ?_ | refine lenS_of ?_ | refine condT_true ?_ | refine condT_false ?_) | (first | refine add_of (by omega) (by omega) ?_ | refine sub_of (by omega) (by omega) ?_ | refine mul_of (by omega) (by omega) ?_) | (first | refine ld_of (by repeat (first | assumption | exact Blk.cell (by assumption) (by rfl) | exact Cells.at (by assumption) _ (by rfl) | refine cell_drew ?_ | refine Ext.cell (by assumption) ?_ | refine Fr.cell' (by assumption) (by first | assumption | omega) ?_)) ?_ | refine lds_of (by repeat (first | assumption | exact Blk.cells (by assumption) | refine Cells.drew ?_ | refine Cells.ext ?_ (by assumption) | refine Cells.fr' ?_ (by assumption) (by first | assumption | omega))) (by rfl) ?_))
    refine condP_of (fun hc2 => ?_) (fun hc2 => ?_)
    · have := hR _ (e1.trans e2)
      rwa [decide_eq_false (by omega)] at this
    · have := hR _ (e1.trans e2)
      rwa [decide_eq_true (by omega)] at this
def turnCells (ts : List Tn) : List Value := (ts.map fun t : Tn => [Value.int .i64 t.1, Value.int .i64 t.2]).flatten
theorem turnCells_len (ts : List Tn) : (turnCells ts).length = ts.length * 2 := flatten_len (f := fun t : Tn => [Value.int .i64 t.1, Value.int .i64 t.2]) (sz := 2) (fun _ => rfl) ts
theorem c_toTurnS {w : World} {p : List Nat} {xs : List Tn} {v : Value} {R : VW} (h : Sl kTurn Any w p xs v) (hx : xs.length ≤ 1073741824) (hR : ∀ v' w', Ext w w' → Sl kTurn Any w' [] xs v' → R v' w') : clT PR 7 [v] w R := by
  refine Flaws_toTurnS.cl ?_
  unfold Flaws_toTurnS
  refine h.len_of ?_
  refine mk_of (e := 33) (sz := 2) (by kernel_rfl) (by omega) (by omega) (fun b w1 cs e1 hb k1 hcs _ => ?_)
  rw [Int.toNat_natCast] at hcs ⊢
  refine loop_of (fun m s wx => ∃ i cs, s = [v, .slice none 0 0, .slice (some ⟨b, 0, none⟩) xs.length xs.length, .int .i64 (i : Nat)] ∧ i + m = xs.length ∧ Ext w wx ∧ Blk wx b (turnCells (xs.take i) ++ cs) ∧ cs.length = m * 2) ?_ (m := xs.length)
    ⟨0, cs, rfl, by omega, e1, by simpa [turnCells] using k1, hcs⟩
  rintro m s wx Kn ⟨i, cs, rfl, hi, he, hk, hcs⟩ hKn
  intro _
  simp only [List.headD_cons, List.tail_cons]
  refine h.len_of ?_
  repeat (first | (first | refine fad_of ?_ | refine nil_of ?_ | refine lss_of ?_ | refine leq_of ?_ | refine gtr_of ?_ | refine geq_of ?_ | refine eql_of ?_ | refine neq_of ?_ | refine not_of ?_ | refine cvi_of ?_ | refine lenS_of ?_ | refine condT_true ?_ | refine condT_false ?_) | (first | refine add_of (by omega) (by omega) ?_ | refine sub_of (by omega) (by omega) ?_ | refine mul_of (by omega) (by omega) ?_) | (first | refine ld_of (by repeat (first | assumption | exact Blk.cell (by assumption) (by rfl) | exact Cells.at (by assumption) _ (by rfl) | refine cell_drew ?_ | refine Ext.cell (by assumption) ?_ | refine Fr.cell' (by assumption) (by first | assumption | omega) ?_)) ?_ | refine lds_of (by repeat (first | assumption | exact Blk.cells (by assumption) | refine Cells.drew ?_ | refine Cells.ext ?_ (by assumption) | refine Cells.fr' ?_ (by assumption) (by first | assumption | omega))) (by rfl) ?_))
  have hcl : (turnCells (xs.take i)).length = i * 2 := by rw [turnCells_len, List.length_take]; congr 1; omega
  refine condP_of (fun hc => ?_) (fun hc => ?_)
  · refine turn_at (h.ext he) (by omega) (by omega) (fun t b' o ht hcell => ?_)
    rw [Int.toNat_natCast] at ht
    refine lds_of hcell rfl ?_
    refine c_toTurn (fun w2 e2 => ?_)
    refine ixaS_of (by omega) (by omega) ?_
    rw [Int.toNat_natCast]
    refine sts_at (vs := [.int .i64 t.1, .int .i64 t.2]) rfl (hk.ext e2) rfl (by simp [hcl, hcs]; omega) (by simp [Value.oneCell']) (fun w3 e3 k3 => ?_)
    repeat (first | (first | refine fad_of ?_ | refine nil_of ?_ | refine lss_of ?_ | refine leq_of ?_ | refine gtr_of ?_ | refine geq_of ?_ | refine eql_of ?_ | refine neq_of ?_ | refine not_of ?_ | refine cvi_of ?_ | refine lenS_of ?_ | refine condT_true ?_ | refine condT_false ?_) | (first | refine add_of (by omega) (by omega) ?_ | refine sub_of (by omega) (by omega) ?_ | refine mul_of (by omega) (by omega) ?_) | (first | refine ld_of (by repeat (first | assumption | exact Blk.cell (by assumption) (by rfl) | exact Cells.at (by assumption) _ (by rfl) | refine cell_drew ?_ | refine Ext.cell (by assumption) ?_ | refine Fr.cell' (by assumption) (by first | assumption | omega) ?_)) ?_ | refine lds_of (by repeat (first | assumption | exact Blk.cells (by assumption) | refine Cells.drew ?_ | refine Cells.ext ?_ (by assumption) | refine Cells.fr' ?_ (by assumption) (by first | assumption | omega))) (by rfl) ?_))
    refine hKn (m - 1) _ _ (by omega) ⟨i + 1, cs.drop 2, rfl, by omega, ?_, ?_, by rw [List.length_drop]; omega⟩
    · exact (he.trans e2).trans' e3 (fun _ _ h => h) (fun x hx e => by omega)
    · have e : turnCells (xs.take (i + 1)) = turnCells (xs.take i) ++ [.int .i64 t.1, .int .i64 t.2] := by
        rw [List.take_add_one, ht]; simp [turnCells]
      rw [e]
      have e2 : (turnCells (xs.take i) ++ cs).take (0 + i * 2) ++ [.int .i64 t.1, .int .i64 t.2] ++ (turnCells (xs.take i) ++ cs).drop (0 + i * 2 + 2) = turnCells (xs.take i) ++ [.int .i64 t.1, .int .i64 t.2] ++ cs.drop 2 := by
        rw [Nat.zero_add, ← hcl, List.take_left, List.drop_append, List.drop_of_length_le (by omega)]
        simp
      have k3' : Blk w3 b ((turnCells (xs.take i) ++ cs).take (0 + i * 2) ++ [.int .i64 t.1, .int .i64 t.2] ++ (turnCells (xs.take i) ++ cs).drop (0 + i * 2 + 2)) := k3
      rw [e2] at k3'
      exact k3'
  · have hcs0 : cs = [] := List.length_eq_zero_iff.mp (by omega)
    subst hcs0
    rw [List.append_nil, List.take_of_length_le (by omega)] at hk
    intro _
    refine hR _ _ he ⟨_, xs.length, rfl, Nat.le_refl _, .inr ⟨b, 0, rfl, trivial, fun j t ht => ⟨_, rfl, fun q c hq => ?_⟩⟩⟩
    have := hk.cells (j * 2 + q) c (flatten_get (f := fun t : Tn => [Value.int .i64 t.1, Value.int .i64 t.2]) (sz := 2) (fun _ => rfl) xs j t q c ht hq)
    rwa [Nat.add_assoc]
theorem c_eqTurnS {w : World} {p q : List Nat} {xs ys : List Tn} {v u : Value} {R : VW} (h : Sl kTurn Any w p xs v) (h' : Sl kTurn Any w q ys u) (hx : xs.length ≤ 1073741824) (hy : ys.length ≤ 1073741824) (hxy : xs = ys)
    (hR : ∀ w', Ext w w' → R (.bool true) w') : clT PR 9 [v, u] w R := by
  subst hxy
  refine Flaws_eqTurnS.cl ?_
  unfold Flaws_eqTurnS
  refine h.len_of ?_
  refine h'.len_of ?_
  repeat (first | (first | refine fad_of ?_ | refine nil_of ?_ | refine lss_of ?_ | refine leq_of ?_ | refine gtr_of ?_ | refine geq_of ?_ | refine eql_of ?_ | refine neq_of ?_ | refine not_of ?_ | refine cvi_of ?_ | refine lenS_of ?_ | refine condT_true ?_ | refine condT_false ?_) | (first | refine add_of (by omega) (by omega) ?_ | refine sub_of (by omega) (by omega) ?_ | refine mul_of (by omega) (by omega) ?_) | (first | refine ld_of (by repeat (first | assumption | exact Blk.cell (by assumption) (by rfl) | exact Cells.at (by assumption) _ (by rfl) | refine cell_drew ?_ | refine Ext.cell (by assumption) ?_ | refine Fr.cell' (by assumption) (by first | assumption | omega) ?_)) ?_ | refine lds_of (by repeat (first | assumption | exact Blk.cells (by assumption) | refine Cells.drew ?_ | refine Cells.ext ?_ (by assumption) | refine Cells.fr' ?_ (by assumption) (by first | assumption | omega))) (by rfl) ?_))
  refine condP_of (fun hc => absurd rfl hc) (fun _ => ?_)
  refine loop_of (fun m s wx => ∃ i : Nat, s = [v, u, .bool false, .int .i64 i] ∧ i + m = xs.length ∧ Ext w wx) ?_ (m := xs.length) ⟨0, rfl, by omega, Fr.refl _ _⟩
  rintro m s wx Kn ⟨i, rfl, hi, he⟩ hKn
  intro _
  simp only [List.headD_cons, List.tail_cons]
  refine h.len_of ?_
  repeat (first | (first | refine fad_of ?_ | refine nil_of ?_ | refine lss_of ?_ | refine leq_of ?_ | refine gtr_of ?_ | refine geq_of ?_ | refine eql_of ?_ | refine neq_of ?_ | refine not_of ?_ | refine cvi_of ?_ | refine lenS_of ?_ | refine condT_true ?_ | refine condT_false ?_) | (first | refine add_of (by omega) (by omega) ?_ | refine sub_of (by omega) (by omega) ?_ | refine mul_of (by omega) (by omega) ?_) | (first | refine ld_of (by repeat (first | assumption | exact Blk.cell (by assumption) (by rfl) | exact Cells.at (by assumption) _ (by rfl) | refine cell_drew ?_ | refine Ext.cell (by assumption) ?_ | refine Fr.cell' (by assumption) (by first | assumption | omega) ?_)) ?_ | refine lds_of (by repeat (first | assumption | exact Blk.cells (by assumption) | refine Cells.drew ?_ | refine Cells.ext ?_ (by assumption) | refine Cells.fr' ?_ (by assumption) (by first | assumption | omega))) (by rfl) ?_))
  refine condP_of (fun hc => ?_) (fun hc => ?_)
  · refine turn_at (h.ext he) (by omega) (by omega) (fun t b o ht hcell => ?_)
    refine lds_of (Cells.drew hcell) rfl ?_
    refine turn_at (h'.ext he) (by omega) (by omega) (fun t' b' o' ht' hcell' => ?_)
    rw [ht] at ht'
    obtain rfl := Option.some.inj ht'
    refine lds_of (Cells.drew hcell') rfl ?_
    refine c_eqTurn (fun w1 e1 => ?_)
    rw [decide_eq_true ⟨rfl, rfl⟩]
    repeat (first | (first | refine fad_of ?_ | refine nil_of ?_ | refine lss_of ?_ | refine leq_of ?_ | refine gtr_of ?_ | refine geq_of ?_ | refine eql_of ?_ | refine neq_of ?_ | refine not_of ?_ | refine cvi_of ?_ | refine lenS_of ?_ | refine condT_true ?_ | refine condT_false ?_) | (first | refine add_of (by omega) (by omega) ?_ | refine sub_of (by omega) (by omega) ?_ | refine mul_of (by omega) (by omega) ?_) | (first | refine ld_of (by repeat (first | assumption | exact Blk.cell (by assumption) (by rfl) | exact Cells.at (by assumption) _ (by rfl) | refine cell_drew ?_ | refine Ext.cell (by assumption) ?_ | refine Fr.cell' (by assumption) (by first | assumption | omega) ?_)) ?_ | refine lds_of (by repeat (first | assumption | exact Blk.cells (by assumption) | refine Cells.drew ?_ | refine Cells.ext ?_ (by assumption) | refine Cells.fr' ?_ (by assumption) (by first | assumption | omega))) (by rfl) ?_))
    exact hKn (m - 1) _ _ (by omega) ⟨i + 1, rfl, by omega, he.drew.trans e1⟩
  · intro _
    exact hR _ he
theorem c_exact {w : World} {xs : List Tn} {v : Value} {R : VW} (h : Sl kTurn Any w [] xs v) (hx : xs.length ≤ maxLen) (hR : ∀ w', Ext w w' → R (.bool true) w') : clT PR 3 [v] w R := by
  refine Flaws_FnExactTurnSteps.cl ?_
  unfold Flaws_FnExactTurnSteps
  have hm : (xs.length : Int) ≤ 9223372036854775807 := by have := hx; simp only [maxLen] at this; omega
  refine Flaws_szTurnS.cl ?_
  unfold Flaws_szTurnS
  refine h.len_of ?_
  repeat (first | (first | refine fad_of ?_ | refine nil_of ?_ | refine lss_of ?_ | refine leq_of ?_ | refine gtr_of ?_ | refine geq_of ?_ | refine eql_of ?_ | refine neq_of ?_ | refine not_of ?_ | refine cvi_of ?_ | refine lenS_of ?_ | refine condT_true ?_ | refine condT_false ?_) | (first | refine add_of (by omega) (by omega) ?_ | refine sub_of (by omega) (by omega) ?_ | refine mul_of (by omega) (by omega) ?_) | (first | refine ld_of (by repeat (first | assumption | exact Blk.cell (by assumption) (by rfl) | exact Cells.at (by assumption) _ (by rfl) | refine cell_drew ?_ | refine Ext.cell (by assumption) ?_ | refine Fr.cell' (by assumption) (by first | assumption | omega) ?_)) ?_ | refine lds_of (by repeat (first | assumption | exact Blk.cells (by assumption) | refine Cells.drew ?_ | refine Cells.ext ?_ (by assumption) | refine Cells.fr' ?_ (by assumption) (by first | assumption | omega))) (by rfl) ?_))
  refine condP_of (fun hc => ?_) (fun hc => ?_)
  · repeat (first | (first | refine fad_of ?_ | refine nil_of ?_ | refine lss_of ?_ | refine leq_of ?_ | refine gtr_of ?_ | refine geq_of ?_ | refine eql_of ?_ | refine neq_of ?_ | refine not_of ?_ | refine cvi_of ?_ | refine lenS_of ?_ | refine condT_true ?_ | refine condT_false ?_) | (first | refine add_of (by omega) (by omega) ?_ | refine sub_of (by omega) (by omega) ?_ | refine mul_of (by omega) (by omega) ?_) | (first | refine ld_of (by repeat (first | assumption | exact Blk.cell (by assumption) (by rfl) | exact Cells.at (by assumption) _ (by rfl) | refine cell_drew ?_ | refine Ext.cell (by assumption) ?_ | refine Fr.cell' (by assumption) (by first | assumption | omega) ?_)) ?_ | refine lds_of (by repeat (first | assumption | exact Blk.cells (by assumption) | refine Cells.drew ?_ | refine Cells.ext ?_ (by assumption) | refine Cells.fr' ?_ (by assumption) (by first | assumption | omega))) (by rfl) ?_))
    exact hR _ (Fr.refl _ _)
  · repeat (first | (first | refine fad_of ?_ | refine nil_of ?_ | refine lss_of ?_ | refine leq_of ?_ | refine gtr_of ?_ | refine geq_of ?_ | refine eql_of ?_ | refine neq_of ?_ | refine not_of ?_ | refine cvi_of ?_ | refine lenS_of ?_ | refine condT_true ?_ | refine condT_false ?_) | (first | refine add_of (by omega) (by omega) ?_ | refine sub_of (by omega) (by omega) ?_ | refine mul_of (by omega) (by omega) ?_) | (first | refine ld_of (by repeat (first | assumption | exact Blk.cell (by assumption) (by rfl) | exact Cells.at (by assumption) _ (by rfl) | refine cell_drew ?_ | refine Ext.cell (by assumption) ?_ | refine Fr.cell' (by assumption) (by first | assumption | omega) ?_)) ?_ | refine lds_of (by repeat (first | assumption | exact Blk.cells (by assumption) | refine Cells.drew ?_ | refine Cells.ext ?_ (by assumption) | refine Cells.fr' ?_ (by assumption) (by first | assumption | omega))) (by rfl) ?_))
    refine condP_of (fun hc' => absurd hc' hc) (fun _ => ?_)
    have hl : xs.length ≤ 1073741824 := by omega
    refine c_toTurnS h hl (fun v1 w1 e1 h1 => ?_)
    refine c_specSteps h1 hl ?_
    refine c_toTurnS (h.ext e1) hl (fun v2 w2 e2 h2 => ?_)
    refine c_implSteps h2 hl (fun w3 e3 => ?_)
    repeat (first | (first | refine fad_of ?_ | refine nil_of ?_ | refine lss_of ?_ | refine leq_of ?_ | refine gtr_of ?_ | refine geq_of ?_ | refine eql_of ?_ | refine neq_of ?_ | refine not_of ?_ | refine cvi_of ?_ | refine lenS_of ?_ | refine condT_true ?_ | refine condT_false ?_) | (first | refine add_of (by omega) (by omega) ?_ | refine sub_of (by omega) (by omega) ?_ | refine mul_of (by omega) (by omega) ?_) | (first | refine ld_of (by repeat (first | assumption | exact Blk.cell (by assumption) (by rfl) | exact Cells.at (by assumption) _ (by rfl) | refine cell_drew ?_ | refine Ext.cell (by assumption) ?_ | refine Fr.cell' (by assumption) (by first | assumption | omega) ?_)) ?_ | refine lds_of (by repeat (first | assumption | exact Blk.cells (by assumption) | refine Cells.drew ?_ | refine Cells.ext ?_ (by assumption) | refine Cells.fr' ?_ (by assumption) (by first | assumption | omega))) (by rfl) ?_))
    refine condP_of (fun hc => absurd rfl hc) (fun _ => ?_)
    refine c_toTurnS (h.ext ((e1.trans e2).trans e3)) hl (fun v4 w4 e4 h4 => ?_)
    refine c_eqTurnS (h2.ext (e3.trans e4)) h4 hl hl rfl (fun w5 e5 => ?_)
    repeat (first | (first | refine fad_of ?_ | refine nil_of ?_ | refine lss_of ?_ | refine leq_of ?_ | refine gtr_of ?_ | refine geq_of ?_ | refine eql_of ?_ | refine neq_of ?_ | refine not_of ?_ | refine cvi_of ?_ | refine lenS_of ?_ | refine condT_true ?_ | refine condT_false ?_) | (first | refine add_of (by omega) (by omega) ?_ | refine sub_of (by omega) (by omega) ?_ | refine mul_of (by omega) (by omega) ?_) | (first | refine ld_of (by repeat (first | assumption | exact Blk.cell (by assumption) (by rfl) | exact Cells.at (by assumption) _ (by rfl) | refine cell_drew ?_ | refine Ext.cell (by assumption) ?_ | refine Fr.cell' (by assumption) (by first | assumption | omega) ?_)) ?_ | refine lds_of (by repeat (first | assumption | exact Blk.cells (by assumption) | refine Cells.drew ?_ | refine Cells.ext ?_ (by assumption) | refine Cells.fr' ?_ (by assumption) (by first | assumption | omega))) (by rfl) ?_))
    exact hR _ ((((e1.trans e2).trans e3).trans e4).trans e5)
end Go.PT
