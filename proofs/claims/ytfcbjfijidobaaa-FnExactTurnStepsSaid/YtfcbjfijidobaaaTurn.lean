/- Turns: how many operations they are, in the program and in the reference; the drawn ones. -/
import Derived.Test.YtfcbjfijidobaaaRd
set_option linter.unusedVariables false
namespace Go.PT
def inB (a b c : Int) : Bool := decide (b ≤ a) && decide (a ≤ c)
theorem c_specIn {a b c : Int} {w : World} {R : VW} (h : R (.bool (inB a b c)) w) : clT PR 11 [.int .i64 a, .int .i64 b, .int .i64 c] w R := by
  refine Fspec_l6In.cl ?_
  unfold Fspec_l6In
  repeat (first | (first | refine fad_of ?_ | refine nil_of ?_ | refine lss_of ?_ | refine leq_of ?_ | refine gtr_of ?_ | refine geq_of ?_ | refine eql_of ?_ | refine neq_of ?_ | refine not_of ?_ | refine cvi_of ?_ | refine lenS_of ?_ | refine condT_true ?_ | refine condT_false ?_) | (first | refine add_of (by omega) (by omega) ?_ | refine sub_of (by omega) (by omega) ?_ | refine mul_of (by omega) (by omega) ?_) | (first | refine ld_of (by repeat (first | assumption | exact Blk.cell (by assumption) (by rfl) | exact Cells.at (by assumption) _ (by rfl) | refine cell_drew ?_ | refine Ext.cell (by assumption) ?_ | refine Fr.cell' (by assumption) (by first | assumption | omega) ?_)) ?_ | refine lds_of (by repeat (first | assumption | exact Blk.cells (by assumption) | refine Cells.drew ?_ | refine Cells.ext ?_ (by assumption) | refine Cells.fr' ?_ (by assumption) (by first | assumption | omega))) (by rfl) ?_))
  refine condP_of (fun hc => ?_) (fun hc => ?_)
  · repeat (first | (first | refine fad_of ?_ | refine nil_of ?_ | refine lss_of ?_ | refine leq_of ?_ | refine gtr_of ?_ | refine geq_of ?_ | refine eql_of ?_ | refine neq_of ?_ | refine not_of ?_ | refine cvi_of ?_ | refine lenS_of ?_ | refine condT_true ?_ | refine condT_false ?_) | (first | refine add_of (by omega) (by omega) ?_ | refine sub_of (by omega) (by omega) ?_ | refine mul_of (by omega) (by omega) ?_) | (first | refine ld_of (by repeat (first | assumption | exact Blk.cell (by assumption) (by rfl) | exact Cells.at (by assumption) _ (by rfl) | refine cell_drew ?_ | refine Ext.cell (by assumption) ?_ | refine Fr.cell' (by assumption) (by first | assumption | omega) ?_)) ?_ | refine lds_of (by repeat (first | assumption | exact Blk.cells (by assumption) | refine Cells.drew ?_ | refine Cells.ext ?_ (by assumption) | refine Cells.fr' ?_ (by assumption) (by first | assumption | omega))) (by rfl) ?_))
    have : inB a b c = decide (a ≤ c) := by unfold inB; rw [decide_eq_true (show b ≤ a from hc), Bool.true_and]
    rw [← this]; exact h
  · have : inB a b c = false := by unfold inB; rw [decide_eq_false (show ¬ b ≤ a from hc), Bool.false_and]
    rw [← this]; exact h
theorem c_implIn {a b c : Int} {w : World} {R : VW} (h : R (.bool (inB a b c)) w) : clT PR 13 [.int .i64 a, .int .i64 b, .int .i64 c] w R := by
  refine Fimpl_in.cl ?_
  unfold Fimpl_in
  repeat (first | (first | refine fad_of ?_ | refine nil_of ?_ | refine lss_of ?_ | refine leq_of ?_ | refine gtr_of ?_ | refine geq_of ?_ | refine eql_of ?_ | refine neq_of ?_ | refine not_of ?_ | refine cvi_of ?_ | refine lenS_of ?_ | refine condT_true ?_ | refine condT_false ?_) | (first | refine add_of (by omega) (by omega) ?_ | refine sub_of (by omega) (by omega) ?_ | refine mul_of (by omega) (by omega) ?_) | (first | refine ld_of (by repeat (first | assumption | exact Blk.cell (by assumption) (by rfl) | exact Cells.at (by assumption) _ (by rfl) | refine cell_drew ?_ | refine Ext.cell (by assumption) ?_ | refine Fr.cell' (by assumption) (by first | assumption | omega) ?_)) ?_ | refine lds_of (by repeat (first | assumption | exact Blk.cells (by assumption) | refine Cells.drew ?_ | refine Cells.ext ?_ (by assumption) | refine Cells.fr' ?_ (by assumption) (by first | assumption | omega))) (by rfl) ?_))
  refine condP_of (fun hc => ?_) (fun hc => ?_)
  · repeat (first | (first | refine fad_of ?_ | refine nil_of ?_ | refine lss_of ?_ | refine leq_of ?_ | refine gtr_of ?_ | refine geq_of ?_ | refine eql_of ?_ | refine neq_of ?_ | refine not_of ?_ | refine cvi_of ?_ | refine lenS_of ?_ | refine condT_true ?_ | refine condT_false ?_) | (first | refine add_of (by omega) (by omega) ?_ | refine sub_of (by omega) (by omega) ?_ | refine mul_of (by omega) (by omega) ?_) | (first | refine ld_of (by repeat (first | assumption | exact Blk.cell (by assumption) (by rfl) | exact Cells.at (by assumption) _ (by rfl) | refine cell_drew ?_ | refine Ext.cell (by assumption) ?_ | refine Fr.cell' (by assumption) (by first | assumption | omega) ?_)) ?_ | refine lds_of (by repeat (first | assumption | exact Blk.cells (by assumption) | refine Cells.drew ?_ | refine Cells.ext ?_ (by assumption) | refine Cells.fr' ?_ (by assumption) (by first | assumption | omega))) (by rfl) ?_))
    have : inB a b c = decide (a ≤ c) := by unfold inB; rw [decide_eq_true (show b ≤ a from hc), Bool.true_and]
    rw [← this]; exact h
  · have : inB a b c = false := by unfold inB; rw [decide_eq_false (show ¬ b ≤ a from hc), Bool.false_and]
    rw [← this]; exact h

/-! ### turns as data -/
abbrev Tn := Int × Int
def kTurn : Kd Tn := Kd.flat 2 (fun t => [.int .i64 t.1, .int .i64 t.2]) (fun _ => rfl) (fun _ v hv => by simp at hv; rcases hv with rfl | rfl <;> rfl)
def valT (t : Tn) : Int := if t.1 = 1 then (if inB t.2 0 400 then t.2 else 0) else 0
def sumT : List Tn → Int
  | [] => 0
  | t :: ts => valT t + sumT ts
theorem valT_range (t : Tn) : 0 ≤ valT t ∧ valT t ≤ 400 := by unfold valT inB; split <;> (try split) <;> simp_all
theorem sumT_range (xs : List Tn) : 0 ≤ sumT xs ∧ sumT xs ≤ 400 * xs.length := by
  induction xs with
  | nil => simp [sumT]
  | cons t ts ih => have := valT_range t; simp only [sumT, List.length_cons]; omega
theorem sumT_append (xs ys : List Tn) : sumT (xs ++ ys) = sumT xs + sumT ys := by
  induction xs with
  | nil => simp [sumT]
  | cons t ts ih => simp only [sumT, List.cons_append, ih]; omega
theorem sumT_step (xs : List Tn) (i : Nat) (t : Tn) (h : xs[i]? = some t) : sumT (xs.take (i + 1)) = sumT (xs.take i) + valT t := by
  rw [List.take_add_one, h, sumT_append]
  simp [sumT]
theorem sumT_take (xs : List Tn) (i : Nat) : 0 ≤ sumT (xs.take i) ∧ sumT (xs.take i) ≤ 400 * i := by
  have := sumT_range (xs.take i)
  have h : (xs.take i).length ≤ i := by rw [List.length_take]; omega
  omega
theorem turn_at {w : World} {p : List Nat} {xs : List Tn} {v : Value} {i : Int} {k : Value → Prop} (h : Sl kTurn Any w p xs v) (h0 : 0 ≤ i) (h1 : i < xs.length)
    (hk : ∀ t b o, xs[i.toNat]? = some t → Cells w b o [.int .i64 t.1, .int .i64 t.2] → k (.pointer (some ⟨b, o, none⟩))) : ixaT 2 v (.int .i64 i) k := by
  refine h.ix_of rfl h0 h1 (fun x b o es hx hK hc => ?_)
  have hes : es = [.int .i64 x.1, .int .i64 x.2] := hK
  subst hes
  exact hk x b o hx hc

theorem c_specSteps {w : World} {xs : List Tn} {v : Value} {R : VW} (h : Sl kTurn Any w [] xs v) (hx : xs.length ≤ 1073741824) (hR : R (.int .i64 (sumT xs)) w) : clT PR 6 [v] w R := by
  refine Fspec_TurnSteps.cl ?_
  unfold Fspec_TurnSteps
  refine loop_of (fun m s w' => w' = w ∧ ∃ i : Nat, i + m = xs.length ∧ s = [v, .int .i64 0, .int .i64 (sumT (xs.take i)), .int .i64 i]) ?_ (m := xs.length) ⟨rfl, 0, by omega, rfl⟩
  rintro m s w' Kn ⟨rfl, i, hi, rfl⟩ hKn
  intro _
  simp only [List.headD_cons, List.tail_cons]
  have hs := sumT_take xs i
  refine h.len_of ?_
  repeat (first | (first | refine fad_of ?_ | refine nil_of ?_ | refine lss_of ?_ | refine leq_of ?_ | refine gtr_of ?_ | refine geq_of ?_ | refine eql_of ?_ | refine neq_of ?_ | refine not_of ?_ | refine cvi_of ?_ | refine lenS_of ?_ | refine condT_true ?_ | refine condT_false ?_) | (first | refine add_of (by omega) (by omega) ?_ | refine sub_of (by omega) (by omega) ?_ | refine mul_of (by omega) (by omega) ?_) | (first | refine ld_of (by repeat (first | assumption | exact Blk.cell (by assumption) (by rfl) | exact Cells.at (by assumption) _ (by rfl) | refine cell_drew ?_ | refine Ext.cell (by assumption) ?_ | refine Fr.cell' (by assumption) (by first | assumption | omega) ?_)) ?_ | refine lds_of (by repeat (first | assumption | exact Blk.cells (by assumption) | refine Cells.drew ?_ | refine Cells.ext ?_ (by assumption) | refine Cells.fr' ?_ (by assumption) (by first | assumption | omega))) (by rfl) ?_))
  refine condP_of (fun hc => ?_) (fun hc => ?_)
  · have hil : i < xs.length := by omega
    have next : ∀ t s', xs[i]? = some t → s' = sumT (xs.take i) + valT t → Kn [v, .int .i64 0, .int .i64 s', .int .i64 ((i : Int) + 1)] w' := by
      intro t s' ht hs'
      refine hKn (m - 1) _ _ (by omega) ⟨rfl, i + 1, by omega, ?_⟩
      rw [hs', ← sumT_step xs i t ht]
      rfl
    refine turn_at h (by omega) (by omega) (fun t b o ht hcell => ?_)
    rw [Int.toNat_natCast] at ht
    repeat (first | (first | refine fad_of ?_ | refine nil_of ?_ | refine lss_of ?_ | refine leq_of ?_ | refine gtr_of ?_ | refine geq_of ?_ | refine eql_of ?_ | refine neq_of ?_ | refine not_of ?_ | refine cvi_of ?_ | refine lenS_of ?_ | refine condT_true ?_ | refine condT_false ?_) | (first | refine add_of (by omega) (by omega) ?_ | refine sub_of (by omega) (by omega) ?_ | refine mul_of (by omega) (by omega) ?_) | (first | refine ld_of (by repeat (first | assumption | exact Blk.cell (by assumption) (by rfl) | exact Cells.at (by assumption) _ (by rfl) | refine cell_drew ?_ | refine Ext.cell (by assumption) ?_ | refine Fr.cell' (by assumption) (by first | assumption | omega) ?_)) ?_ | refine lds_of (by repeat (first | assumption | exact Blk.cells (by assumption) | refine Cells.drew ?_ | refine Cells.ext ?_ (by assumption) | refine Cells.fr' ?_ (by assumption) (by first | assumption | omega))) (by rfl) ?_))
    refine condP_of (fun hk => ?_) (fun hk => ?_)
    · refine turn_at h (by omega) (by omega) (fun t' b' o' ht' hcell' => ?_)
      rw [Int.toNat_natCast, ht] at ht'
      obtain rfl := Option.some.inj ht'
      repeat (first | (first | refine fad_of ?_ | refine nil_of ?_ | refine lss_of ?_ | refine leq_of ?_ | refine gtr_of ?_ | refine geq_of ?_ | refine eql_of ?_ | refine neq_of ?_ | refine not_of ?_ | refine cvi_of ?_ | refine lenS_of ?_ | refine condT_true ?_ | refine condT_false ?_) | (first | refine add_of (by omega) (by omega) ?_ | refine sub_of (by omega) (by omega) ?_ | refine mul_of (by omega) (by omega) ?_) | (first | refine ld_of (by repeat (first | assumption | exact Blk.cell (by assumption) (by rfl) | exact Cells.at (by assumption) _ (by rfl) | refine cell_drew ?_ | refine Ext.cell (by assumption) ?_ | refine Fr.cell' (by assumption) (by first | assumption | omega) ?_)) ?_ | refine lds_of (by repeat (first | assumption | exact Blk.cells (by assumption) | refine Cells.drew ?_ | refine Cells.ext ?_ (by assumption) | refine Cells.fr' ?_ (by assumption) (by first | assumption | omega))) (by rfl) ?_))
      refine c_specIn (cond_of (fun hin => ?_) (fun hin => ?_))
      · refine turn_at h (by omega) (by omega) (fun t' b' o' ht' hcell' => ?_)
        rw [Int.toNat_natCast, ht] at ht'
        obtain rfl := Option.some.inj ht'
        have hv : valT t = t.2 := by unfold valT; rw [if_pos hk, if_pos hin]
        have := valT_range t
        repeat (first | (first | refine fad_of ?_ | refine nil_of ?_ | refine lss_of ?_ | refine leq_of ?_ | refine gtr_of ?_ | refine geq_of ?_ | refine eql_of ?_ | refine neq_of ?_ | refine not_of ?_ | refine cvi_of ?_ | refine lenS_of ?_ | refine condT_true ?_ | refine condT_false ?_) | (first | refine add_of (by omega) (by omega) ?_ | refine sub_of (by omega) (by omega) ?_ | refine mul_of (by omega) (by omega) ?_) | (first | refine ld_of (by repeat (first | assumption | exact Blk.cell (by assumption) (by rfl) | exact Cells.at (by assumption) _ (by rfl) | refine cell_drew ?_ | refine Ext.cell (by assumption) ?_ | refine Fr.cell' (by assumption) (by first | assumption | omega) ?_)) ?_ | refine lds_of (by repeat (first | assumption | exact Blk.cells (by assumption) | refine Cells.drew ?_ | refine Cells.ext ?_ (by assumption) | refine Cells.fr' ?_ (by assumption) (by first | assumption | omega))) (by rfl) ?_))
        exact next t _ ht (by rw [hv])
      · repeat (first | (first | refine fad_of ?_ | refine nil_of ?_ | refine lss_of ?_ | refine leq_of ?_ | refine gtr_of ?_ | refine geq_of ?_ | refine eql_of ?_ | refine neq_of ?_ | refine not_of ?_ | refine cvi_of ?_ | refine lenS_of ?_ | refine condT_true ?_ | refine condT_false ?_) | (first | refine add_of (by omega) (by omega) ?_ | refine sub_of (by omega) (by omega) ?_ | refine mul_of (by omega) (by omega) ?_) | (first | refine ld_of (by repeat (first | assumption | exact Blk.cell (by assumption) (by rfl) | exact Cells.at (by assumption) _ (by rfl) | refine cell_drew ?_ | refine Ext.cell (by assumption) ?_ | refine Fr.cell' (by assumption) (by first | assumption | omega) ?_)) ?_ | refine lds_of (by repeat (first | assumption | exact Blk.cells (by assumption) | refine Cells.drew ?_ | refine Cells.ext ?_ (by assumption) | refine Cells.fr' ?_ (by assumption) (by first | assumption | omega))) (by rfl) ?_))
        exact next t _ ht (by unfold valT; rw [if_pos hk, hin]; simp)
    · repeat (first | (first | refine fad_of ?_ | refine nil_of ?_ | refine lss_of ?_ | refine leq_of ?_ | refine gtr_of ?_ | refine geq_of ?_ | refine eql_of ?_ | refine neq_of ?_ | refine not_of ?_ | refine cvi_of ?_ | refine lenS_of ?_ | refine condT_true ?_ | refine condT_false ?_) | (first | refine add_of (by omega) (by omega) ?_ | refine sub_of (by omega) (by omega) ?_ | refine mul_of (by omega) (by omega) ?_) | (first | refine ld_of (by repeat (first | assumption | exact Blk.cell (by assumption) (by rfl) | exact Cells.at (by assumption) _ (by rfl) | refine cell_drew ?_ | refine Ext.cell (by assumption) ?_ | refine Fr.cell' (by assumption) (by first | assumption | omega) ?_)) ?_ | refine lds_of (by repeat (first | assumption | exact Blk.cells (by assumption) | refine Cells.drew ?_ | refine Cells.ext ?_ (by assumption) | refine Cells.fr' ?_ (by assumption) (by first | assumption | omega))) (by rfl) ?_))
      exact next t _ ht (by unfold valT; rw [if_neg hk]; omega)
  · have he : xs.take i = xs := List.take_of_length_le (by omega)
    rw [he]
    intro _
    exact hR

theorem c_implSteps {w : World} {xs : List Tn} {v : Value} {R : VW} (h : Sl kTurn Any w [] xs v) (hx : xs.length ≤ 1073741824) (hR : ∀ w', Ext w w' → R (.int .i64 (sumT xs)) w') : clT PR 8 [v] w R := by
  refine Fimpl_TurnSteps.cl ?_
  unfold Fimpl_TurnSteps
  refine h.len_of ?_
  refine loop_of (fun m s w' => Ext w w' ∧ ∃ i : Nat, i + m = xs.length ∧ s = [.int .i64 0, .int .i64 (sumT (xs.take i)), v, .int .i64 xs.length, .int .i64 i]) ?_ (m := xs.length) ⟨Fr.refl _ _, 0, by omega, rfl⟩
  rintro m s w' Kn ⟨he, i, hi, rfl⟩ hKn
  intro _
  simp only [List.headD_cons, List.tail_cons]
  have hs := sumT_take xs i
  repeat (first | (first | refine fad_of ?_ | refine nil_of ?_ | refine lss_of ?_ | refine leq_of ?_ | refine gtr_of ?_ | refine geq_of ?_ | refine eql_of ?_ | refine neq_of ?_ | refine not_of ?_ | refine cvi_of ?_ | refine lenS_of ?_ | refine condT_true ?_ | refine condT_false ?_) | (first | refine add_of (by omega) (by omega) ?_ | refine sub_of (by omega) (by omega) ?_ | refine mul_of (by omega) (by omega) ?_) | (first | refine ld_of (by repeat (first | assumption | exact Blk.cell (by assumption) (by rfl) | exact Cells.at (by assumption) _ (by rfl) | refine cell_drew ?_ | refine Ext.cell (by assumption) ?_ | refine Fr.cell' (by assumption) (by first | assumption | omega) ?_)) ?_ | refine lds_of (by repeat (first | assumption | exact Blk.cells (by assumption) | refine Cells.drew ?_ | refine Cells.ext ?_ (by assumption) | refine Cells.fr' ?_ (by assumption) (by first | assumption | omega))) (by rfl) ?_))
  refine condP_of (fun hc => ?_) (fun hc => ?_)
  · have hil : i < xs.length := by omega
    have next : ∀ t s' w1, Ext w w1 → xs[i]? = some t → s' = sumT (xs.take i) + valT t → Kn [.int .i64 0, .int .i64 s', v, .int .i64 xs.length, .int .i64 ((i : Int) + 1)] w1 := by
      intro t s' w1 he1 ht hs'
      refine hKn (m - 1) _ _ (by omega) ⟨he1, i + 1, by omega, ?_⟩
      rw [hs', ← sumT_step xs i t ht]
      rfl
    refine turn_at (h.ext he) (by omega) (by omega) (fun t b o ht hcell => ?_)
    rw [Int.toNat_natCast] at ht
    repeat (first | (first | refine fad_of ?_ | refine nil_of ?_ | refine lss_of ?_ | refine leq_of ?_ | refine gtr_of ?_ | refine geq_of ?_ | refine eql_of ?_ | refine neq_of ?_ | refine not_of ?_ | refine cvi_of ?_ | refine lenS_of ?_ | refine condT_true ?_ | refine condT_false ?_) | (first | refine add_of (by omega) (by omega) ?_ | refine sub_of (by omega) (by omega) ?_ | refine mul_of (by omega) (by omega) ?_) | (first | refine ld_of (by repeat (first | assumption | exact Blk.cell (by assumption) (by rfl) | exact Cells.at (by assumption) _ (by rfl) | refine cell_drew ?_ | refine Ext.cell (by assumption) ?_ | refine Fr.cell' (by assumption) (by first | assumption | omega) ?_)) ?_ | refine lds_of (by repeat (first | assumption | exact Blk.cells (by assumption) | refine Cells.drew ?_ | refine Cells.ext ?_ (by assumption) | refine Cells.fr' ?_ (by assumption) (by first | assumption | omega))) (by rfl) ?_))
    refine al_of' (fun b1 w1 e1 hb1 k1 => ?_)
    refine sts_of' (vs := [.int .i64 t.1, .int .i64 t.2]) rfl k1 rfl rfl (by simp [Value.oneCell']) (fun w2 e2 k2 => ?_)
    have he2 : Ext w w2 := he.trans' (S' := fun x => x = b1) (e1.fr.trans e2) (fun _ _ h => h) (fun x hx e => by have := he.size; omega)
    repeat (first | (first | refine fad_of ?_ | refine nil_of ?_ | refine lss_of ?_ | refine leq_of ?_ | refine gtr_of ?_ | refine geq_of ?_ | refine eql_of ?_ | refine neq_of ?_ | refine not_of ?_ | refine cvi_of ?_ | refine lenS_of ?_ | refine condT_true ?_ | refine condT_false ?_) | (first | refine add_of (by omega) (by omega) ?_ | refine sub_of (by omega) (by omega) ?_ | refine mul_of (by omega) (by omega) ?_) | (first | refine ld_of (by repeat (first | assumption | exact Blk.cell (by assumption) (by rfl) | exact Cells.at (by assumption) _ (by rfl) | refine cell_drew ?_ | refine Ext.cell (by assumption) ?_ | refine Fr.cell' (by assumption) (by first | assumption | omega) ?_)) ?_ | refine lds_of (by repeat (first | assumption | exact Blk.cells (by assumption) | refine Cells.drew ?_ | refine Cells.ext ?_ (by assumption) | refine Cells.fr' ?_ (by assumption) (by first | assumption | omega))) (by rfl) ?_))
    refine condP_of (fun hk => ?_) (fun hk => ?_)
    · repeat (first | (first | refine fad_of ?_ | refine nil_of ?_ | refine lss_of ?_ | refine leq_of ?_ | refine gtr_of ?_ | refine geq_of ?_ | refine eql_of ?_ | refine neq_of ?_ | refine not_of ?_ | refine cvi_of ?_ | refine lenS_of ?_ | refine condT_true ?_ | refine condT_false ?_) | (first | refine add_of (by omega) (by omega) ?_ | refine sub_of (by omega) (by omega) ?_ | refine mul_of (by omega) (by omega) ?_) | (first | refine ld_of (by repeat (first | assumption | exact Blk.cell (by assumption) (by rfl) | exact Cells.at (by assumption) _ (by rfl) | refine cell_drew ?_ | refine Ext.cell (by assumption) ?_ | refine Fr.cell' (by assumption) (by first | assumption | omega) ?_)) ?_ | refine lds_of (by repeat (first | assumption | exact Blk.cells (by assumption) | refine Cells.drew ?_ | refine Cells.ext ?_ (by assumption) | refine Cells.fr' ?_ (by assumption) (by first | assumption | omega))) (by rfl) ?_))
      refine c_implIn (cond_of (fun hin => ?_) (fun hin => ?_))
      · have hv : valT t = t.2 := by unfold valT; rw [if_pos hk, if_pos hin]
        have := valT_range t
        repeat (first | (first | refine fad_of ?_ | refine nil_of ?_ | refine lss_of ?_ | refine leq_of ?_ | refine gtr_of ?_ | refine geq_of ?_ | refine eql_of ?_ | refine neq_of ?_ | refine not_of ?_ | refine cvi_of ?_ | refine lenS_of ?_ | refine condT_true ?_ | refine condT_false ?_) | (first | refine add_of (by omega) (by omega) ?_ | refine sub_of (by omega) (by omega) ?_ | refine mul_of (by omega) (by omega) ?_) | (first | refine ld_of (by repeat (first | assumption | exact Blk.cell (by assumption) (by rfl) | exact Cells.at (by assumption) _ (by rfl) | refine cell_drew ?_ | refine Ext.cell (by assumption) ?_ | refine Fr.cell' (by assumption) (by first | assumption | omega) ?_)) ?_ | refine lds_of (by repeat (first | assumption | exact Blk.cells (by assumption) | refine Cells.drew ?_ | refine Cells.ext ?_ (by assumption) | refine Cells.fr' ?_ (by assumption) (by first | assumption | omega))) (by rfl) ?_))
        exact next t _ _ he2 ht (by rw [hv])
      · repeat (first | (first | refine fad_of ?_ | refine nil_of ?_ | refine lss_of ?_ | refine leq_of ?_ | refine gtr_of ?_ | refine geq_of ?_ | refine eql_of ?_ | refine neq_of ?_ | refine not_of ?_ | refine cvi_of ?_ | refine lenS_of ?_ | refine condT_true ?_ | refine condT_false ?_) | (first | refine add_of (by omega) (by omega) ?_ | refine sub_of (by omega) (by omega) ?_ | refine mul_of (by omega) (by omega) ?_) | (first | refine ld_of (by repeat (first | assumption | exact Blk.cell (by assumption) (by rfl) | exact Cells.at (by assumption) _ (by rfl) | refine cell_drew ?_ | refine Ext.cell (by assumption) ?_ | refine Fr.cell' (by assumption) (by first | assumption | omega) ?_)) ?_ | refine lds_of (by repeat (first | assumption | exact Blk.cells (by assumption) | refine Cells.drew ?_ | refine Cells.ext ?_ (by assumption) | refine Cells.fr' ?_ (by assumption) (by first | assumption | omega))) (by rfl) ?_))
        exact next t _ _ he2 ht (by unfold valT; rw [if_pos hk, hin]; simp)
    · repeat (first | (first | refine fad_of ?_ | refine nil_of ?_ | refine lss_of ?_ | refine leq_of ?_ | refine gtr_of ?_ | refine geq_of ?_ | refine eql_of ?_ | refine neq_of ?_ | refine not_of ?_ | refine cvi_of ?_ | refine lenS_of ?_ | refine condT_true ?_ | refine condT_false ?_) | (first | refine add_of (by omega) (by omega) ?_ | refine sub_of (by omega) (by omega) ?_ | refine mul_of (by omega) (by omega) ?_) | (first | refine ld_of (by repeat (first | assumption | exact Blk.cell (by assumption) (by rfl) | exact Cells.at (by assumption) _ (by rfl) | refine cell_drew ?_ | refine Ext.cell (by assumption) ?_ | refine Fr.cell' (by assumption) (by first | assumption | omega) ?_)) ?_ | refine lds_of (by repeat (first | assumption | exact Blk.cells (by assumption) | refine Cells.drew ?_ | refine Cells.ext ?_ (by assumption) | refine Cells.fr' ?_ (by assumption) (by first | assumption | omega))) (by rfl) ?_))
      exact next t _ _ he2 ht (by unfold valT; rw [if_neg hk]; omega)
  · have hei : xs.take i = xs := List.take_of_length_le (by omega)
    rw [hei]
    intro _
    exact hR _ he

/-! ### bytes that come in -/
def Bt (w : World) (code : List Int) (v : Value) : Prop := (∃ A c, v = .slice A code.length c ∧ code.length ≤ c) ∧ (code = [] ∨ Sl kByte (fun w _ b _ => b < w.heap.size) w [] code v)
theorem c_l6Open {w : World} {code : List Int} {v : Value} {R : VW} (h : Bt w code v) (hb : ∀ x ∈ code, 0 ≤ x ∧ x ≤ 255)
    (hR : ∀ r w' code', Ext w w' → w.heap.size ≤ r → Rd w' r code' 0 → Bytes code' → R (.pointer (some ⟨r, 0, none⟩)) w') : clT PR 15 [v] w R := by
  refine Fspec_l6Open.cl ?_
  unfold Fspec_l6Open
  obtain ⟨⟨A, c, rfl, hc⟩, hs⟩ := h
  have fin : ∀ (code' : List Int) (v' : Value), (∃ A c, v' = .slice A code'.length c ∧ code'.length ≤ c) → (code' = [] ∨ Sl kByte (fun w _ b _ => b < w.heap.size) w [] code' v') → Bytes code' →
      bldT #[(.slice none 0 0), (.int .i64 0)] [(0, 1, v')] fun t9 => boxT 44 t9 w fun t10 w2 => R t10 w2 := by
    intro code' v' hv hs' hb'
    obtain ⟨A', c', rfl, hc'⟩ := hv
    refine bld_of (cs := #[.slice A' code'.length c', .int .i64 0]) rfl ?_
    refine box_of' (fun b w' e hbs k => ?_)
    refine hR b w' code' e hbs ⟨_, k.cell (o := 0) rfl, k.cell (o := 1) rfl, k.warm, ⟨A', c', rfl⟩, hs'.imp id (fun h => h.frame (fun r x m hx => ⟨fun o v hc => Ext.cell e hc, fun e => by have h1 : x < w.heap.size := hx; have h2 : b ≤ x := e; omega⟩))⟩ hb'
  repeat (first | (first | refine fad_of ?_ | refine nil_of ?_ | refine lss_of ?_ | refine leq_of ?_ | refine gtr_of ?_ | refine geq_of ?_ | refine eql_of ?_ | refine neq_of ?_ | refine not_of ?_ | refine cvi_of ?_ | refine lenS_of ?_ | refine condT_true ?_ | refine condT_false ?_) | (first | refine add_of (by omega) (by omega) ?_ | refine sub_of (by omega) (by omega) ?_ | refine mul_of (by omega) (by omega) ?_) | (first | refine ld_of (by repeat (first | assumption | exact Blk.cell (by assumption) (by rfl) | exact Cells.at (by assumption) _ (by rfl) | refine cell_drew ?_ | refine Ext.cell (by assumption) ?_ | refine Fr.cell' (by assumption) (by first | assumption | omega) ?_)) ?_ | refine lds_of (by repeat (first | assumption | exact Blk.cells (by assumption) | refine Cells.drew ?_ | refine Cells.ext ?_ (by assumption) | refine Cells.fr' ?_ (by assumption) (by first | assumption | omega))) (by rfl) ?_))
  refine condP_of (fun hl => ?_) (fun hl => ?_)
  · have hs2 := hs.resolve_left (fun e => by rw [e] at hl; simp at hl)
    refine slr_of (kd := kByte) (q := []) (e := 5) (by kernel_rfl) (fun w p q b m m' h => h) hs2 (by omega) (by omega) (fun v' hv' => ?_)
    obtain ⟨A', c', h1, h2, _⟩ := id hv'
    refine fin _ v' ⟨A', c', h1, h2⟩ (.inr hv') ⟨fun x hx => hb x (List.mem_of_mem_take hx), by rw [List.length_take]; omega⟩
  · exact fin code _ ⟨A, c, rfl, hc⟩ hs ⟨hb, by omega⟩

/-! ### drawn turns -/
def TurnIn (t : Tn) : Prop := -1 ≤ t.2 ∧ t.2 ≤ 401
theorem c_turns {w : World} {r : Nat} {code : List Int} {pos : Int} {most : Nat} {R : VW} (hrd : Rd w r code pos) (hb : Bytes code) (hp : 0 ≤ pos) (hp' : pos ≤ 50000) (hm : 1 ≤ most) (hm' : most ≤ 20)
    (hR : ∀ v w' L ts pos', Fr (fun x => x = r) w w' → Rd w' r code pos' → pos ≤ pos' → pos' ≤ pos + 100 → Sl kTurn (Own L) w' [] ts v → Born w L → Lim L w' → (∀ t ∈ ts, TurnIn t) → ts.length ≤ most → R v w') :
    clT PR 16 [.pointer (some ⟨r, 0, none⟩), .int .i64 most] w R := by
  refine Fspec_l71Turns.cl ?_
  unfold Fspec_l71Turns
  have hrw := hrd.lt
  refine bsl_of' rfl rfl rfl (fun b0 w1 e1 hb0 k1 => ?_)
  refine c_pick (hrd.fr e1) hb hp (by omega) (by omega) (fun v1 w2 hv0 hv1 e2 hrd2 => ?_)
  repeat (first | (first | refine fad_of ?_ | refine nil_of ?_ | refine lss_of ?_ | refine leq_of ?_ | refine gtr_of ?_ | refine geq_of ?_ | refine eql_of ?_ | refine neq_of ?_ | refine not_of ?_ | refine cvi_of ?_ | refine lenS_of ?_ | refine condT_true ?_ | refine condT_false ?_) | (first | refine add_of (by omega) (by omega) ?_ | refine sub_of (by omega) (by omega) ?_ | refine mul_of (by omega) (by omega) ?_) | (first | refine ld_of (by repeat (first | assumption | exact Blk.cell (by assumption) (by rfl) | exact Cells.at (by assumption) _ (by rfl) | refine cell_drew ?_ | refine Ext.cell (by assumption) ?_ | refine Fr.cell' (by assumption) (by first | assumption | omega) ?_)) ?_ | refine lds_of (by repeat (first | assumption | exact Blk.cells (by assumption) | refine Cells.drew ?_ | refine Cells.ext ?_ (by assumption) | refine Cells.fr' ?_ (by assumption) (by first | assumption | omega))) (by rfl) ?_))
  have k2 : Blk w2 b0 [] := k1.fr e2 (fun e => by have := e1.size; omega)
  obtain ⟨n, rfl⟩ := Int.eq_ofNat_of_zero_le hv0
  have hn : (1 : Int) + (n : Int) = ((n + 1 : Nat) : Int) := by omega
  rw [hn]
  refine loop_of (fun m s wx => ∃ v xs L q, s = [.pointer (some ⟨r, 0, none⟩), .slice none 0 0, v, .int .i64 m] ∧ Fr (fun x => x = r) w wx ∧ Rd wx r code q ∧ pos ≤ q ∧ q + 4 * m ≤ pos + 100 ∧ Sl kTurn (Own L) wx [] xs v ∧ Born w L ∧ Lim L wx ∧
    (∀ t ∈ xs, TurnIn t) ∧ xs.length + m ≤ most) ?_ (m := n + 1)
    ⟨_, [], lab1 b0 [], pos + 1, rfl, e1.fr.trans e2, hrd2, by omega, by omega, sl_empty k2, lab1_born hb0, lab1_lim k2.lt, by simp, by simp; omega⟩
  rintro m s wx Kn ⟨v, xs, L, q, rfl, he, hq, hq0, hq1, hS, hbn, hlm, hxs, hlen⟩ hKn
  intro _
  simp only [List.headD_cons, List.tail_cons]
  repeat (first | (first | refine fad_of ?_ | refine nil_of ?_ | refine lss_of ?_ | refine leq_of ?_ | refine gtr_of ?_ | refine geq_of ?_ | refine eql_of ?_ | refine neq_of ?_ | refine not_of ?_ | refine cvi_of ?_ | refine lenS_of ?_ | refine condT_true ?_ | refine condT_false ?_) | (first | refine add_of (by omega) (by omega) ?_ | refine sub_of (by omega) (by omega) ?_ | refine mul_of (by omega) (by omega) ?_) | (first | refine ld_of (by repeat (first | assumption | exact Blk.cell (by assumption) (by rfl) | exact Cells.at (by assumption) _ (by rfl) | refine cell_drew ?_ | refine Ext.cell (by assumption) ?_ | refine Fr.cell' (by assumption) (by first | assumption | omega) ?_)) ?_ | refine lds_of (by repeat (first | assumption | exact Blk.cells (by assumption) | refine Cells.drew ?_ | refine Cells.ext ?_ (by assumption) | refine Cells.fr' ?_ (by assumption) (by first | assumption | omega))) (by rfl) ?_))
  refine condP_of (fun hc => ?_) (fun hc => ?_)
  · -- a round
    have hnr : ∀ b p, L b = some p → ¬ b = r := fun b p hbp e => by have := hbn b p hbp; omega
    have fin : ∀ (b : Nat) (t : Tn) (wy : World) (q' : Int), Blk wy b [.int .i64 t.1, .int .i64 t.2] → TurnIn t → Fr (fun x => x = r) wx wy → Rd wy r code q' → q ≤ q' → q' ≤ q + 4 → Sl kTurn (Own L) wy [] xs v → Lim L wy →
        Fspec_l71Turns.j1 (.pointer (some ⟨r, 0, none⟩)) (.slice none 0 0) v (.int .i64 m) (.pointer (some ⟨b, 0, none⟩)) wy Kn (fun s w => Fspec_l71Turns.k2 (s.headD undef) (s.tail.headD undef) (s.tail.tail.headD undef) (s.tail.tail.tail.headD undef) w R) (fun s w => Fspec_l71Turns.r3 (s.headD undef) (s.tail.headD undef) (s.tail.tail.headD undef) (s.tail.tail.tail.headD undef) w R) := by
      intro b t wy q' hk ht hfr hrd' h1 h2 hS' hlm'
      intro _
      repeat (first | (first | refine fad_of ?_ | refine nil_of ?_ | refine lss_of ?_ | refine leq_of ?_ | refine gtr_of ?_ | refine geq_of ?_ | refine eql_of ?_ | refine neq_of ?_ | refine not_of ?_ | refine cvi_of ?_ | refine lenS_of ?_ | refine condT_true ?_ | refine condT_false ?_) | (first | refine add_of (by omega) (by omega) ?_ | refine sub_of (by omega) (by omega) ?_ | refine mul_of (by omega) (by omega) ?_) | (first | refine ld_of (by repeat (first | assumption | exact Blk.cell (by assumption) (by rfl) | exact Cells.at (by assumption) _ (by rfl) | refine cell_drew ?_ | refine Ext.cell (by assumption) ?_ | refine Fr.cell' (by assumption) (by first | assumption | omega) ?_)) ?_ | refine lds_of (by repeat (first | assumption | exact Blk.cells (by assumption) | refine Cells.drew ?_ | refine Cells.ext ?_ (by assumption) | refine Cells.fr' ?_ (by assumption) (by first | assumption | omega))) (by rfl) ?_))
      refine bsl_of' rfl rfl rfl (fun b2 wz ez hb2 kz => ?_)
      refine app_lit [t] (e := 33) (by kernel_rfl) (hS'.keepX ez) kz rfl (by simp; omega) (hlm'.fr ez) (fun v' w' L' ef hlx hlm2 hS2 => ?_)
      repeat (first | (first | refine fad_of ?_ | refine nil_of ?_ | refine lss_of ?_ | refine leq_of ?_ | refine gtr_of ?_ | refine geq_of ?_ | refine eql_of ?_ | refine neq_of ?_ | refine not_of ?_ | refine cvi_of ?_ | refine lenS_of ?_ | refine condT_true ?_ | refine condT_false ?_) | (first | refine add_of (by omega) (by omega) ?_ | refine sub_of (by omega) (by omega) ?_ | refine mul_of (by omega) (by omega) ?_) | (first | refine ld_of (by repeat (first | assumption | exact Blk.cell (by assumption) (by rfl) | exact Cells.at (by assumption) _ (by rfl) | refine cell_drew ?_ | refine Ext.cell (by assumption) ?_ | refine Fr.cell' (by assumption) (by first | assumption | omega) ?_)) ?_ | refine lds_of (by repeat (first | assumption | exact Blk.cells (by assumption) | refine Cells.drew ?_ | refine Cells.ext ?_ (by assumption) | refine Cells.fr' ?_ (by assumption) (by first | assumption | omega))) (by rfl) ?_))
      have hs0 := he.size
      have hs1 := hfr.size
      have hs2 := ez.size
      refine hKn (m - 1) _ _ (by omega) ⟨v', xs ++ [t], L', q', by rw [show ((m - 1 : Nat) : Int) = (m : Int) - 1 by omega], ?_, ?_, by omega, by omega, hS2, hbn.lx hlx (by omega), hlm2, ?_, by simp; omega⟩
      · exact (he.trans (hfr.ext ez)).trans' ef (fun _ _ h => h) (fun x hx hLx => by have := hbn x _ hLx; omega)
      · exact (hrd'.fr ez).keep ef (fun x hLx => by have := hbn x _ hLx; omega)
      · intro u hu
        rcases List.mem_append.mp hu with hu | hu
        · exact hxs u hu
        · rw [List.mem_singleton.mp hu]; exact ht
    refine c_pick hq hb (by omega) (by omega) (by omega) (fun v1 w3 hv0 hv1 e3 hrd3 => ?_)
    refine bld_of (cs := #[.int .i64 1, .int .i64 v1]) rfl ?_
    refine al_of' (fun b4 w4 e4 hb4 k4 => ?_)
    refine sts_of' (vs := [.int .i64 1, .int .i64 v1]) rfl k4 rfl rfl (by simp [Value.oneCell']) (fun w5 e5 k5 => ?_)
    have hqr := hq.lt
    have z3 := e3.size
    have z4 := e4.size
    have f5 : Fr (fun x => x = r) wx w5 := (e3.ext e4).trans' e5 (fun _ _ h => h) (fun x hx e => by omega)
    have hr5 : Rd w5 r code (q + 1) := (hrd3.fr e4).keep e5 (fun x e => by omega)
    have g1 : ∀ b p, L b = some p → ¬ b = b4 := fun b p hbp e => by have := hlm b p hbp; omega
    have s5 : Sl kTurn (Own L) w5 [] xs v := ((hS.keep e3 hnr).keepX e4).keep e5 g1
    refine c_pick hr5 hb (by omega) (by omega) (by omega) (fun v2 w6 hv20 hv21 e6 hrd6 => ?_)
    have k6 := k5.fr e6 (by omega)
    have f6 := f5.trans e6
    have s6 := s5.keep e6 hnr
    repeat (first | (first | refine fad_of ?_ | refine nil_of ?_ | refine lss_of ?_ | refine leq_of ?_ | refine gtr_of ?_ | refine geq_of ?_ | refine eql_of ?_ | refine neq_of ?_ | refine not_of ?_ | refine cvi_of ?_ | refine lenS_of ?_ | refine condT_true ?_ | refine condT_false ?_) | (first | refine add_of (by omega) (by omega) ?_ | refine sub_of (by omega) (by omega) ?_ | refine mul_of (by omega) (by omega) ?_) | (first | refine ld_of (by repeat (first | assumption | exact Blk.cell (by assumption) (by rfl) | exact Cells.at (by assumption) _ (by rfl) | refine cell_drew ?_ | refine Ext.cell (by assumption) ?_ | refine Fr.cell' (by assumption) (by first | assumption | omega) ?_)) ?_ | refine lds_of (by repeat (first | assumption | exact Blk.cells (by assumption) | refine Cells.drew ?_ | refine Cells.ext ?_ (by assumption) | refine Cells.fr' ?_ (by assumption) (by first | assumption | omega))) (by rfl) ?_))
    refine condP_of (fun hk => ?_) (fun hk => ?_)
    · refine c_pick hrd6 hb (by omega) (by omega) (by omega) (fun v3 w7 hv30 hv31 e7 hrd7 => ?_)
      refine c_pick hrd7 hb (by omega) (by omega) (by omega) (fun v4 w8 hv40 hv41 e8 hrd8 => ?_)
      have hd := tdiv_range v4 11 hv40 (by omega)
      have hd2 : v4.tdiv 11 ≤ 1 := by rw [Int.tdiv_eq_ediv_of_nonneg hv40]; omega
      refine quo_of (by omega) (by omega) (by omega) ?_
      repeat (first | (first | refine fad_of ?_ | refine nil_of ?_ | refine lss_of ?_ | refine leq_of ?_ | refine gtr_of ?_ | refine geq_of ?_ | refine eql_of ?_ | refine neq_of ?_ | refine not_of ?_ | refine cvi_of ?_ | refine lenS_of ?_ | refine condT_true ?_ | refine condT_false ?_) | (first | refine add_of (by omega) (by omega) ?_ | refine sub_of (by omega) (by omega) ?_ | refine mul_of (by omega) (by omega) ?_) | (first | refine ld_of (by repeat (first | assumption | exact Blk.cell (by assumption) (by rfl) | exact Cells.at (by assumption) _ (by rfl) | refine cell_drew ?_ | refine Ext.cell (by assumption) ?_ | refine Fr.cell' (by assumption) (by first | assumption | omega) ?_)) ?_ | refine lds_of (by repeat (first | assumption | exact Blk.cells (by assumption) | refine Cells.drew ?_ | refine Cells.ext ?_ (by assumption) | refine Cells.fr' ?_ (by assumption) (by first | assumption | omega))) (by rfl) ?_))
      refine bld_of (cs := #[.int .i64 2, .int .i64 (v3 - v4.tdiv 11)]) rfl ?_
      refine sts_of' (vs := [.int .i64 2, .int .i64 (v3 - v4.tdiv 11)]) rfl ((k6.fr e7 (by omega)).fr e8 (by omega)) rfl rfl (by simp [Value.oneCell']) (fun w9 e9 k9 => ?_)
      exact fin b4 (2, v3 - v4.tdiv 11) w9 (q + 1 + 1 + 1 + 1) k9 (by unfold TurnIn; simp only; omega) (((f6.trans e7).trans e8).trans' e9 (fun _ _ h => h) (fun x hx e => by omega)) (hrd8.keep e9 (fun x e => by omega)) (by omega) (by omega)
        (((s6.keep e7 hnr).keep e8 hnr).keep e9 g1) (hlm.fr (((f6.trans e7).trans e8).trans' e9 (T := fun _ => True) (fun _ _ _ => trivial) (fun _ _ _ => trivial)))
    · repeat (first | (first | refine fad_of ?_ | refine nil_of ?_ | refine lss_of ?_ | refine leq_of ?_ | refine gtr_of ?_ | refine geq_of ?_ | refine eql_of ?_ | refine neq_of ?_ | refine not_of ?_ | refine cvi_of ?_ | refine lenS_of ?_ | refine condT_true ?_ | refine condT_false ?_) | (first | refine add_of (by omega) (by omega) ?_ | refine sub_of (by omega) (by omega) ?_ | refine mul_of (by omega) (by omega) ?_) | (first | refine ld_of (by repeat (first | assumption | exact Blk.cell (by assumption) (by rfl) | exact Cells.at (by assumption) _ (by rfl) | refine cell_drew ?_ | refine Ext.cell (by assumption) ?_ | refine Fr.cell' (by assumption) (by first | assumption | omega) ?_)) ?_ | refine lds_of (by repeat (first | assumption | exact Blk.cells (by assumption) | refine Cells.drew ?_ | refine Cells.ext ?_ (by assumption) | refine Cells.fr' ?_ (by assumption) (by first | assumption | omega))) (by rfl) ?_))
      refine condP_of (fun hk2 => ?_) (fun hk2 => ?_)
      · refine c_pick hrd6 hb (by omega) (by omega) (by omega) (fun v3 w7 hv30 hv31 e7 hrd7 => ?_)
        repeat (first | (first | refine fad_of ?_ | refine nil_of ?_ | refine lss_of ?_ | refine leq_of ?_ | refine gtr_of ?_ | refine geq_of ?_ | refine eql_of ?_ | refine neq_of ?_ | refine not_of ?_ | refine cvi_of ?_ | refine lenS_of ?_ | refine condT_true ?_ | refine condT_false ?_) | (first | refine add_of (by omega) (by omega) ?_ | refine sub_of (by omega) (by omega) ?_ | refine mul_of (by omega) (by omega) ?_) | (first | refine ld_of (by repeat (first | assumption | exact Blk.cell (by assumption) (by rfl) | exact Cells.at (by assumption) _ (by rfl) | refine cell_drew ?_ | refine Ext.cell (by assumption) ?_ | refine Fr.cell' (by assumption) (by first | assumption | omega) ?_)) ?_ | refine lds_of (by repeat (first | assumption | exact Blk.cells (by assumption) | refine Cells.drew ?_ | refine Cells.ext ?_ (by assumption) | refine Cells.fr' ?_ (by assumption) (by first | assumption | omega))) (by rfl) ?_))
        refine c_pick hrd7 hb (by omega) (by omega) (by omega) (fun v4 w8 hv40 hv41 e8 hrd8 => ?_)
        have hd := tdiv_range v4 11 hv40 (by omega)
        have hd2 : v4.tdiv 11 ≤ 1 := by rw [Int.tdiv_eq_ediv_of_nonneg hv40]; omega
        refine quo_of (by omega) (by omega) (by omega) ?_
        repeat (first | (first | refine fad_of ?_ | refine nil_of ?_ | refine lss_of ?_ | refine leq_of ?_ | refine gtr_of ?_ | refine geq_of ?_ | refine eql_of ?_ | refine neq_of ?_ | refine not_of ?_ | refine cvi_of ?_ | refine lenS_of ?_ | refine condT_true ?_ | refine condT_false ?_) | (first | refine add_of (by omega) (by omega) ?_ | refine sub_of (by omega) (by omega) ?_ | refine mul_of (by omega) (by omega) ?_) | (first | refine ld_of (by repeat (first | assumption | exact Blk.cell (by assumption) (by rfl) | exact Cells.at (by assumption) _ (by rfl) | refine cell_drew ?_ | refine Ext.cell (by assumption) ?_ | refine Fr.cell' (by assumption) (by first | assumption | omega) ?_)) ?_ | refine lds_of (by repeat (first | assumption | exact Blk.cells (by assumption) | refine Cells.drew ?_ | refine Cells.ext ?_ (by assumption) | refine Cells.fr' ?_ (by assumption) (by first | assumption | omega))) (by rfl) ?_))
        refine bld_of (cs := #[.int .i64 3, .int .i64 (1 + v3 - v4.tdiv 11)]) rfl ?_
        refine sts_of' (vs := [.int .i64 3, .int .i64 (1 + v3 - v4.tdiv 11)]) rfl ((k6.fr e7 (by omega)).fr e8 (by omega)) rfl rfl (by simp [Value.oneCell']) (fun w9 e9 k9 => ?_)
        intro _
        exact fin b4 (3, 1 + v3 - v4.tdiv 11) w9 (q + 1 + 1 + 1 + 1) k9 (by unfold TurnIn; simp only; omega) (((f6.trans e7).trans e8).trans' e9 (fun _ _ h => h) (fun x hx e => by omega)) (hrd8.keep e9 (fun x e => by omega)) (by omega) (by omega)
          (((s6.keep e7 hnr).keep e8 hnr).keep e9 g1) (hlm.fr (((f6.trans e7).trans e8).trans' e9 (T := fun _ => True) (fun _ _ _ => trivial) (fun _ _ _ => trivial)))
      · intro _
        exact fin b4 (1, v1) w6 (q + 1 + 1) k6 (by unfold TurnIn; simp only; omega) f6 hrd6 (by omega) (by omega) s6 (hlm.fr f6)
  · have hm0 : m = 0 := by omega
    subst hm0
    intro _
    exact hR v wx L xs q he hq hq0 (by omega) hS hbn hlm hxs (by omega)
end Go.PT
