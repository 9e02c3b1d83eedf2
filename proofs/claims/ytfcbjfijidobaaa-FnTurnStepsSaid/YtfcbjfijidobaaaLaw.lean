/- The law that turns are as many operations as their parts, as its code says it: true at all arguments. -/
import Derived.Test.YtfcbjfijidobaaaTurn
set_option linter.unusedVariables false
namespace Go.PT
theorem c_drawTurns {w : World} {code : List Int} {v : Value} {R : VW} (h : Bt w code v) (hb : ∀ x ∈ code, 0 ≤ x ∧ x ≤ 255)
    (hR : ∀ v w' ts, Ext w w' → Sl kTurn Any w' [] ts v → ts.length ≤ 9 → R v w') : clT PR 10 [v] w R := by
  refine Fspec_DrawTurnSteps.cl ?_
  unfold Fspec_DrawTurnSteps
  refine c_l6Open h hb (fun r w1 code' e1 hr1 hrd1 hb' => ?_)
  refine c_turns (most := 8) hrd1 hb' (by omega) (by omega) (by omega) (by omega) (fun v2 w2 L ts pos2 e2 hrd2 hp20 hp21 hS hbn hlm hts hlen => ?_)
  have z1 := e1.size
  have z2 := e2.size
  have f2 : Ext w w2 := e1.trans' e2 (fun _ _ h => h) (fun x hx e => by omega)
  refine c_pick hrd2 hb' (by omega) (by omega) (by omega) (fun v3 w3 hv30 hv31 e3 hrd3 => ?_)
  have hrl := hrd1.lt
  have hnr : ∀ b p, L b = some p → ¬ b = r := fun b p hbp e => by have := hbn b p hbp; omega
  have f3 : Ext w w3 := f2.trans' e3 (fun _ _ h => h) (fun x hx e => by omega)
  have s3 := hS.keep e3 hnr
  repeat (first | (first | refine fad_of ?_ | refine nil_of ?_ | refine lss_of ?_ | refine leq_of ?_ | refine gtr_of ?_ | refine geq_of ?_ | refine eql_of ?_ | refine neq_of ?_ | refine not_of ?_ | refine cvi_of ?_ | refine lenS_of ?_ | refine condT_true ?_ | refine condT_false ?_) | (first | refine add_of (by omega) (by omega) ?_ | refine sub_of (by omega) (by omega) ?_ | refine mul_of (by omega) (by omega) ?_) | (first | refine ld_of (by repeat (first | assumption | exact Blk.cell (by assumption) (by rfl) | exact Cells.at (by assumption) _ (by rfl) | refine cell_drew ?_ | refine Ext.cell (by assumption) ?_ | refine Fr.cell' (by assumption) (by first | assumption | omega) ?_)) ?_ | refine lds_of (by repeat (first | assumption | exact Blk.cells (by assumption) | refine Cells.drew ?_ | refine Cells.ext ?_ (by assumption) | refine Cells.fr' ?_ (by assumption) (by first | assumption | omega))) (by rfl) ?_))
  refine condP_of (fun hk => ?_) (fun hk => ?_)
  · refine c_pick hrd3 hb' (by omega) (by omega) (by omega) (fun v4 w4 hv40 hv41 e4 hrd4 => ?_)
    refine bsl_of' rfl rfl rfl (fun b5 w5 e5 hb5 k5 => ?_)
    refine c_pick (hrd4.fr e5) hb' (by omega) (by omega) (by omega) (fun v6 w6 hv60 hv61 e6 hrd6 => ?_)
    have hr4 := hrd4.lt
    have k6 := k5.fr e6 (by omega)
    refine (show 0 ≤ v6 ∧ v6 < ((3 : Nat) : Int) ∧ _ from ⟨hv60, by omega, ?_⟩)
    have hx : ∃ x : Int, w6.cell? ⟨b5, 0 + v6.toNat * 1, none⟩ = some (.int .i64 x) := by
      have : v6 = 0 ∨ v6 = 1 ∨ v6 = 2 := by omega
      rcases this with rfl | rfl | rfl
      · exact ⟨-1, k6.cell rfl⟩
      · exact ⟨401, k6.cell rfl⟩
      · exact ⟨7, k6.cell rfl⟩
    obtain ⟨x, hx⟩ := hx
    refine ld_of hx ?_
    refine bld_of (cs := #[.int .i64 v4, .int .i64 x]) rfl ?_
    refine bsl_of' rfl rfl rfl (fun b7 w7 e7 hb7 k7 => ?_)
    have s7 := (((s3.keep e4 hnr).keepX e5).keep e6 hnr).keepX e7
    have z3 := e3.size
    have z4 := e4.size
    have z5 := e5.size
    have z6 := e6.size
    have f7 : Ext w w7 := (((f3.trans' e4 (fun _ _ h => h) (fun x hx e => by omega)).trans e5).trans' e6 (fun _ _ h => h) (fun x hx e => by omega)).trans e7
    refine app_lit (p := []) [(v4, x)] (e := 33) (by kernel_rfl) s7 k7 rfl (by simp; omega) ((((hlm.fr e3).fr e4).fr e5).fr e6 |>.fr e7) (fun v' w' L' ef hlx hlm2 hS2 => ?_)
    exact hR _ _ _ (f7.trans' ef (fun _ _ h => h) (fun x hx hLx => by have := hbn x _ hLx; omega)) hS2.any (by simp; omega)
  · exact hR _ _ _ f3 s3.any (by omega)

theorem c_law {w : World} {code more : List Int} {v u : Value} {R : VW} (h : Bt w code v) (hb : ∀ x ∈ code, 0 ≤ x ∧ x ≤ 255) (h' : Bt w more u) (hR : ∀ w', Ext w w' → R (.bool true) w') : clT PR 4 [v, u] w R := by
  refine Flaws_FnTurnSteps.cl ?_
  unfold Flaws_FnTurnSteps
  obtain ⟨A, c, hv, hc⟩ := h.1
  obtain ⟨A', c', hu, hc'⟩ := h'.1
  have hl : ∀ {k : Value → Prop}, k (.int .i64 code.length) → lenT v k := fun hk => by rw [hv]; exact hk
  have hl' : ∀ {k : Value → Prop}, k (.int .i64 more.length) → lenT u k := fun hk => by rw [hu]; exact hk
  refine hl ?_
  repeat (first | (first | refine fad_of ?_ | refine nil_of ?_ | refine lss_of ?_ | refine leq_of ?_ | refine gtr_of ?_ | refine geq_of ?_ | refine eql_of ?_ | refine neq_of ?_ | refine not_of ?_ | refine cvi_of ?_ | refine lenS_of ?_ | refine condT_true ?_ | refine condT_false ?_) | (first | refine add_of (by omega) (by omega) ?_ | refine sub_of (by omega) (by omega) ?_ | refine mul_of (by omega) (by omega) ?_) | (first | refine ld_of (by repeat (first | assumption | exact Blk.cell (by assumption) (by rfl) | exact Cells.at (by assumption) _ (by rfl) | refine cell_drew ?_ | refine Ext.cell (by assumption) ?_ | refine Fr.cell' (by assumption) (by first | assumption | omega) ?_)) ?_ | refine lds_of (by repeat (first | assumption | exact Blk.cells (by assumption) | refine Cells.drew ?_ | refine Cells.ext ?_ (by assumption) | refine Cells.fr' ?_ (by assumption) (by first | assumption | omega))) (by rfl) ?_))
  refine condP_of (fun _ => hR _ (Fr.refl _ _)) (fun hbig => ?_)
  refine hl' ?_
  repeat (first | (first | refine fad_of ?_ | refine nil_of ?_ | refine lss_of ?_ | refine leq_of ?_ | refine gtr_of ?_ | refine geq_of ?_ | refine eql_of ?_ | refine neq_of ?_ | refine not_of ?_ | refine cvi_of ?_ | refine lenS_of ?_ | refine condT_true ?_ | refine condT_false ?_) | (first | refine add_of (by omega) (by omega) ?_ | refine sub_of (by omega) (by omega) ?_ | refine mul_of (by omega) (by omega) ?_) | (first | refine ld_of (by repeat (first | assumption | exact Blk.cell (by assumption) (by rfl) | exact Cells.at (by assumption) _ (by rfl) | refine cell_drew ?_ | refine Ext.cell (by assumption) ?_ | refine Fr.cell' (by assumption) (by first | assumption | omega) ?_)) ?_ | refine lds_of (by repeat (first | assumption | exact Blk.cells (by assumption) | refine Cells.drew ?_ | refine Cells.ext ?_ (by assumption) | refine Cells.fr' ?_ (by assumption) (by first | assumption | omega))) (by rfl) ?_))
  refine condP_of (fun _ => hR _ (Fr.refl _ _)) (fun hbig' => ?_)
  refine c_drawTurns h hb (fun vt w1 ts e1 hS hlen => ?_)
  refine c_implSteps hS (by omega) (fun w2 e2 => ?_)
  refine hl' ?_
  have s2 := hS.ext e2
  refine s2.len_of ?_
  repeat (first | (first | refine fad_of ?_ | refine nil_of ?_ | refine lss_of ?_ | refine leq_of ?_ | refine gtr_of ?_ | refine geq_of ?_ | refine eql_of ?_ | refine neq_of ?_ | refine not_of ?_ | refine cvi_of ?_ | refine lenS_of ?_ | refine condT_true ?_ | refine condT_false ?_) | (first | refine add_of (by omega) (by omega) ?_ | refine sub_of (by omega) (by omega) ?_ | refine mul_of (by omega) (by omega) ?_) | (first | refine ld_of (by repeat (first | assumption | exact Blk.cell (by assumption) (by rfl) | exact Cells.at (by assumption) _ (by rfl) | refine cell_drew ?_ | refine Ext.cell (by assumption) ?_ | refine Fr.cell' (by assumption) (by first | assumption | omega) ?_)) ?_ | refine lds_of (by repeat (first | assumption | exact Blk.cells (by assumption) | refine Cells.drew ?_ | refine Cells.ext ?_ (by assumption) | refine Cells.fr' ?_ (by assumption) (by first | assumption | omega))) (by rfl) ?_))
  refine rem_of (by omega) ?_
  have hcut0 : 0 ≤ Int.tmod more.length ((ts.length : Int) + 1) ∧ Int.tmod more.length ((ts.length : Int) + 1) < (ts.length : Int) + 1 := tmod_range _ _ (by omega) (by omega)
  generalize Int.tmod more.length ((ts.length : Int) + 1) = cut at hcut0
  refine c_specSteps (w := w2.drew) (s2.ext (Fr.refl _ _).drew) (by omega) ?_
  repeat (first | (first | refine fad_of ?_ | refine nil_of ?_ | refine lss_of ?_ | refine leq_of ?_ | refine gtr_of ?_ | refine geq_of ?_ | refine eql_of ?_ | refine neq_of ?_ | refine not_of ?_ | refine cvi_of ?_ | refine lenS_of ?_ | refine condT_true ?_ | refine condT_false ?_) | (first | refine add_of (by omega) (by omega) ?_ | refine sub_of (by omega) (by omega) ?_ | refine mul_of (by omega) (by omega) ?_) | (first | refine ld_of (by repeat (first | assumption | exact Blk.cell (by assumption) (by rfl) | exact Cells.at (by assumption) _ (by rfl) | refine cell_drew ?_ | refine Ext.cell (by assumption) ?_ | refine Fr.cell' (by assumption) (by first | assumption | omega) ?_)) ?_ | refine lds_of (by repeat (first | assumption | exact Blk.cells (by assumption) | refine Cells.drew ?_ | refine Cells.ext ?_ (by assumption) | refine Cells.fr' ?_ (by assumption) (by first | assumption | omega))) (by rfl) ?_))
  have f2 : Ext w w2.drew := (e1.trans e2).drew
  have s3 : Sl kTurn Any w2.drew [] ts vt := s2.ext (Fr.refl _ _).drew
  generalize w2.drew = w3 at f2 s3
  have hcut : sumT ts = sumT (ts.take cut.toNat) + sumT (ts.drop cut.toNat) := by rw [← sumT_append, List.take_append_drop]
  have r0 := sumT_range ts
  have r1 := sumT_range (ts.take cut.toNat)
  have r2 := sumT_range (ts.drop cut.toNat)
  have l1 : (ts.take cut.toNat).length ≤ 9 := by rw [List.length_take]; omega
  have l2 : (ts.drop cut.toNat).length ≤ 9 := by rw [List.length_drop]; omega
  refine condP_of (fun _ => ?_) (fun hne => absurd rfl hne)
  have fin : ∀ w', Ext w3 w' → binT .add (.int .i64 (sumT (ts.take cut.toNat))) (.int .i64 (sumT (ts.drop cut.toNat))) fun t40 =>
      binT .eql (.int .i64 (sumT ts)) t40 fun t41 => condT t41 (binT .geq (.int .i64 (sumT ts)) (.int .i64 0) fun t45 => R t45 w') (R (.bool false) w') := by
    intro w' e
    repeat (first | (first | refine fad_of ?_ | refine nil_of ?_ | refine lss_of ?_ | refine leq_of ?_ | refine gtr_of ?_ | refine geq_of ?_ | refine eql_of ?_ | refine neq_of ?_ | refine not_of ?_ | refine cvi_of ?_ | refine lenS_of ?_ | refine condT_true ?_ | refine condT_false ?_) | (first | refine add_of (by omega) (by omega) ?_ | refine sub_of (by omega) (by omega) ?_ | refine mul_of (by omega) (by omega) ?_) | (first | refine ld_of (by repeat (first | assumption | exact Blk.cell (by assumption) (by rfl) | exact Cells.at (by assumption) _ (by rfl) | refine cell_drew ?_ | refine Ext.cell (by assumption) ?_ | refine Fr.cell' (by assumption) (by first | assumption | omega) ?_)) ?_ | refine lds_of (by repeat (first | assumption | exact Blk.cells (by assumption) | refine Cells.drew ?_ | refine Cells.ext ?_ (by assumption) | refine Cells.fr' ?_ (by assumption) (by first | assumption | omega))) (by rfl) ?_))
    refine condP_of (fun _ => ?_) (fun hne => absurd hcut hne)
    repeat (first | (first | refine fad_of ?_ | refine nil_of ?_ | refine lss_of ?_ | refine leq_of ?_ | refine gtr_of ?_ | refine geq_of ?_ | refine eql_of ?_ | refine neq_of ?_ | refine not_of ?_ | refine cvi_of ?_ | refine lenS_of ?_ | refine condT_true ?_ | refine condT_false ?_) | (first | refine add_of (by omega) (by omega) ?_ | refine sub_of (by omega) (by omega) ?_ | refine mul_of (by omega) (by omega) ?_) | (first | refine ld_of (by repeat (first | assumption | exact Blk.cell (by assumption) (by rfl) | exact Cells.at (by assumption) _ (by rfl) | refine cell_drew ?_ | refine Ext.cell (by assumption) ?_ | refine Fr.cell' (by assumption) (by first | assumption | omega) ?_)) ?_ | refine lds_of (by repeat (first | assumption | exact Blk.cells (by assumption) | refine Cells.drew ?_ | refine Cells.ext ?_ (by assumption) | refine Cells.fr' ?_ (by assumption) (by first | assumption | omega))) (by rfl) ?_))
    rw [decide_eq_true (show sumT ts ≥ 0 from r0.1)]
    exact hR _ (f2.trans e)
  refine ⟨?_, ?_⟩
  · refine slr_of (kd := kTurn) (q := []) (e := 33) (by kernel_rfl) free_any s3 (by omega) (by omega) (fun va ha => ?_)
    refine ⟨?_, ?_⟩
    · refine c_implSteps ha (by omega) (fun w5 e5 => ?_)
      refine sll_of (kd := kTurn) (q := []) (e := 33) (by kernel_rfl) free_any (s3.ext e5) (by omega) (by omega) (fun vb hb => ?_)
      refine c_implSteps hb (by omega) (fun w7 e7 => ?_)
      exact fin _ (e5.trans e7)
    · refine sll_of (kd := kTurn) (q := []) (e := 33) (by kernel_rfl) free_any s3 (by omega) (by omega) (fun vb hb => ?_)
      refine c_implSteps ha (by omega) (fun w5 e5 => ?_)
      refine c_implSteps (hb.ext e5) (by omega) (fun w7 e7 => ?_)
      exact fin _ (e5.trans e7)
  · refine sll_of (kd := kTurn) (q := []) (e := 33) (by kernel_rfl) free_any s3 (by omega) (by omega) (fun vb hb => ?_)
    refine slr_of (kd := kTurn) (q := []) (e := 33) (by kernel_rfl) free_any s3 (by omega) (by omega) (fun va ha => ?_)
    refine c_implSteps ha (by omega) (fun w5 e5 => ?_)
    refine c_implSteps (hb.ext e5) (by omega) (fun w7 e7 => ?_)
    exact fin _ (e5.trans e7)
end Go.PT
