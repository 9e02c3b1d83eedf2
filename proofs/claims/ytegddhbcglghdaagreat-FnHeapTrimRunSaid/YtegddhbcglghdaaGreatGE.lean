/- The reference at work. -/
import Derived.Test.YtegddhbcglghdaaGreatGD
import Derived.Test.YtegddhbcglghdaaGreatHTextA
import Derived.Test.YtegddhbcglghdaaGreatHTextC
import Derived.Test.YtegddhbcglghdaaGreatGA
/- The reference's heap at work: its small functions. -/
set_option linter.unusedVariables false
set_option linter.unusedSimpArgs false
namespace Go.PT
attribute [local irreducible] ldT ldsT stT stsT allocT boxT bldT bslT nilT fadT ixaT fldT extT lenT pickT binT notT cviT opT opU condT clT clvT ivT loopT arT ndT World.cell? World.frozen? World.alloc World.drew World.setCell Blk Cells Sl
theorem c_l11Num {n : Int} {w : World} {R : VW} (hR : ∀ w', Ext w w' → R (.agg #[.int .i64 1, .int .i64 n]) w') : clT PR 258 [.int .i64 n] w R := by
  refine Fspec_l11Num.cl ?_
  unfold Fspec_l11Num
  have E := En.start w
  refine E.al (fun b w E _ => ?_)
  refine bld_of (cs := #[.int .i64 1, .int .i64 n]) rfl ?_
  refine En.sts' (vs := [.int .i64 1, .int .i64 n]) [] rfl E rfl rfl (by simp [Value.oneCell']) (fun w E _ => ?_)
  repeat (((refine E.lds (by (exact .head _)) (by exact rfl) ?_)))
  exact hR _ E.toExt
theorem c_l11Bit {b : Bool} {w : World} {R : VW} (hR : ∀ w', Ext w w' → R (.agg #[.int .i64 (bitV b).1, .int .i64 (bitV b).2]) w') : clT PR 279 [.bool b] w R := by
  refine Fspec_l11Bit.cl ?_
  unfold Fspec_l11Bit
  have E := En.start w
  refine E.al (fun b w E _ => ?_)
  refine cond_of (fun hb => ?_) (fun hb => ?_) <;>
  · refine c_l11Num (fun w e => ?_)
    have E := E.ext e
    refine En.sts' (vs := [.int .i64 1, .int .i64 _]) [] rfl E rfl rfl (by simp [Value.oneCell']) (fun w E _ => ?_)
    repeat (((refine E.lds (by (exact .head _)) (by exact rfl) ?_)))
    subst hb
    exact hR _ E.toExt

def madeD (op : Int × Int) (args : List V) : V := (madeV op args).getD (0, 0)
theorem c_l11Made {op : Int × Int} {args : List V} {ua : Value} {w : World} {R : VW} (ha : Sl kPair Any w [] args ua) (h5 : op.1 = 5 → 2 ≤ args.length ∧ 0 ≤ (pairAt args 0).2 ∧ (pairAt args 0).2 ≤ 999 ∧ 0 ≤ (pairAt args 1).2 ∧ (pairAt args 1).2 ≤ 999) (h6 : op.1 = 6 → 2 ≤ args.length)
    (hR : ∀ w', Ext w w' → R (.tuple #[.agg #[.int .i64 (madeD op args).1, .int .i64 (madeD op args).2], .bool (madeV op args).isSome]) w') : clT PR 257 [.agg #[.int .i64 op.1, .int .i64 op.2], ua] w R := by
  replace hR : ∀ w' (v : V) b, Ext w w' → (match madeV op args with | some u => v = u ∧ b = true | none => v = (0, 0) ∧ b = false) → R (.tuple #[.agg #[.int .i64 v.1, .int .i64 v.2], .bool b]) w' := fun w' v b e hv => by
    have := hR w' e
    unfold madeD at this
    cases hm : madeV op args with
    | some u => rw [hm] at hv this; obtain ⟨rfl, rfl⟩ := hv; exact this
    | none => rw [hm] at hv this; obtain ⟨rfl, rfl⟩ := hv; exact this
  refine Fspec_l11Made.cl ?_
  unfold Fspec_l11Made
  have E := En.start w
  have A : ∀ {L : Lab} {w' : World} {l}, En noL w L w' l → Sl kPair Any w' [] args ua := fun E => E.any ha
  refine E.box (fun _ _ E _ => ?_)
  refine E.al (fun _ _ E _ => ?_)
  repeat (first | (first | refine fad_of ?_ | refine eql_of ?_) | ((refine E.ld (by first | exact .head _ | exact .tail _ (.head _)) (by exact rfl) ?_)))
  refine condP_of (fun h1 => ?_) (fun h1 => ?_)
  · repeat (first | ((refine fad_of ?_)) | ((refine E.ld (by first | exact .head _ | exact .tail _ (.head _)) (by exact rfl) ?_)))
    refine c_l11Num (fun w e => ?_)
    replace E := E.ext e
    refine En.sts' (vs := [.int .i64 1, .int .i64 op.2]) [] rfl E rfl rfl (by simp [Value.oneCell']) (fun w E _ => ?_)
    repeat (((refine E.lds (by (exact .head _)) (by exact rfl) ?_)))
    exact hR _ (1, op.2) true E.toExt (by unfold madeV; simp [h1])
  repeat (((refine eql_of ?_)))
  refine condP_of (fun h5' => ?_) (fun h5' => ?_)
  · obtain ⟨hl, a0, a1, b0, b1⟩ := h5 h5'
    replace E := E.drew
    refine pair_ix (A E) (by omega) (by omega) (fun b o hc => ?_)
    repeat (first | ((refine fad_of ?_)) | ((apply ld_of; (case h => iterate 14 (first | done | exact Cells.at (by assumption) _ (by exact rfl))))))
    refine pair_ix (A E) (by omega) (by omega) (fun b o hc => ?_)
    repeat (first | ((refine fad_of ?_)) | ((refine add_of (by (omega)) (by (omega)) ?_)) | ((apply ld_of; (case h => iterate 14 (first | done | exact Cells.at (by assumption) _ (by exact rfl))))))
    refine rem_of (by omega) ?_
    refine c_l11Num (fun w e => ?_)
    replace E := E.ext e
    refine En.sts' (vs := [.int .i64 1, .int .i64 _]) [] rfl E rfl rfl (by simp [Value.oneCell']) (fun w E _ => ?_)
    repeat (((refine E.lds (by (exact .head _)) (by exact rfl) ?_)))
    exact hR _ (1, _) true E.toExt (by unfold madeV; rw [if_neg h1, if_pos h5']; exact ⟨rfl, rfl⟩)
  repeat (((refine eql_of ?_)))
  refine condP_of (fun h6' => ?_) (fun h6' => ?_)
  · have hl := h6 h6'
    replace E := E.drew
    refine pair_ix (A E) (by omega) (by omega) (fun b o hc => ?_)
    repeat (((apply lds_of; (case h => iterate 14 (first | done | assumption)); (case hn => exact rfl))))
    refine pair_ix (A E) (by omega) (by omega) (fun b o hc => ?_)
    repeat (((apply lds_of; (case h => iterate 14 (first | done | assumption)); (case hn => exact rfl))))
    refine eqlP_of (u := pairAt args 0) (v := pairAt args 1) (by kernel_rfl) ?_
    refine c_l11Bit (fun w e => ?_)
    replace E := E.ext e
    refine En.sts' (vs := [.int .i64 _, .int .i64 _]) [] rfl E rfl rfl (by simp [Value.oneCell']) (fun w E _ => ?_)
    repeat (((refine E.lds (by (exact .head _)) (by exact rfl) ?_)))
    refine hR _ (bitV (decide (pairAt args 0 = pairAt args 1))) true E.toExt ?_
    unfold madeV
    rw [if_neg h1, if_neg h5', if_pos h6']
    have hbe : (pairAt args 0 == pairAt args 1) = decide (pairAt args 0 = pairAt args 1) := by rw [Bool.eq_iff_iff]; simp
    rw [hbe]
    exact ⟨rfl, rfl⟩
  refine bld_of (cs := #[.int .i64 0, .int .i64 0]) rfl ?_
  refine En.sts' (vs := [.int .i64 0, .int .i64 0]) [] rfl E rfl rfl (by simp [Value.oneCell']) (fun w E _ => ?_)
  repeat (((refine E.lds (by (exact .head _)) (by exact rfl) ?_)))
  exact hR _ (0, 0) false E.toExt (by unfold madeV; rw [if_neg h1, if_neg h5', if_neg h6']; exact ⟨rfl, rfl⟩)
theorem c_l11Kinds {op : Int × Int} {args : List V} {ua : Value} {w : World} {R : VW} (ha : Sl kPair Any w [] args ua) (h5 : op.1 = 5 → 2 ≤ args.length) (h1 : op.1 = 12 ∨ op.1 = 13 ∨ op.1 = 17 ∨ op.1 = 18 ∨ op.1 = 14 ∨ op.1 = 15 → 1 ≤ args.length)
    (hR : ∀ w', Ext w w' → R (.bool (kindsOk op args)) w') : clT PR 219 [.agg #[.int .i64 op.1, .int .i64 op.2], ua] w R := by
  replace hR : ∀ w' b, Ext w w' → b = kindsOk op args → R (.bool b) w' := fun w' b e h => h ▸ hR w' e
  refine Fspec_l11Kinds.cl ?_
  unfold Fspec_l11Kinds
  refine box_of' (fun b1 w1 e1 hb1 (k1 : Blk w1 b1 [.int .i64 op.1, .int .i64 op.2]) => ?_)
  repeat' (first | (first | refine fad_of ?_ | refine eql_of ?_) | ((fail)) | ((apply ld_of; (case h => iterate 14 (first | done | exact Blk.cell (by assumption) (by exact rfl) | exact Cells.at (by assumption) _ (by exact rfl))))) | (refine Sl.len_of (by assumption) ?_) | ((refine condP_t (by omega) ?_)) | ((refine condP_of (fun _ => ?_) (fun _ => ?_))) | refine pair_ix (ha.ext e1) (by omega) (by omega) (fun _ _ _ => ?_) | (first | (unfold Fspec_l11Kinds.j1; intro _) | (unfold Fspec_l11Kinds.j2; intro _) | (unfold Fspec_l11Kinds.j3; intro _) | (unfold Fspec_l11Kinds.j4; intro _) | (unfold Fspec_l11Kinds.j5; intro _) | (unfold Fspec_l11Kinds.j6; intro _)))
  all_goals exact hR _ _ (by iterate 20 (first | done | assumption)) (by unfold kindsOk; (simp [*, inB_t, inB_f]; done))
theorem c_specTakes {p : Pg} {op : Int × Int} {u : Value} {w : World} {R : VW} (hp : Sl kMeth Any w [] p u) (hpl : p.length ≤ 1073741824)
    (hR : ∀ w', Ext w w' → R (.tuple #[.int .i64 (takes p op).1, .int .i64 (takes p op).2]) w') : clT PR 218 [.agg #[u], .agg #[.int .i64 op.1, .int .i64 op.2]] w R := by
  replace hR : ∀ w' a b, Ext w w' → (a, b) = takes p op → R (.tuple #[.int .i64 a, .int .i64 b]) w' := fun w' a b e h => by have := hR w' e; rw [← h] at this; exact this
  refine Fspec_OpTakes.cl ?_
  unfold Fspec_OpTakes
  refine box_of' (fun b1 w1 e1 hb1 (k1 : Blk w1 b1 [u]) => ?_)
  refine box_of' (fun b2 w2 e2 hb2 (k2 : Blk w2 b2 [.int .i64 op.1, .int .i64 op.2]) => ?_)
  repeat' (first | (first | refine fad_of ?_ | refine eql_of ?_) | ((refine sub_of (by (omega)) (by (omega)) ?_)) | ((apply ld_of; (case h => iterate 14 (first | done | exact Blk.cell (by assumption) (by exact rfl) | exact Cells.at (by assumption) _ (by exact rfl) | (apply Ext.cell (by assumption)))))) | (refine Sl.len_of (by assumption) ?_) | ((refine condP_t (by omega) ?_)) | (first | refine condIn_of (fun _ => ?_) (fun _ => ?_) | refine condP_of (fun _ => ?_) (fun _ => ?_)) | refine meth_ix (hp.ext (e1.trans e2)) (by omega) (by omega) (fun _ _ _ _ _ => ?_) | refine c_specIn ?_ | (first | (unfold Fspec_OpTakes.j1; intro _) | (unfold Fspec_OpTakes.j2; intro _) | (unfold Fspec_OpTakes.j3; intro _) | (unfold Fspec_OpTakes.j4; intro _) | (unfold Fspec_OpTakes.j5; intro _) | (unfold Fspec_OpTakes.j6; intro _) | (unfold Fspec_OpTakes.j7; intro _) | (unfold Fspec_OpTakes.j8; intro _) | (unfold Fspec_OpTakes.j9; intro _) | (unfold Fspec_OpTakes.j10; intro _) | (unfold Fspec_OpTakes.j11; intro _) | (unfold Fspec_OpTakes.j12; intro _) | (unfold Fspec_OpTakes.j13; intro _) | (unfold Fspec_OpTakes.j14; intro _)))
  all_goals exact hR _ _ _ (by iterate 20 (first | done | assumption | (apply fun h => Fr.trans h (by assumption)))) (by unfold takes; (simp [*, inB_t, inB_f]; done))
end Go.PT

/- The reference's heap at work: new calls, what is said, a call that returns. -/
set_option linter.unusedVariables false
set_option linter.unusedSimpArgs false
namespace Go.PT
attribute [local irreducible] ldT ldsT stT stsT allocT boxT bldT bslT nilT fadT ixaT fldT extT lenT pickT binT notT cviT opT opU condT clT clvT ivT loopT arT ndT World.cell? World.frozen? World.alloc World.drew World.setCell Blk Cells Sl
theorem rep_add (i : Nat) : List.replicate i ((0 : Int), (0 : Int)) ++ [(0, 0)] = List.replicate (i + 1) (0, 0) := by rw [List.replicate_succ']
theorem c_l11None {n : Int} {w : World} {R : VW} (hn : n ≤ 1000000) (hR : ∀ w' v M, Ext w w' → Born w M → Lim M w' → Sl kPair (Own M) w' [] (List.replicate n.toNat (0, 0)) v → R v w') : clT PR 256 [.int .i64 n] w R := by
  refine Fspec_l11None.cl ?_
  unfold Fspec_l11None
  have E := En.start w
  refine E.bsl rfl rfl rfl (fun b w1 E _ => ?_)
  refine loop_of (fun m s wx => ∃ (i : Nat) (v : Value) (L : Lab) (l : List (Nat × List Value)), s = [.int .i64 n, .slice none 0 0, v, .int .i64 i] ∧ i + m = n.toNat ∧ En noL w L wx l ∧ Sl kPair (Own L) wx [] (List.replicate i (0, 0)) v) ?_ (m := n.toNat) ⟨0, _, _, _, rfl, by omega, E, Sl.none0⟩
  rintro m s wx Kn ⟨i, v, L, l, rfl, hi, E, hv⟩ hKn
  intro _
  simp only [List.headD_cons, List.tail_cons]
  repeat (((refine lss_of ?_)))
  refine condP_of (fun hc => ?_) (fun hc => ?_)
  · refine bld_of (cs := #[.int .i64 0, .int .i64 0]) rfl ?_
    refine E.bsl rfl rfl rfl (fun b w2 E e => ?_)
    refine grow_lit (f := fun t : Int × Int => [Value.int .i64 t.1, Value.int .i64 t.2]) [(0, 0)] (by kernel_rfl) (hv.keepX e) (E.blk (.head _)) rfl (by simp; omega) E.mu.lim (fun v' w' L' g _ h2 => ?_)
    repeat (((refine add_of (by (omega)) (by (omega)) ?_)))
    refine hKn (m - 1) _ _ (by omega) ⟨i + 1, v', L', _, rfl, by omega, E.grow g, ?_⟩
    rw [← rep_add]; exact h2
  · intro _
    have : i = n.toNat := by omega
    subst this
    exact hR _ _ _ E.toExt E.born E.mu.lim hv
theorem c_l11Call {p : Pg} {k s : Int} {args : List V} {u ua : Value} {w : World} {R : VW} (hp : Sl kMeth Any w [] p u) (ha : Sl kPair Any w [] args ua) (k0 : 0 ≤ k) (k1 : k < p.length) (hl : args.length ≤ 1000000) (ht0 : 0 ≤ (methAt p k).temps) (ht : (methAt p k).temps ≤ 1000000)
    (hR : ∀ w' M ut us, Ext w w' → Born w M → Lim M w' → Sl kPair (Own M) w' [2] (newC p k args s).temps ut → Sl kPair (Own M) w' [3] [] us → R (.agg (cellsC (newC p k args s) ut us).toArray) w') :
    clT PR 216 [.agg #[u], .int .i64 k, ua, .int .i64 s] w R := by
  refine Fspec_l11Call.cl ?_
  unfold Fspec_l11Call
  have E := En.start w
  refine E.box (fun _ _ E _ => ?_)
  refine E.al (fun _ _ E _ => ?_)
  refine E.bsl rfl rfl rfl (fun b w1 E _ => ?_)
  refine grow_row (q := [2]) (by kernel_rfl) (Sl.none0 (kd := kPair)) (E.any (q := []) ha) (by simp; omega) E.mu.lim (fun v1 w1 L1 g _ h1 => ?_)
  replace E := E.grow g
  repeat (first | ((refine fad_of ?_)) | ((refine E.ld (by first | exact .head _ | exact .tail _ (.tail _ (.head _))) (by exact rfl) ?_)))
  refine meth_ix (E.any (q := []) hp) k0 k1 (fun b o um hc _ => ?_)
  repeat (first | ((refine fad_of ?_)) | ((refine sub_of (by (omega)) (by (omega)) ?_)) | ((apply ld_of; (case h => iterate 14 (first | done | exact Cells.at (by assumption) _ (by exact rfl))))) | (refine Sl.len_of (by assumption) ?_))
  refine c_l11None (by omega) (fun w2 v2 M2 e2 _ _ h2 => ?_)
  replace E := E.ext e2
  refine grow_row (q := [2]) (by kernel_rfl) (h1.keepX e2) h2 (by simp; omega) E.mu.lim (fun v3 w3 L3 g _ h3 => ?_)
  replace E := E.grow g
  refine E.bsl rfl rfl rfl (fun b4 w4 E e4 => ?_)
  obtain ⟨A3, c3, hv3⟩ := h3.is
  have h5 := h3.keepX e4
  rw [hv3] at h5 ⊢
  refine bld_of (cs := #[.int .i64 k, .int .i64 0, _, .slice (some ⟨b4, 0, none⟩) 0 0, .int .i64 s, .bool false]) rfl ?_
  refine En.sts' (vs := [.int .i64 k, .int .i64 0, _, .slice (some ⟨b4, 0, none⟩) 0 0, .int .i64 s, .bool false]) [_, _] rfl E rfl rfl (fun u hu => List.all_eq_true.mp rfl u hu) (fun w6 E e6 => ?_)
  repeat (((refine E.lds (by first | exact .head _ | exact .tail _ (.tail _ (.head _))) (by exact rfl) ?_)))
  refine hR _ _ _ _ E.toExt E.born E.mu.lim ?_ Sl.none0
  exact h5.loc e6
theorem c_now {L : Lab} {w : World} {m : Nat} {u vc vs : Value} {h : Hp} {R : VW} (S : SM L w m [u] h vc vs) (h0 : 0 ≤ h.now) (h1 : h.now < h.calls.length)
    (hR : ∀ b o ut us, Foc L w.drew vc h.now (nowC h) b o ut us → R (.pointer (some ⟨b, o, none⟩)) w.drew) : clT PR 217 [.pointer (some ⟨m, 0, none⟩)] w R := by
  refine Fspec_l11Heap_now.cl ?_
  unfold Fspec_l11Heap_now
  replace S := S.drew
  repeat (first | (first | refine fad_of ?_ | refine nil_of ?_) | ((refine ld_of (S.cell (by exact rfl)) ?_)))
  exact S.ix h0 h1 hR
theorem c_die {L : Lab} {w : World} {m : Nat} {u vc vs : Value} {h : Hp} {i : Int} {R : VW} (S : SM L w m [u] h vc vs) (h0 : 0 ≤ i) (h1 : i < h.calls.length)
    (hR : ∀ w', Mut L w L w' → SM L w' m [u] (dieH h i) vc vs → R (.tuple #[]) w') : clT PR 280 [.pointer (some ⟨m, 0, none⟩), .int .i64 i] w R := by
  refine Fspec_l11Heap_die.cl ?_
  unfold Fspec_l11Heap_die
  have E := En.init S.lim
  repeat (first | (first | refine fad_of ?_ | refine nil_of ?_) | ((refine ld_of (S.cell (by exact rfl)) ?_)))
  refine S.ix h0 h1 (fun b o ut us F => ?_)
  repeat ((first | refine fad_of ?_ | refine nil_of ?_))
  refine S.st F h0 h1 rfl (by decide) (c' := { callAt h.calls i with dead := true }) rfl F.temps F.stack (fun w1 m1 S F => ?_)
  replace E := E.call m1
  refine E.bsl rfl rfl rfl (fun b2 w2 E e2 => ?_)
  replace S := S.ext e2
  replace F := F.ext e2
  repeat ((first | refine fad_of ?_ | refine nil_of ?_))
  refine S.st F h0 (by rw [putC_len]; exact h1) rfl (by decide) (c' := { callAt h.calls i with dead := true, stack := [] }) rfl F.temps Sl.none0 (fun w3 m3 S F => ?_)
  replace E := E.call m3
  repeat ((first | refine fad_of ?_ | refine nil_of ?_))
  refine S.st F h0 (by rw [putC_len, putC_len]; exact h1) rfl (by decide) (c' := dieC (callAt h.calls i)) rfl F.temps Sl.none0 (fun w4 m4 S F => ?_)
  replace E := E.call m4
  refine hR _ E.mu ?_
  have e : putC (putC (putC h i { callAt h.calls i with dead := true }) i { callAt h.calls i with dead := true, stack := [] }) i (dieC (callAt h.calls i)) = dieH h i := by unfold dieH putC; simp [List.set_set]
  rw [← e]; exact S
theorem c_say {L : Lab} {w : World} {m : Nat} {u vc vs : Value} {h : Hp} {v : V} {R : VW} (S : SM L w m [u] h vc vs) (hv : v.1 = 2 → 0 ≤ v.2 ∧ v.2 < h.calls.length) (hr : h.said.length + 1 ≤ 1073741824)
    (hR : ∀ w' L' vs', Mut L w L' w' → SM L' w' m [u] (sayH h v) vc vs' → R (.tuple #[]) w') : clT PR 263 [.pointer (some ⟨m, 0, none⟩), .agg #[.int .i64 v.1, .int .i64 v.2]] w R := by
  refine Fspec_l11Heap_say.cl ?_
  unfold Fspec_l11Heap_say
  have E := En.init S.lim
  refine E.box (fun b1 w1 E e1 => ?_)
  replace S := S.ext e1
  have fin : ∀ {w2 : World} (E : En L w L w2 [(b1, [.int .i64 (saidV h v).1, .int .i64 (saidV h v).2])]) (S : SM L w2 m [u] h vc vs), Fspec_l11Heap_say.j1 (.pointer (some ⟨m, 0, none⟩)) (.pointer (some ⟨b1, 0, none⟩)) w2 R := by
    intro w2 E S
    intro _
    replace E := E.drew
    replace S := S.drew
    repeat (first | (first | refine fad_of ?_ | refine nil_of ?_) | (first | refine E.lds (by (exact .head _)) (by exact rfl) ?_ | refine ld_of (S.cell (by exact rfl)) ?_))
    refine E.bsl rfl rfl rfl (fun b3 w3 E e3 => ?_)
    replace S := S.ext e3
    refine ⟨?_, ?_⟩
    · repeat (((refine ld_of (S.cell (by exact rfl)) ?_)))
      rfl
    refine S.appSaid (v := saidV h v) (by kernel_rfl) (E.blk (.head _)) rfl hr (fun v' w' L' m' S hs => ?_)
    replace E := E.call m'
    repeat ((first | refine fad_of ?_ | refine nil_of ?_))
    refine S.stM hs.one (by simp) (h' := sayH h v) rfl S.calls hs (fun w4 m4 _ S => ?_)
    exact hR _ _ _ (E.call m4).mu S
  repeat (first | (first | refine fad_of ?_ | refine eql_of ?_) | ((refine E.ld (by (exact .head _)) (by exact rfl) ?_)))
  refine condP_of (fun h2 => ?_) (fun h2 => ?_)
  · obtain ⟨v0, v1⟩ := hv h2
    replace E := E.drew
    replace S := S.drew
    repeat (first | (first | refine fad_of ?_ | refine nil_of ?_) | (first | refine E.ld (by (exact .head _)) (by exact rfl) ?_ | refine ld_of (S.cell (by exact rfl)) ?_))
    refine S.ix v0 v1 (fun b o ut us F => ?_)
    repeat (first | ((refine fad_of ?_)) | ((refine ld_of (F.cells.at _ (by exact rfl)) ?_)))
    refine En.st' [] E (show 1 < 2 by decide) rfl (fun w2 E e2 => ?_)
    refine fin ?_ (S.loc e2)
    unfold saidV
    rw [if_pos h2]
    exact E
  · refine fin ?_ S
    unfold saidV
    rw [if_neg h2]
    exact E
end Go.PT

/- The reference's heap at work: looking, calling, returning, going back. -/
set_option linter.unusedVariables false
set_option linter.unusedSimpArgs false
namespace Go.PT
attribute [local irreducible] ldT ldsT stT stsT allocT boxT bldT bslT nilT fadT ixaT fldT extT lenT pickT binT notT cviT opT opU condT clT clvT ivT loopT arT ndT World.cell? World.frozen? World.alloc World.drew World.setCell Blk Cells Sl
theorem c_look {L : Lab} {w : World} {m : Nat} {u vc vs : Value} {h : Hp} {op : Int × Int} {i : Int} {R : VW} (S : SM L w m [u] h vc vs) (h0 : 0 ≤ i) (h1 : i < h.calls.length) (ho : 0 ≤ op.2)
    (hR : ∀ w', Ext w w' → R (.agg #[.int .i64 (lookV h op i).1, .int .i64 (lookV h op i).2]) w') : clT PR 261 [.pointer (some ⟨m, 0, none⟩), .agg #[.int .i64 op.1, .int .i64 op.2], .int .i64 i] w R := by
  replace hR : ∀ w' (v : V), Ext w w' → v = lookV h op i → R (.agg #[.int .i64 v.1, .int .i64 v.2]) w' := fun w' v e hv => hv ▸ hR w' e
  refine Fspec_l11Heap_look.cl ?_
  unfold Fspec_l11Heap_look
  have S0 := S
  have E := En.start w
  refine E.box (fun b1 w1 E e1 => ?_)
  refine E.al (fun b2 w2 E e2 => ?_)
  replace S := S0.ext E.toExt
  repeat (first | (first | refine fad_of ?_ | refine nil_of ?_) | ((refine ld_of (S.cell (by exact rfl)) ?_)))
  refine S.ix h0 h1 (fun b o ut us F => ?_)
  generalize hc : callAt h.calls i = c at F
  repeat (((refine lds_of F.cells (by exact rfl) ?_)))
  refine E.als (vs := cellsC c ut us) rfl rfl rfl (by intro x hx; simp only [cellsC, List.mem_cons, List.not_mem_nil, or_false] at hx; rcases hx with h | h | h | h | h | h <;> rw [h] <;> first | rfl | exact F.temps.one | exact F.stack.one) (fun b3 w3 E e3 => ?_)
  replace F := F.ext e3
  have fin : ∀ {w4 : World} {v : V} {l0 : List (Nat × List Value)} {c0 : List Value} (E : En noL w noL w4 (l0 ++ (b2, c0) :: [(b1, [.int .i64 op.1, .int .i64 op.2])])) (hl : c0.length = 2) (hv : v = lookV h op i), stsT 2 (.pointer (some ⟨b2, 0, none⟩)) (.agg #[.int .i64 v.1, .int .i64 v.2]) w4 (fun w5 => ldsT 2 (.pointer (some ⟨b2, 0, none⟩)) w5 fun r6 => R r6 w5) := by
    intro w4 v l0 c0 E hl hv
    refine En.sts' (vs := [.int .i64 v.1, .int .i64 v.2]) l0 rfl E rfl hl (fun u hu => List.all_eq_true.mp rfl u hu) (fun w E _ => ?_)
    refine E.lds (List.mem_append.mpr (.inr (.head _))) rfl ?_
    exact hR _ v E.toExt hv
  repeat (first | (first | refine fad_of ?_ | refine eql_of ?_) | ((refine E.ld (by first | exact .head _ | exact .tail _ (.tail _ (.head _))) (by exact rfl) ?_)))
  refine condP_of (fun c12 => ?_) (fun c12 => ?_)
  · repeat (first | (first | refine fad_of ?_ | refine geq_of ?_) | ((refine E.ld (by (exact .head _)) (by exact rfl) ?_)))
    refine condP_of (fun hs => ?_) (fun hs => ?_)
    · repeat (first | ((refine fad_of ?_)) | ((refine E.ld (by (exact .head _)) (by exact rfl) ?_)))
      refine bld_of (cs := #[.int .i64 2, .int .i64 c.sender]) rfl ?_
      exact fin (v := (2, c.sender)) (l0 := [_]) E rfl (by unfold lookV; rw [if_pos c12, hc, if_pos hs])
    · refine bld_of (cs := #[.int .i64 0, .int .i64 0]) rfl ?_
      exact fin (v := (0, 0)) (l0 := [_]) E rfl (by unfold lookV; rw [if_pos c12, hc, if_neg hs])
  repeat (((refine eql_of ?_)))
  refine condP_of (fun c13 => ?_) (fun c13 => ?_)
  · repeat (first | ((refine fad_of ?_)) | ((refine E.ld (by first | exact .head _ | exact .tail _ (.tail _ (.head _))) (by exact rfl) ?_)))
    refine F.temps.len_of ?_
    repeat (((refine lss_of ?_)))
    refine condP_of (fun hs => ?_) (fun hs => ?_)
    · repeat (first | ((refine fad_of ?_)) | ((refine E.ld (by first | exact .head _ | exact .tail _ (.tail _ (.head _))) (by exact rfl) ?_)))
      refine pair_ix (F.temps.any (q := [])) ho hs (fun b o hcell => ?_)
      repeat (((apply lds_of; (case h => iterate 14 (first | done | assumption)); (case hn => exact rfl))))
      exact fin (v := pairAt c.temps op.2) (l0 := [_]) E rfl (by unfold lookV; rw [if_neg c12, if_pos c13, hc, if_pos hs])
    · refine bld_of (cs := #[.int .i64 0, .int .i64 0]) rfl ?_
      exact fin (v := (0, 0)) (l0 := [_]) E rfl (by unfold lookV; rw [if_neg c12, if_pos c13, hc, if_neg hs])
  repeat (((refine eql_of ?_)))
  refine condP_of (fun c17 => ?_) (fun c17 => ?_)
  · repeat (first | ((refine fad_of ?_)) | ((refine E.ld (by (exact .head _)) (by exact rfl) ?_)))
    refine c_l11Bit (fun w4 e4 => ?_)
    exact fin (l0 := [_]) (E.ext e4) rfl (by unfold lookV; rw [if_neg c12, if_neg c13, if_pos c17, hc])
  repeat (((refine eql_of ?_)))
  refine condP_of (fun c18 => ?_) (fun c18 => ?_)
  · repeat (first | ((refine fad_of ?_)) | ((refine E.ld (by (exact .head _)) (by exact rfl) ?_)))
    refine c_l11Num (fun w4 e4 => ?_)
    exact fin (v := (1, c.pc)) (l0 := [_]) (E.ext e4) rfl (by unfold lookV; rw [if_neg c12, if_neg c13, if_neg c17, if_pos c18, hc])
  · refine bld_of (cs := #[.int .i64 0, .int .i64 0]) rfl ?_
    exact fin (v := (0, 0)) (l0 := [_]) E rfl (by unfold lookV; rw [if_neg c12, if_neg c13, if_neg c17, if_neg c18])
theorem c_call {L : Lab} {w : World} {m n : Nat} {u vc vs ua : Value} {p : Pg} {h : Hp} {k : Int} {args : List V} {R : VW} (S : SM L w m [u] h vc vs) (hp : Sl kMeth (Un L n) w [] p u) (hn : n ≤ w.heap.size) (ha : Sl kPair (Un L n) w [] args ua)
    (k0 : 0 ≤ k) (k1 : k < p.length) (hl : args.length ≤ 1000000) (ht0 : 0 ≤ (methAt p k).temps) (ht : (methAt p k).temps ≤ 1000000) (hcl : h.calls.length ≤ 1000000) (hb0 : 0 ≤ h.born) (hb : h.born ≤ 1000000)
    (hR : ∀ w' L' vc', Mut L w L' w' → SM L' w' m [u] (callH p h k args) vc' vs → R (.tuple #[]) w') : clT PR 259 [.pointer (some ⟨m, 0, none⟩), .int .i64 k, ua] w R := by
  refine Fspec_l11Heap_call.cl ?_
  unfold Fspec_l11Heap_call
  have E := En.init S.lim
  repeat (first | (first | refine fad_of ?_ | refine nil_of ?_ | refine geq_of ?_) | ((refine ld_of (S.cell (by exact rfl)) ?_)))
  refine condGe_of (fun hf => ?_) (fun hf => ?_)
  · repeat ((first | refine fad_of ?_ | refine nil_of ?_))
    refine S.stM rfl (by simp) (h' := { h with code := 3 }) rfl S.calls S.said (fun w1 m1 _ S => ?_)
    exact hR _ _ _ m1 (by unfold callH; rw [if_pos hf]; exact S)
  replace E := E.drew
  replace S := S.drew
  repeat (first | (first | refine fad_of ?_ | refine nil_of ?_) | ((refine ld_of (S.cell (by exact rfl)) ?_)))
  refine lds_of (S.blk.part 0 1 rfl) rfl ?_
  repeat (first | (first | refine fad_of ?_ | refine nil_of ?_) | ((refine ld_of (S.cell (by exact rfl)) ?_)))
  refine c_l11Call (E.unAny hp hn) (E.unAny ha hn) k0 k1 hl ht0 ht (fun w2 M ut us e2 hbM hlM ht2 hs2 => ?_)
  have hap := apart_of S.lim hbM
  have ht3 := ht2.inR (q := [0, h.calls.length]) hap
  have hs3 := hs2.inR (q := [0, h.calls.length]) hap
  replace E := E.join [0, h.calls.length] e2 hbM hlM
  replace S := (S.ext e2).join (q := [0, h.calls.length]) hlM
  refine ⟨?_, ?_⟩
  · repeat (((refine ld_of (S.cell (by exact rfl)) ?_)))
    rfl
  refine E.bsl rfl rfl rfl (fun b3 w3 E e3 => ?_)
  replace S := S.ext e3
  refine ⟨?_, ?_⟩
  · repeat (((refine ld_of (S.cell (by exact rfl)) ?_)))
    rfl
  refine S.appCall (c' := newC p k args h.now) (by kernel_rfl) (E.blk (.head _)) (ht3.keepX e3) (hs3.keepX e3) rfl (by omega) (fun v' w4 L4 m4 S hcs => ?_)
  replace E := E.call m4
  repeat ((first | refine fad_of ?_ | refine nil_of ?_))
  refine S.stM hcs.one (by simp) (h' := { h with calls := h.calls ++ [newC p k args h.now] }) rfl hcs S.said (fun w5 m5 _ S => ?_)
  replace E := E.call m5
  repeat (first | (first | refine fad_of ?_ | refine nil_of ?_) | ((refine add_of (by (dsimp only; omega)) (by (dsimp only; omega)) ?_)) | ((refine ld_of (S.cell (by exact rfl)) ?_)))
  refine S.stM rfl (by simp) (h' := { h with calls := h.calls ++ [newC p k args h.now], born := h.born + 1 }) rfl S.calls S.said (fun w6 m6 _ S => ?_)
  replace E := E.call m6
  repeat (first | (first | refine fad_of ?_ | refine nil_of ?_) | ((refine sub_of (by (omega)) (by (simp only [List.length_append, List.length_cons, List.length_nil]; omega)) ?_)) | ((refine ld_of (S.cell (by exact rfl)) ?_)) | (refine Sl.len_of (by assumption) ?_))
  have hC : callH p h k args = { h with calls := h.calls ++ [newC p k args h.now], now := h.calls.length, born := h.born + 1 } := by
    unfold callH; rw [if_neg (by omega)]
  rw [hC] at hR
  refine S.stM rfl (by simp) (h' := { h with calls := h.calls ++ [newC p k args h.now], now := h.calls.length, born := h.born + 1 }) (vc' := v') (vs' := vs) ?_ S.calls S.said (fun w7 m7 _ S => ?_)
  · simp
  · exact hR _ _ _ (E.call m7).mu S
end Go.PT

/- The reference's heap at work: a value is put, a call returns, one goes back. -/
set_option linter.unusedVariables false
set_option linter.unusedSimpArgs false
namespace Go.PT
attribute [local irreducible] ldT ldsT stT stsT allocT boxT bldT bslT nilT fadT ixaT fldT extT lenT pickT binT notT cviT opT opU condT clT clvT ivT loopT arT ndT World.cell? World.frozen? World.alloc World.drew World.setCell Blk Cells Sl
section
variable {L0 L : Lab} {w0 w : World} {l : List (Nat × List Value)} {m b : Nat} {u vc vs : Value} {h : Hp} {v : V} {R : VW}
/-- A value is appended to those of the call that runs, and the row is put there. -/
theorem push_fin {b1 o1 b2 : Nat} {ut us : Value} {n cc : Nat} (S : SM L w m [u] h vc vs) (F : Foc L w vc h.now (nowC h) b1 o1 ut us) (h0 : 0 ≤ h.now) (h1 : h.now < h.calls.length) (hk : Blk w b2 [.int .i64 v.1, .int .i64 v.2]) (hn : n = 1) (hr : (nowC h).stack.length + 1 ≤ 1073741824)
    {t ty : Nat} (hc : appB PR t (PR.elem t) 2 = true) (hR : ∀ w' L', Mut L w L' w' → SM L' w' m [u] (pushH h v) vc vs → R (.tuple #[]) w') :
    opT PR (Builtin.append_ #[t, t] ty #[us, .slice (some ⟨b2, 0, none⟩) n cc]) w fun t40 w10 => nilT PR (.pointer (some ⟨b1, o1, none⟩)) fun t41 => fadT 3 t41 fun t42 => stT t42 t40 w10 fun w11 => R (.tuple #[]) w11 := by
  refine S.app1 (v := v) hc F h0 h1 rfl hk hn hr (fun v' w' L' m' S F hs => ?_)
  (refine nil_of ?_)
  (refine fad_of ?_)
  refine S.st F h0 h1 hs.one (by decide) (c' := pushC (nowC h) v) rfl F.temps hs (fun w2 m2 S F => ?_)
  exact hR _ _ (m'.trans m2) S
theorem push_alts (E : En L0 w0 L w l) (S : SM L w m [u] h vc vs) (h0 : 0 ≤ h.now) (h1 : h.now < h.calls.length) (hb : (b, [.int .i64 v.1, .int .i64 v.2]) ∈ l) (hr : (nowC h).stack.length + 1 ≤ 1073741824) (hR : ∀ w' L', Mut L w L' w' → SM L' w' m [u] (pushH h v) vc vs → R (.tuple #[]) w') :
    ldsT 2 (.pointer (some ⟨b, 0, none⟩)) (w.drew) fun t51 =>
  (clT PR 217 [(.pointer (some ⟨m, 0, none⟩))] (w.drew) fun t45 w6 =>
  (ldsT 2 (.pointer (some ⟨b, 0, none⟩)) w6 fun u => u = t51) ∧
  (clT PR 217 [(.pointer (some ⟨m, 0, none⟩))] w6 fun t47 w7 =>
  (ldsT 2 (.pointer (some ⟨b, 0, none⟩)) w7 fun u => u = t51) ∧
  nilT PR t47 fun t48 =>
  fadT 3 t48 fun t49 =>
  ldT t49 w7 fun t50 =>
  bslT 78 1 2 #[(.int .i64 0), (.int .i64 0)] [(0, 2, t51)] w7 fun t52 w8 =>
  (ldT t49 w8 fun u => u = t50) ∧
  opT PR (Builtin.append_ #[35, 35] 35 #[t50, t52]) w8 fun t53 w9 =>
  nilT PR t45 fun t54 =>
  fadT 3 t54 fun t55 =>
  stT t55 t53 w9 fun w10 =>
  R (.tuple #[]) w10) ∧
  (bslT 78 1 2 #[(.int .i64 0), (.int .i64 0)] [(0, 2, t51)] w6 fun t52 w11 =>
  clT PR 217 [(.pointer (some ⟨m, 0, none⟩))] w11 fun t47 w12 =>
  (ldsT 2 (.pointer (some ⟨b, 0, none⟩)) w12 fun u => u = t51) ∧
  nilT PR t47 fun t48 =>
  fadT 3 t48 fun t49 =>
  ldT t49 w12 fun t50 =>
  opT PR (Builtin.append_ #[35, 35] 35 #[t50, t52]) w12 fun t53 w13 =>
  nilT PR t45 fun t54 =>
  fadT 3 t54 fun t55 =>
  stT t55 t53 w13 fun w14 =>
  R (.tuple #[]) w14)) ∧
  (bslT 78 1 2 #[(.int .i64 0), (.int .i64 0)] [(0, 2, t51)] (w.drew) fun t52 w15 =>
  clT PR 217 [(.pointer (some ⟨m, 0, none⟩))] w15 fun t45 w16 =>
  (ldsT 2 (.pointer (some ⟨b, 0, none⟩)) w16 fun u => u = t51) ∧
  clT PR 217 [(.pointer (some ⟨m, 0, none⟩))] w16 fun t47 w17 =>
  (ldsT 2 (.pointer (some ⟨b, 0, none⟩)) w17 fun u => u = t51) ∧
  nilT PR t47 fun t48 =>
  fadT 3 t48 fun t49 =>
  ldT t49 w17 fun t50 =>
  opT PR (Builtin.append_ #[35, 35] 35 #[t50, t52]) w17 fun t53 w18 =>
  nilT PR t45 fun t54 =>
  fadT 3 t54 fun t55 =>
  stT t55 t53 w18 fun w19 =>
  R (.tuple #[]) w19) := by
  replace E := E.drew
  replace S := S.drew
  have same : ∀ {w' : World} {b1 o1 b2 o2 : Nat} {ut us ut2 us2 : Value}, Foc L w' vc h.now (nowC h) b1 o1 ut us → Foc L w' vc h.now (nowC h) b2 o2 ut2 us2 → b1 = b2 ∧ o1 = o2 := by
    intro w' b1 o1 b2 o2 ut us ut2 us2 F F2
    obtain ⟨n, c, o, e1, e2⟩ := F.at'
    obtain ⟨n', c', o', e3, e4⟩ := F2.at'
    rw [e1] at e3
    injection e3 with e5
    injection e5 with e5
    injection e5 with e5 e6
    exact ⟨e5, by omega⟩
  refine E.lds hb rfl ?_
  have done : ∀ {w' : World} {b1 o1 b2 o2 b3 : Nat} {ut us ut2 us2 : Value} (e : Ext w.drew w'), SM L w' m [u] h vc vs → Foc L w' vc h.now (nowC h) b1 o1 ut us → Foc L w' vc h.now (nowC h) b2 o2 ut2 us2 → Blk w' b3 [.int .i64 v.1, .int .i64 v.2] →
      opT PR (Builtin.append_ #[35, 35] 35 #[us2, .slice (some ⟨b3, 0, none⟩) 1 1]) w' fun t40 w10 => nilT PR (.pointer (some ⟨b1, o1, none⟩)) fun t41 => fadT 3 t41 fun t42 => stT t42 t40 w10 fun w11 => R (.tuple #[]) w11 := by
    intro w' b1 o1 b2 o2 b3 ut us ut2 us2 e S F F2 hk
    obtain ⟨rfl, rfl⟩ := same F F2
    exact push_fin S F2 h0 h1 hk rfl hr (by kernel_rfl) (fun w2 L2 m2 S2 => hR _ _ (((Mut.refl S.lim |> fun _ => Mut.pre ((Fr.refl _ w).drew.trans e) m2))) S2)
  refine ⟨?_, ?_⟩
  · refine c_now S h0 h1 (fun b1 o1 ut1 us1 F1 => ?_)
    replace E := E.drew
    replace S := S.drew
    refine ⟨?_, ?_⟩
    · refine E.lds hb rfl rfl
    refine ⟨?_, ?_⟩
    · refine c_now S h0 h1 (fun b2 o2 ut2 us2 F2 => ?_)
      replace E := E.drew
      replace S := S.drew
      refine ⟨E.lds hb rfl rfl, ?_⟩
      (refine nil_of ?_)
      (refine fad_of ?_)
      refine ld_of (F2.cells.at 3 rfl) ?_
      refine E.bsl rfl rfl rfl (fun b3 w3 E e3 => ?_)
      refine ⟨ld_of ((F2.ext e3).cells.at 3 rfl) rfl, ?_⟩
      exact done ((((Fr.refl _ _).drew).drew).trans e3) (S.ext e3) (F1.drew.ext e3) (F2.ext e3) (E.blk (.head _))
    · refine E.bsl rfl rfl rfl (fun b3 w3 E e3 => ?_)
      refine c_now (S.ext e3) h0 h1 (fun b2 o2 ut2 us2 F2 => ?_)
      replace E := E.drew
      refine ⟨E.lds (.tail _ hb) rfl rfl, ?_⟩
      (refine nil_of ?_)
      (refine fad_of ?_)
      refine ld_of (F2.cells.at 3 rfl) ?_
      exact done (((Fr.refl _ _).drew).trans e3).drew (S.ext e3).drew (F1.ext e3).drew F2 (E.blk (.head _))
  · refine E.bsl rfl rfl rfl (fun b3 w3 E e3 => ?_)
    refine c_now (S.ext e3) h0 h1 (fun b1 o1 ut1 us1 F1 => ?_)
    replace E := E.drew
    refine ⟨E.lds (.tail _ hb) rfl rfl, ?_⟩
    refine c_now (S.ext e3).drew h0 h1 (fun b2 o2 ut2 us2 F2 => ?_)
    replace E := E.drew
    refine ⟨E.lds (.tail _ hb) rfl rfl, ?_⟩
    (refine nil_of ?_)
    (refine fad_of ?_)
    refine ld_of (F2.cells.at 3 rfl) ?_
    exact done e3.drew.drew (S.ext e3).drew.drew F1.drew F2 (E.blk (.head _))
end
theorem c_ret {L : Lab} {w : World} {m : Nat} {u vc vs : Value} {h : Hp} {v : V} {R : VW} (S : SM L w m [u] h vc vs) (h0 : 0 ≤ h.now) (h1 : h.now < h.calls.length) (hs : (nowC h).sender < h.calls.length) (hv : v.1 = 2 → 0 ≤ v.2 ∧ v.2 < h.calls.length) (hr : h.said.length + 1 ≤ 1073741824)
    (hr2 : ∀ i : Int, 0 ≤ i → i < h.calls.length → (callAt h.calls i).stack.length ≤ 1000000)
    (hR : ∀ w' L' vs', Mut L w L' w' → SM L' w' m [u] (retH h v) vc vs' → R (.tuple #[]) w') : clT PR 260 [.pointer (some ⟨m, 0, none⟩), .agg #[.int .i64 v.1, .int .i64 v.2]] w R := by
  refine Fspec_l11Heap_ret.cl ?_
  unfold Fspec_l11Heap_ret
  have E := En.init S.lim
  refine E.box (fun b1 w1 E e1 => ?_)
  replace S := S.ext e1
  refine c_now S h0 h1 (fun b2 o2 ut us F => ?_)
  replace E := E.drew
  replace S := S.drew
  repeat (first | (first | refine fad_of ?_ | refine nil_of ?_) | (first | refine ld_of (S.cell (by exact rfl)) ?_ | refine ld_of (F.cells.at _ (by exact rfl)) ?_))
  refine c_die S h0 h1 (fun w3 m3 S => ?_)
  replace E := E.call m3
  repeat ((first | refine fad_of ?_ | refine nil_of ?_))
  refine S.stM rfl (by simp) (h' := leaveH h) rfl S.calls S.said (fun w4 m4 _ S => ?_)
  replace E := E.call m4
  repeat (((refine lss_of ?_)))
  refine condLt_of (fun hneg => ?_) (fun hneg => ?_)
  · repeat (((refine E.lds (by (exact .head _)) (by exact rfl) ?_)))
    refine c_say S (by rw [leave_len]; exact hv) hr (fun w5 L5 vs5 m5 S => ?_)
    replace E := E.call m5
    repeat ((first | refine fad_of ?_ | refine nil_of ?_))
    refine S.stM rfl (by simp) (h' := { sayH (leaveH h) v with code := 1 }) rfl S.calls S.said (fun w6 m6 _ S => ?_)
    exact hR _ _ _ (E.call m6).mu (by unfold retH; rw [if_pos hneg]; exact S)
  · have hn : (leaveH h).now = (nowC h).sender := rfl
    refine push_alts E S (by rw [hn]; exact hneg) (by rw [hn, leave_len]; exact hs) (.head _) ?_ (fun w5 L5 m5 S => ?_)
    · unfold nowC
      rw [leave_calls, callAt_put h0 h1 (by rw [hn]; exact hneg)]
      split
      · unfold dieC; simp
      · have := hr2 (nowC h).sender hneg hs
        have : (callAt h.calls (leaveH h).now).stack.length ≤ 1000000 := this
        omega
    · exact hR _ _ _ (E.call m5).mu (by unfold retH; rw [if_neg (by omega)]; exact S)
end Go.PT

/- The reference's heap at work: going back, an operation, a step. -/
set_option linter.unusedVariables false
set_option linter.unusedSimpArgs false
namespace Go.PT
attribute [local irreducible] ldT ldsT stT stsT allocT boxT bldT bslT nilT fadT ixaT fldT extT lenT pickT binT notT cviT opT opU condT clT clvT ivT loopT arT ndT World.cell? World.frozen? World.alloc World.drew World.setCell Blk Cells Sl
theorem backL_more {to : Int} : ∀ (l : List Int) (n n' : Nat) (h : Hp), Way h.calls h.now l → to ∈ l → l.length ≤ n + 1 → l.length ≤ n' + 1 → backL n h to = backL n' h to
  | [], _, _, _, _, ht, _, _ => by simp at ht
  | x :: l, n, n', h, hw, ht, hl, hl' => by
    have h0 : 0 ≤ h.now := by rw [hw.1]; exact hw.2.1
    by_cases e : h.now = to
    · cases n <;> cases n' <;> simp [backL, e]
    · have hlw := leave_way hw h0
      have ht' : to ∈ l := by
        rcases List.mem_cons.mp ht with h1 | h1
        · exact absurd (hw.1.trans h1.symm) e
        · exact h1
      have hpos := List.length_pos_of_mem ht'
      rw [List.length_cons] at hl hl'
      cases n with
      | zero => omega
      | succ n =>
        cases n' with
        | zero => omega
        | succ n' =>
          unfold backL
          rw [if_neg e, if_neg e]
          exact backL_more l n n' _ hlw ht' (by omega) (by omega)
theorem hok_small {p : Pg} {h : Hp} (H : HOK p h) : h.calls.length ≤ 30 ∧ ∀ i : Int, 0 ≤ i → i < h.calls.length → (callAt h.calls i).stack.length ≤ 6 := by
  have h1 := H.size
  have h2 := H.born2
  refine ⟨by omega, fun i h0 h1 => ?_⟩
  have := (H.at h0 h1).stack
  omega
theorem c_back {L : Lab} {w : World} {m : Nat} {u vc vs : Value} {p : Pg} {h : Hp} {to : Int} {v : V} {R : VW} (S : SM L w m [u] h vc vs) (H : HOK p h) (hr : h.code = 0) (t0 : 0 ≤ to) (t1 : to < h.calls.length)
    (hR : ∀ w' L', Mut L w L' w' → SM L' w' m [u] (backH h to v) vc vs → R (.tuple #[]) w') : clT PR 262 [.pointer (some ⟨m, 0, none⟩), .int .i64 to, .agg #[.int .i64 v.1, .int .i64 v.2]] w R := by
  refine Fspec_l11Heap_back.cl ?_
  unfold Fspec_l11Heap_back
  have E := En.init S.lim
  refine E.box (fun b1 w1 E e1 => ?_)
  replace S := S.ext e1
  repeat (first | (first | refine fad_of ?_ | refine nil_of ?_) | ((refine ld_of (S.cell (by exact rfl)) ?_)))
  refine S.ix t0 t1 (fun b o ut us F => ?_)
  repeat (first | ((refine fad_of ?_)) | ((refine ld_of (F.cells.at _ (by exact rfl)) ?_)))
  refine cond_of (fun hd => ?_) (fun hd => ?_)
  · repeat ((first | refine fad_of ?_ | refine nil_of ?_))
    refine S.stM rfl (by simp) (h' := { h with code := 2 }) rfl S.calls S.said (fun w2 m2 _ S => ?_)
    exact hR _ _ (E.call m2).mu (by unfold backH; rw [if_pos hd]; exact S)
  obtain ⟨l, hw, hcov, hroom⟩ := H.way
  have hin := hcov to t0 t1 hd
  obtain ⟨b1', b2', b3', b4', b5', b6'⟩ := back_ok h.calls.length l h hw H hr hin (by have := hw.len; omega)
  refine loop_of (fun n s wx => ∃ (g : Hp) (l : List Int), s = [.pointer (some ⟨m, 0, none⟩), .int .i64 to, .pointer (some ⟨b1, 0, none⟩)] ∧ En L w L wx [(b1, [.int .i64 v.1, .int .i64 v.2])] ∧ SM L wx m [u] g vc vs ∧ HOK p g ∧ g.code = 0 ∧ Way g.calls g.now l ∧ to ∈ l ∧ l.length = n ∧ g.calls.length = h.calls.length ∧ backL h.calls.length g to = backL h.calls.length h to) ?_ (m := l.length)
    ⟨h, l, rfl, E, S, H, hr, hw, hin, rfl, rfl, rfl⟩
  clear hroom hcov hin E S F
  rintro n s wx Kn ⟨g, l, rfl, E, S, G, gr, gw, gin, hn, gl, gb⟩ hKn
  intro _
  simp only [List.headD_cons, List.tail_cons]
  have g0 := G.now0 gr
  have g1 := G.now2
  repeat (first | (first | refine fad_of ?_ | refine nil_of ?_ | refine neq_of ?_) | ((refine ld_of (S.cell (by exact rfl)) ?_)))
  refine condNe_of (fun hne => ?_) (fun heq => ?_)
  · repeat (first | (first | refine fad_of ?_ | refine nil_of ?_) | ((refine ld_of (S.cell (by exact rfl)) ?_)))
    refine c_now S g0 g1 (fun b2 o2 ut2 us2 F => ?_)
    replace E := E.drew
    replace S := S.drew
    repeat (first | (first | refine fad_of ?_ | refine nil_of ?_) | ((refine ld_of (F.cells.at _ (by exact rfl)) ?_)))
    refine S.stM rfl (by simp) (h' := { g with now := (nowC g).sender }) rfl S.calls S.said (fun w4 m4 _ S => ?_)
    replace E := E.call m4
    refine c_die S g0 g1 (fun w5 m5 S => ?_)
    replace E := E.call m5
    have hgw := leave_way gw g0
    have hl1 := gw.len
    cases l with
    | nil => simp at gin
    | cons x l =>
      have gin' : to ∈ l := by
        rcases List.mem_cons.mp gin with h1 | h1
        · exact absurd (gw.1.trans h1.symm) hne
        · exact h1
      have hgw : Way (leaveH g).calls (leaveH g).now l := hgw
      have hs : 0 ≤ (nowC g).sender := by
        rcases Int.lt_or_le (nowC g).sender 0 with hneg | hpos
        · have e : l = [] := hgw.det (m := []) hneg
          rw [e] at gin'; simp at gin'
        · exact hpos
      obtain ⟨G', _⟩ := G.leave gr hs
      refine hKn l.length _ _ (by rw [← hn]; simp) ⟨leaveH g, l, rfl, E, S, G', gr, hgw, gin', rfl, leave_len.trans gl, ?_⟩
      have hl2 := hgw.len
      rw [leave_len, gl] at hl2
      rw [← gb, List.length_cons, gl] at *
      cases hN : h.calls.length with
      | zero => rw [hN] at hl2; have := List.length_pos_of_mem gin'; omega
      | succ N =>
        rw [hN] at hl1 hl2
        conv => rhs; unfold backL
        rw [if_neg hne]
        exact backL_more l (N + 1) N _ hgw gin' (by omega) (by omega)
  · intro _
    have e : backL h.calls.length g to = g := by cases h.calls.length <;> simp [backL, heq]
    rw [e] at gb
    refine push_alts E S g0 g1 (.head _) ?_ (fun w5 L5 m5 S => ?_)
    · have := (G.at g0 g1).stack
      have : ((nowC g).stack.length : Int) ≤ 6 := this
      omega
    · refine hR _ _ (E.call m5).mu ?_
      unfold backH
      rw [if_neg (by rw [hd]; decide), ← gb]
      exact S
end Go.PT
