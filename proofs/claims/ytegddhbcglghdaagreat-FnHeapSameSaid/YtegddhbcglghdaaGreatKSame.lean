/- Two values are the same, or not. The contract. -/
import Derived.Test.YtegddhbcglghdaaGreatGJ
import Derived.Test.YtegddhbcglghdaaGreatLTextSame
/- Two values are the same, or not. -/
set_option linter.unusedVariables false
set_option linter.unusedSimpArgs false
set_option maxRecDepth 100000
namespace Go.PT
attribute [local irreducible] ldT ldsT stT stsT allocT boxT bldT bslT nilT fadT ixaT fldT extT lenT pickT binT notT cviT opT opU condT clT clvT ivT loopT arT ndT World.cell? World.frozen? World.alloc World.drew World.setCell Blk Cells Sl
theorem c_heapSame {w : World} {code more : List Int} {v u : Value} {R : VW} (h : Bt w code v) (hb : ∀ x ∈ code, 0 ≤ x ∧ x ≤ 255) (h' : Bt w more u) (hR : ∀ w', Ext w w' → R (.bool true) w') : clT PR 19 [v, u] w R := by
  refine Flaws_FnHeapSame.cl ?_
  unfold Flaws_FnHeapSame
  refine h.len_of ?_
  (refine gtr_of ?_)
  refine condGt_of (fun _ => hR _ (Fr.refl _ _)) (fun hbig => ?_)
  refine h'.len_of ?_
  (refine gtr_of ?_)
  refine condGt_of (fun _ => hR _ (Fr.refl _ _)) (fun hbig' => ?_)
  refine c_drawStep h hb (fun up uc us w1 p g D => ?_)
  have hm0 := D.meth.anyOld (q := [])
  have hc0 := D.view.calls.anyOld (q := [])
  have hs0 := D.view.said.anyOld (q := [])
  have hBn := D.small.n
  replace hR : ∀ w', Ext w1 w' → R (.bool true) w' := fun w' e => hR w' (D.ext.trans e)
  refine ext_of rfl ?_
  refine ext_of rfl ?_
  have E := En.start w1
  refine E.al (fun b5 w2 E _ => ?_)
  refine E.al (fun b6 w3 E _ => ?_)
  refine En.sts' (vs := [up]) [_] rfl E rfl rfl (by intro x hx; simp at hx; subst hx; exact hm0.one) (fun w4 E e4 => ?_)
  refine En.sts' (vs := heapCells g uc us) [] rfl E rfl rfl (by intro x hx; simp only [heapCells, List.mem_cons, List.not_mem_nil, or_false] at hx; rcases hx with h | h | h | h | h <;> rw [h] <;> first | rfl | exact hc0.one | exact hs0.one) (fun w5 E e5 => ?_)
  refine bld_of (cs := #[.int .i64 0, .int .i64 0]) rfl ?_
  (refine fad_of ?_)
  replace E := E.drew
  refine E.ld (by (exact .head _)) rfl ?_
  refine ⟨?_, ?_⟩
  refine c_lmNum (fun w0 e0 => ?_)
  replace E := E.ext e0
  refine ⟨E.ld (by (exact .head _)) rfl rfl, ?_⟩
  refine ⟨?_, ?_⟩
  refine c_lmNum (fun w0 e0 => ?_)
  replace E := E.ext e0
  refine ⟨E.ld (by (exact .head _)) rfl rfl, ?_⟩
  refine ⟨?_, ?_⟩
  refine c_lmOf (fun w0 e0 => ?_)
  replace E := E.ext e0
  refine ⟨E.ld (by (exact .head _)) rfl rfl, ?_⟩
  refine max_of ?_
  refine c_lmOf (fun w0 e0 => ?_)
  replace E := E.ext e0
  refine bsl_of' rfl rfl rfl (fun bv wv ev hbv kv => ?_)
  replace E := E.ext ev
  rotate_left
  refine max_of ?_
  refine c_lmOf (fun w0 e0 => ?_)
  replace E := E.ext e0
  refine ⟨E.ld (by (exact .head _)) rfl rfl, ?_⟩
  refine c_lmOf (fun w0 e0 => ?_)
  replace E := E.ext e0
  refine bsl_of' rfl rfl rfl (fun bv wv ev hbv kv => ?_)
  replace E := E.ext ev
  rotate_left
  refine max_of ?_
  refine c_lmNum (fun w0 e0 => ?_)
  replace E := E.ext e0
  refine ⟨E.ld (by (exact .head _)) rfl rfl, ?_⟩
  refine c_lmOf (fun w0 e0 => ?_)
  replace E := E.ext e0
  refine ⟨E.ld (by (exact .head _)) rfl rfl, ?_⟩
  refine c_lmOf (fun w0 e0 => ?_)
  replace E := E.ext e0
  refine bsl_of' rfl rfl rfl (fun bv wv ev hbv kv => ?_)
  replace E := E.ext ev
  rotate_left
  refine max_of ?_
  refine c_lmNum (fun w0 e0 => ?_)
  replace E := E.ext e0
  refine ⟨E.ld (by (exact .head _)) rfl rfl, ?_⟩
  refine c_lmNum (fun w0 e0 => ?_)
  replace E := E.ext e0
  refine ⟨E.ld (by (exact .head _)) rfl rfl, ?_⟩
  refine c_lmOf (fun w0 e0 => ?_)
  replace E := E.ext e0
  refine ⟨E.ld (by (exact .head _)) rfl rfl, ?_⟩
  refine c_lmOf (fun w0 e0 => ?_)
  replace E := E.ext e0
  refine bsl_of' rfl rfl rfl (fun bv wv ev hbv kv => ?_)
  replace E := E.ext ev
  rotate_left
  all_goals
    have kv2 : Blk wv bv [.int .i64 0, .int .i64 0, .int .i64 1, .int .i64 0, .int .i64 1, .int .i64 5, .int .i64 2, .int .i64 0, .int .i64 2, .int .i64 (max g.now 0)] := kv
    have hvs : Sl kPair Any wv [] ([(0, 0), (1, 0), (1, 5), (2, 0), (2, max g.now 0)] : List V) (.slice (some ⟨bv, 0, none⟩) 5 5) := sl_flat (rest := []) (by simpa using kv2) rfl (Nat.le_refl _) kv.lt
    refine h'.len_of ?_
    refine rem_of (by omega) ?_
    have hi := tmod_range (more.length : Int) 5 (by omega) (by omega)
    generalize Int.tmod (more.length : Int) 5 = i at hi
    refine pair_ix hvs hi.1 hi.2 (fun b3 o3 hc => ?_)
    refine lds_of hc rfl ?_
    generalize hva : pairAt ([(0, 0), (1, 0), (1, 5), (2, 0), (2, max g.now 0)] : List V) i = a at hc ⊢
    clear hc hva
    refine E.als (vs := [.int .i64 a.1, .int .i64 a.2]) rfl rfl rfl (by simp [Value.oneCell']) (fun b8 wv8 E ev8 => ?_)
    refine h'.len_of ?_
    have hh5 := tdiv_range (more.length : Int) 5 (by omega) (by omega)
    refine quo_of (by omega) (by omega) (by omega) ?_
    generalize Int.tdiv (more.length : Int) 5 = m5 at hh5
    refine rem_of (by omega) ?_
    have hj := tmod_range m5 5 (by omega) (by omega)
    generalize Int.tmod m5 5 = j at hj
    refine pair_ix (hvs.ext ev8) hj.1 hj.2 (fun b3 o3 hc => ?_)
    refine lds_of hc rfl ?_
    generalize hvb : pairAt ([(0, 0), (1, 0), (1, 5), (2, 0), (2, max g.now 0)] : List V) j = b at hc ⊢
    clear hc hvb hvs
    refine E.als (vs := [.int .i64 b.1, .int .i64 b.2]) rfl rfl rfl (by simp [Value.oneCell']) (fun b9 wv9 E ev9 => ?_)
    refine E.lds (by (exact .tail _ (.tail _ (.tail _ (.head _))))) rfl ?_
    refine E.lds (by (exact .tail _ (.tail _ (.head _)))) rfl ?_
    refine bld_of (cs := #[.int .i64 6, .int .i64 0]) rfl ?_
    refine E.lds (by (exact .tail _ (.head _))) rfl ?_
    refine E.lds (by (exact .head _)) rfl ?_
    refine bsl_of' rfl rfl rfl (fun bs ws es hbs ks => ?_)
    replace E := E.ext es
    have ks2 : Blk ws bs [.int .i64 a.1, .int .i64 a.2, .int .i64 b.1, .int .i64 b.2] := ks
    have hst : Sl kPair Any ws [] [a, b] (.slice (some ⟨bs, 0, none⟩) 2 2) := sl_flat (rest := []) (by simpa using ks2) rfl (Nat.le_refl _) ks.lt
    have hsz := E.size
    refine c_lmWith (op := (6, 0)) hsz (hm0.oldExt E.toExt) D.prog ⟨hc0.oldExt E.toExt, hs0.oldExt E.toExt⟩ D.small hst (by simp) (fun wa q g2 u2 uc2 us2 ok ea hq hql hqm hg hB2 hok => ?_)
    have W : Wd w1.heap.size ws.heap.size wa.heap.size wa q g2 u2 uc2 us2 := ⟨hq, hg⟩
    have hsz2 := ea.size
    replace E := E.ext ea
    refine ext_of rfl ?_
    refine ext_of rfl ?_
    refine ext_of rfl ?_
    refine al_of' (fun b1 wb eb hb1 kb1 => ?_)
    replace E := E.add eb hb1 kb1
    refine al_of' (fun b2 wb2 eb2 hb2 kb2 => ?_)
    replace E := E.add eb2 hb2 kb2
    replace hb2 : wa.heap.size ≤ b2 := Nat.le_trans eb.size hb2
    replace W := (W.ext eb).ext eb2
    clear kb1 kb2
    refine En.sts' (vs := [u2]) [_] rfl E rfl rfl (by intro x hx; simp at hx; subst hx; exact W.meth.one) (fun wc E ec => ?_)
    replace W := W.set ec.fr (.inr hb1) hsz hsz2
    refine En.sts' (vs := heapCells g2 uc2 us2) [] rfl E rfl rfl (by intro x hx; simp only [heapCells, List.mem_cons, List.not_mem_nil, or_false] at hx; rcases hx with h | h | h | h | h <;> rw [h] <;> first | rfl | exact W.rows.calls.one | exact W.rows.said.one) (fun wd E ed => ?_)
    replace W := W.set ed.fr (.inr hb2) hsz hsz2
    refine E.lds (by (exact .tail _ (.head _))) rfl ?_
    refine E.lds (by (exact .head _)) rfl ?_
    have hqm2 : ∀ m ∈ q, m.ops.length ≤ 1073741824 := fun m hm => by have := hqm m hm; omega
    have hB2n := hB2.ns
    refine c_implStep W.meth.betAny (by omega) hqm2 (W.view hB2) (by omega) (fun wf M x1 x2 ef hbf hlf hO => ?_)
    replace E := E.ext ef
    replace W := W.ext ef
    have hx := hO.calls.one
    have hx' := hO.said.one
    refine ext_of rfl ?_
    refine ext_of rfl ?_
    refine E.als (vs := heapCells (runR q g2 1).1 x1 x2) rfl rfl rfl (by intro x hx; simp only [heapCells, List.mem_cons, List.not_mem_nil, or_false] at hx; rcases hx with h | h | h | h | h <;> rw [h] <;> first | rfl | assumption) (fun bx wg E eg => ?_)
    replace W := W.ext eg
    have hO : HOwn M wg (runR q g2 1).1 x1 x2 := ⟨hO.calls.keepX eg, hO.said.keepX eg⟩
    (refine not_of ?_)
    refine condN_of (fun hf => ?_) (fun ht => ?_)
    · refine E.lds (by (exact .tail _ (.tail _ (.head _)))) rfl ?_
      refine E.lds (by (exact .tail _ (.head _))) rfl ?_
      refine c_specHeapOk W.meth.betAny (by omega) hqm2 (W.view hB2) (fun wh eh => ?_)
      refine eqlB_of (by kernel_rfl) ?_
      rw [run_one, beq_self_eq_true]
      exact hR _ (E.toExt.trans eh)
    · obtain ⟨W2, rfl, rfl⟩ := hok ht
      have hrun := run_with W2
      rw [hrun] at hO E ⊢
      have H2 := W2.gok
      have hr2 : (withH g [a, b]).code = 0 := W2.1.2.1
      have hX := step_view H2 hr2 hB2 hO
      have hG := W.view hB2
      have r := W2.range
      have f2 := H2.at r.1 r.2
      have p0 := f2.pc0
      have p1 := f2.pc1
      have pl := (H2.meth r.1 r.2).ops
      have kx : Blk wg bx (heapCells (stepH (withP p g (6, 0)) (withH g [a, b])) x1 x2) := E.blk (by (exact .head _))
      have kg : Blk wg b2 (heapCells (withH g [a, b]) uc2 us2) := E.blk (by (exact .tail _ (.head _)))
      have k8 : Blk wg b8 [.int .i64 a.1, .int .i64 a.2] := E.blk (by (exact .tail _ (.tail _ (.tail _ (.tail _ (.head _))))))
      have k9 : Blk wg b9 [.int .i64 b.1, .int .i64 b.2] := E.blk (by (exact .tail _ (.tail _ (.tail _ (.head _)))))
      replace hR : ∀ w', Ext wg w' → R (.bool true) w' := fun w' e => hR w' (E.toExt.trans e)
      clear E W hO hrun
      have E := En.start wg
      refine lds_of (k8.ext E.toExt).cells rfl ?_
      refine lds_of (k9.ext E.toExt).cells rfl ?_
      have hstep := step_same W2
      refine eqlP_of (u := a) (v := b) (by kernel_rfl) ?_
      refine condP_of (fun hd => ?_) (fun hd => ?_)
      · intro _
        refine condT_true ?_
        replace E := E.drew
        refine lds_of (kx.ext E.toExt).cells rfl ?_
        refine lds_of (kg.ext E.toExt).cells rfl ?_
        refine c_lmNum (fun w6 e6 => ?_)
        replace E := E.ext e6
        refine ⟨lds_of (kg.ext E.toExt).cells rfl rfl, ?_⟩
        refine ⟨lds_of (kx.ext E.toExt).cells rfl rfl, ?_⟩
        refine bsl_of' rfl rfl rfl (fun b7 w7 e7 hb7 k7 => ?_)
        replace E := E.ext e7
        refine ⟨lds_of (kg.ext E.toExt).cells rfl rfl, ?_⟩
        refine ⟨lds_of (kx.ext E.toExt).cells rfl rfl, ?_⟩
        have kst : Blk w7 b7 [.int .i64 1, .int .i64 1] := k7
        have hst : Sl kPair Any w7 [] [(1, 1)] (.slice (some ⟨b7, 0, none⟩) 1 1) := sl_flat (rest := []) (by simpa using kst) rfl (Nat.le_refl _) kst.lt
        refine c_lmAfter (hG.ext E.toExt) r.1 r.2 p0 (by show (callAt _ _).pc ≤ 1000; omega) hst (by simp) (fun wi Mi y1 y2 ei hbi hli hO2 => ?_)
        replace E := E.ext ei
        refine ⟨lds_of (kx.ext E.toExt).cells rfl rfl, ?_⟩
        have he : stepH (withP p g (6, 0)) (withH g [a, b]) = afterH (withH g [a, b]) [(1, 1)] := by rw [hstep, beq_iff_eq.mpr hd]; rfl
        rw [← he] at hO2 ⊢
        refine c_lmHeap (hX.ext E.toExt) (step_view H2 hr2 hB2 hO2) (fun wj ej => ?_)
        exact hR _ (E.toExt.trans ej)
      · intro _
        refine condT_true ?_
        replace E := E.drew
        refine lds_of (kx.ext E.toExt).cells rfl ?_
        refine lds_of (kg.ext E.toExt).cells rfl ?_
        refine c_lmNum (fun w8 e8 => ?_)
        replace E := E.ext e8
        refine ⟨lds_of (kg.ext E.toExt).cells rfl rfl, ?_⟩
        refine ⟨lds_of (kx.ext E.toExt).cells rfl rfl, ?_⟩
        refine bsl_of' rfl rfl rfl (fun b9 w9 e9 hb9 k9 => ?_)
        replace E := E.ext e9
        refine ⟨lds_of (kg.ext E.toExt).cells rfl rfl, ?_⟩
        refine ⟨lds_of (kx.ext E.toExt).cells rfl rfl, ?_⟩
        have kst : Blk w9 b9 [.int .i64 1, .int .i64 0] := k9
        have hst : Sl kPair Any w9 [] [(1, 0)] (.slice (some ⟨b9, 0, none⟩) 1 1) := sl_flat (rest := []) (by simpa using kst) rfl (Nat.le_refl _) kst.lt
        refine c_lmAfter (hG.ext E.toExt) r.1 r.2 p0 (by show (callAt _ _).pc ≤ 1000; omega) hst (by simp) (fun wi Mi y1 y2 ei hbi hli hO2 => ?_)
        replace E := E.ext ei
        refine ⟨lds_of (kx.ext E.toExt).cells rfl rfl, ?_⟩
        have he : stepH (withP p g (6, 0)) (withH g [a, b]) = afterH (withH g [a, b]) [(1, 0)] := by rw [hstep, beq_eq_false_iff_ne.mpr hd]; rfl
        rw [← he] at hO2 ⊢
        refine c_lmHeap (hX.ext E.toExt) (step_view H2 hr2 hB2 hO2) (fun wj ej => ?_)
        exact hR _ (E.toExt.trans ej)
end Go.PT
