/- A method is called. The contract. -/
import Derived.Test.YtegddhbcglghdaaGreatGJ
import Derived.Test.YtegddhbcglghdaaGreatLTextCall
/- A method is called. -/
set_option linter.unusedVariables false
set_option linter.unusedSimpArgs false
set_option maxRecDepth 100000
namespace Go.PT
attribute [local irreducible] ldT ldsT stT stsT allocT boxT bldT bslT nilT fadT ixaT fldT extT lenT pickT binT notT cviT opT opU condT clT clvT ivT loopT arT ndT World.cell? World.frozen? World.alloc World.drew World.setCell Blk Cells Sl
theorem c_heapCall {w : World} {code more : List Int} {v u : Value} {R : VW} (h : Bt w code v) (hb : ∀ x ∈ code, 0 ≤ x ∧ x ≤ 255) (h' : Bt w more u) (hR : ∀ w', Ext w w' → R (.bool true) w') : clT PR 7 [v, u] w R := by
  refine Flaws_FnHeapCall.cl ?_
  unfold Flaws_FnHeapCall
  refine h.len_of ?_
  (refine gtr_of ?_)
  refine condGt_of (fun _ => hR _ (Fr.refl _ _)) (fun hbig => ?_)
  refine h'.len_of ?_
  (refine gtr_of ?_)
  refine condGt_of (fun _ => hR _ (Fr.refl _ _)) (fun hbig' => ?_)
  refine c_drawStep h hb (fun up uc us w1 p g D => ?_)
  have hm0 := D.meth.anyOld (q := [])
  have hc0 := D.view.calls.anyOld (q := [])
  have hs0 := D.view.said.anyOld (q := [])
  have hBn := D.small.n
  replace hR : ∀ w', Ext w1 w' → R (.bool true) w' := fun w' e => hR w' (D.ext.trans e)
  refine ext_of rfl ?_
  refine ext_of rfl ?_
  have E := En.start w1
  refine E.al (fun b5 w2 E _ => ?_)
  refine E.al (fun b6 w3 E _ => ?_)
  refine En.sts' (vs := [up]) [_] rfl E rfl rfl (by intro x hx; simp at hx; subst hx; exact hm0.one) (fun w4 E e4 => ?_)
  refine En.sts' (vs := heapCells g uc us) [] rfl E rfl rfl (by intro x hx; simp only [heapCells, List.mem_cons, List.not_mem_nil, or_false] at hx; rcases hx with h | h | h | h | h <;> rw [h] <;> first | rfl | exact hc0.one | exact hs0.one) (fun w5 E e5 => ?_)
  refine h'.len_of ?_
  refine rem_of (by omega) ?_
  have hk := tmod_range (more.length : Int) 4 (by omega) (by omega)
  generalize Int.tmod (more.length : Int) 4 = k at hk
  replace E := E.drew
  refine E.lds (by (exact .tail _ (.head _))) rfl ?_
  refine E.lds (by (exact .head _)) rfl ?_
  refine bld_of (cs := #[.int .i64 9, .int .i64 k]) rfl ?_
  refine E.ar2 (.inl ⟨rfl, rfl⟩) (fun w6 s6 l6 E e6 S _ => ?_)
  refine c_lmNum (fun w7 e7 => ?_)
  replace E := E.ext e7
  refine ⟨E.lds (S.mem (by (exact .head _))) rfl rfl, ?_⟩
  refine ⟨E.lds (S.mem (by (exact .tail _ (.head _)))) rfl rfl, ?_⟩
  refine E.ar2 S (fun w8 s8 l8 E e8 S _ => ?_)
  refine c_lmNum (fun w9 e9 => ?_)
  replace E := E.ext e9
  refine ⟨E.lds (S.mem (by (exact .head _))) rfl rfl, ?_⟩
  refine ⟨E.lds (S.mem (by (exact .tail _ (.head _)))) rfl rfl, ?_⟩
  refine E.ar2 S (fun w10 s10 l10 E e10 S _ => ?_)
  refine c_lmNum (fun w11 e11 => ?_)
  replace E := E.ext e11
  refine ⟨E.lds (S.mem (by (exact .head _))) rfl rfl, ?_⟩
  refine ⟨E.lds (S.mem (by (exact .tail _ (.head _)))) rfl rfl, ?_⟩
  refine E.ar2 S (fun w12 s12 l12 E e12 S _ => ?_)
  refine bsl_of' rfl rfl rfl (fun b13 w13 e13 hb13 k13 => ?_)
  replace E := E.ext e13
  refine ⟨E.lds (S.mem (by (exact .head _))) rfl rfl, ?_⟩
  refine ⟨E.lds (S.mem (by (exact .tail _ (.head _)))) rfl rfl, ?_⟩
  refine E.ar2 S (fun w14 s14 l14 E e14 S _ => ?_)
  have kst : Blk w14 b13 [.int .i64 1, .int .i64 7, .int .i64 1, .int .i64 8, .int .i64 1, .int .i64 9] := Blk.ext k13 e14
  have hst : Sl kPair Any w14 [] [(1, 7), (1, 8), (1, 9)] (.slice (some ⟨b13, 0, none⟩) 3 3) := sl_flat (rest := []) (by simpa using kst) rfl (Nat.le_refl _) kst.lt
  have hlt : ∀ x ∈ l14, w1.heap.size ≤ x.1 ∧ x.1 < w14.heap.size := fun x hx => ⟨(E.loc x hx).2, (E.loc x hx).1.1.lt⟩
  have hsz := E.size
  refine c_lmWith (op := (9, k)) hsz (hm0.oldExt E.toExt) D.prog ⟨hc0.oldExt E.toExt, hs0.oldExt E.toExt⟩ D.small hst (by simp) (fun wa q g2 u2 uc2 us2 ok ea hq hql hqm hg hB2 hok => ?_)
  have W : Wd w1.heap.size w14.heap.size wa.heap.size wa q g2 u2 uc2 us2 := ⟨hq, hg⟩
  have hsz2 := ea.size
  replace E := E.ext ea
  refine ext_of rfl ?_
  refine ext_of rfl ?_
  refine ext_of rfl ?_
  refine E.ar2 S (fun wb sb lb E eb S hnew => ?_)
  replace W := W.ext eb
  refine S.nd (fun b1 b2 hs2 hl2 => ?_)
  subst hs2 hl2
  have hb1 := hnew (b1, _) (.head _)
  have hb2 := hnew (b2, _) (.tail _ (.head _))
  have hb1 : (w1.heap.size ≤ b1 ∧ b1 < w14.heap.size) ∨ wa.heap.size ≤ b1 := hb1.imp (fun h => hlt _ h) (fun h => h)
  have hb2 : (w1.heap.size ≤ b2 ∧ b2 < w14.heap.size) ∨ wa.heap.size ≤ b2 := hb2.imp (fun h => hlt _ h) (fun h => h)
  clear hnew S hlt
  refine En.sts' (vs := [u2]) [] rfl E rfl rfl (by intro x hx; simp at hx; subst hx; exact W.meth.one) (fun wc E ec => ?_)
  replace W := W.set ec.fr hb1 hsz hsz2
  refine ar2_some ?_
  refine nd2_some ?_
  refine En.sts' (vs := heapCells g2 uc2 us2) [_] rfl E rfl rfl (by intro x hx; simp only [heapCells, List.mem_cons, List.not_mem_nil, or_false] at hx; rcases hx with h | h | h | h | h <;> rw [h] <;> first | rfl | exact W.rows.calls.one | exact W.rows.said.one) (fun wd E ed => ?_)
  replace W := W.set ed.fr hb2 hsz hsz2
  refine ar2_some ?_
  refine nd2_some ?_
  refine ar2_some ?_
  refine nd2_some ?_
  refine E.lds (by (exact .head _)) rfl ?_
  refine E.lds (by (exact .tail _ (.head _))) rfl ?_
  have hqm2 : ∀ m ∈ q, m.ops.length ≤ 1073741824 := fun m hm => by have := hqm m hm; omega
  have hB2n := hB2.ns
  refine c_implStep W.meth.betAny (by omega) hqm2 (W.view hB2) (by omega) (fun wf M x1 x2 ef hbf hlf hO => ?_)
  replace E := E.ext ef
  replace W := W.ext ef
  have hx := hO.calls.one
  have hx' := hO.said.one
  refine ext_of rfl ?_
  refine ext_of rfl ?_
  refine E.als (vs := heapCells (runR q g2 1).1 x1 x2) rfl rfl rfl (by intro x hx; simp only [heapCells, List.mem_cons, List.not_mem_nil, or_false] at hx; rcases hx with h | h | h | h | h <;> rw [h] <;> first | rfl | assumption) (fun bx wg E eg => ?_)
  replace W := W.ext eg
  have hO : HOwn M wg (runR q g2 1).1 x1 x2 := ⟨hO.calls.keepX eg, hO.said.keepX eg⟩
  (refine not_of ?_)
  refine condN_of (fun hf => ?_) (fun ht => ?_)
  · refine E.lds (by (exact .tail _ (.head _))) rfl ?_
    refine E.lds (by (exact .tail _ (.tail _ (.head _)))) rfl ?_
    refine c_specHeapOk W.meth.betAny (by omega) hqm2 (W.view hB2) (fun wh eh => ?_)
    refine eqlB_of (by kernel_rfl) ?_
    rw [run_one, beq_self_eq_true]
    exact hR _ (E.toExt.trans eh)
  · obtain ⟨W2, rfl, rfl⟩ := hok ht
    have hrun := run_with W2
    rw [hrun] at hO E ⊢
    have H2 := W2.gok
    have hr2 : (withH g [(1, 7), (1, 8), (1, 9)]).code = 0 := W2.1.2.1
    have hX := step_view H2 hr2 hB2 hO
    have hG := W.view hB2
    have r := W2.range
    have f2 := H2.at r.1 r.2
    have p0 := f2.pc0
    have p1 := f2.pc1
    have pl := (H2.meth r.1 r.2).ops
    have kx : Blk wg bx (heapCells (stepH (withP p g (9, k)) (withH g [(1, 7), (1, 8), (1, 9)])) x1 x2) := E.blk (by (exact .head _))
    have kg : Blk wg b2 (heapCells (withH g [(1, 7), (1, 8), (1, 9)]) uc2 us2) := E.blk (by (exact .tail _ (.tail _ (.head _))))
    have kp : Blk wg b1 [u2] := E.blk (by (exact .tail _ (.head _)))
    have hP := W.meth.betAny (q := [])
    replace hR : ∀ w', Ext wg w' → R (.bool true) w' := fun w' e => hR w' (E.toExt.trans e)
    clear E W hO hrun
    have E := En.start wg
    obtain ⟨k0, k1, hm, hstep⟩ := step_call W2 rfl
    have a0 := hm.a0
    have a1 := hm.a1
    have t0 := hm.t0
    have t1 := hm.t1
    have hborn := W2.born
    have hborn1 := H2.born1
    (refine fad_of ?_)
    refine ld_of ((kp.ext E.toExt).cell rfl) ?_
    refine meth_ix (hP.ext E.toExt) k0 k1 (fun b o um hc hum => ?_)
    refine lds_of hc rfl ?_
    refine E.als (vs := [.int .i64 (methAt (withP p g (9, k)) k).args, .int .i64 (methAt (withP p g (9, k)) k).temps, um]) rfl rfl rfl (by intro x hx; simp only [List.mem_cons, List.not_mem_nil, or_false] at hx; rcases hx with h | h | h <;> rw [h] <;> first | rfl | exact hum.one) (fun b13 w13 E _ => ?_)
    refine c_lmNum (fun w0 e0 => ?_)
    replace E := E.ext e0
    refine c_lmNum (fun w0 e0 => ?_)
    replace E := E.ext e0
    refine c_lmNum (fun w0 e0 => ?_)
    replace E := E.ext e0
    refine bsl_of' rfl rfl rfl (fun ba wB ea' hba ka => ?_)
    replace E := E.ext ea'
    have k13 : Blk wB b13 [.int .i64 (methAt (withP p g (9, k)) k).args, .int .i64 (methAt (withP p g (9, k)) k).temps, um] := E.blk (.head _)
    have ka2 : Blk wB ba [.int .i64 1, .int .i64 7, .int .i64 1, .int .i64 8, .int .i64 1, .int .i64 9] := ka
    have hall : Sl kPair Any wB [] ([(1, 7), (1, 8), (1, 9)] : List V) (.slice (some ⟨ba, 0, none⟩) 3 3) := sl_flat (rest := []) (by simpa using ka2) rfl (Nat.le_refl _) ka.lt
    replace hX := hX.ext E.toExt
    replace hG := hG.ext E.toExt
    replace kx := kx.ext E.toExt
    replace kg := kg.ext E.toExt
    replace hR : ∀ w', Ext wB w' → R (.bool true) w' := fun w' e => hR w' (E.toExt.trans e)
    clear E hc hum kp hP ka ka2
    have E := En.start wB
    replace E := E.drew
    refine lds_of (kg.ext E.toExt).cells rfl ?_
    (refine fad_of ?_)
    refine ld_of ((k13.ext E.toExt).cell rfl) ?_
    (refine sub_of (by (omega)) (by (omega)) ?_)
    refine E.ar1 (l0 := []) (.inl ⟨rfl, rfl⟩) (fun wm sm lm E _ S => ?_)
    refine slrE_of (q := []) (by kernel_rfl) free_any (hall.ext E.toExt) (by omega) (by simp; omega) (fun vt hvt => ?_)
    refine ⟨lds_of (kg.ext E.toExt).cells rfl rfl, ?_⟩
    refine E.ar1 S (fun wr sr lr E er S => ?_)
    have hst := hvt.ext er
    clear hvt
    have htl : (List.take (3 - (methAt (withP p g (9, k)) k).args).toNat ([(1, 7), (1, 8), (1, 9)] : List V)).length ≤ 6 := by rw [List.length_take]; simp; omega
    have hdl : ((List.drop (3 - (methAt (withP p g (9, k)) k).args).toNat ([(1, 7), (1, 8), (1, 9)] : List V)).length : Int) = (methAt (withP p g (9, k)) k).args := by rw [List.length_drop]; simp; omega
    generalize htk : List.take (3 - (methAt (withP p g (9, k)) k).args).toNat ([(1, 7), (1, 8), (1, 9)] : List V) = tk at hst hstep htl
    generalize hdr : List.drop (3 - (methAt (withP p g (9, k)) k).args).toNat ([(1, 7), (1, 8), (1, 9)] : List V) = dr at hstep hdl
    refine c_lmAfter (hG.ext E.toExt) r.1 r.2 p0 (by show (callAt _ _).pc ≤ 1000; omega) hst htl (fun wi Mi y1 y2 ei hbi hli hO2 => ?_)
    have hap := apart_of E.mu.lim hbi
    have hC := hO2.calls.inR (q := []) hap
    have hS := hO2.said.inR (q := []) hap
    replace E := E.join [] ei hbi hli
    refine E.ar1 S (fun wk sk lk E ek S => ?_)
    replace hC := hC.keepX ek
    replace hS := hS.keepX ek
    refine S.nd (fun b3 hs3 hl3 => ?_)
    subst hs3 hl3
    refine En.sts' (vs := heapCells (afterH (withH g [(1, 7), (1, 8), (1, 9)]) tk) y1 y2) [] rfl E rfl rfl (by intro x hx; simp only [heapCells, List.mem_cons, List.not_mem_nil, or_false] at hx; rcases hx with h | h | h | h | h <;> rw [h] <;> first | rfl | exact hC.one | exact hS.one) (fun wl E el => ?_)
    replace hC := hC.loc el
    replace hS := hS.loc el
    refine ar_some ?_
    refine nd_some ?_
    have k3 := E.blk (.head _)
    obtain ⟨E1, hlab, hap3⟩ := E.owned
    have S : SM _ wl b3 [] (afterH (withH g [(1, 7), (1, 8), (1, 9)]) tk) y1 y2 := ⟨k3, hlab, hC.inL, hS.inL, E1.mu.lim⟩
    clear E hC hS hap3 k3 hap
    have E := E1
    clear E1
    have r' : 0 ≤ (afterH (withH g [(1, 7), (1, 8), (1, 9)]) tk).now ∧ (afterH (withH g [(1, 7), (1, 8), (1, 9)]) tk).now < (afterH (withH g [(1, 7), (1, 8), (1, 9)]) tk).calls.length := ⟨r.1, by rw [now_len.2]; exact r.2⟩
    (refine fad_of ?_)
    refine ld_of ((kg.ext E.toExt).cell rfl) ?_
    (refine eql_of ?_)
    refine condP_of (fun hd => ?_) (fun hd => ?_)
    · have he0 : stepH (withP p g (9, k)) (withH g [(1, 7), (1, 8), (1, 9)]) = { (afterH (withH g [(1, 7), (1, 8), (1, 9)]) tk) with code := 3 } := by rw [hstep]; unfold callH; rw [if_pos (show 30 ≤ (afterH (withH g [(1, 7), (1, 8), (1, 9)]) tk).born by show 30 ≤ (withH g [(1, 7), (1, 8), (1, 9)]).born; omega)]
      (refine fad_of ?_)
      refine S.stM rfl (by simp) (h' := { (afterH (withH g [(1, 7), (1, 8), (1, 9)]) tk) with code := 3 }) rfl S.calls S.said (fun w4 m4 _ S => ?_)
      replace E := E.call m4
      generalize hg3 : ({ (afterH (withH g [(1, 7), (1, 8), (1, 9)]) tk) with code := 3 } : Hp) = g3 at S
      have he : stepH (withP p g (9, k)) (withH g [(1, 7), (1, 8), (1, 9)]) = g3 := by rw [← hg3]; exact he0
      clear hg3
      subst he
      refine condT_true ?_
      refine lds_of (kx.ext E.toExt).cells rfl ?_
      refine lds_of S.blk.cells rfl ?_
      exact c_lmHeap (hX.ext E.toExt) (step_view' H2 hr2 hB2 S.calls.any S.said.any) (fun wj ej => hR _ (E.toExt.trans ej))
    · have he0 : stepH (withP p g (9, k)) (withH g [(1, 7), (1, 8), (1, 9)]) = { (afterH (withH g [(1, 7), (1, 8), (1, 9)]) tk) with calls := (afterH (withH g [(1, 7), (1, 8), (1, 9)]) tk).calls ++ [(newC (withP p g (9, k)) k dr (withH g [(1, 7), (1, 8), (1, 9)]).now)], now := (((afterH (withH g [(1, 7), (1, 8), (1, 9)]) tk).calls ++ [(newC (withP p g (9, k)) k dr (withH g [(1, 7), (1, 8), (1, 9)]).now)]).length : Int) - 1, born := (afterH (withH g [(1, 7), (1, 8), (1, 9)]) tk).born + 1 } := by
        rw [hstep]; unfold callH; rw [if_neg (show ¬ 30 ≤ (afterH (withH g [(1, 7), (1, 8), (1, 9)]) tk).born by show ¬ 30 ≤ (withH g [(1, 7), (1, 8), (1, 9)]).born; omega)]
        have e9 : (((afterH (withH g [(1, 7), (1, 8), (1, 9)]) tk).calls ++ [(newC (withP p g (9, k)) k dr (withH g [(1, 7), (1, 8), (1, 9)]).now)]).length : Int) - 1 = (afterH (withH g [(1, 7), (1, 8), (1, 9)]) tk).calls.length := by rw [List.length_append]; simp
        rw [e9]; rfl
      have hAl : (afterH (withH g [(1, 7), (1, 8), (1, 9)]) tk).calls.length + 1 ≤ 1000000 := by
        have h1 := hB2.n
        rw [now_len.2]; omega
      replace E := E.drew
      replace S := S.drew
      have kg3 := kg.ext E.toExt
      have k13' := k13.ext E.toExt
      have hall3 := hall.ext E.toExt
      (refine fad_of ?_)
      refine ld_of (kg3.cell rfl) ?_
      (refine fad_of ?_)
      refine ld_of (k13'.cell rfl) ?_
      (refine sub_of (by (omega)) (by (omega)) ?_)
      have E2 := En.start wl.drew
      refine E2.ar1 (l0 := []) (.inl ⟨rfl, rfl⟩) (fun wm sm lm E2 _ T => ?_)
      refine ⟨?_, ?_⟩
      refine bsl_of' rfl rfl rfl (fun b88 w88 e88 hb88 k88 => ?_)
      replace E2 := E2.ext e88
      refine ⟨ld_of ((k13'.ext E2.toExt).cell rfl) rfl, ?_⟩
      refine ⟨ld_of ((kg3.ext E2.toExt).cell rfl) rfl, ?_⟩
      refine E2.ar1 T (fun wr sr lr E2 er T => ?_)
      refine sllE_of (q := []) (by kernel_rfl) free_any (hall3.ext E2.toExt) (by omega) (by simp; omega) (fun vd hvd => ?_)
      refine ⟨ld_of ((kg3.ext E2.toExt).cell rfl) rfl, ?_⟩
      refine E2.ar1 T (fun wr sr lr E2 er T => ?_)
      replace hvd := hvd.ext er
      rotate_left
      refine sllE_of (q := []) (by kernel_rfl) free_any (hall3.ext E2.toExt) (by omega) (by simp; omega) (fun vd hvd => ?_)
      refine ⟨ld_of ((kg3.ext E2.toExt).cell rfl) rfl, ?_⟩
      refine E2.ar1 T (fun wr sr lr E2 er T => ?_)
      replace hvd := hvd.ext er
      refine bsl_of' rfl rfl rfl (fun b88 w88 e88 hb88 k88 => ?_)
      replace E2 := E2.ext e88
      replace hvd := hvd.ext e88
      refine ⟨ld_of ((k13'.ext E2.toExt).cell rfl) rfl, ?_⟩
      refine ⟨ld_of ((kg3.ext E2.toExt).cell rfl) rfl, ?_⟩
      refine E2.ar1 T (fun wr sr lr E2 er T => ?_)
      replace hvd := hvd.ext er
      all_goals
        rw [hdr] at hvd
        refine grow_row (q := [2]) (by kernel_rfl) (Sl.none0 (kd := kPair)) hvd (by simp; omega) E2.mu.lim (fun v1 w1 L1 gr _ h1 => ?_)
        replace E2 := E2.grow gr
        refine ⟨ld_of ((kg3.ext E2.toExt).cell rfl) rfl, ?_⟩
        obtain ⟨A3, c3, hv3⟩ := h1.is
        rw [hv3] at h1 ⊢
        refine bld_of (cs := #[.int .i64 k, .int .i64 0, .slice A3 ([] ++ dr).length c3, .slice none 0 0, .int .i64 (withH g [(1, 7), (1, 8), (1, 9)]).now, .bool false]) rfl ?_
        refine E2.ar1 T (fun wr sr lr E2 er T => ?_)
        replace h1 := h1.keepX er
        refine T.nd (fun b80 hs8 hl8 => ?_)
        subst hs8 hl8
        refine En.sts' (vs := [.int .i64 k, .int .i64 0, .slice A3 ([] ++ dr).length c3, .slice none 0 0, .int .i64 (withH g [(1, 7), (1, 8), (1, 9)]).now, .bool false]) [] rfl E2 rfl rfl (fun u hu => List.all_eq_true.mp rfl u hu) (fun w2 E2 e2 => ?_)
        replace h1 := h1.loc e2
        refine ar_some ?_
        refine nd_some ?_
        generalize hv1 : Value.slice A3 ([] ++ dr).length c3 = v1 at h1 E2
        refine loop_of (fun n s wx => ∃ (M : Lab) (l : List V) (v : Value) (j : Nat), s = [.bool false, .pointer (some ⟨bx, 0, none⟩), .bool true, .pointer (some ⟨b13, 0, none⟩), .pointer (some ⟨b3, 0, none⟩), .pointer (some ⟨b80, 0, none⟩)] ∧ En noL wl.drew M wx [(b80, [.int .i64 k, .int .i64 0, v, .slice none 0 0, .int .i64 (withH g [(1, 7), (1, 8), (1, 9)]).now, .bool false])] ∧ Sl kPair (Own M) wx [2] l v ∧ l = dr ++ List.replicate j (0, 0) ∧ (l.length : Int) ≤ (methAt (withP p g (9, k)) k).temps ∧ n = ((methAt (withP p g (9, k)) k).temps - l.length).toNat) ?_
          ⟨_, [] ++ dr, v1, 0, rfl, E2, h1, by simp, by simp; omega, rfl⟩
        clear E2 T h1 hvd
        rintro n s wx Kn ⟨M, l, v, j, rfl, E2, hv, hl, hlt, hn⟩ hKn
        intro _
        simp only [List.headD_cons, List.tail_cons]
        (refine fad_of ?_)
        refine E2.ld (.head _) rfl ?_
        refine hv.len_of ?_
        (refine fad_of ?_)
        refine ld_of ((k13'.ext E2.toExt).cell rfl) ?_
        (refine lss_of ?_)
        refine condLt_of (fun hd2 => ?_) (fun hd2 => ?_)
        · (refine fad_of ?_)
          refine E2.ld (.head _) rfl ?_
          refine bld_of (cs := #[.int .i64 0, .int .i64 0]) rfl ?_
          refine bsl_of' rfl rfl rfl (fun bz wz ez hbz kz => ?_)
          replace E2 := E2.ext ez
          replace hv := hv.keepX ez
          refine grow_lit [(0, 0)] (by kernel_rfl) hv (show Blk wz bz [.int .i64 0, .int .i64 0] from kz) rfl (by simp; omega) E2.mu.lim (fun v2 w2 L2 gr _ h2 => ?_)
          replace E2 := E2.grow gr
          (refine fad_of ?_)
          refine En.st' [] E2 (by simp) h2.one (fun w3 E3 e3 => ?_)
          exact hKn (n - 1) _ _ (by omega) ⟨L2, l ++ [(0, 0)], v2, j + 1, rfl, E3, h2.loc e3, by rw [hl, List.append_assoc, List.replicate_succ'], by simp; omega, by simp; omega⟩
        · intro _
          have htm : l = (newC (withP p g (9, k)) k dr (withH g [(1, 7), (1, 8), (1, 9)]).now).temps := by
            rw [hl]
            show _ = dr ++ List.replicate ((methAt (withP p g (9, k)) k).temps - dr.length).toNat (0, 0)
            rw [show ((methAt (withP p g (9, k)) k).temps - dr.length).toNat = j by rw [hl] at hlt hd2; simp at hlt hd2; omega]
          have hap := apart_of S.lim E2.born
          have ht3 := hv.inR (q := [0, (afterH (withH g [(1, 7), (1, 8), (1, 9)]) tk).calls.length]) hap
          have S := (S.ext E2.toExt).join (q := [0, (afterH (withH g [(1, 7), (1, 8), (1, 9)]) tk).calls.length]) E2.mu.lim
          have E := E.join [0, (afterH (withH g [(1, 7), (1, 8), (1, 9)]) tk).calls.length] E2.toExt E2.born E2.mu.lim
          rw [htm] at ht3
          (refine fad_of ?_)
          refine ld_of (S.cell (j := 0) rfl) ?_
          refine E2.lds (.head _) rfl ?_
          refine bsl_of' rfl rfl rfl (fun bc wc ec hbc kc => ?_)
          replace E := E.ext ec
          replace S := S.ext ec
          refine S.appCall (c' := (newC (withP p g (9, k)) k dr (withH g [(1, 7), (1, 8), (1, 9)]).now)) (by kernel_rfl) (show Blk wc bc (cellsC (newC (withP p g (9, k)) k dr (withH g [(1, 7), (1, 8), (1, 9)]).now) v (.slice none 0 0)) from kc) (ht3.keepX ec) Sl.none0 rfl (by omega) (fun v' w4 L4 m4 S hcs => ?_)
          replace E := E.call m4
          (refine fad_of ?_)
          refine S.stM hcs.one (by simp) (h' := { (afterH (withH g [(1, 7), (1, 8), (1, 9)]) tk) with calls := (afterH (withH g [(1, 7), (1, 8), (1, 9)]) tk).calls ++ [(newC (withP p g (9, k)) k dr (withH g [(1, 7), (1, 8), (1, 9)]).now)] }) rfl hcs S.said (fun w5 m5 _ S => ?_)
          replace E := E.call m5
          (refine fad_of ?_)
          refine ld_of (S.cell (j := 0) rfl) ?_
          refine S.calls.len_of ?_
          refine sub_of (by omega) (by simp; omega) ?_
          (refine fad_of ?_)
          refine S.stM rfl (by simp) (h' := { (afterH (withH g [(1, 7), (1, 8), (1, 9)]) tk) with calls := (afterH (withH g [(1, 7), (1, 8), (1, 9)]) tk).calls ++ [(newC (withP p g (9, k)) k dr (withH g [(1, 7), (1, 8), (1, 9)]).now)], now := (((afterH (withH g [(1, 7), (1, 8), (1, 9)]) tk).calls ++ [(newC (withP p g (9, k)) k dr (withH g [(1, 7), (1, 8), (1, 9)]).now)]).length : Int) - 1 }) rfl S.calls S.said (fun w6 m6 _ S => ?_)
          replace E := E.call m6
          (refine fad_of ?_)
          refine ld_of (S.cell (j := 2) rfl) ?_
          refine add_of (by show -9223372036854775808 ≤ (withH g [(1, 7), (1, 8), (1, 9)]).born + 1; omega) (by show (withH g [(1, 7), (1, 8), (1, 9)]).born + 1 ≤ _; omega) ?_
          (refine fad_of ?_)
          refine S.stM rfl (by simp) (h' := { (afterH (withH g [(1, 7), (1, 8), (1, 9)]) tk) with calls := (afterH (withH g [(1, 7), (1, 8), (1, 9)]) tk).calls ++ [(newC (withP p g (9, k)) k dr (withH g [(1, 7), (1, 8), (1, 9)]).now)], now := (((afterH (withH g [(1, 7), (1, 8), (1, 9)]) tk).calls ++ [(newC (withP p g (9, k)) k dr (withH g [(1, 7), (1, 8), (1, 9)]).now)]).length : Int) - 1, born := (afterH (withH g [(1, 7), (1, 8), (1, 9)]) tk).born + 1 }) rfl S.calls S.said (fun w7 m7 _ S => ?_)
          replace E := E.call m7
          generalize hg3 : ({ (afterH (withH g [(1, 7), (1, 8), (1, 9)]) tk) with calls := (afterH (withH g [(1, 7), (1, 8), (1, 9)]) tk).calls ++ [(newC (withP p g (9, k)) k dr (withH g [(1, 7), (1, 8), (1, 9)]).now)], now := (((afterH (withH g [(1, 7), (1, 8), (1, 9)]) tk).calls ++ [(newC (withP p g (9, k)) k dr (withH g [(1, 7), (1, 8), (1, 9)]).now)]).length : Int) - 1, born := (afterH (withH g [(1, 7), (1, 8), (1, 9)]) tk).born + 1 } : Hp) = g3 at S
          have he : stepH (withP p g (9, k)) (withH g [(1, 7), (1, 8), (1, 9)]) = g3 := by rw [← hg3]; exact he0
          clear hg3
          subst he
          refine condT_true ?_
          refine lds_of (kx.ext E.toExt).cells rfl ?_
          refine lds_of S.blk.cells rfl ?_
          exact c_lmHeap (hX.ext E.toExt) (step_view' H2 hr2 hB2 S.calls.any S.said.any) (fun wj ej => hR _ (E.toExt.trans ej))
end Go.PT
