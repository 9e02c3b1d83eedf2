/- One goes back to a call; those between have returned. The contract. -/
import Derived.Test.YtegddhbcglghdaaGreatGJ
import Derived.Test.YtegddhbcglghdaaGreatLTextBack
/- One goes back to a call; those between have returned. -/
set_option linter.unusedVariables false
set_option linter.unusedSimpArgs false
set_option maxRecDepth 100000
namespace Go.PT
attribute [local irreducible] ldT ldsT stT stsT allocT boxT bldT bslT nilT fadT ixaT fldT extT lenT pickT binT notT cviT opT opU condT clT clvT ivT loopT arT ndT World.cell? World.frozen? World.alloc World.drew World.setCell Blk Cells Sl
theorem c_heapBack {w : World} {code more : List Int} {v u : Value} {R : VW} (h : Bt w code v) (hb : ∀ x ∈ code, 0 ≤ x ∧ x ≤ 255) (h' : Bt w more u) (hR : ∀ w', Ext w w' → R (.bool true) w') : clT PR 15 [v, u] w R := by
  refine Flaws_FnHeapBack.cl ?_
  unfold Flaws_FnHeapBack
  refine h.len_of ?_
  (refine gtr_of ?_)
  refine condGt_of (fun _ => hR _ (Fr.refl _ _)) (fun hbig => ?_)
  refine h'.len_of ?_
  (refine gtr_of ?_)
  refine condGt_of (fun _ => hR _ (Fr.refl _ _)) (fun hbig' => ?_)
  refine c_drawStep h hb (fun up uc us w1 p g D => ?_)
  have hm0 := D.meth.anyOld (q := [])
  have hc0 := D.view.calls.anyOld (q := [])
  have hs0 := D.view.said.anyOld (q := [])
  have hBn := D.small.n
  replace hR : ∀ w', Ext w1 w' → R (.bool true) w' := fun w' e => hR w' (D.ext.trans e)
  refine ext_of rfl ?_
  refine ext_of rfl ?_
  have E := En.start w1
  refine E.al (fun b5 w2 E _ => ?_)
  refine E.al (fun b6 w3 E _ => ?_)
  refine En.sts' (vs := [up]) [_] rfl E rfl rfl (by intro x hx; simp at hx; subst hx; exact hm0.one) (fun w4 E e4 => ?_)
  refine En.sts' (vs := heapCells g uc us) [] rfl E rfl rfl (by intro x hx; simp only [heapCells, List.mem_cons, List.not_mem_nil, or_false] at hx; rcases hx with h | h | h | h | h <;> rw [h] <;> first | rfl | exact hc0.one | exact hs0.one) (fun w5 E e5 => ?_)
  refine h'.len_of ?_
  (refine fad_of ?_)
  refine E.ld (by (exact .head _)) rfl ?_
  refine hc0.len_of ?_
  refine max_of ?_
  refine rem_of (by omega) ?_
  have hk := tmod_range (more.length : Int) (max (g.calls.length : Int) 1) (by omega) (by omega)
  generalize Int.tmod (more.length : Int) (max (g.calls.length : Int) 1) = k at hk
  replace E := E.drew
  refine E.lds (by (exact .tail _ (.head _))) rfl ?_
  refine E.lds (by (exact .head _)) rfl ?_
  refine bld_of (cs := #[.int .i64 15, .int .i64 0]) rfl ?_
  refine E.ar2 (.inl ⟨rfl, rfl⟩) (fun w6 s6 l6 E e6 S _ => ?_)
  refine c_lmNum (fun w7 e7 => ?_)
  replace E := E.ext e7
  refine ⟨E.lds (S.mem (by (exact .head _))) rfl rfl, ?_⟩
  refine ⟨E.lds (S.mem (by (exact .tail _ (.head _)))) rfl rfl, ?_⟩
  refine E.ar2 S (fun w8 s8 l8 E e8 S _ => ?_)
  refine c_lmOf (fun w9 e9 => ?_)
  replace E := E.ext e9
  refine ⟨E.lds (S.mem (by (exact .head _))) rfl rfl, ?_⟩
  refine ⟨E.lds (S.mem (by (exact .tail _ (.head _)))) rfl rfl, ?_⟩
  refine E.ar2 S (fun w10 s10 l10 E e10 S _ => ?_)
  refine c_lmNum (fun w11 e11 => ?_)
  replace E := E.ext e11
  refine ⟨E.lds (S.mem (by (exact .head _))) rfl rfl, ?_⟩
  refine ⟨E.lds (S.mem (by (exact .tail _ (.head _)))) rfl rfl, ?_⟩
  refine E.ar2 S (fun w12 s12 l12 E e12 S _ => ?_)
  refine bsl_of' rfl rfl rfl (fun b13 w13 e13 hb13 k13 => ?_)
  replace E := E.ext e13
  refine ⟨E.lds (S.mem (by (exact .head _))) rfl rfl, ?_⟩
  refine ⟨E.lds (S.mem (by (exact .tail _ (.head _)))) rfl rfl, ?_⟩
  refine E.ar2 S (fun w14 s14 l14 E e14 S _ => ?_)
  have kst : Blk w14 b13 [.int .i64 1, .int .i64 7, .int .i64 2, .int .i64 k, .int .i64 1, .int .i64 44] := Blk.ext k13 e14
  have hst : Sl kPair Any w14 [] [(1, 7), (2, k), (1, 44)] (.slice (some ⟨b13, 0, none⟩) 3 3) := sl_flat (rest := []) (by simpa using kst) rfl (Nat.le_refl _) kst.lt
  have hlt : ∀ x ∈ l14, w1.heap.size ≤ x.1 ∧ x.1 < w14.heap.size := fun x hx => ⟨(E.loc x hx).2, (E.loc x hx).1.1.lt⟩
  have hsz := E.size
  refine c_lmWith (op := (15, 0)) hsz (hm0.oldExt E.toExt) D.prog ⟨hc0.oldExt E.toExt, hs0.oldExt E.toExt⟩ D.small hst (by simp) (fun wa q g2 u2 uc2 us2 ok ea hq hql hqm hg hB2 hok => ?_)
  have W : Wd w1.heap.size w14.heap.size wa.heap.size wa q g2 u2 uc2 us2 := ⟨hq, hg⟩
  have hsz2 := ea.size
  replace E := E.ext ea
  refine ext_of rfl ?_
  refine ext_of rfl ?_
  refine ext_of rfl ?_
  refine E.ar2 S (fun wb sb lb E eb S hnew => ?_)
  replace W := W.ext eb
  refine S.nd (fun b1 b2 hs2 hl2 => ?_)
  subst hs2 hl2
  have hb1 := hnew (b1, _) (.head _)
  have hb2 := hnew (b2, _) (.tail _ (.head _))
  have hb1 : (w1.heap.size ≤ b1 ∧ b1 < w14.heap.size) ∨ wa.heap.size ≤ b1 := hb1.imp (fun h => hlt _ h) (fun h => h)
  have hb2 : (w1.heap.size ≤ b2 ∧ b2 < w14.heap.size) ∨ wa.heap.size ≤ b2 := hb2.imp (fun h => hlt _ h) (fun h => h)
  clear hnew S hlt
  refine En.sts' (vs := [u2]) [] rfl E rfl rfl (by intro x hx; simp at hx; subst hx; exact W.meth.one) (fun wc E ec => ?_)
  replace W := W.set ec.fr hb1 hsz hsz2
  refine ar2_some ?_
  refine nd2_some ?_
  refine En.sts' (vs := heapCells g2 uc2 us2) [_] rfl E rfl rfl (by intro x hx; simp only [heapCells, List.mem_cons, List.not_mem_nil, or_false] at hx; rcases hx with h | h | h | h | h <;> rw [h] <;> first | rfl | exact W.rows.calls.one | exact W.rows.said.one) (fun wd E ed => ?_)
  replace W := W.set ed.fr hb2 hsz hsz2
  refine ar2_some ?_
  refine nd2_some ?_
  refine ar2_some ?_
  refine nd2_some ?_
  refine E.lds (by (exact .head _)) rfl ?_
  refine E.lds (by (exact .tail _ (.head _))) rfl ?_
  have hqm2 : ∀ m ∈ q, m.ops.length ≤ 1073741824 := fun m hm => by have := hqm m hm; omega
  have hB2n := hB2.ns
  refine c_implStep W.meth.betAny (by omega) hqm2 (W.view hB2) (by omega) (fun wf M x1 x2 ef hbf hlf hO => ?_)
  replace E := E.ext ef
  replace W := W.ext ef
  have hx := hO.calls.one
  have hx' := hO.said.one
  refine ext_of rfl ?_
  refine ext_of rfl ?_
  refine E.als (vs := heapCells (runR q g2 1).1 x1 x2) rfl rfl rfl (by intro x hx; simp only [heapCells, List.mem_cons, List.not_mem_nil, or_false] at hx; rcases hx with h | h | h | h | h <;> rw [h] <;> first | rfl | assumption) (fun bx wg E eg => ?_)
  replace W := W.ext eg
  have hO : HOwn M wg (runR q g2 1).1 x1 x2 := ⟨hO.calls.keepX eg, hO.said.keepX eg⟩
  (refine not_of ?_)
  refine condN_of (fun hf => ?_) (fun ht => ?_)
  · refine E.lds (by (exact .tail _ (.head _))) rfl ?_
    refine E.lds (by (exact .tail _ (.tail _ (.head _)))) rfl ?_
    refine c_specHeapOk W.meth.betAny (by omega) hqm2 (W.view hB2) (fun wh eh => ?_)
    refine eqlB_of (by kernel_rfl) ?_
    rw [run_one, beq_self_eq_true]
    exact hR _ (E.toExt.trans eh)
  · obtain ⟨W2, rfl, rfl⟩ := hok ht
    have hrun := run_with W2
    rw [hrun] at hO E ⊢
    have H2 := W2.gok
    have hr2 : (withH g [(1, 7), (2, k), (1, 44)]).code = 0 := W2.1.2.1
    have hX := step_view H2 hr2 hB2 hO
    have hG := W.view hB2
    have r := W2.range
    have f2 := H2.at r.1 r.2
    have p0 := f2.pc0
    have p1 := f2.pc1
    have pl := (H2.meth r.1 r.2).ops
    have kx : Blk wg bx (heapCells (stepH (withP p g (15, 0)) (withH g [(1, 7), (2, k), (1, 44)])) x1 x2) := E.blk (by (exact .head _))
    have kg : Blk wg b2 (heapCells (withH g [(1, 7), (2, k), (1, 44)]) uc2 us2) := E.blk (by (exact .tail _ (.tail _ (.head _))))
    replace hR : ∀ w', Ext wg w' → R (.bool true) w' := fun w' e => hR w' (E.toExt.trans e)
    clear E W hO hrun
    have E := En.start wg
    obtain ⟨k0, k1⟩ := W2.of (k := k) (by simp)
    have hstep := step_back W2
    replace E := E.drew
    refine lds_of (kg.ext E.toExt).cells rfl ?_
    refine E.ar1 (l0 := []) (.inl ⟨rfl, rfl⟩) (fun wm sm lm E _ S => ?_)
    refine c_lmNum (fun wn en => ?_)
    replace E := E.ext en
    refine ⟨lds_of (kg.ext E.toExt).cells rfl rfl, ?_⟩
    refine E.ar1 S (fun wm sm lm E _ S => ?_)
    refine bsl_of' rfl rfl rfl (fun bq wq eq' hbq kq => ?_)
    replace E := E.ext eq'
    refine ⟨lds_of (kg.ext E.toExt).cells rfl rfl, ?_⟩
    refine E.ar1 S (fun wr sr lr E er S => ?_)
    have kst : Blk wr bq [.int .i64 1, .int .i64 7] := Blk.ext kq er
    have hst : Sl kPair Any wr [] [(1, 7)] (.slice (some ⟨bq, 0, none⟩) 1 1) := sl_flat (rest := []) (by simpa using kst) rfl (Nat.le_refl _) kst.lt
    refine c_lmAfter (hG.ext E.toExt) r.1 r.2 p0 (by show (callAt _ _).pc ≤ 1000; omega) hst (by simp) (fun wi Mi y1 y2 ei hbi hli hO2 => ?_)
    have hap := apart_of E.mu.lim hbi
    have hC := hO2.calls.inR (q := []) hap
    have hS := hO2.said.inR (q := []) hap
    replace E := E.join [] ei hbi hli
    refine E.ar1 S (fun wk sk lk E ek S => ?_)
    replace hC := hC.keepX ek
    replace hS := hS.keepX ek
    refine S.nd (fun b3 hs3 hl3 => ?_)
    subst hs3 hl3
    refine En.sts' (vs := heapCells (afterH (withH g [(1, 7), (2, k), (1, 44)]) [(1, 7)]) y1 y2) [] rfl E rfl rfl (by intro x hx; simp only [heapCells, List.mem_cons, List.not_mem_nil, or_false] at hx; rcases hx with h | h | h | h | h <;> rw [h] <;> first | rfl | exact hC.one | exact hS.one) (fun wl E el => ?_)
    replace hC := hC.loc el
    replace hS := hS.loc el
    refine ar_some ?_
    refine nd_some ?_
    have k3 := E.blk (.head _)
    obtain ⟨E1, hlab, hap3⟩ := E.owned
    have S : SM _ wl b3 [] (afterH (withH g [(1, 7), (2, k), (1, 44)]) [(1, 7)]) y1 y2 := ⟨k3, hlab, hC.inL, hS.inL, E1.mu.lim⟩
    clear E hC hS hap3 k3 hap
    have E := E1
    clear E1
    have r' : 0 ≤ (afterH (withH g [(1, 7), (2, k), (1, 44)]) [(1, 7)]).now ∧ (afterH (withH g [(1, 7), (2, k), (1, 44)]) [(1, 7)]).now < (afterH (withH g [(1, 7), (2, k), (1, 44)]) [(1, 7)]).calls.length := ⟨r.1, by rw [now_len.2]; exact r.2⟩
    have k1' : k < (afterH (withH g [(1, 7), (2, k), (1, 44)]) [(1, 7)]).calls.length := by rw [now_len.2]; exact k1
    (refine fad_of ?_)
    refine ld_of (S.cell (j := 0) rfl) ?_
    refine S.ix (i := k) k0 k1' (fun b o ut ut' F => ?_)
    (refine fad_of ?_)
    refine ld_of (F.cells.at 5 rfl) ?_
    refine cond_of (fun hd => ?_) (fun hd => ?_)
    · have he0 : stepH (withP p g (15, 0)) (withH g [(1, 7), (2, k), (1, 44)]) = { (afterH (withH g [(1, 7), (2, k), (1, 44)]) [(1, 7)]) with code := 2 } := by rw [hstep]; unfold backH; rw [if_pos hd]
      (refine fad_of ?_)
      refine S.stM rfl (by simp) (h' := { (afterH (withH g [(1, 7), (2, k), (1, 44)]) [(1, 7)]) with code := 2 }) rfl S.calls S.said (fun w4 m4 _ S => ?_)
      replace E := E.call m4
      generalize hg3 : ({ (afterH (withH g [(1, 7), (2, k), (1, 44)]) [(1, 7)]) with code := 2 } : Hp) = g3 at S
      have he : stepH (withP p g (15, 0)) (withH g [(1, 7), (2, k), (1, 44)]) = g3 := by rw [← hg3]; exact he0
      clear hg3
      subst he
      refine condT_true ?_
      refine lds_of (kx.ext E.toExt).cells rfl ?_
      refine lds_of S.blk.cells rfl ?_
      exact c_lmHeap (hX.ext E.toExt) (step_view' H2 hr2 hB2 S.calls.any S.said.any) (fun wj ej => hR _ (E.toExt.trans ej))
    · have B := W2.back (s2 := [(1, 7)]) k0 k1 hd
      have he0 : stepH (withP p g (15, 0)) (withH g [(1, 7), (2, k), (1, 44)]) = pushH (backL (afterH (withH g [(1, 7), (2, k), (1, 44)]) [(1, 7)]).calls.length (afterH (withH g [(1, 7), (2, k), (1, 44)]) [(1, 7)]) k) (1, 44) := by rw [hstep]; unfold backH; rw [if_neg (by rw [hd]; decide)]
      refine loop_of (fun n s wx => ∃ (g2 : Hp) (L : Lab), s = [.bool false, .int .i64 k, .pointer (some ⟨bx, 0, none⟩), .bool true, .pointer (some ⟨b3, 0, none⟩)] ∧ En noL wg L wx [] ∧ SM L wx b3 [] g2 y1 y2 ∧ BackI k n g2 ∧ g2.calls.length = (afterH (withH g [(1, 7), (2, k), (1, 44)]) [(1, 7)]).calls.length ∧ backL n g2 k = backL (afterH (withH g [(1, 7), (2, k), (1, 44)]) [(1, 7)]).calls.length (afterH (withH g [(1, 7), (2, k), (1, 44)]) [(1, 7)]) k) ?_ (m := (afterH (withH g [(1, 7), (2, k), (1, 44)]) [(1, 7)]).calls.length)
        ⟨(afterH (withH g [(1, 7), (2, k), (1, 44)]) [(1, 7)]), _, rfl, E, S, B, rfl, rfl⟩
      clear E S F B
      rintro n s wx Kn ⟨g2, L, rfl, E, S, B, gl, gb⟩ hKn
      intro _
      simp only [List.headD_cons, List.tail_cons]
      have g0 := B.now.1
      have g1 := B.now.2
      (refine fad_of ?_)
      refine ld_of (S.cell (j := 1) rfl) ?_
      (refine neq_of ?_)
      refine condNe_of (fun hne => ?_) (fun heq => ?_)
      · obtain ⟨j, hj, gb2, B2⟩ := B.step hne
        (refine fad_of ?_)
        refine ld_of (S.cell (j := 1) rfl) ?_
        (refine fad_of ?_)
        refine ld_of (S.cell (j := 0) rfl) ?_
        refine S.ix (i := g2.now) g0 g1 (fun b o ut ut' F => ?_)
        (refine fad_of ?_)
        refine ld_of (F.cells.at 4 rfl) ?_
        (refine fad_of ?_)
        refine S.stM rfl (by simp) (h' := { g2 with now := (nowC g2).sender }) rfl S.calls S.said (fun w4 m4 _ S => ?_)
        replace E := E.call m4
        (refine fad_of ?_)
        refine ld_of (S.cell (j := 0) rfl) ?_
        refine S.ix (i := g2.now) g0 g1 (fun b o ut ut' F => ?_)
        (refine fad_of ?_)
        refine S.st (off := 5) (c' := { nowC g2 with dead := true }) F g0 g1 rfl (by omega) rfl F.temps F.stack (fun wp mp S F => ?_)
        replace E := E.call mp
        have hcl : ∀ c : Cl, callAt (putC { g2 with now := (nowC g2).sender } g2.now c).calls g2.now = c := fun c => (callAt_put (h := { g2 with now := (nowC g2).sender }) g0 g1 g0).trans (if_pos rfl)
        have hle : ∀ c : Cl, g2.now < (putC { g2 with now := (nowC g2).sender } g2.now c).calls.length := fun c => by rw [putC_len]; exact g1
        (refine fad_of ?_)
        refine ld_of (S.cell (j := 0) rfl) ?_
        refine S.ix (i := g2.now) g0 (hle _) (fun b o ut ut' F => ?_)
        rw [hcl] at F
        (refine fad_of ?_)
        refine S.st (off := 4) (c' := { nowC g2 with dead := true, sender := -1 }) F g0 (hle _) rfl (by omega) rfl F.temps F.stack (fun wp mp S F => ?_)
        replace E := E.call mp
        rw [putC_put] at S
        (refine fad_of ?_)
        refine ld_of (S.cell (j := 0) rfl) ?_
        refine S.ix (i := g2.now) g0 (hle _) (fun b o ut ut' F => ?_)
        rw [hcl] at F
        (refine fad_of ?_)
        refine S.st (off := 3) (c' := dieC (nowC g2)) F g0 (hle _) rfl (by omega) rfl F.temps Sl.none0 (fun wp mp S F => ?_)
        replace E := E.call mp
        rw [putC_put] at S
        exact hKn j _ _ (by omega) ⟨leaveH g2, _, rfl, E, S, B2, leave_len.trans gl, by rw [← gb2, gb]⟩
      · intro _
        rw [back_stop heq] at gb
        have k1'' : k < g2.calls.length := by rw [gl]; exact k1'
        have he1 : stepH (withP p g (15, 0)) (withH g [(1, 7), (2, k), (1, 44)]) = putC g2 k (pushC (callAt g2.calls k) (1, 44)) := by
          rw [he0, ← gb]
          unfold pushH nowC
          rw [heq]
        have hr1 : (callAt g2.calls k).stack.length + 1 ≤ 1073741824 := by
          have h9 := (hX.nt (pushC (callAt g2.calls k) (1, 44)) (by rw [he1]; exact List.mem_set (by omega) _)).2
          have h8 : (pushC (callAt g2.calls k) (1, 44)).stack.length = (callAt g2.calls k).stack.length + 1 := by simp [pushC]
          omega
        replace E := E.drew
        replace S := S.drew
        (refine fad_of ?_)
        refine ld_of (S.cell (j := 0) rfl) ?_
        (refine fad_of ?_)
        refine ld_of (S.cell (j := 0) rfl) ?_
        refine S.ix (i := k) k0 k1'' (fun b o ut ut' F => ?_)
        (refine fad_of ?_)
        refine ld_of (F.cells.at 3 rfl) ?_
        refine c_lmNum (fun wo eo => ?_)
        replace E := E.ext eo
        replace S := S.ext eo
        replace F := F.ext eo
        refine ⟨ld_of (F.cells.at 3 rfl) rfl, ?_⟩
        refine ⟨ld_of (S.cell (j := 0) rfl) rfl, ?_⟩
        refine ⟨ld_of (S.cell (j := 0) rfl) rfl, ?_⟩
        refine bsl_of' rfl rfl rfl (fun bq wq eq' hbq kq => ?_)
        replace E := E.ext eq'
        replace S := S.ext eq'
        replace F := F.ext eq'
        refine ⟨ld_of (F.cells.at 3 rfl) rfl, ?_⟩
        refine ⟨ld_of (S.cell (j := 0) rfl) rfl, ?_⟩
        refine ⟨ld_of (S.cell (j := 0) rfl) rfl, ?_⟩
        refine S.app1 (v := (1, 44)) (by kernel_rfl) F k0 k1'' rfl kq rfl hr1 (fun v' w' L' m' S F hs => ?_)
        replace E := E.call m'
        refine ⟨ld_of (S.cell (j := 0) rfl) rfl, ?_⟩
        refine S.ix (i := k) k0 k1'' (fun b o ut ut' F => ?_)
        (refine fad_of ?_)
        refine S.st (off := 3) (c' := pushC (callAt g2.calls k) (1, 44)) F k0 k1'' hs.one (by omega) rfl F.temps hs (fun w5 m5 S F => ?_)
        replace E := E.call m5
        generalize hg3 : (putC g2 k (pushC (callAt g2.calls k) (1, 44)) : Hp) = g3 at S
        have he : stepH (withP p g (15, 0)) (withH g [(1, 7), (2, k), (1, 44)]) = g3 := by rw [← hg3]; exact he1
        clear hg3
        subst he
        refine condT_true ?_
        refine lds_of (kx.ext E.toExt).cells rfl ?_
        refine lds_of S.blk.cells rfl ?_
        exact c_lmHeap (hX.ext E.toExt) (step_view' H2 hr2 hB2 S.calls.any S.said.any) (fun wj ej => hR _ (E.toExt.trans ej))
end Go.PT
