/- A value is returned to who called. The contract. -/
import Derived.Test.YtegddhbcglghdaaGreatGJ
import Derived.Test.YtegddhbcglghdaaGreatLTextRet
/- A value is returned to who called. -/
set_option linter.unusedVariables false
set_option linter.unusedSimpArgs false
set_option maxRecDepth 100000
namespace Go.PT
attribute [local irreducible] ldT ldsT stT stsT allocT boxT bldT bslT nilT fadT ixaT fldT extT lenT pickT binT notT cviT opT opU condT clT clvT ivT loopT arT ndT World.cell? World.frozen? World.alloc World.drew World.setCell Blk Cells Sl
theorem c_heapRet {w : World} {code more : List Int} {v u : Value} {R : VW} (h : Bt w code v) (hb : ∀ x ∈ code, 0 ≤ x ∧ x ≤ 255) (h' : Bt w more u) (hR : ∀ w', Ext w w' → R (.bool true) w') : clT PR 12 [v, u] w R := by
  refine Flaws_FnHeapRet.cl ?_
  unfold Flaws_FnHeapRet
  refine h.len_of ?_
  (refine gtr_of ?_)
  refine condGt_of (fun _ => hR _ (Fr.refl _ _)) (fun hbig => ?_)
  refine h'.len_of ?_
  (refine gtr_of ?_)
  refine condGt_of (fun _ => hR _ (Fr.refl _ _)) (fun hbig' => ?_)
  refine c_drawStep h hb (fun up uc us w1 p g D => ?_)
  have hm0 := D.meth.anyOld (q := [])
  have hc0 := D.view.calls.anyOld (q := [])
  have hs0 := D.view.said.anyOld (q := [])
  have hBn := D.small.n
  replace hR : ∀ w', Ext w1 w' → R (.bool true) w' := fun w' e => hR w' (D.ext.trans e)
  refine ext_of rfl ?_
  refine ext_of rfl ?_
  have E := En.start w1
  refine E.al (fun b5 w2 E _ => ?_)
  refine E.al (fun b6 w3 E _ => ?_)
  refine En.sts' (vs := [up]) [_] rfl E rfl rfl (by intro x hx; simp at hx; subst hx; exact hm0.one) (fun w4 E e4 => ?_)
  refine En.sts' (vs := heapCells g uc us) [] rfl E rfl rfl (by intro x hx; simp only [heapCells, List.mem_cons, List.not_mem_nil, or_false] at hx; rcases hx with h | h | h | h | h <;> rw [h] <;> first | rfl | exact hc0.one | exact hs0.one) (fun w5 E e5 => ?_)
  refine bld_of (cs := #[.int .i64 0, .int .i64 0]) rfl ?_
  refine h'.len_of ?_
  refine rem_of (by omega) ?_
  have hn := tmod_range (more.length : Int) 90 (by omega) (by omega)
  generalize Int.tmod (more.length : Int) 90 = n at hn
  refine c_lmNum (fun w0 e0 => ?_)
  replace E := E.ext e0
  refine bsl_of' rfl rfl rfl (fun bv wv ev hbv kv => ?_)
  replace E := E.ext ev
  refine h'.len_of ?_
  refine rem_of (by omega) ?_
  have hk := tmod_range (more.length : Int) 2 (by omega) (by omega)
  generalize Int.tmod (more.length : Int) 2 = k at hk
  have kv2 : Blk wv bv [.int .i64 0, .int .i64 0, .int .i64 1, .int .i64 n] := kv
  have hvs : Sl kPair Any wv [] ([(0, 0), (1, n)] : List V) (.slice (some ⟨bv, 0, none⟩) 2 2) := sl_flat (rest := []) (by simpa using kv2) rfl (Nat.le_refl _) kv.lt
  refine pair_ix hvs hk.1 hk.2 (fun b3 o3 hc => ?_)
  refine lds_of hc rfl ?_
  generalize hv : pairAt ([(0, 0), (1, n)] : List V) k = v at hc ⊢
  have hv2 : v.1 ≠ 2 := by
    rcases (show k = 0 ∨ k = 1 by omega) with h | h <;> rw [← hv, h] <;> simp [pairAt]
  clear hvs hv hc
  refine E.als (vs := [.int .i64 v.1, .int .i64 v.2]) rfl rfl rfl (by simp [Value.oneCell']) (fun b7 w7 E _ => ?_)
  replace E := E.drew
  refine E.lds (by (exact .tail _ (.tail _ (.head _)))) rfl ?_
  refine E.lds (by (exact .tail _ (.head _))) rfl ?_
  refine bld_of (cs := #[.int .i64 10, .int .i64 0]) rfl ?_
  refine E.lds (by (exact .head _)) rfl ?_
  refine E.ar2 (.inl ⟨rfl, rfl⟩) (fun w6 s6 l6 E e6 S _ => ?_)
  refine c_lmNum (fun w7 e7 => ?_)
  replace E := E.ext e7
  refine ⟨E.lds (S.mem (by (exact .head _))) rfl rfl, ?_⟩
  refine ⟨E.lds (S.mem (by (exact .tail _ (.head _)))) rfl rfl, ?_⟩
  refine ⟨E.lds (S.mem (by (exact .tail _ (.tail _ (.head _))))) rfl rfl, ?_⟩
  refine E.ar2 S (fun w8 s8 l8 E e8 S _ => ?_)
  refine bsl_of' rfl rfl rfl (fun b9 w9 e9 hb9 k9 => ?_)
  replace E := E.ext e9
  refine ⟨E.lds (S.mem (by (exact .tail _ (.head _)))) rfl rfl, ?_⟩
  refine ⟨E.lds (S.mem (by (exact .tail _ (.tail _ (.head _))))) rfl rfl, ?_⟩
  refine E.ar2 S (fun w10 s10 l10 E e10 S _ => ?_)
  have kst : Blk w10 b9 [.int .i64 1, .int .i64 7, .int .i64 v.1, .int .i64 v.2] := Blk.ext k9 e10
  have hst : Sl kPair Any w10 [] [(1, 7), v] (.slice (some ⟨b9, 0, none⟩) 2 2) := sl_flat (rest := []) (by simpa using kst) rfl (Nat.le_refl _) kst.lt
  have hlt : ∀ x ∈ l10, w1.heap.size ≤ x.1 ∧ x.1 < w10.heap.size := fun x hx => ⟨(E.loc x hx).2, (E.loc x hx).1.1.lt⟩
  have hsz := E.size
  refine c_lmWith (op := (10, 0)) hsz (hm0.oldExt E.toExt) D.prog ⟨hc0.oldExt E.toExt, hs0.oldExt E.toExt⟩ D.small hst (by simp) (fun wa q g2 u2 uc2 us2 ok ea hq hql hqm hg hB2 hok => ?_)
  have W : Wd w1.heap.size w10.heap.size wa.heap.size wa q g2 u2 uc2 us2 := ⟨hq, hg⟩
  have hsz2 := ea.size
  replace E := E.ext ea
  refine ext_of rfl ?_
  refine ext_of rfl ?_
  refine ext_of rfl ?_
  refine E.ar2 S (fun wb sb lb E eb S hnew => ?_)
  replace W := W.ext eb
  refine S.nd (fun b1 b2 hs2 hl2 => ?_)
  subst hs2 hl2
  have hb1 := hnew (b1, _) (.head _)
  have hb2 := hnew (b2, _) (.tail _ (.head _))
  have hb1 : (w1.heap.size ≤ b1 ∧ b1 < w10.heap.size) ∨ wa.heap.size ≤ b1 := hb1.imp (fun h => hlt _ h) (fun h => h)
  have hb2 : (w1.heap.size ≤ b2 ∧ b2 < w10.heap.size) ∨ wa.heap.size ≤ b2 := hb2.imp (fun h => hlt _ h) (fun h => h)
  clear hnew S hlt
  refine En.sts' (vs := [u2]) [] rfl E rfl rfl (by intro x hx; simp at hx; subst hx; exact W.meth.one) (fun wc E ec => ?_)
  replace W := W.set ec.fr hb1 hsz hsz2
  refine ar2_some ?_
  refine nd2_some ?_
  refine En.sts' (vs := heapCells g2 uc2 us2) [_] rfl E rfl rfl (by intro x hx; simp only [heapCells, List.mem_cons, List.not_mem_nil, or_false] at hx; rcases hx with h | h | h | h | h <;> rw [h] <;> first | rfl | exact W.rows.calls.one | exact W.rows.said.one) (fun wd E ed => ?_)
  replace W := W.set ed.fr hb2 hsz hsz2
  refine ar2_some ?_
  refine nd2_some ?_
  refine ar2_some ?_
  refine nd2_some ?_
  refine E.lds (by (exact .head _)) rfl ?_
  refine E.lds (by (exact .tail _ (.head _))) rfl ?_
  have hqm2 : ∀ m ∈ q, m.ops.length ≤ 1073741824 := fun m hm => by have := hqm m hm; omega
  have hB2n := hB2.ns
  refine c_implStep W.meth.betAny (by omega) hqm2 (W.view hB2) (by omega) (fun wf M x1 x2 ef hbf hlf hO => ?_)
  replace E := E.ext ef
  replace W := W.ext ef
  have hx := hO.calls.one
  have hx' := hO.said.one
  refine ext_of rfl ?_
  refine ext_of rfl ?_
  refine E.als (vs := heapCells (runR q g2 1).1 x1 x2) rfl rfl rfl (by intro x hx; simp only [heapCells, List.mem_cons, List.not_mem_nil, or_false] at hx; rcases hx with h | h | h | h | h <;> rw [h] <;> first | rfl | assumption) (fun bx wg E eg => ?_)
  replace W := W.ext eg
  have hO : HOwn M wg (runR q g2 1).1 x1 x2 := ⟨hO.calls.keepX eg, hO.said.keepX eg⟩
  (refine not_of ?_)
  refine condN_of (fun hf => ?_) (fun ht => ?_)
  · refine E.lds (by (exact .tail _ (.head _))) rfl ?_
    refine E.lds (by (exact .tail _ (.tail _ (.head _)))) rfl ?_
    refine c_specHeapOk W.meth.betAny (by omega) hqm2 (W.view hB2) (fun wh eh => ?_)
    refine eqlB_of (by kernel_rfl) ?_
    rw [run_one, beq_self_eq_true]
    exact hR _ (E.toExt.trans eh)
  · obtain ⟨W2, rfl, rfl⟩ := hok ht
    have hrun := run_with W2
    rw [hrun] at hO E ⊢
    have H2 := W2.gok
    have hr2 : (withH g [(1, 7), v]).code = 0 := W2.1.2.1
    have hX := step_view H2 hr2 hB2 hO
    have hG := W.view hB2
    have r := W2.range
    have f2 := H2.at r.1 r.2
    have p0 := f2.pc0
    have p1 := f2.pc1
    have pl := (H2.meth r.1 r.2).ops
    have kx : Blk wg bx (heapCells (stepH (withP p g (10, 0)) (withH g [(1, 7), v])) x1 x2) := E.blk (by (exact .head _))
    have kg : Blk wg b2 (heapCells (withH g [(1, 7), v]) uc2 us2) := E.blk (by (exact .tail _ (.tail _ (.head _))))
    replace hR : ∀ w', Ext wg w' → R (.bool true) w' := fun w' e => hR w' (E.toExt.trans e)
    have k7 : Blk wg b7 [.int .i64 v.1, .int .i64 v.2] := E.blk (by (exact .tail _ (.tail _ (.tail _ (.head _)))))
    clear E W hO hrun
    have E := En.start wg
    refine lds_of (kg.ext E.toExt).cells rfl ?_
    refine c_lmAfter (st := []) (hG.ext E.toExt) r.1 r.2 p0 (by show (callAt _ _).pc ≤ 1000; omega) Sl.none0 (by simp) (fun wi Mi y1 y2 ei hbi hli hO2 => ?_)
    have hap := apart_of E.mu.lim hbi
    have hC := hO2.calls.inR (q := []) hap
    have hS := hO2.said.inR (q := []) hap
    replace E := E.join [] ei hbi hli
    refine E.als (vs := heapCells (afterH (withH g [(1, 7), v]) []) y1 y2) rfl rfl rfl (by intro x hx; simp only [heapCells, List.mem_cons, List.not_mem_nil, or_false] at hx; rcases hx with h | h | h | h | h <;> rw [h] <;> first | rfl | exact hC.one | exact hS.one) (fun b3 wl E el => ?_)
    replace hC := hC.keepX el
    replace hS := hS.keepX el
    have k3 := E.blk (.head _)
    obtain ⟨E1, hlab, hap3⟩ := E.owned
    have S : SM _ wl b3 [] (afterH (withH g [(1, 7), v]) []) y1 y2 := ⟨k3, hlab, hC.inL, hS.inL, E1.mu.lim⟩
    clear E hC hS hap3 k3 hap
    have E := E1
    clear E1
    have r' : 0 ≤ (afterH (withH g [(1, 7), v]) []).now ∧ (afterH (withH g [(1, 7), v]) []).now < (afterH (withH g [(1, 7), v]) []).calls.length := ⟨r.1, by rw [now_len.2]; exact r.2⟩
    have hstep := step_ret W2 hv2
    rw [show (withH g [(1, 7), v]).said = (afterH (withH g [(1, 7), v]) []).said from rfl] at hstep
    have hAs : (afterH (withH g [(1, 7), v]) []).said.length ≤ 1000000 := by show (withH g [(1, 7), v]).said.length ≤ _; omega
    have hs0 : -1 ≤ (nowC (afterH (withH g [(1, 7), v]) [])).sender := by rw [after_now r.1 r.2]; exact f2.s0
    have hs1 : (nowC (afterH (withH g [(1, 7), v]) [])).sender < (afterH (withH g [(1, 7), v]) []).calls.length := by rw [after_now r.1 r.2, now_len.2]; exact f2.s1
    generalize hA : afterH (withH g [(1, 7), v]) [] = A at S r' hstep hAs hs0 hs1
    have fin : ∀ (L : Lab) (wy : World) (g3 : Hp) (z1 z2 : Value), En noL wg L wy [] → SM L wy b3 [] g3 z1 z2 → stepH (withP p g (10, 0)) (withH g [(1, 7), v]) = g3 → Flaws_FnHeapRet.j1 (.pointer (some ⟨bx, 0, none⟩)) (.bool true) (.pointer (some ⟨b3, 0, none⟩)) wy R := by
      intro L wy g3 z1 z2 E S he
      subst he
      unfold Flaws_FnHeapRet.j1
      intro _
      refine condT_true ?_
      refine lds_of (kx.ext E.toExt).cells rfl ?_
      refine lds_of S.blk.cells rfl ?_
      exact c_lmHeap (hX.ext E.toExt) (step_view' H2 hr2 hB2 S.calls.any S.said.any) (fun wj ej => hR _ (E.toExt.trans ej))
    (refine fad_of ?_)
    refine ld_of (S.cell (j := 0) rfl) ?_
    (refine fad_of ?_)
    refine ld_of (S.cell (j := 1) rfl) ?_
    refine S.ix (i := A.now) r'.1 r'.2 (fun b o ut ut' F => ?_)
    (refine fad_of ?_)
    refine ld_of (F.cells.at 4 rfl) ?_
    (refine fad_of ?_)
    refine ld_of (S.cell (j := 0) rfl) ?_
    (refine fad_of ?_)
    refine ld_of (S.cell (j := 1) rfl) ?_
    refine S.ix (i := A.now) r'.1 r'.2 (fun b o ut ut' F => ?_)
    (refine fad_of ?_)
    refine S.st (off := 5) (c' := { nowC A with dead := true }) F r'.1 r'.2 rfl (by omega) rfl F.temps F.stack (fun wp mp S F => ?_)
    replace E := E.call mp
    (refine fad_of ?_)
    refine ld_of (S.cell (j := 0) rfl) ?_
    (refine fad_of ?_)
    refine ld_of (S.cell (j := 1) rfl) ?_
    have r2 : (putC A A.now { nowC A with dead := true }).now < (putC A A.now { nowC A with dead := true }).calls.length := by rw [putC_len]; exact r'.2
    refine S.ix (i := (putC A A.now { nowC A with dead := true }).now) r'.1 r2 (fun b o ut ut' F => ?_)
    have hcl : callAt (putC A A.now { nowC A with dead := true }).calls (putC A A.now { nowC A with dead := true }).now = { nowC A with dead := true } := nowC_put r'.1 r'.2
    rw [hcl] at F
    (refine fad_of ?_)
    refine S.st (off := 4) (c' := { nowC A with dead := true, sender := -1 }) F r'.1 r2 rfl (by omega) rfl F.temps F.stack (fun wq mq S F => ?_)
    replace E := E.call mq
    rw [show putC (putC A A.now { nowC A with dead := true }) (putC A A.now { nowC A with dead := true }).now { nowC A with dead := true, sender := -1 } = putC A A.now { nowC A with dead := true, sender := -1 } from putC_put] at S
    (refine fad_of ?_)
    refine S.stM rfl (by simp) (h' := outH A) rfl S.calls S.said (fun w4 m4 _ S => ?_)
    replace E := E.call m4
    (refine lss_of ?_)
    refine condLt_of (fun hd => ?_) (fun hd => ?_)
    · replace hd : (nowC A).sender < 0 := hd
      rw [if_pos hd] at hstep
      (refine fad_of ?_)
      refine ld_of (S.cell (j := 3) rfl) ?_
      refine lds_of (k7.ext E.toExt).cells rfl ?_
      refine bsl_of' rfl rfl rfl (fun bq wq eq' hbq kq => ?_)
      replace E := E.ext eq'
      replace S := S.ext eq'
      refine S.appSaid (v := v) (by kernel_rfl) kq rfl (by show A.said.length + 1 ≤ _; omega) (fun v' w' L' m' S hs => ?_)
      replace E := E.call m'
      (refine fad_of ?_)
      refine S.stM hs.one (by simp) (h' := { outH A with said := A.said ++ [v] }) rfl S.calls hs (fun w5 m5 _ S => ?_)
      replace E := E.call m5
      (refine fad_of ?_)
      refine S.stM rfl (by simp) (h' := { outH A with said := A.said ++ [v], code := 1 }) rfl S.calls S.said (fun w6 m6 _ S => ?_)
      exact fin _ _ _ _ _ (E.call m6) S hstep
    · replace hd : 0 ≤ (nowC A).sender := hd
      rw [if_neg (Int.not_lt.mpr hd)] at hstep
      have s0 : 0 ≤ (outH A).now := hd
      have s1 : (outH A).now < (outH A).calls.length := by rw [show (outH A).calls.length = A.calls.length from putC_len _ _ _]; exact hs1
      have hr1 : (callAt (outH A).calls (outH A).now).stack.length + 1 ≤ 1073741824 := by
        have h9 := (hX.nt (pushC (nowC (outH A)) v) (by rw [hstep]; exact List.mem_set (by omega) _)).2
        have h8 : (pushC (nowC (outH A)) v).stack.length = (callAt (outH A).calls (outH A).now).stack.length + 1 := by simp [pushC, nowC]
        omega
      replace E := E.drew
      replace S := S.drew
      (refine fad_of ?_)
      refine ld_of (S.cell (j := 0) rfl) ?_
      (refine fad_of ?_)
      refine ld_of (S.cell (j := 0) rfl) ?_
      refine S.ix (i := (outH A).now) s0 s1 (fun b o ut ut' F => ?_)
      (refine fad_of ?_)
      refine ld_of (F.cells.at 3 rfl) ?_
      refine lds_of (k7.ext E.toExt).cells rfl ?_
      refine bsl_of' rfl rfl rfl (fun bq wq eq' hbq kq => ?_)
      replace E := E.ext eq'
      replace S := S.ext eq'
      replace F := F.ext eq'
      refine ⟨ld_of (F.cells.at 3 rfl) rfl, ?_⟩
      refine ⟨ld_of (S.cell (j := 0) rfl) rfl, ?_⟩
      refine ⟨ld_of (S.cell (j := 0) rfl) rfl, ?_⟩
      refine S.app1 (v := v) (by kernel_rfl) F s0 s1 rfl kq rfl hr1 (fun v' w' L' m' S F hs => ?_)
      replace E := E.call m'
      refine ⟨ld_of (S.cell (j := 0) rfl) rfl, ?_⟩
      refine S.ix (i := (outH A).now) s0 s1 (fun b o ut ut' F => ?_)
      (refine fad_of ?_)
      refine S.st (off := 3) (c' := pushC (nowC (outH A)) v) F s0 s1 hs.one (by omega) rfl F.temps hs (fun w5 m5 S F => ?_)
      exact fin _ _ _ _ _ (E.call m5) S hstep
end Go.PT
