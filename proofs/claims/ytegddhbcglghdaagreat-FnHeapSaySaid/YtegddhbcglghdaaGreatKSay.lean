/- A value is said; of a call its method. The contract. -/
import Derived.Test.YtegddhbcglghdaaGreatGJ
import Derived.Test.YtegddhbcglghdaaGreatLTextSay
/- A value is said; of a call its method. -/
set_option linter.unusedVariables false
set_option linter.unusedSimpArgs false
set_option maxRecDepth 100000
namespace Go.PT
attribute [local irreducible] ldT ldsT stT stsT allocT boxT bldT bslT nilT fadT ixaT fldT extT lenT pickT binT notT cviT opT opU condT clT clvT ivT loopT arT ndT World.cell? World.frozen? World.alloc World.drew World.setCell Blk Cells Sl
theorem c_heapSay {w : World} {code more : List Int} {v u : Value} {R : VW} (h : Bt w code v) (hb : ∀ x ∈ code, 0 ≤ x ∧ x ≤ 255) (h' : Bt w more u) (hR : ∀ w', Ext w w' → R (.bool true) w') : clT PR 20 [v, u] w R := by
  refine Flaws_FnHeapSay.cl ?_
  unfold Flaws_FnHeapSay
  refine h.len_of ?_
  (refine gtr_of ?_)
  refine condGt_of (fun _ => hR _ (Fr.refl _ _)) (fun hbig => ?_)
  refine h'.len_of ?_
  (refine gtr_of ?_)
  refine condGt_of (fun _ => hR _ (Fr.refl _ _)) (fun hbig' => ?_)
  refine c_drawStep h hb (fun up uc us w1 p g D => ?_)
  have hm0 := D.meth.anyOld (q := [])
  have hc0 := D.view.calls.anyOld (q := [])
  have hs0 := D.view.said.anyOld (q := [])
  have hBn := D.small.n
  replace hR : ∀ w', Ext w1 w' → R (.bool true) w' := fun w' e => hR w' (D.ext.trans e)
  refine ext_of rfl ?_
  refine ext_of rfl ?_
  have E := En.start w1
  refine E.al (fun b5 w2 E _ => ?_)
  refine E.al (fun b6 w3 E _ => ?_)
  refine En.sts' (vs := [up]) [_] rfl E rfl rfl (by intro x hx; simp at hx; subst hx; exact hm0.one) (fun w4 E e4 => ?_)
  refine En.sts' (vs := heapCells g uc us) [] rfl E rfl rfl (by intro x hx; simp only [heapCells, List.mem_cons, List.not_mem_nil, or_false] at hx; rcases hx with h | h | h | h | h <;> rw [h] <;> first | rfl | exact hc0.one | exact hs0.one) (fun w5 E e5 => ?_)
  refine h'.len_of ?_
  have hh3 := tdiv_range (more.length : Int) 3 (by omega) (by omega)
  refine quo_of (by omega) (by omega) (by omega) ?_
  generalize Int.tdiv (more.length : Int) 3 = m3 at hh3
  (refine fad_of ?_)
  refine E.ld (by (exact .head _)) rfl ?_
  refine hc0.len_of ?_
  refine max_of ?_
  refine rem_of (by omega) ?_
  have hk := tmod_range m3 (max (g.calls.length : Int) 1) (by omega) (by omega)
  generalize Int.tmod m3 (max (g.calls.length : Int) 1) = k at hk
  refine bld_of (cs := #[.int .i64 0, .int .i64 0]) rfl ?_
  refine h'.len_of ?_
  refine rem_of (by omega) ?_
  have hn := tmod_range (more.length : Int) 90 (by omega) (by omega)
  generalize Int.tmod (more.length : Int) 90 = n at hn
  refine c_lmNum (fun w0 e0 => ?_)
  replace E := E.ext e0
  refine c_lmOf (fun w0 e0 => ?_)
  replace E := E.ext e0
  refine bsl_of' rfl rfl rfl (fun bv wv ev hbv kv => ?_)
  replace E := E.ext ev
  refine h'.len_of ?_
  refine rem_of (by omega) ?_
  have hj := tmod_range (more.length : Int) 3 (by omega) (by omega)
  generalize Int.tmod (more.length : Int) 3 = j at hj
  have kv2 : Blk wv bv [.int .i64 0, .int .i64 0, .int .i64 1, .int .i64 n, .int .i64 2, .int .i64 k] := kv
  have hvs : Sl kPair Any wv [] ([(0, 0), (1, n), (2, k)] : List V) (.slice (some ⟨bv, 0, none⟩) 3 3) := sl_flat (rest := []) (by simpa using kv2) rfl (Nat.le_refl _) kv.lt
  refine pair_ix hvs hj.1 hj.2 (fun b3 o3 hc => ?_)
  refine lds_of hc rfl ?_
  generalize hv : pairAt ([(0, 0), (1, n), (2, k)] : List V) j = v at hc ⊢
  have hvk : v.1 = 2 → v = (2, k) := by
    rcases (show j = 0 ∨ j = 1 ∨ j = 2 by omega) with h | h | h <;> rw [← hv, h] <;> simp [pairAt]
  clear hvs hv hc
  refine E.als (vs := [.int .i64 v.1, .int .i64 v.2]) rfl rfl rfl (by simp [Value.oneCell']) (fun b7 w7 E _ => ?_)
  replace E := E.drew
  refine E.lds (by (exact .tail _ (.tail _ (.head _)))) rfl ?_
  refine E.lds (by (exact .tail _ (.head _))) rfl ?_
  refine bld_of (cs := #[.int .i64 16, .int .i64 0]) rfl ?_
  refine E.lds (by (exact .head _)) rfl ?_
  refine E.ar2 (.inl ⟨rfl, rfl⟩) (fun w6 s6 l6 E e6 S _ => ?_)
  refine c_lmNum (fun w7 e7 => ?_)
  replace E := E.ext e7
  refine ⟨E.lds (S.mem (by (exact .head _))) rfl rfl, ?_⟩
  refine ⟨E.lds (S.mem (by (exact .tail _ (.head _)))) rfl rfl, ?_⟩
  refine ⟨E.lds (S.mem (by (exact .tail _ (.tail _ (.head _))))) rfl rfl, ?_⟩
  refine E.ar2 S (fun w8 s8 l8 E e8 S _ => ?_)
  refine bsl_of' rfl rfl rfl (fun b9 w9 e9 hb9 k9 => ?_)
  replace E := E.ext e9
  refine ⟨E.lds (S.mem (by (exact .tail _ (.head _)))) rfl rfl, ?_⟩
  refine ⟨E.lds (S.mem (by (exact .tail _ (.tail _ (.head _))))) rfl rfl, ?_⟩
  refine E.ar2 S (fun w10 s10 l10 E e10 S _ => ?_)
  have kst : Blk w10 b9 [.int .i64 1, .int .i64 7, .int .i64 v.1, .int .i64 v.2] := Blk.ext k9 e10
  have hst : Sl kPair Any w10 [] [(1, 7), v] (.slice (some ⟨b9, 0, none⟩) 2 2) := sl_flat (rest := []) (by simpa using kst) rfl (Nat.le_refl _) kst.lt
  have hlt : ∀ x ∈ l10, w1.heap.size ≤ x.1 ∧ x.1 < w10.heap.size := fun x hx => ⟨(E.loc x hx).2, (E.loc x hx).1.1.lt⟩
  have hsz := E.size
  refine c_lmWith (op := (16, 0)) hsz (hm0.oldExt E.toExt) D.prog ⟨hc0.oldExt E.toExt, hs0.oldExt E.toExt⟩ D.small hst (by simp) (fun wa q g2 u2 uc2 us2 ok ea hq hql hqm hg hB2 hok => ?_)
  have W : Wd w1.heap.size w10.heap.size wa.heap.size wa q g2 u2 uc2 us2 := ⟨hq, hg⟩
  have hsz2 := ea.size
  replace E := E.ext ea
  refine ext_of rfl ?_
  refine ext_of rfl ?_
  refine ext_of rfl ?_
  refine E.ar2 S (fun wb sb lb E eb S hnew => ?_)
  replace W := W.ext eb
  refine S.nd (fun b1 b2 hs2 hl2 => ?_)
  subst hs2 hl2
  have hb1 := hnew (b1, _) (.head _)
  have hb2 := hnew (b2, _) (.tail _ (.head _))
  have hb1 : (w1.heap.size ≤ b1 ∧ b1 < w10.heap.size) ∨ wa.heap.size ≤ b1 := hb1.imp (fun h => hlt _ h) (fun h => h)
  have hb2 : (w1.heap.size ≤ b2 ∧ b2 < w10.heap.size) ∨ wa.heap.size ≤ b2 := hb2.imp (fun h => hlt _ h) (fun h => h)
  clear hnew S hlt
  refine En.sts' (vs := [u2]) [] rfl E rfl rfl (by intro x hx; simp at hx; subst hx; exact W.meth.one) (fun wc E ec => ?_)
  replace W := W.set ec.fr hb1 hsz hsz2
  refine ar2_some ?_
  refine nd2_some ?_
  refine En.sts' (vs := heapCells g2 uc2 us2) [_] rfl E rfl rfl (by intro x hx; simp only [heapCells, List.mem_cons, List.not_mem_nil, or_false] at hx; rcases hx with h | h | h | h | h <;> rw [h] <;> first | rfl | exact W.rows.calls.one | exact W.rows.said.one) (fun wd E ed => ?_)
  replace W := W.set ed.fr hb2 hsz hsz2
  refine ar2_some ?_
  refine nd2_some ?_
  refine ar2_some ?_
  refine nd2_some ?_
  have h7d : b7 < wd.heap.size := (E.blk (by (exact .tail _ (.tail _ (.head _))))).lt
  refine E.lds (by (exact .head _)) rfl ?_
  refine E.lds (by (exact .tail _ (.head _))) rfl ?_
  have hqm2 : ∀ m ∈ q, m.ops.length ≤ 1073741824 := fun m hm => by have := hqm m hm; omega
  have hB2n := hB2.ns
  refine c_implStep W.meth.betAny (by omega) hqm2 (W.view hB2) (by omega) (fun wf M x1 x2 ef hbf hlf hO => ?_)
  replace E := E.ext ef
  replace W := W.ext ef
  have hx := hO.calls.one
  have hx' := hO.said.one
  refine ext_of rfl ?_
  refine ext_of rfl ?_
  refine E.als (vs := heapCells (runR q g2 1).1 x1 x2) rfl rfl rfl (by intro x hx; simp only [heapCells, List.mem_cons, List.not_mem_nil, or_false] at hx; rcases hx with h | h | h | h | h <;> rw [h] <;> first | rfl | assumption) (fun bx wg E eg => ?_)
  replace W := W.ext eg
  have hO : HOwn M wg (runR q g2 1).1 x1 x2 := ⟨hO.calls.keepX eg, hO.said.keepX eg⟩
  (refine not_of ?_)
  refine condN_of (fun hf => ?_) (fun ht => ?_)
  · refine E.lds (by (exact .tail _ (.head _))) rfl ?_
    refine E.lds (by (exact .tail _ (.tail _ (.head _)))) rfl ?_
    refine c_specHeapOk W.meth.betAny (by omega) hqm2 (W.view hB2) (fun wh eh => ?_)
    refine eqlB_of (by kernel_rfl) ?_
    rw [run_one, beq_self_eq_true]
    exact hR _ (E.toExt.trans eh)
  · obtain ⟨W2, rfl, rfl⟩ := hok ht
    have hrun := run_with W2
    rw [hrun] at hO E ⊢
    have H2 := W2.gok
    have hr2 : (withH g [(1, 7), v]).code = 0 := W2.1.2.1
    have hX := step_view H2 hr2 hB2 hO
    have hG := W.view hB2
    have r := W2.range
    have f2 := H2.at r.1 r.2
    have p0 := f2.pc0
    have p1 := f2.pc1
    have pl := (H2.meth r.1 r.2).ops
    have kx : Blk wg bx (heapCells (stepH (withP p g (16, 0)) (withH g [(1, 7), v])) x1 x2) := E.blk (by (exact .head _))
    have kg : Blk wg b2 (heapCells (withH g [(1, 7), v]) uc2 us2) := E.blk (by (exact .tail _ (.tail _ (.head _))))
    have k7 : Blk wg b7 [.int .i64 v.1, .int .i64 v.2] := E.blk (by (exact .tail _ (.tail _ (.tail _ (.head _)))))
    have h71 : w1.heap.size ≤ b7 := (E.loc (b7, [.int .i64 v.1, .int .i64 v.2]) (by (exact .tail _ (.tail _ (.tail _ (.head _)))))).2
    have hne7 : bx ≠ b7 := by have h9 := E.once; simp at h9; omega
    have e1g : Ext w1 wg := E.toExt
    have hM7 : M b7 = none := by
      cases h : M b7 with
      | none => rfl
      | some q => have := hbf b7 q h; omega
    have hlM : ∀ x r, M x = some r → x < wg.heap.size := fun x r h => Nat.lt_of_lt_of_le (hlf x r h) eg.size
    have hR0 := hR
    have hBN : ∀ L : Lab, Born wg L → L b7 = none := fun L hB => by
      cases h : L b7 with
      | none => rfl
      | some q => have := hB b7 q h; have := k7.lt; omega
    replace hR : ∀ w', Ext wg w' → R (.bool true) w' := fun w' e => hR w' (E.toExt.trans e)
    clear E W hrun
    have E := En.start wg
    have hstep := step_say W2
    replace E := E.drew
    refine lds_of (kg.ext E.toExt).cells rfl ?_
    refine E.ar1 (l0 := []) (.inl ⟨rfl, rfl⟩) (fun wm sm lm E _ S => ?_)
    refine c_lmNum (fun wn en => ?_)
    replace E := E.ext en
    refine ⟨lds_of (kg.ext E.toExt).cells rfl rfl, ?_⟩
    refine E.ar1 S (fun wm sm lm E _ S => ?_)
    refine bsl_of' rfl rfl rfl (fun bq wq eq' hbq kq => ?_)
    replace E := E.ext eq'
    refine ⟨lds_of (kg.ext E.toExt).cells rfl rfl, ?_⟩
    refine E.ar1 S (fun wr sr lr E er S => ?_)
    have kst : Blk wr bq [.int .i64 1, .int .i64 7] := Blk.ext kq er
    have hst : Sl kPair Any wr [] [(1, 7)] (.slice (some ⟨bq, 0, none⟩) 1 1) := sl_flat (rest := []) (by simpa using kst) rfl (Nat.le_refl _) kst.lt
    refine c_lmAfter (hG.ext E.toExt) r.1 r.2 p0 (by show (callAt _ _).pc ≤ 1000; omega) hst (by simp) (fun wi Mi y1 y2 ei hbi hli hO2 => ?_)
    have hap := apart_of E.mu.lim hbi
    have hC := hO2.calls.inR (q := []) hap
    have hS := hO2.said.inR (q := []) hap
    replace E := E.join [] ei hbi hli
    refine E.ar1 S (fun wk sk lk E ek S => ?_)
    replace hC := hC.keepX ek
    replace hS := hS.keepX ek
    refine S.nd (fun b3 hs3 hl3 => ?_)
    subst hs3 hl3
    refine En.sts' (vs := heapCells (afterH (withH g [(1, 7), v]) [(1, 7)]) y1 y2) [] rfl E rfl rfl (by intro x hx; simp only [heapCells, List.mem_cons, List.not_mem_nil, or_false] at hx; rcases hx with h | h | h | h | h <;> rw [h] <;> first | rfl | exact hC.one | exact hS.one) (fun wl E el => ?_)
    replace hC := hC.loc el
    replace hS := hS.loc el
    refine ar_some ?_
    refine nd_some ?_
    have k3 := E.blk (.head _)
    obtain ⟨E1, hlab, hap3⟩ := E.owned
    have S : SM _ wl b3 [] (afterH (withH g [(1, 7), v]) [(1, 7)]) y1 y2 := ⟨k3, hlab, hC.inL, hS.inL, E1.mu.lim⟩
    clear E hC hS hap3 k3 hap
    have E := E1
    clear E1
    have r' : 0 ≤ (afterH (withH g [(1, 7), v]) [(1, 7)]).now ∧ (afterH (withH g [(1, 7), v]) [(1, 7)]).now < (afterH (withH g [(1, 7), v]) [(1, 7)]).calls.length := ⟨r.1, by rw [now_len.2]; exact r.2⟩
    have hsv := said_after (g := (withH g [(1, 7), v])) (st := [(1, 7)]) (v := v) r.1 r.2 (fun h2 => by rw [hvk h2]; exact (W2.of (k := k) (by rw [hvk h2]; simp)).1)
    have fin : ∀ (L : Lab) (v2 : V) (wy : World), Born wg L → Blk wy b7 [.int .i64 v2.1, .int .i64 v2.2] → SM L wy b3 [] (afterH (withH g [(1, 7), v]) [(1, 7)]) y1 y2 → HOwn M wy (stepH (withP p g (16, 0)) (withH g [(1, 7), v])) x1 x2 → Blk wy bx (heapCells (stepH (withP p g (16, 0)) (withH g [(1, 7), v])) x1 x2) → Ext w1 wy → saidV (afterH (withH g [(1, 7), v]) [(1, 7)]) v = v2 →
        Flaws_FnHeapSay.j1 (.pointer (some ⟨b7, 0, none⟩)) (.pointer (some ⟨bx, 0, none⟩)) (.bool true) (.pointer (some ⟨b3, 0, none⟩)) wy R := by
      intro L v2 wy hBL k S hO kx1 e1 hv2
      have hML : ∀ x r, M x = some r → L x = none := fun x r h => by
        cases hL : L x with
        | none => rfl
        | some q => have := hBL x q hL; have := hlM x r h; omega
      have hLx : L bx = none := by
        cases hL : L bx with
        | none => rfl
        | some q => have := hBL bx q hL; have := kx.lt; omega
      unfold Flaws_FnHeapSay.j1
      intro _
      (refine fad_of ?_)
      refine ld_of (S.cell (j := 3) rfl) ?_
      refine lds_of k.cells rfl ?_
      refine bsl_of' rfl rfl rfl (fun bq wq eq' hbq kq => ?_)
      replace S := S.ext eq'
      refine S.appSaid (v := v2) (by kernel_rfl) kq rfl (by show (withH g [(1, 7), v]).said.length + 1 ≤ _; omega) (fun v' w' L' m' S hs => ?_)
      (refine fad_of ?_)
      refine S.stM hs.one (by simp) (h' := { (afterH (withH g [(1, 7), v]) [(1, 7)]) with said := (afterH (withH g [(1, 7), v]) [(1, 7)]).said ++ [v2] }) rfl S.calls hs (fun w5 m5 _ S => ?_)
      have m := Mut.pre eq' (m'.trans m5)
      have hO5 : HOwn M w5 (stepH (withP p g (16, 0)) (withH g [(1, 7), v])) x1 x2 := ⟨hO.calls.own m.fr (fun x s hb => ⟨fun h => h (hML x _ hb), hb⟩), hO.said.own m.fr (fun x s hb => ⟨fun h => h (hML x _ hb), hb⟩)⟩
      have kx5 := kx1.fr m.fr (fun h => h hLx)
      have e5 : Ext w1 w5 := m.born e1 (fun x r h => Nat.le_trans e1g.size (hBL x r h))
      generalize hg3 : ({ (afterH (withH g [(1, 7), v]) [(1, 7)]) with said := (afterH (withH g [(1, 7), v]) [(1, 7)]).said ++ [v2] } : Hp) = g3 at S
      have he : stepH (withP p g (16, 0)) (withH g [(1, 7), v]) = g3 := by rw [← hg3, hstep]; unfold sayH; rw [hv2]
      clear hg3
      subst he
      refine condT_true ?_
      refine lds_of kx5.cells rfl ?_
      refine lds_of S.blk.cells rfl ?_
      exact c_lmHeap (step_view H2 hr2 hB2 hO5) (step_view' H2 hr2 hB2 S.calls.any S.said.any) (fun wj ej => hR0 _ (e5.trans ej))
    (refine fad_of ?_)
    refine ld_of ((k7.ext E.toExt).cell rfl) ?_
    (refine eql_of ?_)
    refine condP_of (fun hd => ?_) (fun hd => ?_)
    · have hv' := hvk hd
      obtain ⟨k0, k1⟩ := W2.of (k := k) (by rw [hv']; simp)
      (refine fad_of ?_)
      refine ld_of ((kg.ext E.toExt).cell rfl) ?_
      refine call_ix (hG.calls.ext E.toExt) k0 k1 (fun b o ut ut' hcell hu hu' => ?_)
      (refine fad_of ?_)
      refine ld_of (hcell.at 0 rfl) ?_
      refine c_lmOf (fun wo eo => ?_)
      replace E := E.ext eo
      replace S := S.ext eo
      have hBL := E.born
      refine sts_of' (vs := [.int .i64 2, .int .i64 (callAt (withH g [(1, 7), v]).calls k).method]) rfl (k7.ext E.toExt) rfl rfl (by simp [Value.oneCell']) (fun wy ey ky => ?_)
      refine fin _ (2, (callAt (withH g [(1, 7), v]).calls k).method) wy hBL ky (S.loc ⟨ey, hBN _ hBL⟩) ⟨(hO.calls.keepX E.toExt).loc ⟨ey, hM7⟩, (hO.said.keepX E.toExt).loc ⟨ey, hM7⟩⟩ ((kx.ext E.toExt).fr ey hne7) ((e1g.trans E.toExt).trans' ey (fun _ _ h => h) (fun x hx he => by omega)) (by rw [hsv, if_pos hd, hv'])
    · exact fin _ v wl E.born (k7.ext E.toExt) S ⟨hO.calls.keepX E.toExt, hO.said.keepX E.toExt⟩ (kx.ext E.toExt) (e1g.trans E.toExt) (by rw [hsv, if_neg hd])
end Go.PT
