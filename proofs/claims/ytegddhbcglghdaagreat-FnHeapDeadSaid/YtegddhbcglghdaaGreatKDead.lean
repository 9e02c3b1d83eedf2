/- What has returned never runs again. The contract. -/
import Derived.Test.YtegddhbcglghdaaGreatGJ
import Derived.Test.YtegddhbcglghdaaGreatLTextView
import Derived.Test.YtegddhbcglghdaaGreatLTextDead
/- Drawn heaps, and how many operations. -/
set_option linter.unusedVariables false
set_option linter.unusedSimpArgs false
set_option maxRecDepth 100000
namespace Go.PT
attribute [local irreducible] ldT ldsT stT stsT allocT boxT bldT bslT nilT fadT ixaT fldT extT lenT pickT binT notT cviT opT opU condT clT clvT ivT loopT arT ndT World.cell? World.frozen? World.alloc World.drew World.setCell Blk Cells Sl
theorem c_drawRun {w : World} {code : List Int} {v : Value} {R : VW} (h : Bt w code v) (hb : ∀ x ∈ code, 0 ≤ x ∧ x ≤ 255)
    (hR : ∀ u uc us w' p h (n : Int), DW w w' p h u uc us → R (.tuple #[.agg #[u], .agg (heapCells h uc us).toArray, .int .i64 n]) w') : clT PR 77 [v] w R := by
  refine Fspec_DrawHeapRun.cl ?_
  unfold Fspec_DrawHeapRun
  have E := En.start w
  refine E.al (fun b2 w1 E _ => ?_)
  refine E.al (fun b3 w2 E _ => ?_)
  refine c_l6Open (h.ext E.toExt) hb (fun r w3 code' e3 hr3 hrd hb' => ?_)
  have l2 := (E.ext e3).loc _ (.tail _ (.head _))
  have l3 := (E.ext e3).loc _ (.head _)
  have l2 := l2.1.1.lt
  have l3 := l3.1.1.lt
  have lr := hrd.lt
  replace E := E.join [] e3 (lab1_born (p := [9]) hr3) (lab1_lim (p := [9]) lr)
  have hlab : joinL noL [] (lab1 r [9]) r = some [9] := joinL_right (by simp [lab1]) rfl
  generalize joinL noL [] (lab1 r [9]) = L at E hlab
  refine c_heap71 hrd hb' (by omega) (by omega) (fun u uc us w4 pos' p g D => ?_)
  replace E := E.call (Mut.at D.fr hlab E.mu.lim)
  have hm : Sl kMeth (Bet 0 w3.heap.size w4.heap.size) w4 [] p u := D.meth.frame (fun s y m hb => ⟨fun o v hc => hc, .inr ⟨hb.2.1, hb.2.2⟩, hb.2.2⟩)
  have hc : Sl kCall (Bet 0 w3.heap.size w4.heap.size) w4 [] g.calls uc := D.calls.frame (fun s y m hb => ⟨fun o v hc => hc, .inr ⟨hb.2.1, hb.2.2⟩, hb.2.2⟩)
  have hs : Sl kPair (Bet 0 w3.heap.size w4.heap.size) w4 [] g.said us := D.said.frame (fun s y m hb => ⟨fun o v hc => hc, .inr ⟨hb.2.1, hb.2.2⟩, hb.2.2⟩)
  have hrd := D.rd
  have d1 := D.lo
  have d2 := D.hi
  have z3 := D.fr.size
  refine ext_of rfl ?_
  refine ext_of rfl ?_
  refine al_of' (fun b6 w5 e5 h6 k6 => ?_)
  replace E := E.add e5 h6 k6
  replace hm := hm.betExt e5
  replace hc := hc.betExt e5
  replace hs := hs.betExt e5
  replace hrd := hrd.fr e5
  refine al_of' (fun b7 w6 e6 h7 k7 => ?_)
  replace E := E.add e6 h7 k7
  replace hm := hm.betExt e6
  replace hc := hc.betExt e6
  replace hs := hs.betExt e6
  replace hrd := hrd.fr e6
  replace h7 : w4.heap.size ≤ b7 := Nat.le_trans e5.size h7
  clear k6 k7
  refine En.sts' (vs := [u]) [_] rfl E rfl rfl (by intro x hx; simp at hx; subst hx; exact hm.one) (fun w7 E e7 => ?_)
  replace hm := hm.betSet e7.fr (.inr h6) (by omega) z3
  replace hc := hc.betSet e7.fr (.inr h6) (by omega) z3
  replace hs := hs.betSet e7.fr (.inr h6) (by omega) z3
  replace hrd := hrd.keep e7.fr (fun x hx => by omega)
  refine En.sts' (vs := heapCells g uc us) [] rfl E rfl rfl (by intro x hx; simp only [heapCells, List.mem_cons, List.not_mem_nil, or_false] at hx; rcases hx with h | h | h | h | h <;> rw [h] <;> first | rfl | exact hc.one | exact hs.one) (fun w8 E e8 => ?_)
  replace hm := hm.betSet e8.fr (.inr h7) (by omega) z3
  replace hc := hc.betSet e8.fr (.inr h7) (by omega) z3
  replace hs := hs.betSet e8.fr (.inr h7) (by omega) z3
  replace hrd := hrd.keep e8.fr (fun x hx => by omega)
  have ed : Ext w8 w8.drew := (Fr.refl _ _).drew
  replace E := E.ext ed
  replace hm := hm.betExt ed
  replace hc := hc.betExt ed
  replace hs := hs.betExt ed
  replace hrd := hrd.fr ed
  refine E.lds (by (exact .tail _ (.head _))) rfl ?_
  refine E.lds (by (exact .head _)) rfl ?_
  refine ⟨?_, ?_⟩
  · refine bsl_of' rfl rfl rfl (fun bs ws es hbs ks => ?_)
    replace E := E.add es hbs (show Blk ws bs [.int .i64 0, .int .i64 1, .int .i64 5, .int .i64 30, .int .i64 100, .int .i64 400, .int .i64 401, .int .i64 (-1)] from ks)
    replace hm := hm.betExt es
    replace hc := hc.betExt es
    replace hs := hs.betExt es
    replace hrd := hrd.fr es
    refine ⟨E.lds (by (exact .tail _ (.head _))) rfl rfl, ?_⟩
    refine ⟨E.lds (by (exact .tail _ (.tail _ (.head _)))) rfl rfl, ?_⟩
    refine c_pick hrd hb' (by omega) (by omega) (by omega) (fun x wp hx0 hx1 ep _ => ?_)
    replace E := E.call (Mut.at ep hlab E.mu.lim)
    replace hm := hm.betSet ep (.inl ⟨Nat.zero_le _, lr⟩) (by omega) z3
    replace hc := hc.betSet ep (.inl ⟨Nat.zero_le _, lr⟩) (by omega) z3
    replace hs := hs.betSet ep (.inl ⟨Nat.zero_le _, lr⟩) (by omega) z3
    obtain ⟨n, hn⟩ : ∃ n : Int, ([.int .i64 0, .int .i64 1, .int .i64 5, .int .i64 30, .int .i64 100, .int .i64 400, .int .i64 401, .int .i64 (-1)] : List Value)[0 + x.toNat * 1]? = some (.int .i64 n) := by
      rcases (show x = 0 ∨ x = 1 ∨ x = 2 ∨ x = 3 ∨ x = 4 ∨ x = 5 ∨ x = 6 ∨ x = 7 by omega) with rfl | rfl | rfl | rfl | rfl | rfl | rfl | rfl <;> exact ⟨_, rfl⟩
    refine ⟨E.lds (by (exact .tail _ (.head _))) rfl rfl, ?_⟩
    refine ⟨E.lds (by (exact .tail _ (.tail _ (.head _)))) rfl rfl, ?_⟩
    refine ixaS_of hx0 hx1 ?_
    refine E.ld (by (exact .head _)) hn ?_
    refine En.sts' (vs := [u]) [_, _, _, _] rfl E rfl rfl (by intro x hx; simp at hx; subst hx; exact hm.one) (fun wq E eq => ?_)
    replace hm := hm.betSet eq.fr (.inl ⟨Nat.zero_le _, l2⟩) (by omega) z3
    replace hc := hc.betSet eq.fr (.inl ⟨Nat.zero_le _, l2⟩) (by omega) z3
    replace hs := hs.betSet eq.fr (.inl ⟨Nat.zero_le _, l2⟩) (by omega) z3
    refine ⟨E.ld (by (exact .head _)) hn rfl, ?_⟩
    refine ⟨E.lds (by (exact .tail _ (.head _))) rfl rfl, ?_⟩
    refine En.sts' (vs := heapCells g uc us) [_, _, _] rfl E rfl rfl (by intro x hx; simp only [heapCells, List.mem_cons, List.not_mem_nil, or_false] at hx; rcases hx with h | h | h | h | h <;> rw [h] <;> first | rfl | exact hc.one | exact hs.one) (fun wq E eq => ?_)
    replace hm := hm.betSet eq.fr (.inl ⟨Nat.zero_le _, l3⟩) (by omega) z3
    replace hc := hc.betSet eq.fr (.inl ⟨Nat.zero_le _, l3⟩) (by omega) z3
    replace hs := hs.betSet eq.fr (.inl ⟨Nat.zero_le _, l3⟩) (by omega) z3
    refine ⟨E.ld (by (exact .head _)) hn rfl, ?_⟩
    refine E.lds (by (exact .tail _ (.tail _ (.tail _ (.tail _ (.head _)))))) rfl ?_
    refine E.lds (by (exact .tail _ (.tail _ (.tail _ (.head _))))) rfl ?_
    exact hR _ _ _ _ _ _ n ⟨E.toExt, D.prog, hm.betAny, D.small.view hc.betAny hs.betAny, D.small⟩
  · refine c_pick hrd hb' (by omega) (by omega) (by omega) (fun x wp hx0 hx1 ep _ => ?_)
    replace E := E.call (Mut.at ep hlab E.mu.lim)
    replace hm := hm.betSet ep (.inl ⟨Nat.zero_le _, lr⟩) (by omega) z3
    replace hc := hc.betSet ep (.inl ⟨Nat.zero_le _, lr⟩) (by omega) z3
    replace hs := hs.betSet ep (.inl ⟨Nat.zero_le _, lr⟩) (by omega) z3
    obtain ⟨n, hn⟩ : ∃ n : Int, ([.int .i64 0, .int .i64 1, .int .i64 5, .int .i64 30, .int .i64 100, .int .i64 400, .int .i64 401, .int .i64 (-1)] : List Value)[0 + x.toNat * 1]? = some (.int .i64 n) := by
      rcases (show x = 0 ∨ x = 1 ∨ x = 2 ∨ x = 3 ∨ x = 4 ∨ x = 5 ∨ x = 6 ∨ x = 7 by omega) with rfl | rfl | rfl | rfl | rfl | rfl | rfl | rfl <;> exact ⟨_, rfl⟩
    refine ⟨E.lds (by (exact .head _)) rfl rfl, ?_⟩
    refine ⟨E.lds (by (exact .tail _ (.head _))) rfl rfl, ?_⟩
    refine ⟨?_, ?_⟩
    · refine bsl_of' rfl rfl rfl (fun bs ws es hbs ks => ?_)
      replace E := E.add es hbs (show Blk ws bs [.int .i64 0, .int .i64 1, .int .i64 5, .int .i64 30, .int .i64 100, .int .i64 400, .int .i64 401, .int .i64 (-1)] from ks)
      replace hm := hm.betExt es
      replace hc := hc.betExt es
      replace hs := hs.betExt es
      refine ⟨E.lds (by (exact .tail _ (.head _))) rfl rfl, ?_⟩
      refine ⟨E.lds (by (exact .tail _ (.tail _ (.head _)))) rfl rfl, ?_⟩
      refine ixaS_of hx0 hx1 ?_
      refine E.ld (by (exact .head _)) hn ?_
      refine En.sts' (vs := [u]) [_, _, _, _] rfl E rfl rfl (by intro x hx; simp at hx; subst hx; exact hm.one) (fun wq E eq => ?_)
      replace hm := hm.betSet eq.fr (.inl ⟨Nat.zero_le _, l2⟩) (by omega) z3
      replace hc := hc.betSet eq.fr (.inl ⟨Nat.zero_le _, l2⟩) (by omega) z3
      replace hs := hs.betSet eq.fr (.inl ⟨Nat.zero_le _, l2⟩) (by omega) z3
      refine ⟨E.ld (by (exact .head _)) hn rfl, ?_⟩
      refine ⟨E.lds (by (exact .tail _ (.head _))) rfl rfl, ?_⟩
      refine En.sts' (vs := heapCells g uc us) [_, _, _] rfl E rfl rfl (by intro x hx; simp only [heapCells, List.mem_cons, List.not_mem_nil, or_false] at hx; rcases hx with h | h | h | h | h <;> rw [h] <;> first | rfl | exact hc.one | exact hs.one) (fun wq E eq => ?_)
      replace hm := hm.betSet eq.fr (.inl ⟨Nat.zero_le _, l3⟩) (by omega) z3
      replace hc := hc.betSet eq.fr (.inl ⟨Nat.zero_le _, l3⟩) (by omega) z3
      replace hs := hs.betSet eq.fr (.inl ⟨Nat.zero_le _, l3⟩) (by omega) z3
      refine ⟨E.ld (by (exact .head _)) hn rfl, ?_⟩
      refine E.lds (by (exact .tail _ (.tail _ (.tail _ (.tail _ (.head _)))))) rfl ?_
      refine E.lds (by (exact .tail _ (.tail _ (.tail _ (.head _))))) rfl ?_
      exact hR _ _ _ _ _ _ n ⟨E.toExt, D.prog, hm.betAny, D.small.view hc.betAny hs.betAny, D.small⟩
    · refine En.sts' (vs := [u]) [_, _, _] rfl E rfl rfl (by intro x hx; simp at hx; subst hx; exact hm.one) (fun wq E eq => ?_)
      replace hm := hm.betSet eq.fr (.inl ⟨Nat.zero_le _, l2⟩) (by omega) z3
      replace hc := hc.betSet eq.fr (.inl ⟨Nat.zero_le _, l2⟩) (by omega) z3
      replace hs := hs.betSet eq.fr (.inl ⟨Nat.zero_le _, l2⟩) (by omega) z3
      refine ⟨E.lds (by (exact .head _)) rfl rfl, ?_⟩
      refine ⟨?_, ?_⟩
      · refine bsl_of' rfl rfl rfl (fun bs ws es hbs ks => ?_)
        replace E := E.add es hbs (show Blk ws bs [.int .i64 0, .int .i64 1, .int .i64 5, .int .i64 30, .int .i64 100, .int .i64 400, .int .i64 401, .int .i64 (-1)] from ks)
        replace hm := hm.betExt es
        replace hc := hc.betExt es
        replace hs := hs.betExt es
        refine ⟨E.lds (by (exact .tail _ (.head _))) rfl rfl, ?_⟩
        refine ⟨E.lds (by (exact .tail _ (.tail _ (.head _)))) rfl rfl, ?_⟩
        refine ixaS_of hx0 hx1 ?_
        refine E.ld (by (exact .head _)) hn ?_
        refine En.sts' (vs := heapCells g uc us) [_, _, _] rfl E rfl rfl (by intro x hx; simp only [heapCells, List.mem_cons, List.not_mem_nil, or_false] at hx; rcases hx with h | h | h | h | h <;> rw [h] <;> first | rfl | exact hc.one | exact hs.one) (fun wq E eq => ?_)
        replace hm := hm.betSet eq.fr (.inl ⟨Nat.zero_le _, l3⟩) (by omega) z3
        replace hc := hc.betSet eq.fr (.inl ⟨Nat.zero_le _, l3⟩) (by omega) z3
        replace hs := hs.betSet eq.fr (.inl ⟨Nat.zero_le _, l3⟩) (by omega) z3
        refine ⟨E.ld (by (exact .head _)) hn rfl, ?_⟩
        refine E.lds (by (exact .tail _ (.tail _ (.tail _ (.tail _ (.head _)))))) rfl ?_
        refine E.lds (by (exact .tail _ (.tail _ (.tail _ (.head _))))) rfl ?_
        exact hR _ _ _ _ _ _ n ⟨E.toExt, D.prog, hm.betAny, D.small.view hc.betAny hs.betAny, D.small⟩
      · refine En.sts' (vs := heapCells g uc us) [_, _] rfl E rfl rfl (by intro x hx; simp only [heapCells, List.mem_cons, List.not_mem_nil, or_false] at hx; rcases hx with h | h | h | h | h <;> rw [h] <;> first | rfl | exact hc.one | exact hs.one) (fun wq E eq => ?_)
        replace hm := hm.betSet eq.fr (.inl ⟨Nat.zero_le _, l3⟩) (by omega) z3
        replace hc := hc.betSet eq.fr (.inl ⟨Nat.zero_le _, l3⟩) (by omega) z3
        replace hs := hs.betSet eq.fr (.inl ⟨Nat.zero_le _, l3⟩) (by omega) z3
        refine bsl_of' rfl rfl rfl (fun bs ws es hbs ks => ?_)
        replace E := E.add es hbs (show Blk ws bs [.int .i64 0, .int .i64 1, .int .i64 5, .int .i64 30, .int .i64 100, .int .i64 400, .int .i64 401, .int .i64 (-1)] from ks)
        replace hm := hm.betExt es
        replace hc := hc.betExt es
        replace hs := hs.betExt es
        refine ⟨E.lds (by (exact .tail _ (.head _))) rfl rfl, ?_⟩
        refine ⟨E.lds (by (exact .tail _ (.tail _ (.head _)))) rfl rfl, ?_⟩
        refine ixaS_of hx0 hx1 ?_
        refine E.ld (by (exact .head _)) hn ?_
        refine E.lds (by (exact .tail _ (.tail _ (.tail _ (.tail _ (.head _)))))) rfl ?_
        refine E.lds (by (exact .tail _ (.tail _ (.tail _ (.head _))))) rfl ?_
        exact hR _ _ _ _ _ _ n ⟨E.toExt, D.prog, hm.betAny, D.small.view hc.betAny hs.betAny, D.small⟩
end Go.PT

/- What has returned never runs again. -/
set_option linter.unusedVariables false
set_option linter.unusedSimpArgs false
set_option maxRecDepth 100000
namespace Go.PT
theorem runR_small {p : Pg} {g : Hp} {n : Int} (B : HB g) : (runR p g n).1.calls.length ≤ 40 ∧ (∀ c ∈ (runR p g n).1.calls, c.temps.length ≤ 10 ∧ c.stack.length ≤ 10) ∧ (runR p g n).1.said.length ≤ 700 := by
  unfold runR
  split
  · rename_i hk
    rw [Bool.and_eq_true, inB_iff] at hk
    have H := run_ok n.toNat g (hok_iff.mp hk.1)
    have h1 := said_run (p := p) n.toNat g
    have h2 := B.ns
    refine ⟨?_, fun c hc => ?_, ?_⟩
    · have := H.size; have := H.born2; show (runH p n.toNat g).calls.length ≤ 40; omega
    · have f := form_iff.mp (H.forms c hc)
      have h1 := f.temps
      have h2 := f.stack
      have hm := methOk_iff.mp (prog_meth H.prog f.m0 f.m1)
      have := hm.t1
      omega
    · show (runH p n.toNat g).said.length ≤ 700; omega
  · refine ⟨by show 0 ≤ 40; omega, fun c hc => ?_, by show 0 ≤ 700; omega⟩
    cases hc
theorem runR_view {p : Pg} {g : Hp} {n : Int} (B : HB g) {M : Lab} {w : World} {uc us : Value} (hO : HOwn M w (runR p g n).1 uc us) : HeapV w (runR p g n).1 uc us := by
  obtain ⟨h1, h2, h3⟩ := runR_small (p := p) (n := n) B
  exact hO.view (by omega) (fun c hc => by have := h2 c hc; omega) (by omega)
theorem runR_ok {p : Pg} {g : Hp} {n : Int} (h : (runR p g n).2 = true) : HOK p g ∧ 0 ≤ n ∧ n ≤ 400 ∧ (runR p g n).1 = runH p n.toNat g := by
  unfold runR at h ⊢
  split
  · rename_i hk
    rw [Bool.and_eq_true, inB_iff] at hk
    exact ⟨hok_iff.mp hk.1, hk.2.1, hk.2.2, rfl⟩
  · rename_i hk
    rw [if_neg hk] at h
    cases h
attribute [local irreducible] ldT ldsT stT stsT allocT boxT bldT bslT nilT fadT ixaT fldT extT lenT pickT binT notT cviT opT opU condT clT clvT ivT loopT arT ndT World.cell? World.frozen? World.alloc World.drew World.setCell Blk Cells Sl
theorem c_deepEnd {h : Hp} {uc us : Value} {w : World} {R : VW} (h1 : uc.oneCell' = true) (h2 : us.oneCell' = true) (hn : h.now < 0) (hR : ∀ w', Ext w w' → R (.int .i64 0) w') : clT PR 81 [.agg (heapCells h uc us).toArray] w R := by
  refine Fimpl_HeapDeep.cl ?_
  unfold Fimpl_HeapDeep
  have E := En.start w
  refine E.box (fun b1 w1 E _ => ?_)
  (refine fad_of ?_)
  refine E.ld (.head _) rfl ?_
  refine loop_of (fun n s wx => s = [.pointer (some ⟨b1, 0, none⟩), .int .i64 0, .int .i64 0, .int .i64 h.now] ∧ wx = w1) ?_ (m := 0) ⟨rfl, rfl⟩
  rintro n s wx Kn ⟨rfl, rfl⟩ hKn
  intro _
  simp only [List.headD_cons, List.tail_cons]
  (refine geq_of ?_)
  refine condGe_of (fun hge => absurd hge (by omega)) (fun _ => ?_)
  intro _
  exact hR _ E.toExt
theorem c_viewEnd {h : Hp} {uc us : Value} {w : World} {R : VW} (hc : Sl kCall Any w [] h.calls uc) (hl : h.calls.length ≤ 1073741824) (hn : h.now < 0) (hR : ∀ w', Ext w w' → R (.slice none 0 0) w') : clT PR 60 [.agg (heapCells h uc us).toArray] w R := by
  refine Fimpl_HeapView.cl ?_
  unfold Fimpl_HeapView
  have E := En.start w
  refine E.box (fun b1 w1 E _ => ?_)
  (refine fad_of ?_)
  refine E.ld (.head _) rfl ?_
  (refine fad_of ?_)
  refine E.ld (.head _) rfl ?_
  refine (E.any (q := []) hc).len_of ?_
  (refine sub_of (by (omega)) (by (omega)) ?_)
  refine c_implIn ?_
  rw [inB_f (by omega)]
  (refine not_of ?_)
  refine condN_of (fun _ => ?_) (fun h => absurd h (by decide))
  exact hR _ E.toExt
theorem c_heapDead {w : World} {code : List Int} {v : Value} {R : VW} (h : Bt w code v) (hb : ∀ x ∈ code, 0 ≤ x ∧ x ≤ 255) (hR : ∀ w', Ext w w' → R (.bool true) w') : clT PR 27 [v] w R := by
  refine Flaws_FnHeapDead.cl ?_
  unfold Flaws_FnHeapDead
  refine h.len_of ?_
  (refine gtr_of ?_)
  refine condGt_of (fun _ => hR _ (Fr.refl _ _)) (fun hbig => ?_)
  refine c_drawRun h hb (fun up uc us w1 p g n D => ?_)
  have hm0 := D.meth.anyOld (q := [])
  have hc0 := D.view.calls.anyOld (q := [])
  have hs0 := D.view.said.anyOld (q := [])
  have hBn := D.small.ns
  have hpl := prog_len D.prog
  have hml : ∀ m ∈ p, m.ops.length ≤ 1073741824 := fun m hm => by
    have hpo := D.prog
    unfold progOk at hpo
    simp only [Bool.and_eq_true, List.all_eq_true] at hpo
    have := (methOk_iff.mp (hpo.2.2 m hm)).ops
    omega
  replace hR : ∀ w', Ext w1 w' → R (.bool true) w' := fun w' e => hR w' (D.ext.trans e)
  refine ext_of rfl ?_
  refine ext_of rfl ?_
  refine ext_of rfl ?_
  have E := En.start w1
  refine E.al (fun b5 w2 E _ => ?_)
  refine E.al (fun b6 w3 E _ => ?_)
  refine En.sts' (vs := [up]) [_] rfl E rfl rfl (by intro x hx; simp at hx; subst hx; exact hm0.one) (fun w4 E e4 => ?_)
  refine En.sts' (vs := heapCells g uc us) [] rfl E rfl rfl (by intro x hx; simp only [heapCells, List.mem_cons, List.not_mem_nil, or_false] at hx; rcases hx with h | h | h | h | h <;> rw [h] <;> first | rfl | exact hc0.one | exact hs0.one) (fun w5 E e5 => ?_)
  refine E.lds (by (exact .tail _ (.head _))) rfl ?_
  refine E.lds (by (exact .head _)) rfl ?_
  refine c_specRun (hm0.oldExt E.toExt).oldAny (by omega) hml (D.small.view (hc0.oldExt E.toExt).oldAny (hs0.oldExt E.toExt).oldAny) (by omega) (fun w6 M1 c1 s1 e6 hb1 hl1 hO1 => ?_)
  replace E := E.ext e6
  refine ext_of rfl ?_
  refine ext_of rfl ?_
  have V1 := runR_view D.small hO1
  have h1c := V1.calls.one
  have h1s := V1.said.one
  refine E.als (vs := heapCells (runR p g n).1 c1 s1) rfl rfl rfl (by intro x hx; simp only [heapCells, List.mem_cons, List.not_mem_nil, or_false] at hx; rcases hx with h | h | h | h | h <;> rw [h] <;> first | rfl | assumption) (fun b7 w7 E e7 => ?_)
  replace V1 := V1.ext e7
  refine E.lds (by (exact .tail _ (.tail _ (.head _)))) rfl ?_
  refine E.lds (by (exact .tail _ (.head _))) rfl ?_
  refine c_implRun (hm0.oldExt E.toExt).oldAny (by omega) hml (D.small.view (hc0.oldExt E.toExt).oldAny (hs0.oldExt E.toExt).oldAny) (by omega) (fun w8 M2 c2 s2 e8 hb2 hl2 hO2 => ?_)
  replace E := E.ext e8
  replace V1 := V1.ext e8
  refine ext_of rfl ?_
  refine ext_of rfl ?_
  have V2 := runR_view D.small hO2
  have h2c := V2.calls.one
  have h2s := V2.said.one
  refine E.als (vs := heapCells (runR p g n).1 c2 s2) rfl rfl rfl (by intro x hx; simp only [heapCells, List.mem_cons, List.not_mem_nil, or_false] at hx; rcases hx with h | h | h | h | h <;> rw [h] <;> first | rfl | assumption) (fun b9 w9 E e9 => ?_)
  replace V1 := V1.ext e9
  replace V2 := V2.ext e9
  refine neqB_of (by kernel_rfl) ?_
  rw [bne_self_eq_false]
  refine condT_false ?_
  refine E.lds (by (exact .head _)) rfl ?_
  refine E.lds (by (exact .tail _ (.head _))) rfl ?_
  refine c_lmHeap V2 V1 (fun w10 e10 => ?_)
  replace E := E.ext e10
  replace V1 := V1.ext e10
  replace V2 := V2.ext e10
  (refine not_of ?_)
  refine condN_of (fun hf => absurd hf (by decide)) (fun _ => ?_)
  (refine not_of ?_)
  refine condN_of (fun hf => ?_) (fun ht => ?_)
  · refine eqlB_of (by kernel_rfl) ?_
    rw [beq_self_eq_true]
    refine condT_true ?_
    refine E.lds (by (exact .head _)) rfl ?_
    refine E.lds (by (exact .tail _ (.head _))) rfl ?_
    exact c_lmHeap V2 V1 (fun w11 e11 => hR _ (E.toExt.trans e11))
  · obtain ⟨H, n0, n1, hx⟩ := runR_ok ht
    have HX := run_ok n.toNat g H
    have hk := keeps_run n.toNat H
    have hlen := (runR_small (p := p) (n := n) D.small).1
    rw [← hx] at HX hk
    have k6 : Blk w10 b6 (heapCells g uc us) := E.blk (by (exact .tail _ (.tail _ (.head _))))
    have k9 : Blk w10 b9 (heapCells (runR p g n).1 c2 s2) := E.blk (by (exact .head _))
    have C0 := (hc0.oldExt E.toExt).oldAny (q := [])
    have CX := V2.calls
    replace hR : ∀ w', Ext w10 w' → R (.bool true) w' := fun w' e => hR w' (E.toExt.trans e)
    generalize (runR p g n).1 = x at HX hk k9 CX hlen
    clear E V1 V2 hx ht
    refine loop_of (fun m s wx => ∃ i : Int, s = [.bool false, .pointer (some ⟨b6, 0, none⟩), .pointer (some ⟨b9, 0, none⟩), .int .i64 i] ∧ Ext w10 wx ∧ 0 ≤ i ∧ i ≤ g.calls.length ∧ m = ((g.calls.length : Int) - i).toNat) ?_ ⟨0, rfl, Fr.refl _ _, by omega, by omega, rfl⟩
    rintro m s wx Kn ⟨i, rfl, e, i0, i1, hm⟩ hKn
    intro _
    simp only [List.headD_cons, List.tail_cons]
    have hgl := D.small.n
    (refine fad_of ?_)
    refine ld_of ((k6.ext e).cell rfl) ?_
    refine (C0.ext e).len_of ?_
    (refine lss_of ?_)
    refine condLt_of (fun hi => ?_) (fun hi => ?_)
    · obtain ⟨q1, q2⟩ := hk.2 i i0 hi
      have hi2 : i < x.calls.length := by have := hk.1; omega
      (refine fad_of ?_)
      refine ld_of ((k6.ext e.drew).cell rfl) ?_
      refine call_ix (C0.ext e.drew) i0 hi (fun b o ut ut' hc hu hu' => ?_)
      (refine fad_of ?_)
      refine ld_of (hc.at 5 rfl) ?_
      refine cond_of (fun hd => ?_) (fun hd => ?_)
      · obtain ⟨q3, q4⟩ := q2 hd
        (refine fad_of ?_)
        refine ld_of ((k9.ext e.drew).cell rfl) ?_
        refine call_ix (CX.ext e.drew) i0 hi2 (fun b o ut ut' hc2 hu hu' => ?_)
        (refine fad_of ?_)
        refine ld_of (hc2.at 5 rfl) ?_
        (refine not_of ?_)
        refine condN_of (fun hf => by rw [q3] at hf; cases hf) (fun _ => ?_)
        (refine fad_of ?_)
        refine ld_of ((k9.ext e.drew).cell rfl) ?_
        refine call_ix (CX.ext e.drew) i0 hi2 (fun b o ut ut' hc2 hu hu' => ?_)
        (refine fad_of ?_)
        refine ld_of (hc2.at 1 rfl) ?_
        (refine fad_of ?_)
        refine ld_of ((k6.ext e.drew).cell rfl) ?_
        refine call_ix (C0.ext e.drew) i0 hi (fun b o ut ut' hc hu hu' => ?_)
        (refine fad_of ?_)
        refine ld_of (hc.at 1 rfl) ?_
        (refine neq_of ?_)
        refine condNe_of (fun hne => absurd q4 hne) (fun _ => ?_)
        (refine fad_of ?_)
        refine ld_of ((k6.ext e.drew).cell rfl) ?_
        refine call_ix (C0.ext e.drew) i0 hi (fun b o ut ut' hc hu hu' => ?_)
        (refine fad_of ?_)
        refine ld_of (hc.at 0 rfl) ?_
        (refine fad_of ?_)
        refine ld_of ((k9.ext e.drew).cell rfl) ?_
        refine call_ix (CX.ext e.drew) i0 hi2 (fun b o ut ut' hc2 hu hu' => ?_)
        (refine fad_of ?_)
        refine ld_of (hc2.at 0 rfl) ?_
        (refine neq_of ?_)
        refine condNe_of (fun hne => absurd q1.symm hne) (fun _ => ?_)
        (refine add_of (by (omega)) (by (omega)) ?_)
        exact hKn (m - 1) _ _ (by omega) ⟨i + 1, rfl, e.drew, by omega, by omega, by omega⟩
      · (refine fad_of ?_)
        refine ld_of ((k6.ext e.drew).cell rfl) ?_
        refine call_ix (C0.ext e.drew) i0 hi (fun b o ut ut' hc hu hu' => ?_)
        (refine fad_of ?_)
        refine ld_of (hc.at 0 rfl) ?_
        (refine fad_of ?_)
        refine ld_of ((k9.ext e.drew).cell rfl) ?_
        refine call_ix (CX.ext e.drew) i0 hi2 (fun b o ut ut' hc2 hu hu' => ?_)
        (refine fad_of ?_)
        refine ld_of (hc2.at 0 rfl) ?_
        (refine neq_of ?_)
        refine condNe_of (fun hne => absurd q1.symm hne) (fun _ => ?_)
        (refine add_of (by (omega)) (by (omega)) ?_)
        exact hKn (m - 1) _ _ (by omega) ⟨i + 1, rfl, e.drew, by omega, by omega, by omega⟩
    · intro _
      (refine fad_of ?_)
      refine ld_of ((k9.ext e).cell rfl) ?_
      (refine neq_of ?_)
      refine condNe_of (fun _ => hR _ e) (fun hcode => ?_)
      have hnow := HX.ended.mp hcode
      refine lds_of (k9.ext e).cells rfl ?_
      refine c_deepEnd h2c h2s hnow (fun wa ea => ?_)
      (refine eql_of ?_)
      refine condP_of (fun _ => ?_) (fun hne => absurd rfl hne)
      refine lds_of ((k9.ext e).ext ea).cells rfl ?_
      refine c_viewEnd ((CX.ext e).ext ea) (by omega) hnow (fun wb eb => ?_)
      (refine lenS_of ?_)
      (refine eql_of ?_)
      exact hR _ ((e.trans ea).trans eb)
end Go.PT
