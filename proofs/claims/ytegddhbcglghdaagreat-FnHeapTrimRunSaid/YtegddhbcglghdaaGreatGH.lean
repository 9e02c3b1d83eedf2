/- The program at work: runs. -/
import Derived.Test.YtegddhbcglghdaaGreatGG
/- The program's heap at work: looking, a step. -/
set_option linter.unusedVariables false
set_option linter.unusedSimpArgs false
namespace Go.PT
/-! ### a block that is made early or late -/
theorem ar_one {t : Nat} {z : Array Value} {w w' : World} {s s' : List (Option Nat)} (h : AR [(t, z)] w s w' s') : (s = [none] → (w' = w ∧ s' = [none]) ∨ (w' = w.alloc (.cells z t) ∧ s' = [some w.heap.size])) ∧ (∀ b, s = [some b] → w' = w ∧ s' = s) := by
  induction h with
  | refl w s => exact ⟨fun h => .inl ⟨rfl, h⟩, fun b h => ⟨rfl, rfl⟩⟩
  | step i t' z' hz hs h ih =>
    have hi : i = 0 := by
      cases i with
      | zero => rfl
      | succ i => simp at hz
    subst hi
    simp only [List.getElem?_cons_zero, Option.some.injEq, Prod.mk.injEq] at hz
    obtain ⟨rfl, rfl⟩ := hz
    refine ⟨fun h => ?_, fun b h => ?_⟩
    · subst h
      have := ih.2 _ rfl
      exact .inr ⟨this.1, this.2⟩
    · subst h; simp at hs
def Slot (s : List (Option Nat)) (w0 w : World) (z : Array Value) : Prop := s = [none] ∨ ∃ b, s = [some b] ∧ w0.heap.size ≤ b ∧ Blk w b z.toList
theorem Slot.init {w : World} {z : Array Value} : Slot [none] w w z := .inl rfl
theorem Slot.ext {s : List (Option Nat)} {w0 w w' : World} {z : Array Value} (h : Slot s w0 w z) (e : Ext w w') : Slot s w0 w' z := by
  rcases h with h | ⟨b, h1, h2, h3⟩
  · exact .inl h
  · exact .inr ⟨b, h1, h2, h3.ext e⟩
theorem ar_slot {t : Nat} {z : Array Value} {w0 w : World} {s : List (Option Nat)} {k : World → List (Option Nat) → Prop} (h : Slot s w0 w z) (h0 : w0.heap.size ≤ w.heap.size) (hk : ∀ w' s', Ext w w' → Slot s' w0 w' z → k w' s') : arT [(t, z)] w s k := by
  intro w' s' a
  rcases h with h | ⟨b, h1, h2, h3⟩
  · rcases (ar_one a).1 h with ⟨rfl, rfl⟩ | ⟨rfl, rfl⟩
    · exact hk _ _ (Fr.refl _ _) (.inl rfl)
    · refine hk _ _ ((Fr.refl _ _).alloc _) (.inr ⟨_, rfl, h0, ?_⟩)
      have := blk_new w z.toList t
      simpa using this
  · obtain ⟨rfl, rfl⟩ := (ar_one a).2 b h1
    exact hk _ _ (Fr.refl _ _) (.inr ⟨b, h1, h2, h3⟩)
theorem nd_slot {s : List (Option Nat)} {w0 w : World} {z : Array Value} {k : Nat → Prop} (h : Slot s w0 w z) (hk : ∀ b, s = [some b] → w0.heap.size ≤ b → Blk w b z.toList → k b) : ndT s 0 k := by
  intro b hb
  rcases h with rfl | ⟨b', rfl, h2, h3⟩
  · simp at hb
  · have : b' = b := by simpa using hb
    subst this
    exact hk _ rfl h2 h3
theorem ar_some {t : Nat} {z : Array Value} {w : World} {b : Nat} {k : World → List (Option Nat) → Prop} (hk : k w [some b]) : arT [(t, z)] w [some b] k := by
  intro w' s' a
  obtain ⟨rfl, rfl⟩ := (ar_one a).2 b rfl
  exact hk
theorem nd_some {b : Nat} {k : Nat → Prop} (hk : k b) : ndT [some b] 0 k := by
  intro b' hb
  have : b = b' := by simpa using hb
  subst this; exact hk
/-- A block that was made meanwhile is one's own. -/
theorem En.adopt {L0 L : Lab} {w0 w w' : World} {l : List (Nat × List Value)} {b : Nat} {cs : List Value} (E : En L0 w0 L w l) (e : Ext w w') (hb : w.heap.size ≤ b) (k : Blk w' b cs) : En L0 w0 L w' ((b, cs) :: l) := E.add e hb k
attribute [local irreducible] ldT ldsT stT stsT allocT boxT bldT bslT nilT fadT ixaT fldT extT lenT pickT binT notT cviT opT opU condT clT clvT ivT loopT arT ndT World.cell? World.frozen? World.alloc World.drew World.setCell Blk Cells Sl
section
variable {L : Lab} {w : World} {m n b o : Nat} {u vc vs ut us ua : Value} {p : Pg} {h : Hp} {R : VW}
theorem c_implLook {op : Int × Int} {args : List V} {i : Int} (hi : i = (pairAt args 0).2) (S : SM L w m [] h vc vs) (ha : Sl kPair (Un L n) w [] args ua) (hn : n ≤ w.heap.size) (h0 : 0 ≤ h.now) (h1 : h.now < h.calls.length) (hl : 1 ≤ args.length) (hl2 : op.1 = 14 → 2 ≤ args.length) (i0 : 0 ≤ i) (i1 : i < h.calls.length) (ho : 0 ≤ op.2) (hr : (nowC h).stack.length + 1 ≤ 1073741824) (hop : op.1 = 13 ∨ op.1 = 14 ∨ op.1 = 17 ∨ op.1 = 18)
    (hR : ∀ w' L', Mut L w L' w' → SM L' w' m [] (if op.1 = 14 then pokeH h i op.2 (pairAt args 1) else pushH h (lookV h op i)) vc vs → R (.tuple #[]) w') : clT PR 227 [eng m, .agg #[.int .i64 op.1, .int .i64 op.2], ua] w R := by
  subst hi
  refine Fimpl_look.cl ?_
  unfold Fimpl_look
  have E := En.init S.lim
  refine E.box (fun b1 w1 E e1 => ?_)
  replace S := S.ext e1
  replace E := E.drew
  replace S := S.drew
  clear e1
  refine pair_ix (E.unAny (q := []) ha hn) (by omega) (by omega) (fun b5 o5 hc5 => ?_)
  repeat (first | ((refine fad_of ?_)) | ((apply ld_of; (case h => iterate 14 (first | done | exact Cells.at (by assumption) _ (by exact rfl))))))
  refine nim_of (fun w => by kernel_rfl) ?_
  refine i_looked S i0 i1 (fun w2 b o ut us e2 F => ?_)
  replace E := E.ext e2
  replace S := S.ext e2
  clear e2
  refine ext_of rfl ?_
  refine ext_of rfl ?_
  refine ext_of rfl ?_
  refine ext_of rfl ?_
  have put : ∀ {w' : World} {l} {v : V} (E : En L w L w' l) (S : SM L w' m [] h vc vs), op.1 ≠ 14 → v = lookV h op (pairAt args 0).2 → clT PR 223 [eng m, .agg #[.int .i64 v.1, .int .i64 v.2]] w' fun t42 w6 => R (.tuple #[]) w6 := by
    intro w' l v E S hne hv
    subst hv
    refine c_push S h0 h1 hr (fun w7 L7 m7 S => ?_)
    refine hR _ _ (E.call m7).mu ?_
    rw [if_neg hne]; exact S
  repeat (first | (first | refine fad_of ?_ | refine eql_of ?_) | ((refine E.ld (by (exact .head _)) (by exact rfl) ?_)))
  refine condP_of (fun c13 => ?_) (fun c13 => ?_)
  · have hlv : lookV h op (pairAt args 0).2 = if op.2 < (callAt h.calls (pairAt args 0).2).temps.length then pairAt (callAt h.calls (pairAt args 0).2).temps op.2 else (0, 0) := by
      unfold lookV; rw [if_neg (by omega), if_pos c13]
    refine bld_of (cs := #[.int .i64 0, .int .i64 0]) rfl ?_
    refine E.als (vs := [.int .i64 0, .int .i64 0]) rfl rfl rfl (fun u hu => List.all_eq_true.mp rfl u hu) (fun b3 w3 E e3 => ?_)
    replace S := S.ext e3
    replace F := F.ext e3
    repeat (first | ((refine fad_of ?_)) | ((refine E.ld (by first | exact .head _ | exact .tail _ (.head _)) (by exact rfl) ?_)))
    refine F.temps.len_of ?_
    repeat (((refine lss_of ?_)))
    refine condP_of (fun hlt => ?_) (fun hlt => ?_)
    · repeat (first | ((refine fad_of ?_)) | ((refine E.ld (by first | exact .head _ | exact .tail _ (.head _)) (by exact rfl) ?_)))
      refine pair_ix (F.temps.any (q := [])) ho hlt (fun b6 o6 hc6 => ?_)
      repeat (((apply lds_of; (case h => iterate 14 (first | done | assumption)); (case hn => exact rfl))))
      refine En.sts' (vs := [.int .i64 (pairAt (callAt h.calls (pairAt args 0).2).temps op.2).1, .int .i64 (pairAt (callAt h.calls (pairAt args 0).2).temps op.2).2]) [] rfl E rfl rfl (fun u hu => List.all_eq_true.mp rfl u hu) (fun w4 E e4 => ?_)
      replace S := S.loc e4
      repeat (((refine E.lds (by (exact .head _)) (by exact rfl) ?_)))
      exact put E S (by omega) (by rw [hlv, if_pos hlt])
    · repeat (((refine E.lds (by (exact .head _)) (by exact rfl) ?_)))
      exact put (v := (0, 0)) E S (by omega) (by rw [hlv, if_neg hlt])
  repeat (((refine eql_of ?_)))
  refine condP_of (fun c14 => ?_) (fun c14 => ?_)
  · have l2 := hl2 c14
    repeat (first | ((refine fad_of ?_)) | ((refine E.ld (by (exact .head _)) (by exact rfl) ?_)))
    refine F.temps.len_of ?_
    repeat (((refine lss_of ?_)))
    refine condP_of (fun hlt => ?_) (fun hlt => ?_)
    · replace E := E.drew
      replace S := S.drew
      replace F := F.drew
      repeat (first | ((refine fad_of ?_)) | ((refine E.ld (by (exact .head _)) (by exact rfl) ?_)))
      refine pair_ix (i := 1) (E.unAny (q := []) ha hn) (by omega) (by omega) (fun b7 o7 hc7 => ?_)
      repeat (((apply lds_of; (case h => iterate 14 (first | done | assumption)); (case hn => exact rfl))))
      refine F.temps.ixo_of rfl ho hlt (fun x b8 o8 es mm hx hat ho' hK hc8 => ?_)
      refine S.stTemp (v := pairAt args 1) F i0 i1 hat ho hlt (fun w5 m5 S F => ?_)
      refine hR _ _ (E.call m5).mu ?_
      rw [if_pos c14]
      unfold pokeH
      rw [if_pos hlt]
      exact S
    · refine hR _ _ E.mu ?_
      rw [if_pos c14]
      unfold pokeH
      rw [if_neg hlt]
      exact S
  repeat (((refine eql_of ?_)))
  refine condP_of (fun c17 => ?_) (fun c17 => ?_)
  · refine c_truth (fun w4 e4 => ?_)
    exact put (E.ext e4) (S.ext e4) (by omega) (by unfold lookV; rw [if_neg (by omega), if_neg (by omega), if_pos c17])
  repeat (((refine eql_of ?_)))
  refine condP_of (fun c18 => ?_) (fun c18 => ?_)
  · refine c_number (fun w4 e4 => ?_)
    exact put (v := (1, _)) (E.ext e4) (S.ext e4) (by omega) (by unfold lookV; rw [if_neg (by omega), if_neg (by omega), if_neg (by omega), if_pos c18])
  · omega
end
end Go.PT

/- The program's heap at work: a step. -/
set_option linter.unusedVariables false
set_option linter.unusedSimpArgs false
namespace Go.PT
attribute [local irreducible] ldT ldsT stT stsT allocT boxT bldT bslT nilT fadT ixaT fldT extT lenT pickT binT notT cviT opT opU condT clT clvT ivT loopT arT ndT World.cell? World.frozen? World.alloc World.drew World.setCell Blk Cells Sl
theorem code0 {g : Hp} (h : g.code = 0) : { g with code := 0 } = g := by cases g; simp only at h; subst h; rfl
section
variable {L : Lab} {w : World} {m n b o : Nat} {u vc vs ut us ua : Value} {p : Pg} {h : Hp} {R : VW}
theorem c_stepOf (S : SM L w m [] h vc vs) (hp : Sl kMeth (Un L n) w [] p u) (hn : n ≤ w.heap.size) (H : HOK p h) (hr : h.code = 0) (hsd : h.said.length + 1 ≤ 1073741824)
    (hR : ∀ w' L' vc' vs' g code, Mut L w L' w' → SM L' w' m [] g vc' vs' → { g with code := code } = stepH p h → R (.int .i64 code) w') : clT PR 164 [.agg #[u], eng m] w R := by
  have h0 := H.now0 hr
  have h1 := H.now2
  have hf := H.at h0 h1
  have hm := H.meth h0 h1
  have hpl := prog_len H.prog
  have m0 : 0 ≤ (nowC h).method := hf.m0
  have m1 : (nowC h).method < p.length := hf.m1
  have pc0 : 0 ≤ (nowC h).pc := hf.pc0
  have pc1 : (nowC h).pc ≤ ((opsNow p h).length : Int) := hf.pc1
  have ho : (opsNow p h).length ≤ 14 := hm.ops
  refine Fimpl_stepOf.cl ?_
  unfold Fimpl_stepOf
  have E := En.init S.lim
  refine E.box (fun b1 w1 E e1 => ?_)
  replace S := S.ext e1
  clear e1
  refine i_running S h0 h1 (fun w2 b o ut us e2 F => ?_)
  replace E := (E.ext e2).drew
  replace S := (S.ext e2).drew
  replace F := F.drew
  clear e2
  refine ext_of rfl ?_
  refine ext_of rfl ?_
  refine ext_of rfl ?_
  refine ext_of rfl ?_
  repeat (first | ((refine nil_of ?_)) | (first | refine E.lds (by (exact .head _)) (by exact rfl) ?_ | refine ld_of (F.cells.at _ (by exact rfl)) ?_))
  refine ar_slot Slot.init (Nat.le_refl _) (fun w3 s4 e3 sl3 => ?_)
  refine c_opAt ((E.ext e3).unAny hp hn) m0 m1 (show (opsNow p h).length ≤ 1000000 by omega) (fun w5 op e5 hop => ?_)
  replace hop : 0 ≤ (nowC h).pc ∧ (nowC h).pc ≤ (opsNow p h).length - 1 → op = opNow p h := hop
  refine ext_of rfl ?_
  refine ext_of rfl ?_
  refine ar_slot (sl3.ext e5) (e3.trans e5).size (fun w6 s7 e6 sl6 => ?_)
  refine nd_slot sl6 (fun b8 hs hb8 k8 => ?_)
  subst hs
  have X := (e3.trans e5).trans e6
  replace E := E.adopt X hb8 k8
  replace S := S.ext X
  replace F := F.ext X
  clear X e3 e5 e6 sl3 sl6 hb8 k8
  refine En.sts' (vs := [.int .i64 op.1, .int .i64 op.2]) [] rfl E rfl rfl (fun u hu => List.all_eq_true.mp rfl u hu) (fun w9 E e9 => ?_)
  replace S := S.loc e9
  replace F := F.loc e9
  clear e9
  refine ar_some ?_
  refine nd_some ?_
  refine ar_some ?_
  refine nd_some ?_
  have hin : inB (nowC h).pc 0 (((methAt p (nowC h).method).ops.length : Int) - 1) = inB (nowC h).pc 0 (((opsNow p h).length : Int) - 1) := rfl
  rw [hin]
  have stuck : ∀ {w' : World} {l} (E : En L w L w' l) (S : SM L w' m [] h vc vs), stepH p h = { h with code := 2 } → R (.int .i64 2) w' := fun E S hs => hR _ _ _ _ h 2 E.mu S hs.symm
  (refine not_of ?_)
  refine condNIn_of (fun hno => ?_) (fun hyes => ?_)
  · exact stuck E S (by unfold stepH; rw [if_pos (by omega)])
  have hop := hop hyes
  subst hop
  have hlt : ¬ ((opsNow p h).length : Int) ≤ (nowC h).pc := by omega
  repeat (((refine E.lds (by first | exact .head _ | exact .tail _ (.head _)) (by exact rfl) ?_)))
  refine c_taken rfl S F (E.un hp hn) (Nat.le_trans hn E.size) H hr (by omega) (fun hc w10 e10 => ?_) (fun c1 c2 c3 w10 L10 n10 ua us10 m10 S F ha hn10 hz10 => ?_)
  · refine ext_of rfl ?_
    refine ext_of rfl ?_
    refine not_of (b := false) ?_
    refine condT_true ?_
    refine stuck (E.ext e10) (S.ext e10) ?_
    unfold stepH
    rw [if_neg hlt]
    rcases hc with hc | hc | ⟨hc1, hc2⟩
    · rw [if_pos (.inl hc)]
    · rw [if_pos (.inr hc)]
    · by_cases h2 : leftNow p h < 0 ∨ 6 < leftNow p h + (takes p (opNow p h)).2
      · rw [if_pos h2]
      · rw [if_neg h2, if_pos hc2]
  replace E := E.call m10
  refine ext_of rfl ?_
  refine ext_of rfl ?_
  refine not_of (b := true) ?_
  refine condT_false ?_
  repeat (first | ((refine nil_of ?_)) | ((refine add_of (by (dsimp only; omega)) (by (dsimp only; omega)) ?_)) | ((refine ld_of (F.cells.at _ (by exact rfl)) ?_)))
  refine S.st F h0 (by rw [putC_len]; exact h1) rfl (by decide) (c' := { nowC h with stack := (nowC h).stack.take (leftNow p h).toNat, pc := (nowC h).pc + 1 }) rfl F.temps F.stack (fun w11 m11 S F => ?_)
  replace E := E.call m11
  replace ha := ha.unMut m11 hz10
  have hz11 := Nat.le_trans hz10 m11.size
  have hpn := (E.un hp hn).unUp hn10
  have hT : putC (putC h h.now { nowC h with stack := (nowC h).stack.take (leftNow p h).toNat }) h.now { nowC h with stack := (nowC h).stack.take (leftNow p h).toNat, pc := (nowC h).pc + 1 } = tookH p h := by unfold tookH putC; simp [List.set_set]
  rw [hT] at S
  clear m10 m11 hz10 hT
  have D := step_pre H hr hlt (by omega) (by rw [c3]; decide)
  have hstep : stepH p h = doH p (tookH p h) (opNow p h) (argsNow p h) := by
    unfold stepH
    rw [if_neg hlt, if_neg (by omega), if_neg (by rw [c3]; decide)]
  rw [hstep] at hR
  have hnow : nowC (tookH p h) = { nowC h with stack := (nowC h).stack.take (leftNow p h).toNat, pc := (nowC h).pc + 1 } := by
    unfold nowC
    show callAt (putC h h.now _).calls h.now = _
    rw [callAt_put h0 h1 h0, if_pos rfl]; rfl
  rw [← hnow] at F
  have K := D.known
  have t0 := K.n0
  have t1 := K.n1
  have hsd2 : (tookH p h).said.length + 1 ≤ 1073741824 := hsd
  have F : Foc L10 w11 vc (tookH p h).now (nowC (tookH p h)) b o ut us10 := F
  clear hstep hnow stuck
  generalize hg : tookH p h = g at *
  generalize opNow p h = op at *
  generalize argsNow p h = args at *
  obtain ⟨hcl, hst⟩ := hok_small D.ok
  have hroom := K.room
  have gr := D.run
  -- what is left where nothing but the heap changed
  have fin : ∀ {w' : World} {L' : Lab} {l} {vc' vs' : Value} {g' : Hp} (E : En L w L' w' l) (S : SM L' w' m [] g' vc' vs'), doH p g op args = g' → g'.code = 0 → R (.int .i64 0) w' := fun E S h1 h2 => hR _ _ _ _ _ 0 E.mu S (by rw [code0 h2, h1])
  have put : ∀ {w' : World} {l} {v : V} (E : En L w L10 w' l) (S : SM L10 w' m [] g vc vs), doH p g op args = pushH g v → clT PR 223 [eng m, .agg #[.int .i64 v.1, .int .i64 v.2]] w' fun t57 w19 => R (.int .i64 0) w19 := by
    intro w' l v E S hd
    exact c_push S t0 t1 (by omega) (fun w7 L7 m7 S => fin (E.call m7) S hd gr)
  have A : ∀ {w' : World} {L' : Lab}, Mut L10 w11 L' w' → Sl kPair Any w' [] args ua := fun m => (ha.unMut m hz11).unAny (Nat.le_trans hz11 m.size)
  have T := Mut.refl S.lim
  have E0 : En L10 w11 L10 w11 [] := En.init S.lim
  have made : ∀ {v : V}, madeV op args = some v → doH p g op args = pushH g v := fun hv => by unfold doH; rw [hv]
  repeat (first | (first | refine fad_of ?_ | refine eql_of ?_) | ((refine E.ld (by (exact .head _)) (by exact rfl) ?_)))
  refine condP_of (fun c1' => ?_) (fun c1' => ?_)
  · repeat (first | ((refine fad_of ?_)) | ((refine E.ld (by (exact .head _)) (by exact rfl) ?_)))
    refine c_number (fun w4 e4 => ?_)
    exact put (v := (1, op.2)) (E.ext e4) (S.ext e4) (made (by unfold madeV; rw [if_pos c1']))
  repeat (((refine eql_of ?_)))
  refine condP_of (fun c2' => ?_) (fun c2' => ?_)
  · repeat (first | ((refine fad_of ?_)) | ((refine E.ld (by (exact .head _)) (by exact rfl) ?_)))
    obtain ⟨a0, a1⟩ := K.tmp (.inl c2')
    refine pair_ix (F.temps.any (q := [])) a0 a1 (fun b5 o5 hc5 => ?_)
    repeat (((apply lds_of; (case h => iterate 14 (first | done | assumption)); (case hn => exact rfl))))
    exact put E S (by rw [do_none (by unfold madeV; rw [if_neg c1', if_neg (by omega), if_neg (by omega)]), if_pos c2'])
  repeat (((refine eql_of ?_)))
  refine condP_of (fun c3' => ?_) (fun c3' => ?_)
  · have dn := do_none (p := p) (h := g) (op := op) (args := args) (by unfold madeV; rw [if_neg c1', if_neg (by omega), if_neg (by omega)])
    replace E := E.drew
    replace S := S.drew
    replace F := F.drew
    replace E0 := E0.drew
    have hl := K.one (.inl c3')
    obtain ⟨a0, a1⟩ := K.tmp (.inr c3')
    repeat (first | ((refine fad_of ?_)) | ((refine E.ld (by (exact .head _)) (by exact rfl) ?_)))
    refine pair_ix (A E0.mu) (by omega) (by omega) (fun b5 o5 hc5 => ?_)
    repeat (((apply lds_of; (case h => iterate 14 (first | done | assumption)); (case hn => exact rfl))))
    refine F.temps.ixo_of rfl a0 a1 (fun x b6 o6 es mm hx hat ho hK hc6 => ?_)
    refine S.stTemp (v := pairAt args 0) F t0 t1 hat a0 a1 (fun w5 m5 S F => ?_)
    exact fin (E.call m5) S (by rw [dn, if_neg c2', if_pos c3']; rfl) gr
  repeat (((refine eql_of ?_)))
  refine condP_of (fun c5' => ?_) (fun c5' => ?_)
  · obtain ⟨hl, a0, a1, b0, b1⟩ := K.add c5'
    replace E := E.drew
    replace S := S.drew
    replace E0 := E0.drew
    refine pair_ix (A E0.mu) (by omega) (by omega) (fun b5 o5 hc5 => ?_)
    repeat (first | ((refine fad_of ?_)) | ((apply ld_of; (case h => iterate 14 (first | done | exact Cells.at (by assumption) _ (by exact rfl))))))
    refine pair_ix (i := 1) (A E0.mu) (by omega) (by omega) (fun b6 o6 hc6 => ?_)
    repeat (first | ((refine fad_of ?_)) | ((refine add_of (by (omega)) (by (omega)) ?_)) | ((apply ld_of; (case h => iterate 14 (first | done | exact Cells.at (by assumption) _ (by exact rfl))))))
    refine rem_of (by omega) ?_
    refine c_number (fun w4 e4 => ?_)
    exact put (v := (1, ((pairAt args 0).2 + (pairAt args 1).2).tmod 1000)) (E.ext e4) (S.ext e4) (made (by unfold madeV; rw [if_neg c1', if_pos c5']))
  repeat (((refine eql_of ?_)))
  refine condP_of (fun c6' => ?_) (fun c6' => ?_)
  · have hl := K.two (.inr (.inl c6'))
    replace E := E.drew
    replace S := S.drew
    replace E0 := E0.drew
    refine pair_ix (A E0.mu) (by omega) (by omega) (fun b5 o5 hc5 => ?_)
    repeat (((apply lds_of; (case h => iterate 14 (first | done | assumption)); (case hn => exact rfl))))
    refine pair_ix (i := 1) (A E0.mu) (by omega) (by omega) (fun b6 o6 hc6 => ?_)
    repeat (((apply lds_of; (case h => iterate 14 (first | done | assumption)); (case hn => exact rfl))))
    refine eqlP_of (u := pairAt args 0) (v := pairAt args 1) (by kernel_rfl) ?_
    refine c_truth (fun w4 e4 => ?_)
    refine put (v := bitV (decide (pairAt args 0 = pairAt args 1))) (E.ext e4) (S.ext e4) (made ?_)
    have hbe : (pairAt args 0 == pairAt args 1) = decide (pairAt args 0 = pairAt args 1) := by rw [Bool.eq_iff_iff]; simp
    unfold madeV; rw [if_neg c1', if_neg c5', if_pos c6', hbe]
  have dn := do_none (p := p) (h := g) (op := op) (args := args) (by unfold madeV; rw [if_neg c1', if_neg c5', if_neg c6'])
  have jump : ∀ {w' : World} {l} (E : En L w L10 w' l) (S : SM L10 w' m [] g vc vs) (F : Foc L10 w' vc g.now (nowC g) b o ut us10), doH p g op args = setPc g op.2 → stT (.pointer (some ⟨b, o + 1, none⟩)) (.int .i64 op.2) w' fun w27 => R (.int .i64 0) w27 := by
    intro w' l E S F hd
    refine S.st F t0 t1 rfl (by decide) (c' := { nowC g with pc := op.2 }) rfl F.temps F.stack (fun w5 m5 S F => ?_)
    exact fin (E.call m5) S hd gr
  repeat (((refine eql_of ?_)))
  refine condP_of (fun c7' => ?_) (fun c7' => ?_)
  · repeat (first | (first | refine fad_of ?_ | refine nil_of ?_) | ((refine E.ld (by (exact .head _)) (by exact rfl) ?_)))
    exact jump E S F (by rw [dn, if_neg c2', if_neg c3', if_pos c7'])
  repeat (((refine eql_of ?_)))
  refine condP_of (fun c8' => ?_) (fun c8' => ?_)
  · replace E := E.drew
    replace S := S.drew
    replace F := F.drew
    replace E0 := E0.drew
    have hl := K.one (.inr (.inl c8'))
    have hz : (pairAt args 0).1 = 0 → pairAt args 0 = (0, 0) := fun hk => Prod.ext hk (valOk_none (args_at D.vals (i := 0) (by omega) (by omega)) hk)
    refine pair_ix (A E0.mu) (by omega) (by omega) (fun b5 o5 hc5 => ?_)
    repeat (((apply lds_of; (case h => iterate 14 (first | done | assumption)); (case hn => exact rfl))))
    refine bld_of (cs := #[.int .i64 0, .int .i64 0]) rfl ?_
    refine eqlP_of (u := pairAt args 0) (v := (0, 0)) (by kernel_rfl) ?_
    refine condP_of (fun z => ?_) (fun z => ?_)
    · repeat (first | (first | refine fad_of ?_ | refine nil_of ?_) | ((refine E.ld (by (exact .head _)) (by exact rfl) ?_)))
      exact jump E S F (by rw [dn, if_neg c2', if_neg c3', if_neg c7', if_pos c8', if_pos (.inl (by rw [z]))])
    · refine pair_ix (A E0.mu) (by omega) (by omega) (fun b6 o6 hc6 => ?_)
      repeat (((apply lds_of; (case h => iterate 14 (first | done | assumption)); (case hn => exact rfl))))
      refine c_number (fun w4 e4 => ?_)
      replace E := E.ext e4
      replace S := S.ext e4
      replace F := F.ext e4
      refine ⟨lds_of (hc6.ext e4) rfl rfl, ?_⟩
      refine eqlP_of (u := pairAt args 0) (v := (1, 0)) (by kernel_rfl) ?_
      refine condP_of (fun z2 => ?_) (fun z2 => ?_)
      · repeat (first | (first | refine fad_of ?_ | refine nil_of ?_) | ((refine E.ld (by (exact .head _)) (by exact rfl) ?_)))
        exact jump E S F (by rw [dn, if_neg c2', if_neg c3', if_neg c7', if_pos c8', if_pos (.inr z2)])
      · exact fin E S (by rw [dn, if_neg c2', if_neg c3', if_neg c7', if_pos c8', if_neg (fun h => h.elim (fun h => z (hz h)) z2)]) gr
  repeat (((refine eql_of ?_)))
  refine condP_of (fun c9' => ?_) (fun c9' => ?_)
  · obtain ⟨k0, k1, kl⟩ := K.met c9'
    have hme := methOk_iff.mp (prog_meth D.ok.prog k0 k1)
    have hb1 := D.ok.born1
    have hb2 := D.ok.born2
    have q1 := hme.a0
    have q2 := hme.a1
    have q3 := hme.t0
    have q4 := hme.t1
    have dc : doH p g op args = callH p g op.2 args := by rw [dn, if_neg c2', if_neg c3', if_neg c7', if_neg c8', if_pos c9']
    refine i_full S ?_
    refine condP_of (fun hfull => ?_) (fun hfull => ?_)
    · refine hR _ _ _ _ g 3 E.mu S ?_
      rw [dc]
      unfold callH
      rw [if_pos (by omega)]
    · repeat (first | ((refine fad_of ?_)) | (first | refine E.ld (by (exact .head _)) (by exact rfl) ?_ | refine E.lds (by first | exact .head _ | exact .tail _ (.head _)) (by exact rfl) ?_))
      refine i_enter S hpn hz11 ha k0 k1 (by omega) (by omega) (by omega) (by omega) (by omega) (fun w5 L5 vc5 m5 S => ?_)
      refine fin (E.call m5) S dc ?_
      unfold callH
      rw [if_neg (by omega)]
      exact gr
  repeat (((refine eql_of ?_)))
  refine condP_of (fun c10' => ?_) (fun c10' => ?_)
  · have hl := K.one (.inr (.inr (.inl c10')))
    have dc : doH p g op args = retH g (pairAt args 0) := by rw [dn, if_neg c2', if_neg c3', if_neg c7', if_neg c8', if_neg c9', if_pos c10']
    refine i_leave S t0 t1 (fun w5 m5 S => ?_)
    replace E := E.call m5
    replace E0 := E0.call m5
    have hln : (leaveH g).now = (nowC g).sender := rfl
    refine not_of ?_
    refine condN_of (fun hneg => ?_) (fun hpos => ?_)
    · have hneg : (nowC g).sender < 0 := by
        have := of_decide_eq_false hneg
        rw [hln] at this; omega
      refine pair_ix (A E0.mu) (by omega) (by omega) (fun b5 o5 hc5 => ?_)
      repeat (((apply lds_of; (case h => iterate 14 (first | done | assumption)); (case hn => exact rfl))))
      refine c_sayIt (v := pairAt args 0) S (by rw [leave_len]; exact K.val0 hl) hsd2 (fun w6 L6 vs6 m6 S => ?_)
      refine hR _ _ _ _ _ 1 (E.call m6).mu S ?_
      rw [dc]
      unfold retH
      rw [if_pos hneg]
    · have hpos : 0 ≤ (nowC g).sender := by
        have := of_decide_eq_true hpos
        rw [hln] at this; omega
      refine pair_ix (A E0.mu) (by omega) (by omega) (fun b5 o5 hc5 => ?_)
      repeat (((apply lds_of; (case h => iterate 14 (first | done | assumption)); (case hn => exact rfl))))
      have hs := K.snd
      refine c_push (v := pairAt args 0) S (by rw [hln]; exact hpos) (by rw [hln, leave_len]; exact hs) ?_ (fun w6 L6 m6 S => ?_)
      · have := (D.ok.leave gr hpos).2
        omega
      · refine fin (E.call m6) S ?_ gr
        rw [dc]
        unfold retH
        rw [if_neg (by omega)]
  repeat (((refine eql_of ?_)))
  refine condP_of (fun c11' => ?_) (fun c11' => ?_)
  · refine i_here S (fun w4 e4 => ?_)
    exact put (v := (2, g.now)) (E.ext e4) (S.ext e4) (by rw [dn, if_neg c2', if_neg c3', if_neg c7', if_neg c8', if_neg c9', if_neg c10', if_pos c11'])
  repeat (((refine eql_of ?_)))
  refine condP_of (fun c12' => ?_) (fun c12' => ?_)
  · obtain ⟨i0, i1⟩ := K.isC (by omega)
    have hl := K.one (by omega)
    replace E := E.drew
    replace S := S.drew
    replace E0 := E0.drew
    refine pair_ix (A E0.mu) (by omega) (by omega) (fun b5 o5 hc5 => ?_)
    repeat (first | ((refine fad_of ?_)) | ((apply ld_of; (case h => iterate 14 (first | done | exact Cells.at (by assumption) _ (by exact rfl))))))
    refine nim_of (fun w => by kernel_rfl) ?_
    refine i_sender S i0 i1 (fun w4 v e4 hv => ?_)
    refine put (E.ext e4) (S.ext e4) ?_
    rw [dn, if_neg c2', if_neg c3', if_neg c7', if_neg c8', if_neg c9', if_neg c10', if_neg c11', if_pos (.inl c12'), hv]
    unfold lookV
    rw [if_pos c12']
  repeat (((refine eql_of ?_)))
  refine condP_of (fun c15' => ?_) (fun c15' => ?_)
  · obtain ⟨i0, i1⟩ := K.isC (by omega)
    have hl := K.two (by omega)
    have dc : doH p g op args = backH g (pairAt args 0).2 (pairAt args 1) := by rw [dn, if_neg c2', if_neg c3', if_neg c7', if_neg c8', if_neg c9', if_neg c10', if_neg c11', if_neg (by omega), if_neg (by omega), if_pos c15']
    replace E := E.drew
    replace S := S.drew
    replace E0 := E0.drew
    refine pair_ix (A E0.mu) (by omega) (by omega) (fun b5 o5 hc5 => ?_)
    repeat (first | ((refine fad_of ?_)) | ((apply ld_of; (case h => iterate 14 (first | done | exact Cells.at (by assumption) _ (by exact rfl))))))
    refine nim_of (fun w => by kernel_rfl) ?_
    clear F
    refine i_looked S i0 i1 (fun w4 b4 o4 ut4 us4 e4 F => ?_)
    replace E := E.ext e4
    replace S := S.ext e4
    replace E0 := E0.ext e4
    refine ext_of rfl ?_
    refine ext_of rfl ?_
    refine ext_of rfl ?_
    refine ext_of rfl ?_
    refine cond_of (b := (callAt g.calls (pairAt args 0).2).dead) (fun hd => ?_) (fun hd => ?_)
    · refine hR _ _ _ _ g 2 E.mu S ?_
      rw [dc]
      unfold backH
      rw [if_pos hd]
    · replace E := E.drew
      replace S := S.drew
      replace E0 := E0.drew
      refine pair_ix (A E0.mu) (by omega) (by omega) (fun b5 o5 hc5 => ?_)
      repeat (first | ((refine fad_of ?_)) | ((apply ld_of; (case h => iterate 14 (first | done | exact Cells.at (by assumption) _ (by exact rfl))))))
      refine nim_of (fun w => by kernel_rfl) ?_
      refine i_upTo S D.ok gr i0 i1 hd (fun w6 m6 S => ?_)
      replace E := E.call m6
      replace E0 := E0.call m6
      obtain ⟨l, hw, hcov, hroom2⟩ := D.ok.way
      have hin := hcov _ i0 i1 hd
      obtain ⟨b1', b2', b3', b4', b5', b6'⟩ := back_ok g.calls.length l g hw D.ok gr hin (by have := hw.len; omega)
      refine pair_ix (i := 1) (A E0.mu) (by omega) (by omega) (fun b7 o7 hc7 => ?_)
      repeat (((apply lds_of; (case h => iterate 14 (first | done | assumption)); (case hn => exact rfl))))
      refine c_push (v := pairAt args 1) S (by rw [b2']; exact i0) (by rw [b2', b3']; exact i1) ?_ (fun w8 L8 m8 S => ?_)
      · have := (b1'.at (by rw [b2']; exact i0) (by rw [b2', b3']; exact i1) : FormP _ _ (callAt _ (backL g.calls.length g (pairAt args 0).2).now)).stack
        have : ((nowC (backL g.calls.length g (pairAt args 0).2)).stack.length : Int) ≤ 6 := this
        omega
      · refine fin (E.call m8) S ?_ b4'
        rw [dc]
        unfold backH
        rw [if_neg (by rw [hd]; decide)]
  repeat (((refine eql_of ?_)))
  refine condP_of (fun c16' => ?_) (fun c16' => ?_)
  · have hl := K.one (by omega)
    refine pair_ix (A E0.mu) (by omega) (by omega) (fun b5 o5 hc5 => ?_)
    repeat (((apply lds_of; (case h => iterate 14 (first | done | assumption)); (case hn => exact rfl))))
    refine c_sayIt (v := pairAt args 0) S (K.val0 hl) hsd2 (fun w6 L6 vs6 m6 S => ?_)
    exact fin (E.call m6) S (by rw [dn, if_neg c2', if_neg c3', if_neg c7', if_neg c8', if_neg c9', if_neg c10', if_neg c11', if_neg (by omega), if_neg (by omega), if_neg c15', if_pos c16']) gr
  have look : (op.1 = 13 ∨ op.1 = 14 ∨ op.1 = 17 ∨ op.1 = 18) → Fimpl_stepOf.j1 (eng m) (.pointer (some ⟨b8, 0, none⟩)) ua (.bool true) w11 R := by
    intro hc
    intro _
    obtain ⟨i0, i1⟩ := K.isC (by omega)
    have hl : 1 ≤ args.length := by
      by_cases c14 : op.1 = 14
      · have := K.two (by omega); omega
      · exact K.one (by omega)
    have hop : 0 ≤ op.2 := by
      by_cases c14 : op.1 = 13 ∨ op.1 = 14
      · exact K.jmp c14
      · rw [K.nn (by omega)]; omega
    refine condT_true ?_
    repeat (((refine E.lds (by (exact .head _)) (by exact rfl) ?_)))
    refine c_implLook rfl S ha hz11 t0 t1 hl (fun c => K.two (by omega)) i0 i1 hop (by omega) hc (fun w6 L6 m6 S => ?_)
    intro _
    refine fin (E.call m6) S ?_ ?_
    · by_cases c14 : op.1 = 14
      · rw [dn, if_neg c2', if_neg c3', if_neg c7', if_neg c8', if_neg c9', if_neg c10', if_neg c11', if_neg (by omega), if_pos c14, if_pos c14]
      · rw [dn, if_neg c2', if_neg c3', if_neg c7', if_neg c8', if_neg c9', if_neg c10', if_neg c11', if_pos (by omega), if_neg c14]
    · split
      · unfold pokeH; split <;> exact gr
      · exact gr
  repeat (((refine eql_of ?_)))
  refine condP_of (fun c13' => ?_) (fun c13' => ?_)
  · rw [decide_eq_true c13']; exact look (.inl c13')
  repeat (((refine eql_of ?_)))
  refine condP_of (fun c14' => ?_) (fun c14' => ?_)
  · rw [decide_eq_true c14']; intro _; exact look (.inr (.inl c14'))
  repeat (((refine eql_of ?_)))
  refine condP_of (fun c17' => ?_) (fun c17' => ?_)
  · rw [decide_eq_true c17']; intro _; intro _; exact look (.inr (.inr (.inl c17')))
  repeat (((refine eql_of ?_)))
  by_cases c18' : op.1 = 18
  · rw [decide_eq_true c18']; intro _; intro _; exact look (.inr (.inr (.inr c18')))
  rw [decide_eq_false c18']
  intro _ _ _
  refine condT_false ?_
  intro _
  exact fin E S (by rw [dn, if_neg c2', if_neg c3', if_neg c7', if_neg c8', if_neg c9', if_neg c10', if_neg c11', if_neg (by omega), if_neg c14', if_neg c15', if_neg c16']) gr
end
end Go.PT

/- The program's heap: runs, a step. -/
set_option linter.unusedVariables false
set_option linter.unusedSimpArgs false
namespace Go.PT
attribute [local irreducible] ldT ldsT stT stsT allocT boxT bldT bslT nilT fadT ixaT fldT extT lenT pickT binT notT cviT opT opU condT clT clvT ivT loopT arT ndT World.cell? World.frozen? World.alloc World.drew World.setCell Blk Cells Sl
theorem c_implRun {p : Pg} {h : Hp} {n : Int} {u uc us : Value} {w : World} {R : VW} (hp : Sl kMeth Any w [] p u) (hpl : p.length ≤ 1073741824) (hml : ∀ m ∈ p, m.ops.length ≤ 1073741824) (hh : HeapV w h uc us) (hsd : h.said.length ≤ 1073000000)
    (hR : ∀ w' M uc' us', Ext w w' → Born w M → Lim M w' → HOwn M w' (runR p h n).1 uc' us' → R (.tuple #[.agg (heapCells (runR p h n).1 uc' us').toArray, .bool (runR p h n).2]) w') :
    clT PR 79 [.agg #[u], .agg (heapCells h uc us).toArray, .int .i64 n] w R := by
  refine Fimpl_HeapRun.cl ?_
  unfold Fimpl_HeapRun
  have E := En.start w
  refine E.box (fun b1 w1 E _ => ?_)
  refine E.box (fun b2 w2 E _ => ?_)
  refine E.al (fun b3 w3 E _ => ?_)
  repeat (((refine E.lds (by first | exact .head _ | exact .tail _ (.head _) | exact .tail _ (.tail _ (.head _))) (by exact rfl) ?_)))
  refine c_heapOk (hp.ext E.toExt) hpl hml (hh.ext E.toExt) (fun w4 e4 => ?_)
  replace E := E.ext e4
  have no : ∀ {w5 : World} (E : En noL w noL w5 [(b3, [.slice none 0 0, .int .i64 0, .int .i64 0, .slice none 0 0, .int .i64 0]), (b2, heapCells h uc us), (b1, [u])]), runR p h n = (hp0, false) →
      bldT #[(.slice none 0 0), (.int .i64 0), (.int .i64 0), (.slice none 0 0), (.int .i64 0)] [] fun t19 => stsT 5 (.pointer (some ⟨b3, 0, none⟩)) t19 w5 fun w5 => ldsT 5 (.pointer (some ⟨b3, 0, none⟩)) w5 fun r6 => R (.tuple #[r6, (.bool false)]) w5 := by
    intro w5 E hr
    refine bld_of (cs := #[(.slice none 0 0), (.int .i64 0), (.int .i64 0), (.slice none 0 0), (.int .i64 0)]) rfl ?_
    refine En.sts' (vs := [(.slice none 0 0), (.int .i64 0), (.int .i64 0), (.slice none 0 0), (.int .i64 0)]) [] rfl E rfl rfl (fun u hu => List.all_eq_true.mp rfl u hu) (fun w9 E e9 => ?_)
    repeat (((refine E.lds (by (exact .head _)) (by exact rfl) ?_)))
    rw [hr] at hR
    exact hR _ _ _ _ E.toExt E.born E.mu.lim hown0
  repeat (((refine not_of ?_)))
  refine condN_of (fun hf => ?_) (fun ht => ?_)
  · exact no E (by unfold runR; rw [hf]; rfl)
  refine c_implIn ?_
  repeat (((refine not_of ?_)))
  refine condNIn_of (fun hf => ?_) (fun hin => ?_)
  · exact no E (by unfold runR; rw [inB_f hf, Bool.and_false]; rfl)
  have hr : runR p h n = (runH p n.toNat h, true) := by unfold runR; rw [ht, inB_t hin.1 hin.2]; rfl
  rw [hr] at hR
  repeat (((refine E.lds (by first | exact .head _ | exact .tail _ (.head _)) (by exact rfl) ?_)))
  refine c_heapCopied (hh.ext E.toExt) (fun w5 M uc' us' e5 hb5 hl5 hO => ?_)
  replace E := E.join [] e5 hb5 hl5
  have hcl := hO.calls.inR (L := noL) (q := []) (fun _ _ _ => rfl)
  have hsl := hO.said.inR (L := noL) (q := []) (fun _ _ _ => rfl)
  simp only [List.nil_append] at hcl hsl
  -- the machine's own block
  refine al_of' (fun b6 w6 e6 hb6 k6 => ?_)
  refine sts_of' (vs := heapCells h uc' us') rfl k6 rfl rfl (by intro x hx; simp only [heapCells, List.mem_cons, List.not_mem_nil, or_false] at hx; rcases hx with h | h | h | h | h <;> rw [h] <;> first | rfl | exact hcl.one | exact hsl.one) (fun w7 e7 k7 => ?_)
  have e67 : Ext w5 w7 := e6.trans' e7 (fun _ _ h => h) (fun x hx he => by omega)
  clear e6 e7 k6
  have hl6 : b6 < w7.heap.size := Blk.lt k7
  have hap : Apart (joinL noL [] M) (lab1 b6 []) := apart_of E.mu.lim (lab1_born hb6)
  replace E := E.join [] e67 (lab1_born (p := []) hb6) (lab1_lim (p := []) hl6)
  have hlab : joinL (joinL noL [] M) [] (lab1 b6 []) b6 = some [] := joinL_right (by simp [lab1]) (hap b6 [] (by simp [lab1]))
  have S : SM (joinL (joinL noL [] M) [] (lab1 b6 [])) w7 b6 [] h uc' us' := ⟨k7, hlab, (hcl.keepX e67).inL, (hsl.keepX e67).inL, E.mu.lim⟩
  generalize joinL (joinL noL [] M) [] (lab1 b6 []) = L at E S hlab
  have hu0 := hp.ofAny (q := []) E.born
  have hu := hu0.unExt E.toExt
  have H := hok_iff.mp ht
  clear e4 e5 e67 hb5 hl5 hb6 k7 hl6 hap hlab hcl hsl hO hu0
  refine loop_of (fun m s wx => ∃ (k : Nat) (g : Hp) (L : Lab) (vc vs : Value), s = [.int .i64 n, .pointer (some ⟨b1, 0, none⟩), .pointer (some ⟨b3, 0, none⟩), .bool false, .pointer (some ⟨b6, 0, none⟩), .int .i64 k] ∧ k + m = n.toNat ∧ runH p m g = runH p n.toNat h ∧ HOK p g ∧ g.said.length ≤ h.said.length + k ∧
      En noL w L wx [(b3, [.slice none 0 0, .int .i64 0, .int .i64 0, .slice none 0 0, .int .i64 0]), (b2, heapCells h uc us), (b1, [u])] ∧ SM L wx b6 [] g vc vs ∧ Sl kMeth (Un L w.heap.size) wx [] p u) ?_ (m := n.toNat)
    ⟨0, h, L, uc', us', rfl, by omega, rfl, H, by omega, E, S, hu⟩
  clear E S hu
  rintro m s wx Kn ⟨k, g, L, vc, vs, rfl, hk, hg, G, gsd, E, S, hu⟩ hKn
  intro _
  simp only [List.headD_cons, List.tail_cons]
  have out : runH p m g = g → Fimpl_HeapRun.k2 (.int .i64 n) (.pointer (some ⟨b1, 0, none⟩)) (.pointer (some ⟨b3, 0, none⟩)) (.bool false) (.pointer (some ⟨b6, 0, none⟩)) (.int .i64 k) wx R := by
    intro he
    rw [← hg, he] at hR
    intro _
    refine lds_of (S.blk.cells) rfl ?_
    refine En.sts' (vs := heapCells g vc vs) [] rfl E rfl rfl (by intro x hx; simp only [heapCells, List.mem_cons, List.not_mem_nil, or_false] at hx; rcases hx with h | h | h | h | h <;> rw [h] <;> first | rfl | exact S.calls.one | exact S.said.one) (fun w9 E e9 => ?_)
    refine E.lds (.head _) rfl ?_
    exact hR _ _ _ _ E.toExt E.born E.mu.lim ⟨S.calls.loc e9, S.said.loc e9⟩
  repeat (((refine lss_of ?_)))
  refine condLt_of (fun hlt => ?_) (fun hge => ?_)
  · repeat (first | (first | refine fad_of ?_ | refine eql_of ?_) | ((refine ld_of (S.cell (by exact rfl)) ?_)))
    refine condP_of (fun hc => ?_) (fun hc => ?_)
    · repeat (((refine E.lds (by first | exact .head _ | exact .tail _ (.tail _ (.head _))) (by exact rfl) ?_)))
      refine c_stepOf S hu E.size G hc (by omega) (fun w7 L7 vc7 vs7 g7 code m7 S7 hst => ?_)
      repeat (((refine fad_of ?_)))
      refine S7.stM rfl (by simp) (h' := stepH p g) (by rw [← hst]; rfl) (by rw [← hst]; exact S7.calls) (by rw [← hst]; exact S7.said) (fun w8 m8 _ S8 => ?_)
      repeat (((refine add_of (by (omega)) (by (omega)) ?_)))
      obtain ⟨m, rfl⟩ : ∃ j, m = j + 1 := ⟨m - 1, by omega⟩
      refine hKn m _ _ (by omega) ⟨k + 1, stepH p g, L7, vc7, vs7, rfl, by omega, ?_, step_ok G hc, ?_, (E.call m7).call m8, S8, hu.unMut (m7.trans m8) E.size⟩
      · rw [← hg]
        conv => rhs; unfold runH
        rw [if_pos hc]
      · have := said_step (p := p) (h := g); omega
    · exact out (run_stop hc m)
  · have hm0 : m = 0 := by omega
    subst hm0
    exact out rfl
theorem c_implStep {p : Pg} {h : Hp} {u uc us : Value} {w : World} {R : VW} (hp : Sl kMeth Any w [] p u) (hpl : p.length ≤ 1073741824) (hml : ∀ m ∈ p, m.ops.length ≤ 1073741824) (hh : HeapV w h uc us) (hsd : h.said.length ≤ 1073000000)
    (hR : ∀ w' M uc' us', Ext w w' → Born w M → Lim M w' → HOwn M w' (runR p h 1).1 uc' us' → R (.tuple #[.agg (heapCells (runR p h 1).1 uc' us').toArray, .bool (runR p h 1).2]) w') :
    clT PR 65 [.agg #[u], .agg (heapCells h uc us).toArray] w R := by
  refine Fimpl_HeapStep.cl ?_
  unfold Fimpl_HeapStep
  have E := En.start w
  refine E.box (fun b1 w1 E _ => ?_)
  refine E.box (fun b2 w2 E _ => ?_)
  refine E.al (fun b3 w3 E _ => ?_)
  repeat (((refine E.lds (by first | exact .head _ | exact .tail _ (.head _) | exact .tail _ (.tail _ (.head _))) (by exact rfl) ?_)))
  refine c_implRun (hp.ext E.toExt) hpl hml (hh.ext E.toExt) hsd (fun w4 M uc' us' e4 hb4 hl4 ho => ?_)
  replace E := E.join [] e4 hb4 hl4
  have hcl := ho.calls.inR (L := noL) (q := []) (fun _ _ _ => rfl)
  have hsl := ho.said.inR (L := noL) (q := []) (fun _ _ _ => rfl)
  simp only [List.nil_append] at hcl hsl
  refine ext_of rfl ?_
  refine ext_of rfl ?_
  refine En.sts' (vs := heapCells (runR p h 1).1 uc' us') [] rfl E rfl rfl (by intro x hx; simp only [heapCells, List.mem_cons, List.not_mem_nil, or_false] at hx; rcases hx with h | h | h | h | h <;> rw [h] <;> first | rfl | exact hcl.one | exact hsl.one) (fun w9 E e9 => ?_)
  refine E.lds (.head _) rfl ?_
  exact hR _ _ _ _ E.toExt E.born E.mu.lim ⟨hcl.loc e9, hsl.loc e9⟩
end Go.PT
