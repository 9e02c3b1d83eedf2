/- What the claim of FnMoveBack leans on, part 7 of 16. -/
import Derived.Test.YthdpnpckmoffaaaGreatMoveBack00
import Derived.Test.YthdpnpckmoffaaaGreatMoveBack01
import Derived.Test.YthdpnpckmoffaaaGreatMoveBack02
import Derived.Test.YthdpnpckmoffaaaGreatMoveBack03
import Derived.Test.YthdpnpckmoffaaaGreatMoveBack04
import Derived.Test.YthdpnpckmoffaaaGreatMoveBack05
set_option linter.unusedVariables false
set_option linter.unusedSimpArgs false
set_option linter.unusedSectionVars false
set_option maxRecDepth 100000
namespace Go.PT
variable {P : Program} {Γ : Ctx} {H : Hints}
theorem upd_self (e : Env) (t : Nat) : upd e t (e t) = e := by
  funext j
  unfold upd
  cases h : Nat.beq j t
  · rfl
  · rw [Nat.eq_of_beq_eq_true h]; rfl
theorem mix_self (e : Env) : ∀ ts : List Nat, mix ts (ts.map e) e = e
  | [] => rfl
  | t :: ts => by
    simp only [List.map_cons, mix, List.tail_cons, List.headD_cons, mix_self e ts, upd_self]
def okC (N : Nat) : Code → Bool
  | .region _ ops _ => dstOk N ops.toList
  | .seq a b => okC N a && okC N b
  | .cond _ a b => okC N a && okC N b
  | .block _ a => okC N a
  | .loop a => okC N a
  | .scope a => okC N a
  | _ => true
theorem code_wp (hΓ : CtxOk P Γ) {N : Nat} : ∀ (c : Code), okC N c = true → ∀ (a : Act) (w : World) (K : XW) (Q : Exit → Act → World → Prop), a.tmps.size = N → a.defers = [] →
    (∀ x a w, K x (envA a) w → a.tmps.size = N → a.defers = [] → Q x a w) → trC P Γ H c (envA a) w K → c.wp P Q a w := by
  intro c
  induction c with
  | skip => intro _ a w K Q h1 h2 hQ h; exact wp_skip (hQ _ _ _ h h1 h2)
  | region id ops draw =>
    intro hN a w K Q h1 h2 hQ h
    cases draw
    · refine wp_region ?_
      have := seq_wp (Q := Q) (N := N) (k := K .normal) hΓ hN (fun a w hk q1 q2 => hQ _ _ _ hk q1 q2) ops.toList 0 a w (by simp) h1 h2 h
      rwa [List.range_eq_range', ← Array.length_toList]
    · exact drawn_wp hΓ hN (fun a w hk q1 q2 => hQ _ _ _ hk q1 q2) h1 h2 h
  | seq x y ihx ihy =>
    intro hN a w K Q h1 h2 hQ h
    simp only [okC, Bool.and_eq_true] at hN
    refine wp_seq (ihx hN.1 a w _ _ h1 h2 ?_ h)
    intro e a' w' hk q1 q2
    cases e with
    | normal => exact ihy hN.2 a' w' K Q q1 q2 hQ hk
    | _ => exact hQ _ _ _ hk q1 q2
  | cond c x y ihx ihy =>
    intro hN a w K Q h1 h2 hQ h
    simp only [okC, Bool.and_eq_true] at hN
    have core : ∀ K' : XW, (∀ x a w, K' x (envA a) w → a.tmps.size = N → a.defers = [] → Q x a w) → condT (ev (envA a) c) (trC P Γ H x (envA a) w K') (trC P Γ H y (envA a) w K') → (Code.cond c x y).wp P Q a w := by
      intro K' hK' h
      unfold condT at h
      split at h
      · rename_i hc
        rw [ev_envA] at hc
        exact wp_cond_true hc (ihx hN.1 a w K' Q h1 h2 hK' h)
      · rename_i hc
        rw [ev_envA] at hc
        exact wp_cond_false hc (ihy hN.2 a w K' Q h1 h2 hK' h)
      · exact h.elim
    simp only [trC] at h
    split at h
    · exact core K hQ h
    · rename_i J _
      refine core _ ?_ h
      intro e a' w' hk q1 q2
      cases e with
      | normal =>
        have := hk (envA a')
        rw [mix_self] at this
        exact hQ _ _ _ this q1 q2
      | _ => exact hQ _ _ _ hk q1 q2
  | block id x ih =>
    intro hN a w K Q h1 h2 hQ h
    simp only [trC] at h
    split at h
    · refine wp_block (ih hN a w _ _ h1 h2 ?_ h)
      intro e a' w' hk q1 q2
      cases e with
      | exit i =>
        simp only at hk
        cases hb : Nat.beq i id
        · rw [hb] at hk
          have : i ≠ id := fun e => by subst e; simp at hb
          simp only [Exit.inBlock, this, if_false]
          exact hQ _ _ _ hk q1 q2
        · rw [hb] at hk
          have := Nat.eq_of_beq_eq_true hb
          simp only [Exit.inBlock, this, if_true]
          exact hQ _ _ _ hk q1 q2
      | _ => exact hQ _ _ _ hk q1 q2
    · rename_i J _
      refine wp_block (ih hN a w _ _ h1 h2 ?_ h)
      intro e a' w' hk q1 q2
      cases e with
      | normal =>
        have := hk (envA a')
        rw [mix_self] at this
        exact hQ _ _ _ this q1 q2
      | exit i =>
        simp only at hk
        cases hb : Nat.beq i id
        · rw [hb] at hk
          have : i ≠ id := fun e => by subst e; simp at hb
          simp only [Exit.inBlock, this, if_false]
          exact hQ _ _ _ hk q1 q2
        · rw [hb] at hk
          have := Nat.eq_of_beq_eq_true hb
          simp only [Exit.inBlock, this, if_true]
          have hk' := hk (envA a')
          rw [mix_self] at hk'
          exact hQ _ _ _ hk' q1 q2
      | _ => exact hQ _ _ _ hk q1 q2
  | loop x ih =>
    intro hN a w K Q h1 h2 hQ h
    simp only [trC] at h
    split at h
    · exact h.elim
    · rename_i bid keep _
      obtain ⟨n, hn⟩ := h
      refine wp_loop_rounds n ?_
      have key : ∀ (n : Nat) (a : Act) (w : World), a.tmps.size = N → a.defers = [] →
          iterT (fun s w Kn Kb Kr => ∀ junk, trC P Γ H x (mix keep s junk) w fun e e' w' => match e with | .normal => Kn (keep.map e') w' | .exit i => bif Nat.beq i bid then Kb (keep.map e') w' else False | .ret => Kr (keep.map e') w' | _ => False)
            (fun s w' => ∀ junk, K (.exit bid) (mix keep s junk) w') (fun s w' => ∀ junk, K .ret (mix keep s junk) w') n (keep.map (envA a)) w → Code.rounds P x Q n a w := by
        intro n
        induction n with
        | zero => intro a w _ _ h; exact h.elim
        | succ n ihn =>
          intro a w q1 q2 h
          rw [rounds_succ]
          have h' := h (envA a)
          rw [mix_self] at h'
          refine ih hN a w _ _ q1 q2 ?_ h'
          intro e a' w' hk r1 r2
          cases e with
          | normal => exact ihn a' w' r1 r2 hk
          | exit i =>
            obtain ⟨hb, hk⟩ := cond_F hk
            have := hk (envA a')
            rw [mix_self] at this
            rw [Nat.eq_of_beq_eq_true hb]
            exact hQ _ _ _ this r1 r2
          | ret =>
            have := hk (envA a')
            rw [mix_self] at this
            exact hQ _ _ _ this r1 r2
          | _ => exact hk.elim
      exact key n a w h1 h2 hn
  | exit i => intro _ a w K Q h1 h2 hQ h; exact wp_exit (hQ _ _ _ h h1 h2)
  | ret => intro _ a w K Q h1 h2 hQ h; exact wp_ret (hQ _ _ _ h h1 h2)
  | _ => intro _ a w K Q h1 h2 hQ h; exact h.elim
def rsem (tmps : Array Value) : ResultVar → Sem Value
  | .tmp t => pure (tmps.getD t undef)
  | .cell x t => do loadVar t (← asAddr (tmps.getD x undef))
theorem results_eq (fn : Func) (tmps : Array Value) : results fn tmps = (do let vs ← fn.results.mapM (rsem tmps); pure (if h : vs.size = 1 then vs[0] else .tuple vs)) := by
  unfold results
  have : (fun | .tmp t => pure (tmps.getD t undef) | .cell a t => do loadVar t (← asAddr (tmps.getD a undef)) : ResultVar → Sem Value) = rsem tmps := by
    funext r; cases r <;> rfl
  rw [← this]
  rfl
theorem resT1_run (hΓ : CtxOk P Γ) {r : ResultVar} {a : Act} {w : World} {k : Value → Prop} (h : resT1 Γ r (envA a) w k) :
    ∃ v, k v ∧ (rsem a.tmps r).run P w = .ok v w := by
  cases r with
  | tmp t => exact ⟨_, h, rfl⟩
  | cell x t =>
    simp only [resT1] at h
    obtain ⟨h1, h⟩ := cond_F h
    obtain ⟨d, i, hr⟩ := row_of hΓ h1
    rw [hr.agg, hr.size] at h
    cases hg : isAggD d
    · rw [hg] at h
      simp only [cond_false] at h
      unfold ldT at h
      split at h
      · rename_i ad hx
        have hx' : a.tmps.getD x undef = .pointer (some ad) := hx
        split at h
        · rename_i v hv
          refine ⟨v, h, ?_⟩
          simp only [rsem]
          rw [hx']
          have := run_loadAt1 (w := w) hr.und hg hv
          simpa [Instr.loadAt, Instr.sureAddr, asAddr] using this
        · exact h.elim
      · exact h.elim
    · rw [hg] at h
      simp only [cond_true] at h
      unfold ldsT at h
      split at h
      · rename_i ad hx
        have hx' : a.tmps.getD x undef = .pointer (some ad) := hx
        split at h
        · rename_i vs hv
          refine ⟨_, h, ?_⟩
          simp only [rsem]
          rw [hx']
          have := run_loadAtN (w := w) hr.und hr.info hg hv
          simpa [Instr.loadAt, Instr.sureAddr, asAddr] using this
        · exact h.elim
      · exact h.elim
theorem resTs_run (hΓ : CtxOk P Γ) {a : Act} {w : World} : ∀ (rs : List ResultVar) (k : List Value → Prop), resTs Γ rs (envA a) w k →
    ∃ vs, k vs ∧ vs.length = rs.length ∧ (rs.mapM (rsem a.tmps)).run P w = .ok vs w
  | [], k, h => ⟨[], h, rfl, by simp⟩
  | r :: rs, k, h => by
    obtain ⟨v, h1, h2⟩ := resT1_run hΓ h
    obtain ⟨vs, h3, h4, h5⟩ := resTs_run hΓ rs _ h1
    refine ⟨v :: vs, h3, by simp [h4], ?_⟩
    rw [List.mapM_cons, Sem.run_bind, h2]
    simp only [Result.andThen_ok, Sem.run_bind, h5, Sem.run_pure]
theorem results_run (hΓ : CtxOk P Γ) {fn : Func} {a : Act} {w : World} {k : List Value → Prop} (h : resTs Γ fn.results.toList (envA a) w k) : ∃ vs, k vs ∧ (results fn a.tmps).run P w = .ok (one vs) w := by
  obtain ⟨vs, h1, h2, h3⟩ := resTs_run hΓ _ _ h
  refine ⟨vs, h1, ?_⟩
  rw [results_eq, Sem.run_bind]
  have : (fn.results.mapM (rsem a.tmps)).run P w = .ok vs.toArray w := by
    rw [← Array.toArray_toList (xs := fn.results), List.mapM_toArray, Sem.run_map, h3]
    rfl
  rw [this]
  simp only [Result.andThen_ok, Sem.run_pure]
  congr 1
  unfold one
  cases vs with
  | nil => simp
  | cons v vs => cases vs <;> simp
theorem argE_enter (args : List Value) (n : Nat) : envA { tmps := args.toArray ++ Array.replicate n undef, defers := [] } = argE args := by
  funext j
  simp only [envA, argE, Array.getD_eq_getD_getElem?, List.getD_eq_getElem?_getD]
  rw [Array.getElem?_append]
  split
  · simp
  · rename_i h
    have h' : args.length ≤ j := by simpa using h
    rw [List.getElem?_eq_none h']
    cases hh : (Array.replicate n undef)[j - args.toArray.size]? with
    | none => rfl
    | some v =>
      have := Array.mem_of_getElem? hh
      simp at this
      simp [this.2]
theorem cl_of_tr (hΓ : CtxOk P Γ) {f : FuncId} {fn : Func} {args : List Value} {w : World} {R : VW} (hf : P.funcs[f]? = some fn) (hok : (match fn.body with | some c => okC fn.ntmps c && Nat.ble args.length fn.ntmps | none => false) = true)
    (h : trF P Γ H fn args w R) : clT P f args w R := by
  unfold trF at h
  cases hb : fn.body with
  | none => rw [hb] at h; exact h.elim
  | some c =>
    rw [hb] at h hok
    simp only [Bool.and_eq_true] at h hok
    unfold clT
    refine calls_of_wp hf hb ?_
    have hsz : (args.toArray ++ Array.replicate (fn.ntmps - args.toArray.size) undef).size = fn.ntmps := by
      have := Nat.le_of_ble_eq_true hok.2
      simp
      omega
    refine code_wp (H := H) hΓ c hok.1 _ w _ _ hsz rfl ?_ (by rw [argE_enter]; exact h)
    intro x a w' hk q1 q2
    cases x with
    | normal =>
      obtain ⟨vs, h1, h2⟩ := results_run hΓ hk
      exact ⟨q2, _, h2, _, rfl, h1⟩
    | ret =>
      obtain ⟨vs, h1, h2⟩ := results_run hΓ hk
      exact ⟨q2, _, h2, _, rfl, h1⟩
    | _ => exact hk.elim
end Go.PT
