/- What the claim of FnMoveBack leans on, part 3 of 16. -/
import Derived.Test.YthdpnpckmoffaaaGreatMoveBack00
import Derived.Test.YthdpnpckmoffaaaGreatMoveBack01
set_option linter.unusedVariables false
set_option linter.unusedSimpArgs false
set_option linter.unusedSectionVars false
set_option maxRecDepth 100000
namespace Go.PT
variable {P : Program} {Γ : Ctx}
theorem sp_wp {ops : List Oper} {i : Nat} {o : Oper} {a : Act} {w : World} {k : VW} {next : Act → World → Prop} {Q : Exit → Act → World → Prop} (hΓ : CtxOk P Γ) (h : trSp P Γ ops i o (envA a) w k)
    (hk : ∀ v w', k v w' → next (a.put o.dst v) w') : o.wp P a w next Q := by
  unfold trSp at h
  cases hg : guardSrc ops i
  · rw [hg] at h; exact op_wp hΓ h hk
  · rw [hg] at h
    simp only [cond_true] at h
    refine op_wp hΓ h (fun v w' hv => ?_)
    unfold spT condT at hv
    split at hv
    · exact hk _ _ hv
    · exact hk _ _ hv
    · exact hv.elim
theorem yielded_bool {ops : Array Oper} {a : Act} {j d : Nat} (hd : (ops[j]?).bind (·.dst) = some d) (b : Bool) : yielded ops a.tmps j = some b ↔ envA a d = .bool b := by
  unfold yielded envA
  rw [hd]
  simp only [Option.bind_some, Array.getD_eq_getD_getElem?]
  cases h : a.tmps[d]? with
  | none => simp [undef]
  | some v => cases v <;> simp
theorem one_wp {ops : Array Oper} {i : Nat} {o : Oper} {a : Act} {w : World} {k : VW} {s : Prop} {next : Act → World → Prop} {Q : Exit → Act → World → Prop} (hΓ : CtxOk P Γ)
    (h : trOne P Γ ops.toList i o (envA a) w k s) (hk : ∀ v w', k v w' → next (a.put o.dst v) w') (hs : s → next (a.put o.dst undef) w) :
    (Region.wanted o (yielded ops a.tmps) = true ∧ o.wp P a w next Q) ∨ (Region.wanted o (yielded ops a.tmps) = false ∧ next (a.put o.dst undef) w) := by
  unfold trOne at h
  cases hg : o.guard with
  | none =>
    rw [hg] at h
    exact .inl ⟨by simp [Region.wanted, hg], sp_wp hΓ h hk⟩
  | some g =>
    obtain ⟨j, want⟩ := g
    rw [hg] at h
    have hw : Region.wanted o (yielded ops a.tmps) = (yielded ops a.tmps j == some want) := by simp [Region.wanted, hg]
    rw [hw]
    simp only [Array.getElem?_toList] at h
    cases hd : (ops[j]?).bind (·.dst) with
    | none =>
      rw [hd] at h
      have : yielded ops a.tmps j = none := by unfold yielded; rw [hd]; rfl
      rw [this]
      exact .inr ⟨rfl, hs h⟩
    | some d =>
      rw [hd] at h
      simp only [gdT] at h
      have hy := yielded_bool (a := a) hd
      split at h
      · rename_i b hb
        rw [(hy b).2 hb]
        cases hbw : (b == want)
        · rw [hbw] at h
          exact .inr ⟨by simpa using hbw, hs h⟩
        · rw [hbw] at h
          exact .inl ⟨by simpa using hbw, sp_wp (Q := Q) hΓ h hk⟩
      · rename_i hnb
        have : yielded ops a.tmps j ≠ some want := fun e => hnb want ((hy want).1 e)
        exact .inr ⟨by simpa using this, hs h⟩
def dstOk (N : Nat) (ops : List Oper) : Bool := ops.all fun o => match o.dst with | some d => Nat.blt d N | none => true
theorem dstOk_spec {N : Nat} {ops : List Oper} (h : dstOk N ops = true) {o : Oper} (ho : o ∈ ops) {d : Nat} (hd : o.dst = some d) : d < N := by
  have := (List.all_eq_true.1 h) o ho
  rw [hd] at this
  simp [Nat.blt] at this
  omega
theorem size_put (a : Act) (d : Option Nat) (v : Value) : (a.put d v).tmps.size = a.tmps.size := by cases d <;> simp [Act.put]
theorem defers_put (a : Act) (d : Option Nat) (v : Value) : (a.put d v).defers = a.defers := by cases d <;> rfl
theorem seq_wp {ops : Array Oper} {k : Env → World → Prop} {Q : Exit → Act → World → Prop} {N : Nat} (hΓ : CtxOk P Γ) (hN : dstOk N ops.toList = true) (hQ : ∀ a w, k (envA a) w → a.tmps.size = N → a.defers = [] → Q .normal a w) :
    ∀ (l : List Oper) (i : Nat) (a : Act) (w : World), (∀ j, l[j]? = ops[i + j]?) → a.tmps.size = N → a.defers = [] → trSeq P Γ ops.toList i l (envA a) w k → wpOps P ops Q (List.range' i l.length) a w := by
  intro l
  induction l with
  | nil => intro i a w _ h1 h2 h; exact hQ a w h h1 h2
  | cons o l ih =>
    intro i a w hl h1 h2 h
    have h0 : ops[i]? = some o := by simpa using (hl 0).symm
    have hl' : ∀ j, l[j]? = ops[i + 1 + j]? := fun j => by have := hl (j + 1); simpa [Nat.add_assoc, Nat.add_comm 1 j] using this
    have hmem : o ∈ ops.toList := by simpa using Array.mem_of_getElem? h0
    have hput : ∀ v, envA (a.put o.dst v) = putE (envA a) o.dst v := fun v => envA_put a o.dst v (fun x hx => by rw [h1]; exact dstOk_spec hN hmem hx)
    simp only [List.length_cons, List.range'_succ, wpOps, h0]
    simp only [trSeq] at h
    have := one_wp (ops := ops) (Q := Q) (next := wpOps P ops Q (List.range' (i + 1) l.length)) hΓ h
      (fun v w' hv => ih (i + 1) _ w' hl' (by rw [size_put]; exact h1) (by rw [defers_put]; exact h2) (by rw [hput]; exact hv))
      (fun hv => ih (i + 1) _ w hl' (by rw [size_put]; exact h1) (by rw [defers_put]; exact h2) (by rw [hput]; exact hv))
    rcases this with ⟨hw, this⟩ | ⟨hw, this⟩
    · rw [if_pos hw]; exact .inl this
    · rw [if_neg (by simp [hw])]; exact this
end Go.PT
