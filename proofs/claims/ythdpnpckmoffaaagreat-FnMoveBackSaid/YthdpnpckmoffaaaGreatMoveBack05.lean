/- What the claim of FnMoveBack leans on, part 6 of 16. -/
import Derived.Test.YthdpnpckmoffaaaGreatMoveBack00
import Derived.Test.YthdpnpckmoffaaaGreatMoveBack01
import Derived.Test.YthdpnpckmoffaaaGreatMoveBack02
import Derived.Test.YthdpnpckmoffaaaGreatMoveBack03
import Derived.Test.YthdpnpckmoffaaaGreatMoveBack04
set_option linter.unusedVariables false
set_option linter.unusedSimpArgs false
set_option linter.unusedSectionVars false
set_option maxRecDepth 100000
namespace Go.PT
variable {P : Program} {Γ : Ctx}
open Classical in
noncomputable def vt (ops : Array Oper) (vv : Nat → Value) (e0 : Env) (m : Nat) : Env := fun t =>
  if h : ∃ (j : Nat) (oj : Oper), ops[j]? = some oj ∧ oj.dst = some t ∧ m.testBit j = true then vv (Classical.choose h) else e0 t
section vt
variable {ops : Array Oper} {T : List Nat} {fs : FL} {Fm : Nat} {vv : Nat → Value} {e0 : Env} {m : Nat}
theorem vt_in (S : Stat Γ ops T fs Fm) {j : Nat} {oj : Oper} {t : Nat} (h1 : ops[j]? = some oj) (h2 : oj.dst = some t) (h3 : m.testBit j = true) : vt ops vv e0 m t = vv j := by
  have h : ∃ (j : Nat) (oj : Oper), ops[j]? = some oj ∧ oj.dst = some t ∧ m.testBit j = true := ⟨j, oj, h1, h2, h3⟩
  obtain ⟨o', g1, g2, _⟩ := Classical.choose_spec h
  have : Classical.choose h = j := S.distinct _ _ _ _ _ g1 h1 g2 h2
  unfold vt
  rw [dif_pos h, this]
theorem vt_out {t : Nat} (h : ∀ (j : Nat) (oj : Oper), ops[j]? = some oj → oj.dst = some t → m.testBit j = false) : vt ops vv e0 m t = e0 t := by
  unfold vt
  rw [dif_neg]
  rintro ⟨j, oj, h1, h2, h3⟩
  rw [h j oj h1 h2] at h3
  cases h3
theorem vt_congr {vv' : Nat → Value} {t : Nat} (h : ∀ (j : Nat) (oj : Oper), ops[j]? = some oj → oj.dst = some t → m.testBit j = true → vv j = vv' j) : vt ops vv e0 m t = vt ops vv' e0 m t := by
  unfold vt
  by_cases hh : ∃ (j : Nat) (oj : Oper), ops[j]? = some oj ∧ oj.dst = some t ∧ m.testBit j = true
  · rw [dif_pos hh, dif_pos hh]
    obtain ⟨o', g1, g2, g3⟩ := Classical.choose_spec hh
    exact h _ _ g1 g2 g3
  · rw [dif_neg hh, dif_neg hh]
end vt
def YN (P : Program) (ops : Array Oper) (o : Oper) (v : Value) (a : Act) (w : World) : Prop :=
  (Region.wanted o (yielded ops a.tmps) = true ∧ (execOp a.eval o).run P w = .ok (.value v) w) ∨ (Region.wanted o (yielded ops a.tmps) = false ∧ v = undef)
def Agrees (ops : Array Oper) (o : Oper) (e : Env) (a : Act) : Prop := ∀ t ∈ o.looksAt ops, envA a t = e t
def YS (P : Program) (Γ : Ctx) (ops : Array Oper) (i : Nat) (o : Oper) (v : Value) (e : Env) (pd : List Pend) (w : World) : Prop :=
  (∀ a w', Agrees ops o e a → YN P ops o v a w') ∨ (∃ p ∈ pd, p.i = i ∧ ldqT Γ p w ∧ ∀ a w', Agrees ops o e a → ldqT Γ p w' → YN P ops o v a w')
theorem agrees_operands {ops : Array Oper} {o : Oper} {e : Env} {a : Act} (h : Agrees ops o e a) (hs : ∀ cs b, o.op ≠ .select cs b) : execOp a.eval o = execOp (ev e) o := by
  rw [← ev_envA]
  exact execOp_congr o hs (looksAt_operand h)
theorem eager_noSelect {o : Oper} (h : isEager Γ o = true) : ∀ cs b, o.op ≠ .select cs b := by
  intro cs b e
  unfold isEager at h
  rw [e] at h
  cases h
theorem one_eager {ops : Array Oper} {i : Nat} {o : Oper} {e : Env} {w : World} {pd : List Pend} {K : List Pend → VW} {k : VW} {s : Prop} (hΓ : CtxOk P Γ) (he : isEager Γ o = true)
    (h : trOne P Γ ops.toList i o e w k s) (hk : ∀ v w', k v w' → K (pendOf o i e v pd) v w') (hs : s → K pd undef w) : ∃ v pd', K pd' v w ∧ (∀ p ∈ pd, p ∈ pd') ∧ YS P Γ ops i o v e pd' w := by
  have hsel := eager_noSelect he
  have core : trSp P Γ ops.toList i o e w k → (∀ a, Agrees ops o e a → Region.wanted o (yielded ops a.tmps) = true) → ∃ v pd', K pd' v w ∧ (∀ p ∈ pd, p ∈ pd') ∧ YS P Γ ops i o v e pd' w := by
    intro hsp hw
    have hop : ∃ k' : VW, trOp P Γ o e w k' ∧ ∀ v w', k' v w' → k v w' := by
      unfold trSp at hsp
      cases hg : guardSrc ops.toList i
      · rw [hg] at hsp; exact ⟨k, hsp, fun _ _ h => h⟩
      · rw [hg] at hsp
        simp only [cond_true] at hsp
        refine ⟨_, hsp, fun v w' hv => ?_⟩
        unfold spT condT at hv
        split at hv
        · exact hv
        · exact hv
        · exact hv.elim
    obtain ⟨k', h1, h2⟩ := hop
    by_cases hl : ∃ t x, o.op = .load t x
    · obtain ⟨t, x, ho⟩ := hl
      obtain ⟨v, hv, hq, hr⟩ := load_spec i hΓ ho h1
      have hp : pendOf o i e v pd = ⟨i, t, ev e x, v⟩ :: pd := by unfold pendOf; rw [ho]
      refine ⟨v, _, hk _ _ (h2 _ _ hv), fun p hp' => by rw [hp]; exact List.mem_cons_of_mem _ hp', .inr ⟨_, by rw [hp]; exact List.mem_cons_self, rfl, hq, fun a w' ha hq' => .inl ⟨hw a ha, ?_⟩⟩⟩
      rw [agrees_operands ha hsel]
      exact hr w' hq'
    · have hl' : ∀ t x, o.op ≠ .load t x := fun t x e => hl ⟨t, x, e⟩
      obtain ⟨v, hv, hr⟩ := pure_spec hΓ he hl' h1
      have hp : pendOf o i e v pd = pd := by
        unfold pendOf
        split
        · rename_i t x ho; exact absurd ho (hl' t x)
        · rfl
      refine ⟨v, pd, by rw [← hp]; exact hk _ _ (h2 _ _ hv), fun p h => h, .inl fun a w' ha => .inl ⟨hw a ha, ?_⟩⟩
      rw [agrees_operands ha hsel]
      exact hr w'
  unfold trOne at h
  cases hg : o.guard with
  | none =>
    rw [hg] at h
    exact core h (fun a _ => by simp [Region.wanted, hg])
  | some g =>
    obtain ⟨j, want⟩ := g
    rw [hg] at h
    simp only [Array.getElem?_toList] at h
    have hwant : ∀ a : Act, Region.wanted o (yielded ops a.tmps) = (yielded ops a.tmps j == some want) := fun a => by simp [Region.wanted, hg]
    cases hd : (ops[j]?).bind (·.dst) with
    | none =>
      rw [hd] at h
      refine ⟨undef, pd, hs h, fun p h => h, .inl fun a w' _ => .inr ⟨?_, rfl⟩⟩
      rw [hwant]
      have : yielded ops a.tmps j = none := by unfold yielded; rw [hd]; rfl
      rw [this]; rfl
    | some d =>
      rw [hd] at h
      simp only [gdT] at h
      have hdd : ∀ a, Agrees ops o e a → envA a d = e d := fun a ha => looksAt_guard (e := envA a) (e' := e) ha hg hd
      split at h
      · rename_i b hb
        have hyb : ∀ a, Agrees ops o e a → yielded ops a.tmps j = some b := fun a ha => (yielded_bool hd b).2 (by rw [hdd a ha, hb])
        cases hbw : (b == want)
        · rw [hbw] at h
          refine ⟨undef, pd, hs h, fun p h => h, .inl fun a w' ha => .inr ⟨?_, rfl⟩⟩
          rw [hwant, hyb a ha]
          simpa using hbw
        · rw [hbw] at h
          refine core h (fun a ha => ?_)
          rw [hwant, hyb a ha]
          simpa using hbw
      · rename_i hnb
        refine ⟨undef, pd, hs h, fun p h => h, .inl fun a w' ha => .inr ⟨?_, rfl⟩⟩
        rw [hwant]
        have : yielded ops a.tmps j ≠ some want := fun he => hnb want (by rw [← hdd a ha]; exact (yielded_bool hd want).1 he)
        simpa using this
abbrev zsOf (fs : FL) : List (Nat × Array Value) := fs.map fun f => (f.2.2.1, f.2.2.2)
theorem AR.snoc {zs : List (Nat × Array Value)} {w w' : World} {s s' : List (Option Nat)} (h : AR zs w s w' s') {i t : Nat} {z : Array Value} (hz : zs[i]? = some (t, z)) (hs : s'[i]? = some none) :
    AR zs w s (w'.alloc (.cells z t)) (s'.set i (some w'.heap.size)) := by
  induction h with
  | refl w s => exact .step i t z hz hs (.refl _ _)
  | step j u y hy hu _ ih => exact .step j u y hy hu (ih hs)
theorem AR.nil {w w' : World} {s s' : List (Option Nat)} (h : AR [] w s w' s') : w' = w ∧ s' = s := by
  cases h with
  | refl => exact ⟨rfl, rfl⟩
  | step i t z hz => simp at hz
theorem AR.cell {zs : List (Nat × Array Value)} {w w' : World} {s s' : List (Option Nat)} (h : AR zs w s w' s') {a : Addr} {v : Value} (hv : w.cell? a = some v) : w'.cell? a = some v := by
  induction h with
  | refl w s => exact hv
  | step j u y hy hu _ ih => exact ih ((World.cell?_alloc_lt _ _ _ (World.block_lt_of_cell? _ _ hv)).trans hv)
theorem rdN_mono {w w' : World} (h : ∀ a v, w.cell? a = some v → w'.cell? a = some v) (a : Addr) : ∀ (n i : Nat) (vs : List Value), rdN w a n i = some vs → rdN w' a n i = some vs
  | 0, _, _, h' => h'
  | n + 1, i, vs, h' => by
    simp only [rdN] at h' ⊢
    split at h'
    · rename_i v vs' h1 h2
      rw [h _ _ h1, rdN_mono h a n (i + 1) vs' h2]
      exact h'
    · cases h'
theorem ldT_mono {w w' : World} (h : ∀ a v, w.cell? a = some v → w'.cell? a = some v) {a : Value} {k : Value → Prop} (hl : ldT a w k) : ldT a w' k := by
  unfold ldT at hl ⊢
  split at hl
  · split at hl
    · rename_i v hv; simp only [h _ _ hv]; exact hl
    · exact hl.elim
  · exact hl.elim
theorem ldsT_mono {w w' : World} (h : ∀ a v, w.cell? a = some v → w'.cell? a = some v) {n : Nat} {a : Value} {k : Value → Prop} (hl : ldsT n a w k) : ldsT n a w' k := by
  unfold ldsT at hl ⊢
  split at hl
  · split at hl
    · rename_i v hv; simp only [rdN_mono h _ _ _ _ hv]; exact hl
    · exact hl.elim
  · exact hl.elim
theorem ldqT_mono {w w' : World} (h : ∀ a v, w.cell? a = some v → w'.cell? a = some v) {p : Pend} (hl : ldqT Γ p w) : ldqT Γ p w' := by
  unfold ldqT at hl ⊢
  cases hg : (Γ.ti p.t).agg
  · rw [hg] at hl; simp only [cond_false] at hl ⊢; exact ldT_mono h hl
  · rw [hg] at hl; simp only [cond_true] at hl ⊢; exact ldsT_mono h hl
theorem YS_mono {ops : Array Oper} {i : Nat} {o : Oper} {v : Value} {e : Env} {pd pd' : List Pend} {w w' : World} (h : YS P Γ ops i o v e pd w) (hp : ∀ p ∈ pd, p ∈ pd') (hw : ∀ p ∈ pd, p.i = i → ldqT Γ p w → ldqT Γ p w') :
    YS P Γ ops i o v e pd' w' := by
  rcases h with h | ⟨p, h1, h2, h3, h4⟩
  · exact .inl h
  · exact .inr ⟨p, hp p h1, h2, hw p h1 h2 h3, h4⟩
structure Inv (P : Program) (Γ : Ctx) (ops : Array Oper) (T : List Nat) (fs : FL) (Fm N : Nat) (e0 : Env) (listed : Array Bool) (a : Act) (w : World)
    (L D : Nat) (pd : List Pend) (e : Env) (s : List (Option Nat)) (w0 : World) (s0 : List (Option Nat)) (vv : Nat → Value) : Prop where
  size : a.tmps.size = N
  defers : a.defers = []
  lsize : listed.size = ops.size
  lis : ∀ i, i < ops.size → listed.getD i true = L.testBit i
  Llt : ∀ i, L.testBit i = true → i < ops.size
  Lcl : ∀ i, L.testBit i = true → ∀ j, (T.getD i 0).testBit j = true → L.testBit j = true
  Dlt : ∀ i, D.testBit i = true → i < ops.size
  DF : ∀ i, D.testBit i = true → Fm.testBit i = false
  Dcl : ∀ i, D.testBit i = true → ∀ j, (T.getD i 0).testBit j = true → D.testBit j = true ∨ Fm.testBit j = true
  LD : ∀ i, L.testBit i = true → D.testBit i = true ∨ Fm.testBit i = true
  fr : ∀ (p j d t : Nat) (z : Array Value), fs[p]? = some (j, d, t, z) → (L.testBit j = false ∧ s[p]? = some none) ∨ (L.testBit j = true ∧ ∃ b, s[p]? = some (some b) ∧ vv j = .pointer (some ⟨b, 0, none⟩))
  A : ∀ t, envA a t = vt ops vv e0 L t
  E : ∀ t, (∀ (p j d ty : Nat) (z : Array Value), fs[p]? = some (j, d, ty, z) → d ≠ t) → e t = vt ops vv e0 D t
  Y : ∀ i, D.testBit i = true → L.testBit i = false → ∃ o, ops[i]? = some o ∧ (∀ j, (T.getD i 0).testBit j = true → Fm.testBit j = false) ∧ YS P Γ ops i o (vv i) (vt ops vv e0 (T.getD i 0)) pd w
  ar : AR (zsOf fs) w0 s0 w s
theorem nextEager_some {T : List Nat} {D Fm : Nat} : ∀ (l : List Oper) (k i : Nat) (o : Oper), nextEager Γ T D Fm k l = some (i, o) → ∃ j, i = k + j ∧ l[j]? = some o ∧ eagerAt Γ T D Fm i o = true
  | [], _, _, _, h => by simp [nextEager] at h
  | x :: l, k, i, o, h => by
    simp only [nextEager] at h
    cases hx : eagerAt Γ T D Fm k x
    · rw [hx] at h
      obtain ⟨j, rfl, h1, h2⟩ := nextEager_some l (k + 1) i o h
      exact ⟨j + 1, by omega, by simpa using h1, h2⟩
    · rw [hx] at h
      simp only [cond_true, Option.some.injEq, Prod.mk.injEq] at h
      obtain ⟨rfl, rfl⟩ := h
      exact ⟨0, by omega, by simp, hx⟩
theorem choices_mem {T : List Nat} {D Fm : Nat} : ∀ (l : List Oper) (k j : Nat) (o : Oper), l[j]? = some o → readyAt T D Fm (k + j) = true → (k + j, o) ∈ choices T D Fm k l
  | [], _, j, o, h, _ => by simp at h
  | x :: l, k, j, o, hj, hr => by
    cases j with
    | zero =>
      simp only [List.getElem?_cons_zero, Option.some.injEq] at hj
      subst hj
      have hr' : readyAt T D Fm k = true := hr
      simp [choices, hr']
    | succ j =>
      have := choices_mem l (k + 1) j o (by simpa using hj) (by rwa [Nat.add_assoc, Nat.add_comm 1 j])
      rw [Nat.add_assoc, Nat.add_comm 1 j] at this
      unfold choices
      cases readyAt T D Fm k
      · exact this
      · exact List.mem_cons_of_mem _ this
theorem conjL_mem : ∀ (l : List Prop), conjL l → ∀ p ∈ l, p
  | [], _, p, hp => by cases hp
  | [q], h, p, hp => by
    rw [List.mem_singleton.1 hp]; exact h
  | q :: r :: l, h, p, hp => by
    rcases List.mem_cons.1 hp with rfl | hp
    · exact h.1
    · exact conjL_mem (r :: l) h.2 p hp
theorem needs_spec {fs0 : FL} {m : Nat} {s : List (Option Nat)} {k : Env → Prop} : ∀ (r : FL) (n : Nat) (e : Env), needs fs0 m s n r e k →
    (∀ (p j d t : Nat) (z : Array Value), r[p]? = some (j, d, t, z) → m.testBit j = true → ∃ b, s[n + p]? = some (some b)) →
    (∀ (p q j d t j' t' : Nat) (z z' : Array Value), r[p]? = some (j, d, t, z) → r[q]? = some (j', d, t', z') → p = q) →
    ∃ e', k e' ∧ (∀ t, (∀ (p j d ty : Nat) (z : Array Value), r[p]? = some (j, d, ty, z) → d ≠ t) → e' t = e t) ∧
      (∀ (p j d t b : Nat) (z : Array Value), r[p]? = some (j, d, t, z) → m.testBit j = true → s[n + p]? = some (some b) → e' d = .pointer (some ⟨b, 0, none⟩))
  | [], n, e, h, _, _ => ⟨e, h, fun _ _ => rfl, fun p j d t b z hp => by simp at hp⟩
  | (j, d, t, z) :: r, n, e, h, hs, hd => by
    have hs' : ∀ (p j d t : Nat) (z : Array Value), r[p]? = some (j, d, t, z) → m.testBit j = true → ∃ b, s[n + 1 + p]? = some (some b) := fun p j d t z hp hm => by
      have := hs (p + 1) j d t z (by simpa using hp) hm
      rwa [Nat.add_assoc, Nat.add_comm 1 p]
    have hd' : ∀ (p q j d t j' t' : Nat) (z z' : Array Value), r[p]? = some (j, d, t, z) → r[q]? = some (j', d, t', z') → p = q := fun p q j d t j' t' z z' hp hq => by
      have := hd (p + 1) (q + 1) j d t j' t' z z' (by simpa using hp) (by simpa using hq)
      omega
    simp only [needs] at h
    cases hm : m.testBit j
    · rw [hm] at h
      obtain ⟨e', h1, h2, h3⟩ := needs_spec r (n + 1) e h hs' hd'
      refine ⟨e', h1, fun u hu => h2 u (fun p j d ty z hp => hu (p + 1) j d ty z (by simpa using hp)), fun p j' d' t' b z' hp hm' hb => ?_⟩
      cases p with
      | zero =>
        simp only [List.getElem?_cons_zero, Option.some.injEq, Prod.mk.injEq] at hp
        obtain ⟨rfl, _⟩ := hp
        rw [hm] at hm'; cases hm'
      | succ p => exact h3 p j' d' t' b z' (by simpa using hp) hm' (by rw [Nat.add_assoc, Nat.add_comm 1 p]; exact hb)
    · rw [hm] at h
      simp only [cond_true] at h
      obtain ⟨b, hb⟩ := hs 0 j d t z rfl hm
      have h' := h b (by simpa using hb)
      obtain ⟨e', h1, h2, h3⟩ := needs_spec r (n + 1) _ h' hs' hd'
      refine ⟨e', h1, fun u hu => ?_, fun p j' d' t' b' z' hp hm' hb' => ?_⟩
      · rw [h2 u (fun p j d ty z hp => hu (p + 1) j d ty z (by simpa using hp))]
        have hne : d ≠ u := hu 0 j d t z rfl
        have : Nat.beq u d = false := by
          cases h' : Nat.beq u d
          · rfl
          · exact absurd (Nat.eq_of_beq_eq_true h').symm hne
        simp [upd, this]
      · cases p with
        | zero =>
          simp only [List.getElem?_cons_zero, Option.some.injEq, Prod.mk.injEq] at hp
          obtain ⟨rfl, rfl, rfl, rfl⟩ := hp
          have hbb : b' = b := by
            have := hb'.symm.trans (by simpa using hb)
            simpa using this
          subst hbb
          rw [h2 d (fun p j2 d2 ty z2 hp2 => fun e2 => by
            subst e2
            have := hd 0 (p + 1) j d2 t j2 ty z z2 rfl (by simpa using hp2)
            omega)]
          simp [upd]
        | succ p => exact h3 p j' d' t' b' z' (by simpa using hp) hm' (by rw [Nat.add_assoc, Nat.add_comm 1 p]; exact hb')
theorem stabT_spec {m : Nat} {w : World} {k : Prop} : ∀ (pd : List Pend), stabT Γ m w pd k → k ∧ ∀ p ∈ pd, m.testBit p.i = false → ldqT Γ p w
  | [], h => ⟨h, fun p hp => by cases hp⟩
  | p :: ps, h => by
    simp only [stabT] at h
    cases hm : Nat.testBit m p.i
    · rw [hm] at h
      simp only [cond_false] at h
      obtain ⟨h1, h2⟩ := stabT_spec ps h.2
      refine ⟨h1, fun q hq hqm => ?_⟩
      rcases List.mem_cons.1 hq with rfl | hq
      · exact h.1
      · exact h2 q hq hqm
    · rw [hm] at h
      simp only [cond_true] at h
      obtain ⟨h1, h2⟩ := stabT_spec ps h
      refine ⟨h1, fun q hq hqm => ?_⟩
      rcases List.mem_cons.1 hq with rfl | hq
      · rw [hm] at hqm; cases hqm
      · exact h2 q hq hqm
section main
variable {ops : Array Oper} {T : List Nat} {fs : FL} {Fm N : Nat} {e0 : Env} {k : Env → World → Prop}
theorem look_at (S : Stat Γ ops T fs Fm) {vv : Nat → Value} {i : Nat} {o : Oper} (ho : ops[i]? = some o) {m t : Nat} (hm : ∀ (j : Nat) (oj : Oper), ops[j]? = some oj → oj.dst = some t → (T.getD i 0).testBit j = true → m.testBit j = true) (hi : m.testBit i = false)
    (hcl : ∀ j, m.testBit j = true → (T.getD j 0).testBit i = false) (ht : t ∈ o.looksAt ops) : vt ops vv e0 m t = vt ops vv e0 (T.getD i 0) t := by
  by_cases hw : ∃ (j : Nat) (oj : Oper), ops[j]? = some oj ∧ oj.dst = some t
  · obtain ⟨j, oj, hj, hd⟩ := hw
    have huniq : ∀ (j' : Nat) (oj' : Oper), ops[j']? = some oj' → oj'.dst = some t → j' = j := fun j' oj' h1 h2 => S.distinct _ _ _ _ _ h1 hj h2 hd
    rcases S.look i o ho t ht j oj hj hd with rfl | h | h
    · rw [vt_out (fun j' oj' h1 h2 => by rw [huniq j' oj' h1 h2]; exact hi), vt_out (fun j' oj' h1 h2 => by
        rw [huniq j' oj' h1 h2]
        cases hb : (T.getD j 0).testBit j
        · rfl
        · exact absurd (S.lt _ _ hj _ hb) (by omega))]
    · rw [vt_in S hj hd (hm j oj hj hd h), vt_in S hj hd h]
    · have h1 : m.testBit j = false := by
        cases hb : m.testBit j
        · rfl
        · rw [hcl j hb] at h; cases h
      have h2 : (T.getD i 0).testBit j = false := by
        cases hb : (T.getD i 0).testBit j
        · rfl
        · have a1 := S.lt _ _ ho _ hb
          have a2 := S.lt _ _ hj _ h
          omega
      rw [vt_out (fun j' oj' q1 q2 => by rw [huniq j' oj' q1 q2]; exact h1), vt_out (fun j' oj' q1 q2 => by rw [huniq j' oj' q1 q2]; exact h2)]
  · rw [vt_out (fun j oj h1 h2 => absurd ⟨j, oj, h1, h2⟩ hw), vt_out (fun j oj h1 h2 => absurd ⟨j, oj, h1, h2⟩ hw)]
theorem readyAt_spec {D i : Nat} (h : readyAt T D Fm i = true) : D.testBit i = false ∧ Fm.testBit i = false ∧ ∀ j, (T.getD i 0).testBit j = true → D.testBit j = true ∨ Fm.testBit j = true := by
  simp only [readyAt, Bool.and_eq_true, Bool.not_eq_true'] at h
  refine ⟨h.1.1, h.1.2, fun j hj => ?_⟩
  have := tb_sub (b := Nat.lor D Fm) h.2 hj
  rw [tb_or] at this
  simpa using this
def updv (vv : Nat → Value) (i : Nat) (v : Value) : Nat → Value := fun j => if j = i then v else vv j
theorem updv_ne {vv : Nat → Value} {i j : Nat} {v : Value} (h : j ≠ i) : updv vv i v j = vv j := by simp [updv, h]
theorem updv_same {vv : Nat → Value} {i : Nat} {v : Value} : updv vv i v i = v := by simp [updv]
theorem vt_updv {vv : Nat → Value} {i m t : Nat} {v : Value} (h : m.testBit i = false) : vt ops (updv vv i v) e0 m t = vt ops vv e0 m t :=
  vt_congr fun j oj _ _ hj => updv_ne (fun e => by subst e; rw [h] at hj; cases hj)
theorem vt_put (S : Stat Γ ops T fs Fm) {vv : Nat → Value} {i : Nat} {o : Oper} {v : Value} {m : Nat} {e : Env} {t : Nat} (ho : ops[i]? = some o) (hi : m.testBit i = false) (h : e t = vt ops vv e0 m t) :
    putE e o.dst v t = vt ops (updv vv i v) e0 (Nat.lor m (Nat.shiftLeft 1 i)) t := by
  by_cases hd : o.dst = some t
  · rw [vt_in S ho hd (by rw [tb_set]; simp), updv_same, hd]
    simp [putE, upd]
  · have h1 : putE e o.dst v t = e t := by
      cases hdd : o.dst with
      | none => rfl
      | some d =>
        have : Nat.beq t d = false := by
          cases h' : Nat.beq t d
          · rfl
          · exact absurd (by rw [hdd, Nat.eq_of_beq_eq_true h'] : o.dst = some t) hd
        simp [putE, upd, this]
    rw [h1, h]
    by_cases hw : ∃ (j : Nat) (oj : Oper), ops[j]? = some oj ∧ oj.dst = some t ∧ m.testBit j = true
    · obtain ⟨j, oj, hj, hdj, hm⟩ := hw
      have hne : j ≠ i := fun e => by subst e; rw [hi] at hm; cases hm
      rw [vt_in S hj hdj hm, vt_in S hj hdj (by rw [tb_set, hm]; rfl), updv_ne hne]
    · have hout : ∀ (j : Nat) (oj : Oper), ops[j]? = some oj → oj.dst = some t → m.testBit j = false := fun j oj h1 h2 => by
        cases hb : m.testBit j
        · rfl
        · exact absurd ⟨j, oj, h1, h2, hb⟩ hw
      rw [vt_out hout, vt_out (fun j oj q1 q2 => by
        rw [tb_set, hout j oj q1 q2]
        have : j ≠ i := fun e => by subst e; rw [ho] at q1; cases q1; exact hd q2
        simp [this])]
variable {listed : Array Bool} {a : Act} {w : World}
theorem advance (hΓ : CtxOk P Γ) (S : Stat Γ ops T fs Fm) : ∀ (n : Nat) (L D : Nat) (pd : List Pend) (e : Env) (s : List (Option Nat)) (w0 : World) (s0 : List (Option Nat)) (vv : Nat → Value),
    Inv P Γ ops T fs Fm N e0 listed a w L D pd e s w0 s0 vv → trDraw P Γ ops.toList T fs Fm n D pd e w0 s0 k →
    ∃ n' D' pd' e' vv', Inv P Γ ops T fs Fm N e0 listed a w L D' pd' e' s w0 s0 vv' ∧ nextEager Γ T D' Fm 0 ops.toList = none ∧ trDraw P Γ ops.toList T fs Fm (n' + 1) D' pd' e' w0 s0 k := by
  intro n
  induction n with
  | zero => intro L D pd e s w0 s0 vv _ h; exact h.elim
  | succ n ih =>
    intro L D pd e s w0 s0 vv I h
    cases hne : nextEager Γ T D Fm 0 ops.toList with
    | none => exact ⟨n, D, pd, e, vv, I, hne, h⟩
    | some x =>
      obtain ⟨i, o⟩ := x
      simp only [trDraw, hne] at h
      obtain ⟨j, rfl, hj, hea⟩ := nextEager_some _ _ _ _ hne
      rw [Nat.zero_add] at h hea
      have ho : ops[j]? = some o := by simpa using hj
      simp only [eagerAt, Bool.and_eq_true] at hea
      obtain ⟨⟨hie, hrd⟩, hnf⟩ := hea
      obtain ⟨hD, hF, hT⟩ := readyAt_spec hrd
      have hTF : ∀ x, (T.getD j 0).testBit x = true → Fm.testBit x = false := fun x hx => tb_land0 hnf hx
      have hTD : ∀ x, (T.getD j 0).testBit x = true → D.testBit x = true := fun x hx => (hT x hx).resolve_right (by rw [hTF x hx]; simp)
      have hL : L.testBit j = false := by
        cases hb : L.testBit j
        · rfl
        · rcases I.LD j hb with h | h
          · rw [hD] at h; cases h
          · rw [hF] at h; cases h
      have hcl : ∀ x, D.testBit x = true → (T.getD x 0).testBit j = false := fun x hx => by
        cases hb : (T.getD x 0).testBit j
        · rfl
        · rcases I.Dcl x hx j hb with h | h
          · rw [hD] at h; cases h
          · rw [hF] at h; cases h
      have hjlt : j < ops.size := (Array.getElem?_eq_some_iff.1 ho).1
      have hev : ∀ t ∈ o.looksAt ops, e t = vt ops vv e0 (T.getD j 0) t := fun t ht => by
        rw [← look_at S ho (fun j _ _ _ h => hTD j h) hD hcl ht]
        refine I.E t (fun p j' d ty z hp e => ?_)
        subst e
        obtain ⟨hm, o', h1, _, h3, _, h5, _⟩ := S.free p j' d ty z hp
        rcases S.look j o ho d ht j' o' h1 h3 with rfl | h | h
        · rw [hF] at hm; cases hm
        · rw [hTF _ h] at hm; cases hm
        · rw [h5] at h; simp at h
      obtain ⟨v, pd', hk, hpd, hys⟩ := one_eager (pd := pd) (K := fun pd' v w' => trDraw P Γ ops.toList T fs Fm n (Nat.lor D (Nat.shiftLeft 1 j)) pd' (putE e o.dst v) w' s0 k) hΓ hie h
        (fun v w' h => h) (fun h => h)
      have hys' : YS P Γ ops j o v (vt ops vv e0 (T.getD j 0)) pd' w := by
        have : YS P Γ ops j o v (vt ops vv e0 (T.getD j 0)) pd' w0 := by
          have hag : ∀ a, Agrees ops o (vt ops vv e0 (T.getD j 0)) a → Agrees ops o e a := fun a ha t ht => (ha t ht).trans (hev t ht).symm
          rcases hys with h | ⟨p, h1, h2, h3, h4⟩
          · exact .inl fun a w' ha => h a w' (hag a ha)
          · exact .inr ⟨p, h1, h2, h3, fun a w' ha => h4 a w' (hag a ha)⟩
        exact YS_mono this (fun p h => h) (fun p _ _ h => ldqT_mono (fun a v hv => I.ar.cell hv) h)
      refine ih L (Nat.lor D (Nat.shiftLeft 1 j)) pd' (putE e o.dst v) s w0 s0 (updv vv j v) ?_ hk
      have hset : ∀ x, (Nat.lor D (Nat.shiftLeft 1 j)).testBit x = true ↔ D.testBit x = true ∨ x = j := fun x => by rw [tb_set]; simp
      refine ⟨I.size, I.defers, I.lsize, I.lis, I.Llt, I.Lcl, ?_, ?_, ?_, ?_, ?_, ?_, ?_, ?_, I.ar⟩
      · intro x hx
        rcases (hset x).1 hx with h | rfl
        · exact I.Dlt x h
        · exact hjlt
      · intro x hx
        rcases (hset x).1 hx with h | rfl
        · exact I.DF x h
        · exact hF
      · intro x hx y hy
        rcases (hset x).1 hx with h | rfl
        · exact (I.Dcl x h y hy).imp (fun h => (hset y).2 (.inl h)) id
        · exact .inl ((hset y).2 (.inl (hTD y hy)))
      · intro x hx
        exact (I.LD x hx).imp (fun h => (hset x).2 (.inl h)) id
      · intro p j' d t z hp
        have hne' : j' ≠ j := fun e => by subst e; have := (S.free p j' d t z hp).1; rw [hF] at this; cases this
        rw [updv_ne hne']
        exact I.fr p j' d t z hp
      · intro t
        rw [vt_updv hL]
        exact I.A t
      · intro t ht
        exact vt_put S ho hD (I.E t ht)
      · intro x hx hxl
        by_cases hxj : x = j
        · subst hxj
          refine ⟨o, ho, hTF, ?_⟩
          rw [updv_same]
          have hTj : (T.getD x 0).testBit x = false := by
            cases hb : (T.getD x 0).testBit x
            · rfl
            · exact absurd (S.lt _ _ ho _ hb) (by omega)
          rw [show vt ops (updv vv x v) e0 (T.getD x 0) = vt ops vv e0 (T.getD x 0) from funext fun t => vt_updv hTj]
          exact hys'
        · have hxD : D.testBit x = true := ((hset x).1 hx).resolve_right hxj
          obtain ⟨o', h1, h2, h3⟩ := I.Y x hxD hxl
          refine ⟨o', h1, h2, ?_⟩
          rw [updv_ne hxj, show vt ops (updv vv j v) e0 (T.getD x 0) = vt ops vv e0 (T.getD x 0) from funext fun t => vt_updv (hcl x hxD)]
          exact YS_mono h3 hpd (fun p _ _ h => h)
theorem arT_spec {zs : List (Nat × Array Value)} {w w' : World} {s s' : List (Option Nat)} {K : World → List (Option Nat) → Prop} (h : arT zs w s K) (har : AR zs w s w' s') : K w' s' := by
  unfold arT at h
  split at h
  · obtain ⟨rfl, rfl⟩ := har.nil
    exact h
  · exact h _ _ har
def Goes (P : Program) (Γ : Ctx) (ops : Array Oper) (T : List Nat) (fs : FL) (Fm N : Nat) (e0 : Env) (k : Env → World → Prop) (L i : Nat) (listed : Array Bool) (a' : Act) (w' : World) : Prop :=
  ∃ (n D : Nat) (pd : List Pend) (e : Env) (s : List (Option Nat)) (w0 : World) (s0 : List (Option Nat)) (vv : Nat → Value),
    Inv P Γ ops T fs Fm N e0 (listed.setIfInBounds i true) a' w' (Nat.lor L (Nat.shiftLeft 1 i)) D pd e s w0 s0 vv ∧ trDraw P Γ ops.toList T fs Fm n D pd e w0 s0 k
theorem lis_set {L i : Nat} (hs : listed.size = ops.size) (hi : i < ops.size) (h : ∀ i, i < ops.size → listed.getD i true = L.testBit i) :
    ∀ j, j < ops.size → (listed.setIfInBounds i true).getD j true = (Nat.lor L (Nat.shiftLeft 1 i)).testBit j := by
  intro j hj
  rw [tb_set]
  by_cases e : j = i
  · subst e
    simp [hs, hj]
  · rw [getD_set_ne true (fun h => e h.symm), h j hj]
    simp [e]
theorem ready_bits {L D : Nat} {pd : List Pend} {e : Env} {s : List (Option Nat)} {w0 : World} {s0 : List (Option Nat)} {vv : Nat → Value} (S : Stat Γ ops T fs Fm)
    (I : Inv P Γ ops T fs Fm N e0 listed a w L D pd e s w0 s0 vv) {i : Nat} {o : Oper} (ho : ops[i]? = some o) (hall : ∀ e ∈ o.after, Region.binds .any e = true → listed.getD e.on false = true) :
    ∀ j, (T.getD i 0).testBit j = true → L.testBit j = true := by
  intro j hj
  obtain ⟨ed, he, hb, h⟩ := S.via i o ho j hj
  have hl := hall ed he hb
  have hlt : ed.on < ops.size := by
    rcases Nat.lt_or_ge ed.on listed.size with h | h
    · rw [← I.lsize]; exact h
    · simp [Array.getElem?_eq_none h] at hl
  have hL : L.testBit ed.on = true := by
    rw [← I.lis _ hlt]
    have : ed.on < listed.size := by rw [I.lsize]; exact hlt
    simp [this] at hl ⊢
    exact hl
  rcases h with rfl | h
  · exact hL
  · exact I.Lcl _ hL _ h
theorem step_any (hΓ : CtxOk P Γ) (S : Stat Γ ops T fs Fm) (hN : dstOk N ops.toList = true) {Q : Exit → Act → World → Prop}
    {n L D : Nat} {pd : List Pend} {e : Env} {s : List (Option Nat)} {w0 : World} {s0 : List (Option Nat)} {vv : Nat → Value}
    (I : Inv P Γ ops T fs Fm N e0 listed a w L D pd e s w0 s0 vv) (hne : nextEager Γ T D Fm 0 ops.toList = none) (h : trDraw P Γ ops.toList T fs Fm (n + 1) D pd e w0 s0 k)
    {K : Act → World → Prop} {i : Nat} (hi : i ∈ Region.ready .any ops listed) (hK : ∀ a' w', Goes P Γ ops T fs Fm N e0 k L i listed a' w' → K a' w') : wpOp P ops Q i K a w := by
  obtain ⟨hun, o, ho, hall⟩ := mem_ready.1 hi
  have hilt : i < ops.size := (Array.getElem?_eq_some_iff.1 ho).1
  have hL : L.testBit i = false := by rw [← I.lis i hilt]; exact hun
  have hTL := ready_bits S I ho hall
  have hmem : o ∈ ops.toList := by simpa using Array.mem_of_getElem? ho
  have hput : ∀ v, envA (a.put o.dst v) = putE (envA a) o.dst v := fun v => envA_put a o.dst v (fun x hx => by rw [I.size]; exact dstOk_spec hN hmem hx)
  have hclL : ∀ j, L.testBit j = true → (T.getD j 0).testBit i = false := fun j hj => by
    cases hb : (T.getD j 0).testBit i
    · rfl
    · rw [I.Lcl j hj i hb] at hL; cases hL
  have hlook : ∀ t ∈ o.looksAt ops, envA a t = vt ops vv e0 (T.getD i 0) t := fun t ht => by
    rw [I.A t]
    exact look_at S ho (fun j _ _ _ hb => hTL j hb) hL hclL ht
  have hset : ∀ x, (Nat.lor L (Nat.shiftLeft 1 i)).testBit x = true ↔ L.testBit x = true ∨ x = i := fun x => by rw [tb_set]; simp
  have hsetf : ∀ x, (Nat.lor L (Nat.shiftLeft 1 i)).testBit x = false → L.testBit x = false ∧ x ≠ i := fun x hx => by
    rw [tb_set] at hx; simpa using hx
  have hLlt : ∀ x, (Nat.lor L (Nat.shiftLeft 1 i)).testBit x = true → x < ops.size := fun x hx => by
    rcases (hset x).1 hx with h | rfl
    · exact I.Llt x h
    · exact hilt
  have hLcl : ∀ x, (Nat.lor L (Nat.shiftLeft 1 i)).testBit x = true → ∀ j, (T.getD x 0).testBit j = true → (Nat.lor L (Nat.shiftLeft 1 i)).testBit j = true := fun x hx j hj => by
    rcases (hset x).1 hx with h | rfl
    · exact (hset j).2 (.inl (I.Lcl x h j hj))
    · exact (hset j).2 (.inl (hTL j hj))
  have hlsize : (listed.setIfInBounds i true).size = ops.size := by simp [I.lsize]
  have hlis := lis_set I.lsize hilt I.lis
  unfold wpOp
  rw [ho]
  simp only
  cases hDi : D.testBit i
  · cases hFi : Fm.testBit i
    · -- an operation of its own
      have hready : readyAt T D Fm i = true := by
        simp only [readyAt, hDi, hFi, Bool.not_false, Bool.true_and]
        refine sub_tb (fun j hj => ?_)
        rw [tb_or]
        have := I.LD j (hTL j hj)
        simpa using this
      have hcm := choices_mem (T := T) (D := D) (Fm := Fm) ops.toList 0 i o (by simpa using ho) (by rw [Nat.zero_add]; exact hready)
      rw [Nat.zero_add] at hcm
      simp only [trDraw, hne] at h
      have h' := arT_spec h I.ar
      have hneed : needs fs (T.getD i 0) s 0 fs e (fun e => trOne P Γ ops.toList i o e w (fun v w' => stabT Γ (T.getD i 0) w' pd (trDraw P Γ ops.toList T fs Fm n (Nat.lor D (Nat.shiftLeft 1 i)) pd (putE e o.dst v) w' s k))
            (trDraw P Γ ops.toList T fs Fm n (Nat.lor D (Nat.shiftLeft 1 i)) pd (putE e o.dst undef) w s k)) := by
        split at h'
        · rename_i hc; rw [hc] at hcm; cases hcm
        · exact conjL_mem _ h' _ (List.mem_map.2 ⟨(i, o), hcm, rfl⟩)
      obtain ⟨e', h1, h2, h3⟩ := needs_spec fs 0 e hneed
        (fun p j d t z hp hb => by
          rw [Nat.zero_add]
          rcases I.fr p j d t z hp with ⟨h, _⟩ | ⟨_, b, h, _⟩
          · rw [hTL j hb] at h; cases h
          · exact ⟨b, h⟩)
        (fun p q j d t j' t' z z' hp hq => by
          obtain ⟨_, o1, g1, _, g3, _⟩ := S.free _ _ _ _ _ hp
          obtain ⟨_, o2, g1', _, g3', _⟩ := S.free _ _ _ _ _ hq
          have := S.distinct _ _ _ _ _ g1 g1' g3 g3'
          subst this
          exact S.inj _ _ _ _ _ _ _ _ _ hp hq)
      have hD' : ∀ j, D.testBit j = true → (T.getD j 0).testBit i = false := fun j hj => by
        cases hb : (T.getD j 0).testBit i
        · rfl
        · rcases I.Dcl j hj i hb with h | h
          · rw [hDi] at h; cases h
          · rw [hFi] at h; cases h
      have hnF : ∀ t, (∀ (p j d ty : Nat) (z : Array Value), fs[p]? = some (j, d, ty, z) → d ≠ t) → e' t = vt ops vv e0 D t := fun t ht => (h2 t ht).trans (I.E t ht)
      have hag : ∀ t ∈ o.looksAt ops, e' t = envA a t := fun t ht => by
        by_cases hft : ∃ (p j d ty : Nat) (z : Array Value), fs[p]? = some (j, d, ty, z) ∧ d = t
        · obtain ⟨p, j, d, ty, z, hp, rfl⟩ := hft
          obtain ⟨hm, o', g1, _, g3, _, g5, _⟩ := S.free _ _ _ _ _ hp
          rcases S.look i o ho d ht j o' g1 g3 with rfl | hb | hb
          · rw [hFi] at hm; cases hm
          · rcases I.fr p j d ty z hp with ⟨hh, _⟩ | ⟨hh, b, hs1, hv⟩
            · rw [hTL j hb] at hh; cases hh
            · rw [h3 p j d ty b z hp hb (by rw [Nat.zero_add]; exact hs1), I.A d, vt_in S g1 g3 hh, hv]
          · rw [g5] at hb; simp at hb
        · have hft' : ∀ (p j d ty : Nat) (z : Array Value), fs[p]? = some (j, d, ty, z) → d ≠ t := fun p j d ty z hp e => hft ⟨p, j, d, ty, z, hp, e⟩
          rw [hnF t hft', hlook t ht]
          refine look_at S ho (fun j oj g1 g2 hb => ?_) hDi hD' ht
          refine (I.LD j (hTL j hb)).resolve_right (fun hF => ?_)
          obtain ⟨p, d, ty, z, hp⟩ := S.mask j hF
          obtain ⟨_, o', q1, _, q3, _⟩ := S.free _ _ _ _ _ hp
          rw [g1] at q1; cases q1
          rw [g2] at q3; cases q3
          exact hft' _ _ _ _ _ hp rfl
      have hset' : ∀ x, (Nat.lor D (Nat.shiftLeft 1 i)).testBit x = true ↔ D.testBit x = true ∨ x = i := fun x => by rw [tb_set]; simp
      have fin : ∀ v w', trDraw P Γ ops.toList T fs Fm n (Nat.lor D (Nat.shiftLeft 1 i)) pd (putE e' o.dst v) w' s k → (∀ p ∈ pd, (T.getD i 0).testBit p.i = false → ldqT Γ p w → ldqT Γ p w') → K (a.put o.dst v) w' := by
        intro v w' htr hst
        refine hK _ _ ⟨n, _, pd, _, s, w', s, updv vv i v, ?_, htr⟩
        refine ⟨by rw [size_put]; exact I.size, by rw [defers_put]; exact I.defers, hlsize, hlis, hLlt, hLcl, ?_, ?_, ?_, ?_, ?_, ?_, ?_, ?_, AR.refl _ _⟩
        · intro x hx
          rcases (hset' x).1 hx with h | rfl
          · exact I.Dlt x h
          · exact hilt
        · intro x hx
          rcases (hset' x).1 hx with h | rfl
          · exact I.DF x h
          · exact hFi
        · intro x hx y hy
          rcases (hset' x).1 hx with h | rfl
          · exact (I.Dcl x h y hy).imp (fun h => (hset' y).2 (.inl h)) id
          · exact (I.LD y (hTL y hy)).imp (fun h => (hset' y).2 (.inl h)) id
        · intro x hx
          rcases (hset x).1 hx with h | rfl
          · exact (I.LD x h).imp (fun h => (hset' x).2 (.inl h)) id
          · exact .inl ((hset' x).2 (.inr rfl))
        · intro p j d t z hp
          have hne' : j ≠ i := fun e => by subst e; have := (S.free _ _ _ _ _ hp).1; rw [hFi] at this; cases this
          rw [updv_ne hne']
          rcases I.fr p j d t z hp with ⟨h1, h2⟩ | ⟨h1, h2⟩
          · refine .inl ⟨?_, h2⟩
            rw [tb_set, h1]; simp [hne']
          · exact .inr ⟨(hset j).2 (.inl h1), h2⟩
        · intro t
          rw [hput]
          exact vt_put S ho hL (I.A t)
        · intro t ht
          exact vt_put S ho hDi (hnF t ht)
        · intro x hx hxl
          obtain ⟨hxL, hxi⟩ := hsetf x hxl
          have hxD : D.testBit x = true := ((hset' x).1 hx).resolve_right hxi
          obtain ⟨o', g1, g2, g3⟩ := I.Y x hxD hxL
          refine ⟨o', g1, g2, ?_⟩
          rw [updv_ne hxi, show vt ops (updv vv i v) e0 (T.getD x 0) = vt ops vv e0 (T.getD x 0) from funext fun t => vt_updv (hD' x hxD)]
          refine YS_mono g3 (fun p h => h) (fun p hp hpi => hst p hp ?_)
          rw [hpi]
          cases hb : (T.getD i 0).testBit x
          · rfl
          · rw [hTL x hb] at hxL; cases hxL
      rw [trOne_congr hag] at h1
      have := one_wp (ops := ops) (Q := Q) (next := K) hΓ h1
        (fun v w' hv => by
          obtain ⟨q1, q2⟩ := stabT_spec _ hv
          exact fin v w' q1 (fun p hp hpi _ => q2 p hp hpi))
        (fun hv => fin undef w hv (fun p _ _ h => h))
      rcases this with ⟨hw, this⟩ | ⟨hw, this⟩
      · rw [if_pos hw]; exact .inl this
      · rw [if_neg (by simp [hw])]; exact this
    · -- a free allocation
      obtain ⟨p, d, ty, z, hp⟩ := S.mask i hFi
      obtain ⟨_, o', g1, g2, g3, g4, g5, g6⟩ := S.free _ _ _ _ _ hp
      rw [ho] at g1; cases g1
      have hsp : s[p]? = some none := by
        rcases I.fr p i d ty z hp with ⟨_, h⟩ | ⟨h, _⟩
        · exact h
        · rw [hL] at h; cases h
      have hw : Region.wanted o (yielded ops a.tmps) = true := by simp [Region.wanted, g4]
      rw [if_pos hw]
      refine .inl (op_wp (k := fun v w' => v = .pointer (some ⟨w.heap.size, 0, none⟩) ∧ w' = w.alloc (.cells z ty)) hΓ ?_ ?_)
      · unfold trOp
        rw [g2]
        dsimp only
        rw [g6]
        exact ⟨rfl, rfl⟩
      · rintro v w' ⟨rfl, rfl⟩
        have hzs : (zsOf fs)[p]? = some (ty, z) := by simp [zsOf, hp]
        refine hK _ _ ⟨n + 1, D, pd, e, s.set p (some w.heap.size), w0, s0, updv vv i (.pointer (some ⟨w.heap.size, 0, none⟩)), ?_, h⟩
        refine ⟨by rw [size_put]; exact I.size, by rw [defers_put]; exact I.defers, hlsize, hlis, hLlt, hLcl, I.Dlt, I.DF, I.Dcl, ?_, ?_, ?_, ?_, ?_, I.ar.snoc hzs hsp⟩
        · intro x hx
          rcases (hset x).1 hx with h | rfl
          · exact I.LD x h
          · exact .inr hFi
        · intro q j d' t' z' hq
          by_cases hqp : q = p
          · subst hqp
            rw [hp] at hq
            cases hq
            refine .inr ⟨(hset i).2 (.inr rfl), w.heap.size, ?_, updv_same⟩
            have : q < s.length := (List.getElem?_eq_some_iff.1 hsp).1
            simp [this]
          · have hne' : j ≠ i := fun e => by subst e; exact hqp (S.inj _ _ _ _ _ _ _ _ _ hq hp)
            rw [updv_ne hne', List.getElem?_set_ne (fun e => hqp e.symm)]
            rcases I.fr q j d' t' z' hq with ⟨h1, h2⟩ | ⟨h1, h2⟩
            · refine .inl ⟨?_, h2⟩
              rw [tb_set, h1]; simp [hne']
            · exact .inr ⟨(hset j).2 (.inl h1), h2⟩
        · intro t
          rw [hput]
          exact vt_put S ho hL (I.A t)
        · intro t ht
          rw [vt_updv hDi]
          exact I.E t ht
        · intro x hx hxl
          obtain ⟨hxL, hxi⟩ := hsetf x hxl
          obtain ⟨o', g1, g2, g3⟩ := I.Y x hx hxL
          refine ⟨o', g1, g2, ?_⟩
          have hTx : (T.getD x 0).testBit i = false := by
            cases hb : (T.getD x 0).testBit i
            · rfl
            · have := g2 i hb; rw [hFi] at this; cases this
          rw [updv_ne hxi, show vt ops (updv vv i (.pointer (some ⟨w.heap.size, 0, none⟩))) e0 (T.getD x 0) = vt ops vv e0 (T.getD x 0) from funext fun t => vt_updv hTx]
          exact YS_mono g3 (fun p h => h) (fun p _ _ h => ldqT_mono (fun a v hv => (World.cell?_alloc_lt _ _ _ (World.block_lt_of_cell? _ _ hv)).trans hv) h)
  · -- what was taken first
    obtain ⟨o', g1, g2, g3⟩ := I.Y i hDi hL
    rw [ho] at g1; cases g1
    have hyn : YN P ops o (vv i) a w := by
      rcases g3 with h | ⟨p, _, _, hq, h⟩
      · exact h a w hlook
      · exact h a w hlook hq
    have hgo : K (a.put o.dst (vv i)) w := by
      refine hK _ _ ⟨n + 1, D, pd, e, s, w0, s0, vv, ?_, h⟩
      have hvv : updv vv i (vv i) = vv := by
        funext x
        by_cases hx : x = i
        · subst hx; exact updv_same
        · exact updv_ne hx
      refine ⟨by rw [size_put]; exact I.size, by rw [defers_put]; exact I.defers, hlsize, hlis, hLlt, hLcl, I.Dlt, I.DF, I.Dcl, ?_, ?_, ?_, I.E, ?_, I.ar⟩
      · intro x hx
        rcases (hset x).1 hx with h | rfl
        · exact I.LD x h
        · exact .inl hDi
      · intro q j d' t' z' hq
        have hne' : j ≠ i := fun e => by subst e; have := (S.free _ _ _ _ _ hq).1; rw [I.DF _ hDi] at this; cases this
        rcases I.fr q j d' t' z' hq with ⟨h1, h2⟩ | ⟨h1, h2⟩
        · refine .inl ⟨?_, h2⟩
          rw [tb_set, h1]; simp [hne']
        · exact .inr ⟨(hset j).2 (.inl h1), h2⟩
      · intro t
        rw [hput]
        have := vt_put (v := vv i) S ho hL (I.A t)
        rwa [hvv] at this
      · intro x hx hxl
        obtain ⟨hxL, hxi⟩ := hsetf x hxl
        exact I.Y x hx hxL
    rcases hyn with ⟨hw, hr⟩ | ⟨hw, hr⟩
    · rw [if_pos hw]
      refine .inl ?_
      unfold Oper.wp
      rw [hr]
      exact hgo
    · rw [if_neg (by simp [hw]), ← hr]
      exact hgo
theorem end_any (S : Stat Γ ops T fs Fm) {Q : Exit → Act → World → Prop} (hQ : ∀ a w, k (envA a) w → a.tmps.size = N → a.defers = [] → Q .normal a w)
    {n L D : Nat} {pd : List Pend} {e : Env} {s : List (Option Nat)} {w0 : World} {s0 : List (Option Nat)} {vv : Nat → Value}
    (I : Inv P Γ ops T fs Fm N e0 listed a w L D pd e s w0 s0 vv) (hne : nextEager Γ T D Fm 0 ops.toList = none) (h : trDraw P Γ ops.toList T fs Fm (n + 1) D pd e w0 s0 k)
    (hr : Region.ready .any ops listed = []) : Q .normal a w := by
  have hall : ∀ i, i < ops.size → L.testBit i = true := by
    intro i
    induction i using Nat.strongRecOn with
    | _ i ih =>
      intro hi
      cases hL : L.testBit i
      · exfalso
        have ho : ops[i]? = some ops[i] := by simp [hi]
        have : i ∈ Region.ready .any ops listed := by
          refine mem_ready.2 ⟨by rw [I.lis i hi]; exact hL, ops[i], ho, fun ed he hb => ?_⟩
          have hlt := S.lt _ _ ho _ (S.direct _ _ ho ed he hb)
          have h1 := ih ed.on hlt (by omega)
          have h2 := I.lis ed.on (by omega)
          rw [h1] at h2
          have h3 : ed.on < listed.size := by rw [I.lsize]; omega
          simp [h3] at h2 ⊢
          exact h2
        rw [hr] at this
        cases this
      · rfl
  simp only [trDraw, hne] at h
  have h' := arT_spec h I.ar
  have hno : choices T D Fm 0 ops.toList = [] := by
    have : ∀ (l : List Oper) (q : Nat), (∀ j, j < l.length → L.testBit (q + j) = true) → choices T D Fm q l = [] := by
      intro l
      induction l with
      | nil => intro q _; rfl
      | cons x l ih =>
        intro q hq
        have h0 : L.testBit q = true := hq 0 (by simp)
        have hrd : readyAt T D Fm q = false := by
          unfold readyAt
          rcases I.LD q h0 with h | h <;> simp [h]
        simp only [choices, hrd, cond_false]
        exact ih (q + 1) (fun j hj => by have := hq (j + 1) (by simpa using hj); rwa [Nat.add_assoc, Nat.add_comm 1 j])
    exact this _ _ (fun j hj => by rw [Nat.zero_add]; exact hall j (by simpa using hj))
  rw [hno] at h'
  simp only at h'
  obtain ⟨_, h''⟩ := cond_F h'
  obtain ⟨e', h1, h2, h3⟩ := needs_spec fs 0 e h''
    (fun p j d t z hp _ => by
      rw [Nat.zero_add]
      obtain ⟨_, o, g1, _⟩ := S.free _ _ _ _ _ hp
      rcases I.fr p j d t z hp with ⟨h, _⟩ | ⟨_, b, h, _⟩
      · rw [hall j (Array.getElem?_eq_some_iff.1 g1).1] at h; cases h
      · exact ⟨b, h⟩)
    (fun p q j d t j' t' z z' hp hq => by
      obtain ⟨_, o1, g1, _, g3, _⟩ := S.free _ _ _ _ _ hp
      obtain ⟨_, o2, g1', _, g3', _⟩ := S.free _ _ _ _ _ hq
      have := S.distinct _ _ _ _ _ g1 g1' g3 g3'
      subst this
      exact S.inj _ _ _ _ _ _ _ _ _ hp hq)
  have : e' = envA a := by
    funext t
    by_cases hft : ∃ (p j d ty : Nat) (z : Array Value), fs[p]? = some (j, d, ty, z) ∧ d = t
    · obtain ⟨p, j, d, ty, z, hp, rfl⟩ := hft
      obtain ⟨hm, o', g1, _, g3, _⟩ := S.free _ _ _ _ _ hp
      rcases I.fr p j d ty z hp with ⟨hh, _⟩ | ⟨hh, b, hs1, hv⟩
      · rw [hall j (Array.getElem?_eq_some_iff.1 g1).1] at hh; cases hh
      · rw [h3 p j d ty b z hp hm (by rw [Nat.zero_add]; exact hs1), I.A d, vt_in S g1 g3 hh, hv]
    · have hft' : ∀ (p j d ty : Nat) (z : Array Value), fs[p]? = some (j, d, ty, z) → d ≠ t := fun p j d ty z hp e => hft ⟨p, j, d, ty, z, hp, e⟩
      rw [h2 t hft', I.E t hft', I.A t]
      by_cases hw : ∃ (j : Nat) (oj : Oper), ops[j]? = some oj ∧ oj.dst = some t
      · obtain ⟨j, oj, hj, hd⟩ := hw
        have hLj := hall j (Array.getElem?_eq_some_iff.1 hj).1
        have hDj : D.testBit j = true := by
          refine (I.LD j hLj).resolve_right (fun hF => ?_)
          obtain ⟨p, d, ty, z, hp⟩ := S.mask j hF
          obtain ⟨_, o', q1, _, q3, _⟩ := S.free _ _ _ _ _ hp
          rw [hj] at q1; cases q1
          rw [hd] at q3; cases q3
          exact hft' _ _ _ _ _ hp rfl
        rw [vt_in S hj hd hDj, vt_in S hj hd hLj]
      · rw [vt_out (fun j oj h1 h2 => absurd ⟨j, oj, h1, h2⟩ hw), vt_out (fun j oj h1 h2 => absurd ⟨j, oj, h1, h2⟩ hw)]
  rw [this] at h1
  exact hQ a w h1 I.size I.defers
theorem any_of_draw (hΓ : CtxOk P Γ) (S : Stat Γ ops T fs Fm) (hN : dstOk N ops.toList = true) {Q : Exit → Act → World → Prop}
    (hQ : ∀ a w, k (envA a) w → a.tmps.size = N → a.defers = [] → Q .normal a w) :
    ∀ (m : Nat) (listed : Array Bool) (a : Act) (w : World) (n L D : Nat) (pd : List Pend) (e : Env) (s : List (Option Nat)) (w0 : World) (s0 : List (Option Nat)) (vv : Nat → Value),
      ((List.range ops.size).filter fun i => !L.testBit i).length ≤ m →
      Inv P Γ ops T fs Fm N e0 listed a w L D pd e s w0 s0 vv → trDraw P Γ ops.toList T fs Fm n D pd e w0 s0 k → wpAny P .any ops Q m listed a w := by
  intro m
  induction m with
  | zero =>
    intro listed a w n L D pd e s w0 s0 vv hm I h
    obtain ⟨n', D', pd', e', vv', I', hne, h'⟩ := advance hΓ S n L D pd e s w0 s0 vv I h
    have hr : Region.ready .any ops listed = [] := by
      cases hrr : Region.ready .any ops listed with
      | nil => rfl
      | cons i r =>
        exfalso
        have hi : i ∈ Region.ready .any ops listed := by rw [hrr]; exact List.mem_cons_self
        obtain ⟨hun, o, ho, _⟩ := mem_ready.1 hi
        have hlt := (Array.getElem?_eq_some_iff.1 ho).1
        have hL : L.testBit i = false := by rw [← I.lis i hlt]; exact hun
        have : i ∈ (List.range ops.size).filter fun i => !L.testBit i := List.mem_filter.2 ⟨List.mem_range.2 hlt, by simp [hL]⟩
        have := List.length_pos_of_mem this
        omega
    exact ⟨hr, end_any S hQ I' hne h' hr⟩
  | succ m ih =>
    intro listed a w n L D pd e s w0 s0 vv hm I h
    obtain ⟨n', D', pd', e', vv', I', hne, h'⟩ := advance hΓ S n L D pd e s w0 s0 vv I h
    refine ⟨fun hr => end_any S hQ I' hne h' hr, fun i hi => step_any hΓ S hN I' hne h' hi ?_⟩
    rintro a' w' ⟨n2, D2, pd2, e2, s2, w02, s02, vv2, I2, h2⟩
    refine ih _ a' w' n2 _ D2 pd2 e2 s2 w02 s02 vv2 ?_ I2 h2
    obtain ⟨hun, o, ho, _⟩ := mem_ready.1 hi
    have hlt := (Array.getElem?_eq_some_iff.1 ho).1
    have hL : L.testBit i = false := by rw [← I.lis i hlt]; exact hun
    have hlen : ((List.range ops.size).filter fun j => !(Nat.lor L (Nat.shiftLeft 1 i)).testBit j).length < ((List.range ops.size).filter fun j => !L.testBit j).length := by
      have hsub : ((List.range ops.size).filter fun j => !(Nat.lor L (Nat.shiftLeft 1 i)).testBit j) = (((List.range ops.size).filter fun j => !L.testBit j).filter fun j => decide (j ≠ i)) := by
        rw [List.filter_filter]
        refine List.filter_congr (fun j _ => ?_)
        rw [tb_set]
        by_cases hj : j = i <;> simp [hj]
      rw [hsub]
      refine Nat.lt_of_le_of_ne (List.length_filter_le _ _) (fun he => ?_)
      have := List.length_filter_eq_length_iff.1 he i (List.mem_filter.2 ⟨List.mem_range.2 hlt, by simp [hL]⟩)
      simp at this
    omega
theorem drawn_wp (hΓ : CtxOk P Γ) {dh : DH} (hN : dstOk N ops.toList = true) {Q : Exit → Act → World → Prop}
    (hQ : ∀ a w, k (envA a) w → a.tmps.size = N → a.defers = [] → Q .normal a w) {id : Nat} {a : Act} {w : World} (hs : a.tmps.size = N) (hd : a.defers = [])
    (h : trDrawn P Γ ops dh (envA a) w k) : (Code.region id ops true).wp P Q a w := by
  unfold trDrawn at h
  obtain ⟨h1, h⟩ := cond_F h
  split at h
  · rename_i fs hf
    have S := stat_of h1 hf
    refine wp_region_any hΓ.mixed ?_
    refine any_of_draw hΓ S hN hQ ops.size _ a w.drew (ops.size + 1) 0 0 [] (envA a) (fs.map fun _ => none) w.drew (fs.map fun _ => none) (fun _ => undef) ?_ ?_ h (e0 := envA a)
    · exact Nat.le_trans (List.length_filter_le _ _) (by simp)
    · refine ⟨hs, hd, by simp, ?_, ?_, ?_, ?_, ?_, ?_, ?_, ?_, ?_, ?_, ?_, AR.refl _ _⟩
      · intro i hi; simp [hi]
      · intro i hi; simp at hi
      · intro i hi; simp at hi
      · intro i hi; simp at hi
      · intro i hi; simp at hi
      · intro i hi; simp at hi
      · intro i hi; simp at hi
      · intro p j d t z hp
        exact .inl ⟨by simp, by simp [hp]⟩
      · intro t; rw [vt_out (fun _ _ _ _ => by simp)]
      · intro t _; rw [vt_out (fun _ _ _ _ => by simp)]
      · intro i hi; simp at hi
  · exact h.elim
end main
end Go.PT
