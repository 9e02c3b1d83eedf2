/- What the claim of FnMoveBack leans on, part 4 of 16. -/
import Derived.Test.YthdpnpckmoffaaaGreatMoveBack00
import Derived.Test.YthdpnpckmoffaaaGreatMoveBack01
import Derived.Test.YthdpnpckmoffaaaGreatMoveBack02
set_option linter.unusedVariables false
set_option linter.unusedSimpArgs false
set_option linter.unusedSectionVars false
set_option maxRecDepth 100000
namespace Go.PT
variable {P : Program} {Γ : Ctx}
theorem partsB_congr {place : Nat → Option (Nat × Nat)} {e e' : Env} : ∀ (l : List (Nat × Operand)), (∀ p ∈ l, ev e p.2 = ev e' p.2) → partsB place e l = partsB place e' l
  | [], _ => rfl
  | (i, x) :: r, h => by
    have hx := h (i, x) (by simp)
    simp only at hx
    simp only [partsB, hx, partsB_congr r (fun p hp => h p (by simp [hp]))]
theorem map_ev_congr {e e' : Env} {l : List Operand} (h : ∀ x ∈ l, ev e x = ev e' x) : l.map (ev e) = l.map (ev e') := List.map_congr_left h
theorem opt_ev_congr {e e' : Env} {l : Option Operand} (h : ∀ x, l = some x → ev e x = ev e' x) : l.map (ev e) = l.map (ev e') := by
  cases l with
  | none => rfl
  | some x => simp [h x rfl]
theorem callT_congr {o : Oper} {c : Call} {e e' : Env} {w : World} {k : VW} (h : ∀ x ∈ c.operands, ev e x = ev e' x) : callT P Γ o c e w k = callT P Γ o c e' w k := by
  obtain ⟨callee, args, ats⟩ := c
  have ha : args.toList.map (ev e) = args.toList.map (ev e') := map_ev_congr fun x hx => h x (by simp [Call.operands, Array.mem_toList_iff.1 hx])
  have ha1 : ∀ x, args.toList = [x] → ev e x = ev e' x := fun x hx => h x (by
    have : x ∈ args := Array.mem_toList_iff.1 (by rw [hx]; simp)
    simp [Call.operands, this])
  cases callee with
  | value x =>
    have hx := h x (by simp [Call.operands])
    cases x <;> simp only [callT, ha, hx]
  | invoke r n =>
    have hx := h r (by simp [Call.operands])
    simp only [callT, ha, hx]
  | builtin b =>
    cases b
    case len =>
      simp only [callT, ha]
      split
      · rename_i t x ht hx
        rw [ha1 x hx]
      · rfl
    all_goals simp only [callT, ha]
theorem trOp_congr {o : Oper} {e e' : Env} {w : World} {k : VW} (h : ∀ x ∈ o.op.operands, ev e x = ev e' x) : trOp P Γ o e w k = trOp P Γ o e' w k := by
  unfold trOp
  cases hop : o.op <;> dsimp only
  case move x => rw [hop] at h; rw [h x (by simp [Op.operands])]
  case assign x => rw [hop] at h; rw [h x (by simp [Op.operands])]
  case pick c a b => rw [hop] at h; rw [h c (by simp [Op.operands]), h a (by simp [Op.operands]), h b (by simp [Op.operands])]
  case box t x => rw [hop] at h; rw [h x (by simp [Op.operands])]
  case build t ps =>
    rw [hop] at h
    have hp : ∀ p ∈ ps.toList, ev e p.2 = ev e' p.2 := fun p hp => h p.2 (by simp only [Op.operands, List.mem_toArray, List.mem_map]; exact ⟨p, hp, rfl⟩)
    split
    · rw [partsB_congr _ hp]
    · rfl
  case buildSlice t n ps =>
    rw [hop] at h
    have hp : ∀ p ∈ ps.toList, ev e p.2 = ev e' p.2 := fun p hp => h p.2 (by simp only [Op.operands, List.mem_toArray, List.mem_map]; exact ⟨p, hp, rfl⟩)
    split
    · rw [partsB_congr _ hp]
    · rfl
  case load t x => rw [hop] at h; rw [h x (by simp [Op.operands])]
  case store t x y => rw [hop] at h; rw [h x (by simp [Op.operands]), h y (by simp [Op.operands])]
  case nilCheck x => rw [hop] at h; rw [h x (by simp [Op.operands])]
  case binOp op t x y u => rw [hop] at h; rw [h x (by simp [Op.operands]), h y (by simp [Op.operands])]
  case unOp op t x => rw [hop] at h; rw [h x (by simp [Op.operands])]
  case convert s d x => rw [hop] at h; rw [h x (by simp [Op.operands])]
  case makeInterface t x => rw [hop] at h; rw [h x (by simp [Op.operands])]
  case makeFunc fn f c =>
    rw [hop] at h
    have h1 : f.toList.map (ev e) = f.toList.map (ev e') := map_ev_congr fun x hx => h x (by simp only [Op.operands, Array.mem_append]; exact .inl (Array.mem_toList_iff.1 hx))
    have h2 : c.toList.map (ev e) = c.toList.map (ev e') := map_ev_congr fun x hx => h x (by simp only [Op.operands, Array.mem_append]; exact .inr (Array.mem_toList_iff.1 hx))
    rw [h1, h2]
  case makeMap t r => rw [hop] at h; rw [opt_ev_congr (l := r) (fun x hx => h x (by simp [Op.operands, hx]))]
  case makeSlice t l c => rw [hop] at h; rw [h l (by simp [Op.operands]), h c (by simp [Op.operands])]
  case slice t x lo hi mx =>
    rw [hop] at h
    rw [h x (by simp [Op.operands]), opt_ev_congr (l := lo) (fun y hy => h y (by simp [Op.operands, hy])), opt_ev_congr (l := hi) (fun y hy => h y (by simp [Op.operands, hy])), opt_ev_congr (l := mx) (fun y hy => h y (by simp [Op.operands, hy]))]
  case fieldAddr s x f => rw [hop] at h; rw [h x (by simp [Op.operands])]
  case field s x f => rw [hop] at h; rw [h x (by simp [Op.operands])]
  case indexAddr t x i => rw [hop] at h; rw [h x (by simp [Op.operands]), h i (by simp [Op.operands])]
  case index t x i => rw [hop] at h; rw [h x (by simp [Op.operands]), h i (by simp [Op.operands])]
  case lookup t x i ok => rw [hop] at h; rw [h x (by simp [Op.operands]), h i (by simp [Op.operands])]
  case mapUpdate t m x v => rw [hop] at h; rw [h m (by simp [Op.operands]), h x (by simp [Op.operands]), h v (by simp [Op.operands])]
  case extract t i => rw [hop] at h; rw [h t (by simp [Op.operands])]
  case call c => rw [hop] at h; exact callT_congr (fun x hx => h x (by simpa [Op.operands] using hx))
  all_goals (try rfl)
theorem looksAt_operand {ops : Array Oper} {o : Oper} {e e' : Env} (h : ∀ t ∈ o.looksAt ops, e t = e' t) : ∀ x ∈ o.op.operands, ev e x = ev e' x := by
  intro x hx
  cases x with
  | tmp t =>
    refine h t ?_
    unfold Oper.looksAt
    refine List.mem_append_left _ (List.mem_filterMap.2 ⟨.tmp t, Array.mem_toList_iff.2 hx, rfl⟩)
  | _ => rfl
theorem looksAt_guard {ops : Array Oper} {o : Oper} {e e' : Env} (h : ∀ t ∈ o.looksAt ops, e t = e' t) {j : Nat} {want : Bool} (hg : o.guard = some (j, want)) {d : Nat} (hd : (ops[j]?).bind (·.dst) = some d) : e d = e' d := by
  refine h d ?_
  unfold Oper.looksAt
  rw [hg]
  simp only
  rw [hd]
  simp
theorem trOne_congr {ops : Array Oper} {i : Nat} {o : Oper} {e e' : Env} {w : World} {k : VW} {s : Prop} (h : ∀ t ∈ o.looksAt ops, e t = e' t) : trOne P Γ ops.toList i o e w k s = trOne P Γ ops.toList i o e' w k s := by
  have hs : trSp P Γ ops.toList i o e w k = trSp P Γ ops.toList i o e' w k := by
    unfold trSp
    rw [trOp_congr (looksAt_operand h), trOp_congr (looksAt_operand h)]
  unfold trOne
  cases hg : o.guard with
  | none => simp only; exact hs
  | some g =>
    obtain ⟨j, want⟩ := g
    simp only [Array.getElem?_toList]
    cases hd : (ops[j]?).bind (·.dst) with
    | none => rfl
    | some d => simp only; rw [looksAt_guard h hg hd, hs]
theorem pure_spec {o : Oper} {e : Env} {w : World} {k : VW} (hΓ : CtxOk P Γ) (hp : isEager Γ o = true) (hl : ∀ t x, o.op ≠ .load t x) (h : trOp P Γ o e w k) :
    ∃ v, k v w ∧ ∀ w', (execOp (ev e) o).run P w' = .ok (.value v) w' := by
  unfold trOp at h
  unfold isEager at hp
  cases ho : o.op <;> rw [ho] at h hp <;> dsimp only at h hp <;> try (cases hp; done)
  case move x => exact ⟨_, h, fun w' => by simp only [execOp, ho]; rfl⟩
  case assign x => exact ⟨_, h, fun w' => by simp only [execOp, ho]; rfl⟩
  case pick c x y =>
    unfold pickT at h
    split at h
    · rename_i b hb
      exact ⟨_, h, fun w' => by simp only [execOp, ho, hb, asBool, Sem.run_bind, Sem.run_pure, Result.andThen_ok]⟩
    · exact h.elim
  case build t parts =>
    split at h
    · rename_i z fs hz hf
      obtain ⟨d, i, hr⟩ := row_of hΓ (known_of (t := t) hΓ (fun e => by rw [e] at hz; cases hz))
      obtain ⟨v, hv, rfl⟩ := hr.zero _ hz
      obtain ⟨fields, rfl, hall, rfl⟩ := hr.fields _ hf
      split at h
      · rename_i ps hps
        unfold bldT at h
        split at h
        · rename_i cs hc
          refine ⟨_, h, fun w' => ?_⟩
          have hrun := run_build (w := w') hr.und hr.info hv hall hps hc
          have he : (parts.map fun x => (x.1, ev e x.2)) = (parts.toList.map fun p => (p.1, ev e p.2)).toArray := by cases parts; simp
          simp only [execOp, ho, Sem.run_bind, he, hrun, Result.andThen_ok, Sem.run_pure]
        · exact h.elim
      · exact h.elim
    · exact h.elim
  case load t x => exact absurd ho (hl _ _)
  case nilCheck x =>
    unfold nilT at h
    split at h
    · rename_i ad hx; exact ⟨_, h, fun w' => by simp only [execOp, ho, hx, Sem.run_pure]⟩
    · rename_i f x y hx; exact ⟨_, h, fun w' => by simp only [execOp, ho, hx, Sem.run_pure]⟩
    · rename_i name x y hx
      unfold nimT at h
      split at h
      · rename_i t v hf
        exact ⟨_, h.2, fun w' => by simp [execOp, ho, hx, hf, h.1 w']⟩
      · exact h.elim
    · rename_i t x hx; exact ⟨_, h, fun w' => by simp only [execOp, ho, hx, Sem.run_pure]⟩
    · exact h.elim
  case binOp op t x y yt =>
    rw [hp] at h
    simp only [cond_true] at h
    unfold binT at h
    split at h
    · rename_i kx p ky q hx hy
      obtain ⟨rfl, h⟩ := h
      split at h
      · rename_i r hr
        exact ⟨_, h, fun w' => by simp only [execOp, ho, hx, hy, Sem.run_bind, run_eqGuardI, Result.andThen_ok, run_binI hr, Sem.run_pure]⟩
      · exact h.elim
    · exact h.elim
  case unOp op t x =>
    cases op <;> dsimp only at h hp <;> try (cases hp; done)
    unfold notT at h
    split at h
    · rename_i b hb
      exact ⟨_, h, fun w' => by simp only [execOp, ho, hb, Op.unary, Sem.run_bind, Sem.run_pure, Result.andThen_ok]⟩
    · exact h.elim
  case convert src dst x =>
    split at h
    · rename_i kx ky h1 h2
      obtain ⟨d1, i1, r1⟩ := row_of hΓ (known_of (t := src) hΓ (fun e => by rw [e] at h1; cases h1))
      obtain ⟨d2, i2, r2⟩ := row_of hΓ (known_of (t := dst) hΓ (fun e => by rw [e] at h2; cases h2))
      obtain rfl := r1.intK _ h1
      obtain rfl := r2.intK _ h2
      unfold cviT at h
      split at h
      · rename_i kk n hn
        exact ⟨_, h, fun w' => by simp [execOp, ho, hn, convert, underlying, r1.und, r2.und, Conv.intToInt]⟩
      · exact h.elim
    · rename_i hno
      exfalso
      simp only [Bool.and_eq_true] at hp
      obtain ⟨a, ha⟩ := Option.isSome_iff_exists.1 hp.1
      obtain ⟨b, hb⟩ := Option.isSome_iff_exists.1 hp.2
      exact hno _ _ ha hb
  case makeInterface t x =>
    obtain ⟨h1, h⟩ := cond_F h
    simp only [Bool.and_eq_true, Bool.not_eq_true'] at h1
    obtain ⟨d, i, hr⟩ := row_of hΓ h1.1
    have hnd := hr.iface h1.2
    have hd := hr.und
    exact ⟨_, h, fun w' => by simp only [execOp, ho, Instr.makeInterface, underlying, Sem.run_bind, run_program, Result.andThen_ok, hd, Sem.run_pure]⟩
  case makeFunc fn f c =>
    refine ⟨_, h, fun w' => ?_⟩
    simp only [execOp, ho, Instr.makeFunc, Sem.run_bind, Sem.run_pure, Result.andThen_ok]
    cases f; cases c; simp
  case fieldAddr s x f =>
    split at h
    · rename_i off size agg hps
      obtain ⟨d, i, hr⟩ := row_of hΓ (known_of (t := s) hΓ (fun e => by rw [e] at hps; simp at hps))
      obtain ⟨fs, fd, dd, rfl, hf, hdd, rfl, hs, rfl⟩ := hr.places _ _ _ _ hps
      cases h0 : Nat.beq size 0
      · rw [h0] at h
        simp only [cond_false] at h
        have hsz : size ≠ 0 := fun e => by subst e; cases h0
        unfold fadT at h
        split at h
        · rename_i b o' hx
          exact ⟨_, h, fun w' => by simp only [execOp, ho, hx, Sem.run_bind, run_fieldAt hr.und hf hdd hs hsz, Sem.run_pure, Result.andThen_ok]⟩
        · exact h.elim
      · rw [h0] at h; exact h.elim
    · exact h.elim
  case field t x f =>
    split at h
    · rename_i off size agg hps
      obtain ⟨d, i, hr⟩ := row_of hΓ (known_of (t := t) hΓ (fun e => by rw [e] at hps; simp at hps))
      obtain ⟨fs, fd, dd, rfl, hf, hdd, rfl, rfl, rfl⟩ := hr.places _ _ _ _ hps
      unfold fldT at h
      split at h
      · rename_i cs hx
        have go : ∀ v, (bif isAggD dd then some (Value.agg (cs.extract fd.offset (fd.offset + sizeB P fd.type))) else cs[fd.offset]?) = some v → k v w → ∃ v, k v w ∧ ∀ w', (execOp (ev e) o).run P w' = .ok (.value v) w' := fun v hv hkk => by
          refine ⟨v, hkk, fun w' => ?_⟩
          simp only [execOp, ho, hx, Sem.run_bind]
          rw [run_field hr.und hf hdd hv]
          rfl
        cases ha : isAggD dd
        · rw [ha] at h go
          simp only [cond_false] at h go
          split at h
          · rename_i v hv
            exact go v hv h
          · exact h.elim
        · rw [ha] at h go
          simp only [cond_true] at h go
          exact go _ rfl h
      · exact h.elim
    · exact h.elim
  case indexAddr t x i =>
    split at h
    · rename_i el hel
      obtain ⟨d, it, hrt⟩ := row_of hΓ (known_of (t := t) hΓ (fun e => by rw [e] at hel; cases hel))
      obtain rfl := hrt.slice _ hel
      obtain ⟨h1, h⟩ := cond_F h
      obtain ⟨de, ie, hr⟩ := row_of hΓ h1
      rw [hr.size] at h
      unfold ixaT at h
      split at h
      · rename_i b o' n c kk j hx hi
        obtain ⟨h0, h1, h⟩ := h
        exact ⟨_, h, fun w' => by simp only [execOp, ho, hx, hi, Sem.run_bind, run_indexAt hrt.und hr.info h0 h1, Sem.run_pure, Result.andThen_ok]⟩
      · exact h.elim
    · rename_i hno; rw [hno] at hp; cases hp
  case extract t i =>
    unfold extT at h
    split at h
    · rename_i vs hv
      split at h
      · rename_i x hx
        exact ⟨_, h, fun w' => by simp only [execOp, ho, hv, Instr.extract, hx, Sem.run_bind, Sem.run_pure, Result.andThen_ok]⟩
      · exact h.elim
    · exact h.elim
  case call c =>
    obtain ⟨callee, args, ats⟩ := c
    cases callee with
    | value x => cases hp
    | invoke r n => cases hp
    | builtin b =>
      cases b <;> dsimp only at hp <;> try (cases hp; done)
      unfold callT at h
      dsimp only at h
      split at h
      · rename_i t x hts hxs
        have ht : ats = #[t] := by cases ats; simp_all
        have hx : args = #[x] := by cases args; simp_all
        split at h
        · rename_i el hel
          unfold lenT at h
          split at h
          · rename_i ad n cp hv
            obtain ⟨d, i, hr⟩ := row_of hΓ (known_of (t := t) hΓ (fun e => by rw [e] at hel; cases hel))
            have hd := hr.slice _ hel
            subst hd
            refine ⟨.int .i64 n, h, fun w' => ?_⟩
            subst ht hx
            simp only [execOp, ho, resolve, Sem.run_bind, Sem.run_pure, Result.andThen_ok, invoke, builtin, List.map_toArray, List.map_cons, List.map_nil, hv, run_len_slice hr.und]
          · exact h.elim
        · rename_i hno; rw [hts] at hp; simp only at hp; rw [hno] at hp; cases hp
      · exact h.elim
theorem load_spec {o : Oper} {e : Env} {w : World} {k : VW} {t : Nat} {x : Operand} (i : Nat) (hΓ : CtxOk P Γ) (ho : o.op = .load t x) (h : trOp P Γ o e w k) :
    ∃ v, k v w ∧ ldqT Γ ⟨i, t, ev e x, v⟩ w ∧ ∀ w', ldqT Γ ⟨i, t, ev e x, v⟩ w' → (execOp (ev e) o).run P w' = .ok (.value v) w' := by
  unfold trOp at h
  rw [ho] at h
  dsimp only at h
  obtain ⟨h1, h⟩ := cond_F h
  obtain ⟨d, it, hr⟩ := row_of hΓ h1
  unfold ldqT
  simp only
  rw [hr.agg, hr.size] at h ⊢
  cases hg : isAggD d
  · rw [hg] at h
    simp only [cond_false] at h ⊢
    unfold ldT at h
    split at h
    · rename_i ad hx
      split at h
      · rename_i v hv
        refine ⟨v, h, by simp [ldT, hx, hv], fun w' hq => ?_⟩
        simp only [ldT, hx] at hq
        split at hq
        · rename_i u hu
          subst hq
          simp only [execOp, ho, Sem.run_bind, hx, run_loadAt1 hr.und hg hu, Result.andThen_ok, Sem.run_pure]
        · exact hq.elim
      · exact h.elim
    · exact h.elim
  · rw [hg] at h
    simp only [cond_true] at h ⊢
    unfold ldsT at h
    split at h
    · rename_i ad hx
      split at h
      · rename_i vs hv
        refine ⟨_, h, by simp [ldsT, hx, hv], fun w' hq => ?_⟩
        simp only [ldsT, hx] at hq
        split at hq
        · rename_i us hu
          simp only [execOp, ho, Sem.run_bind, hx, run_loadAtN hr.und hr.info hg hu, Result.andThen_ok, Sem.run_pure, hq]
        · exact hq.elim
      · exact h.elim
    · exact h.elim
end Go.PT
