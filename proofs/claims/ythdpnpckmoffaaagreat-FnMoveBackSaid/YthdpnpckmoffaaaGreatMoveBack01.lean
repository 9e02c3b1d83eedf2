/- What the claim of FnMoveBack leans on, part 2 of 16. -/
import Derived.Test.YthdpnpckmoffaaaGreatMoveBack00
set_option linter.unusedVariables false
set_option linter.unusedSimpArgs false
set_option linter.unusedSectionVars false
set_option maxRecDepth 100000
namespace Go.PT
variable {P : Program} {Γ : Ctx}
theorem ev_envA (a : Act) : ev (envA a) = a.eval := by
  funext x; cases x <;> rfl
theorem envA_put (a : Act) (d : Option Nat) (v : Value) (h : ∀ x, d = some x → x < a.tmps.size) : envA (a.put d v) = putE (envA a) d v := by
  cases d with
  | none => rfl
  | some x =>
    funext j
    have hx := h x rfl
    simp only [envA, Act.put, putE, upd]
    by_cases hj : j = x
    · subst hj; simp [hx]
    · have : Nat.beq j x = false := by
        cases h' : Nat.beq j x
        · rfl
        · exact absurd (Nat.eq_of_beq_eq_true h') hj
      rw [this]; simp [Array.getElem?_setIfInBounds_ne (Ne.symm hj)]
theorem run_loadCells (w : World) (a : Addr) : ∀ (n i : Nat) (vs : List Value) (acc : Array Value), rdN w a n i = some vs → (loadCellsFrom a i n acc).run P w = .ok (acc ++ vs.toArray) w := by
  intro n
  induction n with
  | zero => intro i vs acc h; simp only [rdN, Option.some.injEq] at h; subst h; simp [loadCellsFrom]
  | succ n ih =>
    intro i vs acc h
    simp only [rdN] at h
    split at h
    · rename_i v vs' h1 h2
      simp only [Option.some.injEq] at h; subst h
      simp only [loadCellsFrom, Sem.run_bind, load, Sem.run, h1, Result.andThen_ok]
      rw [ih _ _ _ h2]; simp
    · cases h
theorem run_storeCells (a : Addr) : ∀ (vs : List Value) (i : Nat) (w w' : World), stN w a vs i = some w' → (storeCells a vs i).run P w = .ok () w' := by
  intro vs
  induction vs with
  | nil => intro i w w' h; simp only [stN, Option.some.injEq] at h; subst h; rfl
  | cons v vs ih =>
    intro i w w' h
    simp only [stN] at h
    split at h
    · rename_i hc
      obtain ⟨h1, h2, h3⟩ := hc
      obtain ⟨u, hu⟩ := Option.isSome_iff_exists.1 h2
      simp only [storeCells, Sem.run_bind]
      rw [run_store P w _ v _ h1]
      simp only [hu, h3]
      simpa using ih _ _ _ h
    · cases h
theorem aggB_spec {t : TypeId} {w : World} {d : TypeDesc} (h : P.underlying t = some d) : (isAgg t).run P w = .ok (isAggD d) w := by
  simp only [isAgg, underlying, Sem.run_bind, run_program, Result.andThen_ok, h, Sem.run_pure]
  cases d <;> rfl
theorem run_sizeOf {t : TypeId} {w : World} {i : TypeInfo} (h : P.info? t = some i) : (sizeOf t).run P w = .ok i.size w := by
  simp [sizeOf, typeInfo, h]
theorem info_of_underlying {t : TypeId} {d : TypeDesc} (h : P.underlying t = some d) : ∃ i, P.info? t = some i := by
  unfold Program.underlying at h
  split at h <;> simp_all
theorem sizeB_eq {t : TypeId} {i : TypeInfo} (h : P.info? t = some i) : sizeB P t = i.size := by simp [sizeB, h]
structure Row (P : Program) (t : Nat) (r : Ti) (d : TypeDesc) (i : TypeInfo) : Prop where
  und : P.underlying t = some d
  info : P.info? t = some i
  agg : r.agg = isAggD d
  size : r.size = i.size
  isInt : r.isInt = true → ∃ k, d = .int k
  intK : ∀ k, r.intK = some k → d = .int k
  slice : ∀ e, r.slice = some e → d = .slice e
  iface : r.iface = false → ∀ ms, d ≠ .interface ms
  zero : ∀ z, r.zero = some z → ∃ v, i.zero = some v ∧ v.cells = z
  fields : ∀ l, r.fields = some l → ∃ (fs : Array Field), d = .struct fs ∧ (∀ f ∈ fs.toList, (P.info? f.type).isSome = true) ∧ l = fs.toList.map fun f => (f.offset, sizeB P f.type)
  places : ∀ (f off size : Nat) (agg : Bool), r.places[f]? = some (some (off, size, agg)) → ∃ (fs : Array Field) (fd : Field) (dd : TypeDesc), d = .struct fs ∧ fs[f]? = some fd ∧ P.underlying fd.type = some dd ∧ fd.offset = off ∧ sizeB P fd.type = size ∧ isAggD dd = agg
theorem row_of (hΓ : CtxOk P Γ) {t : Nat} (h : (Γ.ti t).known = true) : ∃ d i, Row P t (Γ.ti t) d i := by
  rcases hΓ.ti t with h0 | h0
  · rw [h0] at h; cases h
  · rw [h0] at h ⊢
    unfold tiOf at h ⊢
    split at h
    · cases h
    · rename_i d hd
      obtain ⟨i, hi⟩ := info_of_underlying hd
      refine ⟨d, i, hd, hi, rfl, sizeB_eq hi, ?_, ?_, ?_, ?_, ?_, ?_, ?_⟩
      · simp only; intro h; split at h <;> simp_all
      · simp only; intro k h; split at h <;> simp_all
      · simp only; intro k h; split at h <;> simp_all
      · simp only; intro h ms e; subst e; simp at h
      · simp only [hi]; intro z hz; obtain ⟨v, hv, rfl⟩ := Option.map_eq_some_iff.1 hz; exact ⟨v, hv, rfl⟩
      · simp only; intro l hl
        split at hl
        · rename_i fs
          cases hall : fs.toList.all fun f => (P.info? f.type).isSome
          · rw [hall] at hl; cases hl
          · rw [hall] at hl
            simp only [cond_true, Option.some.injEq] at hl
            exact ⟨fs, rfl, List.all_eq_true.1 hall, hl.symm⟩
        · cases hl
      · simp only; intro f off size agg hf
        split at hf
        · rename_i fs
          rw [List.getElem?_map] at hf
          obtain ⟨fd, hfd, he⟩ := Option.map_eq_some_iff.1 hf
          cases hs : (P.underlying fd.type).isSome
          · rw [hs] at he; cases he
          · rw [hs] at he
            obtain ⟨dd, hdd⟩ := Option.isSome_iff_exists.1 hs
            simp only [cond_true, Option.some.injEq, Prod.mk.injEq] at he
            exact ⟨fs, fd, dd, rfl, by simpa using hfd, hdd, he.1, he.2.1, by rw [← he.2.2]; simp [isAggB, hdd]⟩
        · simp at hf
theorem known_of {t : Nat} (hΓ : CtxOk P Γ) (h : Γ.ti t ≠ {}) : (Γ.ti t).known = true := by
  rcases hΓ.ti t with h0 | h0
  · exact absurd h0 h
  · rw [h0] at h ⊢
    unfold tiOf at h ⊢
    split
    · rename_i hh; rw [hh] at h; exact absurd rfl h
    · rfl
theorem run_loadAt1 {t : TypeId} {a : Addr} {w : World} {v : Value} {d : TypeDesc} (hd : P.underlying t = some d) (ha : isAggD d = false) (hv : w.cell? a = some v) :
    (Instr.loadAt t (.pointer (some a))).run P w = .ok v w := by
  simp [Instr.loadAt, Instr.sureAddr, loadVar, aggB_spec hd, ha, run_load, hv]
theorem run_loadAtN {t : TypeId} {a : Addr} {w : World} {vs : List Value} {d : TypeDesc} {i : TypeInfo} (hd : P.underlying t = some d) (hi : P.info? t = some i) (ha : isAggD d = true) (hv : rdN w a i.size 0 = some vs) :
    (Instr.loadAt t (.pointer (some a))).run P w = .ok (.agg vs.toArray) w := by
  simp [Instr.loadAt, Instr.sureAddr, loadVar, aggB_spec hd, ha, run_sizeOf hi, loadCells, run_loadCells w a _ _ _ _ hv]
theorem run_storeAt1 {t : TypeId} {a : Addr} {v : Value} {w : World} {i : TypeInfo} (hi : P.info? t = some i) (hs : i.size = 1) (h1 : v.oneCell' = true) (h2 : (w.cell? a).isSome = true) (h3 : w.frozen? a = false) :
    (Instr.storeAt t (.pointer (some a)) v).run P w = .ok () (w.setCell a v) := by
  have hc : v.cells = #[v] := by cases v <;> simp_all [Value.oneCell', Value.cells]
  have := run_storeCells (P := P) a [v] 0 w (w.setCell a v) (by simp [stN, h1, Addr.add, h2, h3])
  simp [Instr.storeAt, Instr.sureAddr, storeVar, hc, run_sizeOf hi, hs, this]
theorem run_storeAtN {t : TypeId} {a : Addr} {v : Value} {w w' : World} {i : TypeInfo} (hi : P.info? t = some i) (hs : v.cells.size = i.size) (h : stN w a v.cells.toList 0 = some w') :
    (Instr.storeAt t (.pointer (some a)) v).run P w = .ok () w' := by
  simp [Instr.storeAt, Instr.sureAddr, storeVar, run_sizeOf hi, hs, run_storeCells a _ _ _ _ h]
theorem run_zero {t : TypeId} {v : Value} {w : World} {i : TypeInfo} (hi : P.info? t = some i) (hv : i.zero = some v) : (zeroValue t).run P w = .ok v w := by
  simp [zeroValue, typeInfo, hi, hv]
theorem run_alloc {t : TypeId} {v : Value} {w : World} {i : TypeInfo} (hi : P.info? t = some i) (hv : i.zero = some v) :
    (Instr.alloc t true (.tuple #[])).run P w = .ok (.pointer (some ⟨w.heap.size, 0, none⟩)) (w.alloc (.cells v.cells t)) := by
  simp [Instr.alloc, run_zero hi hv, newVar, newRow]
theorem run_box {t : TypeId} {v : Value} {w : World} : (Instr.box t v).run P w = .ok (.pointer (some ⟨w.heap.size, 0, none⟩)) (w.alloc (.cells v.cells t)) := by
  simp [Instr.box, newVar, newRow]
theorem fill_eq (place place' : Nat → Option (Nat × Nat)) (e : Env) : ∀ (parts : List (Nat × Operand)) (ps : List (Nat × Nat × Value)) (z : Array Value), (∀ i, place i = place' i) →
    partsB place e parts = some ps → Instr.fill place' z (parts.map fun p => (p.1, ev e p.2)) = fillT z ps := by
  intro parts
  induction parts with
  | nil => intro ps z _ h; simp only [partsB, Option.some.injEq] at h; subst h; rfl
  | cons p rest ih =>
    intro ps z hp h
    obtain ⟨i, x⟩ := p
    simp only [partsB] at h
    split at h
    · rename_i o s r h1 h2
      simp only [Option.some.injEq] at h; subst h
      rw [hp] at h1
      simp only [List.map_cons, Instr.fill, fillT, h1]
      split
      · rfl
      · exact ih _ _ hp h2
    · cases h
theorem mapM_pure {α β : Type} (l : Array α) (f : α → Sem β) (g : α → β) (w : World) (h : ∀ x ∈ l, (f x).run P w = .ok (g x) w) : (l.mapM f).run P w = .ok (l.map g) w := by
  have key : ∀ (l : List α), (∀ x ∈ l, (f x).run P w = .ok (g x) w) → (l.mapM f).run P w = .ok (l.map g) w := by
    intro l
    induction l with
    | nil => intro _; simp
    | cons x l ih => intro h; simp [h x (by simp), ih (fun y hy => h y (by simp [hy]))]
  rw [← Array.toArray_toList (xs := l), List.mapM_toArray]
  rw [Sem.run_map, key l.toList (by simpa using h)]
  cases l
  simp
theorem run_build {t : TypeId} {parts : List (Nat × Operand)} {e : Env} {ps : List (Nat × Nat × Value)} {cs : Array Value} {v : Value} {fs : Array Field} {w : World} {i : TypeInfo} (hu : P.underlying t = some (.struct fs))
    (hi : P.info? t = some i) (hv : i.zero = some v) (hall : ∀ f ∈ fs.toList, (P.info? f.type).isSome = true) (hp : partsB ((fs.toList.map fun f => (f.offset, sizeB P f.type))[·]?) e parts = some ps) (h : fillT v.cells ps = some cs) :
    (Instr.build t (parts.map fun p => (p.1, ev e p.2)).toArray).run P w = .ok (.agg cs) w := by
  have hm : (fs.mapM fun f => do let s ← sizeOf f.type; pure (f.offset, s) : Sem (Array (Nat × Nat))).run P w = .ok (fs.map fun f => (f.offset, sizeB P f.type)) w := by
    refine mapM_pure fs _ _ w (fun f hf => ?_)
    obtain ⟨i, hi⟩ := Option.isSome_iff_exists.1 (hall f (by simpa using hf))
    simp [run_sizeOf hi, sizeB_eq hi]
  simp only [Instr.build, Sem.run_bind, run_zero hi hv, Result.andThen_ok, underlying, run_program, hu, Sem.run_pure]
  rw [hm]
  simp only [Result.andThen_ok]
  rw [fill_eq _ _ _ _ _ _ (fun i => by simp) hp, h]
  rfl
theorem run_buildSlice {t el : TypeId} {n : Nat} {parts : List (Nat × Operand)} {e : Env} {ps : List (Nat × Nat × Value)} {z cs : Array Value} {w : World} {i : TypeInfo} (hu : P.underlying t = some (.slice el)) (hi : P.info? el = some i)
    (hn : n * i.size ≤ 16777216) (hz : n * i.size = 0 ∧ z = #[] ∨ n * i.size ≠ 0 ∧ ∃ v, i.zero = some v ∧ v.cells = z)
    (hp : partsB (fun j => some (j * i.size, i.size)) e parts = some ps) (h : fillT ((Array.range (n * i.size)).map (z[· % z.size]!)) ps = some cs) :
    (Instr.buildSlice t n (parts.map fun p => (p.1, ev e p.2)).toArray).run P w = .ok (.slice (some ⟨w.heap.size, 0, none⟩) n n) (w.alloc (.cells cs el)) := by
  have h24 : ¬ n * i.size > 2 ^ 24 := by omega
  have hfill := fill_eq _ _ _ _ _ ((Array.range (n * i.size)).map (z[· % z.size]!)) (fun _ => rfl) hp
  rw [h] at hfill
  unfold Instr.buildSlice
  simp only [Sem.run_bind, underlying, run_program, hu, Sem.run_pure, Result.andThen_ok, run_sizeOf hi, h24, if_false]
  rcases hz with ⟨h0, rfl⟩ | ⟨h0, v, hv, rfl⟩
  · rw [if_pos h0]
    simp only [Sem.run_bind, Sem.run_pure, Result.andThen_ok]
    rw [hfill]
    simp [newRow]
  · rw [if_neg h0]
    simp only [Sem.run_bind, Sem.run_pure, Result.andThen_ok, run_zero hi hv]
    rw [hfill]
    simp [newRow]
theorem add_none (b o n : Nat) : (⟨b, o, none⟩ : Addr).add n = ⟨b, o + n, none⟩ := by
  unfold Addr.add; split <;> simp_all
theorem run_fieldAt {s : TypeId} {f size b o : Nat} {fs : Array Field} {fd : Field} {d : TypeDesc} {w : World} (hu : P.underlying s = some (.struct fs)) (hf : fs[f]? = some fd) (hd : P.underlying fd.type = some d) (hs : sizeB P fd.type = size) (h0 : size ≠ 0) :
    (Instr.fieldAt s (.pointer (some ⟨b, o, none⟩)) f).run P w = .ok (.pointer (some ⟨b, o + fd.offset, none⟩)) w := by
  obtain ⟨i, hi⟩ := info_of_underlying hd
  rw [sizeB_eq hi] at hs
  subst hs
  simp [Instr.fieldAt, underlying, hu, hf, Instr.sureAddr, fieldPlace, run_sizeOf hi, h0, add_none]
theorem run_field {s : TypeId} {f : Nat} {cs : Array Value} {v : Value} {fs : Array Field} {fd : Field} {d : TypeDesc} {w : World} (hu : P.underlying s = some (.struct fs)) (hf : fs[f]? = some fd) (hd : P.underlying fd.type = some d)
    (hv : (bif isAggD d then some (Value.agg (cs.extract fd.offset (fd.offset + sizeB P fd.type))) else cs[fd.offset]?) = some v) : (Instr.field s (.agg cs) f).run P w = .ok v w := by
  obtain ⟨i, hi⟩ := info_of_underlying hd
  cases ha : isAggD d
  · simp only [ha, cond_false] at hv
    simp [Instr.field, underlying, hu, hf, asAgg, part, aggB_spec hd, ha, hv]
  · simp only [ha, cond_true, Option.some.injEq] at hv
    subst hv
    simp [Instr.field, underlying, hu, hf, asAgg, part, aggB_spec hd, ha, run_sizeOf hi, sizeB_eq hi]
theorem run_indexAt {t el : TypeId} {b o n c : Nat} {x : IntKind} {j : Int} {w : World} {i : TypeInfo} (hu : P.underlying t = some (.slice el)) (hi : P.info? el = some i) (h0 : 0 ≤ j) (h1 : j < n) :
    (Instr.indexAt t (.slice (some ⟨b, o, none⟩) n c) (.int x j)).run P w = .ok (.pointer (some ⟨b, o + j.toNat * i.size, none⟩)) w := by
  simp [Instr.indexAt, asIntOf, underlying, hu, h0, h1, run_sizeOf hi, add_none]
theorem run_binI {op : BinOp} {t : TypeId} {x : IntKind} {a b : Int} {r : Value} {w : World} (h : binI op x a b = some r) : (binOp op t (.int x a) (.int x b)).run P w = .ok r w := by
  cases op
  case quo =>
    simp only [binI] at h
    split at h
    · cases h
    · rename_i hb
      injection h with h
      subst h
      simp [binOp, Op.intDiv, hb]
  case rem =>
    simp only [binI] at h
    split at h
    · cases h
    · rename_i hb
      injection h with h
      subst h
      simp [binOp, Op.intDiv, hb]
  case xor =>
    simp only [binI] at h
    injection h with h
    subst h
    simp [binOp, intBits_xor]
  all_goals simp only [binI, Option.some.injEq, reduceCtorEq] at h <;> subst h <;> simp [binOp, Op.intArith, Op.intCmp]
theorem run_eqGuardI {op : BinOp} {t : TypeId} {x y : Operand} {k l : IntKind} {a b : Int} {w : World} : (eqGuard op t x y (.int k a) (.int l b)).run P w = .ok () w := by
  cases op <;> simp [eqGuard]
theorem run_len_slice {t ty el : TypeId} {a : Option Addr} {n c : Nat} {w : World} (hu : P.underlying t = some (.slice el)) :
    (Builtin.len_ #[t] ty #[.slice a n c]).run P w = .ok (.int .i64 n) w := by
  simp [Builtin.len_, underlying, hu, goInt]
theorem cond_F {b : Bool} {A : Prop} (h : bif b then A else False) : b = true ∧ A := by cases b <;> simp_all
section
variable {o : Oper} {a : Act} {w : World} {k : VW} {next : Act → World → Prop} {Q : Exit → Act → World → Prop}
theorem wp_of_run {v : Value} {w' : World} (h : (execOp a.eval o).run P w = .ok (.value v) w') (hk : next (a.put o.dst v) w') : o.wp P a w next Q := by
  unfold Oper.wp; rw [h]; exact hk
theorem wp_of_opT {s : Sem Value} (hs : execOp a.eval o = (do let v ← s; pure (.value v))) (h : opT P s w k) (hk : ∀ v w', k v w' → next (a.put o.dst v) w') : o.wp P a w next Q := by
  unfold opT at h
  unfold Oper.wp
  rw [hs, Sem.run_bind]
  split at h
  · rename_i v w' hr
    rw [hr]; exact hk _ _ h
  · exact h.elim
theorem wp_of_opU {s : Sem Unit} {k' : World → Prop} (hs : execOp a.eval o = (do s; pure .skip)) (h : opU P s w k') (hk : ∀ w', k' w' → next (a.put o.dst undef) w') : o.wp P a w next Q := by
  unfold opU at h
  unfold Oper.wp
  rw [hs, Sem.run_bind]
  split at h
  · rename_i v w' hr
    rw [hr]; exact hk _ h
  · exact h.elim
theorem wp_of_clT {f : FuncId} {args : List Value} {w' : World} (hr : (execOp a.eval o).run P w = .ok (.enter f args.toArray) w') (h : clT P f args w' k) (hk : ∀ v w', k v w' → next (a.put o.dst v) w') : o.wp P a w next Q := by
  unfold Oper.wp
  rw [hr, Oper.upon_enter]
  refine Calls.mono h ?_
  rintro e w'' ⟨v, rfl, hv⟩
  exact hk _ _ hv
end
theorem call_wp {o : Oper} {c : Call} {a : Act} {w : World} {k : VW} {next : Act → World → Prop} {Q : Exit → Act → World → Prop} (hΓ : CtxOk P Γ) (ho : o.op = .call c) (h : callT P Γ o c (envA a) w k)
    (hk : ∀ v w', k v w' → next (a.put o.dst v) w') : o.wp P a w next Q := by
  obtain ⟨callee, args, ats⟩ := c
  unfold callT at h
  simp only [ev_envA] at h
  have hargs : (args.toList.map a.eval).toArray = args.map a.eval := by cases args; simp
  have hb : ∀ (b : Builtin) (s : Sem Value), callee = .builtin b → builtin b ats o.type (args.map fun | .const _ => true | _ => false) (args.map a.eval) = (do let v ← s; pure (.value v)) →
      execOp a.eval o = (do let v ← s; pure (.value v)) := by
    intro b s hc hs
    subst hc
    simp only [execOp, ho, resolve]
    exact hs
  cases callee with
  | value x =>
    cases x with
    | func f =>
      obtain ⟨h1, h2⟩ := cond_F h
      refine wp_of_clT (f := f) (w' := w) ?_ h2 hk
      simp only [execOp, ho, resolve, Act.eval, Deferred.ofValue, Sem.run_bind, Sem.run_pure, Result.andThen_ok, invoke, Array.append_empty, Array.empty_append]
      rw [hΓ.fn f h1, hargs]
    | _ =>
      simp only [clvT] at h
      split at h
      · rename_i f first captured hf
        obtain ⟨h1, h2⟩ := h
        refine wp_of_clT (f := f) (w' := w) ?_ h2 hk
        simp only [execOp, ho, resolve, hf, Deferred.ofValue, Sem.run_bind, Sem.run_pure, Result.andThen_ok, invoke]
        rw [hΓ.fn f h1, ← hargs]
        congr 2
        cases first; cases captured; simp
      · rename_i name first captured hf
        split at h
        · rename_i r as hra
          simp only [ivT] at h
          split at h
          · rename_i f args' w' hr
            refine wp_of_clT (args := args'.toList) (f := f) (w' := w') ?_ h hk
            simp only [execOp, ho, resolve, hf, Deferred.ofValue, Sem.run_bind, Sem.run_pure, Result.andThen_ok, invoke]
            have e0 : first ++ args.map a.eval = (r :: as).toArray := by
              rw [← hra]; cases first; cases args; simp
            rw [e0]
            have e1 : ((r :: as).toArray)[0]? = some r := rfl
            have e2 : ((r :: as).toArray).extract 1 ((r :: as).toArray).size = as.toArray := by simp [List.take_of_length_le]
            rw [e1]
            simp only []
            rw [e2, hr]
          · exact h.elim
        · exact h.elim
      · exact h.elim
  | invoke r name =>
    simp only [ivT] at h
    split at h
    · rename_i f args' w' hr
      refine wp_of_clT (args := args'.toList) (f := f) (w' := w') ?_ h hk
      simp only [execOp, ho, resolve, Sem.run_bind, Sem.run_pure, Result.andThen_ok, invoke]
      have e1 : (#[a.eval r] ++ args.map a.eval)[0]? = some (a.eval r) := by rw [Array.getElem?_append_left (by simp)]; rfl
      have e2 : (#[a.eval r] ++ args.map a.eval).extract 1 (#[a.eval r] ++ args.map a.eval).size = (args.toList.map a.eval).toArray := by cases args; simp [List.take_of_length_le]
      rw [e1]
      simp only []
      rw [e2, hr]
    · exact h.elim
  | builtin b =>
    cases b
    case len =>
      simp only at h
      split at h
      · rename_i t x hts hxs
        have ht : ats = #[t] := by cases ats; simp_all
        have hx : args = #[x] := by cases args; simp_all
        split at h
        · rename_i el hel
          unfold lenT at h
          split at h
          · rename_i ad n cp hv
            obtain ⟨d, i, hr⟩ := row_of hΓ (known_of (t := t) hΓ (fun e => by rw [e] at hel; cases hel))
            have hd := hr.slice _ hel
            subst hd
            refine wp_of_run (w' := w) (v := .int .i64 n) ?_ (hk _ _ h)
            rw [hb _ _ rfl rfl, Sem.run_bind, ht, hx]
            simp only [List.map_toArray, List.map_cons, List.map_nil, hv, run_len_slice hr.und, Result.andThen_ok, Sem.run_pure]
          · exact h.elim
        · simp only [hargs] at h
          exact wp_of_opT (hb _ _ rfl rfl) h hk
      · exact h.elim
    all_goals first
      | (simp only [hargs] at h; exact wp_of_opT (hb _ _ rfl rfl) h hk)
      | exact h.elim
theorem op_wp {o : Oper} {a : Act} {w : World} {k : VW} {next : Act → World → Prop} {Q : Exit → Act → World → Prop} (hΓ : CtxOk P Γ) (h : trOp P Γ o (envA a) w k)
    (hk : ∀ v w', k v w' → next (a.put o.dst v) w') : o.wp P a w next Q := by
  unfold trOp at h
  split at h
  case h_1 x ho => exact wp_of_run (w' := w) (by simp only [execOp, ho, ev_envA]; rfl) (hk _ _ h)
  case h_2 x ho => exact wp_of_run (w' := w) (by simp only [execOp, ho, ev_envA]; rfl) (hk _ _ h)
  case h_3 c x y ho =>
    simp only [ev_envA] at h
    unfold pickT at h
    split at h
    · rename_i b hb
      exact wp_of_run (w' := w) (by simp only [execOp, ho, hb, asBool, Sem.run_bind, Sem.run_pure, Result.andThen_ok]) (hk _ _ h)
    · exact h.elim
  case h_4 t ho =>
    split at h
    · rename_i z hz
      obtain ⟨d, i, hr⟩ := row_of hΓ (known_of (t := t) hΓ (fun e => by rw [e] at hz; cases hz))
      obtain ⟨v, hv, rfl⟩ := hr.zero _ hz
      exact wp_of_run (by simp only [execOp, ho, Sem.run_bind, run_alloc hr.info hv, Result.andThen_ok, Sem.run_pure]) (hk _ _ h)
    · exact h.elim
  case h_5 t x ho =>
    simp only [ev_envA] at h
    exact wp_of_run (by simp only [execOp, ho, Sem.run_bind, run_box, Result.andThen_ok, Sem.run_pure]) (hk _ _ h)
  case h_6 t parts ho =>
    split at h
    · rename_i z fs hz hf
      obtain ⟨d, i, hr⟩ := row_of hΓ (known_of (t := t) hΓ (fun e => by rw [e] at hz; cases hz))
      obtain ⟨v, hv, rfl⟩ := hr.zero _ hz
      obtain ⟨fields, rfl, hall, rfl⟩ := hr.fields _ hf
      split at h
      · rename_i ps hp
        unfold bldT at h
        split at h
        · rename_i cs hc
          have hrun := run_build (w := w) hr.und hr.info hv hall hp hc
          have he : (parts.map fun x => (x.1, a.eval x.2)) = (parts.toList.map fun p => (p.1, ev (envA a) p.2)).toArray := by rw [ev_envA]; cases parts; simp
          exact wp_of_run (w' := w) (by simp only [execOp, ho, Sem.run_bind, he, hrun, Result.andThen_ok, Sem.run_pure]) (hk _ _ h)
        · exact h.elim
      · exact h.elim
    · exact h.elim
  case h_7 t n parts ho =>
    split at h
    · rename_i el hel
      obtain ⟨d, it, hrt⟩ := row_of hΓ (known_of (t := t) hΓ (fun e => by rw [e] at hel; cases hel))
      obtain rfl := hrt.slice _ hel
      obtain ⟨h1, h⟩ := cond_F h
      simp only [Bool.and_eq_true] at h1
      obtain ⟨de, i, hr⟩ := row_of hΓ h1.2
      split at h
      · rename_i z ps hz hp
        unfold bslT at h
        split at h
        · rename_i cs hc
          rw [hr.size] at hz hp hc h1
          have hz' : n * i.size = 0 ∧ z = #[] ∨ n * i.size ≠ 0 ∧ ∃ v, i.zero = some v ∧ v.cells = z := by
            cases h0 : Nat.beq (n * i.size) 0
            · rw [h0] at hz
              exact .inr ⟨fun e => (by rw [e] at h0; cases h0), hr.zero _ hz⟩
            · rw [h0] at hz
              simp only [cond_true, Option.some.injEq] at hz
              exact .inl ⟨Nat.eq_of_beq_eq_true h0, hz.symm⟩
          have hrun := run_buildSlice (w := w) hrt.und hr.info (Nat.le_of_ble_eq_true h1.1) hz' hp hc
          have he : (parts.map fun x => (x.1, a.eval x.2)) = (parts.toList.map fun p => (p.1, ev (envA a) p.2)).toArray := by rw [ev_envA]; cases parts; simp
          exact wp_of_run (by simp only [execOp, ho, Sem.run_bind, he, hrun, Result.andThen_ok, Sem.run_pure]) (hk _ _ h)
        · exact h.elim
      · exact h.elim
    · exact h.elim
  case h_8 t x ho =>
    simp only [ev_envA] at h
    obtain ⟨h1, h⟩ := cond_F h
    obtain ⟨d, i, hr⟩ := row_of hΓ h1
    rw [hr.agg, hr.size] at h
    cases hg : isAggD d
    · rw [hg] at h
      simp only [cond_false] at h
      unfold ldT at h
      split at h
      · rename_i ad hx
        split at h
        · rename_i v hv
          exact wp_of_run (w' := w) (by simp only [execOp, ho, Sem.run_bind, hx, run_loadAt1 hr.und hg hv, Result.andThen_ok, Sem.run_pure]) (hk _ _ h)
        · exact h.elim
      · exact h.elim
    · rw [hg] at h
      simp only [cond_true] at h
      unfold ldsT at h
      split at h
      · rename_i ad hx
        split at h
        · rename_i vs hv
          exact wp_of_run (w' := w) (by simp only [execOp, ho, Sem.run_bind, hx, run_loadAtN hr.und hr.info hg hv, Result.andThen_ok, Sem.run_pure]) (hk _ _ h)
        · exact h.elim
      · exact h.elim
  case h_9 t x y ho =>
    simp only [ev_envA] at h
    obtain ⟨h1, h⟩ := cond_F h
    obtain ⟨d, i, hr⟩ := row_of hΓ h1
    rw [hr.agg, hr.size] at h
    have fin : ∀ w', (Instr.storeAt t (a.eval x) (a.eval y)).run P w = .ok () w' → k undef w' → o.wp P a w next Q := fun w' hr hkk => by
      unfold Oper.wp
      simp only [execOp, ho, Sem.run_bind, hr, Result.andThen_ok, Sem.run_pure]
      exact hk _ _ hkk
    cases hg : isAggD d
    · rw [hg] at h
      simp only [cond_false] at h
      obtain ⟨h2, h⟩ := cond_F h
      have hs : i.size = 1 := Nat.eq_of_beq_eq_true h2
      unfold stT at h
      split at h
      · rename_i ad hx
        obtain ⟨c1, c2, c3, h⟩ := h
        exact fin _ (by rw [hx]; exact run_storeAt1 hr.info hs c1 c2 c3) h
      · exact h.elim
    · rw [hg] at h
      simp only [cond_true] at h
      unfold stsT at h
      split at h
      · rename_i ad hx
        obtain ⟨c1, h⟩ := h
        split at h
        · rename_i w' hw
          exact fin _ (by rw [hx]; exact run_storeAtN hr.info c1 hw) h
        · exact h.elim
      · exact h.elim
  case h_10 x ho =>
    simp only [ev_envA] at h
    unfold nilT at h
    split at h
    · rename_i ad hx; exact wp_of_run (w' := w) (by simp only [execOp, ho, hx, Sem.run_pure]) (hk _ _ h)
    · rename_i f x y hx; exact wp_of_run (w' := w) (by simp only [execOp, ho, hx, Sem.run_pure]) (hk _ _ h)
    · rename_i name x y hx
      unfold nimT at h
      split at h
      · rename_i t v hf
        exact wp_of_run (w' := w) (by simp [execOp, ho, hx, hf, h.1 w]) (hk _ _ h.2)
      · exact h.elim
    · rename_i t x hx; exact wp_of_run (w' := w) (by simp only [execOp, ho, hx, Sem.run_pure]) (hk _ _ h)
    · exact h.elim
  case h_11 op t x y yt ho =>
    simp only [ev_envA] at h
    cases hi : (Γ.ti t).isInt
    · rw [hi] at h
      simp only [cond_false] at h
      exact wp_of_opT (by simp only [execOp, ho]) h hk
    · rw [hi] at h
      simp only [cond_true] at h
      unfold binT at h
      split at h
      · rename_i kx p ky q hx hy
        obtain ⟨rfl, h⟩ := h
        split at h
        · rename_i r hr
          exact wp_of_run (w' := w) (by simp only [execOp, ho, hx, hy, Sem.run_bind, run_eqGuardI, Result.andThen_ok, run_binI hr, Sem.run_pure]) (hk _ _ h)
        · exact h.elim
      · exact h.elim
  case h_12 op t x ho =>
    simp only [ev_envA] at h
    split at h
    · unfold notT at h
      split at h
      · rename_i b hb
        exact wp_of_run (w' := w) (by simp only [execOp, ho, hb, Op.unary, Sem.run_bind, Sem.run_pure, Result.andThen_ok]) (hk _ _ h)
      · exact h.elim
    · exact wp_of_opT (by simp only [execOp, ho]) h hk
  case h_13 src dst x ho =>
    simp only [ev_envA] at h
    split at h
    · rename_i kx ky h1 h2
      obtain ⟨d1, i1, r1⟩ := row_of hΓ (known_of (t := src) hΓ (fun e => by rw [e] at h1; cases h1))
      obtain ⟨d2, i2, r2⟩ := row_of hΓ (known_of (t := dst) hΓ (fun e => by rw [e] at h2; cases h2))
      obtain rfl := r1.intK _ h1
      obtain rfl := r2.intK _ h2
      unfold cviT at h
      split at h
      · rename_i kk n hn
        exact wp_of_run (w' := w) (by simp [execOp, ho, hn, convert, underlying, r1.und, r2.und, Conv.intToInt]) (hk _ _ h)
      · exact h.elim
    · exact wp_of_opT (by simp only [execOp, ho]) h hk
  case h_14 t x ho =>
    simp only [ev_envA] at h
    obtain ⟨h1, h⟩ := cond_F h
    simp only [Bool.and_eq_true, Bool.not_eq_true'] at h1
    obtain ⟨d, i, hr⟩ := row_of hΓ h1.1
    refine wp_of_run (w' := w) ?_ (hk _ _ h)
    have hnd := hr.iface h1.2
    have hd := hr.und
    simp only [execOp, ho, Instr.makeInterface, underlying, Sem.run_bind, run_program, Result.andThen_ok, hd, Sem.run_pure]
  case h_15 fn f c ho =>
    simp only [ev_envA] at h
    refine wp_of_run (w' := w) ?_ (hk _ _ h)
    simp only [execOp, ho, Instr.makeFunc, Sem.run_bind, Sem.run_pure, Result.andThen_ok]
    cases f; cases c; simp
  case h_16 t r ho => simp only [ev_envA] at h; exact wp_of_opT (by simp only [execOp, ho]) h hk
  case h_17 t l c ho => simp only [ev_envA] at h; exact wp_of_opT (by simp only [execOp, ho]) h hk
  case h_18 t x lo hi mx ho => simp only [ev_envA] at h; exact wp_of_opT (by simp only [execOp, ho]) h hk
  case h_19 s x f ho =>
    simp only [ev_envA] at h
    split at h
    · rename_i off size agg hp
      obtain ⟨d, i, hr⟩ := row_of hΓ (known_of (t := s) hΓ (fun e => by rw [e] at hp; simp at hp))
      obtain ⟨fs, fd, dd, rfl, hf, hdd, rfl, hs, rfl⟩ := hr.places _ _ _ _ hp
      cases h0 : Nat.beq size 0
      · rw [h0] at h
        simp only [cond_false] at h
        have hsz : size ≠ 0 := fun e => by subst e; cases h0
        unfold fadT at h
        split at h
        · rename_i b o' hx
          exact wp_of_run (w' := w) (by simp only [execOp, ho, hx, Sem.run_bind, run_fieldAt hr.und hf hdd hs hsz, Sem.run_pure, Result.andThen_ok]) (hk _ _ h)
        · exact h.elim
      · rw [h0] at h; exact h.elim
    · exact h.elim
  case h_20 t x f ho =>
    simp only [ev_envA] at h
    split at h
    · rename_i off size agg hp
      obtain ⟨d, i, hr⟩ := row_of hΓ (known_of (t := t) hΓ (fun e => by rw [e] at hp; simp at hp))
      obtain ⟨fs, fd, dd, rfl, hf, hdd, rfl, rfl, rfl⟩ := hr.places _ _ _ _ hp
      unfold fldT at h
      split at h
      · rename_i cs hx
        have go : ∀ v, (bif isAggD dd then some (Value.agg (cs.extract fd.offset (fd.offset + sizeB P fd.type))) else cs[fd.offset]?) = some v → k v w → o.wp P a w next Q := fun v hv hkk => by
          refine wp_of_run (w' := w) (v := v) ?_ (hk _ _ hkk)
          simp only [execOp, ho, hx, Sem.run_bind]
          rw [run_field hr.und hf hdd hv]
          rfl
        cases ha : isAggD dd
        · rw [ha] at h go
          simp only [cond_false] at h go
          split at h
          · rename_i v hv
            exact go v hv h
          · exact h.elim
        · rw [ha] at h go
          simp only [cond_true] at h go
          exact go _ rfl h
      · exact h.elim
    · exact h.elim
  case h_21 t x i ho =>
    simp only [ev_envA] at h
    split at h
    · rename_i el hel
      obtain ⟨d, it, hrt⟩ := row_of hΓ (known_of (t := t) hΓ (fun e => by rw [e] at hel; cases hel))
      obtain rfl := hrt.slice _ hel
      obtain ⟨h1, h⟩ := cond_F h
      obtain ⟨de, ie, hr⟩ := row_of hΓ h1
      rw [hr.size] at h
      unfold ixaT at h
      split at h
      · rename_i b o' n c kk j hx hi
        obtain ⟨h0, h1, h⟩ := h
        exact wp_of_run (w' := w) (by simp only [execOp, ho, hx, hi, Sem.run_bind, run_indexAt hrt.und hr.info h0 h1, Sem.run_pure, Result.andThen_ok]) (hk _ _ h)
      · exact h.elim
    · exact wp_of_opT (by simp only [execOp, ho]) h hk
  case h_22 t x i ho => simp only [ev_envA] at h; exact wp_of_opT (by simp only [execOp, ho]) h hk
  case h_23 t x i ok ho => simp only [ev_envA] at h; exact wp_of_opT (by simp only [execOp, ho]) h hk
  case h_24 t m x v ho => simp only [ev_envA] at h; exact wp_of_opU (by simp only [execOp, ho]) h (fun w' hw => hk _ _ hw)
  case h_25 t i ho =>
    simp only [ev_envA] at h
    unfold extT at h
    split at h
    · rename_i vs hv
      split at h
      · rename_i x hx
        exact wp_of_run (w' := w) (by simp only [execOp, ho, hv, Instr.extract, hx, Sem.run_bind, Sem.run_pure, Result.andThen_ok]) (hk _ _ h)
      · exact h.elim
    · exact h.elim
  case h_26 c ho => exact call_wp hΓ ho h hk
  case h_27 => exact h.elim
end Go.PT
