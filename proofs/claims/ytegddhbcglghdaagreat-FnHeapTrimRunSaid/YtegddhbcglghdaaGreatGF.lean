/- The reference at work: runs. -/
import Derived.Test.YtegddhbcglghdaaGreatGE
/- The reference's heap at work: an operation. -/
set_option linter.unusedVariables false
set_option linter.unusedSimpArgs false
namespace Go.PT
attribute [local irreducible] ldT ldsT stT stsT allocT boxT bldT bslT nilT fadT ixaT fldT extT lenT pickT binT notT cviT opT opU condT clT clvT ivT loopT arT ndT World.cell? World.frozen? World.alloc World.drew World.setCell Blk Cells Sl
theorem do_none {p : Pg} {h : Hp} {op : Int × Int} {args : List V} (hm : madeV op args = none) : doH p h op args =
    if op.1 = 2 then pushH h (pairAt (nowC h).temps op.2)
    else if op.1 = 3 then setT h h.now op.2 (pairAt args 0)
    else if op.1 = 7 then setPc h op.2
    else if op.1 = 8 then (if (pairAt args 0).1 = 0 ∨ pairAt args 0 = (1, 0) then setPc h op.2 else h)
    else if op.1 = 9 then callH p h op.2 args
    else if op.1 = 10 then retH h (pairAt args 0)
    else if op.1 = 11 then pushH h (2, h.now)
    else if op.1 = 12 ∨ op.1 = 13 ∨ op.1 = 17 ∨ op.1 = 18 then pushH h (lookV h op (pairAt args 0).2)
    else if op.1 = 14 then pokeH h (pairAt args 0).2 op.2 (pairAt args 1)
    else if op.1 = 15 then backH h (pairAt args 0).2 (pairAt args 1)
    else if op.1 = 16 then sayH h (pairAt args 0) else h := by
  unfold doH; rw [hm]
/-- What is known where an operation is done. -/
structure DoK (p : Pg) (h : Hp) (op : Int × Int) (args : List V) : Prop where
  D : DoPre p h op args
  n0 : 0 ≤ h.now
  n1 : h.now < h.calls.length
  room : (nowC h).stack.length ≤ 6
  snd : (nowC h).sender < h.calls.length
  one : op.1 = 3 ∨ op.1 = 8 ∨ op.1 = 10 ∨ op.1 = 16 ∨ op.1 = 12 ∨ op.1 = 13 ∨ op.1 = 17 ∨ op.1 = 18 → 1 ≤ args.length
  two : op.1 = 5 ∨ op.1 = 6 ∨ op.1 = 14 ∨ op.1 = 15 → 2 ≤ args.length
  tmp : op.1 = 2 ∨ op.1 = 3 → 0 ≤ op.2 ∧ op.2 < (nowC h).temps.length
  jmp : op.1 = 13 ∨ op.1 = 14 → 0 ≤ op.2
  nn : op.1 ≠ 13 ∧ op.1 ≠ 14 ∧ op.1 ≠ 1 ∧ op.1 ≠ 2 ∧ op.1 ≠ 3 ∧ op.1 ≠ 7 ∧ op.1 ≠ 8 ∧ op.1 ≠ 9 → op.2 = 0
  met : op.1 = 9 → 0 ≤ op.2 ∧ op.2 < p.length ∧ (args.length : Int) = (methAt p op.2).args
  isC : op.1 = 12 ∨ op.1 = 13 ∨ op.1 = 17 ∨ op.1 = 18 ∨ op.1 = 14 ∨ op.1 = 15 → 0 ≤ (pairAt args 0).2 ∧ (pairAt args 0).2 < h.calls.length
  add : op.1 = 5 → 2 ≤ args.length ∧ 0 ≤ (pairAt args 0).2 ∧ (pairAt args 0).2 ≤ 999 ∧ 0 ≤ (pairAt args 1).2 ∧ (pairAt args 1).2 ≤ 999
  val0 : 1 ≤ args.length → (pairAt args 0).1 = 2 → 0 ≤ (pairAt args 0).2 ∧ (pairAt args 0).2 < h.calls.length
theorem DoPre.known {p : Pg} {h : Hp} {op : Int × Int} {args : List V} (D : DoPre p h op args) : DoK p h op args := by
  have H := D.ok
  have h0 := H.now0 D.run
  have h1 := H.now2
  have hf := H.at h0 h1
  have hl := D.len
  have hop := D.isOp
  have tk := takes_range H.prog op
  have t1 : op.1 = 3 ∨ op.1 = 8 ∨ op.1 = 10 ∨ op.1 = 16 → (takes p op).1 = 1 := fun hc => by unfold takes; rcases hc with h | h | h | h <;> simp [h]
  have t2 : op.1 = 12 ∨ op.1 = 13 ∨ op.1 = 17 ∨ op.1 = 18 → (takes p op).1 = 1 := fun hc => by unfold takes; rcases hc with h | h | h | h <;> simp [h]
  have t3 : op.1 = 5 ∨ op.1 = 6 ∨ op.1 = 14 ∨ op.1 = 15 → (takes p op).1 = 2 := fun hc => by unfold takes; rcases hc with h | h | h | h <;> simp [h]
  have two : op.1 = 5 ∨ op.1 = 6 ∨ op.1 = 14 ∨ op.1 = 15 → 2 ≤ args.length := fun hc => by have := t3 hc; omega
  have one : op.1 = 3 ∨ op.1 = 8 ∨ op.1 = 10 ∨ op.1 = 16 ∨ op.1 = 12 ∨ op.1 = 13 ∨ op.1 = 17 ∨ op.1 = 18 → 1 ≤ args.length := fun hc => by
    by_cases hc' : op.1 = 3 ∨ op.1 = 8 ∨ op.1 = 10 ∨ op.1 = 16
    · have := t1 hc'; omega
    · have := t2 (by omega); omega
  have isK : op.1 = 12 ∨ op.1 = 13 ∨ op.1 = 17 ∨ op.1 = 18 ∨ op.1 = 14 ∨ op.1 = 15 → (pairAt args 0).1 = 2 := fun hc => by
    have hk := D.kinds
    unfold kindsOk at hk
    rw [if_neg (by omega), if_pos hc] at hk
    simpa using hk
  refine ⟨D, h0, h1, by have := hf.stack; have : ((nowC h).stack.length : Int) ≤ 6 := this; omega, hf.s1, one, two, fun hc => ?_, fun hc => ?_, fun hc => ?_, fun hc => ?_, fun hc => ?_, fun hc => ?_, fun hn h2 => ?_⟩
  · unfold opOk at hop
    rw [if_neg (by omega), if_pos hc, inB_iff] at hop
    have : ((nowC h).temps.length : Int) = (methAt p (nowC h).method).temps := hf.temps
    omega
  · unfold opOk at hop
    rw [if_neg (by omega), if_neg (by omega), if_neg (by omega), if_neg (by omega), if_pos hc, inB_iff] at hop
    omega
  · unfold opOk at hop
    rw [if_neg (by omega), if_neg (by omega), if_neg (by omega), if_neg (by omega), if_neg (by omega), Bool.and_eq_true, decide_eq_true_eq] at hop
    exact hop.2
  · unfold opOk at hop
    rw [if_neg (by omega), if_neg (by omega), if_neg (by omega), if_pos hc] at hop
    have ht : takes p op = ((methAt p op.2).args, 1) := by unfold takes; simp [hc, hop]
    rw [ht] at hl
    rw [inB_iff] at hop
    exact ⟨hop.1, by omega, hl⟩
  · have h2 := isK hc
    have : 1 ≤ args.length := by
      by_cases hc' : op.1 = 14 ∨ op.1 = 15
      · have := two (by omega); omega
      · exact one (by omega)
    exact valOk_call (args_at D.vals (i := 0) (by omega) (by omega)) h2
  · have hl2 := two (by omega)
    have hk := D.kinds
    unfold kindsOk at hk
    rw [if_pos hc, Bool.and_eq_true, decide_eq_true_eq, decide_eq_true_eq] at hk
    have a := valOk_num (args_at D.vals (i := 0) (by omega) (by omega)) hk.1
    have b := valOk_num (args_at D.vals (i := 1) (by omega) (by omega)) hk.2
    exact ⟨hl2, a.1, a.2, b.1, b.2⟩
  · exact valOk_call (args_at D.vals (i := 0) (by omega) (by omega)) h2
theorem c_do {L : Lab} {w : World} {m n : Nat} {u vc vs ua : Value} {p : Pg} {h : Hp} {op : Int × Int} {args : List V} {R : VW} (S : SM L w m [u] h vc vs) (hp : Sl kMeth (Un L n) w [] p u) (hn : n ≤ w.heap.size) (ha : Sl kPair (Un L n) w [] args ua) (D : DoPre p h op args)
    (hsd : h.said.length + 1 ≤ 1073741824) (hR : ∀ w' L' vc' vs', Mut L w L' w' → SM L' w' m [u] (doH p h op args) vc' vs' → R (.tuple #[]) w') : clT PR 220 [.pointer (some ⟨m, 0, none⟩), .agg #[.int .i64 op.1, .int .i64 op.2], ua] w R := by
  have K := D.known
  have h0 := K.n0
  have h1 := K.n1
  obtain ⟨hcl, hst⟩ := hok_small D.ok
  refine Fspec_l11Heap_do.cl ?_
  unfold Fspec_l11Heap_do
  have E := En.init S.lim
  refine E.box (fun b1 w1 E e1 => ?_)
  replace S := S.ext e1
  refine c_now S h0 h1 (fun b o ut us F => ?_)
  replace E := E.drew
  replace S := S.drew
  repeat (((refine E.lds (by (exact .head _)) (by exact rfl) ?_)))
  refine c_l11Made (E.unAny ha hn) K.add (fun h6 => K.two (.inr (.inl h6))) (fun w2 e2 => ?_)
  replace E := E.ext e2
  replace S := S.ext e2
  replace F := F.ext e2
  refine ext_of rfl ?_
  refine ext_of rfl ?_
  refine E.als (vs := [.int .i64 (madeD op args).1, .int .i64 (madeD op args).2]) rfl rfl rfl (fun u hu => List.all_eq_true.mp rfl u hu) (fun b3 w3 E e3 => ?_)
  replace S := S.ext e3
  replace F := F.ext e3
  clear e1 e2 e3
  refine cond_of (fun hm => ?_) (fun hm => ?_)
  · obtain ⟨v, hv⟩ := Option.isSome_iff_exists.mp hm
    have hD : madeD op args = v := by unfold madeD; rw [hv]; rfl
    rw [hD] at E
    replace E := E.drew
    replace S := S.drew
    replace F := F.drew
    repeat (first | (first | refine fad_of ?_ | refine nil_of ?_) | (first | refine E.lds (by (exact .head _)) (by exact rfl) ?_ | refine ld_of (F.cells.at _ (by exact rfl)) ?_))
    refine E.bsl rfl rfl rfl (fun b4 w4 E e4 => ?_)
    replace S := S.ext e4
    replace F := F.ext e4
    refine ⟨by (repeat (((refine ld_of (F.cells.at _ (by exact rfl)) ?_)))); rfl, ?_⟩
    refine push_fin S F h0 h1 (E.blk (.head _)) rfl (by have := K.room; omega) (by kernel_rfl) (fun w5 L5 m5 S => ?_)
    refine hR _ _ vc vs (E.call m5).mu ?_
    unfold doH
    rw [hv]
    exact S
  replace hm : madeV op args = none := by simpa using hm
  have dn := do_none (p := p) (h := h) hm
  repeat (first | (first | refine fad_of ?_ | refine eql_of ?_) | ((refine E.ld (by first | exact .head _ | exact .tail _ (.head _)) (by exact rfl) ?_)))
  refine condP_of (fun c2 => ?_) (fun c2 => ?_)
  · replace E := E.drew
    replace S := S.drew
    replace F := F.drew
    repeat (first | (first | refine fad_of ?_ | refine nil_of ?_) | (first | refine E.ld (by first | exact .head _ | exact .tail _ (.head _)) (by exact rfl) ?_ | refine ld_of (F.cells.at _ (by exact rfl)) ?_))
    obtain ⟨a0, a1⟩ := K.tmp (.inl c2)
    refine pair_ix (F.temps.any (q := [])) a0 a1 (fun b5 o5 hc5 => ?_)
    repeat (((apply lds_of; (case h => iterate 14 (first | done | assumption)); (case hn => exact rfl))))
    refine E.bsl rfl rfl rfl (fun b4 w4 E e4 => ?_)
    replace S := S.ext e4
    replace F := F.ext e4
    refine ⟨by (repeat (((refine ld_of (F.cells.at _ (by exact rfl)) ?_)))); rfl, ?_⟩
    refine push_fin (v := pairAt (nowC h).temps op.2) S F h0 h1 (E.blk (.head _)) rfl (by have := K.room; omega) (by kernel_rfl) (fun w5 L5 m5 S => ?_)
    exact hR _ _ vc vs (E.call m5).mu (by rw [dn, if_pos c2]; exact S)
  repeat (((refine eql_of ?_)))
  refine condP_of (fun c3 => ?_) (fun c3 => ?_)
  · replace E := E.drew
    replace S := S.drew
    replace F := F.drew
    have hl := K.one (.inl c3)
    obtain ⟨a0, a1⟩ := K.tmp (.inr c3)
    repeat (first | (first | refine fad_of ?_ | refine nil_of ?_) | (first | refine E.ld (by first | exact .head _ | exact .tail _ (.head _)) (by exact rfl) ?_ | refine ld_of (F.cells.at _ (by exact rfl)) ?_))
    refine pair_ix (E.unAny (q := []) ha hn) (by omega) (by omega) (fun b5 o5 hc5 => ?_)
    repeat (((apply lds_of; (case h => iterate 14 (first | done | assumption)); (case hn => exact rfl))))
    refine F.temps.ixo_of rfl a0 a1 (fun x b6 o6 es mm hx hat ho hK hc6 => ?_)
    refine S.stTemp (v := pairAt args 0) F h0 h1 hat a0 a1 (fun w5 m5 S F => ?_)
    exact hR _ _ vc vs (E.call m5).mu (by rw [dn, if_neg c2, if_pos c3]; exact S)
  repeat (((refine eql_of ?_)))
  refine condP_of (fun c7 => ?_) (fun c7 => ?_)
  · repeat (first | (first | refine fad_of ?_ | refine nil_of ?_) | ((refine E.ld (by first | exact .head _ | exact .tail _ (.head _)) (by exact rfl) ?_)))
    refine S.st F h0 h1 rfl (by decide) (c' := { nowC h with pc := op.2 }) rfl F.temps F.stack (fun w5 m5 S F => ?_)
    exact hR _ _ vc vs (E.call m5).mu (by rw [dn, if_neg c2, if_neg c3, if_pos c7]; exact S)
  repeat (((refine eql_of ?_)))
  refine condP_of (fun c8 => ?_) (fun c8 => ?_)
  · replace E := E.drew
    replace S := S.drew
    replace F := F.drew
    have hl := K.one (.inr (.inl c8))
    refine pair_ix (E.unAny (q := []) ha hn) (by omega) (by omega) (fun b5 o5 hc5 => ?_)
    repeat (first | (first | refine fad_of ?_ | refine eql_of ?_) | ((apply ld_of; (case h => iterate 14 (first | done | exact Cells.at (by assumption) _ (by exact rfl))))))
    refine condP_of (fun z => ?_) (fun z => ?_)
    · repeat (first | (first | refine fad_of ?_ | refine nil_of ?_) | ((refine E.ld (by first | exact .head _ | exact .tail _ (.head _)) (by exact rfl) ?_)))
      refine S.st F h0 h1 rfl (by decide) (c' := { nowC h with pc := op.2 }) rfl F.temps F.stack (fun w5 m5 S F => ?_)
      exact hR _ _ vc vs (E.call m5).mu (by rw [dn, if_neg c2, if_neg c3, if_neg c7, if_pos c8, if_pos (.inl z)]; exact S)
    · refine pair_ix (E.unAny (q := []) ha hn) (by omega) (by omega) (fun b6 o6 hc6 => ?_)
      repeat (((apply lds_of; (case h => iterate 14 (first | done | assumption)); (case hn => exact rfl))))
      refine c_l11Num (fun w4 e4 => ?_)
      replace E := E.ext e4
      replace S := S.ext e4
      replace F := F.ext e4
      refine ⟨lds_of (hc6.ext e4) rfl rfl, ?_⟩
      refine eqlP_of (u := pairAt args 0) (v := (1, 0)) (by kernel_rfl) ?_
      refine condP_of (fun z2 => ?_) (fun z2 => ?_)
      · repeat (first | (first | refine fad_of ?_ | refine nil_of ?_) | ((refine E.ld (by first | exact .head _ | exact .tail _ (.head _)) (by exact rfl) ?_)))
        refine S.st F h0 h1 rfl (by decide) (c' := { nowC h with pc := op.2 }) rfl F.temps F.stack (fun w5 m5 S F => ?_)
        exact hR _ _ vc vs (E.call m5).mu (by rw [dn, if_neg c2, if_neg c3, if_neg c7, if_pos c8, if_pos (.inr z2)]; exact S)
      · exact hR _ _ vc vs E.mu (by rw [dn, if_neg c2, if_neg c3, if_neg c7, if_pos c8, if_neg (fun h => h.elim z z2)]; exact S)
  repeat (((refine eql_of ?_)))
  refine condP_of (fun c9 => ?_) (fun c9 => ?_)
  · obtain ⟨k0, k1, kl⟩ := K.met c9
    have hm := methOk_iff.mp (prog_meth D.ok.prog k0 k1)
    have hb1 := D.ok.born1
    have hb2 := D.ok.born2
    have q1 := hm.a0
    have q2 := hm.a1
    have q3 := hm.t0
    have q4 := hm.t1
    repeat (first | ((refine fad_of ?_)) | ((refine E.ld (by first | exact .head _ | exact .tail _ (.head _)) (by exact rfl) ?_)))
    refine c_call S (E.un hp hn) (Nat.le_trans hn E.size) (E.un ha hn) k0 k1 (by omega) (by omega) (by omega) (by omega) (by omega) (by omega) (fun w5 L5 vc5 m5 S => ?_)
    exact hR _ _ vc5 vs (E.call m5).mu (by rw [dn, if_neg c2, if_neg c3, if_neg c7, if_neg c8, if_pos c9]; exact S)
  repeat (((refine eql_of ?_)))
  refine condP_of (fun c10 => ?_) (fun c10 => ?_)
  · have hl := K.one (.inr (.inr (.inl c10)))
    refine pair_ix (E.unAny (q := []) ha hn) (by omega) (by omega) (fun b5 o5 hc5 => ?_)
    repeat (((apply lds_of; (case h => iterate 14 (first | done | assumption)); (case hn => exact rfl))))
    refine c_ret (v := pairAt args 0) S h0 h1 K.snd (K.val0 hl) hsd (fun i i0 i1 => by have := hst i i0 i1; omega) (fun w5 L5 vs5 m5 S => ?_)
    exact hR _ _ vc vs5 (E.call m5).mu (by rw [dn, if_neg c2, if_neg c3, if_neg c7, if_neg c8, if_neg c9, if_pos c10]; exact S)
  repeat (((refine eql_of ?_)))
  refine condP_of (fun c11 => ?_) (fun c11 => ?_)
  · replace E := E.drew
    replace S := S.drew
    replace F := F.drew
    repeat (first | (first | refine fad_of ?_ | refine nil_of ?_) | (first | refine ld_of (S.cell (by exact rfl)) ?_ | refine ld_of (F.cells.at _ (by exact rfl)) ?_))
    refine bld_of (cs := #[.int .i64 2, .int .i64 h.now]) rfl ?_
    refine E.bsl rfl rfl rfl (fun b4 w4 E e4 => ?_)
    replace S := S.ext e4
    replace F := F.ext e4
    refine ⟨by (repeat (((refine ld_of (F.cells.at _ (by exact rfl)) ?_)))); rfl, ?_⟩
    refine push_fin (v := (2, h.now)) S F h0 h1 (E.blk (.head _)) rfl (by have := K.room; omega) (by kernel_rfl) (fun w5 L5 m5 S => ?_)
    exact hR _ _ vc vs (E.call m5).mu (by rw [dn, if_neg c2, if_neg c3, if_neg c7, if_neg c8, if_neg c9, if_neg c10, if_pos c11]; exact S)
  have look : (op.1 = 12 ∨ op.1 = 13 ∨ op.1 = 17 ∨ op.1 = 18) → Fspec_l11Heap_do.j1 (.pointer (some ⟨m, 0, none⟩)) ua (.pointer (some ⟨b1, 0, none⟩)) (.pointer (some ⟨b, o, none⟩)) (.int .i64 op.1) (.bool true) w3 R := by
    intro c12
    intro _
    obtain ⟨i0, i1⟩ := K.isC (by omega)
    have hl := K.one (by omega)
    have ho : 0 ≤ op.2 := by
      by_cases c13 : op.1 = 13
      · exact K.jmp (.inl c13)
      · rw [K.nn (by have := madeV (op := op); omega)]; omega
    replace E := E.drew
    replace S := S.drew
    replace F := F.drew
    repeat (first | (first | refine fad_of ?_ | refine nil_of ?_ | refine condT_true ?_) | (first | refine E.lds (by first | exact .head _ | exact .tail _ (.head _)) (by exact rfl) ?_ | refine ld_of (F.cells.at _ (by exact rfl)) ?_))
    refine pair_ix (E.unAny (q := []) ha hn) (by omega) (by omega) (fun b5 o5 hc5 => ?_)
    repeat (first | ((refine fad_of ?_)) | ((apply ld_of; (case h => iterate 14 (first | done | exact Cells.at (by assumption) _ (by exact rfl))))))
    refine c_look S i0 i1 ho (fun w4 e4 => ?_)
    replace E := E.ext e4
    replace S := S.ext e4
    replace F := F.ext e4
    refine ⟨by (repeat (((refine ld_of (F.cells.at _ (by exact rfl)) ?_)))); rfl, ?_⟩
    refine E.bsl rfl rfl rfl (fun b6 w6 E e6 => ?_)
    replace S := S.ext e6
    replace F := F.ext e6
    refine ⟨by (repeat (((refine ld_of (F.cells.at _ (by exact rfl)) ?_)))); rfl, ?_⟩
    refine S.app1 (v := lookV h op (pairAt args 0).2) (by kernel_rfl) F h0 h1 rfl (E.blk (.head _)) rfl (by have := K.room; omega) (fun v' w' L' m' S F hs => ?_)
    replace E := E.call m'
    repeat ((first | refine fad_of ?_ | refine nil_of ?_))
    refine S.st F h0 h1 hs.one (by decide) (c' := pushC (nowC h) (lookV h op (pairAt args 0).2)) rfl F.temps hs (fun w2 m2 S F => ?_)
    intro _
    exact hR _ _ vc vs (E.call m2).mu (by rw [dn, if_neg c2, if_neg c3, if_neg c7, if_neg c8, if_neg c9, if_neg c10, if_neg c11, if_pos c12]; exact S)
  repeat (((refine eql_of ?_)))
  refine condP_of (fun c12 => ?_) (fun c12 => ?_)
  · rw [decide_eq_true c12]; exact look (by omega)
  repeat (((refine eql_of ?_)))
  refine condP_of (fun c13 => ?_) (fun c13 => ?_)
  · rw [decide_eq_true c13]; intro _; exact look (by omega)
  repeat (((refine eql_of ?_)))
  refine condP_of (fun c17 => ?_) (fun c17 => ?_)
  · rw [decide_eq_true c17]; intro _; intro _; exact look (by omega)
  repeat (((refine eql_of ?_)))
  by_cases c18 : op.1 = 18
  · rw [decide_eq_true c18]; intro _; intro _; exact look (by omega)
  rw [decide_eq_false c18]
  intro _ _ _
  refine condT_false ?_
  have c12' : ¬ (op.1 = 12 ∨ op.1 = 13 ∨ op.1 = 17 ∨ op.1 = 18) := by omega
  repeat (((refine eql_of ?_)))
  refine condP_of (fun c14 => ?_) (fun c14 => ?_)
  · replace E := E.drew
    replace S := S.drew
    obtain ⟨i0, i1⟩ := K.isC (by omega)
    have hl := K.two (by omega)
    have ho := K.jmp (.inr c14)
    repeat (first | (first | refine fad_of ?_ | refine nil_of ?_) | (first | refine E.ld (by first | exact .head _ | exact .tail _ (.head _)) (by exact rfl) ?_ | refine ld_of (S.cell (by exact rfl)) ?_))
    refine pair_ix (E.unAny (q := []) ha hn) (by omega) (by omega) (fun b5 o5 hc5 => ?_)
    repeat (first | ((refine fad_of ?_)) | ((apply ld_of; (case h => iterate 14 (first | done | exact Cells.at (by assumption) _ (by exact rfl))))))
    clear F
    refine S.ix i0 i1 (fun b6 o6 ut6 us6 F => ?_)
    repeat (first | ((refine fad_of ?_)) | ((refine ld_of (F.cells.at _ (by exact rfl)) ?_)))
    refine F.temps.len_of ?_
    repeat (((refine lss_of ?_)))
    refine condP_of (fun hlt => ?_) (fun hlt => ?_)
    · replace E := E.drew
      replace S := S.drew
      replace F := F.drew
      repeat (first | (first | refine fad_of ?_ | refine nil_of ?_) | ((refine ld_of (S.cell (by exact rfl)) ?_)))
      refine pair_ix (E.unAny (q := []) ha hn) (by omega) (by omega) (fun b5 o5 hc5 => ?_)
      repeat (first | ((refine fad_of ?_)) | ((apply ld_of; (case h => iterate 14 (first | done | exact Cells.at (by assumption) _ (by exact rfl))))))
      clear F
      refine S.ix i0 i1 (fun b6 o6 ut6 us6 F => ?_)
      repeat (first | ((refine fad_of ?_)) | (first | refine E.ld (by first | exact .head _ | exact .tail _ (.head _)) (by exact rfl) ?_ | refine ld_of (F.cells.at _ (by exact rfl)) ?_))
      refine pair_ix (i := 1) (E.unAny (q := []) ha hn) (by omega) (by omega) (fun b7 o7 hc7 => ?_)
      repeat (((apply lds_of; (case h => iterate 14 (first | done | assumption)); (case hn => exact rfl))))
      refine F.temps.ixo_of rfl ho hlt (fun x b8 o8 es mm hx hat ho' hK hc8 => ?_)
      refine S.stTemp (v := pairAt args 1) F i0 i1 hat ho hlt (fun w5 m5 S F => ?_)
      intro _
      refine hR _ _ vc vs (E.call m5).mu ?_
      rw [dn, if_neg c2, if_neg c3, if_neg c7, if_neg c8, if_neg c9, if_neg c10, if_neg c11, if_neg c12', if_pos c14]
      unfold pokeH
      rw [if_pos hlt]
      exact S
    · intro _
      refine hR _ _ vc vs E.mu ?_
      rw [dn, if_neg c2, if_neg c3, if_neg c7, if_neg c8, if_neg c9, if_neg c10, if_neg c11, if_neg c12', if_pos c14]
      unfold pokeH
      rw [if_neg hlt]
      exact S
  repeat (((refine eql_of ?_)))
  refine condP_of (fun c15 => ?_) (fun c15 => ?_)
  · replace E := E.drew
    replace S := S.drew
    obtain ⟨i0, i1⟩ := K.isC (by omega)
    have hl := K.two (by omega)
    refine pair_ix (E.unAny (q := []) ha hn) (by omega) (by omega) (fun b5 o5 hc5 => ?_)
    repeat (first | ((refine fad_of ?_)) | ((apply ld_of; (case h => iterate 14 (first | done | exact Cells.at (by assumption) _ (by exact rfl))))))
    refine pair_ix (i := 1) (E.unAny (q := []) ha hn) (by omega) (by omega) (fun b7 o7 hc7 => ?_)
    repeat (((apply lds_of; (case h => iterate 14 (first | done | assumption)); (case hn => exact rfl))))
    refine c_back (v := pairAt args 1) S D.ok D.run i0 i1 (fun w5 L5 m5 S => ?_)
    intro _
    exact hR _ _ vc vs (E.call m5).mu (by rw [dn, if_neg c2, if_neg c3, if_neg c7, if_neg c8, if_neg c9, if_neg c10, if_neg c11, if_neg c12', if_neg c14, if_pos c15]; exact S)
  repeat (((refine eql_of ?_)))
  refine condP_of (fun c16 => ?_) (fun c16 => ?_)
  · have hl := K.one (by omega)
    refine pair_ix (E.unAny (q := []) ha hn) (by omega) (by omega) (fun b5 o5 hc5 => ?_)
    repeat (((apply lds_of; (case h => iterate 14 (first | done | assumption)); (case hn => exact rfl))))
    refine c_say (v := pairAt args 0) S (K.val0 hl) hsd (fun w5 L5 vs5 m5 S => ?_)
    intro _
    exact hR _ _ vc vs5 (E.call m5).mu (by rw [dn, if_neg c2, if_neg c3, if_neg c7, if_neg c8, if_neg c9, if_neg c10, if_neg c11, if_neg c12', if_neg c14, if_neg c15, if_pos c16]; exact S)
  · intro _
    exact hR _ _ vc vs E.mu (by rw [dn, if_neg c2, if_neg c3, if_neg c7, if_neg c8, if_neg c9, if_neg c10, if_neg c11, if_neg c12', if_neg c14, if_neg c15, if_neg c16]; exact S)
end Go.PT

/- The reference's heap at work: a step. -/
set_option linter.unusedVariables false
set_option linter.unusedSimpArgs false
namespace Go.PT
attribute [local irreducible] ldT ldsT stT stsT allocT boxT bldT bslT nilT fadT ixaT fldT extT lenT pickT binT notT cviT opT opU condT clT clvT ivT loopT arT ndT World.cell? World.frozen? World.alloc World.drew World.setCell Blk Cells Sl
/-- A row that is copied behind an empty one. -/
theorem clone_of {α : Type} {P : Program} {t ty sz : Nat} {f : α → List Value} {h1 : ∀ a, (f a).length = sz} {h2 : ∀ a, ∀ v ∈ f a, v.oneCell' = true} {A : Option Addr} {ys : List α} {x : Value} {ok : Ok} {p : List Nat} {w : World} {k : VW}
    (hc : appB P t (P.elem t) sz = true) (hx : Sl (Kd.flat sz f h1 h2) ok w p ys x) (hn : ys.length ≤ 1073741824)
    (hk : ∀ v' w' M, Ext w w' → Born w M → Lim M w' → Sl (Kd.flat sz f h1 h2) (Own M) w' [] ys v' → k v' w') : opT P (Builtin.append_ #[t, t] ty #[.slice A 0 0, x]) w k := by
  refine grow_row (xs := []) (L := noL) (q := []) hc Sl.none0 hx (by simpa using hn) (noL_lim w) (fun v' w' M g _ hs => ?_)
  refine hk v' w' M (g.fr.to (fun b _ e => by cases e)) (fun b q hb => ?_) g.lim hs
  rcases g.lx b with e | ⟨e, _⟩
  · rw [e] at hb; cases hb
  · exact e
theorem c_step {L : Lab} {w : World} {m n : Nat} {u vc vs : Value} {p : Pg} {h : Hp} {R : VW} (S : SM L w m [u] h vc vs) (hp : Sl kMeth (Un L n) w [] p u) (hn : n ≤ w.heap.size) (H : HOK p h) (hr : h.code = 0)
    (hsd : h.said.length + 1 ≤ 1073741824) (hR : ∀ w' L' vc' vs', Mut L w L' w' → SM L' w' m [u] (stepH p h) vc' vs' → R (.tuple #[]) w') : clT PR 162 [.pointer (some ⟨m, 0, none⟩)] w R := by
  have h0 := H.now0 hr
  have h1 := H.now2
  have hf := H.at h0 h1
  have hm := H.meth h0 h1
  have hpl := prog_len H.prog
  have tk := takes_range H.prog (opNow p h)
  have m0 : 0 ≤ (nowC h).method := hf.m0
  have m1 : (nowC h).method < p.length := hf.m1
  have pc0 : 0 ≤ (nowC h).pc := hf.pc0
  have pc1 : (nowC h).pc ≤ ((opsNow p h).length : Int) := hf.pc1
  have ho : (opsNow p h).length ≤ 14 := hm.ops
  have hst : ((nowC h).stack.length : Int) ≤ 6 := hf.stack
  refine Fspec_l11Heap_step.cl ?_
  unfold Fspec_l11Heap_step
  have E := En.init S.lim
  refine c_now S h0 h1 (fun b o ut us F => ?_)
  replace E := E.drew.drew
  replace S := S.drew.drew
  replace F := F.drew
  repeat (first | (first | refine fad_of ?_ | refine nil_of ?_) | (first | refine ld_of (S.cell (by exact rfl)) ?_ | refine ld_of (F.cells.at _ (by exact rfl)) ?_))
  refine methUn_ix (E.un hp hn) m0 m1 (fun b2 o2 uo hc2 hops => ?_)
  replace hops : Sl kPair (Un L n) _ [] (opsNow p h) uo := hops
  repeat (first | (first | refine fad_of ?_ | refine nil_of ?_ | refine geq_of ?_) | ((refine ld_of (F.cells.at _ (by exact rfl)) ?_)) | ((apply ld_of; (case h => iterate 14 (first | done | exact Cells.at (by assumption) _ (by exact rfl))))) | (refine Sl.len_of (by assumption) ?_))
  have stuck : ∀ {w' : World} {l} (E : En L w L w' l) (S : SM L w' m [u] h vc vs), stepH p h = { h with code := 2 } → nilT PR (.pointer (some ⟨m, 0, none⟩)) fun t31 => fadT 1 t31 fun t32 => fadT 4 t32 fun t33 => stT t33 (.int .i64 2) w' fun w2 => R (.tuple #[]) w2 := by
    intro w' l E S hs
    repeat ((first | refine fad_of ?_ | refine nil_of ?_))
    refine S.stM rfl (by simp) (h' := { h with code := 2 }) rfl S.calls S.said (fun w2 m2 _ S => ?_)
    exact hR _ _ _ _ (E.call m2).mu (hs ▸ S)
  refine condGe_of (fun hge => ?_) (fun hlt => ?_)
  · exact stuck E S (by unfold stepH; rw [if_pos hge])
  repeat (first | (first | refine fad_of ?_ | refine nil_of ?_) | ((refine ld_of (F.cells.at _ (by exact rfl)) ?_)))
  refine pair_ix (hops.unAny (q := []) (Nat.le_trans hn E.size)) pc0 hlt (fun b3 o3 hc3 => ?_)
  replace hc3 : Cells _ b3 o3 [.int .i64 (opNow p h).1, .int .i64 (opNow p h).2] := hc3
  repeat (((apply lds_of; (case h => iterate 14 (first | done | assumption)); (case hn => exact rfl))))
  refine E.als (vs := [.int .i64 (opNow p h).1, .int .i64 (opNow p h).2]) rfl rfl rfl (fun u hu => List.all_eq_true.mp rfl u hu) (fun b4 w4 E e4 => ?_)
  replace S := S.ext e4
  replace F := F.ext e4
  replace E := E.drew
  replace S := S.drew
  replace F := F.drew
  repeat ((first | refine fad_of ?_ | refine nil_of ?_))
  refine lds_of (S.blk.part 0 1 rfl) rfl ?_
  repeat (((refine E.lds (by (exact .head _)) (by exact rfl) ?_)))
  refine c_specTakes (op := opNow p h) (E.unAny hp hn) (by omega) (fun w5 e5 => ?_)
  replace E := E.ext e5
  replace S := S.ext e5
  replace F := F.ext e5
  clear e4 e5
  refine ext_of rfl ?_
  refine ext_of rfl ?_
  repeat (first | (first | refine fad_of ?_ | refine nil_of ?_) | ((refine ld_of (F.cells.at _ (by exact rfl)) ?_)))
  refine F.stack.len_of ?_
  repeat (first | ((refine lss_of ?_)) | ((refine sub_of (by (omega)) (by (omega)) ?_)))
  have hleft : ((nowC h).stack.length : Int) - (takes p (opNow p h)).1 = leftNow p h := rfl
  rw [hleft]
  refine condLt_of (fun hneg => ?_) (fun hnn => ?_)
  · exact stuck E S (by unfold stepH; rw [if_neg (by omega), if_pos (.inl hneg)])
  have hl6 : leftNow p h ≤ (nowC h).stack.length := by omega
  repeat (first | ((refine gtr_of ?_)) | ((refine add_of (by (omega)) (by (omega)) ?_)))
  refine condGt_of (fun hgt => ?_) (fun hle => ?_)
  · exact stuck E S (by unfold stepH; rw [if_neg (by omega), if_pos (.inr hgt)])
  refine E.bsl rfl rfl rfl (fun b6 w6 E e6 => ?_)
  replace S := S.ext e6
  replace F := F.ext e6
  repeat (first | (first | refine fad_of ?_ | refine nil_of ?_) | ((refine ld_of (F.cells.at _ (by exact rfl)) ?_)))
  refine sllE_of (q := []) (by kernel_rfl) free_any (F.stack.any (q := [])) hnn hl6 (fun v7 h7 => ?_)
  have ha7 : (nowC h).stack.drop (leftNow p h).toNat = argsNow p h := rfl
  rw [ha7] at h7
  have hal : ((argsNow p h).length : Int) = (takes p (opNow p h)).1 := by unfold argsNow; rw [List.length_drop]; omega
  refine clone_of (by kernel_rfl) h7 (by omega) (fun v8 w8 M8 e8 hb8 hl8 h8 => ?_)
  have ha := h8.unOf (q := []) (apart_of (S.lim) hb8)
  replace E := E.ext e8
  have hn8 := Nat.le_trans hn E.size
  replace S := S.ext e8
  replace F := F.ext e8
  clear e6 e8
  repeat (((refine E.lds (by first | exact .head _ | exact .tail _ (.head _)) (by exact rfl) ?_)))
  refine c_l11Kinds (op := opNow p h) (h8.any (q := [])) (fun h5 => ?_) (fun h1' => ?_) (fun w9 e9 => ?_)
  · have ht : (takes p (opNow p h)).1 = 2 := by unfold takes; simp [h5]
    omega
  · have ht : 1 ≤ (takes p (opNow p h)).1 := by unfold takes; rcases h1' with h | h | h | h | h | h <;> simp [h]
    omega
  have T : Mut L w8 L w9 := (Mut.refl (S.lim)).ext e9
  replace E := E.ext e9
  replace S := S.ext e9
  replace F := F.ext e9
  clear e9
  repeat (((refine not_of ?_)))
  refine condN_of (fun hk => ?_) (fun hk => ?_)
  · exact stuck E S (by unfold stepH; rw [if_neg (by omega), if_neg (by omega), if_pos hk])
  refine E.bsl rfl rfl rfl (fun b10 w10 E e10 => ?_)
  replace S := S.ext e10
  replace F := F.ext e10
  replace T := T.ext e10
  repeat (first | (first | refine fad_of ?_ | refine nil_of ?_) | ((refine ld_of (F.cells.at _ (by exact rfl)) ?_)))
  refine slrE_of (q := []) (by kernel_rfl) free_any (F.stack.any (q := [])) hnn hl6 (fun v11 h11 => ?_)
  refine clone_of (by kernel_rfl) h11 (by rw [List.length_take]; omega) (fun v12 w12 M12 e12 hb12 hl12 h12 => ?_)
  have hs12 := h12.inR (q := [0, h.now.toNat, 3]) (apart_of S.lim hb12)
  replace T := T.trans (Mut.join (q := [0, h.now.toNat, 3]) e12 S.lim hb12 hl12)
  replace E := E.join [0, h.now.toNat, 3] e12 hb12 hl12
  replace S := (S.ext e12).join (q := [0, h.now.toNat, 3]) hl12
  replace F := (F.ext e12).join (q := [0, h.now.toNat, 3]) (M := M12)
  clear e10 e12
  repeat ((first | refine fad_of ?_ | refine nil_of ?_))
  refine S.st F h0 h1 h12.one (by decide) (c' := { nowC h with stack := (nowC h).stack.take (leftNow p h).toNat }) rfl F.temps hs12 (fun w13 m13 S F => ?_)
  replace E := E.call m13
  replace T := T.trans m13
  repeat (first | (first | refine fad_of ?_ | refine nil_of ?_) | ((refine add_of (by (dsimp only; omega)) (by (dsimp only; omega)) ?_)) | ((refine ld_of (F.cells.at _ (by exact rfl)) ?_)))
  refine S.st F h0 (by rw [putC_len]; exact h1) rfl (by decide) (c' := { nowC h with stack := (nowC h).stack.take (leftNow p h).toNat, pc := (nowC h).pc + 1 }) rfl F.temps F.stack (fun w14 m14 S F => ?_)
  replace E := E.call m14
  replace T := T.trans m14
  repeat (((refine E.lds (by first | exact .head _ | exact .tail _ (.tail _ (.head _))) (by exact rfl) ?_)))
  have hT : putC (putC h h.now { nowC h with stack := (nowC h).stack.take (leftNow p h).toNat }) h.now { nowC h with stack := (nowC h).stack.take (leftNow p h).toNat, pc := (nowC h).pc + 1 } = tookH p h := by unfold tookH putC; simp [List.set_set]
  rw [hT] at S
  have D := step_pre H hr (by omega) (by omega) (by rw [hk]; decide)
  refine c_do S ((E.un hp hn).unUp hn8) T.size (ha.unMut T (Nat.le_refl _)) D hsd (fun w15 L15 vc15 vs15 m15 S => ?_)
  refine hR _ _ vc15 vs15 (E.call m15).mu ?_
  unfold stepH
  rw [if_neg (by omega), if_neg (by omega), if_neg (by rw [hk]; decide)]
  exact S
end Go.PT

/- The reference's heap: copies, runs, a new one. -/
set_option linter.unusedVariables false
set_option linter.unusedSimpArgs false
namespace Go.PT
attribute [local irreducible] ldT ldsT stT stsT allocT boxT bldT bslT nilT fadT ixaT fldT extT lenT pickT binT notT cviT opT opU condT clT clvT ivT loopT arT ndT World.cell? World.frozen? World.alloc World.drew World.setCell Blk Cells Sl
structure HOwn (M : Lab) (w : World) (h : Hp) (uc us : Value) : Prop where
  calls : Sl kCall (Own M) w [0] h.calls uc
  said : Sl kPair (Own M) w [1] h.said us
def hp0 : Hp := ⟨[], 0, 0, [], 0⟩
theorem hown0 {M : Lab} {w : World} : HOwn M w hp0 (.slice none 0 0) (.slice none 0 0) := ⟨Sl.none0, Sl.none0⟩
def runR (p : Pg) (h : Hp) (n : Int) : Hp × Bool := if heapOk p h && inB n 0 400 then (runH p n.toNat h, true) else (hp0, false)
theorem c_l11Copy {c : Cl} {ut us : Value} {w : World} {R : VW} (ht : Sl kPair Any w [] c.temps ut) (hs : Sl kPair Any w [] c.stack us) (tl : c.temps.length ≤ 1073741824) (sl : c.stack.length ≤ 1073741824)
    (hR : ∀ w' M ut' us', Ext w w' → Born w M → Lim M w' → Sl kPair (Own M) w' [2] c.temps ut' → Sl kPair (Own M) w' [3] c.stack us' → R (.agg (cellsC c ut' us').toArray) w') :
    clT PR 119 [.agg (cellsC c ut us).toArray] w R := by
  refine Fspec_l11Copy.cl ?_
  unfold Fspec_l11Copy
  have E := En.start w
  refine E.box (fun b1 w1 E _ => ?_)
  refine E.al (fun b2 w2 E _ => ?_)
  refine E.bsl rfl rfl rfl (fun b3 w3 E _ => ?_)
  repeat (first | ((refine fad_of ?_)) | ((refine E.ld (by first | exact .head _ | exact .tail _ (.tail _ (.head _))) (by exact rfl) ?_)))
  refine clone_of (by kernel_rfl) (E.any (q := []) ht) tl (fun v4 w4 M4 e4 hb4 hl4 h4 => ?_)
  have g4 := h4.inR (q := [2]) (apart_of E.mu.lim hb4)
  replace E := E.join [2] e4 hb4 hl4
  repeat (((refine fad_of ?_)))
  refine En.st' [_, _] E (show 2 < 6 by decide) h4.one (fun w5 E e5 => ?_)
  replace g4 := g4.loc e5
  refine E.bsl rfl rfl rfl (fun b6 w6 E e6 => ?_)
  replace g4 := g4.keepX e6
  repeat (first | ((refine fad_of ?_)) | ((refine E.ld (by first | exact .head _ | exact .tail _ (.tail _ (.tail _ (.head _)))) (by exact rfl) ?_)))
  refine clone_of (by kernel_rfl) (E.any (q := []) hs) sl (fun v7 w7 M7 e7 hb7 hl7 h7 => ?_)
  have g7 := h7.inR (q := [3]) (apart_of E.mu.lim hb7)
  replace g4 := (g4.keepX e7).inL (q := [3]) (M := M7)
  replace E := E.join [3] e7 hb7 hl7
  repeat (((refine fad_of ?_)))
  refine En.st' [_, _, _] E (show 3 < 6 by decide) h7.one (fun w8 E e8 => ?_)
  replace g4 := g4.loc e8
  replace g7 := g7.loc e8
  repeat (((refine E.lds (by first | exact .head _ | exact .tail _ (.tail _ (.tail _ (.head _)))) (by exact rfl) ?_)))
  refine En.sts' (vs := cellsC c v4 v7) [_, _] rfl E rfl rfl (by intro x hx; simp only [cellsC, List.mem_cons, List.not_mem_nil, or_false] at hx; rcases hx with h | h | h | h | h | h <;> rw [h] <;> first | rfl | exact h4.one | exact h7.one) (fun w9 E e9 => ?_)
  refine E.lds (by (exact .tail _ (.tail _ (.head _)))) rfl ?_
  exact hR _ _ _ _ E.toExt E.born E.mu.lim (g4.loc e9) (g7.loc e9)
theorem c_l11Anew {h : Hp} {uc us : Value} {w : World} {R : VW} (hh : HeapV w h uc us)
    (hR : ∀ w' M uc' us', Ext w w' → Born w M → Lim M w' → HOwn M w' h uc' us' → R (.agg (heapCells h uc' us').toArray) w') :
    clT PR 161 [.agg (heapCells h uc us).toArray] w R := by
  refine Fspec_l11Anew.cl ?_
  unfold Fspec_l11Anew
  have hn := hh.n
  have E := En.start w
  refine E.box (fun b1 w1 E _ => ?_)
  refine E.al (fun b2 w2 E _ => ?_)
  repeat (((refine E.lds (by first | exact .head _ | exact .tail _ (.head _)) (by exact rfl) ?_)))
  refine E.als (vs := heapCells h uc us) rfl rfl rfl (by intro x hx; simp only [heapCells, List.mem_cons, List.not_mem_nil, or_false] at hx; rcases hx with h | h | h | h | h <;> rw [h] <;> first | rfl | exact hh.calls.one | exact hh.said.one) (fun b3 w3 E _ => ?_)
  refine E.bsl rfl rfl rfl (fun b4 w4 E _ => ?_)
  repeat (((refine fad_of ?_)))
  refine En.st' [_] E (show 0 < 5 by decide) rfl (fun w5 E _ => ?_)
  refine loop_of (fun m s wx => ∃ (i : Nat) (v : Value) (L : Lab) (l : List (Nat × List Value)), s = [.pointer (some ⟨b1, 0, none⟩), .pointer (some ⟨b2, 0, none⟩), .pointer (some ⟨b3, 0, none⟩), .int .i64 i] ∧ i + m = h.calls.length ∧
      En noL w L wx ((b3, heapCells h v us) :: (b2, [.slice none 0 0, .int .i64 0, .int .i64 0, .slice none 0 0, .int .i64 0]) :: (b1, heapCells h uc us) :: l) ∧ Sl kCall (Own L) wx [0] (h.calls.take i) v) ?_ (m := h.calls.length)
    ⟨0, .slice (some ⟨b4, 0, none⟩) 0 0, noL, [], rfl, by omega, E.pop, Sl.none0⟩
  clear E
  rintro m s wx Kn ⟨i, v, L, l, rfl, hi, E, hv⟩ hKn
  intro _
  simp only [List.headD_cons, List.tail_cons]
  repeat (first | ((refine fad_of ?_)) | ((refine E.ld (by first | exact .head _ | exact .tail _ (.tail _ (.head _))) (by exact rfl) ?_)))
  refine (hh.calls.len_of ?_)
  repeat (((refine lss_of ?_)))
  refine condLt_of (fun hc => ?_) (fun hc => ?_)
  · have hil : i < h.calls.length := by omega
    have hx : h.calls[i]? = some (callAt h.calls i) := by have := callAt_get (cs := h.calls) (i := (i : Int)) (by omega) (by omega); rwa [Int.toNat_natCast] at this
    replace E := E.drew
    repeat (first | ((refine fad_of ?_)) | ((refine E.ld (by first | exact .head _ | exact .tail _ (.tail _ (.head _))) (by exact rfl) ?_)))
    refine call_ix (i := (i : Int)) (E.any (q := []) hh.calls) (by omega) (by omega) (fun b o u u' hcell hu hu' => ?_)
    obtain ⟨nt, ns⟩ := hh.nt _ (List.mem_of_getElem? hx)
    generalize callAt h.calls (i : Int) = c at hx hcell hu hu' nt ns
    refine lds_of (cs := cellsC c u u') hcell rfl ?_
    refine c_l11Copy hu hu' nt ns (fun w7 M ut us' e7 hb7 hl7 ht hs => ?_)
    have hap := apart_of E.mu.lim hb7
    have ht3 := ht.inR (q := [0, i]) hap
    have hs3 := hs.inR (q := [0, i]) hap
    replace E := E.join [0, i] e7 hb7 hl7
    have hv7 := (hv.drewX.keepX e7).inL (q := [0, i]) (M := M)
    refine ⟨by (repeat (((refine E.ld (by (exact .head _)) (by exact rfl) ?_)))); rfl, ?_⟩
    refine E.bsl rfl rfl rfl (fun b8 w8 E e8 => ?_)
    refine ⟨by (repeat (((refine E.ld (by first | exact .head _ | exact .tail _ (.head _)) (by exact rfl) ?_)))); rfl, ?_⟩
    have hti : (h.calls.take i).length = i := by rw [List.length_take]; omega
    refine grow_one (kd := kCall) c (by kernel_rfl) (hv7.keepX e8) (E.blk (.head _)) ⟨ut, us', rfl, by rw [hti]; exact ht3.keepX e8, by rw [hti]; exact hs3.keepX e8⟩ rfl (by omega) E.mu.lim (fun v9 w9 L9 g9 _ h9 => ?_)
    replace E := E.grow g9
    repeat (((refine fad_of ?_)))
    refine En.st' [_] E (show 0 < 5 by decide) h9.one (fun w10 E e10 => ?_)
    repeat (((refine add_of (by (omega)) (by (omega)) ?_)))
    refine hKn (m - 1) _ _ (by omega) ⟨i + 1, v9, L9, l, rfl, by omega, E.pop, ?_⟩
    rw [List.take_add_one, hx]
    exact h9.loc e10
  · intro _
    have hei : h.calls.take i = h.calls := List.take_of_length_le (by omega)
    rw [hei] at hv
    refine E.bsl rfl rfl rfl (fun b6 w6 E e6 => ?_)
    replace hv := hv.keepX e6
    repeat (first | ((refine fad_of ?_)) | ((refine E.ld (by first | exact .head _ | exact .tail _ (.tail _ (.tail _ (.head _)))) (by exact rfl) ?_)))
    refine clone_of (by kernel_rfl) (E.any (q := []) hh.said) hh.ns (fun v7 w7 M7 e7 hb7 hl7 h7 => ?_)
    have g7 := h7.inR (q := [1]) (apart_of E.mu.lim hb7)
    replace hv := (hv.keepX e7).inL (q := [1]) (M := M7)
    replace E := E.join [1] e7 hb7 hl7
    repeat (((refine fad_of ?_)))
    refine En.st' [_] E (show 3 < 5 by decide) h7.one (fun w8 E e8 => ?_)
    replace hv := hv.loc e8
    replace g7 := g7.loc e8
    repeat (((refine E.lds (by first | exact .head _ | exact .tail _ (.head _)) (by exact rfl) ?_)))
    refine En.sts' (vs := heapCells h v v7) [_, _] rfl E rfl rfl (by intro x hx; simp only [heapCells, List.mem_cons, List.not_mem_nil, or_false] at hx; rcases hx with h | h | h | h | h <;> rw [h] <;> first | rfl | exact hv.one | exact h7.one) (fun w9 E e9 => ?_)
    refine E.lds (by (exact .tail _ (.tail _ (.head _)))) rfl ?_
    exact hR _ _ _ _ E.toExt E.born E.mu.lim ⟨hv.loc e9, g7.loc e9⟩
end Go.PT

/- The reference's heap: runs, a step, a new one. -/
set_option linter.unusedVariables false
set_option linter.unusedSimpArgs false
namespace Go.PT
attribute [local irreducible] ldT ldsT stT stsT allocT boxT bldT bslT nilT fadT ixaT fldT extT lenT pickT binT notT cviT opT opU condT clT clvT ivT loopT arT ndT World.cell? World.frozen? World.alloc World.drew World.setCell Blk Cells Sl
theorem fill_six {u a b c d e : Value} : fillT #[(.slice none 0 0), (.slice none 0 0), (.int .i64 0), (.int .i64 0), (.slice none 0 0), (.int .i64 0)] [(0, 1, .agg #[u]), (1, 5, .agg #[a, b, c, d, e])] = some #[u, a, b, c, d, e] := by kernel_rfl
theorem said_step {p : Pg} {h : Hp} : (stepH p h).said.length ≤ h.said.length + 1 := by
  have hb : ∀ (n : Nat) (h : Hp) (to : Int), (backL n h to).said = h.said := by
    intro n
    induction n with
    | zero => intro h to; rfl
    | succ n ih => intro h to; unfold backL; split; rfl; rw [ih]; rfl
  have hd : ∀ (h : Hp) (op : Int × Int) (args : List V), (doH p h op args).said.length ≤ h.said.length + 1 := by
    intro h op args
    unfold doH
    split
    · show h.said.length ≤ _; omega
    · repeat' split
      all_goals first
        | (show h.said.length ≤ h.said.length + 1; omega)
        | skip
      · unfold callH; split <;> (show h.said.length ≤ _; omega)
      · unfold retH; split
        · show (h.said ++ [_]).length ≤ _; simp
        · show h.said.length ≤ _; omega
      · unfold pokeH; split <;> (show h.said.length ≤ _; omega)
      · unfold backH; split
        · show h.said.length ≤ _; omega
        · show (backL h.calls.length h _).said.length ≤ _; rw [hb]; omega
      · show (h.said ++ [_]).length ≤ _; simp
  unfold stepH
  repeat' split
  all_goals first
    | (show h.said.length ≤ h.said.length + 1; omega)
    | exact hd (tookH p h) _ _
theorem run_stop {p : Pg} {h : Hp} (hc : h.code ≠ 0) : ∀ n, runH p n h = h
  | 0 => rfl
  | n + 1 => by unfold runH; rw [if_neg hc]
theorem c_specRun {p : Pg} {h : Hp} {n : Int} {u uc us : Value} {w : World} {R : VW} (hp : Sl kMeth Any w [] p u) (hpl : p.length ≤ 1073741824) (hml : ∀ m ∈ p, m.ops.length ≤ 1073741824) (hh : HeapV w h uc us) (hsd : h.said.length ≤ 1073000000)
    (hR : ∀ w' M uc' us', Ext w w' → Born w M → Lim M w' → HOwn M w' (runR p h n).1 uc' us' → R (.tuple #[.agg (heapCells (runR p h n).1 uc' us').toArray, .bool (runR p h n).2]) w') :
    clT PR 78 [.agg #[u], .agg (heapCells h uc us).toArray, .int .i64 n] w R := by
  refine Fspec_HeapRun.cl ?_
  unfold Fspec_HeapRun
  have E := En.start w
  refine E.box (fun b1 w1 E _ => ?_)
  refine E.box (fun b2 w2 E _ => ?_)
  refine E.al (fun b3 w3 E _ => ?_)
  repeat (((refine E.lds (by first | exact .head _ | exact .tail _ (.head _) | exact .tail _ (.tail _ (.head _))) (by exact rfl) ?_)))
  refine c_specHeapOk (hp.ext E.toExt) hpl hml (hh.ext E.toExt) (fun w4 e4 => ?_)
  replace E := E.ext e4
  have no : ∀ {w5 : World} (E : En noL w noL w5 [(b3, [.slice none 0 0, .int .i64 0, .int .i64 0, .slice none 0 0, .int .i64 0]), (b2, heapCells h uc us), (b1, [u])]), runR p h n = (hp0, false) →
      bldT #[(.slice none 0 0), (.int .i64 0), (.int .i64 0), (.slice none 0 0), (.int .i64 0)] [] fun t19 => stsT 5 (.pointer (some ⟨b3, 0, none⟩)) t19 w5 fun w5 => ldsT 5 (.pointer (some ⟨b3, 0, none⟩)) w5 fun r6 => R (.tuple #[r6, (.bool false)]) w5 := by
    intro w5 E hr
    refine bld_of (cs := #[(.slice none 0 0), (.int .i64 0), (.int .i64 0), (.slice none 0 0), (.int .i64 0)]) rfl ?_
    refine En.sts' (vs := [(.slice none 0 0), (.int .i64 0), (.int .i64 0), (.slice none 0 0), (.int .i64 0)]) [] rfl E rfl rfl (fun u hu => List.all_eq_true.mp rfl u hu) (fun w9 E e9 => ?_)
    repeat (((refine E.lds (by (exact .head _)) (by exact rfl) ?_)))
    rw [hr] at hR
    exact hR _ _ _ _ E.toExt E.born E.mu.lim hown0
  repeat (((refine not_of ?_)))
  refine condN_of (fun hf => ?_) (fun ht => ?_)
  · exact no E (by unfold runR; rw [hf]; rfl)
  refine c_specIn ?_
  repeat (((refine not_of ?_)))
  refine condNIn_of (fun hf => ?_) (fun hin => ?_)
  · exact no E (by unfold runR; rw [inB_f hf, Bool.and_false]; rfl)
  have hr : runR p h n = (runH p n.toNat h, true) := by unfold runR; rw [ht, inB_t hin.1 hin.2]; rfl
  rw [hr] at hR
  replace E := E.drew
  repeat (((refine E.lds (by first | exact .head _ | exact .tail _ (.head _) | exact .tail _ (.tail _ (.head _))) (by exact rfl) ?_)))
  refine c_l11Anew (hh.ext E.toExt) (fun w5 M uc' us' e5 hb5 hl5 ho => ?_)
  replace E := E.join [] e5 hb5 hl5
  refine ⟨by (repeat (((refine E.lds (by first | exact .head _ | exact .tail _ (.tail _ (.head _))) (by exact rfl) ?_)))); rfl, ?_⟩
  obtain ⟨A1, c1, hA1⟩ := ho.calls.is
  obtain ⟨A2, c2, hA2⟩ := ho.said.is
  have hcl := ho.calls.inR (L := noL) (q := []) (fun _ _ _ => rfl)
  have hsl := ho.said.inR (L := noL) (q := []) (fun _ _ _ => rfl)
  simp only [List.nil_append] at hcl hsl
  refine bld_of fill_six ?_
  refine box_of' (fun b6 w6 e6 hb6 k6 => ?_)
  have hl6 : b6 < w6.heap.size := Blk.lt k6
  have hM6 : ∀ x p, joinL noL [] M x = some p → x < w5.heap.size := E.mu.lim
  have hap : Apart (joinL noL [] M) (lab1 b6 []) := apart_of E.mu.lim (lab1_born hb6)
  replace E := E.join [] e6 (lab1_born (p := []) hb6) (lab1_lim (p := []) hl6)
  have hlab : joinL (joinL noL [] M) [] (lab1 b6 []) b6 = some [] := joinL_right (by simp [lab1]) (hap b6 [] (by simp [lab1]))
  have S : SM (joinL (joinL noL [] M) [] (lab1 b6 [])) w6 b6 [u] h uc' us' := ⟨k6, hlab, (hcl.keepX e6).inL, (hsl.keepX e6).inL, E.mu.lim⟩
  generalize joinL (joinL noL [] M) [] (lab1 b6 []) = L at E S hlab
  have hu0 := hp.ofAny (q := []) E.born
  have hu := hu0.unExt E.toExt
  have hw0 := E.size
  have H := hok_iff.mp ht
  clear e4 e5 e6 hb5 hl5 hb6 k6 hl6 hM6 hap hlab hcl hsl ho hu0
  refine loop_of (fun m s wx => ∃ (k : Nat) (g : Hp) (L : Lab) (vc vs : Value), s = [.int .i64 n, .pointer (some ⟨b3, 0, none⟩), .bool false, .pointer (some ⟨b6, 0, none⟩), .int .i64 k] ∧ k + m = n.toNat ∧ runH p m g = runH p n.toNat h ∧ HOK p g ∧ g.said.length ≤ h.said.length + k ∧
      En noL w L wx [(b3, [.slice none 0 0, .int .i64 0, .int .i64 0, .slice none 0 0, .int .i64 0]), (b2, heapCells h uc us), (b1, [u])] ∧ SM L wx b6 [u] g vc vs ∧ Sl kMeth (Un L w.heap.size) wx [] p u) ?_ (m := n.toNat)
    ⟨0, h, L, uc', us', rfl, by omega, rfl, H, by omega, E, S, hu⟩
  clear E S hu hw0
  rintro m s wx Kn ⟨k, g, L, vc, vs, rfl, hk, hg, G, gsd, E, S, hu⟩ hKn
  intro _
  simp only [List.headD_cons, List.tail_cons]
  have out : runH p m g = g → Fspec_HeapRun.k2 (.int .i64 n) (.pointer (some ⟨b3, 0, none⟩)) (.bool false) (.pointer (some ⟨b6, 0, none⟩)) (.int .i64 k) wx R := by
    intro he
    rw [← hg, he] at hR
    intro _
    repeat ((first | refine fad_of ?_ | refine nil_of ?_))
    refine lds_of (S.blk.part 1 5 rfl) rfl ?_
    refine En.sts' (vs := heapCells g vc vs) [] rfl E rfl rfl (by intro x hx; simp only [heapCells, List.mem_cons, List.not_mem_nil, or_false] at hx; rcases hx with h | h | h | h | h <;> rw [h] <;> first | rfl | exact S.calls.one | exact S.said.one) (fun w9 E e9 => ?_)
    refine E.lds (.head _) rfl ?_
    exact hR _ _ _ _ E.toExt E.born E.mu.lim ⟨S.calls.loc e9, S.said.loc e9⟩
  repeat (((refine lss_of ?_)))
  refine condLt_of (fun hlt => ?_) (fun hge => ?_)
  · repeat (first | (first | refine fad_of ?_ | refine nil_of ?_ | refine eql_of ?_) | ((refine ld_of (S.cell (by exact rfl)) ?_)))
    refine condP_of (fun hc => ?_) (fun hc => ?_)
    · refine c_step S hu E.size G hc (by omega) (fun w7 L7 vc7 vs7 m7 S7 => ?_)
      repeat (((refine add_of (by (omega)) (by (omega)) ?_)))
      obtain ⟨m, rfl⟩ : ∃ j, m = j + 1 := ⟨m - 1, by omega⟩
      refine hKn m _ _ (by omega) ⟨k + 1, stepH p g, L7, vc7, vs7, rfl, by omega, ?_, step_ok G hc, ?_, E.call m7, S7, hu.unMut m7 E.size⟩
      · rw [← hg]
        conv => rhs; unfold runH
        rw [if_pos hc]
      · have := said_step (p := p) (h := g); omega
    · exact out (run_stop hc m)
  · have hm0 : m = 0 := by omega
    subst hm0
    exact out rfl
theorem c_specStep {p : Pg} {h : Hp} {u uc us : Value} {w : World} {R : VW} (hp : Sl kMeth Any w [] p u) (hpl : p.length ≤ 1073741824) (hml : ∀ m ∈ p, m.ops.length ≤ 1073741824) (hh : HeapV w h uc us) (hsd : h.said.length ≤ 1073000000)
    (hR : ∀ w' M uc' us', Ext w w' → Born w M → Lim M w' → HOwn M w' (runR p h 1).1 uc' us' → R (.tuple #[.agg (heapCells (runR p h 1).1 uc' us').toArray, .bool (runR p h 1).2]) w') :
    clT PR 86 [.agg #[u], .agg (heapCells h uc us).toArray] w R := by
  refine Fspec_HeapStep.cl ?_
  unfold Fspec_HeapStep
  have E := En.start w
  refine E.box (fun b1 w1 E _ => ?_)
  refine E.box (fun b2 w2 E _ => ?_)
  refine E.al (fun b3 w3 E _ => ?_)
  repeat (((refine E.lds (by first | exact .head _ | exact .tail _ (.head _) | exact .tail _ (.tail _ (.head _))) (by exact rfl) ?_)))
  refine c_specRun (hp.ext E.toExt) hpl hml (hh.ext E.toExt) hsd (fun w4 M uc' us' e4 hb4 hl4 ho => ?_)
  have hz := E.size
  replace E := E.join [] e4 hb4 hl4
  have hcl := ho.calls.inR (L := noL) (q := []) (fun _ _ _ => rfl)
  have hsl := ho.said.inR (L := noL) (q := []) (fun _ _ _ => rfl)
  simp only [List.nil_append] at hcl hsl
  refine ext_of rfl ?_
  refine ext_of rfl ?_
  refine En.sts' (vs := heapCells (runR p h 1).1 uc' us') [] rfl E rfl rfl (by intro x hx; simp only [heapCells, List.mem_cons, List.not_mem_nil, or_false] at hx; rcases hx with h | h | h | h | h <;> rw [h] <;> first | rfl | exact hcl.one | exact hsl.one) (fun w9 E e9 => ?_)
  refine E.lds (.head _) rfl ?_
  exact hR _ _ _ _ E.toExt E.born E.mu.lim ⟨hcl.loc e9, hsl.loc e9⟩
end Go.PT
