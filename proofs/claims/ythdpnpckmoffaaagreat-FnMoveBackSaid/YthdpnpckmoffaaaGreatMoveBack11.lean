/- What the claim of FnMoveBack leans on, part 12 of 16. -/
import Derived.Laws.CopyRow
import Derived.Laws.Cover3
import Derived.Test.YthdpnpckmoffaaaGreatMoveBack00
import Derived.Test.YthdpnpckmoffaaaGreatMoveBack01
import Derived.Test.YthdpnpckmoffaaaGreatMoveBack02
import Derived.Test.YthdpnpckmoffaaaGreatMoveBack03
import Derived.Test.YthdpnpckmoffaaaGreatMoveBack04
import Derived.Test.YthdpnpckmoffaaaGreatMoveBack05
import Derived.Test.YthdpnpckmoffaaaGreatMoveBack06
import Derived.Test.YthdpnpckmoffaaaGreatMoveBack07
import Derived.Test.YthdpnpckmoffaaaGreatMoveBack08
import Derived.Test.YthdpnpckmoffaaaGreatMoveBack09
import Derived.Test.YthdpnpckmoffaaaGreatMoveBack10
set_option linter.unusedVariables false
set_option linter.unusedSimpArgs false
set_option linter.unusedSectionVars false
set_option maxRecDepth 100000
namespace Go.PT
attribute [local irreducible] ldT ldsT stT stsT allocT boxT bldT bslT nilT fadT ixaT fldT extT lenT pickT binT notT cviT opT opU condT clT clvT ivT loopT arT ndT World.cell? World.frozen? World.alloc World.drew World.setCell Blk Cells Sl
theorem do_none {p : Pg} {h : Hp} {op : Int × Int} {args : List V} (hm : madeV op args = none) : doH p h op args =
    if op.1 = 2 then pushH h (pairAt (nowC h).temps op.2)
    else if op.1 = 3 then setT h h.now op.2 (pairAt args 0)
    else if op.1 = 7 then setPc h op.2
    else if op.1 = 8 then (if (pairAt args 0).1 = 0 ∨ pairAt args 0 = (1, 0) then setPc h op.2 else h)
    else if op.1 = 9 then callH p h op.2 args
    else if op.1 = 10 then retH h (pairAt args 0)
    else if op.1 = 11 then pushH h (2, h.now)
    else if op.1 = 12 ∨ op.1 = 13 ∨ op.1 = 17 ∨ op.1 = 18 then pushH h (lookV h op (pairAt args 0).2)
    else if op.1 = 14 then pokeH h (pairAt args 0).2 op.2 (pairAt args 1)
    else if op.1 = 15 then backH h (pairAt args 0).2 (pairAt args 1)
    else if op.1 = 16 then sayH h (pairAt args 0) else h := by
  unfold doH; rw [hm]
structure DoK (p : Pg) (h : Hp) (op : Int × Int) (args : List V) : Prop where
  D : DoPre p h op args
  n0 : 0 ≤ h.now
  n1 : h.now < h.calls.length
  room : (nowC h).stack.length ≤ 6
  snd : (nowC h).sender < h.calls.length
  one : op.1 = 3 ∨ op.1 = 8 ∨ op.1 = 10 ∨ op.1 = 16 ∨ op.1 = 12 ∨ op.1 = 13 ∨ op.1 = 17 ∨ op.1 = 18 → 1 ≤ args.length
  two : op.1 = 5 ∨ op.1 = 6 ∨ op.1 = 14 ∨ op.1 = 15 → 2 ≤ args.length
  tmp : op.1 = 2 ∨ op.1 = 3 → 0 ≤ op.2 ∧ op.2 < (nowC h).temps.length
  jmp : op.1 = 13 ∨ op.1 = 14 → 0 ≤ op.2
  nn : op.1 ≠ 13 ∧ op.1 ≠ 14 ∧ op.1 ≠ 1 ∧ op.1 ≠ 2 ∧ op.1 ≠ 3 ∧ op.1 ≠ 7 ∧ op.1 ≠ 8 ∧ op.1 ≠ 9 → op.2 = 0
  met : op.1 = 9 → 0 ≤ op.2 ∧ op.2 < p.length ∧ (args.length : Int) = (methAt p op.2).args
  isC : op.1 = 12 ∨ op.1 = 13 ∨ op.1 = 17 ∨ op.1 = 18 ∨ op.1 = 14 ∨ op.1 = 15 → 0 ≤ (pairAt args 0).2 ∧ (pairAt args 0).2 < h.calls.length
  add : op.1 = 5 → 2 ≤ args.length ∧ 0 ≤ (pairAt args 0).2 ∧ (pairAt args 0).2 ≤ 999 ∧ 0 ≤ (pairAt args 1).2 ∧ (pairAt args 1).2 ≤ 999
  val0 : 1 ≤ args.length → (pairAt args 0).1 = 2 → 0 ≤ (pairAt args 0).2 ∧ (pairAt args 0).2 < h.calls.length
theorem DoPre.known {p : Pg} {h : Hp} {op : Int × Int} {args : List V} (D : DoPre p h op args) : DoK p h op args := by
  have H := D.ok
  have h0 := H.now0 D.run
  have h1 := H.now2
  have hf := H.at h0 h1
  have hl := D.len
  have hop := D.isOp
  have tk := takes_range H.prog op
  have t1 : op.1 = 3 ∨ op.1 = 8 ∨ op.1 = 10 ∨ op.1 = 16 → (takes p op).1 = 1 := fun hc => by unfold takes; rcases hc with h | h | h | h <;> simp [h]
  have t2 : op.1 = 12 ∨ op.1 = 13 ∨ op.1 = 17 ∨ op.1 = 18 → (takes p op).1 = 1 := fun hc => by unfold takes; rcases hc with h | h | h | h <;> simp [h]
  have t3 : op.1 = 5 ∨ op.1 = 6 ∨ op.1 = 14 ∨ op.1 = 15 → (takes p op).1 = 2 := fun hc => by unfold takes; rcases hc with h | h | h | h <;> simp [h]
  have two : op.1 = 5 ∨ op.1 = 6 ∨ op.1 = 14 ∨ op.1 = 15 → 2 ≤ args.length := fun hc => by have := t3 hc; omega
  have one : op.1 = 3 ∨ op.1 = 8 ∨ op.1 = 10 ∨ op.1 = 16 ∨ op.1 = 12 ∨ op.1 = 13 ∨ op.1 = 17 ∨ op.1 = 18 → 1 ≤ args.length := fun hc => by
    by_cases hc' : op.1 = 3 ∨ op.1 = 8 ∨ op.1 = 10 ∨ op.1 = 16
    · have := t1 hc'; omega
    · have := t2 (by omega); omega
  have isK : op.1 = 12 ∨ op.1 = 13 ∨ op.1 = 17 ∨ op.1 = 18 ∨ op.1 = 14 ∨ op.1 = 15 → (pairAt args 0).1 = 2 := fun hc => by
    have hk := D.kinds
    unfold kindsOk at hk
    rw [if_neg (by omega), if_pos hc] at hk
    simpa using hk
  refine ⟨D, h0, h1, by have := hf.stack; have : ((nowC h).stack.length : Int) ≤ 6 := this; omega, hf.s1, one, two, fun hc => ?_, fun hc => ?_, fun hc => ?_, fun hc => ?_, fun hc => ?_, fun hc => ?_, fun hn h2 => ?_⟩
  · unfold opOk at hop
    rw [if_neg (by omega), if_pos hc, inB_iff] at hop
    have : ((nowC h).temps.length : Int) = (methAt p (nowC h).method).temps := hf.temps
    omega
  · unfold opOk at hop
    rw [if_neg (by omega), if_neg (by omega), if_neg (by omega), if_neg (by omega), if_pos hc, inB_iff] at hop
    omega
  · unfold opOk at hop
    rw [if_neg (by omega), if_neg (by omega), if_neg (by omega), if_neg (by omega), if_neg (by omega), Bool.and_eq_true, decide_eq_true_eq] at hop
    exact hop.2
  · unfold opOk at hop
    rw [if_neg (by omega), if_neg (by omega), if_neg (by omega), if_pos hc] at hop
    have ht : takes p op = ((methAt p op.2).args, 1) := by unfold takes; simp [hc, hop]
    rw [ht] at hl
    rw [inB_iff] at hop
    exact ⟨hop.1, by omega, hl⟩
  · have h2 := isK hc
    have : 1 ≤ args.length := by
      by_cases hc' : op.1 = 14 ∨ op.1 = 15
      · have := two (by omega); omega
      · exact one (by omega)
    exact valOk_call (args_at D.vals (i := 0) (by omega) (by omega)) h2
  · have hl2 := two (by omega)
    have hk := D.kinds
    unfold kindsOk at hk
    rw [if_pos hc, Bool.and_eq_true, decide_eq_true_eq, decide_eq_true_eq] at hk
    have a := valOk_num (args_at D.vals (i := 0) (by omega) (by omega)) hk.1
    have b := valOk_num (args_at D.vals (i := 1) (by omega) (by omega)) hk.2
    exact ⟨hl2, a.1, a.2, b.1, b.2⟩
  · exact valOk_call (args_at D.vals (i := 0) (by omega) (by omega)) h2
theorem c_do {L : Lab} {w : World} {m n : Nat} {u vc vs ua : Value} {p : Pg} {h : Hp} {op : Int × Int} {args : List V} {R : VW} (S : SM L w m [u] h vc vs) (hp : Sl kMeth (Un L n) w [] p u) (hn : n ≤ w.heap.size) (ha : Sl kPair (Un L n) w [] args ua) (D : DoPre p h op args)
    (hsd : h.said.length + 1 ≤ 1073741824) (hR : ∀ w' L' vc' vs', Mut L w L' w' → SM L' w' m [u] (doH p h op args) vc' vs' → R (.tuple #[]) w') : clT PR 200 [.pointer (some ⟨m, 0, none⟩), .agg #[.int .i64 op.1, .int .i64 op.2], ua] w R := by
  have K := D.known
  have h0 := K.n0
  have h1 := K.n1
  obtain ⟨hcl, hst⟩ := hok_small D.ok
  refine Fspec_l11Heap_do.cl ?_
  unfold Fspec_l11Heap_do
  have E := En.init S.lim
  refine E.box (fun b1 w1 E e1 => ?_)
  replace S := S.ext e1
  refine c_now S h0 h1 (fun b o ut us F => ?_)
  replace E := E.drew
  replace S := S.drew
  repeat (((refine E.lds (by (exact .head _)) (by exact rfl) ?_)))
  refine c_l11Made (E.unAny ha hn) K.add (fun h6 => K.two (.inr (.inl h6))) (fun w2 e2 => ?_)
  replace E := E.ext e2
  replace S := S.ext e2
  replace F := F.ext e2
  refine ext_of rfl ?_
  refine ext_of rfl ?_
  refine E.als (vs := [.int .i64 (madeD op args).1, .int .i64 (madeD op args).2]) rfl rfl rfl (fun u hu => List.all_eq_true.mp rfl u hu) (fun b3 w3 E e3 => ?_)
  replace S := S.ext e3
  replace F := F.ext e3
  clear e1 e2 e3
  refine cond_of (fun hm => ?_) (fun hm => ?_)
  · obtain ⟨v, hv⟩ := Option.isSome_iff_exists.mp hm
    have hD : madeD op args = v := by unfold madeD; rw [hv]; rfl
    rw [hD] at E
    replace E := E.drew
    replace S := S.drew
    replace F := F.drew
    repeat (first | (first | refine fad_of ?_ | refine nil_of ?_) | (first | refine E.lds (by (exact .head _)) (by exact rfl) ?_ | refine ld_of (F.cells.at _ (by exact rfl)) ?_))
    refine E.bsl rfl rfl rfl (fun b4 w4 E e4 => ?_)
    replace S := S.ext e4
    replace F := F.ext e4
    refine ⟨by (repeat (((refine ld_of (F.cells.at _ (by exact rfl)) ?_)))); rfl, ?_⟩
    refine push_fin S F h0 h1 (E.blk (.head _)) rfl (by have := K.room; omega) (by kernel_rfl) (fun w5 L5 m5 S => ?_)
    refine hR _ _ vc vs (E.call m5).mu ?_
    unfold doH
    rw [hv]
    exact S
  replace hm : madeV op args = none := by simpa using hm
  have dn := do_none (p := p) (h := h) hm
  repeat (first | (first | refine fad_of ?_ | refine eql_of ?_) | ((refine E.ld (by first | exact .head _ | exact .tail _ (.head _)) (by exact rfl) ?_)))
  refine condP_of (fun c2 => ?_) (fun c2 => ?_)
  · replace E := E.drew
    replace S := S.drew
    replace F := F.drew
    repeat (first | (first | refine fad_of ?_ | refine nil_of ?_) | (first | refine E.ld (by first | exact .head _ | exact .tail _ (.head _)) (by exact rfl) ?_ | refine ld_of (F.cells.at _ (by exact rfl)) ?_))
    obtain ⟨a0, a1⟩ := K.tmp (.inl c2)
    refine pair_ix (F.temps.any (q := [])) a0 a1 (fun b5 o5 hc5 => ?_)
    repeat (((apply lds_of; (case h => iterate 14 (first | done | assumption)); (case hn => exact rfl))))
    refine E.bsl rfl rfl rfl (fun b4 w4 E e4 => ?_)
    replace S := S.ext e4
    replace F := F.ext e4
    refine ⟨by (repeat (((refine ld_of (F.cells.at _ (by exact rfl)) ?_)))); rfl, ?_⟩
    refine push_fin (v := pairAt (nowC h).temps op.2) S F h0 h1 (E.blk (.head _)) rfl (by have := K.room; omega) (by kernel_rfl) (fun w5 L5 m5 S => ?_)
    exact hR _ _ vc vs (E.call m5).mu (by rw [dn, if_pos c2]; exact S)
  repeat (((refine eql_of ?_)))
  refine condP_of (fun c3 => ?_) (fun c3 => ?_)
  · replace E := E.drew
    replace S := S.drew
    replace F := F.drew
    have hl := K.one (.inl c3)
    obtain ⟨a0, a1⟩ := K.tmp (.inr c3)
    repeat (first | (first | refine fad_of ?_ | refine nil_of ?_) | (first | refine E.ld (by first | exact .head _ | exact .tail _ (.head _)) (by exact rfl) ?_ | refine ld_of (F.cells.at _ (by exact rfl)) ?_))
    refine pair_ix (E.unAny (q := []) ha hn) (by omega) (by omega) (fun b5 o5 hc5 => ?_)
    repeat (((apply lds_of; (case h => iterate 14 (first | done | assumption)); (case hn => exact rfl))))
    refine F.temps.ixo_of rfl a0 a1 (fun x b6 o6 es mm hx hat ho hK hc6 => ?_)
    refine S.stTemp (v := pairAt args 0) F h0 h1 hat a0 a1 (fun w5 m5 S F => ?_)
    exact hR _ _ vc vs (E.call m5).mu (by rw [dn, if_neg c2, if_pos c3]; exact S)
  repeat (((refine eql_of ?_)))
  refine condP_of (fun c7 => ?_) (fun c7 => ?_)
  · repeat (first | (first | refine fad_of ?_ | refine nil_of ?_) | ((refine E.ld (by first | exact .head _ | exact .tail _ (.head _)) (by exact rfl) ?_)))
    refine S.st F h0 h1 rfl (by decide) (c' := { nowC h with pc := op.2 }) rfl F.temps F.stack (fun w5 m5 S F => ?_)
    exact hR _ _ vc vs (E.call m5).mu (by rw [dn, if_neg c2, if_neg c3, if_pos c7]; exact S)
  repeat (((refine eql_of ?_)))
  refine condP_of (fun c8 => ?_) (fun c8 => ?_)
  · replace E := E.drew
    replace S := S.drew
    replace F := F.drew
    have hl := K.one (.inr (.inl c8))
    refine pair_ix (E.unAny (q := []) ha hn) (by omega) (by omega) (fun b5 o5 hc5 => ?_)
    repeat (first | (first | refine fad_of ?_ | refine eql_of ?_) | ((apply ld_of; (case h => iterate 14 (first | done | exact Cells.at (by assumption) _ (by exact rfl))))))
    refine condP_of (fun z => ?_) (fun z => ?_)
    · repeat (first | (first | refine fad_of ?_ | refine nil_of ?_) | ((refine E.ld (by first | exact .head _ | exact .tail _ (.head _)) (by exact rfl) ?_)))
      refine S.st F h0 h1 rfl (by decide) (c' := { nowC h with pc := op.2 }) rfl F.temps F.stack (fun w5 m5 S F => ?_)
      exact hR _ _ vc vs (E.call m5).mu (by rw [dn, if_neg c2, if_neg c3, if_neg c7, if_pos c8, if_pos (.inl z)]; exact S)
    · refine pair_ix (E.unAny (q := []) ha hn) (by omega) (by omega) (fun b6 o6 hc6 => ?_)
      repeat (((apply lds_of; (case h => iterate 14 (first | done | assumption)); (case hn => exact rfl))))
      refine c_l11Num (fun w4 e4 => ?_)
      replace E := E.ext e4
      replace S := S.ext e4
      replace F := F.ext e4
      refine ⟨lds_of (hc6.ext e4) rfl rfl, ?_⟩
      refine eqlP_of (u := pairAt args 0) (v := (1, 0)) (by kernel_rfl) ?_
      refine condP_of (fun z2 => ?_) (fun z2 => ?_)
      · repeat (first | (first | refine fad_of ?_ | refine nil_of ?_) | ((refine E.ld (by first | exact .head _ | exact .tail _ (.head _)) (by exact rfl) ?_)))
        refine S.st F h0 h1 rfl (by decide) (c' := { nowC h with pc := op.2 }) rfl F.temps F.stack (fun w5 m5 S F => ?_)
        exact hR _ _ vc vs (E.call m5).mu (by rw [dn, if_neg c2, if_neg c3, if_neg c7, if_pos c8, if_pos (.inr z2)]; exact S)
      · exact hR _ _ vc vs E.mu (by rw [dn, if_neg c2, if_neg c3, if_neg c7, if_pos c8, if_neg (fun h => h.elim z z2)]; exact S)
  repeat (((refine eql_of ?_)))
  refine condP_of (fun c9 => ?_) (fun c9 => ?_)
  · obtain ⟨k0, k1, kl⟩ := K.met c9
    have hm := methOk_iff.mp (prog_meth D.ok.prog k0 k1)
    have hb1 := D.ok.born1
    have hb2 := D.ok.born2
    have q1 := hm.a0
    have q2 := hm.a1
    have q3 := hm.t0
    have q4 := hm.t1
    repeat (first | ((refine fad_of ?_)) | ((refine E.ld (by first | exact .head _ | exact .tail _ (.head _)) (by exact rfl) ?_)))
    refine c_call S (E.un hp hn) (Nat.le_trans hn E.size) (E.un ha hn) k0 k1 (by omega) (by omega) (by omega) (by omega) (by omega) (by omega) (fun w5 L5 vc5 m5 S => ?_)
    exact hR _ _ vc5 vs (E.call m5).mu (by rw [dn, if_neg c2, if_neg c3, if_neg c7, if_neg c8, if_pos c9]; exact S)
  repeat (((refine eql_of ?_)))
  refine condP_of (fun c10 => ?_) (fun c10 => ?_)
  · have hl := K.one (.inr (.inr (.inl c10)))
    refine pair_ix (E.unAny (q := []) ha hn) (by omega) (by omega) (fun b5 o5 hc5 => ?_)
    repeat (((apply lds_of; (case h => iterate 14 (first | done | assumption)); (case hn => exact rfl))))
    refine c_ret (v := pairAt args 0) S h0 h1 K.snd (K.val0 hl) hsd (fun i i0 i1 => by have := hst i i0 i1; omega) (fun w5 L5 vs5 m5 S => ?_)
    exact hR _ _ vc vs5 (E.call m5).mu (by rw [dn, if_neg c2, if_neg c3, if_neg c7, if_neg c8, if_neg c9, if_pos c10]; exact S)
  repeat (((refine eql_of ?_)))
  refine condP_of (fun c11 => ?_) (fun c11 => ?_)
  · replace E := E.drew
    replace S := S.drew
    replace F := F.drew
    repeat (first | (first | refine fad_of ?_ | refine nil_of ?_) | (first | refine ld_of (S.cell (by exact rfl)) ?_ | refine ld_of (F.cells.at _ (by exact rfl)) ?_))
    refine bld_of (cs := #[.int .i64 2, .int .i64 h.now]) rfl ?_
    refine E.bsl rfl rfl rfl (fun b4 w4 E e4 => ?_)
    replace S := S.ext e4
    replace F := F.ext e4
    refine ⟨by (repeat (((refine ld_of (F.cells.at _ (by exact rfl)) ?_)))); rfl, ?_⟩
    refine push_fin (v := (2, h.now)) S F h0 h1 (E.blk (.head _)) rfl (by have := K.room; omega) (by kernel_rfl) (fun w5 L5 m5 S => ?_)
    exact hR _ _ vc vs (E.call m5).mu (by rw [dn, if_neg c2, if_neg c3, if_neg c7, if_neg c8, if_neg c9, if_neg c10, if_pos c11]; exact S)
  have look : (op.1 = 12 ∨ op.1 = 13 ∨ op.1 = 17 ∨ op.1 = 18) → Fspec_l11Heap_do.j1 (.pointer (some ⟨m, 0, none⟩)) ua (.pointer (some ⟨b1, 0, none⟩)) (.pointer (some ⟨b, o, none⟩)) (.int .i64 op.1) (.bool true) w3 R := by
    intro c12
    intro _
    obtain ⟨i0, i1⟩ := K.isC (by omega)
    have hl := K.one (by omega)
    have ho : 0 ≤ op.2 := by
      by_cases c13 : op.1 = 13
      · exact K.jmp (.inl c13)
      · rw [K.nn (by have := madeV (op := op); omega)]; omega
    replace E := E.drew
    replace S := S.drew
    replace F := F.drew
    repeat (first | (first | refine fad_of ?_ | refine nil_of ?_ | refine condT_true ?_) | (first | refine E.lds (by first | exact .head _ | exact .tail _ (.head _)) (by exact rfl) ?_ | refine ld_of (F.cells.at _ (by exact rfl)) ?_))
    refine pair_ix (E.unAny (q := []) ha hn) (by omega) (by omega) (fun b5 o5 hc5 => ?_)
    repeat (first | ((refine fad_of ?_)) | ((apply ld_of; (case h => iterate 14 (first | done | exact Cells.at (by assumption) _ (by exact rfl))))))
    refine c_look S i0 i1 ho (fun w4 e4 => ?_)
    replace E := E.ext e4
    replace S := S.ext e4
    replace F := F.ext e4
    refine ⟨by (repeat (((refine ld_of (F.cells.at _ (by exact rfl)) ?_)))); rfl, ?_⟩
    refine E.bsl rfl rfl rfl (fun b6 w6 E e6 => ?_)
    replace S := S.ext e6
    replace F := F.ext e6
    refine ⟨by (repeat (((refine ld_of (F.cells.at _ (by exact rfl)) ?_)))); rfl, ?_⟩
    refine S.app1 (v := lookV h op (pairAt args 0).2) (by kernel_rfl) F h0 h1 rfl (E.blk (.head _)) rfl (by have := K.room; omega) (fun v' w' L' m' S F hs => ?_)
    replace E := E.call m'
    repeat ((first | refine fad_of ?_ | refine nil_of ?_))
    refine S.st F h0 h1 hs.one (by decide) (c' := pushC (nowC h) (lookV h op (pairAt args 0).2)) rfl F.temps hs (fun w2 m2 S F => ?_)
    intro _
    exact hR _ _ vc vs (E.call m2).mu (by rw [dn, if_neg c2, if_neg c3, if_neg c7, if_neg c8, if_neg c9, if_neg c10, if_neg c11, if_pos c12]; exact S)
  repeat (((refine eql_of ?_)))
  refine condP_of (fun c12 => ?_) (fun c12 => ?_)
  · rw [decide_eq_true c12]; exact look (by omega)
  repeat (((refine eql_of ?_)))
  refine condP_of (fun c13 => ?_) (fun c13 => ?_)
  · rw [decide_eq_true c13]; intro _; exact look (by omega)
  repeat (((refine eql_of ?_)))
  refine condP_of (fun c17 => ?_) (fun c17 => ?_)
  · rw [decide_eq_true c17]; intro _; intro _; exact look (by omega)
  repeat (((refine eql_of ?_)))
  by_cases c18 : op.1 = 18
  · rw [decide_eq_true c18]; intro _; intro _; exact look (by omega)
  rw [decide_eq_false c18]
  intro _ _ _
  refine condT_false ?_
  have c12' : ¬ (op.1 = 12 ∨ op.1 = 13 ∨ op.1 = 17 ∨ op.1 = 18) := by omega
  repeat (((refine eql_of ?_)))
  refine condP_of (fun c14 => ?_) (fun c14 => ?_)
  · replace E := E.drew
    replace S := S.drew
    obtain ⟨i0, i1⟩ := K.isC (by omega)
    have hl := K.two (by omega)
    have ho := K.jmp (.inr c14)
    repeat (first | (first | refine fad_of ?_ | refine nil_of ?_) | (first | refine E.ld (by first | exact .head _ | exact .tail _ (.head _)) (by exact rfl) ?_ | refine ld_of (S.cell (by exact rfl)) ?_))
    refine pair_ix (E.unAny (q := []) ha hn) (by omega) (by omega) (fun b5 o5 hc5 => ?_)
    repeat (first | ((refine fad_of ?_)) | ((apply ld_of; (case h => iterate 14 (first | done | exact Cells.at (by assumption) _ (by exact rfl))))))
    clear F
    refine S.ix i0 i1 (fun b6 o6 ut6 us6 F => ?_)
    repeat (first | ((refine fad_of ?_)) | ((refine ld_of (F.cells.at _ (by exact rfl)) ?_)))
    refine F.temps.len_of ?_
    repeat (((refine lss_of ?_)))
    refine condP_of (fun hlt => ?_) (fun hlt => ?_)
    · replace E := E.drew
      replace S := S.drew
      replace F := F.drew
      repeat (first | (first | refine fad_of ?_ | refine nil_of ?_) | ((refine ld_of (S.cell (by exact rfl)) ?_)))
      refine pair_ix (E.unAny (q := []) ha hn) (by omega) (by omega) (fun b5 o5 hc5 => ?_)
      repeat (first | ((refine fad_of ?_)) | ((apply ld_of; (case h => iterate 14 (first | done | exact Cells.at (by assumption) _ (by exact rfl))))))
      clear F
      refine S.ix i0 i1 (fun b6 o6 ut6 us6 F => ?_)
      repeat (first | ((refine fad_of ?_)) | (first | refine E.ld (by first | exact .head _ | exact .tail _ (.head _)) (by exact rfl) ?_ | refine ld_of (F.cells.at _ (by exact rfl)) ?_))
      refine pair_ix (i := 1) (E.unAny (q := []) ha hn) (by omega) (by omega) (fun b7 o7 hc7 => ?_)
      repeat (((apply lds_of; (case h => iterate 14 (first | done | assumption)); (case hn => exact rfl))))
      refine F.temps.ixo_of rfl ho hlt (fun x b8 o8 es mm hx hat ho' hK hc8 => ?_)
      refine S.stTemp (v := pairAt args 1) F i0 i1 hat ho hlt (fun w5 m5 S F => ?_)
      intro _
      refine hR _ _ vc vs (E.call m5).mu ?_
      rw [dn, if_neg c2, if_neg c3, if_neg c7, if_neg c8, if_neg c9, if_neg c10, if_neg c11, if_neg c12', if_pos c14]
      unfold pokeH
      rw [if_pos hlt]
      exact S
    · intro _
      refine hR _ _ vc vs E.mu ?_
      rw [dn, if_neg c2, if_neg c3, if_neg c7, if_neg c8, if_neg c9, if_neg c10, if_neg c11, if_neg c12', if_pos c14]
      unfold pokeH
      rw [if_neg hlt]
      exact S
  repeat (((refine eql_of ?_)))
  refine condP_of (fun c15 => ?_) (fun c15 => ?_)
  · replace E := E.drew
    replace S := S.drew
    obtain ⟨i0, i1⟩ := K.isC (by omega)
    have hl := K.two (by omega)
    refine pair_ix (E.unAny (q := []) ha hn) (by omega) (by omega) (fun b5 o5 hc5 => ?_)
    repeat (first | ((refine fad_of ?_)) | ((apply ld_of; (case h => iterate 14 (first | done | exact Cells.at (by assumption) _ (by exact rfl))))))
    refine pair_ix (i := 1) (E.unAny (q := []) ha hn) (by omega) (by omega) (fun b7 o7 hc7 => ?_)
    repeat (((apply lds_of; (case h => iterate 14 (first | done | assumption)); (case hn => exact rfl))))
    refine c_back (v := pairAt args 1) S D.ok D.run i0 i1 (fun w5 L5 m5 S => ?_)
    intro _
    exact hR _ _ vc vs (E.call m5).mu (by rw [dn, if_neg c2, if_neg c3, if_neg c7, if_neg c8, if_neg c9, if_neg c10, if_neg c11, if_neg c12', if_neg c14, if_pos c15]; exact S)
  repeat (((refine eql_of ?_)))
  refine condP_of (fun c16 => ?_) (fun c16 => ?_)
  · have hl := K.one (by omega)
    refine pair_ix (E.unAny (q := []) ha hn) (by omega) (by omega) (fun b5 o5 hc5 => ?_)
    repeat (((apply lds_of; (case h => iterate 14 (first | done | assumption)); (case hn => exact rfl))))
    refine c_say (v := pairAt args 0) S (K.val0 hl) hsd (fun w5 L5 vs5 m5 S => ?_)
    intro _
    exact hR _ _ vc vs5 (E.call m5).mu (by rw [dn, if_neg c2, if_neg c3, if_neg c7, if_neg c8, if_neg c9, if_neg c10, if_neg c11, if_neg c12', if_neg c14, if_neg c15, if_pos c16]; exact S)
  · intro _
    exact hR _ _ vc vs E.mu (by rw [dn, if_neg c2, if_neg c3, if_neg c7, if_neg c8, if_neg c9, if_neg c10, if_neg c11, if_neg c12', if_neg c14, if_neg c15, if_neg c16]; exact S)
end Go.PT
namespace Go.PT
attribute [local irreducible] ldT ldsT stT stsT allocT boxT bldT bslT nilT fadT ixaT fldT extT lenT pickT binT notT cviT opT opU condT clT clvT ivT loopT arT ndT World.cell? World.frozen? World.alloc World.drew World.setCell Blk Cells Sl
theorem clone_of {α : Type} {P : Program} {t ty sz : Nat} {f : α → List Value} {h1 : ∀ a, (f a).length = sz} {h2 : ∀ a, ∀ v ∈ f a, v.oneCell' = true} {A : Option Addr} {ys : List α} {x : Value} {ok : Ok} {p : List Nat} {w : World} {k : VW}
    (hc : appB P t (P.elem t) sz = true) (hx : Sl (Kd.flat sz f h1 h2) ok w p ys x) (hn : ys.length ≤ 1073741824)
    (hk : ∀ v' w' M, Ext w w' → Born w M → Lim M w' → Sl (Kd.flat sz f h1 h2) (Own M) w' [] ys v' → k v' w') : opT P (Builtin.append_ #[t, t] ty #[.slice A 0 0, x]) w k := by
  refine grow_row (xs := []) (L := noL) (q := []) hc Sl.none0 hx (by simpa using hn) (noL_lim w) (fun v' w' M g _ hs => ?_)
  refine hk v' w' M (g.fr.to (fun b _ e => by cases e)) (fun b q hb => ?_) g.lim hs
  rcases g.lx b with e | ⟨e, _⟩
  · rw [e] at hb; cases hb
  · exact e
theorem c_step {L : Lab} {w : World} {m n : Nat} {u vc vs : Value} {p : Pg} {h : Hp} {R : VW} (S : SM L w m [u] h vc vs) (hp : Sl kMeth (Un L n) w [] p u) (hn : n ≤ w.heap.size) (H : HOK p h) (hr : h.code = 0)
    (hsd : h.said.length + 1 ≤ 1073741824) (hR : ∀ w' L' vc' vs', Mut L w L' w' → SM L' w' m [u] (stepH p h) vc' vs' → R (.tuple #[]) w') : clT PR 136 [.pointer (some ⟨m, 0, none⟩)] w R := by
  have h0 := H.now0 hr
  have h1 := H.now2
  have hf := H.at h0 h1
  have hm := H.meth h0 h1
  have hpl := prog_len H.prog
  have tk := takes_range H.prog (opNow p h)
  have m0 : 0 ≤ (nowC h).method := hf.m0
  have m1 : (nowC h).method < p.length := hf.m1
  have pc0 : 0 ≤ (nowC h).pc := hf.pc0
  have pc1 : (nowC h).pc ≤ ((opsNow p h).length : Int) := hf.pc1
  have ho : (opsNow p h).length ≤ 14 := hm.ops
  have hst : ((nowC h).stack.length : Int) ≤ 6 := hf.stack
  refine Fspec_l11Heap_step.cl ?_
  unfold Fspec_l11Heap_step
  have E := En.init S.lim
  refine c_now S h0 h1 (fun b o ut us F => ?_)
  replace E := E.drew.drew
  replace S := S.drew.drew
  replace F := F.drew
  repeat (first | (first | refine fad_of ?_ | refine nil_of ?_) | (first | refine ld_of (S.cell (by exact rfl)) ?_ | refine ld_of (F.cells.at _ (by exact rfl)) ?_))
  refine methUn_ix (E.un hp hn) m0 m1 (fun b2 o2 uo hc2 hops => ?_)
  replace hops : Sl kPair (Un L n) _ [] (opsNow p h) uo := hops
  repeat (first | (first | refine fad_of ?_ | refine nil_of ?_ | refine geq_of ?_) | ((refine ld_of (F.cells.at _ (by exact rfl)) ?_)) | ((apply ld_of; (case h => iterate 14 (first | done | exact Cells.at (by assumption) _ (by exact rfl))))) | (refine Sl.len_of (by assumption) ?_))
  have stuck : ∀ {w' : World} {l} (E : En L w L w' l) (S : SM L w' m [u] h vc vs), stepH p h = { h with code := 2 } → nilT PR (.pointer (some ⟨m, 0, none⟩)) fun t31 => fadT 1 t31 fun t32 => fadT 4 t32 fun t33 => stT t33 (.int .i64 2) w' fun w2 => R (.tuple #[]) w2 := by
    intro w' l E S hs
    repeat ((first | refine fad_of ?_ | refine nil_of ?_))
    refine S.stM rfl (by simp) (h' := { h with code := 2 }) rfl S.calls S.said (fun w2 m2 _ S => ?_)
    exact hR _ _ _ _ (E.call m2).mu (hs ▸ S)
  refine condGe_of (fun hge => ?_) (fun hlt => ?_)
  · exact stuck E S (by unfold stepH; rw [if_pos hge])
  repeat (first | (first | refine fad_of ?_ | refine nil_of ?_) | ((refine ld_of (F.cells.at _ (by exact rfl)) ?_)))
  refine pair_ix (hops.unAny (q := []) (Nat.le_trans hn E.size)) pc0 hlt (fun b3 o3 hc3 => ?_)
  replace hc3 : Cells _ b3 o3 [.int .i64 (opNow p h).1, .int .i64 (opNow p h).2] := hc3
  repeat (((apply lds_of; (case h => iterate 14 (first | done | assumption)); (case hn => exact rfl))))
  refine E.als (vs := [.int .i64 (opNow p h).1, .int .i64 (opNow p h).2]) rfl rfl rfl (fun u hu => List.all_eq_true.mp rfl u hu) (fun b4 w4 E e4 => ?_)
  replace S := S.ext e4
  replace F := F.ext e4
  replace E := E.drew
  replace S := S.drew
  replace F := F.drew
  repeat ((first | refine fad_of ?_ | refine nil_of ?_))
  refine lds_of (S.blk.part 0 1 rfl) rfl ?_
  repeat (((refine E.lds (by (exact .head _)) (by exact rfl) ?_)))
  refine c_specTakes (op := opNow p h) (E.unAny hp hn) (by omega) (fun w5 e5 => ?_)
  replace E := E.ext e5
  replace S := S.ext e5
  replace F := F.ext e5
  clear e4 e5
  refine ext_of rfl ?_
  refine ext_of rfl ?_
  repeat (first | (first | refine fad_of ?_ | refine nil_of ?_) | ((refine ld_of (F.cells.at _ (by exact rfl)) ?_)))
  refine F.stack.len_of ?_
  repeat (first | ((refine lss_of ?_)) | ((refine sub_of (by (omega)) (by (omega)) ?_)))
  have hleft : ((nowC h).stack.length : Int) - (takes p (opNow p h)).1 = leftNow p h := rfl
  rw [hleft]
  refine condLt_of (fun hneg => ?_) (fun hnn => ?_)
  · exact stuck E S (by unfold stepH; rw [if_neg (by omega), if_pos (.inl hneg)])
  have hl6 : leftNow p h ≤ (nowC h).stack.length := by omega
  repeat (first | ((refine gtr_of ?_)) | ((refine add_of (by (omega)) (by (omega)) ?_)))
  refine condGt_of (fun hgt => ?_) (fun hle => ?_)
  · exact stuck E S (by unfold stepH; rw [if_neg (by omega), if_pos (.inr hgt)])
  refine E.bsl rfl rfl rfl (fun b6 w6 E e6 => ?_)
  replace S := S.ext e6
  replace F := F.ext e6
  repeat (first | (first | refine fad_of ?_ | refine nil_of ?_) | ((refine ld_of (F.cells.at _ (by exact rfl)) ?_)))
  refine sllE_of (q := []) (by kernel_rfl) free_any (F.stack.any (q := [])) hnn hl6 (fun v7 h7 => ?_)
  have ha7 : (nowC h).stack.drop (leftNow p h).toNat = argsNow p h := rfl
  rw [ha7] at h7
  have hal : ((argsNow p h).length : Int) = (takes p (opNow p h)).1 := by unfold argsNow; rw [List.length_drop]; omega
  refine clone_of (by kernel_rfl) h7 (by omega) (fun v8 w8 M8 e8 hb8 hl8 h8 => ?_)
  have ha := h8.unOf (q := []) (apart_of (S.lim) hb8)
  replace E := E.ext e8
  have hn8 := Nat.le_trans hn E.size
  replace S := S.ext e8
  replace F := F.ext e8
  clear e6 e8
  repeat (((refine E.lds (by first | exact .head _ | exact .tail _ (.head _)) (by exact rfl) ?_)))
  refine c_l11Kinds (op := opNow p h) (h8.any (q := [])) (fun h5 => ?_) (fun h1' => ?_) (fun w9 e9 => ?_)
  · have ht : (takes p (opNow p h)).1 = 2 := by unfold takes; simp [h5]
    omega
  · have ht : 1 ≤ (takes p (opNow p h)).1 := by unfold takes; rcases h1' with h | h | h | h | h | h <;> simp [h]
    omega
  have T : Mut L w8 L w9 := (Mut.refl (S.lim)).ext e9
  replace E := E.ext e9
  replace S := S.ext e9
  replace F := F.ext e9
  clear e9
  repeat (((refine not_of ?_)))
  refine condN_of (fun hk => ?_) (fun hk => ?_)
  · exact stuck E S (by unfold stepH; rw [if_neg (by omega), if_neg (by omega), if_pos hk])
  refine E.bsl rfl rfl rfl (fun b10 w10 E e10 => ?_)
  replace S := S.ext e10
  replace F := F.ext e10
  replace T := T.ext e10
  repeat (first | (first | refine fad_of ?_ | refine nil_of ?_) | ((refine ld_of (F.cells.at _ (by exact rfl)) ?_)))
  refine slrE_of (q := []) (by kernel_rfl) free_any (F.stack.any (q := [])) hnn hl6 (fun v11 h11 => ?_)
  refine clone_of (by kernel_rfl) h11 (by rw [List.length_take]; omega) (fun v12 w12 M12 e12 hb12 hl12 h12 => ?_)
  have hs12 := h12.inR (q := [0, h.now.toNat, 3]) (apart_of S.lim hb12)
  replace T := T.trans (Mut.join (q := [0, h.now.toNat, 3]) e12 S.lim hb12 hl12)
  replace E := E.join [0, h.now.toNat, 3] e12 hb12 hl12
  replace S := (S.ext e12).join (q := [0, h.now.toNat, 3]) hl12
  replace F := (F.ext e12).join (q := [0, h.now.toNat, 3]) (M := M12)
  clear e10 e12
  repeat ((first | refine fad_of ?_ | refine nil_of ?_))
  refine S.st F h0 h1 h12.one (by decide) (c' := { nowC h with stack := (nowC h).stack.take (leftNow p h).toNat }) rfl F.temps hs12 (fun w13 m13 S F => ?_)
  replace E := E.call m13
  replace T := T.trans m13
  repeat (first | (first | refine fad_of ?_ | refine nil_of ?_) | ((refine add_of (by (dsimp only; omega)) (by (dsimp only; omega)) ?_)) | ((refine ld_of (F.cells.at _ (by exact rfl)) ?_)))
  refine S.st F h0 (by rw [putC_len]; exact h1) rfl (by decide) (c' := { nowC h with stack := (nowC h).stack.take (leftNow p h).toNat, pc := (nowC h).pc + 1 }) rfl F.temps F.stack (fun w14 m14 S F => ?_)
  replace E := E.call m14
  replace T := T.trans m14
  repeat (((refine E.lds (by first | exact .head _ | exact .tail _ (.tail _ (.head _))) (by exact rfl) ?_)))
  have hT : putC (putC h h.now { nowC h with stack := (nowC h).stack.take (leftNow p h).toNat }) h.now { nowC h with stack := (nowC h).stack.take (leftNow p h).toNat, pc := (nowC h).pc + 1 } = tookH p h := by unfold tookH putC; simp [List.set_set]
  rw [hT] at S
  have D := step_pre H hr (by omega) (by omega) (by rw [hk]; decide)
  refine c_do S ((E.un hp hn).unUp hn8) T.size (ha.unMut T (Nat.le_refl _)) D hsd (fun w15 L15 vc15 vs15 m15 S => ?_)
  refine hR _ _ vc15 vs15 (E.call m15).mu ?_
  unfold stepH
  rw [if_neg (by omega), if_neg (by omega), if_neg (by rw [hk]; decide)]
  exact S
end Go.PT
namespace Go.PT
variable {α : Type}
theorem sl_flat {sz : Nat} {f : α → List Value} {h1 : ∀ a, (f a).length = sz} {h2 : ∀ a, ∀ v ∈ f a, v.oneCell' = true} {ok : Ok} {w : World} {p : List Nat} {b n cap : Nat} {xs : List α} {rest : List Value} (hb : Blk w b ((xs.map f).flatten ++ rest)) (hn : n = xs.length) (hc : n ≤ cap) (ho : ok w p b (cap * sz)) :
    Sl (Kd.flat sz f h1 h2) ok w p xs (.slice (some ⟨b, 0, none⟩) n cap) := by
  subst hn
  refine ⟨_, cap, rfl, hc, .inr ⟨b, 0, rfl, by simpa [Kd.flat] using ho, fun i x hx => ⟨f x, rfl, fun j c hj => ?_⟩⟩⟩
  refine hb.cell ?_
  have := flatten_get h1 xs i x j c hx hj
  rw [List.getElem?_append_left (List.getElem?_eq_some_iff.mp (by simpa [Kd.flat] using this)).1]
  simpa [Kd.flat] using this
theorem nilS_of {P : Program} {t e : Nat} {x y : Operand} {A : Option Addr} {n c : Nat} {w : World} {k : VW} (ht : P.underlying t = some (.slice e)) (hk : k (.bool A.isNone) w) :
    opT P (do eqGuard .eql t x y (.slice A n c) (.slice none 0 0); binOp .eql t (.slice A n c) (.slice none 0 0)) w k := by
  have : (do eqGuard .eql t x y (.slice A n c) (.slice none 0 0); binOp .eql t (.slice A n c) (.slice none 0 0) : Sem Value).run P w = .ok (.bool A.isNone) w := by
    simp [eqGuard, binOp, run_equal_slice_nil w t e A n c ht]
  unfold opT
  simp only [this]
  exact hk
end Go.PT
namespace Go.PT
attribute [local irreducible] ldT ldsT stT stsT allocT boxT bldT bslT nilT fadT ixaT fldT extT lenT pickT binT notT cviT opT opU condT clT clvT ivT loopT arT ndT World.cell? World.frozen? World.alloc World.drew World.setCell Blk Cells Sl
structure HOwn (M : Lab) (w : World) (h : Hp) (uc us : Value) : Prop where
  calls : Sl kCall (Own M) w [0] h.calls uc
  said : Sl kPair (Own M) w [1] h.said us
def hp0 : Hp := ⟨[], 0, 0, [], 0⟩
theorem hown0 {M : Lab} {w : World} : HOwn M w hp0 (.slice none 0 0) (.slice none 0 0) := ⟨Sl.none0, Sl.none0⟩
def runR (p : Pg) (h : Hp) (n : Int) : Hp × Bool := if heapOk p h && inB n 0 400 then (runH p n.toNat h, true) else (hp0, false)
theorem c_l11Copy {c : Cl} {ut us : Value} {w : World} {R : VW} (ht : Sl kPair Any w [] c.temps ut) (hs : Sl kPair Any w [] c.stack us) (tl : c.temps.length ≤ 1073741824) (sl : c.stack.length ≤ 1073741824)
    (hR : ∀ w' M ut' us', Ext w w' → Born w M → Lim M w' → Sl kPair (Own M) w' [2] c.temps ut' → Sl kPair (Own M) w' [3] c.stack us' → R (.agg (cellsC c ut' us').toArray) w') :
    clT PR 93 [.agg (cellsC c ut us).toArray] w R := by
  refine Fspec_l11Copy.cl ?_
  unfold Fspec_l11Copy
  have E := En.start w
  refine E.box (fun b1 w1 E _ => ?_)
  refine E.al (fun b2 w2 E _ => ?_)
  refine E.bsl rfl rfl rfl (fun b3 w3 E _ => ?_)
  repeat (first | ((refine fad_of ?_)) | ((refine E.ld (by first | exact .head _ | exact .tail _ (.tail _ (.head _))) (by exact rfl) ?_)))
  refine clone_of (by kernel_rfl) (E.any (q := []) ht) tl (fun v4 w4 M4 e4 hb4 hl4 h4 => ?_)
  have g4 := h4.inR (q := [2]) (apart_of E.mu.lim hb4)
  replace E := E.join [2] e4 hb4 hl4
  repeat (((refine fad_of ?_)))
  refine En.st' [_, _] E (show 2 < 6 by decide) h4.one (fun w5 E e5 => ?_)
  replace g4 := g4.loc e5
  refine E.bsl rfl rfl rfl (fun b6 w6 E e6 => ?_)
  replace g4 := g4.keepX e6
  repeat (first | ((refine fad_of ?_)) | ((refine E.ld (by first | exact .head _ | exact .tail _ (.tail _ (.tail _ (.head _)))) (by exact rfl) ?_)))
  refine clone_of (by kernel_rfl) (E.any (q := []) hs) sl (fun v7 w7 M7 e7 hb7 hl7 h7 => ?_)
  have g7 := h7.inR (q := [3]) (apart_of E.mu.lim hb7)
  replace g4 := (g4.keepX e7).inL (q := [3]) (M := M7)
  replace E := E.join [3] e7 hb7 hl7
  repeat (((refine fad_of ?_)))
  refine En.st' [_, _, _] E (show 3 < 6 by decide) h7.one (fun w8 E e8 => ?_)
  replace g4 := g4.loc e8
  replace g7 := g7.loc e8
  repeat (((refine E.lds (by first | exact .head _ | exact .tail _ (.tail _ (.tail _ (.head _)))) (by exact rfl) ?_)))
  refine En.sts' (vs := cellsC c v4 v7) [_, _] rfl E rfl rfl (by intro x hx; simp only [cellsC, List.mem_cons, List.not_mem_nil, or_false] at hx; rcases hx with h | h | h | h | h | h <;> rw [h] <;> first | rfl | exact h4.one | exact h7.one) (fun w9 E e9 => ?_)
  refine E.lds (by (exact .tail _ (.tail _ (.head _)))) rfl ?_
  exact hR _ _ _ _ E.toExt E.born E.mu.lim (g4.loc e9) (g7.loc e9)
theorem c_l11Anew {h : Hp} {uc us : Value} {w : World} {R : VW} (hh : HeapV w h uc us)
    (hR : ∀ w' M uc' us', Ext w w' → Born w M → Lim M w' → HOwn M w' h uc' us' → R (.agg (heapCells h uc' us').toArray) w') :
    clT PR 135 [.agg (heapCells h uc us).toArray] w R := by
  refine Fspec_l11Anew.cl ?_
  unfold Fspec_l11Anew
  have hn := hh.n
  have E := En.start w
  refine E.box (fun b1 w1 E _ => ?_)
  refine E.al (fun b2 w2 E _ => ?_)
  repeat (((refine E.lds (by first | exact .head _ | exact .tail _ (.head _)) (by exact rfl) ?_)))
  refine E.als (vs := heapCells h uc us) rfl rfl rfl (by intro x hx; simp only [heapCells, List.mem_cons, List.not_mem_nil, or_false] at hx; rcases hx with h | h | h | h | h <;> rw [h] <;> first | rfl | exact hh.calls.one | exact hh.said.one) (fun b3 w3 E _ => ?_)
  refine E.bsl rfl rfl rfl (fun b4 w4 E _ => ?_)
  repeat (((refine fad_of ?_)))
  refine En.st' [_] E (show 0 < 5 by decide) rfl (fun w5 E _ => ?_)
  refine loop_of (fun m s wx => ∃ (i : Nat) (v : Value) (L : Lab) (l : List (Nat × List Value)), s = [.pointer (some ⟨b1, 0, none⟩), .pointer (some ⟨b2, 0, none⟩), .pointer (some ⟨b3, 0, none⟩), .int .i64 i] ∧ i + m = h.calls.length ∧
      En noL w L wx ((b3, heapCells h v us) :: (b2, [.slice none 0 0, .int .i64 0, .int .i64 0, .slice none 0 0, .int .i64 0]) :: (b1, heapCells h uc us) :: l) ∧ Sl kCall (Own L) wx [0] (h.calls.take i) v) ?_ (m := h.calls.length)
    ⟨0, .slice (some ⟨b4, 0, none⟩) 0 0, noL, [], rfl, by omega, E.pop, Sl.none0⟩
  clear E
  rintro m s wx Kn ⟨i, v, L, l, rfl, hi, E, hv⟩ hKn
  intro _
  simp only [List.headD_cons, List.tail_cons]
  repeat (first | ((refine fad_of ?_)) | ((refine E.ld (by first | exact .head _ | exact .tail _ (.tail _ (.head _))) (by exact rfl) ?_)))
  refine (hh.calls.len_of ?_)
  repeat (((refine lss_of ?_)))
  refine condLt_of (fun hc => ?_) (fun hc => ?_)
  · have hil : i < h.calls.length := by omega
    have hx : h.calls[i]? = some (callAt h.calls i) := by have := callAt_get (cs := h.calls) (i := (i : Int)) (by omega) (by omega); rwa [Int.toNat_natCast] at this
    replace E := E.drew
    repeat (first | ((refine fad_of ?_)) | ((refine E.ld (by first | exact .head _ | exact .tail _ (.tail _ (.head _))) (by exact rfl) ?_)))
    refine call_ix (i := (i : Int)) (E.any (q := []) hh.calls) (by omega) (by omega) (fun b o u u' hcell hu hu' => ?_)
    obtain ⟨nt, ns⟩ := hh.nt _ (List.mem_of_getElem? hx)
    generalize callAt h.calls (i : Int) = c at hx hcell hu hu' nt ns
    refine lds_of (cs := cellsC c u u') hcell rfl ?_
    refine c_l11Copy hu hu' nt ns (fun w7 M ut us' e7 hb7 hl7 ht hs => ?_)
    have hap := apart_of E.mu.lim hb7
    have ht3 := ht.inR (q := [0, i]) hap
    have hs3 := hs.inR (q := [0, i]) hap
    replace E := E.join [0, i] e7 hb7 hl7
    have hv7 := (hv.drewX.keepX e7).inL (q := [0, i]) (M := M)
    refine ⟨by (repeat (((refine E.ld (by (exact .head _)) (by exact rfl) ?_)))); rfl, ?_⟩
    refine E.bsl rfl rfl rfl (fun b8 w8 E e8 => ?_)
    refine ⟨by (repeat (((refine E.ld (by first | exact .head _ | exact .tail _ (.head _)) (by exact rfl) ?_)))); rfl, ?_⟩
    have hti : (h.calls.take i).length = i := by rw [List.length_take]; omega
    refine grow_one (kd := kCall) c (by kernel_rfl) (hv7.keepX e8) (E.blk (.head _)) ⟨ut, us', rfl, by rw [hti]; exact ht3.keepX e8, by rw [hti]; exact hs3.keepX e8⟩ rfl (by omega) E.mu.lim (fun v9 w9 L9 g9 _ h9 => ?_)
    replace E := E.grow g9
    repeat (((refine fad_of ?_)))
    refine En.st' [_] E (show 0 < 5 by decide) h9.one (fun w10 E e10 => ?_)
    repeat (((refine add_of (by (omega)) (by (omega)) ?_)))
    refine hKn (m - 1) _ _ (by omega) ⟨i + 1, v9, L9, l, rfl, by omega, E.pop, ?_⟩
    rw [List.take_add_one, hx]
    exact h9.loc e10
  · intro _
    have hei : h.calls.take i = h.calls := List.take_of_length_le (by omega)
    rw [hei] at hv
    refine E.bsl rfl rfl rfl (fun b6 w6 E e6 => ?_)
    replace hv := hv.keepX e6
    repeat (first | ((refine fad_of ?_)) | ((refine E.ld (by first | exact .head _ | exact .tail _ (.tail _ (.tail _ (.head _)))) (by exact rfl) ?_)))
    refine clone_of (by kernel_rfl) (E.any (q := []) hh.said) hh.ns (fun v7 w7 M7 e7 hb7 hl7 h7 => ?_)
    have g7 := h7.inR (q := [1]) (apart_of E.mu.lim hb7)
    replace hv := (hv.keepX e7).inL (q := [1]) (M := M7)
    replace E := E.join [1] e7 hb7 hl7
    repeat (((refine fad_of ?_)))
    refine En.st' [_] E (show 3 < 5 by decide) h7.one (fun w8 E e8 => ?_)
    replace hv := hv.loc e8
    replace g7 := g7.loc e8
    repeat (((refine E.lds (by first | exact .head _ | exact .tail _ (.head _)) (by exact rfl) ?_)))
    refine En.sts' (vs := heapCells h v v7) [_, _] rfl E rfl rfl (by intro x hx; simp only [heapCells, List.mem_cons, List.not_mem_nil, or_false] at hx; rcases hx with h | h | h | h | h <;> rw [h] <;> first | rfl | exact hv.one | exact h7.one) (fun w9 E e9 => ?_)
    refine E.lds (by (exact .tail _ (.tail _ (.head _)))) rfl ?_
    exact hR _ _ _ _ E.toExt E.born E.mu.lim ⟨hv.loc e9, g7.loc e9⟩
end Go.PT
namespace Go.PT
attribute [local irreducible] ldT ldsT stT stsT allocT boxT bldT bslT nilT fadT ixaT fldT extT lenT pickT binT notT cviT opT opU condT clT clvT ivT loopT arT ndT World.cell? World.frozen? World.alloc World.drew World.setCell Blk Cells Sl
theorem fill_six {u a b c d e : Value} : fillT #[(.slice none 0 0), (.slice none 0 0), (.int .i64 0), (.int .i64 0), (.slice none 0 0), (.int .i64 0)] [(0, 1, .agg #[u]), (1, 5, .agg #[a, b, c, d, e])] = some #[u, a, b, c, d, e] := by kernel_rfl
theorem said_step {p : Pg} {h : Hp} : (stepH p h).said.length ≤ h.said.length + 1 := by
  have hb : ∀ (n : Nat) (h : Hp) (to : Int), (backL n h to).said = h.said := by
    intro n
    induction n with
    | zero => intro h to; rfl
    | succ n ih => intro h to; unfold backL; split; rfl; rw [ih]; rfl
  have hd : ∀ (h : Hp) (op : Int × Int) (args : List V), (doH p h op args).said.length ≤ h.said.length + 1 := by
    intro h op args
    unfold doH
    split
    · show h.said.length ≤ _; omega
    · repeat' split
      all_goals first
        | (show h.said.length ≤ h.said.length + 1; omega)
        | skip
      · unfold callH; split <;> (show h.said.length ≤ _; omega)
      · unfold retH; split
        · show (h.said ++ [_]).length ≤ _; simp
        · show h.said.length ≤ _; omega
      · unfold pokeH; split <;> (show h.said.length ≤ _; omega)
      · unfold backH; split
        · show h.said.length ≤ _; omega
        · show (backL h.calls.length h _).said.length ≤ _; rw [hb]; omega
      · show (h.said ++ [_]).length ≤ _; simp
  unfold stepH
  repeat' split
  all_goals first
    | (show h.said.length ≤ h.said.length + 1; omega)
    | exact hd (tookH p h) _ _
theorem run_stop {p : Pg} {h : Hp} (hc : h.code ≠ 0) : ∀ n, runH p n h = h
  | 0 => rfl
  | n + 1 => by unfold runH; rw [if_neg hc]
theorem c_specRun {p : Pg} {h : Hp} {n : Int} {u uc us : Value} {w : World} {R : VW} (hp : Sl kMeth Any w [] p u) (hpl : p.length ≤ 1073741824) (hml : ∀ m ∈ p, m.ops.length ≤ 1073741824) (hh : HeapV w h uc us) (hsd : h.said.length ≤ 1073000000)
    (hR : ∀ w' M uc' us', Ext w w' → Born w M → Lim M w' → HOwn M w' (runR p h n).1 uc' us' → R (.tuple #[.agg (heapCells (runR p h n).1 uc' us').toArray, .bool (runR p h n).2]) w') :
    clT PR 57 [.agg #[u], .agg (heapCells h uc us).toArray, .int .i64 n] w R := by
  refine Fspec_HeapRun.cl ?_
  unfold Fspec_HeapRun
  have E := En.start w
  refine E.box (fun b1 w1 E _ => ?_)
  refine E.box (fun b2 w2 E _ => ?_)
  refine E.al (fun b3 w3 E _ => ?_)
  repeat (((refine E.lds (by first | exact .head _ | exact .tail _ (.head _) | exact .tail _ (.tail _ (.head _))) (by exact rfl) ?_)))
  refine c_specHeapOk (hp.ext E.toExt) hpl hml (hh.ext E.toExt) (fun w4 e4 => ?_)
  replace E := E.ext e4
  have no : ∀ {w5 : World} (E : En noL w noL w5 [(b3, [.slice none 0 0, .int .i64 0, .int .i64 0, .slice none 0 0, .int .i64 0]), (b2, heapCells h uc us), (b1, [u])]), runR p h n = (hp0, false) →
      bldT #[(.slice none 0 0), (.int .i64 0), (.int .i64 0), (.slice none 0 0), (.int .i64 0)] [] fun t19 => stsT 5 (.pointer (some ⟨b3, 0, none⟩)) t19 w5 fun w5 => ldsT 5 (.pointer (some ⟨b3, 0, none⟩)) w5 fun r6 => R (.tuple #[r6, (.bool false)]) w5 := by
    intro w5 E hr
    refine bld_of (cs := #[(.slice none 0 0), (.int .i64 0), (.int .i64 0), (.slice none 0 0), (.int .i64 0)]) rfl ?_
    refine En.sts' (vs := [(.slice none 0 0), (.int .i64 0), (.int .i64 0), (.slice none 0 0), (.int .i64 0)]) [] rfl E rfl rfl (fun u hu => List.all_eq_true.mp rfl u hu) (fun w9 E e9 => ?_)
    repeat (((refine E.lds (by (exact .head _)) (by exact rfl) ?_)))
    rw [hr] at hR
    exact hR _ _ _ _ E.toExt E.born E.mu.lim hown0
  repeat (((refine not_of ?_)))
  refine condN_of (fun hf => ?_) (fun ht => ?_)
  · exact no E (by unfold runR; rw [hf]; rfl)
  refine c_specIn ?_
  repeat (((refine not_of ?_)))
  refine condNIn_of (fun hf => ?_) (fun hin => ?_)
  · exact no E (by unfold runR; rw [inB_f hf, Bool.and_false]; rfl)
  have hr : runR p h n = (runH p n.toNat h, true) := by unfold runR; rw [ht, inB_t hin.1 hin.2]; rfl
  rw [hr] at hR
  replace E := E.drew
  repeat (((refine E.lds (by first | exact .head _ | exact .tail _ (.head _) | exact .tail _ (.tail _ (.head _))) (by exact rfl) ?_)))
  refine c_l11Anew (hh.ext E.toExt) (fun w5 M uc' us' e5 hb5 hl5 ho => ?_)
  replace E := E.join [] e5 hb5 hl5
  refine ⟨by (repeat (((refine E.lds (by first | exact .head _ | exact .tail _ (.tail _ (.head _))) (by exact rfl) ?_)))); rfl, ?_⟩
  obtain ⟨A1, c1, hA1⟩ := ho.calls.is
  obtain ⟨A2, c2, hA2⟩ := ho.said.is
  have hcl := ho.calls.inR (L := noL) (q := []) (fun _ _ _ => rfl)
  have hsl := ho.said.inR (L := noL) (q := []) (fun _ _ _ => rfl)
  simp only [List.nil_append] at hcl hsl
  refine bld_of fill_six ?_
  refine box_of' (fun b6 w6 e6 hb6 k6 => ?_)
  have hl6 : b6 < w6.heap.size := Blk.lt k6
  have hM6 : ∀ x p, joinL noL [] M x = some p → x < w5.heap.size := E.mu.lim
  have hap : Apart (joinL noL [] M) (lab1 b6 []) := apart_of E.mu.lim (lab1_born hb6)
  replace E := E.join [] e6 (lab1_born (p := []) hb6) (lab1_lim (p := []) hl6)
  have hlab : joinL (joinL noL [] M) [] (lab1 b6 []) b6 = some [] := joinL_right (by simp [lab1]) (hap b6 [] (by simp [lab1]))
  have S : SM (joinL (joinL noL [] M) [] (lab1 b6 [])) w6 b6 [u] h uc' us' := ⟨k6, hlab, (hcl.keepX e6).inL, (hsl.keepX e6).inL, E.mu.lim⟩
  generalize joinL (joinL noL [] M) [] (lab1 b6 []) = L at E S hlab
  have hu0 := hp.ofAny (q := []) E.born
  have hu := hu0.unExt E.toExt
  have hw0 := E.size
  have H := hok_iff.mp ht
  clear e4 e5 e6 hb5 hl5 hb6 k6 hl6 hM6 hap hlab hcl hsl ho hu0
  refine loop_of (fun m s wx => ∃ (k : Nat) (g : Hp) (L : Lab) (vc vs : Value), s = [.int .i64 n, .pointer (some ⟨b3, 0, none⟩), .bool false, .pointer (some ⟨b6, 0, none⟩), .int .i64 k] ∧ k + m = n.toNat ∧ runH p m g = runH p n.toNat h ∧ HOK p g ∧ g.said.length ≤ h.said.length + k ∧
      En noL w L wx [(b3, [.slice none 0 0, .int .i64 0, .int .i64 0, .slice none 0 0, .int .i64 0]), (b2, heapCells h uc us), (b1, [u])] ∧ SM L wx b6 [u] g vc vs ∧ Sl kMeth (Un L w.heap.size) wx [] p u) ?_ (m := n.toNat)
    ⟨0, h, L, uc', us', rfl, by omega, rfl, H, by omega, E, S, hu⟩
  clear E S hu hw0
  rintro m s wx Kn ⟨k, g, L, vc, vs, rfl, hk, hg, G, gsd, E, S, hu⟩ hKn
  intro _
  simp only [List.headD_cons, List.tail_cons]
  have out : runH p m g = g → Fspec_HeapRun.k2 (.int .i64 n) (.pointer (some ⟨b3, 0, none⟩)) (.bool false) (.pointer (some ⟨b6, 0, none⟩)) (.int .i64 k) wx R := by
    intro he
    rw [← hg, he] at hR
    intro _
    repeat ((first | refine fad_of ?_ | refine nil_of ?_))
    refine lds_of (S.blk.part 1 5 rfl) rfl ?_
    refine En.sts' (vs := heapCells g vc vs) [] rfl E rfl rfl (by intro x hx; simp only [heapCells, List.mem_cons, List.not_mem_nil, or_false] at hx; rcases hx with h | h | h | h | h <;> rw [h] <;> first | rfl | exact S.calls.one | exact S.said.one) (fun w9 E e9 => ?_)
    refine E.lds (.head _) rfl ?_
    exact hR _ _ _ _ E.toExt E.born E.mu.lim ⟨S.calls.loc e9, S.said.loc e9⟩
  repeat (((refine lss_of ?_)))
  refine condLt_of (fun hlt => ?_) (fun hge => ?_)
  · repeat (first | (first | refine fad_of ?_ | refine nil_of ?_ | refine eql_of ?_) | ((refine ld_of (S.cell (by exact rfl)) ?_)))
    refine condP_of (fun hc => ?_) (fun hc => ?_)
    · refine c_step S hu E.size G hc (by omega) (fun w7 L7 vc7 vs7 m7 S7 => ?_)
      repeat (((refine add_of (by (omega)) (by (omega)) ?_)))
      obtain ⟨m, rfl⟩ : ∃ j, m = j + 1 := ⟨m - 1, by omega⟩
      refine hKn m _ _ (by omega) ⟨k + 1, stepH p g, L7, vc7, vs7, rfl, by omega, ?_, step_ok G hc, ?_, E.call m7, S7, hu.unMut m7 E.size⟩
      · rw [← hg]
        conv => rhs; unfold runH
        rw [if_pos hc]
      · have := said_step (p := p) (h := g); omega
    · exact out (run_stop hc m)
  · have hm0 : m = 0 := by omega
    subst hm0
    exact out rfl
end Go.PT
namespace Go.PT
open Go.Proofs
def Fimpl_HeapOk.l1 (x2 x3 x4 x5 x46 x47 x48 : Value) (w : World) (Kn Kb Kr : LW) : Prop := ∀ _ : Env,
  binT .lss x48 x47 fun t49 =>
  condT t49
  (ixaT 6 x46 x48 fun t50 =>
  ldsT 6 t50 w fun t51 =>
  allocT 89 #[(.int .i64 0), (.int .i64 0), (.slice none 0 0), (.slice none 0 0), (.int .i64 0), (.bool false)] w fun t7 w6 =>
  stsT 6 t7 t51 w6 fun w7 =>
  ldsT 6 t7 w7 fun t52 =>
  ldsT 1 x2 w7 fun t53 =>
  fadT 0 x3 fun t54 =>
  ldT t54 w7 fun t55 =>
  lenT t55 fun t56 =>
  clT PR 149 [t52, t53, t56] w7 fun t57 w8 =>
  notT t57 fun t58 =>
  condT t58
  (Kr [x2, x3, (.bool false), x5, x46, x47, x48] w8)
  (fadT 5 t7 fun t59 =>
  ldT t59 w8 fun t60 =>
  notT t60 fun t61 =>
  condT t61
  (binT .add x5 (.int .i64 1) fun t63 =>
  binT .add x48 (.int .i64 1) fun t64 =>
  Kn [x2, x3, x4, t63, x46, x47, t64] w8)
  (binT .add x48 (.int .i64 1) fun t64 =>
  Kn [x2, x3, x4, x5, x46, x47, t64] w8)))
  (Kb [x2, x3, x4, x5, x46, x47, x48] w)
def Fimpl_HeapOk.l3 (x3 x4 x5 x8 : Value) (w : World) (Kn Kb Kr : LW) : Prop := ∀ _ : Env,
  binT .geq x8 (.int .i64 0) fun t68 =>
  condT t68
  (fadT 0 x3 fun t75 =>
  ldT t75 w fun t76 =>
  ixaT 6 t76 x8 fun t78 =>
  ldsT 6 t78 w fun t79 =>
  allocT 89 #[(.int .i64 0), (.int .i64 0), (.slice none 0 0), (.slice none 0 0), (.int .i64 0), (.bool false)] w fun t9 w9 =>
  stsT 6 t9 t79 w9 fun w10 =>
  binT .sub x5 (.int .i64 1) fun t81 =>
  binT .lss t81 (.int .i64 0) fun t83 =>
  condT t83
  (Kr [x3, (.bool false), t81, x8] w10)
  (fadT 5 t9 fun t85 =>
  ldT t85 w10 fun t86 =>
  condT t86
  (Kr [x3, (.bool false), t81, x8] w10)
  (fadT 1 x3 fun t90 =>
  ldT t90 w10 fun t91 =>
  binT .neq x8 t91 fun t92 =>
  condT t92
  (fadT 3 t9 fun t94 =>
  ldT t94 w10 fun t95 =>
  lenT t95 fun t96 =>
  binT .eql t96 (.int .i64 6) fun t97 =>
  condT t97
  (Kr [x3, (.bool false), t81, x8] w10)
  (fadT 0 x3 fun t69 =>
  ldT t69 w10 fun t70 =>
  ixaT 6 t70 x8 fun t72 =>
  fadT 4 t72 fun t73 =>
  ldT t73 w10 fun t74 =>
  Kn [x3, x4, t81, t74] w10))
  (fadT 0 x3 fun t69 =>
  ldT t69 w10 fun t70 =>
  ixaT 6 t70 x8 fun t72 =>
  fadT 4 t72 fun t73 =>
  ldT t73 w10 fun t74 =>
  Kn [x3, x4, t81, t74] w10))))
  (Kb [x3, x4, x5, x8] w)
def Fimpl_HeapOk.k4 (x3 x4 x5 x8 : Value) (w : World) (R : VW) : Prop := ∀ _ : Env,
  binT .eql x5 (.int .i64 0) fun t101 =>
  R t101 w
def Fimpl_HeapOk.r5 (x3 x4 x5 x8 : Value) (w : World) (R : VW) : Prop := ∀ _ : Env,
  R x4 w
def Fimpl_HeapOk.k2 (x2 x3 x4 x5 x46 x47 x48 : Value) (w : World) (R : VW) : Prop := ∀ _ : Env,
  fadT 1 x3 fun t65 =>
  ldT t65 w fun t66 =>
  loopT (fun s w Kn Kb Kr => Fimpl_HeapOk.l3 (s.headD undef) (s.tail.headD undef) (s.tail.tail.headD undef) (s.tail.tail.tail.headD undef) w Kn Kb Kr) [x3, x4, x5, t66] w
  (fun s w => Fimpl_HeapOk.k4 (s.headD undef) (s.tail.headD undef) (s.tail.tail.headD undef) (s.tail.tail.tail.headD undef) w R)
  (fun s w => Fimpl_HeapOk.r5 (s.headD undef) (s.tail.headD undef) (s.tail.tail.headD undef) (s.tail.tail.tail.headD undef) w R)
def Fimpl_HeapOk.r6 (x2 x3 x4 x5 x46 x47 x48 : Value) (w : World) (R : VW) : Prop := ∀ _ : Env,
  R x4 w
def Fimpl_HeapOk (t0 t1 : Value) (w : World) (R : VW) : Prop :=
  boxT 42 t0 w fun t2 w1 =>
  boxT 57 t1 w1 fun t3 w2 =>
  ldsT 1 t2 w2 fun t10 =>
  clT PR 109 [t10] w2 fun t11 w3 =>
  notT t11 fun t12 =>
  condT t12
  (R (.bool false) w3)
  (fadT 1 t3 fun t14 =>
  ldT t14 w3 fun t15 =>
  fadT 0 t3 fun t16 =>
  ldT t16 w3 fun t17 =>
  lenT t17 fun t18 =>
  binT .sub t18 (.int .i64 1) fun t19 =>
  clT PR 121 [t15, (.int .i64 (-1)), t19] w3 fun t20 w4 =>
  notT t20 fun t21 =>
  condT t21
  (R (.bool false) w4)
  (ldsT 1 t2 w4 fun t24 =>
  fadT 2 t3 fun t25 =>
  ldT t25 w4 fun t26 =>
  fadT 3 t3 fun t27 =>
  ldT t27 w4 fun t28 =>
  fadT 4 t3 fun t29 =>
  ldT t29 w4 fun t30 =>
  fadT 1 t3 fun t31 =>
  ldT t31 w4 fun t32 =>
  binT .eql t32 (.int .i64 (-1)) fun t33 =>
  clT PR 111 [t24, t26, t28, t30, t33] w4 fun t34 w5 =>
  notT t34 fun t35 =>
  condT t35
  (R (.bool false) w5)
  (fadT 0 t3 fun t38 =>
  ldT t38 w5 fun t39 =>
  lenT t39 fun t40 =>
  fadT 2 t3 fun t41 =>
  ldT t41 w5 fun t42 =>
  binT .gtr t40 t42 fun t43 =>
  condT t43
  (R (.bool false) w5)
  (fadT 0 t3 fun t45 =>
  ldT t45 w5 fun t46 =>
  lenT t46 fun t47 =>
  loopT (fun s w Kn Kb Kr => Fimpl_HeapOk.l1 (s.headD undef) (s.tail.headD undef) (s.tail.tail.headD undef) (s.tail.tail.tail.headD undef) (s.tail.tail.tail.tail.headD undef) (s.tail.tail.tail.tail.tail.headD undef) (s.tail.tail.tail.tail.tail.tail.headD undef) w Kn Kb Kr) [t2, t3, (.bool false), (.int .i64 0), t46, t47, (.int .i64 0)] w5
  (fun s w => Fimpl_HeapOk.k2 (s.headD undef) (s.tail.headD undef) (s.tail.tail.headD undef) (s.tail.tail.tail.headD undef) (s.tail.tail.tail.tail.headD undef) (s.tail.tail.tail.tail.tail.headD undef) (s.tail.tail.tail.tail.tail.tail.headD undef) w R)
  (fun s w => Fimpl_HeapOk.r6 (s.headD undef) (s.tail.headD undef) (s.tail.tail.headD undef) (s.tail.tail.tail.headD undef) (s.tail.tail.tail.tail.headD undef) (s.tail.tail.tail.tail.tail.headD undef) (s.tail.tail.tail.tail.tail.tail.headD undef) w R)))))
def Fimpl_HeapOk.H : Hints := {loop := fun i => match i with | 5 => some (0, [2, 3, 4, 5, 46, 47, 48]) | 13 => some (2, [3, 4, 5, 8]) | _ => none}
theorem Fimpl_HeapOk.eq (t0 t1 : Value) : trF PR CX Fimpl_HeapOk.H Tryz.f65 [t0, t1] = Fimpl_HeapOk t0 t1 := by kernel_rfl
theorem Fimpl_HeapOk.cl {t0 t1 : Value} {w : World} {R : VW} (h : Fimpl_HeapOk t0 t1 w R) : clT PR 65 [t0, t1] w R := cl_of_tr (H := Fimpl_HeapOk.H) ctxOk Tryz.func65 rfl (by rw [Fimpl_HeapOk.eq]; exact h)
def Fimpl_ProgOk (t0 : Value) (w : World) (R : VW) : Prop :=
  boxT 42 t0 w fun t1 w1 =>
  fadT 0 t1 fun t3 =>
  ldT t3 w1 fun t4 =>
  lenT t4 fun t5 =>
  clT PR 121 [t5, (.int .i64 1), (.int .i64 4)] w1 fun t6 w2 =>
  notT t6 fun t7 =>
  condT t7
  (R (.bool false) w2)
  (fadT 0 t1 fun t9 =>
  ldT t9 w2 fun t10 =>
  ixaT 3 t10 (.int .i64 0) fun t11 =>
  fadT 0 t11 fun t12 =>
  ldT t12 w2 fun t13 =>
  binT .neq t13 (.int .i64 0) fun t14 =>
  condT t14
  (R (.bool false) w2)
  (fadT 0 t1 fun t16 =>
  ldT t16 w2 fun t17 =>
  clT PR 171 [t17, (.func (.func 172) #[] #[t1])] w2 fun t19 w3 =>
  notT t19 fun t20 =>
  R t20 w3))
def Fimpl_ProgOk.H : Hints := {}
theorem Fimpl_ProgOk.eq (t0 : Value) : trF PR CX Fimpl_ProgOk.H Tryz.f109 [t0] = Fimpl_ProgOk t0 := by kernel_rfl
theorem Fimpl_ProgOk.cl {t0 : Value} {w : World} {R : VW} (h : Fimpl_ProgOk t0 w R) : clT PR 109 [t0] w R := cl_of_tr (H := Fimpl_ProgOk.H) ctxOk Tryz.func109 rfl (by rw [Fimpl_ProgOk.eq]; exact h)
def Fimpl_told (t0 t1 t2 t3 t4 : Value) (w : World) (R : VW) : Prop :=
  boxT 42 t0 w fun t5 w1 =>
  clT PR 121 [t1, (.int .i64 1), (.int .i64 30)] w1 fun t14 w2 =>
  condT t14
  (clT PR 179 [t2, (.func (.func 177) #[] #[t5])] w2 fun t18 w3 =>
  notT t18 fun t19 =>
  condT t19
  (clT PR 121 [t3, (.int .i64 0), (.int .i64 3)] w3 fun t23 w4 =>
  condT t23
  (binT .eql t3 (.int .i64 1) fun t27 =>
  opT PR (do eqGuard .eql 4 (.tmp 27) (.tmp 28) t27 t4; binOp .eql 4 t27 t4) w4 fun t29 w5 =>
  R t29 w5)
  (R (.bool false) w4))
  (R (.bool false) w3))
  (R (.bool false) w2)
def Fimpl_told.H : Hints := {}
theorem Fimpl_told.eq (t0 t1 t2 t3 t4 : Value) : trF PR CX Fimpl_told.H Tryz.f111 [t0, t1, t2, t3, t4] = Fimpl_told t0 t1 t2 t3 t4 := by kernel_rfl
theorem Fimpl_told.cl {t0 t1 t2 t3 t4 : Value} {w : World} {R : VW} (h : Fimpl_told t0 t1 t2 t3 t4 w R) : clT PR 111 [t0, t1, t2, t3, t4] w R := cl_of_tr (H := Fimpl_told.H) ctxOk Tryz.func111 rfl (by rw [Fimpl_told.eq]; exact h)
def Fimpl_Call_formed (t0 t1 t2 : Value) (w : World) (R : VW) : Prop :=
  boxT 89 t0 w fun t3 w1 =>
  boxT 42 t1 w1 fun t4 w2 =>
  fadT 0 t3 fun t7 =>
  ldT t7 (w2.drew) fun t8 =>
  fadT 0 t4 fun t9 =>
  ldT t9 (w2.drew) fun t10 =>
  lenT t10 fun t11 =>
  binT .sub t11 (.int .i64 1) fun t12 =>
  clT PR 121 [t8, (.int .i64 0), t12] (w2.drew) fun t13 w3 =>
  notT t13 fun t14 =>
  condT t14
  (R (.bool false) w3)
  (fadT 1 t3 fun t16 =>
  ldT t16 w3 fun t17 =>
  fadT 0 t4 fun t18 =>
  ldT t18 w3 fun t19 =>
  fadT 0 t3 fun t20 =>
  ldT t20 w3 fun t21 =>
  ixaT 3 t19 t21 fun t22 =>
  fadT 2 t22 fun t23 =>
  ldT t23 w3 fun t24 =>
  lenT t24 fun t25 =>
  clT PR 121 [t17, (.int .i64 0), t25] w3 fun t26 w4 =>
  notT t26 fun t27 =>
  condT t27
  (R (.bool false) w4)
  (fadT 2 t3 fun t30 =>
  ldT t30 w4 fun t31 =>
  lenT t31 fun t32 =>
  fadT 0 t4 fun t33 =>
  ldT t33 w4 fun t34 =>
  fadT 0 t3 fun t35 =>
  ldT t35 w4 fun t36 =>
  ixaT 3 t34 t36 fun t37 =>
  fadT 1 t37 fun t38 =>
  ldT t38 w4 fun t39 =>
  binT .neq t32 t39 fun t40 =>
  condT t40
  (R (.bool false) w4)
  (fadT 3 t3 fun t42 =>
  ldT t42 w4 fun t43 =>
  lenT t43 fun t44 =>
  binT .gtr t44 (.int .i64 6) fun t45 =>
  condT t45
  (R (.bool false) w4)
  (fadT 2 t3 fun t47 =>
  ldT t47 w4 fun t48 =>
  clT PR 213 [t48, t2] w4 fun t50 w5 =>
  notT t50 fun t51 =>
  condT t51
  (R (.bool false) w5)
  (fadT 3 t3 fun t54 =>
  ldT t54 w5 fun t55 =>
  clT PR 213 [t55, t2] w5 fun t57 w6 =>
  notT t57 fun t58 =>
  condT t58
  (R (.bool false) w6)
  (fadT 4 t3 fun t61 =>
  ldT t61 w6 fun t62 =>
  binT .sub t2 (.int .i64 1) fun t64 =>
  clT PR 121 [t62, (.int .i64 (-1)), t64] w6 fun t65 w7 =>
  notT t65 fun t66 =>
  condT t66
  (R (.bool false) w7)
  (fadT 5 t3 fun t68 =>
  ldT t68 w7 fun t69 =>
  notT t69 fun t70 =>
  condT t70
  (R (.bool true) w7)
  (fadT 3 t3 fun t72 =>
  ldT t72 w7 fun t73 =>
  lenT t73 fun t74 =>
  binT .eql t74 (.int .i64 0) fun t75 =>
  condT t75
  (fadT 4 t3 fun t77 =>
  ldT t77 w7 fun t78 =>
  binT .eql t78 (.int .i64 (-1)) fun t79 =>
  R t79 w7)
  (R (.bool false) w7)))))))))
def Fimpl_Call_formed.H : Hints := {draw := fun i => match i with | 1 => { T := [0, 1, 0, 4, 12, 28, 63, 127, 255, 511, 1023, 511, 2559, 511, 8703, 31231, 63999, 129535, 260607, 524287, 1048575, 2097151, 4194303, 8388607, 16777215, 33554431, 8388607, 75497471, 8388607, 276824063, 1015021567, 2088763391, 4236247039, 8589934591, 17179869183] } | _ => {}}
theorem Fimpl_Call_formed.eq (t0 t1 t2 : Value) : trF PR CX Fimpl_Call_formed.H Tryz.f149 [t0, t1, t2] = Fimpl_Call_formed t0 t1 t2 := by kernel_rfl
theorem Fimpl_Call_formed.cl {t0 t1 t2 : Value} {w : World} {R : VW} (h : Fimpl_Call_formed t0 t1 t2 w R) : clT PR 149 [t0, t1, t2] w R := cl_of_tr (H := Fimpl_Call_formed.H) ctxOk Tryz.func149 rfl (by rw [Fimpl_Call_formed.eq]; exact h)
def Fslices_ContainsFunc_Method (t0 t1 : Value) (w : World) (R : VW) : Prop :=
  clT PR 221 [t0, t1] w fun t7 w1 =>
  binT .geq t7 (.int .i64 0) fun t8 =>
  R t8 w1
def Fslices_ContainsFunc_Method.H : Hints := {}
theorem Fslices_ContainsFunc_Method.eq (t0 t1 : Value) : trF PR CX Fslices_ContainsFunc_Method.H Tryz.f171 [t0, t1] = Fslices_ContainsFunc_Method t0 t1 := by kernel_rfl
theorem Fslices_ContainsFunc_Method.cl {t0 t1 : Value} {w : World} {R : VW} (h : Fslices_ContainsFunc_Method t0 t1 w R) : clT PR 171 [t0, t1] w R := cl_of_tr (H := Fslices_ContainsFunc_Method.H) ctxOk Tryz.func171 rfl (by rw [Fslices_ContainsFunc_Method.eq]; exact h)
def Fimpl_ProgOk_1 (t0 t1 : Value) (w : World) (R : VW) : Prop :=
  boxT 199 t0 w fun t2 w1 =>
  fadT 0 t2 fun t4 =>
  ldT t4 w1 fun t5 =>
  clT PR 121 [t5, (.int .i64 0), (.int .i64 2)] w1 fun t6 w2 =>
  notT t6 fun t7 =>
  condT t7
  (R (.bool true) w2)
  (fadT 1 t2 fun t9 =>
  ldT t9 w2 fun t10 =>
  fadT 0 t2 fun t11 =>
  ldT t11 w2 fun t12 =>
  clT PR 121 [t10, t12, (.int .i64 4)] w2 fun t13 w3 =>
  notT t13 fun t14 =>
  condT t14
  (R (.bool true) w3)
  (fadT 2 t2 fun t17 =>
  ldT t17 w3 fun t18 =>
  lenT t18 fun t19 =>
  binT .gtr t19 (.int .i64 14) fun t20 =>
  condT t20
  (R (.bool true) w3)
  (fadT 2 t2 fun t22 =>
  ldT t22 w3 fun t23 =>
  clT PR 173 [t23, (.func (.func 174) #[] #[t1, t2])] w3 fun t25 w4 =>
  R t25 w4)))
def Fimpl_ProgOk_1.H : Hints := {}
theorem Fimpl_ProgOk_1.eq (t0 t1 : Value) : trF PR CX Fimpl_ProgOk_1.H Tryz.f172 [t0, t1] = Fimpl_ProgOk_1 t0 t1 := by kernel_rfl
theorem Fimpl_ProgOk_1.cl {t0 t1 : Value} {w : World} {R : VW} (h : Fimpl_ProgOk_1 t0 t1 w R) : clT PR 172 [t0, t1] w R := cl_of_tr (H := Fimpl_ProgOk_1.H) ctxOk Tryz.func172 rfl (by rw [Fimpl_ProgOk_1.eq]; exact h)
def Fslices_ContainsFunc_Op (t0 t1 : Value) (w : World) (R : VW) : Prop :=
  clT PR 222 [t0, t1] w fun t7 w1 =>
  binT .geq t7 (.int .i64 0) fun t8 =>
  R t8 w1
def Fslices_ContainsFunc_Op.H : Hints := {}
theorem Fslices_ContainsFunc_Op.eq (t0 t1 : Value) : trF PR CX Fslices_ContainsFunc_Op.H Tryz.f173 [t0, t1] = Fslices_ContainsFunc_Op t0 t1 := by kernel_rfl
theorem Fslices_ContainsFunc_Op.cl {t0 t1 : Value} {w : World} {R : VW} (h : Fslices_ContainsFunc_Op t0 t1 w R) : clT PR 173 [t0, t1] w R := cl_of_tr (H := Fslices_ContainsFunc_Op.H) ctxOk Tryz.func173 rfl (by rw [Fslices_ContainsFunc_Op.eq]; exact h)
def Fimpl_ProgOk_1_1 (t0 t1 t2 : Value) (w : World) (R : VW) : Prop :=
  boxT 221 t0 w fun t3 w1 =>
  ldsT 2 t3 w1 fun t5 =>
  ldsT 1 t1 w1 fun t6 =>
  ldsT 3 t2 w1 fun t7 =>
  clT PR 175 [t5, t6, t7] w1 fun t8 w2 =>
  notT t8 fun t9 =>
  R t9 w2
def Fimpl_ProgOk_1_1.H : Hints := {}
theorem Fimpl_ProgOk_1_1.eq (t0 t1 t2 : Value) : trF PR CX Fimpl_ProgOk_1_1.H Tryz.f174 [t0, t1, t2] = Fimpl_ProgOk_1_1 t0 t1 t2 := by kernel_rfl
theorem Fimpl_ProgOk_1_1.cl {t0 t1 t2 : Value} {w : World} {R : VW} (h : Fimpl_ProgOk_1_1 t0 t1 t2 w R) : clT PR 174 [t0, t1, t2] w R := cl_of_tr (H := Fimpl_ProgOk_1_1.H) ctxOk Tryz.func174 rfl (by rw [Fimpl_ProgOk_1_1.eq]; exact h)
def Fimpl_Op_ok (t0 t1 t2 : Value) (w : World) (R : VW) : Prop :=
  boxT 221 t0 w fun t3 w1 =>
  boxT 42 t1 w1 fun t4 w2 =>
  boxT 199 t2 w2 fun t5 w3 =>
  fadT 0 t3 fun t10 =>
  ldT t10 w3 fun t11 =>
  clT PR 223 [t11] w3 fun t12 w4 =>
  extT t12 0 fun t13 =>
  extT t12 1 fun t14 =>
  allocT 283 #[(.string ByteArray.empty), (.int .i64 0), (.int .i64 0), (.slice none 0 0), .nilFunc] w4 fun t7 w5 =>
  stsT 5 t7 t13 w5 fun w6 =>
  notT t14 fun t16 =>
  condT t16
  (condT t14
  (fadT 1 t3 fun t24 =>
  ldT t24 w6 fun t25 =>
  binT .eql t25 (.int .i64 0) fun t26 =>
  R t26 w6)
  (R (.bool false) w6))
  (fadT 4 t7 fun t18 =>
  ldT t18 w6 fun t19 =>
  opT PR (do eqGuard .eql 281 (.tmp 19) (.const .nilFunc) t19 .nilFunc; binOp .eql 281 t19 .nilFunc) w6 fun t20 w7 =>
  condT t20
  (condT t14
  (fadT 1 t3 fun t24 =>
  ldT t24 w7 fun t25 =>
  binT .eql t25 (.int .i64 0) fun t26 =>
  R t26 w7)
  (R (.bool false) w7))
  (fadT 1 t3 fun t28 =>
  ldT t28 (w7.drew) fun t29 =>
  fadT 4 t7 fun t30 =>
  ldT t30 (w7.drew) fun t31 =>
  ldsT 1 t4 (w7.drew) fun t32 =>
  ldsT 3 t5 (w7.drew) fun t33 =>
  clvT PR CX t31 [t32, t33] (w7.drew) fun t34 w8 =>
  (ldT t28 w8 fun u => u = t29) ∧
  binT .sub t34 (.int .i64 1) fun t35 =>
  clT PR 121 [t29, (.int .i64 0), t35] w8 fun t36 w9 =>
  R t36 w9))
def Fimpl_Op_ok.H : Hints := {draw := fun i => match i with | 4 => { T := [0, 1, 0, 4, 0, 0, 60, 124, 255, 511] } | _ => {}}
theorem Fimpl_Op_ok.eq (t0 t1 t2 : Value) : trF PR CX Fimpl_Op_ok.H Tryz.f175 [t0, t1, t2] = Fimpl_Op_ok t0 t1 t2 := by kernel_rfl
theorem Fimpl_Op_ok.cl {t0 t1 t2 : Value} {w : World} {R : VW} (h : Fimpl_Op_ok t0 t1 t2 w R) : clT PR 175 [t0, t1, t2] w R := cl_of_tr (H := Fimpl_Op_ok.H) ctxOk Tryz.func175 rfl (by rw [Fimpl_Op_ok.eq]; exact h)
def Fimpl_told_1 (t0 t1 : Value) (w : World) (R : VW) : Prop :=
  boxT 127 t0 w fun t2 w1 =>
  ldsT 2 t2 w1 fun t4 =>
  fadT 0 t1 fun t5 =>
  ldT t5 w1 fun t6 =>
  lenT t6 fun t7 =>
  clT PR 178 [t4, t7] w1 fun t8 w2 =>
  notT t8 fun t9 =>
  R t9 w2
def Fimpl_told_1.H : Hints := {}
theorem Fimpl_told_1.eq (t0 t1 : Value) : trF PR CX Fimpl_told_1.H Tryz.f177 [t0, t1] = Fimpl_told_1 t0 t1 := by kernel_rfl
theorem Fimpl_told_1.cl {t0 t1 : Value} {w : World} {R : VW} (h : Fimpl_told_1 t0 t1 w R) : clT PR 177 [t0, t1] w R := cl_of_tr (H := Fimpl_told_1.H) ctxOk Tryz.func177 rfl (by rw [Fimpl_told_1.eq]; exact h)
def Fimpl_Val_ok (t0 t1 : Value) (w : World) (R : VW) : Prop :=
  boxT 127 t0 w fun t2 w1 =>
  fadT 0 t2 fun t5 =>
  ldT t5 w1 fun t6 =>
  binT .eql t6 (.int .i64 0) fun t8 =>
  condT t8
  (fadT 1 t2 fun t9 =>
  ldT t9 w1 fun t10 =>
  binT .eql t10 (.int .i64 0) fun t11 =>
  R t11 w1)
  (binT .eql t6 (.int .i64 1) fun t13 =>
  condT t13
  (fadT 1 t2 fun t14 =>
  ldT t14 w1 fun t15 =>
  clT PR 121 [t15, (.int .i64 0), (.int .i64 999)] w1 fun t16 w2 =>
  R t16 w2)
  (binT .eql t6 (.int .i64 2) fun t18 =>
  condT t18
  (fadT 1 t2 fun t19 =>
  ldT t19 w1 fun t20 =>
  binT .sub t1 (.int .i64 1) fun t22 =>
  clT PR 121 [t20, (.int .i64 0), t22] w1 fun t23 w3 =>
  R t23 w3)
  (R (.bool false) w1)))
def Fimpl_Val_ok.H : Hints := {}
theorem Fimpl_Val_ok.eq (t0 t1 : Value) : trF PR CX Fimpl_Val_ok.H Tryz.f178 [t0, t1] = Fimpl_Val_ok t0 t1 := by kernel_rfl
theorem Fimpl_Val_ok.cl {t0 t1 : Value} {w : World} {R : VW} (h : Fimpl_Val_ok t0 t1 w R) : clT PR 178 [t0, t1] w R := cl_of_tr (H := Fimpl_Val_ok.H) ctxOk Tryz.func178 rfl (by rw [Fimpl_Val_ok.eq]; exact h)
def Fslices_ContainsFunc_Val (t0 t1 : Value) (w : World) (R : VW) : Prop :=
  clT PR 225 [t0, t1] w fun t7 w1 =>
  binT .geq t7 (.int .i64 0) fun t8 =>
  R t8 w1
def Fslices_ContainsFunc_Val.H : Hints := {}
theorem Fslices_ContainsFunc_Val.eq (t0 t1 : Value) : trF PR CX Fslices_ContainsFunc_Val.H Tryz.f179 [t0, t1] = Fslices_ContainsFunc_Val t0 t1 := by kernel_rfl
theorem Fslices_ContainsFunc_Val.cl {t0 t1 : Value} {w : World} {R : VW} (h : Fslices_ContainsFunc_Val t0 t1 w R) : clT PR 179 [t0, t1] w R := cl_of_tr (H := Fslices_ContainsFunc_Val.H) ctxOk Tryz.func179 rfl (by rw [Fslices_ContainsFunc_Val.eq]; exact h)
def Fimpl_valsOk (t0 t1 : Value) (w : World) (R : VW) : Prop :=
  boxT 3 t1 w fun t3 w1 =>
  clT PR 179 [t0, (.func (.func 246) #[] #[t3])] w1 fun t7 w2 =>
  notT t7 fun t8 =>
  R t8 w2
def Fimpl_valsOk.H : Hints := {}
theorem Fimpl_valsOk.eq (t0 t1 : Value) : trF PR CX Fimpl_valsOk.H Tryz.f213 [t0, t1] = Fimpl_valsOk t0 t1 := by kernel_rfl
theorem Fimpl_valsOk.cl {t0 t1 : Value} {w : World} {R : VW} (h : Fimpl_valsOk t0 t1 w R) : clT PR 213 [t0, t1] w R := cl_of_tr (H := Fimpl_valsOk.H) ctxOk Tryz.func213 rfl (by rw [Fimpl_valsOk.eq]; exact h)
def Fslices_IndexFunc_Method.l1 (x0 x1 x4 x7 x8 : Value) (w : World) (Kn Kb Kr : LW) : Prop := ∀ _ : Env,
  binT .lss x8 x7 fun t9 =>
  condT t9
  (ixaT 3 x0 x8 fun t14 =>
  ldsT 3 t14 w fun t15 =>
  clvT PR CX x1 [t15] w fun t16 w1 =>
  condT t16
  (Kr [x0, x1, x8, x7, x8] w1)
  (binT .add x8 (.int .i64 1) fun t18 =>
  Kn [x0, x1, x4, x7, t18] w1))
  (Kb [x0, x1, x4, x7, x8] w)
def Fslices_IndexFunc_Method.k2 (x0 x1 x4 x7 x8 : Value) (w : World) (R : VW) : Prop := ∀ _ : Env,
  R (.int .i64 (-1)) w
def Fslices_IndexFunc_Method.r3 (x0 x1 x4 x7 x8 : Value) (w : World) (R : VW) : Prop := ∀ _ : Env,
  R x4 w
def Fslices_IndexFunc_Method (t0 t1 : Value) (w : World) (R : VW) : Prop :=
  lenT t0 fun t7 =>
  loopT (fun s w Kn Kb Kr => Fslices_IndexFunc_Method.l1 (s.headD undef) (s.tail.headD undef) (s.tail.tail.headD undef) (s.tail.tail.tail.headD undef) (s.tail.tail.tail.tail.headD undef) w Kn Kb Kr) [t0, t1, (.int .i64 0), t7, (.int .i64 0)] w
  (fun s w => Fslices_IndexFunc_Method.k2 (s.headD undef) (s.tail.headD undef) (s.tail.tail.headD undef) (s.tail.tail.tail.headD undef) (s.tail.tail.tail.tail.headD undef) w R)
  (fun s w => Fslices_IndexFunc_Method.r3 (s.headD undef) (s.tail.headD undef) (s.tail.tail.headD undef) (s.tail.tail.tail.headD undef) (s.tail.tail.tail.tail.headD undef) w R)
def Fslices_IndexFunc_Method.H : Hints := {loop := fun i => match i with | 2 => some (0, [0, 1, 4, 7, 8]) | _ => none}
theorem Fslices_IndexFunc_Method.eq (t0 t1 : Value) : trF PR CX Fslices_IndexFunc_Method.H Tryz.f221 [t0, t1] = Fslices_IndexFunc_Method t0 t1 := by kernel_rfl
theorem Fslices_IndexFunc_Method.cl {t0 t1 : Value} {w : World} {R : VW} (h : Fslices_IndexFunc_Method t0 t1 w R) : clT PR 221 [t0, t1] w R := cl_of_tr (H := Fslices_IndexFunc_Method.H) ctxOk Tryz.func221 rfl (by rw [Fslices_IndexFunc_Method.eq]; exact h)
def Fslices_IndexFunc_Op.l1 (x0 x1 x4 x7 x8 : Value) (w : World) (Kn Kb Kr : LW) : Prop := ∀ _ : Env,
  binT .lss x8 x7 fun t9 =>
  condT t9
  (ixaT 2 x0 x8 fun t14 =>
  ldsT 2 t14 w fun t15 =>
  clvT PR CX x1 [t15] w fun t16 w1 =>
  condT t16
  (Kr [x0, x1, x8, x7, x8] w1)
  (binT .add x8 (.int .i64 1) fun t18 =>
  Kn [x0, x1, x4, x7, t18] w1))
  (Kb [x0, x1, x4, x7, x8] w)
def Fslices_IndexFunc_Op.k2 (x0 x1 x4 x7 x8 : Value) (w : World) (R : VW) : Prop := ∀ _ : Env,
  R (.int .i64 (-1)) w
def Fslices_IndexFunc_Op.r3 (x0 x1 x4 x7 x8 : Value) (w : World) (R : VW) : Prop := ∀ _ : Env,
  R x4 w
def Fslices_IndexFunc_Op (t0 t1 : Value) (w : World) (R : VW) : Prop :=
  lenT t0 fun t7 =>
  loopT (fun s w Kn Kb Kr => Fslices_IndexFunc_Op.l1 (s.headD undef) (s.tail.headD undef) (s.tail.tail.headD undef) (s.tail.tail.tail.headD undef) (s.tail.tail.tail.tail.headD undef) w Kn Kb Kr) [t0, t1, (.int .i64 0), t7, (.int .i64 0)] w
  (fun s w => Fslices_IndexFunc_Op.k2 (s.headD undef) (s.tail.headD undef) (s.tail.tail.headD undef) (s.tail.tail.tail.headD undef) (s.tail.tail.tail.tail.headD undef) w R)
  (fun s w => Fslices_IndexFunc_Op.r3 (s.headD undef) (s.tail.headD undef) (s.tail.tail.headD undef) (s.tail.tail.tail.headD undef) (s.tail.tail.tail.tail.headD undef) w R)
def Fslices_IndexFunc_Op.H : Hints := {loop := fun i => match i with | 2 => some (0, [0, 1, 4, 7, 8]) | _ => none}
theorem Fslices_IndexFunc_Op.eq (t0 t1 : Value) : trF PR CX Fslices_IndexFunc_Op.H Tryz.f222 [t0, t1] = Fslices_IndexFunc_Op t0 t1 := by kernel_rfl
theorem Fslices_IndexFunc_Op.cl {t0 t1 : Value} {w : World} {R : VW} (h : Fslices_IndexFunc_Op t0 t1 w R) : clT PR 222 [t0, t1] w R := cl_of_tr (H := Fslices_IndexFunc_Op.H) ctxOk Tryz.func222 rfl (by rw [Fslices_IndexFunc_Op.eq]; exact h)
def Fimpl_mannerOf (t0 : Value) (w : World) (R : VW) : Prop :=
  allocT 283 #[(.string ByteArray.empty), (.int .i64 0), (.int .i64 0), (.slice none 0 0), .nilFunc] w fun t2 w1 =>
  clT PR 121 [t0, (.int .i64 1), (.int .i64 18)] w1 fun t5 w2 =>
  notT t5 fun t6 =>
  condT t6
  (bldT #[(.string ByteArray.empty), (.int .i64 0), (.int .i64 0), (.slice none 0 0), .nilFunc] [] fun t7 =>
  stsT 5 t2 t7 w2 fun w3 =>
  ldsT 5 t2 w3 fun r4 =>
  R (.tuple #[r4, (.bool false)]) w3)
  (clT PR 232 [] w2 fun t8 w5 =>
  ixaT 5 t8 t0 fun t10 =>
  ldsT 5 t10 w5 fun t11 =>
  stsT 5 t2 t11 w5 fun w6 =>
  ldsT 5 t2 w6 fun r7 =>
  R (.tuple #[r7, (.bool true)]) w6)
def Fimpl_mannerOf.H : Hints := {}
theorem Fimpl_mannerOf.eq (t0 : Value) : trF PR CX Fimpl_mannerOf.H Tryz.f223 [t0] = Fimpl_mannerOf t0 := by kernel_rfl
theorem Fimpl_mannerOf.cl {t0 : Value} {w : World} {R : VW} (h : Fimpl_mannerOf t0 w R) : clT PR 223 [t0] w R := cl_of_tr (H := Fimpl_mannerOf.H) ctxOk Tryz.func223 rfl (by rw [Fimpl_mannerOf.eq]; exact h)
def Fslices_IndexFunc_Val.l1 (x0 x1 x4 x7 x8 : Value) (w : World) (Kn Kb Kr : LW) : Prop := ∀ _ : Env,
  binT .lss x8 x7 fun t9 =>
  condT t9
  (ixaT 2 x0 x8 fun t14 =>
  ldsT 2 t14 w fun t15 =>
  clvT PR CX x1 [t15] w fun t16 w1 =>
  condT t16
  (Kr [x0, x1, x8, x7, x8] w1)
  (binT .add x8 (.int .i64 1) fun t18 =>
  Kn [x0, x1, x4, x7, t18] w1))
  (Kb [x0, x1, x4, x7, x8] w)
def Fslices_IndexFunc_Val.k2 (x0 x1 x4 x7 x8 : Value) (w : World) (R : VW) : Prop := ∀ _ : Env,
  R (.int .i64 (-1)) w
def Fslices_IndexFunc_Val.r3 (x0 x1 x4 x7 x8 : Value) (w : World) (R : VW) : Prop := ∀ _ : Env,
  R x4 w
def Fslices_IndexFunc_Val (t0 t1 : Value) (w : World) (R : VW) : Prop :=
  lenT t0 fun t7 =>
  loopT (fun s w Kn Kb Kr => Fslices_IndexFunc_Val.l1 (s.headD undef) (s.tail.headD undef) (s.tail.tail.headD undef) (s.tail.tail.tail.headD undef) (s.tail.tail.tail.tail.headD undef) w Kn Kb Kr) [t0, t1, (.int .i64 0), t7, (.int .i64 0)] w
  (fun s w => Fslices_IndexFunc_Val.k2 (s.headD undef) (s.tail.headD undef) (s.tail.tail.headD undef) (s.tail.tail.tail.headD undef) (s.tail.tail.tail.tail.headD undef) w R)
  (fun s w => Fslices_IndexFunc_Val.r3 (s.headD undef) (s.tail.headD undef) (s.tail.tail.headD undef) (s.tail.tail.tail.headD undef) (s.tail.tail.tail.tail.headD undef) w R)
def Fslices_IndexFunc_Val.H : Hints := {loop := fun i => match i with | 2 => some (0, [0, 1, 4, 7, 8]) | _ => none}
theorem Fslices_IndexFunc_Val.eq (t0 t1 : Value) : trF PR CX Fslices_IndexFunc_Val.H Tryz.f225 [t0, t1] = Fslices_IndexFunc_Val t0 t1 := by kernel_rfl
theorem Fslices_IndexFunc_Val.cl {t0 t1 : Value} {w : World} {R : VW} (h : Fslices_IndexFunc_Val t0 t1 w R) : clT PR 225 [t0, t1] w R := cl_of_tr (H := Fslices_IndexFunc_Val.H) ctxOk Tryz.func225 rfl (by rw [Fslices_IndexFunc_Val.eq]; exact h)
def Fimpl_manners (w : World) (R : VW) : Prop :=
  bslT 3 1 1 #[(.int .i64 0)] [(0, 1, (.int .i64 (-1)))] w fun t7 w1 =>
  bslT 3 1 1 #[(.int .i64 0)] [(0, 1, (.int .i64 2))] w1 fun t8 w2 =>
  bldT #[(.string ByteArray.empty), (.int .i64 0), (.int .i64 0), (.slice none 0 0), .nilFunc] [] fun t9 =>
  clvT PR CX (.func (.func 253) #[] #[]) [(.int .i64 100)] w2 fun t11 w3 =>
  bldT #[(.string ByteArray.empty), (.int .i64 0), (.int .i64 0), (.slice none 0 0), .nilFunc] [(0, 1, (.string ⟨#[110, 117, 109]⟩)), (1, 1, (.int .i64 0)), (2, 1, (.int .i64 1)), (3, 1, (.slice none 0 0)), (4, 1, t11)] fun t12 =>
  bldT #[(.string ByteArray.empty), (.int .i64 0), (.int .i64 0), (.slice none 0 0), .nilFunc] [(0, 1, (.string ⟨#[116, 101, 109, 112]⟩)), (1, 1, (.int .i64 0)), (2, 1, (.int .i64 1)), (3, 1, (.slice none 0 0)), (4, 1, (.func (.func 255) #[] #[]))] fun t14 =>
  bldT #[(.string ByteArray.empty), (.int .i64 0), (.int .i64 0), (.slice none 0 0), .nilFunc] [(0, 1, (.string ⟨#[115, 101, 116]⟩)), (1, 1, (.int .i64 1)), (2, 1, (.int .i64 0)), (3, 1, t7), (4, 1, (.func (.func 255) #[] #[]))] fun t17 =>
  bldT #[(.string ByteArray.empty), (.int .i64 0), (.int .i64 0), (.slice none 0 0), .nilFunc] [(0, 1, (.string ⟨#[100, 114, 111, 112]⟩)), (1, 1, (.int .i64 1)), (2, 1, (.int .i64 0)), (3, 1, t7), (4, 1, .nilFunc)] fun t19 =>
  bslT 3 2 1 #[(.int .i64 0)] [(0, 1, (.int .i64 1)), (1, 1, (.int .i64 1))] w3 fun t20 w4 =>
  bldT #[(.string ByteArray.empty), (.int .i64 0), (.int .i64 0), (.slice none 0 0), .nilFunc] [(0, 1, (.string ⟨#[97, 100, 100]⟩)), (1, 1, (.int .i64 2)), (2, 1, (.int .i64 1)), (3, 1, t20), (4, 1, .nilFunc)] fun t21 =>
  bslT 3 2 1 #[(.int .i64 0)] [(0, 1, (.int .i64 (-1))), (1, 1, (.int .i64 (-1)))] w4 fun t22 w5 =>
  bldT #[(.string ByteArray.empty), (.int .i64 0), (.int .i64 0), (.slice none 0 0), .nilFunc] [(0, 1, (.string ⟨#[115, 97, 109, 101]⟩)), (1, 1, (.int .i64 2)), (2, 1, (.int .i64 1)), (3, 1, t22), (4, 1, .nilFunc)] fun t23 =>
  bldT #[(.string ByteArray.empty), (.int .i64 0), (.int .i64 0), (.slice none 0 0), .nilFunc] [(0, 1, (.string ⟨#[106, 117, 109, 112]⟩)), (1, 1, (.int .i64 0)), (2, 1, (.int .i64 0)), (3, 1, (.slice none 0 0)), (4, 1, (.func (.func 256) #[] #[]))] fun t25 =>
  bldT #[(.string ByteArray.empty), (.int .i64 0), (.int .i64 0), (.slice none 0 0), .nilFunc] [(0, 1, (.string ⟨#[122, 101, 114, 111]⟩)), (1, 1, (.int .i64 1)), (2, 1, (.int .i64 0)), (3, 1, t7), (4, 1, (.func (.func 256) #[] #[]))] fun t28 =>
  bldT #[(.string ByteArray.empty), (.int .i64 0), (.int .i64 0), (.slice none 0 0), .nilFunc] [(0, 1, (.string ⟨#[99, 97, 108, 108]⟩)), (1, 1, (.int .i64 0)), (2, 1, (.int .i64 1)), (3, 1, (.slice none 0 0)), (4, 1, (.func (.func 257) #[] #[]))] fun t30 =>
  bldT #[(.string ByteArray.empty), (.int .i64 0), (.int .i64 0), (.slice none 0 0), .nilFunc] [(0, 1, (.string ⟨#[114, 101, 116]⟩)), (1, 1, (.int .i64 1)), (2, 1, (.int .i64 0)), (3, 1, t7), (4, 1, .nilFunc)] fun t32 =>
  bldT #[(.string ByteArray.empty), (.int .i64 0), (.int .i64 0), (.slice none 0 0), .nilFunc] [(0, 1, (.string ⟨#[104, 101, 114, 101]⟩)), (1, 1, (.int .i64 0)), (2, 1, (.int .i64 1)), (3, 1, (.slice none 0 0)), (4, 1, .nilFunc)] fun t33 =>
  bldT #[(.string ByteArray.empty), (.int .i64 0), (.int .i64 0), (.slice none 0 0), .nilFunc] [(0, 1, (.string ⟨#[115, 101, 110, 100, 101, 114]⟩)), (1, 1, (.int .i64 1)), (2, 1, (.int .i64 1)), (3, 1, t8), (4, 1, .nilFunc)] fun t35 =>
  clvT PR CX (.func (.func 253) #[] #[]) [(.int .i64 4)] w5 fun t38 w6 =>
  bldT #[(.string ByteArray.empty), (.int .i64 0), (.int .i64 0), (.slice none 0 0), .nilFunc] [(0, 1, (.string ⟨#[112, 101, 101, 107]⟩)), (1, 1, (.int .i64 1)), (2, 1, (.int .i64 1)), (3, 1, t8), (4, 1, t38)] fun t39 =>
  bslT 3 2 1 #[(.int .i64 0)] [(0, 1, (.int .i64 2)), (1, 1, (.int .i64 (-1)))] w6 fun t40 w7 =>
  clvT PR CX (.func (.func 253) #[] #[]) [(.int .i64 4)] w7 fun t42 w8 =>
  bldT #[(.string ByteArray.empty), (.int .i64 0), (.int .i64 0), (.slice none 0 0), .nilFunc] [(0, 1, (.string ⟨#[112, 111, 107, 101]⟩)), (1, 1, (.int .i64 2)), (2, 1, (.int .i64 0)), (3, 1, t40), (4, 1, t42)] fun t43 =>
  bslT 3 2 1 #[(.int .i64 0)] [(0, 1, (.int .i64 2)), (1, 1, (.int .i64 (-1)))] w8 fun t44 w9 =>
  bldT #[(.string ByteArray.empty), (.int .i64 0), (.int .i64 0), (.slice none 0 0), .nilFunc] [(0, 1, (.string ⟨#[98, 97, 99, 107]⟩)), (1, 1, (.int .i64 2)), (2, 1, (.int .i64 1)), (3, 1, t44), (4, 1, .nilFunc)] fun t45 =>
  bldT #[(.string ByteArray.empty), (.int .i64 0), (.int .i64 0), (.slice none 0 0), .nilFunc] [(0, 1, (.string ⟨#[115, 97, 121]⟩)), (1, 1, (.int .i64 1)), (2, 1, (.int .i64 0)), (3, 1, t7), (4, 1, .nilFunc)] fun t47 =>
  bldT #[(.string ByteArray.empty), (.int .i64 0), (.int .i64 0), (.slice none 0 0), .nilFunc] [(0, 1, (.string ⟨#[100, 101, 97, 100]⟩)), (1, 1, (.int .i64 1)), (2, 1, (.int .i64 1)), (3, 1, t8), (4, 1, .nilFunc)] fun t49 =>
  bldT #[(.string ByteArray.empty), (.int .i64 0), (.int .i64 0), (.slice none 0 0), .nilFunc] [(0, 1, (.string ⟨#[119, 104, 101, 114, 101]⟩)), (1, 1, (.int .i64 1)), (2, 1, (.int .i64 1)), (3, 1, t8), (4, 1, .nilFunc)] fun t51 =>
  bslT 283 19 5 #[(.string ByteArray.empty), (.int .i64 0), (.int .i64 0), (.slice none 0 0), .nilFunc] [(0, 5, t9), (5, 5, t12), (10, 5, t14), (15, 5, t17), (20, 5, t19), (25, 5, t21), (30, 5, t23), (35, 5, t25), (40, 5, t28), (45, 5, t30), (50, 5, t32), (55, 5, t33), (60, 5, t35), (65, 5, t39), (70, 5, t43), (75, 5, t45), (80, 5, t47), (85, 5, t49), (90, 5, t51)] w9 fun t52 w10 =>
  R t52 w10
def Fimpl_manners.H : Hints := {}
theorem Fimpl_manners.eq : trF PR CX Fimpl_manners.H Tryz.f232 [] = Fimpl_manners := by kernel_rfl
theorem Fimpl_manners.cl {w : World} {R : VW} (h : Fimpl_manners w R) : clT PR 232 [] w R := cl_of_tr (H := Fimpl_manners.H) ctxOk Tryz.func232 rfl (by rw [Fimpl_manners.eq]; exact h)
def Fimpl_valsOk_1 (t0 t1 : Value) (w : World) (R : VW) : Prop :=
  boxT 127 t0 w fun t2 w1 =>
  ldsT 2 t2 w1 fun t4 =>
  ldT t1 w1 fun t5 =>
  clT PR 178 [t4, t5] w1 fun t6 w2 =>
  notT t6 fun t7 =>
  R t7 w2
def Fimpl_valsOk_1.H : Hints := {}
theorem Fimpl_valsOk_1.eq (t0 t1 : Value) : trF PR CX Fimpl_valsOk_1.H Tryz.f246 [t0, t1] = Fimpl_valsOk_1 t0 t1 := by kernel_rfl
theorem Fimpl_valsOk_1.cl {t0 t1 : Value} {w : World} {R : VW} (h : Fimpl_valsOk_1 t0 t1 w R) : clT PR 246 [t0, t1] w R := cl_of_tr (H := Fimpl_valsOk_1.H) ctxOk Tryz.func246 rfl (by rw [Fimpl_valsOk_1.eq]; exact h)
def Fimpl_manners_1 (t0 : Value) (w : World) (R : VW) : Prop :=
  boxT 3 t0 w fun t1 w1 =>
  R (.func (.func 254) #[] #[t1]) w1
def Fimpl_manners_1.H : Hints := {}
theorem Fimpl_manners_1.eq (t0 : Value) : trF PR CX Fimpl_manners_1.H Tryz.f253 [t0] = Fimpl_manners_1 t0 := by kernel_rfl
theorem Fimpl_manners_1.cl {t0 : Value} {w : World} {R : VW} (h : Fimpl_manners_1 t0 w R) : clT PR 253 [t0] w R := cl_of_tr (H := Fimpl_manners_1.H) ctxOk Tryz.func253 rfl (by rw [Fimpl_manners_1.eq]; exact h)
def Fimpl_manners_1_1 (t0 t1 t2 : Value) (w : World) (R : VW) : Prop :=
  boxT 42 t0 w fun t3 w1 =>
  boxT 199 t1 w1 fun t4 w2 =>
  ldT t2 w2 fun t6 =>
  R t6 w2
def Fimpl_manners_1_1.H : Hints := {}
theorem Fimpl_manners_1_1.eq (t0 t1 t2 : Value) : trF PR CX Fimpl_manners_1_1.H Tryz.f254 [t0, t1, t2] = Fimpl_manners_1_1 t0 t1 t2 := by kernel_rfl
theorem Fimpl_manners_1_1.cl {t0 t1 t2 : Value} {w : World} {R : VW} (h : Fimpl_manners_1_1 t0 t1 t2 w R) : clT PR 254 [t0, t1, t2] w R := cl_of_tr (H := Fimpl_manners_1_1.H) ctxOk Tryz.func254 rfl (by rw [Fimpl_manners_1_1.eq]; exact h)
def Fimpl_manners_2 (t0 t1 : Value) (w : World) (R : VW) : Prop :=
  boxT 42 t0 w fun t2 w1 =>
  boxT 199 t1 w1 fun t3 w2 =>
  fadT 1 t3 fun t5 =>
  ldT t5 w2 fun t6 =>
  R t6 w2
def Fimpl_manners_2.H : Hints := {}
theorem Fimpl_manners_2.eq (t0 t1 : Value) : trF PR CX Fimpl_manners_2.H Tryz.f255 [t0, t1] = Fimpl_manners_2 t0 t1 := by kernel_rfl
theorem Fimpl_manners_2.cl {t0 t1 : Value} {w : World} {R : VW} (h : Fimpl_manners_2 t0 t1 w R) : clT PR 255 [t0, t1] w R := cl_of_tr (H := Fimpl_manners_2.H) ctxOk Tryz.func255 rfl (by rw [Fimpl_manners_2.eq]; exact h)
def Fimpl_manners_3 (t0 t1 : Value) (w : World) (R : VW) : Prop :=
  boxT 42 t0 w fun t2 w1 =>
  boxT 199 t1 w1 fun t3 w2 =>
  fadT 2 t3 fun t5 =>
  ldT t5 w2 fun t6 =>
  lenT t6 fun t7 =>
  R t7 w2
def Fimpl_manners_3.H : Hints := {}
theorem Fimpl_manners_3.eq (t0 t1 : Value) : trF PR CX Fimpl_manners_3.H Tryz.f256 [t0, t1] = Fimpl_manners_3 t0 t1 := by kernel_rfl
theorem Fimpl_manners_3.cl {t0 t1 : Value} {w : World} {R : VW} (h : Fimpl_manners_3 t0 t1 w R) : clT PR 256 [t0, t1] w R := cl_of_tr (H := Fimpl_manners_3.H) ctxOk Tryz.func256 rfl (by rw [Fimpl_manners_3.eq]; exact h)
def Fimpl_manners_4 (t0 t1 : Value) (w : World) (R : VW) : Prop :=
  boxT 42 t0 w fun t2 w1 =>
  boxT 199 t1 w1 fun t3 w2 =>
  fadT 0 t2 fun t5 =>
  ldT t5 w2 fun t6 =>
  lenT t6 fun t7 =>
  R t7 w2
def Fimpl_manners_4.H : Hints := {}
theorem Fimpl_manners_4.eq (t0 t1 : Value) : trF PR CX Fimpl_manners_4.H Tryz.f257 [t0, t1] = Fimpl_manners_4 t0 t1 := by kernel_rfl
theorem Fimpl_manners_4.cl {t0 t1 : Value} {w : World} {R : VW} (h : Fimpl_manners_4 t0 t1 w R) : clT PR 257 [t0, t1] w R := cl_of_tr (H := Fimpl_manners_4.H) ctxOk Tryz.func257 rfl (by rw [Fimpl_manners_4.eq]; exact h)
end Go.PT
namespace Go.PT
attribute [local irreducible] ldT ldsT stT stsT allocT boxT bldT bslT nilT fadT ixaT fldT extT lenT pickT binT notT cviT opT opU condT clT clvT ivT loopT arT ndT World.cell? World.frozen? World.alloc World.drew World.setCell Blk Cells Sl
theorem c_implIn {a b c : Int} {w : World} {R : VW} (h : R (.bool (inB a b c)) w) : clT PR 121 [.int .i64 a, .int .i64 b, .int .i64 c] w R := by
  refine Fimpl_in.cl ?_
  unfold Fimpl_in
  repeat (((refine geq_of ?_)))
  refine condP_of (fun hc => ?_) (fun hc => ?_)
  · repeat (((refine leq_of ?_)))
    have : inB a b c = decide (a ≤ c) := by unfold inB; rw [decide_eq_true (show b ≤ a from hc), Bool.true_and]
    rw [← this]; exact h
  · have : inB a b c = false := by unfold inB; rw [decide_eq_false (show ¬ b ≤ a from hc), Bool.false_and]
    rw [← this]; exact h
theorem c_valOk {v : V} {n : Int} {w : World} {R : VW} (hn : 0 ≤ n) (hn' : n ≤ 1073741824) (hR : ∀ w', Ext w w' → R (.bool (valOk n v)) w') : clT PR 178 [.agg #[.int .i64 v.1, .int .i64 v.2], .int .i64 n] w R := by
  replace hR : ∀ w' b, Ext w w' → b = valOk n v → R (.bool b) w' := fun w' b e h => h ▸ hR w' e
  refine Fimpl_Val_ok.cl ?_
  unfold Fimpl_Val_ok
  refine box_of' (fun b1 w1 e1 hb1 (k1 : Blk w1 b1 [.int .i64 v.1, .int .i64 v.2]) => ?_)
  repeat' (first | (first | refine fad_of ?_ | refine eql_of ?_) | ((refine sub_of (by (omega)) (by (omega)) ?_)) | ((apply ld_of; (case h => iterate 14 (first | done | exact Blk.cell (by assumption) (by exact rfl))))) | ((fail)) | ((refine condP_of (fun _ => ?_) (fun _ => ?_))) | refine c_implIn ?_)
  all_goals exact hR _ _ (by iterate 20 (first | done | assumption)) (by unfold valOk; simp [*])
def Tells (w : World) (fv : Value) (f : V → Bool) : Prop :=
  ∀ (v : V) (w1 : World) (R : VW), Ext w w1 → (∀ w', Ext w1 w' → R (.bool (f v)) w') → clvT PR CX fv [.agg #[.int .i64 v.1, .int .i64 v.2]] w1 R
theorem c_indexV {l : List V} {u fv : Value} {f : V → Bool} {w : World} {R : VW} (h : Sl kPair Any w [] l u) (hl : l.length ≤ 1073741824) (hf : Tells w fv f)
    (hR : ∀ w' n, Ext w w' → (0 ≤ n ↔ l.any f = true) → R (.int .i64 n) w') : clT PR 225 [u, fv] w R := by
  refine Fslices_IndexFunc_Val.cl ?_
  unfold Fslices_IndexFunc_Val
  repeat ((refine Sl.len_of (by assumption) ?_))
  refine loop_of (fun m s w' => Ext w w' ∧ ∃ i : Nat, i + m = l.length ∧ s = [u, fv, .int .i64 0, .int .i64 l.length, .int .i64 i] ∧ (l.take i).any f = false) ?_ (m := l.length) ⟨Fr.refl _ _, 0, by omega, rfl, rfl⟩
  rintro m s w' Kn ⟨he, i, hi, rfl, hok⟩ hKn
  intro _
  simp only [List.headD_cons, List.tail_cons]
  repeat (((refine lss_of ?_)))
  refine condLt_of (fun hc => ?_) (fun hc => ?_)
  · have hil : i < l.length := by omega
    refine pair_ix (i := (i : Int)) h (by omega) (by omega) (fun b o hcell => ?_)
    have hx : l[i]? = some (pairAt l i) := by unfold pairAt; rw [Int.toNat_natCast, List.getD_eq_getElem?_getD, List.getElem?_eq_getElem hil]; rfl
    generalize pairAt l (i : Int) = v at hx hcell
    repeat (((apply lds_of; (case h => iterate 14 (first | done | assumption | (apply fun h => Cells.ext h (by assumption)))); (case hn => exact rfl))))
    refine hf v _ _ he (fun w1 e1 => ?_)
    refine cond_of (fun ht => ?_) (fun hff => ?_)
    · intro _
      refine hR _ _ (by iterate 20 (first | done | assumption | (apply fun h => Fr.trans h (by assumption)))) ⟨fun _ => ?_, fun _ => by omega⟩
      rw [List.any_eq_true]
      exact ⟨v, List.mem_of_getElem? hx, ht⟩
    · repeat (((refine add_of (by (omega)) (by (omega)) ?_)))
      refine hKn (m - 1) _ _ (by omega) ⟨by iterate 20 (first | done | assumption | (apply fun h => Fr.trans h (by assumption))), i + 1, by omega, rfl, ?_⟩
      rw [List.take_add_one, hx, List.any_append, hok]
      simp [hff]
  · intro _
    have hei : l.take i = l := List.take_of_length_le (by omega)
    rw [hei] at hok
    exact hR _ _ he ⟨fun h => by omega, fun h => by rw [hok] at h; cases h⟩
theorem c_containsV {l : List V} {u fv : Value} {f : V → Bool} {w : World} {R : VW} (h : Sl kPair Any w [] l u) (hl : l.length ≤ 1073741824) (hf : Tells w fv f)
    (hR : ∀ w', Ext w w' → R (.bool (l.any f)) w') : clT PR 179 [u, fv] w R := by
  refine Fslices_ContainsFunc_Val.cl ?_
  unfold Fslices_ContainsFunc_Val
  refine c_indexV h hl hf (fun w1 n e1 hn => ?_)
  repeat (((refine geq_of ?_)))
  have : decide (n ≥ 0) = l.any f := by rw [Bool.eq_iff_iff, decide_eq_true_eq]; exact hn
  rw [this]
  exact hR _ e1
theorem c_valsOk {l : List V} {u : Value} {n : Int} {w : World} {R : VW} (h : Sl kPair Any w [] l u) (hl : l.length ≤ 1073741824) (hn : 0 ≤ n) (hn' : n ≤ 1073741824) (hR : ∀ w', Ext w w' → R (.bool (valsOk n l)) w') :
    clT PR 213 [u, .int .i64 n] w R := by
  refine Fimpl_valsOk.cl ?_
  unfold Fimpl_valsOk
  refine box_of' (fun b1 w1 e1 hb1 (k1 : Blk w1 b1 [.int .i64 n]) => ?_)
  refine c_containsV (f := fun v => !valOk n v) (h.ext e1) hl ?_ (fun w2 e2 => ?_)
  · intro v w3 R' e3 hR'
    refine clv_of (by kernel_rfl) rfl ?_
    refine Fimpl_valsOk_1.cl ?_
    unfold Fimpl_valsOk_1
    refine box_of' (fun b2 w4 e4 hb2 (k2 : Blk w4 b2 [.int .i64 v.1, .int .i64 v.2]) => ?_)
    repeat ((first | (apply ld_of; (case h => iterate 14 (first | done | exact Blk.cell (by assumption) (by exact rfl) | (apply Ext.cell (by assumption))))) | (apply lds_of; (case h => iterate 14 (first | done | exact Blk.cells (by assumption))); (case hn => exact rfl))))
    refine c_valOk hn hn' (fun w5 e5 => ?_)
    repeat (((refine not_of ?_)))
    exact hR' _ (e4.trans e5)
  · repeat (((refine not_of ?_)))
    have : (!l.any fun v => !valOk n v) = valsOk n l := by unfold valsOk; rw [List.not_any_eq_all_not]; simp
    rw [this]
    exact hR _ (e1.trans e2)
end Go.PT
namespace Go.PT
attribute [local irreducible] ldT ldsT stT stsT allocT boxT bldT bslT nilT fadT ixaT fldT extT lenT pickT binT notT cviT opT opU condT clT clvT ivT loopT arT ndT World.cell? World.frozen? World.alloc World.drew World.setCell Blk Cells Sl
theorem c_formed {p : Pg} {c : Cl} {n : Int} {w : World} {R : VW} {u ut us : Value} (hp : Sl kMeth Any w [] p u) (ht : Sl kPair Any w [] c.temps ut) (hs : Sl kPair Any w [] c.stack us) (hpl : p.length ≤ 1073741824) (htl : c.temps.length ≤ 1073741824)
    (hsl : c.stack.length ≤ 1073741824) (hn : 0 ≤ n) (hn' : n ≤ 1073741824) (hR : ∀ w', Ext w w' → R (.bool (form p n c)) w') :
    clT PR 149 [.agg #[.int .i64 c.method, .int .i64 c.pc, ut, us, .int .i64 c.sender, .bool c.dead], .agg #[u], .int .i64 n] w R := by
  replace hR : ∀ w' b, Ext w w' → b = form p n c → R (.bool b) w' := fun w' b e h => h ▸ hR w' e
  refine Fimpl_Call_formed.cl ?_
  unfold Fimpl_Call_formed
  refine box_of' (fun b2 w1 e1 hb2 (k2 : Blk w1 b2 [.int .i64 c.method, .int .i64 c.pc, ut, us, .int .i64 c.sender, .bool c.dead]) => ?_)
  refine box_of' (fun b1 w2 e2 hb1 (k1 : Blk w2 b1 [u]) => ?_)
  repeat' (first | (first | refine fad_of ?_ | refine gtr_of ?_ | refine eql_of ?_ | refine neq_of ?_ | refine not_of ?_) | ((refine sub_of (by (omega)) (by (omega)) ?_)) | ((apply ld_of; (case h => iterate 14 (first | done | exact Blk.cell (by assumption) (by exact rfl) | exact Cells.at (by assumption) _ (by exact rfl) | apply cell_drew | (apply Ext.cell (by assumption)))))) | (refine Sl.len_of (by assumption) ?_) | ((fail)) | (first | refine condNIn_of (fun _ => ?_) (fun _ => ?_) | refine condNe_of (fun _ => ?_) (fun _ => ?_) | refine condGt_of (fun _ => ?_) (fun _ => ?_) | refine condP_of (fun _ => ?_) (fun _ => ?_) | refine condN_of (fun _ => ?_) (fun _ => ?_)) | refine c_implIn ?_ | refine meth_ix (by assumption) (by omega) (by omega) (fun _ _ _ _ _ => ?_) | refine c_valsOk (by iterate 14 (first | done | assumption | apply Sl.drew | (apply fun h => Sl.ext h (by assumption)))) (by omega) (by omega) (by omega) (fun _ _ => ?_))
  all_goals exact hR _ _ (by iterate 20 (first | done | assumption | apply Fr.drew | (apply fun h => Fr.trans h (by assumption)))) (by unfold form; first | (simp [*, inB_t, inB_f]; done) | (simp [*, inB_t, inB_f, -List.length_eq_zero_iff, -Int.natCast_eq_zero]; done) | (simp [*, inB_t, inB_f]; intros; omega))
theorem c_told {p : Pg} {l : List V} {born code : Int} {ended : Bool} {u us : Value} {w : World} {R : VW} (hp : Sl kMeth Any w [] p u) (hs : Sl kPair Any w [] l us) (hpl : p.length ≤ 1073741824) (hsl : l.length ≤ 1073741824)
    (hR : ∀ w', Ext w w' → R (.bool (inB born 1 30 && (saidOk p l && (inB code 0 3 && (decide (code = 1) == ended))))) w') :
    clT PR 111 [.agg #[u], .int .i64 born, us, .int .i64 code, .bool ended] w R := by
  replace hR : ∀ w' b, Ext w w' → b = (inB born 1 30 && (saidOk p l && (inB code 0 3 && (decide (code = 1) == ended)))) → R (.bool b) w' := fun w' b e h => h ▸ hR w' e
  refine Fimpl_told.cl ?_
  unfold Fimpl_told
  refine box_of' (fun b1 w1 e1 hb1 (k1 : Blk w1 b1 [u]) => ?_)
  refine c_implIn ?_
  refine condIn_of (fun h1 => ?_) (fun h1 => ?_)
  · refine c_containsV (f := fun v => !valOk p.length v) (hs.ext e1) hsl ?_ (fun w2 e2 => ?_)
    · intro v w3 R' e3 hR'
      refine clv_of (by kernel_rfl) rfl ?_
      refine Fimpl_told_1.cl ?_
      unfold Fimpl_told_1
      refine box_of' (fun b2 w4 e4 hb2 (k2 : Blk w4 b2 [.int .i64 v.1, .int .i64 v.2]) => ?_)
      repeat (first | ((refine fad_of ?_)) | (first | (apply ld_of; (case h => iterate 14 (first | done | exact Blk.cell (by assumption) (by exact rfl) | (apply Ext.cell (by assumption))))) | (apply lds_of; (case h => iterate 14 (first | done | exact Blk.cells (by assumption))); (case hn => exact rfl))) | (refine Sl.len_of (by assumption) ?_))
      refine c_valOk (by omega) (by omega) (fun w5 e5 => ?_)
      repeat (((refine not_of ?_)))
      exact hR' _ (e4.trans e5)
    · have hsd : (!l.any fun v => !valOk p.length v) = saidOk p l := by unfold saidOk; rw [List.not_any_eq_all_not]; simp
      repeat (((refine not_of ?_)))
      rw [hsd]
      refine cond_of (fun h2 => ?_) (fun h2 => ?_)
      · refine c_implIn ?_
        refine condIn_of (fun h3 => ?_) (fun h3 => ?_)
        · repeat (((refine eql_of ?_)))
          refine eqlB_of (by kernel_rfl) ?_
          exact hR _ _ (by iterate 20 (first | done | assumption | (apply fun h => Fr.trans h (by assumption)))) (by rw [inB_t h1.1 h1.2, h2, inB_t h3.1 h3.2]; rfl)
        · exact hR _ _ (by iterate 20 (first | done | assumption | (apply fun h => Fr.trans h (by assumption)))) (by rw [inB_t h1.1 h1.2, h2, inB_f h3]; rfl)
      · exact hR _ _ (by iterate 20 (first | done | assumption | (apply fun h => Fr.trans h (by assumption)))) (by rw [inB_t h1.1 h1.2, h2]; rfl)
  · exact hR _ _ (by iterate 20 (first | done | assumption)) (by rw [inB_f h1]; rfl)
end Go.PT
namespace Go.PT
attribute [local irreducible] ldT ldsT stT stsT allocT boxT bldT bslT nilT fadT ixaT fldT extT lenT pickT binT notT cviT opT opU condT clT clvT ivT loopT arT ndT World.cell? World.frozen? World.alloc World.drew World.setCell Blk Cells Sl
def takesT : List Int := [0, 0, 0, 1, 1, 2, 2, 0, 1, 0, 1, 0, 1, 1, 2, 2, 1, 1, 1]
def leftT : List Int := [0, 1, 1, 0, 0, 1, 1, 0, 0, 1, 0, 1, 1, 1, 0, 1, 0, 1, 1]
def kindsT : List (List Int) := [[], [], [], [-1], [-1], [1, 1], [-1, -1], [], [-1], [], [-1], [], [2], [2], [2, -1], [2, -1], [-1], [2], [2]]
def mostOf (p : Pg) (m : Meth) (k : Int) : Option Int :=
  if k = 1 then some 100 else if k = 2 ∨ k = 3 then some m.temps else if k = 7 ∨ k = 8 then some m.ops.length else if k = 9 then some p.length else if k = 13 ∨ k = 14 then some 4 else none
def Most (w : World) (fv : Value) (k : Int) : Prop :=
  (fv = .nilFunc ∧ ∀ p m, mostOf p m k = none) ∨
  ((∃ f x y, fv = .func f x y) ∧ ∀ (p : Pg) (m : Meth) (u um : Value) (w1 : World) (R : VW), Ext w w1 → Sl kMeth Any w1 [] p u → Sl kPair Any w1 [] m.ops um → p.length ≤ 1073741824 → m.ops.length ≤ 1073741824 →
    (∀ w' n, Ext w1 w' → mostOf p m k = some n → R (.int .i64 n) w') → clvT PR CX fv [.agg #[u], .agg #[.int .i64 m.args, .int .i64 m.temps, um]] w1 R)
theorem most_const {w : World} {b : Nat} {n k : Int} (hk : Blk w b [.int .i64 n]) (hm : ∀ p m, mostOf p m k = some n) : Most w (.func (.func 254) #[] #[.pointer (some ⟨b, 0, none⟩)]) k := by
  refine .inr ⟨⟨_, _, _, rfl⟩, ?_⟩
  intro p m u um w1 R he hp ho hpl hml hR
  refine clv_of (by kernel_rfl) rfl ?_
  refine Fimpl_manners_1_1.cl ?_
  unfold Fimpl_manners_1_1
  refine box_of' (fun b1 w2 e1 hb1 _ => ?_)
  refine box_of' (fun b2 w3 e2 hb2 _ => ?_)
  repeat (((apply ld_of; (case h => iterate 14 (first | done | exact Blk.cell (by assumption) (by exact rfl) | (apply Ext.cell (by assumption)))))))
  exact hR _ _ (e1.trans e2) (hm p m)
theorem most_temps {w : World} {k : Int} (hm : ∀ p m, mostOf p m k = some m.temps) : Most w (.func (.func 255) #[] #[]) k := by
  refine .inr ⟨⟨_, _, _, rfl⟩, ?_⟩
  intro p m u um w1 R he hp ho hpl hml hR
  refine clv_of (by kernel_rfl) rfl ?_
  refine Fimpl_manners_2.cl ?_
  unfold Fimpl_manners_2
  refine box_of' (fun b1 w2 e1 hb1 (k1 : Blk w2 b1 [u]) => ?_)
  refine box_of' (fun b2 w3 e2 hb2 (k2 : Blk w3 b2 [.int .i64 m.args, .int .i64 m.temps, um]) => ?_)
  repeat (first | ((refine fad_of ?_)) | ((apply ld_of; (case h => iterate 14 (first | done | exact Blk.cell (by assumption) (by exact rfl))))))
  exact hR _ _ (e1.trans e2) (hm p m)
theorem most_ops {w : World} {k : Int} (hm : ∀ p m, mostOf p m k = some m.ops.length) : Most w (.func (.func 256) #[] #[]) k := by
  refine .inr ⟨⟨_, _, _, rfl⟩, ?_⟩
  intro p m u um w1 R he hp ho hpl hml hR
  refine clv_of (by kernel_rfl) rfl ?_
  refine Fimpl_manners_3.cl ?_
  unfold Fimpl_manners_3
  refine box_of' (fun b1 w2 e1 hb1 (k1 : Blk w2 b1 [u]) => ?_)
  refine box_of' (fun b2 w3 e2 hb2 (k2 : Blk w3 b2 [.int .i64 m.args, .int .i64 m.temps, um]) => ?_)
  repeat (first | ((refine fad_of ?_)) | ((apply ld_of; (case h => iterate 14 (first | done | exact Blk.cell (by assumption) (by exact rfl))))) | (refine Sl.len_of (by assumption) ?_))
  exact hR _ _ (e1.trans e2) (hm p m)
theorem most_methods {w : World} {k : Int} (hm : ∀ p m, mostOf p m k = some (List.length (α := Meth) p)) : Most w (.func (.func 257) #[] #[]) k := by
  refine .inr ⟨⟨_, _, _, rfl⟩, ?_⟩
  intro p m u um w1 R he hp ho hpl hml hR
  refine clv_of (by kernel_rfl) rfl ?_
  refine Fimpl_manners_4.cl ?_
  unfold Fimpl_manners_4
  refine box_of' (fun b1 w2 e1 hb1 (k1 : Blk w2 b1 [u]) => ?_)
  refine box_of' (fun b2 w3 e2 hb2 (k2 : Blk w3 b2 [.int .i64 m.args, .int .i64 m.temps, um]) => ?_)
  repeat (first | ((refine fad_of ?_)) | ((apply ld_of; (case h => iterate 14 (first | done | exact Blk.cell (by assumption) (by exact rfl) | (apply Ext.cell (by assumption)))))) | (refine Sl.len_of (by assumption) ?_))
  exact hR _ _ (e1.trans e2) (hm p m)
end Go.PT
namespace Go.PT
attribute [local irreducible] ldT ldsT stT stsT allocT boxT bldT bslT nilT fadT ixaT fldT extT lenT pickT binT notT cviT opT opU condT clT clvT ivT loopT arT ndT World.cell? World.frozen? World.alloc World.drew World.setCell Blk Cells Sl
theorem sl_ints {w : World} {b : Nat} (xs : List Int) (h : Blk w b (xs.map fun n => Value.int .i64 n)) : Sl kInt Any w [] xs (.slice (some ⟨b, 0, none⟩) xs.length xs.length) := by
  unfold Sl
  refine ⟨_, xs.length, rfl, Nat.le_refl _, .inr ⟨b, 0, rfl, h.lt, fun i x hx => ⟨[.int .i64 x], rfl, ?_⟩⟩⟩
  refine h.part _ 1 ?_
  have hlt := (List.getElem?_eq_some_iff.mp hx).1
  rw [← List.map_drop, ← List.map_take]
  have : ((xs.drop (0 + i * kInt.sz)).take 1) = [x] := by
    have e : 0 + i * kInt.sz = i := by show 0 + i * 1 = i; omega
    rw [e, List.drop_eq_getElem_cons hlt]
    have := (List.getElem?_eq_some_iff.mp hx).2
    rw [this]; rfl
  rw [this]; rfl
structure ManRow (w : World) (b k : Nat) : Prop where
  is : ∃ s u f, Cells w b (k * 5) [s, .int .i64 (takesT.getD k 0), .int .i64 (leftT.getD k 0), u, f] ∧ Sl kInt Any w [] (kindsT.getD k []) u ∧ Most w f k ∧ s.oneCell' = true ∧ f.oneCell' = true
theorem c_manner1 {n : Int} {w : World} {R : VW} (hR : ∀ b w', Ext w w' → w.heap.size ≤ b → Blk w' b [.int .i64 n] → R (.func (.func 254) #[] #[.pointer (some ⟨b, 0, none⟩)]) w') : clvT PR CX (.func (.func 253) #[] #[]) [.int .i64 n] w R := by
  refine clv_of (by kernel_rfl) rfl ?_
  refine Fimpl_manners_1.cl ?_
  unfold Fimpl_manners_1
  refine box_of' (fun b1 w2 e1 hb1 (k1 : Blk w2 b1 [.int .i64 n]) => ?_)
  exact hR _ _ e1 hb1 k1
theorem c_manners {w : World} {R : VW} (hR : ∀ w' b, Ext w w' → w.heap.size ≤ b → (∀ w'', Fr (fun x => x < w.heap.size) w' w'' → ∀ k, 1 ≤ k → k ≤ 18 → ManRow w'' b k) → R (.slice (some ⟨b, 0, none⟩) 19 19) w') : clT PR 232 [] w R := by
  refine Fimpl_manners.cl ?_
  unfold Fimpl_manners
  refine bsl_of' rfl rfl rfl (fun b7 w1 e1 hb7 (k7 : Blk w1 b7 [.int .i64 (-1)]) => ?_)
  refine bsl_of' rfl rfl rfl (fun b8 w2 e2 hb8 (k8 : Blk w2 b8 [.int .i64 2]) => ?_)
  refine bld_of (cs := #[_, _, _, _, _]) (by exact rfl) ?_
  refine c_manner1 (fun b11 w3 e3 hb11 k11 => ?_)
  refine bld_of (cs := #[_, _, _, _, _]) (by exact rfl) ?_
  refine bld_of (cs := #[_, _, _, _, _]) (by exact rfl) ?_
  refine bld_of (cs := #[_, _, _, _, _]) (by exact rfl) ?_
  refine bld_of (cs := #[_, _, _, _, _]) (by exact rfl) ?_
  refine bsl_of' rfl rfl rfl (fun b20 w4 e4 hb20 (k20 : Blk w4 b20 [.int .i64 1, .int .i64 1]) => ?_)
  refine bld_of (cs := #[_, _, _, _, _]) (by exact rfl) ?_
  refine bsl_of' rfl rfl rfl (fun b22 w5 e5 hb22 (k22 : Blk w5 b22 [.int .i64 (-1), .int .i64 (-1)]) => ?_)
  refine bld_of (cs := #[_, _, _, _, _]) (by exact rfl) ?_
  refine bld_of (cs := #[_, _, _, _, _]) (by exact rfl) ?_
  refine bld_of (cs := #[_, _, _, _, _]) (by exact rfl) ?_
  refine bld_of (cs := #[_, _, _, _, _]) (by exact rfl) ?_
  refine bld_of (cs := #[_, _, _, _, _]) (by exact rfl) ?_
  refine bld_of (cs := #[_, _, _, _, _]) (by exact rfl) ?_
  refine bld_of (cs := #[_, _, _, _, _]) (by exact rfl) ?_
  refine c_manner1 (fun b38 w6 e6 hb38 k38 => ?_)
  refine bld_of (cs := #[_, _, _, _, _]) (by exact rfl) ?_
  refine bsl_of' rfl rfl rfl (fun b40 w7 e7 hb40 (k40 : Blk w7 b40 [.int .i64 2, .int .i64 (-1)]) => ?_)
  refine c_manner1 (fun b42 w8 e8 hb42 k42 => ?_)
  refine bld_of (cs := #[_, _, _, _, _]) (by exact rfl) ?_
  refine bsl_of' rfl rfl rfl (fun b44 w9 e9 hb44 (k44 : Blk w9 b44 [.int .i64 2, .int .i64 (-1)]) => ?_)
  refine bld_of (cs := #[_, _, _, _, _]) (by exact rfl) ?_
  refine bld_of (cs := #[_, _, _, _, _]) (by exact rfl) ?_
  refine bld_of (cs := #[_, _, _, _, _]) (by exact rfl) ?_
  refine bld_of (cs := #[_, _, _, _, _]) (by exact rfl) ?_
  refine bsl_of' rfl rfl rfl (fun b52 w10 e10 hb52 k52 => ?_)
  have z1 := e1.size
  have z2 := e2.size
  have z3 := e3.size
  have z4 := e4.size
  have z5 := e5.size
  have z6 := e6.size
  have z7 := e7.size
  have z8 := e8.size
  have z9 := e9.size
  have z10 := e10.size
  refine hR _ _ (by iterate 20 (first | done | assumption | (apply fun h => Fr.trans h (by assumption)))) (by omega) (fun w11 e11 k h1 h2 => ?_)
  have hk : k = 1 ∨ k = 2 ∨ k = 3 ∨ k = 4 ∨ k = 5 ∨ k = 6 ∨ k = 7 ∨ k = 8 ∨ k = 9 ∨ k = 10 ∨ k = 11 ∨ k = 12 ∨ k = 13 ∨ k = 14 ∨ k = 15 ∨ k = 16 ∨ k = 17 ∨ k = 18 := by omega
  rcases hk with rfl | rfl | rfl | rfl | rfl | rfl | rfl | rfl | rfl | rfl | rfl | rfl | rfl | rfl | rfl | rfl | rfl | rfl
  · exact ⟨⟨_, _, _, (k52.fr e11 (by omega)).part (1 * 5) 5 (by exact rfl), Sl.nil .., most_const (b := b11) (n := 100) (Blk.fr (w := w10) (by iterate 14 (first | done | assumption | (apply fun h => Blk.ext h (by assumption)))) e11 (by omega)) (fun p m => rfl), rfl, rfl⟩⟩
  · exact ⟨⟨_, _, _, (k52.fr e11 (by omega)).part (2 * 5) 5 (by exact rfl), Sl.nil .., most_temps (fun p m => rfl), rfl, rfl⟩⟩
  · exact ⟨⟨_, _, _, (k52.fr e11 (by omega)).part (3 * 5) 5 (by exact rfl), sl_ints [-1] (b := b7) (Blk.fr (w := w10) (by iterate 14 (first | done | assumption | (apply fun h => Blk.ext h (by assumption)))) e11 (by omega)), most_temps (fun p m => rfl), rfl, rfl⟩⟩
  · exact ⟨⟨_, _, _, (k52.fr e11 (by omega)).part (4 * 5) 5 (by exact rfl), sl_ints [-1] (b := b7) (Blk.fr (w := w10) (by iterate 14 (first | done | assumption | (apply fun h => Blk.ext h (by assumption)))) e11 (by omega)), .inl ⟨rfl, fun p m => rfl⟩, rfl, rfl⟩⟩
  · exact ⟨⟨_, _, _, (k52.fr e11 (by omega)).part (5 * 5) 5 (by exact rfl), sl_ints [1, 1] (b := b20) (Blk.fr (w := w10) (by iterate 14 (first | done | assumption | (apply fun h => Blk.ext h (by assumption)))) e11 (by omega)), .inl ⟨rfl, fun p m => rfl⟩, rfl, rfl⟩⟩
  · exact ⟨⟨_, _, _, (k52.fr e11 (by omega)).part (6 * 5) 5 (by exact rfl), sl_ints [-1, -1] (b := b22) (Blk.fr (w := w10) (by iterate 14 (first | done | assumption | (apply fun h => Blk.ext h (by assumption)))) e11 (by omega)), .inl ⟨rfl, fun p m => rfl⟩, rfl, rfl⟩⟩
  · exact ⟨⟨_, _, _, (k52.fr e11 (by omega)).part (7 * 5) 5 (by exact rfl), Sl.nil .., most_ops (fun p m => rfl), rfl, rfl⟩⟩
  · exact ⟨⟨_, _, _, (k52.fr e11 (by omega)).part (8 * 5) 5 (by exact rfl), sl_ints [-1] (b := b7) (Blk.fr (w := w10) (by iterate 14 (first | done | assumption | (apply fun h => Blk.ext h (by assumption)))) e11 (by omega)), most_ops (fun p m => rfl), rfl, rfl⟩⟩
  · exact ⟨⟨_, _, _, (k52.fr e11 (by omega)).part (9 * 5) 5 (by exact rfl), Sl.nil .., most_methods (fun p m => rfl), rfl, rfl⟩⟩
  · exact ⟨⟨_, _, _, (k52.fr e11 (by omega)).part (10 * 5) 5 (by exact rfl), sl_ints [-1] (b := b7) (Blk.fr (w := w10) (by iterate 14 (first | done | assumption | (apply fun h => Blk.ext h (by assumption)))) e11 (by omega)), .inl ⟨rfl, fun p m => rfl⟩, rfl, rfl⟩⟩
  · exact ⟨⟨_, _, _, (k52.fr e11 (by omega)).part (11 * 5) 5 (by exact rfl), Sl.nil .., .inl ⟨rfl, fun p m => rfl⟩, rfl, rfl⟩⟩
  · exact ⟨⟨_, _, _, (k52.fr e11 (by omega)).part (12 * 5) 5 (by exact rfl), sl_ints [2] (b := b8) (Blk.fr (w := w10) (by iterate 14 (first | done | assumption | (apply fun h => Blk.ext h (by assumption)))) e11 (by omega)), .inl ⟨rfl, fun p m => rfl⟩, rfl, rfl⟩⟩
  · exact ⟨⟨_, _, _, (k52.fr e11 (by omega)).part (13 * 5) 5 (by exact rfl), sl_ints [2] (b := b8) (Blk.fr (w := w10) (by iterate 14 (first | done | assumption | (apply fun h => Blk.ext h (by assumption)))) e11 (by omega)), most_const (b := b38) (n := 4) (Blk.fr (w := w10) (by iterate 14 (first | done | assumption | (apply fun h => Blk.ext h (by assumption)))) e11 (by omega)) (fun p m => rfl), rfl, rfl⟩⟩
  · exact ⟨⟨_, _, _, (k52.fr e11 (by omega)).part (14 * 5) 5 (by exact rfl), sl_ints [2, -1] (b := b40) (Blk.fr (w := w10) (by iterate 14 (first | done | assumption | (apply fun h => Blk.ext h (by assumption)))) e11 (by omega)), most_const (b := b42) (n := 4) (Blk.fr (w := w10) (by iterate 14 (first | done | assumption | (apply fun h => Blk.ext h (by assumption)))) e11 (by omega)) (fun p m => rfl), rfl, rfl⟩⟩
  · exact ⟨⟨_, _, _, (k52.fr e11 (by omega)).part (15 * 5) 5 (by exact rfl), sl_ints [2, -1] (b := b44) (Blk.fr (w := w10) (by iterate 14 (first | done | assumption | (apply fun h => Blk.ext h (by assumption)))) e11 (by omega)), .inl ⟨rfl, fun p m => rfl⟩, rfl, rfl⟩⟩
  · exact ⟨⟨_, _, _, (k52.fr e11 (by omega)).part (16 * 5) 5 (by exact rfl), sl_ints [-1] (b := b7) (Blk.fr (w := w10) (by iterate 14 (first | done | assumption | (apply fun h => Blk.ext h (by assumption)))) e11 (by omega)), .inl ⟨rfl, fun p m => rfl⟩, rfl, rfl⟩⟩
  · exact ⟨⟨_, _, _, (k52.fr e11 (by omega)).part (17 * 5) 5 (by exact rfl), sl_ints [2] (b := b8) (Blk.fr (w := w10) (by iterate 14 (first | done | assumption | (apply fun h => Blk.ext h (by assumption)))) e11 (by omega)), .inl ⟨rfl, fun p m => rfl⟩, rfl, rfl⟩⟩
  · exact ⟨⟨_, _, _, (k52.fr e11 (by omega)).part (18 * 5) 5 (by exact rfl), sl_ints [2] (b := b8) (Blk.fr (w := w10) (by iterate 14 (first | done | assumption | (apply fun h => Blk.ext h (by assumption)))) e11 (by omega)), .inl ⟨rfl, fun p m => rfl⟩, rfl, rfl⟩⟩
theorem c_mannerOf {k : Int} {w : World} {R : VW} (hno : ¬ (1 ≤ k ∧ k ≤ 18) → ∀ w', Ext w w' → R (.tuple #[.agg #[.string ByteArray.empty, .int .i64 0, .int .i64 0, .slice none 0 0, .nilFunc], .bool false]) w')
    (hyes : 1 ≤ k ∧ k ≤ 18 → ∀ w' s u f, Ext w w' → Sl kInt Any w' [] (kindsT.getD k.toNat []) u → Most w' f k → s.oneCell' = true → f.oneCell' = true →
      R (.tuple #[.agg #[s, .int .i64 (takesT.getD k.toNat 0), .int .i64 (leftT.getD k.toNat 0), u, f], .bool true]) w') : clT PR 223 [.int .i64 k] w R := by
  refine Fimpl_mannerOf.cl ?_
  unfold Fimpl_mannerOf
  refine al_of' (fun b1 w1 e1 hb1 k1 => ?_)
  refine c_implIn ?_
  repeat (((refine not_of ?_)))
  refine condNIn_of (fun hk => ?_) (fun hk => ?_)
  · refine bld_of (cs := #[_, _, _, _, _]) (by exact rfl) ?_
    refine sts_of' (vs := [_, _, _, _, _]) (by exact rfl) k1 rfl rfl (by simp [Value.oneCell']) (fun w3 e3 k3 => ?_)
    refine lds_of k3.cells rfl ?_
    exact hno hk _ (e1.trans' e3 (fun _ _ h => h) (fun x hx e => by omega))
  · refine c_manners (fun w2 b2 e2 hb2 hrow => ?_)
    have l1 := k1.lt
    obtain ⟨⟨s, u, f, hc, hu, hm, hs, hf⟩⟩ := hrow w2 (Fr.refl _ _) k.toNat (by omega) (by omega)
    refine ixaS_of (by omega) (by omega) ?_
    rw [Nat.zero_add]
    refine lds_of hc rfl ?_
    refine sts_of' (vs := [s, .int .i64 (takesT.getD k.toNat 0), .int .i64 (leftT.getD k.toNat 0), u, f]) rfl (k1.ext e2) rfl rfl (by intro x hx; simp only [List.mem_cons, List.not_mem_nil, or_false] at hx; rcases hx with h | h | h | h | h <;> rw [h] <;> first | exact hs | exact hf | exact hu.one | rfl) (fun w3 e3 k3 => ?_)
    refine lds_of k3.cells rfl ?_
    have e23 : Fr (fun x => x < w1.heap.size) w2 w3 := e3.to (fun x _ e => by omega)
    obtain ⟨⟨s', u', f', hc', hu', hm', hs', hf'⟩⟩ := hrow w3 e23 k.toNat (by omega) (by omega)
    have same : s' = s ∧ u' = u ∧ f' = f := by
      have hc3 := hc.fr e23 (fun h => by omega)
      have q0 := (hc'.at 0 rfl).symm.trans (hc3.at 0 rfl)
      have q3 := (hc'.at 3 rfl).symm.trans (hc3.at 3 rfl)
      have q4 := (hc'.at 4 rfl).symm.trans (hc3.at 4 rfl)
      exact ⟨Option.some.inj q0, Option.some.inj q3, Option.some.inj q4⟩
    obtain ⟨rfl, rfl, rfl⟩ := same
    have hk' : (k.toNat : Int) = k := by omega
    rw [hk'] at hm'
    exact hyes hk _ _ _ _ ((e1.trans e2).trans' e3 (fun _ _ h => h) (fun x hx e => by omega)) hu' hm' hs hf
end Go.PT
namespace Go.PT
attribute [local irreducible] ldT ldsT stT stsT allocT boxT bldT bslT nilT fadT ixaT fldT extT lenT pickT binT notT cviT opT opU condT clT clvT ivT loopT arT ndT World.cell? World.frozen? World.alloc World.drew World.setCell Blk Cells Sl
def isFuncB (P : Program) (t : Nat) : Bool := match P.underlying t with | some (.func ..) => true | _ => false
theorem isFuncB_of {P : Program} {t : Nat} (h : isFuncB P t = true) : ∃ a b c, P.underlying t = some (.func a b c) := by
  unfold isFuncB at h
  split at h
  · exact ⟨_, _, _, by assumption⟩
  · cases h
theorem eqlF_of {P : Program} {t : Nat} {x y : Operand} {f : Value} {w : World} {k : VW} (ht : isFuncB P t = true) (h1 : f = .nilFunc → k (.bool true) w) (h2 : (∃ a b c, f = .func a b c) → k (.bool false) w) (hf : f = .nilFunc ∨ ∃ a b c, f = .func a b c) :
    opT P (do eqGuard .eql t x y f .nilFunc; binOp .eql t f .nilFunc) w k := by
  obtain ⟨a, b, c, hu⟩ := isFuncB_of ht
  have e : Op.maxDepth = (Op.maxDepth - 1) + 1 := rfl
  unfold opT
  rcases hf with rfl | ⟨g, y1, z1, rfl⟩
  · have : (do eqGuard .eql t x y .nilFunc .nilFunc; binOp .eql t .nilFunc .nilFunc : Sem Value).run P w = .ok (.bool true) w := by
      simp only [eqGuard, binOp, Op.equal]
      rw [e]
      simp [Op.equalIn, run_underlying hu]
    simp only [this]
    exact h1 rfl
  · have : (do eqGuard .eql t x y (.func g y1 z1) .nilFunc; binOp .eql t (.func g y1 z1) .nilFunc : Sem Value).run P w = .ok (.bool false) w := by
      simp only [eqGuard, binOp, Op.equal]
      rw [e]
      simp [Op.equalIn, run_underlying hu]
    simp only [this]
    exact h2 ⟨_, _, _, rfl⟩
theorem opOk_most {p : Pg} {m : Meth} {op : Int × Int} {n : Int} (h : mostOf p m op.1 = some n) : opOk p m op = inB op.2 0 (n - 1) := by
  unfold mostOf at h
  unfold opOk
  repeat' split at h
  all_goals first | cases h | skip
  all_goals simp [*]
theorem opOk_none {p : Pg} {m : Meth} {op : Int × Int} (h : mostOf p m op.1 = none) : opOk p m op = (inB op.1 1 18 && decide (op.2 = 0)) := by
  unfold mostOf at h
  unfold opOk
  repeat' split at h
  all_goals first | cases h | skip
  all_goals simp [*]
theorem mostOf_range {p : Pg} {m : Meth} {k n : Int} (h : mostOf p m k = some n) (ht0 : 0 ≤ m.temps) (ht1 : m.temps ≤ 4) (hp : p.length ≤ 1073741824) (hm : m.ops.length ≤ 1073741824) : 0 ≤ n ∧ n ≤ 1073741824 := by
  unfold mostOf at h
  repeat' split at h
  all_goals first | cases h | skip
  all_goals omega
theorem c_opOk {p : Pg} {m : Meth} {op : Int × Int} {w : World} {R : VW} {u um : Value} (hp : Sl kMeth Any w [] p u) (hm : Sl kPair Any w [] m.ops um) (hpl : p.length ≤ 1073741824) (hml : m.ops.length ≤ 1073741824) (ht0 : 0 ≤ m.temps) (ht1 : m.temps ≤ 4)
    (hR : ∀ w', Ext w w' → R (.bool (opOk p m op)) w') : clT PR 175 [.agg #[.int .i64 op.1, .int .i64 op.2], .agg #[u], .agg #[.int .i64 m.args, .int .i64 m.temps, um]] w R := by
  refine Fimpl_Op_ok.cl ?_
  unfold Fimpl_Op_ok
  refine box_of' (fun b3 w1 e1 hb3 (k3 : Blk w1 b3 [.int .i64 op.1, .int .i64 op.2]) => ?_)
  refine box_of' (fun b1 w2 e2 hb1 (k1 : Blk w2 b1 [u]) => ?_)
  refine box_of' (fun b2 w3 e3 hb2 (k2 : Blk w3 b2 [.int .i64 m.args, .int .i64 m.temps, um]) => ?_)
  repeat (first | ((refine fad_of ?_)) | ((apply ld_of; (case h => iterate 14 (first | done | exact Blk.cell (by assumption) (by exact rfl) | (apply Ext.cell (by assumption)))))))
  refine c_mannerOf (fun hk w4 e4 => ?_) (fun hk w4 s v f e4 hv hf hs1 hf1 => ?_)
  · refine ext_of rfl ?_
    refine ext_of rfl ?_
    refine al_of' (fun b5 w5 e5 hb5 k5 => ?_)
    refine sts_of' (vs := [_, _, _, _, _]) (by exact rfl) k5 rfl rfl (by simp [Value.oneCell']) (fun w6 e6 k6 => ?_)
    have e46 : Ext w4 w6 := (e5.fr (S := fun x => x = b5)).trans' e6 (fun x hx e => by omega) (fun x hx e => by omega)
    clear e5 e6
    refine not_of ?_
    refine condT_true ?_
    refine condT_false ?_
    have : opOk p m op = false := by
      have hn : mostOf p m op.1 = none := by
        unfold mostOf
        rw [if_neg (by omega), if_neg (by omega), if_neg (by omega), if_neg (by omega), if_neg (by omega)]
      rw [opOk_none hn, inB_f hk]; rfl
    rw [← this]
    exact hR _ (by iterate 20 (first | done | assumption | (apply fun h => Fr.trans h (by assumption))))
  · refine ext_of rfl ?_
    refine ext_of rfl ?_
    refine al_of' (fun b5 w5 e5 hb5 k5 => ?_)
    refine sts_of' (vs := [s, .int .i64 (takesT.getD op.1.toNat 0), .int .i64 (leftT.getD op.1.toNat 0), v, f]) rfl k5 rfl rfl (by intro x hx; simp only [List.mem_cons, List.not_mem_nil, or_false] at hx; rcases hx with h | h | h | h | h <;> rw [h] <;> first | exact hs1 | exact hf1 | exact hv.one | rfl) (fun w6 e6 k6 => ?_)
    have e46 : Ext w4 w6 := (e5.fr (S := fun x => x = b5)).trans' e6 (fun x hx e => by omega) (fun x hx e => by omega)
    clear e5 e6
    refine not_of ?_
    refine condT_false ?_
    repeat (first | ((refine fad_of ?_)) | ((apply ld_of; (case h => iterate 14 (first | done | exact Blk.cell (by assumption) (by exact rfl))))))
    refine eqlF_of (by kernel_rfl) (fun hnil => ?_) (fun hfun => ?_) (by rcases hf with ⟨h, _⟩ | ⟨h, _⟩; exact .inl h; exact .inr h)
    · refine condT_true ?_
      refine condT_true ?_
      repeat (first | (first | refine fad_of ?_ | refine eql_of ?_) | ((apply ld_of; (case h => iterate 14 (first | done | exact Blk.cell (by assumption) (by exact rfl) | (apply Ext.cell (by assumption)))))))
      have hn : mostOf p m op.1 = none := by
        rcases hf with ⟨_, h⟩ | ⟨⟨a, b, c, h⟩, _⟩
        · exact h p m
        · rw [hnil] at h; cases h
      have := opOk_none hn
      rw [inB_t hk.1 hk.2, Bool.true_and] at this
      rw [← this]
      exact hR _ (by iterate 20 (first | done | assumption | (apply fun h => Fr.trans h (by assumption))))
    · refine condT_false ?_
      rcases hf with ⟨h, _⟩ | ⟨_, hf⟩
      · obtain ⟨a, b, c, h'⟩ := hfun; rw [h] at h'; cases h'
      repeat (first | ((refine fad_of ?_)) | (first | (apply ld_of; (case h => iterate 14 (first | done | exact Blk.cell (by assumption) (by exact rfl) | apply cell_drew | (apply Ext.cell (by assumption))))) | (apply lds_of; (case h => iterate 14 (first | done | exact Blk.cells (by assumption) | apply Cells.drew | (apply fun h => Cells.ext h (by assumption)))); (case hn => exact rfl))))
      refine hf p m u um w6.drew _ e46.drew (by iterate 14 (first | done | assumption | apply Sl.drew | (apply fun h => Sl.ext h (by assumption)))) (by iterate 14 (first | done | assumption | apply Sl.drew | (apply fun h => Sl.ext h (by assumption)))) hpl hml (fun w8 n e8 hn => ?_)
      have hr := mostOf_range hn ht0 ht1 hpl hml
      have e68 : Ext w6 w8 := (Fr.refl No w6).drew.trans e8
      clear e8
      refine ⟨?_, ?_⟩
      · repeat (((apply ld_of; (case h => iterate 14 (first | done | exact Blk.cell (by assumption) (by exact rfl) | (apply Ext.cell (by assumption)))))))
        rfl
      · repeat (((refine sub_of (by (omega)) (by (omega)) ?_)))
        refine c_implIn ?_
        rw [← opOk_most hn]
        exact hR _ (by iterate 20 (first | done | assumption | (apply fun h => Fr.trans h (by assumption))))
end Go.PT
namespace Go.PT
attribute [local irreducible] ldT ldsT stT stsT allocT boxT bldT bslT nilT fadT ixaT fldT extT lenT pickT binT notT cviT opT opU condT clT clvT ivT loopT arT ndT World.cell? World.frozen? World.alloc World.drew World.setCell Blk Cells Sl
theorem c_indexOp {l : List V} {u fv : Value} {f : V → Bool} {w : World} {R : VW} (h : Sl kPair Any w [] l u) (hl : l.length ≤ 1073741824) (hf : Tells w fv f)
    (hR : ∀ w' n, Ext w w' → (0 ≤ n ↔ l.any f = true) → R (.int .i64 n) w') : clT PR 222 [u, fv] w R := by
  refine Fslices_IndexFunc_Op.cl ?_
  unfold Fslices_IndexFunc_Op
  repeat ((refine Sl.len_of (by assumption) ?_))
  refine loop_of (fun m s w' => Ext w w' ∧ ∃ i : Nat, i + m = l.length ∧ s = [u, fv, .int .i64 0, .int .i64 l.length, .int .i64 i] ∧ (l.take i).any f = false) ?_ (m := l.length) ⟨Fr.refl _ _, 0, by omega, rfl, rfl⟩
  rintro m s w' Kn ⟨he, i, hi, rfl, hok⟩ hKn
  intro _
  simp only [List.headD_cons, List.tail_cons]
  repeat (((refine lss_of ?_)))
  refine condLt_of (fun hc => ?_) (fun hc => ?_)
  · have hil : i < l.length := by omega
    refine pair_ix (i := (i : Int)) h (by omega) (by omega) (fun b o hcell => ?_)
    have hx : l[i]? = some (pairAt l i) := by unfold pairAt; rw [Int.toNat_natCast, List.getD_eq_getElem?_getD, List.getElem?_eq_getElem hil]; rfl
    generalize pairAt l (i : Int) = v at hx hcell
    repeat (((apply lds_of; (case h => iterate 14 (first | done | assumption | (apply fun h => Cells.ext h (by assumption)))); (case hn => exact rfl))))
    refine hf v _ _ he (fun w1 e1 => ?_)
    refine cond_of (fun ht => ?_) (fun hff => ?_)
    · intro _
      refine hR _ _ (by iterate 20 (first | done | assumption | (apply fun h => Fr.trans h (by assumption)))) ⟨fun _ => ?_, fun _ => by omega⟩
      rw [List.any_eq_true]
      exact ⟨v, List.mem_of_getElem? hx, ht⟩
    · repeat (((refine add_of (by (omega)) (by (omega)) ?_)))
      refine hKn (m - 1) _ _ (by omega) ⟨by iterate 20 (first | done | assumption | (apply fun h => Fr.trans h (by assumption))), i + 1, by omega, rfl, ?_⟩
      rw [List.take_add_one, hx, List.any_append, hok]
      simp [hff]
  · intro _
    have hei : l.take i = l := List.take_of_length_le (by omega)
    rw [hei] at hok
    exact hR _ _ he ⟨fun h => by omega, fun h => by rw [hok] at h; cases h⟩
theorem c_containsOp {l : List V} {u fv : Value} {f : V → Bool} {w : World} {R : VW} (h : Sl kPair Any w [] l u) (hl : l.length ≤ 1073741824) (hf : Tells w fv f)
    (hR : ∀ w', Ext w w' → R (.bool (l.any f)) w') : clT PR 173 [u, fv] w R := by
  refine Fslices_ContainsFunc_Op.cl ?_
  unfold Fslices_ContainsFunc_Op
  refine c_indexOp h hl hf (fun w1 n e1 hn => ?_)
  repeat (((refine geq_of ?_)))
  have : decide (n ≥ 0) = l.any f := by rw [Bool.eq_iff_iff, decide_eq_true_eq]; exact hn
  rw [this]
  exact hR _ e1
def TellsM (w : World) (l : Pg) (fv : Value) (f : Meth → Bool) : Prop :=
  ∀ (m : Meth) (um : Value) (w1 : World) (R : VW), Ext w w1 → m ∈ l → Sl kPair Any w1 [] m.ops um → (∀ w', Ext w1 w' → R (.bool (f m)) w') → clvT PR CX fv [.agg #[.int .i64 m.args, .int .i64 m.temps, um]] w1 R
theorem c_indexM {l : Pg} {u fv : Value} {f : Meth → Bool} {w : World} {R : VW} (h : Sl kMeth Any w [] l u) (hl : l.length ≤ 1073741824) (hf : TellsM w l fv f)
    (hR : ∀ w' n, Ext w w' → (0 ≤ n ↔ l.any f = true) → R (.int .i64 n) w') : clT PR 221 [u, fv] w R := by
  refine Fslices_IndexFunc_Method.cl ?_
  unfold Fslices_IndexFunc_Method
  repeat ((refine Sl.len_of (by assumption) ?_))
  refine loop_of (fun m s w' => Ext w w' ∧ ∃ i : Nat, i + m = l.length ∧ s = [u, fv, .int .i64 0, .int .i64 l.length, .int .i64 i] ∧ (l.take i).any f = false) ?_ (m := l.length) ⟨Fr.refl _ _, 0, by omega, rfl, rfl⟩
  rintro m s w' Kn ⟨he, i, hi, rfl, hok⟩ hKn
  intro _
  simp only [List.headD_cons, List.tail_cons]
  repeat (((refine lss_of ?_)))
  refine condLt_of (fun hc => ?_) (fun hc => ?_)
  · have hil : i < l.length := by omega
    refine meth_ix (i := (i : Int)) h (by omega) (by omega) (fun b o um hcell hum => ?_)
    have hx : l[i]? = some (methAt l i) := by unfold methAt; rw [Int.toNat_natCast, List.getD_eq_getElem?_getD, List.getElem?_eq_getElem hil]; rfl
    generalize methAt l (i : Int) = v at hx hcell hum
    repeat (((apply lds_of; (case h => iterate 14 (first | done | assumption | (apply fun h => Cells.ext h (by assumption)))); (case hn => exact rfl))))
    refine hf v um _ _ he (List.mem_of_getElem? hx) (by iterate 14 (first | done | assumption | (apply fun h => Sl.ext h (by assumption)))) (fun w1 e1 => ?_)
    refine cond_of (fun ht => ?_) (fun hff => ?_)
    · intro _
      refine hR _ _ (by iterate 20 (first | done | assumption | (apply fun h => Fr.trans h (by assumption)))) ⟨fun _ => ?_, fun _ => by omega⟩
      rw [List.any_eq_true]
      exact ⟨v, List.mem_of_getElem? hx, ht⟩
    · repeat (((refine add_of (by (omega)) (by (omega)) ?_)))
      refine hKn (m - 1) _ _ (by omega) ⟨by iterate 20 (first | done | assumption | (apply fun h => Fr.trans h (by assumption))), i + 1, by omega, rfl, ?_⟩
      rw [List.take_add_one, hx, List.any_append, hok]
      simp [hff]
  · intro _
    have hei : l.take i = l := List.take_of_length_le (by omega)
    rw [hei] at hok
    exact hR _ _ he ⟨fun h => by omega, fun h => by rw [hok] at h; cases h⟩
theorem c_containsM {l : Pg} {u fv : Value} {f : Meth → Bool} {w : World} {R : VW} (h : Sl kMeth Any w [] l u) (hl : l.length ≤ 1073741824) (hf : TellsM w l fv f)
    (hR : ∀ w', Ext w w' → R (.bool (l.any f)) w') : clT PR 171 [u, fv] w R := by
  refine Fslices_ContainsFunc_Method.cl ?_
  unfold Fslices_ContainsFunc_Method
  refine c_indexM h hl hf (fun w1 n e1 hn => ?_)
  repeat (((refine geq_of ?_)))
  have : decide (n ≥ 0) = l.any f := by rw [Bool.eq_iff_iff, decide_eq_true_eq]; exact hn
  rw [this]
  exact hR _ e1
theorem c_progOk {p : Pg} {w : World} {R : VW} {u : Value} (hp : Sl kMeth Any w [] p u) (hpl : p.length ≤ 1073741824) (hml : ∀ m ∈ p, m.ops.length ≤ 1073741824)
    (hR : ∀ w', Ext w w' → R (.bool (progOk p)) w') : clT PR 109 [.agg #[u]] w R := by
  replace hR : ∀ w' b, Ext w w' → b = progOk p → R (.bool b) w' := fun w' b e h => h ▸ hR w' e
  refine Fimpl_ProgOk.cl ?_
  unfold Fimpl_ProgOk
  refine box_of' (fun b1 w1 e1 hb1 (k1 : Blk w1 b1 [u]) => ?_)
  repeat' (first | (first | refine fad_of ?_ | refine neq_of ?_ | refine not_of ?_) | ((fail)) | ((apply ld_of; (case h => iterate 14 (first | done | exact Blk.cell (by assumption) (by exact rfl) | exact Cells.at (by assumption) _ (by exact rfl) | (apply Ext.cell (by assumption)))))) | (refine Sl.len_of (by assumption) ?_) | ((fail)) | (first | refine condNIn_of (fun _ => ?_) (fun _ => ?_) | refine condNe_of (fun _ => ?_) (fun _ => ?_)) | refine c_implIn ?_ | refine meth_ix (by assumption) (by omega) (by omega) (fun _ _ _ _ _ => ?_))
  · exact hR _ _ (by iterate 20 (first | done | assumption)) (by unfold progOk; (simp [*, inB_t, inB_f]; done))
  · exact hR _ _ (by iterate 20 (first | done | assumption)) (by unfold progOk; (simp [*, inB_t, inB_f]; done))
  · rename_i h1 b0 o0 u0 hc0 hs0 h2
    refine c_containsM (f := fun m => !methOk p m) (by iterate 14 (first | done | assumption | (apply fun h => Sl.ext h (by assumption)))) hpl ?_ (fun w2 e2 => ?_)
    · intro m um w3 R' e3 hmem hum hR'
      have hmo := hml m hmem
      replace hR' : ∀ w' b, Ext w3 w' → b = !methOk p m → R' (.bool b) w' := fun w' b e h => h ▸ hR' w' e
      refine clv_of (by kernel_rfl) rfl ?_
      refine Fimpl_ProgOk_1.cl ?_
      unfold Fimpl_ProgOk_1
      refine box_of' (fun b2 w4 e4 hb2 (k2 : Blk w4 b2 [.int .i64 m.args, .int .i64 m.temps, um]) => ?_)
      repeat' (first | (first | refine fad_of ?_ | refine gtr_of ?_ | refine not_of ?_) | ((fail)) | ((apply ld_of; (case h => iterate 14 (first | done | exact Blk.cell (by assumption) (by exact rfl))))) | (refine Sl.len_of (by assumption) ?_) | ((fail)) | (first | refine condNIn_of (fun _ => ?_) (fun _ => ?_) | refine condGt_of (fun _ => ?_) (fun _ => ?_)) | refine c_implIn ?_)
      · exact hR' _ _ (by iterate 20 (first | done | assumption)) (by unfold methOk; (simp [*, inB_t, inB_f]; done))
      · exact hR' _ _ (by iterate 20 (first | done | assumption)) (by unfold methOk; (simp [*, inB_t, inB_f]; done))
      · exact hR' _ _ (by iterate 20 (first | done | assumption)) (by unfold methOk; (simp [*, inB_t, inB_f]; done))
      · rename_i g1 g2 g3
        refine c_containsOp (f := fun op => !opOk p m op) (by iterate 14 (first | done | assumption | (apply fun h => Sl.ext h (by assumption)))) hmo ?_ (fun w5 e5 => ?_)
        · intro op w6 R'' e6 hR''
          refine clv_of (by kernel_rfl) rfl ?_
          refine Fimpl_ProgOk_1_1.cl ?_
          unfold Fimpl_ProgOk_1_1
          refine box_of' (fun b3 w7 e7 hb3 (k3 : Blk w7 b3 [.int .i64 op.1, .int .i64 op.2]) => ?_)
          repeat (((apply lds_of; (case h => iterate 14 (first | done | exact Blk.cells (by assumption) | (apply fun h => Cells.ext h (by assumption)))); (case hn => exact rfl))))
          refine c_opOk (by iterate 14 (first | done | assumption | (apply fun h => Sl.ext h (by assumption)))) (by iterate 14 (first | done | assumption | (apply fun h => Sl.ext h (by assumption)))) hpl hmo (by omega) (by omega) (fun w8 e8 => ?_)
          repeat (((refine not_of ?_)))
          exact hR'' _ (e7.trans e8)
        · refine hR' _ _ (by iterate 20 (first | done | assumption | (apply fun h => Fr.trans h (by assumption)))) ?_
          unfold methOk
          rw [inB_t g1.1 g1.2, inB_t g2.1 g2.2, decide_eq_true g3]
          simp only [Bool.true_and]
          rw [List.not_all_eq_any_not]
    · repeat (((refine not_of ?_)))
      refine hR _ _ (by iterate 20 (first | done | assumption | (apply fun h => Fr.trans h (by assumption)))) ?_
      unfold progOk
      rw [inB_t h1.1 h1.2, decide_eq_true h2]
      simp only [Bool.true_and]
      rw [List.not_any_eq_all_not]; simp
end Go.PT
namespace Go.PT
attribute [local irreducible] ldT ldsT stT stsT allocT boxT bldT bslT nilT fadT ixaT fldT extT lenT pickT binT notT cviT opT opU condT clT clvT ivT loopT arT ndT World.cell? World.frozen? World.alloc World.drew World.setCell Blk Cells Sl
theorem form_of {p : Pg} {n : Int} {c : Cl} (h : form p n c = true) : c.sender ≤ n - 1 ∧ -1 ≤ c.sender ∧ (c.stack.length : Int) ≤ 6 := by
  unfold form at h
  simp only [Bool.and_eq_true, inB_iff, decide_eq_true_eq] at h
  omega
theorem c_heapOk {p : Pg} {h : Hp} {w : World} {R : VW} {u uc us : Value} (hp : Sl kMeth Any w [] p u) (hpl : p.length ≤ 1073741824) (hml : ∀ m ∈ p, m.ops.length ≤ 1073741824) (hh : HeapV w h uc us)
    (hR : ∀ w', Ext w w' → R (.bool (heapOk p h)) w') : clT PR 65 [.agg #[u], .agg #[uc, .int .i64 h.now, .int .i64 h.born, us, .int .i64 h.code]] w R := by
  replace hR : ∀ w' b, Ext w w' → b = heapOk p h → R (.bool b) w' := fun w' b e h => h ▸ hR w' e
  refine Fimpl_HeapOk.cl ?_
  unfold Fimpl_HeapOk
  have hn := hh.n
  have hS := hh.calls
  have hD := hh.said
  have hns := hh.ns
  refine box_of' (fun b1 w1 e1 hb1 (k1 : Blk w1 b1 [u]) => ?_)
  refine box_of' (fun b2 w2 e2 hb2 (k2 : Blk w2 b2 [uc, .int .i64 h.now, .int .i64 h.born, us, .int .i64 h.code]) => ?_)
  repeat (((apply lds_of; (case h => iterate 14 (first | done | exact Blk.cells (by assumption) | (apply fun h => Cells.ext h (by assumption)))); (case hn => exact rfl))))
  refine c_progOk (by iterate 14 (first | done | assumption | (apply fun h => Sl.ext h (by assumption)))) hpl hml (fun w3 e3 => ?_)
  repeat (((refine not_of ?_)))
  refine condN_of (fun h1 => ?_) (fun h1 => ?_)
  · exact hR _ _ (by iterate 20 (first | done | assumption | (apply fun h => Fr.trans h (by assumption)))) (by unfold heapOk; rw [h1]; rfl)
  repeat (first | ((refine fad_of ?_)) | ((refine sub_of (by (omega)) (by (omega)) ?_)) | ((apply ld_of; (case h => iterate 14 (first | done | exact Blk.cell (by assumption) (by exact rfl) | (apply Ext.cell (by assumption)))))) | (refine Sl.len_of (by assumption) ?_))
  refine c_implIn ?_
  repeat (((refine not_of ?_)))
  refine condNIn_of (fun h2 => ?_) (fun h2 => ?_)
  · exact hR _ _ (by iterate 20 (first | done | assumption | (apply fun h => Fr.trans h (by assumption)))) (by unfold heapOk; rw [inB_f h2]; simp)
  repeat (first | (first | refine fad_of ?_ | refine eql_of ?_) | (first | (apply ld_of; (case h => iterate 14 (first | done | exact Blk.cell (by assumption) (by exact rfl) | (apply Ext.cell (by assumption))))) | (apply lds_of; (case h => iterate 14 (first | done | exact Blk.cells (by assumption) | (apply fun h => Cells.ext h (by assumption)))); (case hn => exact rfl))))
  refine c_told (by iterate 14 (first | done | assumption | (apply fun h => Sl.ext h (by assumption)))) (by iterate 14 (first | done | assumption | (apply fun h => Sl.ext h (by assumption)))) hpl hns (fun w4 e4 => ?_)
  have hend : decide (h.now = -1) = decide (h.now < 0) := by rw [decide_eq_decide]; omega
  rw [hend]
  repeat (((refine not_of ?_)))
  refine condN_of (fun h3 => ?_) (fun h3 => ?_)
  · refine hR _ _ (by iterate 20 (first | done | assumption | (apply fun h => Fr.trans h (by assumption)))) ?_
    unfold heapOk
    rw [h1, inB_t h2.1 h2.2]
    simp only [Bool.true_and]
    generalize inB h.born 1 30 = x1 at *
    generalize saidOk p h.said = x2 at *
    generalize inB h.code 0 3 = x3 at *
    generalize (decide (h.code = 1) == decide (h.now < 0)) = x4 at *
    cases x1 <;> cases x2 <;> cases x3 <;> cases x4 <;> simp_all
  repeat (first | (first | refine fad_of ?_ | refine gtr_of ?_) | ((apply ld_of; (case h => iterate 14 (first | done | exact Blk.cell (by assumption) (by exact rfl) | (apply Ext.cell (by assumption)))))) | (refine Sl.len_of (by assumption) ?_))
  refine condGt_of (fun h4 => ?_) (fun h4 => ?_)
  · refine hR _ _ (by iterate 20 (first | done | assumption | (apply fun h => Fr.trans h (by assumption)))) ?_
    unfold heapOk
    rw [decide_eq_false (by omega : ¬ (h.calls.length : Int) ≤ h.born)]
    simp
  simp only [Bool.and_eq_true, inB_iff] at h3
  obtain ⟨h5, h6, h7, h8⟩ := h3
  have pre : ∀ b, heapOk p h = b ↔ (h.calls.all (form p h.calls.length) && ((decide (h.now < 0) || !(callAt h.calls h.now).dead) && (decide (((chain h).length : Int) = liveN h.calls) && wait h))) = b := by
    intro b
    unfold heapOk
    rw [h1, inB_t h2.1 h2.2, inB_t h5.1 h5.2, decide_eq_true h4, inB_t h7.1 h7.2, h6, h8]
    simp only [Bool.true_and]
  replace hR : ∀ w' b, Ext w w' → (h.calls.all (form p h.calls.length) && ((decide (h.now < 0) || !(callAt h.calls h.now).dead) && (decide (((chain h).length : Int) = liveN h.calls) && wait h))) = b → R (.bool b) w' := fun w' b e hb => hR w' b e ((pre b).mpr hb).symm
  clear pre
  repeat (first | ((refine fad_of ?_)) | ((apply ld_of; (case h => iterate 14 (first | done | exact Blk.cell (by assumption) (by exact rfl) | (apply Ext.cell (by assumption)))))) | (refine Sl.len_of (by assumption) ?_))
  refine loop_of (fun m s w' => Ext w4 w' ∧ ∃ i : Nat, i + m = h.calls.length ∧ s = [.pointer (some ⟨b1, 0, none⟩), .pointer (some ⟨b2, 0, none⟩), .bool false, .int .i64 (liveN (h.calls.take i)), uc, .int .i64 h.calls.length, .int .i64 i] ∧ (h.calls.take i).all (form p h.calls.length) = true) ?_
    (m := h.calls.length) ⟨Fr.refl _ _, 0, by omega, rfl, rfl⟩
  rintro m s w' Kn ⟨he, i, hi, rfl, hok⟩ hKn
  intro _
  simp only [List.headD_cons, List.tail_cons]
  have hlv : 0 ≤ liveN (h.calls.take i) ∧ liveN (h.calls.take i) ≤ i := by
    unfold liveN
    have h1 := List.length_filter_le (fun c : Cl => !c.dead) (h.calls.take i)
    have h2 : (h.calls.take i).length ≤ i := by rw [List.length_take]; omega
    omega
  repeat (((refine lss_of ?_)))
  refine condLt_of (fun hc => ?_) (fun hc => ?_)
  · have hil : i < h.calls.length := by omega
    have hx : h.calls[i]? = some (callAt h.calls i) := by unfold callAt; rw [Int.toNat_natCast, List.getD_eq_getElem?_getD, List.getElem?_eq_getElem hil]; rfl
    refine call_ix (i := (i : Int)) hS (by omega) (by omega) (fun b o u1 u2 hcell hu1 hu2 => ?_)
    generalize callAt h.calls (i : Int) = c at hx hcell hu1 hu2
    repeat (((apply lds_of; (case h => iterate 14 (first | done | assumption | (apply fun h => Cells.ext h (by assumption)))); (case hn => exact rfl))))
    refine al_of' (fun b3 w6 e6 hb3 k6 => ?_)
    refine sts_of' (vs := [.int .i64 c.method, .int .i64 c.pc, u1, u2, .int .i64 c.sender, .bool c.dead]) rfl k6 rfl rfl (by intro x hx; simp only [List.mem_cons, List.not_mem_nil, or_false] at hx; rcases hx with h | h | h | h | h | h <;> rw [h] <;> first | exact hu1.one | exact hu2.one | rfl) (fun w7 e7 k7 => ?_)
    have z := he.size
    have e47 : Ext w4 w7 := (he.trans e6).trans' e7 (fun _ _ h => h) (fun x hx e => by omega)
    clear e6 e7
    have hnt := hh.nt _ (List.mem_of_getElem? hx)
    repeat (first | ((refine fad_of ?_)) | (first | (apply ld_of; (case h => iterate 14 (first | done | exact Blk.cell (by assumption) (by exact rfl) | (apply Ext.cell (by assumption))))) | (apply lds_of; (case h => iterate 14 (first | done | exact Blk.cells (by assumption) | (apply fun h => Cells.ext h (by assumption)))); (case hn => exact rfl))) | (refine Sl.len_of (by assumption) ?_))
    have hew : Ext w w7 := (((e1.trans e2).trans e3).trans e4).trans e47
    refine c_formed (c := c) (hp.ext hew) (hu1.ext hew) (hu2.ext hew) (by omega) (by omega) (by omega) (by omega) (by omega) (fun w8 e8 => ?_)
    clear hew
    repeat (((refine not_of ?_)))
    have k8 := k7.ext e8
    refine condN_of (fun hf => ?_) (fun ht => ?_)
    · intro _
      refine hR _ _ (by iterate 20 (first | done | assumption | (apply fun h => Fr.trans h (by assumption)))) ?_
      have : h.calls.all (form p h.calls.length) = false := by rw [List.all_eq_false]; exact ⟨_, List.mem_of_getElem? hx, by rw [hf]; simp⟩
      rw [this]; rfl
    · repeat (first | (first | refine fad_of ?_ | refine not_of ?_) | ((apply ld_of; (case h => iterate 14 (first | done | exact Blk.cell (by assumption) (by exact rfl))))))
      have hok' : (h.calls.take (i + 1)).all (form p h.calls.length) = true := by rw [List.take_add_one, hx, List.all_append, hok]; simp [ht]
      have hlive : ∀ d, c.dead = d → liveN (h.calls.take (i + 1)) = liveN (h.calls.take i) + (if d then 0 else 1) := by
        intro d hd
        unfold liveN
        rw [List.take_add_one, hx, List.filter_append, List.length_append]
        cases d <;> simp [hd]
      refine condN_of (fun hd => ?_) (fun hd => ?_)
      · have := hlive _ hd
        repeat (((refine add_of (by (omega)) (by (omega)) ?_)))
        refine hKn (m - 1) _ _ (by omega) ⟨e47.trans e8, i + 1, by omega, ?_, hok'⟩
        rw [this]; rfl
      · have := hlive _ hd
        repeat (((refine add_of (by (omega)) (by (omega)) ?_)))
        refine hKn (m - 1) _ _ (by omega) ⟨e47.trans e8, i + 1, by omega, ?_, hok'⟩
        rw [this]; simp
  · intro _
    have hei : h.calls.take i = h.calls := List.take_of_length_le (by omega)
    rw [hei] at hok ⊢
    rw [hok, Bool.true_and] at hR
    clear hKn hlv
    have hforms : ∀ c ∈ h.calls, c.sender < h.calls.length ∧ (c.stack.length : Int) ≤ 6 := fun c hc => by
      have := form_of (List.all_eq_true.mp hok c hc); omega
    have hlv := liveN_le h.calls
    rw [chain_walk hforms (by omega)] at hR
    repeat (first | ((refine fad_of ?_)) | ((apply ld_of; (case h => iterate 14 (first | done | exact Blk.cell (by assumption) (by exact rfl) | (apply Ext.cell (by assumption)))))))
    refine loop_of (fun m s wx => Ext w' wx ∧ ∃ a : Int, s = [.pointer (some ⟨b2, 0, none⟩), .bool false, .int .i64 m, .int .i64 a] ∧ a < h.calls.length ∧ walkI h.calls h.now (liveN h.calls).toNat h.now = walkI h.calls h.now m a ∧ m ≤ (liveN h.calls).toNat) ?_ (m := (liveN h.calls).toNat)
      ⟨Fr.refl _ _, h.now, by rw [Int.toNat_of_nonneg hlv.1], by omega, rfl, Nat.le_refl _⟩
    rintro m s wx Kn ⟨hex, a, rfl, hal, hwk, hml2⟩ hKn
    intro _
    simp only [List.headD_cons, List.tail_cons]
    repeat (((refine geq_of ?_)))
    refine condGe_of (fun ha => ?_) (fun ha => ?_)
    · repeat (first | ((refine fad_of ?_)) | ((apply ld_of; (case h => iterate 14 (first | done | exact Blk.cell (by assumption) (by exact rfl) | (apply Ext.cell (by assumption)))))))
      refine call_ix hS (by omega) (by omega) (fun b o u1 u2 hcell hu1 hu2 => ?_)
      have hmem : callAt h.calls a ∈ h.calls := by
        unfold callAt
        rw [List.getD_eq_getElem?_getD, List.getElem?_eq_getElem (by omega)]
        exact List.getElem_mem _
      have hsend := (hforms _ hmem).1
      generalize hcc : callAt h.calls a = c at hcell hu1 hu2 hsend
      repeat (((apply lds_of; (case h => iterate 14 (first | done | assumption | (apply fun h => Cells.ext h (by assumption)))); (case hn => exact rfl))))
      refine al_of' (fun b3 w6 e6 hb3 k6 => ?_)
      refine sts_of' (vs := [.int .i64 c.method, .int .i64 c.pc, u1, u2, .int .i64 c.sender, .bool c.dead]) rfl k6 rfl rfl (by intro x hx; simp only [List.mem_cons, List.not_mem_nil, or_false] at hx; rcases hx with h | h | h | h | h | h <;> rw [h] <;> first | exact hu1.one | exact hu2.one | rfl) (fun w7 e7 k7 => ?_)
      have z := hex.size
      have e47 : Ext w' w7 := (hex.trans e6).trans' e7 (fun _ _ h => h) (fun x hx e => by omega)
      clear e6 e7 hex
      have stop : walkI h.calls h.now m a = false → ∀ x, Fimpl_HeapOk.r5 (.pointer (some ⟨b2, 0, none⟩)) (.bool false) x (.int .i64 a) w7 R := by
        intro hw x
        intro _
        exact hR _ _ (by iterate 20 (first | done | assumption | (apply fun h => Fr.trans h (by assumption)))) (by rw [hwk, hw])
      cases m with
      | zero =>
        repeat (first | (first | refine lss_of ?_ | refine condT_true ?_) | ((refine sub_of (by (omega)) (by (omega)) ?_)))
        exact stop (by unfold walkI; rw [decide_eq_false (by omega)]) _
      | succ m =>
        have hw2 : walkI h.calls h.now (m + 1) a = (if c.dead then false else if a ≠ h.now ∧ (c.stack.length : Int) = 6 then false else walkI h.calls h.now m c.sender) := by
          conv => lhs; unfold walkI
          rw [if_neg (by omega), hcc]
        repeat (first | ((refine lss_of ?_)) | ((refine sub_of (by (omega)) (by (omega)) ?_)))
        refine condP_f (by omega) ?_
        repeat (first | ((refine fad_of ?_)) | ((apply ld_of; (case h => iterate 14 (first | done | exact Blk.cell (by assumption) (by exact rfl))))))
        refine cond_of (fun hd => ?_) (fun hd => ?_)
        · exact stop (by rw [hw2, hd]; rfl) _
        · rw [hd] at hw2
          repeat (first | (first | refine fad_of ?_ | refine neq_of ?_) | ((apply ld_of; (case h => iterate 14 (first | done | exact Blk.cell (by assumption) (by exact rfl) | (apply Ext.cell (by assumption)))))))
          have go : walkI h.calls h.now (m + 1) a = walkI h.calls h.now m c.sender → fadT 0 (.pointer (some ⟨b2, 0, none⟩)) fun t69 => ldT t69 w7 fun t70 => ixaT 6 t70 (.int .i64 a) fun t72 => fadT 4 t72 fun t73 => ldT t73 w7 fun t74 =>
              Kn [.pointer (some ⟨b2, 0, none⟩), .bool false, .int .i64 (((m + 1 : Nat) : Int) - 1), t74] w7 := by
            intro hw
            repeat (first | ((refine fad_of ?_)) | ((apply ld_of; (case h => iterate 14 (first | done | exact Blk.cell (by assumption) (by exact rfl) | (apply Ext.cell (by assumption)))))))
            refine call_ix hS (by omega) (by omega) (fun b o u1 u2 hcell hu1 hu2 => ?_)
            rw [hcc] at hcell
            repeat (first | ((refine fad_of ?_)) | ((apply ld_of; (case h => iterate 14 (first | done | exact Cells.at (by assumption) _ (by exact rfl) | (apply Ext.cell (by assumption)))))))
            refine hKn m _ _ (by omega) ⟨e47, c.sender, ?_, hsend, hwk.trans hw, by omega⟩
            rw [show ((m + 1 : Nat) : Int) - 1 = (m : Int) by omega]
          refine condNe_of (fun hne => ?_) (fun heq => ?_)
          · repeat (first | (first | refine fad_of ?_ | refine eql_of ?_) | ((apply ld_of; (case h => iterate 14 (first | done | exact Blk.cell (by assumption) (by exact rfl))))) | (refine Sl.len_of (by assumption) ?_))
            refine condP_of (fun h6' => ?_) (fun h6' => ?_)
            · exact stop (by rw [hw2]; simp [hne, h6']) _
            · exact go (by rw [hw2]; simp [h6'])
          · exact go (by rw [hw2]; simp [heq])
    · intro _
      repeat (((refine eql_of ?_)))
      refine hR _ _ (by iterate 20 (first | done | assumption | (apply fun h => Fr.trans h (by assumption)))) ?_
      rw [hwk]
      cases m with
      | zero => unfold walkI; rw [decide_eq_true ha]; simp
      | succ m => unfold walkI; rw [if_pos ha, decide_eq_false (by omega)]
end Go.PT
namespace Go.PT
open Go.Proofs
def Fslices_Clone_Val (t0 : Value) (w : World) (R : VW) : Prop :=
  opT PR (do eqGuard .eql 35 (.tmp 3) (.const (.slice none 0 0)) t0 (.slice none 0 0); binOp .eql 35 t0 (.slice none 0 0)) w fun t4 w1 =>
  condT t4
  (R (.slice none 0 0) w1)
  (bslT 127 0 2 #[] [] w1 fun t5 w2 =>
  opT PR (Builtin.append_ #[35, 35] 35 #[t5, t0]) w2 fun t7 w3 =>
  R t7 w3)
def Fslices_Clone_Val.H : Hints := {}
theorem Fslices_Clone_Val.eq (t0 : Value) : trF PR CX Fslices_Clone_Val.H Tryz.f98 [t0] = Fslices_Clone_Val t0 := by kernel_rfl
theorem Fslices_Clone_Val.cl {t0 : Value} {w : World} {R : VW} (h : Fslices_Clone_Val t0 w R) : clT PR 98 [t0] w R := cl_of_tr (H := Fslices_Clone_Val.H) ctxOk Tryz.func98 rfl (by rw [Fslices_Clone_Val.eq]; exact h)
def Fimpl_Call_copied (t0 : Value) (w : World) (R : VW) : Prop :=
  boxT 89 t0 w fun t1 w1 =>
  allocT 89 #[(.int .i64 0), (.int .i64 0), (.slice none 0 0), (.slice none 0 0), (.int .i64 0), (.bool false)] w1 fun t2 w2 =>
  fadT 2 t1 fun t3 =>
  ldT t3 (w2.drew) fun t4 =>
  fadT 3 t1 fun t6 =>
  ldT t6 (w2.drew) fun t7 =>
  clT PR 98 [t4] (w2.drew) fun t5 w3 =>
  (ldT t6 w3 fun u => u = t7) ∧
  fadT 2 t1 fun t9 =>
  clT PR 98 [t7] w3 fun t8 w4 =>
  stT t9 t5 w4 fun w5 =>
  fadT 3 t1 fun t10 =>
  stT t10 t8 w5 fun w6 =>
  ldsT 6 t1 w6 fun t11 =>
  stsT 6 t2 t11 w6 fun w7 =>
  ldsT 6 t2 w7 fun r8 =>
  R r8 w7
def Fimpl_Call_copied.H : Hints := {draw := fun i => match i with | 1 => { T := [0, 1, 3, 0, 8, 31, 31, 127, 255, 511] } | _ => {}}
theorem Fimpl_Call_copied.eq (t0 : Value) : trF PR CX Fimpl_Call_copied.H Tryz.f99 [t0] = Fimpl_Call_copied t0 := by kernel_rfl
theorem Fimpl_Call_copied.cl {t0 : Value} {w : World} {R : VW} (h : Fimpl_Call_copied t0 w R) : clT PR 99 [t0] w R := cl_of_tr (H := Fimpl_Call_copied.H) ctxOk Tryz.func99 rfl (by rw [Fimpl_Call_copied.eq]; exact h)
def Fimpl_taken.l1 (x2 x6 x7 x10 x11 x45 x46 x47 : Value) (w : World) (Kn Kb Kr : LW) : Prop := ∀ _ : Env,
  binT .lss x47 x46 fun t48 =>
  condT t48
  (ixaT 1 x45 x47 fun t50 =>
  ldT t50 w fun t51 =>
  binT .neq t51 (.int .i64 (-1)) fun t53 =>
  condT t53
  (ixaT 2 x11 x47 fun t57 =>
  fadT 0 t57 fun t58 =>
  ldT t58 w fun t59 =>
  binT .neq t59 t51 fun t61 =>
  condT t61
  (Kr [x2, (.slice none 0 0), (.bool false), x10, x11, x45, x46, x47] w)
  (binT .add x47 (.int .i64 1) fun t63 =>
  Kn [x2, x6, x7, x10, x11, x45, x46, t63] w))
  (binT .add x47 (.int .i64 1) fun t63 =>
  Kn [x2, x6, x7, x10, x11, x45, x46, t63] w))
  (Kb [x2, x6, x7, x10, x11, x45, x46, x47] w)
def Fimpl_taken.k2 (x2 x6 x7 x10 x11 x45 x46 x47 : Value) (w : World) (R : VW) : Prop := ∀ _ : Env,
  nilT PR x2 fun t66 =>
  ldT t66 w fun t67 =>
  opT PR (Instr.sliceAt 35 t67 none (some x10) none) w fun t69 w7 =>
  clT PR 98 [t69] w7 fun t70 w8 =>
  nilT PR x2 fun t71 =>
  stT t71 t70 w8 fun w9 =>
  R (.tuple #[x11, (.bool true)]) w9
def Fimpl_taken.r3 (x2 x6 x7 x10 x11 x45 x46 x47 : Value) (w : World) (R : VW) : Prop := ∀ _ : Env,
  R (.tuple #[x6, x7]) w
def Fimpl_taken (t0 t1 t2 : Value) (w : World) (R : VW) : Prop :=
  boxT 42 t0 w fun t3 w1 =>
  boxT 221 t1 w1 fun t4 w2 =>
  ldsT 1 t3 w2 fun t15 =>
  ldsT 2 t4 w2 fun t16 =>
  clT PR 231 [t15, t16] w2 fun t17 w3 =>
  extT t17 0 fun t18 =>
  extT t17 1 fun t19 =>
  nilT PR t2 fun t21 =>
  ldT t21 w3 fun t22 =>
  lenT t22 fun t23 =>
  binT .sub t23 t18 fun t25 =>
  binT .lss t25 (.int .i64 0) fun t27 =>
  condT t27
  (R (.tuple #[(.slice none 0 0), (.bool false)]) w3)
  (binT .add t25 t19 fun t31 =>
  binT .gtr t31 (.int .i64 6) fun t32 =>
  condT t32
  (R (.tuple #[(.slice none 0 0), (.bool false)]) w3)
  (nilT PR t2 fun t35 =>
  ldT t35 w3 fun t36 =>
  opT PR (Instr.sliceAt 35 t36 (some t25) none none) w3 fun t38 w4 =>
  clT PR 98 [t38] w4 fun t39 w5 =>
  fadT 0 t4 fun t41 =>
  ldT t41 (w5.drew) fun t42 =>
  clT PR 232 [] (w5.drew) fun t40 w6 =>
  (ldT t41 w6 fun u => u = t42) ∧
  ixaT 5 t40 t42 fun t43 =>
  fadT 3 t43 fun t44 =>
  ldT t44 w6 fun t45 =>
  lenT t45 fun t46 =>
  loopT (fun s w Kn Kb Kr => Fimpl_taken.l1 (s.headD undef) (s.tail.headD undef) (s.tail.tail.headD undef) (s.tail.tail.tail.headD undef) (s.tail.tail.tail.tail.headD undef) (s.tail.tail.tail.tail.tail.headD undef) (s.tail.tail.tail.tail.tail.tail.headD undef) (s.tail.tail.tail.tail.tail.tail.tail.headD undef) w Kn Kb Kr) [t2, (.slice none 0 0), (.bool false), t25, t39, t45, t46, (.int .i64 0)] w6
  (fun s w => Fimpl_taken.k2 (s.headD undef) (s.tail.headD undef) (s.tail.tail.headD undef) (s.tail.tail.tail.headD undef) (s.tail.tail.tail.tail.headD undef) (s.tail.tail.tail.tail.tail.headD undef) (s.tail.tail.tail.tail.tail.tail.headD undef) (s.tail.tail.tail.tail.tail.tail.tail.headD undef) w R)
  (fun s w => Fimpl_taken.r3 (s.headD undef) (s.tail.headD undef) (s.tail.tail.headD undef) (s.tail.tail.tail.headD undef) (s.tail.tail.tail.tail.headD undef) (s.tail.tail.tail.tail.tail.headD undef) (s.tail.tail.tail.tail.tail.tail.headD undef) (s.tail.tail.tail.tail.tail.tail.tail.headD undef) w R)))
def Fimpl_taken.H : Hints := {draw := fun i => match i with | 6 => { T := [0, 0, 2, 7, 15, 31, 63, 0] } | _ => {}, loop := fun i => match i with | 7 => some (0, [2, 6, 7, 10, 11, 45, 46, 47]) | _ => none}
def Fslices_Grow_Val.j1 (x0 x1 : Value) (w : World) (R : VW) : Prop := ∀ _ : Env,
  opT PR (Builtin.cap_ #[35] 3 #[x0]) w fun t10 w1 =>
  lenT x0 fun t12 =>
  binT .sub t10 t12 fun t13 =>
  binT .sub x1 t13 fun t14 =>
  binT .gtr t14 (.int .i64 0) fun t16 =>
  condT t16
  (opT PR (Builtin.cap_ #[35] 3 #[x0]) w1 fun t19 w2 =>
  opT PR (Instr.sliceAt 35 x0 none (some t19) none) w2 fun t20 w3 =>
  opT PR (Builtin.append_ #[35, 3] 35 #[t20, t14]) w3 fun t22 w4 =>
  lenT x0 fun t24 =>
  opT PR (Instr.sliceAt 35 t22 none (some t24) none) w4 fun t25 w5 =>
  R t25 w5)
  (R x0 w1)
def Fslices_Grow_Val (t0 t1 : Value) (w : World) (R : VW) : Prop :=
  binT .lss t1 (.int .i64 0) fun t6 =>
  condT t6
  (False)
  (Fslices_Grow_Val.j1 t0 t1 w R)
def Fslices_Grow_Val.H : Hints := {join := fun i => match i with | 6 => some [0, 1] | _ => none}
theorem Fslices_Grow_Val.eq (t0 t1 : Value) : trF PR CX Fslices_Grow_Val.H Tryz.f252 [t0, t1] = Fslices_Grow_Val t0 t1 := by kernel_rfl
theorem Fslices_Grow_Val.cl {t0 t1 : Value} {w : World} {R : VW} (h : Fslices_Grow_Val t0 t1 w R) : clT PR 252 [t0, t1] w R := cl_of_tr (H := Fslices_Grow_Val.H) ctxOk Tryz.func252 rfl (by rw [Fslices_Grow_Val.eq]; exact h)
end Go.PT
namespace Go.PT
attribute [local irreducible] ldT ldsT stT stsT allocT boxT bldT bslT nilT fadT ixaT fldT extT lenT pickT binT notT cviT opT opU condT clT clvT ivT loopT arT ndT World.cell? World.frozen? World.alloc World.drew World.setCell Blk Cells Sl
theorem c_clone {ok : Ok} {p : List Nat} {xs : List V} {v : Value} {w : World} {R : VW} (h : Sl kPair ok w p xs v) (hl : xs.length ≤ 1073741824)
    (hR : ∀ w' v' M, Ext w w' → Born w M → Lim M w' → Sl kPair (Own M) w' [] xs v' → R v' w') : clT PR 98 [v] w R := by
  refine Fslices_Clone_Val.cl ?_
  unfold Fslices_Clone_Val
  have h0 := h
  unfold Sl at h0
  obtain ⟨A, cap, hv, hcap, h3⟩ := h0
  subst hv
  refine nilS_of (e := PR.elem 35) (by kernel_rfl) ?_
  cases A with
  | none =>
    refine cond_of (fun _ => ?_) (fun h => by cases h)
    have hx : xs = [] := by
      rcases h3 with h3 | ⟨b, o, h3, _⟩
      · exact List.length_eq_zero_iff.mp (by omega)
      · cases h3
    subst hx
    exact hR _ _ noL (Fr.refl _ _) (noL_born _) (noL_lim _) Sl.none0
  | some a =>
    refine cond_of (fun h => by cases h) (fun _ => ?_)
    have E := En.start w
    refine E.bsl rfl rfl rfl (fun b1 w1 E e1 => ?_)
    obtain ⟨news, s1, s2⟩ := Sl.src (P := PR) (t := 35) (e := PR.elem 35) (kd := kPair) (by kernel_rfl) h
    have h' : Sl kPair (fun w' q b m => ok w q b m) w1 p xs (.slice (some a) xs.length cap) := h.frame (fun r b m hb => ⟨fun o v hc => Ext.cell e1 hc, hb⟩)
    refine clone_of (by kernel_rfl) h' hl (fun v' w' M e2 hb hl' hs => ?_)
    exact hR _ _ M (e1.trans e2) (fun b q hq => Nat.le_trans e1.size (hb b q hq)) hl' hs
theorem c_callCopied {c : Cl} {ut us : Value} {w : World} {R : VW} (ht : Sl kPair Any w [] c.temps ut) (hs : Sl kPair Any w [] c.stack us) (tl : c.temps.length ≤ 1073741824) (sl : c.stack.length ≤ 1073741824)
    (hR : ∀ w' M ut' us', Ext w w' → Born w M → Lim M w' → Sl kPair (Own M) w' [2] c.temps ut' → Sl kPair (Own M) w' [3] c.stack us' → R (.agg (cellsC c ut' us').toArray) w') :
    clT PR 99 [.agg (cellsC c ut us).toArray] w R := by
  refine Fimpl_Call_copied.cl ?_
  unfold Fimpl_Call_copied
  have E := En.start w
  refine E.box (fun b1 w1 E _ => ?_)
  refine E.al (fun b2 w2 E _ => ?_)
  replace E := E.drew
  repeat (first | ((refine fad_of ?_)) | ((refine E.ld (by first | exact .head _ | exact .tail _ (.head _)) (by exact rfl) ?_)))
  refine c_clone (E.any (q := []) ht) tl (fun w4 v4 M4 e4 hb4 hl4 h4 => ?_)
  have g4 := h4.inR (q := [2]) (apart_of E.mu.lim hb4)
  replace E := E.join [2] e4 hb4 hl4
  refine ⟨by (repeat (((refine E.ld (by first | exact .head _ | exact .tail _ (.head _)) (by exact rfl) ?_)))); rfl, ?_⟩
  (refine fad_of ?_)
  refine c_clone (E.any (q := []) hs) sl (fun w7 v7 M7 e7 hb7 hl7 h7 => ?_)
  have g7 := h7.inR (q := [3]) (apart_of E.mu.lim hb7)
  replace g4 := (g4.keepX e7).inL (q := [3]) (M := M7)
  replace E := E.join [3] e7 hb7 hl7
  refine En.st' [_] E (show 2 < 6 by decide) h4.one (fun w5 E e5 => ?_)
  replace g4 := g4.loc e5
  replace g7 := g7.loc e5
  (refine fad_of ?_)
  refine En.st' [_] E (show 3 < 6 by decide) h7.one (fun w8 E e8 => ?_)
  replace g4 := g4.loc e8
  replace g7 := g7.loc e8
  repeat (((refine E.lds (by first | exact .head _ | exact .tail _ (.head _)) (by exact rfl) ?_)))
  refine En.sts' (vs := cellsC c v4 v7) [] rfl E rfl rfl (by intro x hx; simp only [cellsC, List.mem_cons, List.not_mem_nil, or_false] at hx; rcases hx with h | h | h | h | h | h <;> rw [h] <;> first | rfl | exact h4.one | exact h7.one) (fun w9 E e9 => ?_)
  refine E.lds (by (exact .head _)) rfl ?_
  exact hR _ _ _ _ E.toExt E.born E.mu.lim (g4.loc e9) (g7.loc e9)
end Go.PT
namespace Go.PT
theorem ar_one {t : Nat} {z : Array Value} {w w' : World} {s s' : List (Option Nat)} (h : AR [(t, z)] w s w' s') : (s = [none] → (w' = w ∧ s' = [none]) ∨ (w' = w.alloc (.cells z t) ∧ s' = [some w.heap.size])) ∧ (∀ b, s = [some b] → w' = w ∧ s' = s) := by
  induction h with
  | refl w s => exact ⟨fun h => .inl ⟨rfl, h⟩, fun b h => ⟨rfl, rfl⟩⟩
  | step i t' z' hz hs h ih =>
    have hi : i = 0 := by
      cases i with
      | zero => rfl
      | succ i => simp at hz
    subst hi
    simp only [List.getElem?_cons_zero, Option.some.injEq, Prod.mk.injEq] at hz
    obtain ⟨rfl, rfl⟩ := hz
    refine ⟨fun h => ?_, fun b h => ?_⟩
    · subst h
      have := ih.2 _ rfl
      exact .inr ⟨this.1, this.2⟩
    · subst h; simp at hs
def Slot (s : List (Option Nat)) (w0 w : World) (z : Array Value) : Prop := s = [none] ∨ ∃ b, s = [some b] ∧ w0.heap.size ≤ b ∧ Blk w b z.toList
theorem Slot.init {w : World} {z : Array Value} : Slot [none] w w z := .inl rfl
theorem ar_slot {t : Nat} {z : Array Value} {w0 w : World} {s : List (Option Nat)} {k : World → List (Option Nat) → Prop} (h : Slot s w0 w z) (h0 : w0.heap.size ≤ w.heap.size) (hk : ∀ w' s', Ext w w' → Slot s' w0 w' z → k w' s') : arT [(t, z)] w s k := by
  intro w' s' a
  rcases h with h | ⟨b, h1, h2, h3⟩
  · rcases (ar_one a).1 h with ⟨rfl, rfl⟩ | ⟨rfl, rfl⟩
    · exact hk _ _ (Fr.refl _ _) (.inl rfl)
    · refine hk _ _ ((Fr.refl _ _).alloc _) (.inr ⟨_, rfl, h0, ?_⟩)
      have := blk_new w z.toList t
      simpa using this
  · obtain ⟨rfl, rfl⟩ := (ar_one a).2 b h1
    exact hk _ _ (Fr.refl _ _) (.inr ⟨b, h1, h2, h3⟩)
theorem ar_some {t : Nat} {z : Array Value} {w : World} {b : Nat} {k : World → List (Option Nat) → Prop} (hk : k w [some b]) : arT [(t, z)] w [some b] k := by
  intro w' s' a
  obtain ⟨rfl, rfl⟩ := (ar_one a).2 b rfl
  exact hk
theorem nd_some {b : Nat} {k : Nat → Prop} (hk : k b) : ndT [some b] 0 k := by
  intro b' hb
  have : b = b' := by simpa using hb
  subst this; exact hk
attribute [local irreducible] ldT ldsT stT stsT allocT boxT bldT bslT nilT fadT ixaT fldT extT lenT pickT binT notT cviT opT opU condT clT clvT ivT loopT arT ndT World.cell? World.frozen? World.alloc World.drew World.setCell Blk Cells Sl
end Go.PT
namespace Go.PT
def kByte : Kd Int := Kd.flat 1 (fun n => [.int .u8 n]) (fun _ => rfl) (fun _ v hv => by simp at hv; subst hv; rfl)
def Rd (w : World) (r : Nat) (code : List Int) (pos : Int) : Prop :=
  ∃ v, w.cell? ⟨r, 0, none⟩ = some v ∧ w.cell? ⟨r, 1, none⟩ = some (.int .i64 pos) ∧ w.frozen? ⟨r, 1, none⟩ = false ∧ (∃ A c, v = .slice A code.length c) ∧ (code = [] ∨ Sl kByte (Off (fun x => r ≤ x)) w [] code v)
theorem frozen_keep {S : Nat → Prop} {w w' : World} (e : Fr S w w') {b o : Nat} (hb : b < w.heap.size) (hs : ¬ S b) : w'.frozen? ⟨b, o, none⟩ = w.frozen? ⟨b, o, none⟩ := World.frozen?_of_block (e.keep b hb hs)
theorem Rd.lt {w : World} {r : Nat} {code : List Int} {pos : Int} (h : Rd w r code pos) : r < w.heap.size := by obtain ⟨v, h1, _⟩ := h; exact cell_lt h1
theorem Rd.fr {w w' : World} {r : Nat} {code : List Int} {pos : Int} (h : Rd w r code pos) (e : Ext w w') : Rd w' r code pos := by
  obtain ⟨v, h1, h2, h3, h5, h4⟩ := h
  exact ⟨v, Ext.cell e h1, Ext.cell e h2, by rw [frozen_keep e (cell_lt h1) (fun e => e)]; exact h3, h5, h4.imp id (fun h => h.offExt e)⟩
theorem Rd.set {w : World} {r : Nat} {code : List Int} {pos : Int} (h : Rd w r code pos) (pos' : Int) : Rd (w.setCell ⟨r, 1, none⟩ (.int .i64 pos')) r code pos' := by
  obtain ⟨v, h1, h2, h3, h5, h4⟩ := h
  exact ⟨v, cell_far (.inr (by decide)) h1, cell_put h2, by rw [World.frozen?_setCell]; exact h3, h5, h4.imp id (fun h => h.off ((Fr.refl (fun x => r ≤ x) w).set (.inr (Nat.le_refl _)) _))⟩
theorem Rd.keep {S : Nat → Prop} {w w' : World} {r : Nat} {code : List Int} {pos : Int} (h : Rd w r code pos) (e : Fr S w w') (hs : ∀ x, S x → r < x) : Rd w' r code pos := by
  obtain ⟨v, h1, h2, h3, h5, h4⟩ := h
  have hr : ¬ S r := fun e => absurd (hs r e) (Nat.lt_irrefl _)
  exact ⟨v, e.cell hr h1, e.cell hr h2, by rw [frozen_keep e (cell_lt h1) hr]; exact h3, h5, h4.imp id (fun h => h.off (e.to (fun b _ hb => Nat.le_of_lt (hs b hb))))⟩
def Bytes (code : List Int) : Prop := (∀ x ∈ code, 0 ≤ x ∧ x ≤ 255) ∧ code.length ≤ 4000
theorem tmod_range (a n : Int) (ha : 0 ≤ a) (hn : 0 < n) : 0 ≤ Int.tmod a n ∧ Int.tmod a n < n := by
  rw [Int.tmod_eq_emod_of_nonneg ha]
  exact ⟨Int.emod_nonneg _ (by omega), Int.emod_lt_of_pos _ hn⟩
theorem tdiv_range (a n : Int) (ha : 0 ≤ a) (hn : 0 < n) : 0 ≤ Int.tdiv a n ∧ Int.tdiv a n ≤ a := by
  rw [Int.tdiv_eq_ediv_of_nonneg ha]
  exact ⟨Int.ediv_nonneg ha (by omega), Int.ediv_le_self _ ha⟩
theorem xor_nonneg (x y : Int) (hx : 0 ≤ x) (hx' : x < 4611686018427387904) (hy : 0 ≤ y) (hy' : y < 4611686018427387904) : 0 ≤ bits .xor .i64 x y := by
  obtain ⟨a, rfl⟩ := Int.eq_ofNat_of_zero_le hx
  obtain ⟨b, rfl⟩ := Int.eq_ofNat_of_zero_le hy
  have ha : a < 2 ^ 62 := by omega
  have hb : b < 2 ^ 62 := by omega
  have h := Nat.xor_lt_two_pow ha hb
  show 0 ≤ IntKind.i64.wrap ((BitVec.ofInt 64 (a : Int) ^^^ BitVec.ofInt 64 (b : Int)).toNat : Int)
  rw [BitVec.toNat_xor, BitVec.toNat_ofInt, BitVec.toNat_ofInt]
  have e1 : (((a : Int) % ((2 ^ 64 : Nat) : Int)).toNat) = a := by omega
  have e2 : (((b : Int) % ((2 ^ 64 : Nat) : Int)).toNat) = b := by omega
  rw [e1, e2, i64_wrap _ (by omega) (by omega)]
  omega
theorem byte_at {w : World} {ok : Ok} {p : List Nat} {code : List Int} {v : Value} {i : Int} {k : Value → Prop} (hb : Bytes code) (h : Sl kByte ok w p code v) (h0 : 0 ≤ i) (h1 : i < code.length)
    (hk : ∀ b o x, 0 ≤ x → x ≤ 255 → w.cell? ⟨b, o, none⟩ = some (.int .u8 x) → k (.pointer (some ⟨b, o, none⟩))) : ixaT 1 v (.int .i64 i) k := by
  refine h.ix_of rfl h0 h1 (fun x b o es hx hK hc => ?_)
  have hes : es = [.int .u8 x] := hK
  subst hes
  have hx' := hb.1 x (List.mem_of_getElem? hx)
  exact hk b o x hx'.1 hx'.2 (by simpa using hc.at 0 rfl)
theorem c_pick {w : World} {r : Nat} {code : List Int} {pos n : Int} {R : VW} (h : Rd w r code pos) (hb : Bytes code) (hp : 0 ≤ pos) (hp' : pos ≤ 100000) (hn : 1 ≤ n)
    (hR : ∀ v w', 0 ≤ v → v < n → Fr (fun x => x = r) w w' → Rd w' r code (pos + 1) → R (.int .i64 v) w') : clT PR 139 [.pointer (some ⟨r, 0, none⟩), .int .i64 n] w R := by
  refine Fspec_l6Rd_pick.cl ?_
  unfold Fspec_l6Rd_pick
  obtain ⟨v, h1, h2, h3, h5, h4⟩ := h
  have hl := hb.2
  repeat (first | (first | refine fad_of ?_ | refine nil_of ?_) | ((refine add_of (by (omega)) (by (omega)) ?_)) | ((apply ld_of; (case h => iterate 14 (first | done | assumption)))))
  refine st_of rfl h2 h3 ?_
  have hfr : Fr (fun x => x = r) w (w.setCell ⟨r, 0 + 1, none⟩ (.int .i64 (pos + 1))) := (Fr.refl (fun x => x = r) w).set (.inr rfl) _
  have hrd : Rd (w.setCell ⟨r, 0 + 1, none⟩ (.int .i64 (pos + 1))) r code (pos + 1) := Rd.set ⟨v, h1, h2, h3, h5, h4⟩ _
  generalize w.setCell ⟨r, 0 + 1, none⟩ (.int .i64 (pos + 1)) = w1 at hfr hrd
  have hrd' := hrd
  obtain ⟨v, h1, h2, h3, ⟨A, c, hv⟩, h4⟩ := hrd
  have done : ∀ x : Int, 0 ≤ x → R (.int .i64 (x.tmod n)) w1 := fun x hx => hR _ _ (tmod_range x n hx (by omega)).1 (tmod_range x n hx (by omega)).2 hfr hrd'
  have doneD : ∀ x : Int, 0 ≤ x → R (.int .i64 (x.tmod n)) w1.drew := fun x hx => hR _ _ (tmod_range x n hx (by omega)).1 (tmod_range x n hx (by omega)).2 hfr.drew hrd'
  repeat (((refine lss_of ?_)))
  refine condP_of (fun hc => by omega) (fun _ => ?_)
  repeat (first | (first | refine fad_of ?_ | refine nil_of ?_) | ((apply ld_of; (case h => iterate 14 (first | done | assumption)))))
  have hlen : ∀ {k : Value → Prop}, k (.int .i64 code.length) → lenT v k := fun hk => by rw [hv]; exact hk
  refine hlen ?_
  repeat (((refine eql_of ?_)))
  refine condP_of (fun hc => hR _ _ (by omega) (by omega) hfr hrd') (fun hne => ?_)
  have h4 : Sl kByte (Off (fun x => r ≤ x)) w1 [] code v := h4.resolve_left (fun e => hne (by rw [e]; rfl))
  repeat (first | (first | refine fad_of ?_ | refine nil_of ?_ | refine lss_of ?_) | ((refine sub_of (by (omega)) (by (omega)) ?_)) | ((apply ld_of; (case h => iterate 14 (first | done | assumption)))) | (refine Sl.len_of (by assumption) ?_))
  first | refine h4.len_of ?_ | skip
  repeat ((fail))
  rw [show pos + 1 - 1 = pos by omega]
  refine condP_of (fun hc => ?_) (fun hc => ?_)
  · repeat (first | (first | refine fad_of ?_ | refine nil_of ?_) | ((apply ld_of; (case h => iterate 14 (first | done | assumption)))))
    refine byte_at hb h4 (by omega) hc (fun b o x hx0 hx1 hcell => ?_)
    repeat (first | ((refine cvi_of ?_)) | ((apply ld_of; (case h => iterate 14 (first | done | assumption)))))
    rw [i64_wrap _ (by omega) (by omega)]
    refine rem_of (by omega) ?_
    exact done x hx0
  · have hL : (0 : Int) < code.length := by omega
    have q1 := tmod_range pos code.length hp hL
    have q2 := tmod_range (pos * 7 + 3) code.length (by omega) hL
    have q3 := tdiv_range pos code.length hp hL
    repeat (first | (first | refine fad_of ?_ | refine nil_of ?_) | ((apply ld_of; (case h => iterate 14 (first | done | assumption)))) | (refine Sl.len_of (by assumption) ?_))
    first | refine h4.len_of ?_ | skip
    refine rem_of (by omega) ?_
    refine byte_at hb h4 q1.1 q1.2 (fun b o x hx0 hx1 hcell => ?_)
    repeat (first | ((refine cvi_of ?_)) | ((apply ld_of; (case h => iterate 14 (first | done | assumption)))))
    rw [i64_wrap _ (by omega) (by omega)]
    repeat (first | (first | refine fad_of ?_ | refine nil_of ?_) | (first | refine add_of (by (omega)) (by (omega)) ?_ | refine mul_of (by (omega)) (by (omega)) ?_) | ((apply ld_of; (case h => iterate 14 (first | done | assumption)))) | (refine Sl.len_of (by assumption) ?_))
    first | refine h4.len_of ?_ | skip
    refine rem_of (by omega) ?_
    refine byte_at hb h4 q2.1 q2.2 (fun b' o' y hy0 hy1 hcell' => ?_)
    repeat (first | ((refine cvi_of ?_)) | ((apply ld_of; (case h => iterate 14 (first | done | assumption)))))
    rw [i64_wrap _ (by omega) (by omega)]
    repeat (first | (first | refine fad_of ?_ | refine nil_of ?_) | (first | refine add_of (by (omega)) (by (omega)) ?_ | refine mul_of (by (omega)) (by (omega)) ?_) | ((apply ld_of; (case h => iterate 14 (first | done | assumption)))) | (refine Sl.len_of (by assumption) ?_))
    first | refine h4.len_of ?_ | skip
    refine quo_of (by omega) (by omega) (by omega) ?_
    repeat ((first | refine add_of (by (omega)) (by (omega)) ?_ | refine mul_of (by (omega)) (by (omega)) ?_))
    have hs : 0 ≤ x * 131 + y * 1117 + pos * 29 + pos.tdiv code.length * 53 ∧ x * 131 + y * 1117 + pos * 29 + pos.tdiv code.length * 53 < 4611686018427387904 := by omega
    generalize x * 131 + y * 1117 + pos * 29 + pos.tdiv code.length * 53 = s at hs
    have q4 := tdiv_range s 64 hs.1 (by omega)
    refine quo_of (by omega) (by omega) (by omega) ?_
    refine xor_of ?_
    refine rem_of (by omega) ?_
    exact doneD _ (xor_nonneg _ _ hs.1 hs.2 q4.1 (by omega))
def Bt (w : World) (code : List Int) (v : Value) : Prop := (∃ A c, v = .slice A code.length c ∧ code.length ≤ c) ∧ (code = [] ∨ Sl kByte (fun w _ b _ => b < w.heap.size) w [] code v)
theorem c_l6Open {w : World} {code : List Int} {v : Value} {R : VW} (h : Bt w code v) (hb : ∀ x ∈ code, 0 ≤ x ∧ x ≤ 255)
    (hR : ∀ r w' code', Ext w w' → w.heap.size ≤ r → Rd w' r code' 0 → Bytes code' → R (.pointer (some ⟨r, 0, none⟩)) w') : clT PR 103 [v] w R := by
  refine Fspec_l6Open.cl ?_
  unfold Fspec_l6Open
  obtain ⟨⟨A, c, rfl, hc⟩, hs⟩ := h
  have fin : ∀ (t : Nat) (code' : List Int) (v' : Value), (∃ A c, v' = .slice A code'.length c ∧ code'.length ≤ c) → (code' = [] ∨ Sl kByte (fun w _ b _ => b < w.heap.size) w [] code' v') → Bytes code' →
      bldT #[(.slice none 0 0), (.int .i64 0)] [(0, 1, v')] fun t9 => boxT t t9 w fun t10 w2 => R t10 w2 := by
    intro t code' v' hv hs' hb'
    obtain ⟨A', c', rfl, hc'⟩ := hv
    refine bld_of (cs := #[.slice A' code'.length c', .int .i64 0]) rfl ?_
    refine box_of' (fun b w' e hbs k => ?_)
    refine hR b w' code' e hbs ⟨_, k.cell (o := 0) rfl, k.cell (o := 1) rfl, k.warm, ⟨A', c', rfl⟩, hs'.imp id (fun h => h.frame (fun r x m hx => ⟨fun o v hc => Ext.cell e hc, fun e => by have h1 : x < w.heap.size := hx; have h2 : b ≤ x := e; omega⟩))⟩ hb'
  repeat ((first | refine gtr_of ?_ | refine lenS_of ?_))
  refine condP_of (fun hl => ?_) (fun hl => ?_)
  · have hs2 := hs.resolve_left (fun e => by rw [e] at hl; simp at hl)
    refine slrE_of (kd := kByte) (ok := fun w _ b _ => b < w.heap.size) (q := []) (by kernel_rfl) (fun w p q b m m' h => h) hs2 (by omega) (by omega) (fun v' hv' => ?_)
    obtain ⟨A', c', h1, h2, _⟩ := id hv'
    refine fin _ _ v' ⟨A', c', h1, h2⟩ (.inr hv') ⟨fun x hx => hb x (List.mem_of_mem_take hx), by rw [List.length_take]; omega⟩
  · exact fin _ code _ ⟨A, c, rfl, hc⟩ hs ⟨hb, by omega⟩
variable {α : Type}
def labR (r : Nat) : Lab := lab1 r [9]
theorem labR_self (r : Nat) : labR r r = some [9] := by unfold labR lab1; simp
theorem labR_none {r b : Nat} (h : b ≠ r) : labR r b = none := by unfold labR lab1; simp [h]
structure Dn (r : Nat) (code : List Int) (pos d : Int) (w w' : World) (M : Lab) (pos' : Int) : Prop where
  fr : Fr (fun x => x = r) w w'
  rd : Rd w' r code pos'
  lo : pos ≤ pos'
  hi : pos' ≤ pos + d
  born : Born w M
  lim : Lim M w'
structure ER (r : Nat) (code : List Int) (pos : Int) (w0 : World) (L : Lab) (w : World) (l : List (Nat × List Value)) : Prop where
  en : En (labR r) w0 L w l
  rd : Rd w r code pos
  lab : L r = some [9]
  lt : r < w0.heap.size
structure Tk (r : Nat) (L : Lab) (w : World) (L' : Lab) (w' : World) : Prop where
  fr : Fr (fun x => x = r) w w'
  lab : L r = some [9]
  keep : ∀ b p, L b = some p → L' b = some p
theorem Sl.tr {kd : Kd α} {r i : Nat} {q : List Nat} {L L' : Lab} {w w' : World} {xs : List α} {v : Value} (h : Sl kd (Own L) w (i :: q) xs v) (T : Tk r L w L' w') (hi : i ≠ 9) : Sl kd (Own L') w' (i :: q) xs v :=
  h.own T.fr (fun b s hb => ⟨fun e => by rw [e, T.lab] at hb; simp at hb; exact hi hb.1.symm, T.keep _ _ hb⟩)
section
variable {r : Nat} {code : List Int} {pos pos' d : Int} {w0 w w' : World} {L L' M : Lab} {l : List (Nat × List Value)}
theorem ER.init (h : Rd w r code pos) : ER r code pos w (labR r) w [] := ⟨En.init (lab1_lim h.lt), h, labR_self r, h.lt⟩
theorem ER.ext (E : ER r code pos w0 L w l) (e : Ext w w') : ER r code pos w0 L w' l := ⟨E.en.ext e, E.rd.fr e, E.lab, E.lt⟩
theorem ER.drew (E : ER r code pos w0 L w l) : ER r code pos w0 L w.drew l := E.ext (Fr.refl _ _).drew
theorem ER.fresh (E : ER r code pos w0 L w l) {b : Nat} {p : List Nat} (h : L b = some p) (hb : b ≠ r) : w0.heap.size ≤ b := by
  rcases Nat.lt_or_ge b w0.heap.size with hlt | hge
  · rw [E.en.mu.un b hlt (labR_none hb)] at h; cases h
  · exact hge
theorem ER.fr (E : ER r code pos w0 L w l) : Fr (fun x => x = r) w0 w := E.en.mu.fr.to (fun b _ h => by
  rcases Nat.decEq b r with hb | hb
  · exact absurd (labR_none hb) h
  · exact hb)
theorem ER.pop {x : Nat × List Value} (E : ER r code pos w0 L w (x :: l)) : ER r code pos w0 L w l := ⟨E.en.pop, E.rd, E.lab, E.lt⟩
theorem ER.bsl (E : ER r code pos w0 L w l) {e n size : Nat} {z : Array Value} {parts : List (Nat × Nat × Value)} {k : VW} (hp : parts = full size 0 (parts.map fun p => p.2.2)) (hn : n = parts.length) (hs : (parts.all fun p => p.2.2.cells.size == size) = true)
    (hk : ∀ b w', ER r code pos w0 L w' ((b, flat (parts.map fun p => p.2.2)) :: l) → Ext w w' → k (.slice (some ⟨b, 0, none⟩) n n) w') : bslT e n size z parts w k :=
  E.en.bsl hp hn hs (fun b w' E' e' => hk b w' ⟨E', E.rd.fr e', E.lab, E.lt⟩ e')
theorem ER.al (E : ER r code pos w0 L w l) {t : Nat} {z : Array Value} {k : VW} (hk : ∀ b w', ER r code pos w0 L w' ((b, z.toList) :: l) → Ext w w' → k (.pointer (some ⟨b, 0, none⟩)) w') : allocT t z w k :=
  E.en.al (fun b w' E' e' => hk b w' ⟨E', E.rd.fr e', E.lab, E.lt⟩ e')
theorem ER.st' (l1 : List (Nat × List Value)) {l2 : List (Nat × List Value)} {b o : Nat} {cs : List Value} {v : Value} {k : World → Prop} (E : ER r code pos w0 L w (l1 ++ (b, cs) :: l2)) (ho : o < cs.length) (h1 : v.oneCell' = true)
    (hk : ∀ w', ER r code pos w0 L w' (l1 ++ (b, cs.set o v) :: l2) → Loc L w w' b → k w') : stT (.pointer (some ⟨b, o, none⟩)) v w k :=
  E.en.st' l1 ho h1 (fun w' E' e' => hk w' ⟨E', E.rd.keep e'.fr (fun x hx => by have h1 := (E.en.loc (b, cs) (by simp)).2; have h2 := E.lt; simp only at h1; omega), E.lab, E.lt⟩ e')
theorem ER.sts' (l1 : List (Nat × List Value)) {l2 : List (Nat × List Value)} {b n : Nat} {cs vs : List Value} {v : Value} {k : World → Prop} (hv : v.cells.toList = vs) (E : ER r code pos w0 L w (l1 ++ (b, cs) :: l2)) (hn : n = vs.length) (hl : cs.length = vs.length) (h1 : ∀ u ∈ vs, u.oneCell' = true)
    (hk : ∀ w', ER r code pos w0 L w' (l1 ++ (b, vs) :: l2) → Loc L w w' b → k w') : stsT n (.pointer (some ⟨b, 0, none⟩)) v w k :=
  E.en.sts' l1 hv hn hl h1 (fun w' E' e' => hk w' ⟨E', E.rd.keep e'.fr (fun x hx => by have h1 := (E.en.loc (b, cs) (by simp)).2; have h2 := E.lt; simp only at h1; omega), E.lab, E.lt⟩ e')
theorem ER.grow (E : ER r code pos w0 L w l) {i : Nat} {q : List Nat} (g : Grw (i :: q) L w L' w') (hi : i ≠ 9) : ER r code pos w0 L' w' l :=
  ⟨E.en.grow g, E.rd.keep g.fr (fun x hx => by
    have hx' : x ≠ r := fun e => by have := E.lab; rw [e, this] at hx; simp at hx; exact hi hx.1.symm
    have := E.fresh hx hx'; have := E.lt; omega), g.lx.lab E.en.mu.lim E.lab, E.lt⟩
theorem ER.wr (E : ER r code pos w0 L w l) {i b : Nat} {q : List Nat} (hb : L b = some (i :: q)) (hi : i ≠ 9) (e : Fr (fun x => x = b) w w') : ER r code pos w0 L w' l :=
  ⟨E.en.call (Mut.at e hb E.en.mu.lim), E.rd.keep e (fun x hx => by
    have hx' : x ≠ r := fun e => by have := E.lab; rw [← hx, e, this] at hb; simp at hb; exact hi hb.1.symm
    have := E.fresh (hx ▸ hb) hx'; have := E.lt; omega), E.lab, E.lt⟩
theorem ER.take (E : ER r code pos w0 L w l) (q : List Nat) (D : Dn r code pos d w w' M pos') : ER r code pos' w0 (joinL L q M) w' l ∧ Tk r L w (joinL L q M) w' :=
  ⟨⟨E.en.call ⟨D.fr.to (fun b _ e => by rw [e, E.lab]; exact fun h => by cases h), fun b hb hn => joinL_none (by
      cases hM : M b with
      | none => rfl
      | some p => have := D.born b p hM; omega) hn, joinL_lim (E.en.mu.lim.fr D.fr) D.lim⟩, D.rd, joinL_left E.lab, E.lt⟩,
    ⟨D.fr, E.lab, fun b p h => joinL_left h⟩⟩
theorem ER.apart (E : ER r code pos w0 L w l) (D : Dn r code pos d w w' M pos') : Apart L M := apart_of E.en.mu.lim D.born
def subL (i : Nat) (L : Lab) : Lab := fun b => match L b with | some (j :: p) => if j = i then some p else none | _ => none
theorem subL_some {i b : Nat} {p : List Nat} (h : subL i L b = some p) : L b = some (i :: p) := by
  unfold subL at h
  split at h
  · rename_i j q hq
    split at h
    · rename_i e; subst e; rw [hq, Option.some.inj h]
    · cases h
  · cases h
theorem subL_of {i b : Nat} {p : List Nat} (h : L b = some (i :: p)) : subL i L b = some p := by unfold subL; rw [h]; simp
theorem Sl.sub {kd : Kd α} {i : Nat} {q : List Nat} {xs : List α} {v : Value} (h : Sl kd (Own L) w (i :: q) xs v) : Sl kd (Own (subL i L)) w q xs v :=
  h.own (Fr.refl No w) (fun b s hb => ⟨fun e => e, subL_of (by simpa using hb)⟩)
theorem ER.done (E : ER r code pos' w0 L w l) (i : Nat) (h1 : pos ≤ pos') (h2 : pos' ≤ pos + d) (hi : i ≠ 9) : Dn r code pos d w0 w (subL i L) pos' :=
  ⟨E.fr, E.rd, h1, h2, fun b p hb => E.fresh (subL_some hb) (fun e => by have h := subL_some hb; rw [e, E.lab] at h; simp at h; exact hi h.1.symm), fun b p hb => E.en.mu.lim b _ (subL_some hb)⟩
theorem c_pickE {n : Int} {R : VW} (E : ER r code pos w0 L w l) (hb : Bytes code) (hp : 0 ≤ pos) (hp' : pos ≤ 100000) (hn : 1 ≤ n)
    (hR : ∀ v w', 0 ≤ v → v < n → ER r code (pos + 1) w0 L w' l → Tk r L w L w' → R (.int .i64 v) w') : clT PR 139 [.pointer (some ⟨r, 0, none⟩), .int .i64 n] w R :=
  c_pick E.rd hb hp hp' hn (fun v w' h0 h1 e hrd => hR v w' h0 h1 ⟨E.en.call (Mut.at e E.lab E.en.mu.lim), hrd, E.lab, E.lt⟩ ⟨e, E.lab, fun _ _ h => h⟩)
theorem ER.join (E : ER r code pos w0 L w l) (q : List Nat) (e : Ext w w') (hb : Born w M) (hm : Lim M w') : ER r code pos w0 (joinL L q M) w' l := ⟨E.en.join q e hb hm, E.rd.fr e, joinL_left E.lab, E.lt⟩
end
end Go.PT
