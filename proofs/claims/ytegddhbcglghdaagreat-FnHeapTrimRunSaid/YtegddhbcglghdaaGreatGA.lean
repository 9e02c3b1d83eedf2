/- The reference on programs and heaps. -/
import Derived.Test.YtegddhbcglghdaaGreatMem
import Derived.Test.YtegddhbcglghdaaGreatHTextA
/- Programs and heaps as plain data, and what is asked of them. -/
set_option linter.unusedVariables false
namespace Go.PT
def inB (a b c : Int) : Bool := decide (b ≤ a) && decide (a ≤ c)
theorem inB_t {a b c : Int} (h1 : b ≤ a) (h2 : a ≤ c) : inB a b c = true := by unfold inB; simp [h1, h2]
theorem inB_f {a b c : Int} (h : ¬ (b ≤ a ∧ a ≤ c)) : inB a b c = false := by unfold inB; simp; omega
theorem inB_iff {a b c : Int} : inB a b c = true ↔ b ≤ a ∧ a ≤ c := by unfold inB; simp
theorem condIn_of {a b c : Int} {A B : Prop} (h1 : b ≤ a ∧ a ≤ c → A) (h2 : ¬ (b ≤ a ∧ a ≤ c) → B) : condT (.bool (inB a b c)) A B := cond_of (fun h => h1 (inB_iff.mp h)) (fun h => h2 (fun h' => by rw [inB_t h'.1 h'.2] at h; cases h))
theorem condNIn_of {a b c : Int} {A B : Prop} (h1 : ¬ (b ≤ a ∧ a ≤ c) → A) (h2 : b ≤ a ∧ a ≤ c → B) : condT (.bool (!inB a b c)) A B := condN_of (fun h => h1 (fun h' => by rw [inB_t h'.1 h'.2] at h; cases h)) (fun h => h2 (inB_iff.mp h))
abbrev V := Int × Int
structure Meth where
  args : Int
  temps : Int
  ops : List (Int × Int)
structure Cl where
  method : Int
  pc : Int
  temps : List V
  stack : List V
  sender : Int
  dead : Bool
structure Hp where
  calls : List Cl
  now : Int
  born : Int
  said : List V
  code : Int
abbrev Pg := List Meth
def meth0 : Meth := ⟨0, 0, []⟩
def call0 : Cl := ⟨0, 0, [], [], 0, false⟩
def methAt (p : Pg) (i : Int) : Meth := p.getD i.toNat meth0
def callAt (cs : List Cl) (i : Int) : Cl := cs.getD i.toNat call0

/-! ### the kinds -/
def kPair : Kd (Int × Int) := Kd.flat 2 (fun t => [.int .i64 t.1, .int .i64 t.2]) (fun _ => rfl) (fun _ v hv => by simp at hv; rcases hv with rfl | rfl <;> rfl)
def kInt : Kd Int := Kd.flat 1 (fun n => [.int .i64 n]) (fun _ => rfl) (fun _ v hv => by simp at hv; subst hv; rfl)
def kMeth : Kd Meth where
  sz := 3
  K := fun ok w p m cs => ∃ u, cs = [.int .i64 m.args, .int .i64 m.temps, u] ∧ Sl kPair ok w (p ++ [2]) m.ops u
  len := fun h => by obtain ⟨u, rfl, _⟩ := h; rfl
  one := fun h v hv => by
    obtain ⟨u, rfl, hu⟩ := h
    simp at hv
    rcases hv with rfl | rfl | rfl
    · rfl
    · rfl
    · exact hu.one
  frame := fun h hf => by
    obtain ⟨u, rfl, hu⟩ := h
    refine ⟨u, rfl, hu.frame (fun r b m ho => ?_)⟩
    rw [List.append_assoc] at ho ⊢
    exact hf _ b m ho
def kCall : Kd Cl where
  sz := 6
  K := fun ok w p c cs => ∃ u v, cs = [.int .i64 c.method, .int .i64 c.pc, u, v, .int .i64 c.sender, .bool c.dead] ∧ Sl kPair ok w (p ++ [2]) c.temps u ∧ Sl kPair ok w (p ++ [3]) c.stack v
  len := fun h => by obtain ⟨u, v, rfl, _⟩ := h; rfl
  one := fun h v hv => by
    obtain ⟨u, u', rfl, hu, hu'⟩ := h
    simp at hv
    rcases hv with rfl | rfl | rfl | rfl | rfl | rfl
    · rfl
    · rfl
    · exact hu.one
    · exact hu'.one
    · rfl
    · rfl
  frame := fun h hf => by
    obtain ⟨u, u', rfl, hu, hu'⟩ := h
    refine ⟨u, u', rfl, hu.frame (fun r b m ho => ?_), hu'.frame (fun r b m ho => ?_)⟩ <;>
    · rw [List.append_assoc] at ho ⊢
      exact hf _ b m ho

/-! ### what is asked of programs and heaps -/
def valOk (n : Int) (v : V) : Bool := if v.1 = 0 then decide (v.2 = 0) else if v.1 = 1 then inB v.2 0 999 else if v.1 = 2 then inB v.2 0 (n - 1) else false
def valsOk (n : Int) (l : List V) : Bool := l.all (valOk n)
def form (p : Pg) (n : Int) (c : Cl) : Bool :=
  inB c.method 0 (p.length - 1) && (inB c.pc 0 (methAt p c.method).ops.length && (decide ((c.temps.length : Int) = (methAt p c.method).temps) && (decide ((c.stack.length : Int) ≤ 6) &&
    (inB c.sender (-1) (n - 1) && (valsOk n c.temps && (valsOk n c.stack && (!c.dead || (decide (c.sender = -1) && decide ((c.stack.length : Int) = 0)))))))))
def saidOk (p : Pg) (l : List V) : Bool := l.all (fun v => valOk p.length v)

/-! ### elements -/
theorem methAt_of {p : Pg} {i : Nat} {m : Meth} (h : p[i]? = some m) : p.getD i meth0 = m := by rw [List.getD_eq_getElem?_getD, h]; rfl
theorem callAt_of {cs : List Cl} {i : Nat} {c : Cl} (h : cs[i]? = some c) : cs.getD i call0 = c := by rw [List.getD_eq_getElem?_getD, h]; rfl
theorem meth_ix {w : World} {q : List Nat} {p : Pg} {v : Value} {i : Int} {k : Value → Prop} (h : Sl kMeth Any w q p v) (h0 : 0 ≤ i) (h1 : i < p.length)
    (hk : ∀ b o u, Cells w b o [.int .i64 (methAt p i).args, .int .i64 (methAt p i).temps, u] → Sl kPair Any w [] (methAt p i).ops u → k (.pointer (some ⟨b, o, none⟩))) : ixaT 3 v (.int .i64 i) k := by
  refine h.ix_of rfl h0 h1 (fun x b o es hx hK hc => ?_)
  obtain ⟨u, rfl, hu⟩ := hK
  have e : methAt p i = x := methAt_of hx
  refine hk b o u ?_ ?_
  · rw [e]; exact hc
  · rw [e]; exact hu.re
theorem call_ix {w : World} {q : List Nat} {cs : List Cl} {v : Value} {i : Int} {k : Value → Prop} (h : Sl kCall Any w q cs v) (h0 : 0 ≤ i) (h1 : i < cs.length)
    (hk : ∀ b o u u', Cells w b o [.int .i64 (callAt cs i).method, .int .i64 (callAt cs i).pc, u, u', .int .i64 (callAt cs i).sender, .bool (callAt cs i).dead] → Sl kPair Any w [] (callAt cs i).temps u → Sl kPair Any w [] (callAt cs i).stack u' →
      k (.pointer (some ⟨b, o, none⟩))) : ixaT 6 v (.int .i64 i) k := by
  refine h.ix_of rfl h0 h1 (fun x b o es hx hK hc => ?_)
  obtain ⟨u, u', rfl, hu, hu'⟩ := hK
  have e : callAt cs i = x := callAt_of hx
  refine hk b o u u' ?_ ?_ ?_
  · rw [e]; exact hc
  · rw [e]; exact hu.re
  · rw [e]; exact hu'.re
def pairAt (l : List (Int × Int)) (i : Int) : Int × Int := l.getD i.toNat (0, 0)
theorem pairAt_of {l : List (Int × Int)} {i : Nat} {x : Int × Int} (h : l[i]? = some x) : l.getD i (0, 0) = x := by rw [List.getD_eq_getElem?_getD, h]; rfl
theorem pair_ix {w : World} {q : List Nat} {l : List (Int × Int)} {v : Value} {i : Int} {k : Value → Prop} (h : Sl kPair Any w q l v) (h0 : 0 ≤ i) (h1 : i < l.length)
    (hk : ∀ b o, Cells w b o [.int .i64 (pairAt l i).1, .int .i64 (pairAt l i).2] → k (.pointer (some ⟨b, o, none⟩))) : ixaT 2 v (.int .i64 i) k := by
  refine h.ix_of rfl h0 h1 (fun x b o es hx hK hc => ?_)
  have hes : es = [.int .i64 x.1, .int .i64 x.2] := hK
  subst hes
  have e : pairAt l i = x := pairAt_of hx
  refine hk b o ?_
  rw [e]; exact hc
def intAt (l : List Int) (i : Int) : Int := l.getD i.toNat 0
theorem intAt_of {l : List Int} {i : Nat} {x : Int} (h : l[i]? = some x) : l.getD i 0 = x := by rw [List.getD_eq_getElem?_getD, h]; rfl
theorem int_ix {w : World} {q : List Nat} {l : List Int} {v : Value} {i : Int} {k : Value → Prop} (h : Sl kInt Any w q l v) (h0 : 0 ≤ i) (h1 : i < l.length)
    (hk : ∀ b o, w.cell? ⟨b, o, none⟩ = some (.int .i64 (intAt l i)) → k (.pointer (some ⟨b, o, none⟩))) : ixaT 1 v (.int .i64 i) k := by
  refine h.ix_of rfl h0 h1 (fun x b o es hx hK hc => ?_)
  have hes : es = [.int .i64 x] := hK
  subst hes
  have e : intAt l i = x := intAt_of hx
  refine hk b o ?_
  rw [e]; simpa using hc.at 0 rfl
end Go.PT

/- What the reference asks of values, calls and what was said. -/
set_option linter.unusedVariables false
namespace Go.PT
attribute [local irreducible] ldT ldsT stT stsT allocT boxT bldT bslT nilT fadT ixaT fldT extT lenT pickT binT notT cviT opT opU condT clT clvT ivT loopT arT ndT World.cell? World.frozen? World.alloc World.drew World.setCell Blk Cells Sl
theorem c_specIn {a b c : Int} {w : World} {R : VW} (h : R (.bool (inB a b c)) w) : clT PR 150 [.int .i64 a, .int .i64 b, .int .i64 c] w R := by
  refine Fspec_l6In.cl ?_
  unfold Fspec_l6In
  repeat (((refine geq_of ?_)))
  refine condP_of (fun hc => ?_) (fun hc => ?_)
  · repeat (((refine leq_of ?_)))
    have : inB a b c = decide (a ≤ c) := by unfold inB; rw [decide_eq_true (show b ≤ a from hc), Bool.true_and]
    rw [← this]; exact h
  · have : inB a b c = false := by unfold inB; rw [decide_eq_false (show ¬ b ≤ a from hc), Bool.false_and]
    rw [← this]; exact h
theorem c_specVal {v : V} {n : Int} {w : World} {R : VW} (hn : 0 ≤ n) (hn' : n ≤ 1073741824) (hR : ∀ w', Ext w w' → R (.bool (valOk n v)) w') : clT PR 213 [.agg #[.int .i64 v.1, .int .i64 v.2], .int .i64 n] w R := by
  replace hR : ∀ w' b, Ext w w' → b = valOk n v → R (.bool b) w' := fun w' b e h => h ▸ hR w' e
  refine Fspec_l11Val.cl ?_
  unfold Fspec_l11Val
  refine box_of' (fun b1 w1 e1 hb1 (k1 : Blk w1 b1 [.int .i64 v.1, .int .i64 v.2]) => ?_)
  repeat' (first | (first | refine fad_of ?_ | refine eql_of ?_) | ((refine sub_of (by (omega)) (by (omega)) ?_)) | ((apply ld_of; (case h => iterate 14 (first | done | exact Blk.cell (by assumption) (by exact rfl))))) | ((fail)) | ((refine condP_of (fun _ => ?_) (fun _ => ?_))) | refine c_specIn ?_)
  all_goals exact hR _ _ (by iterate 20 (first | done | assumption)) (by unfold valOk; simp [*])
theorem c_specVals {l : List V} {u : Value} {n : Int} {w : World} {R : VW} (h : Sl kPair Any w [] l u) (hl : l.length ≤ 1073741824) (hn : 0 ≤ n) (hn' : n ≤ 1073741824) (hR : ∀ w', Ext w w' → R (.bool (valsOk n l)) w') :
    clT PR 214 [u, .int .i64 n] w R := by
  replace hR : ∀ w' b, Ext w w' → b = valsOk n l → R (.bool b) w' := fun w' b e h => h ▸ hR w' e
  refine Fspec_l11Vals.cl ?_
  unfold Fspec_l11Vals
  refine loop_of (fun m s w' => Ext w w' ∧ ∃ i : Nat, i + m = l.length ∧ s = [u, .int .i64 n, .bool false, .int .i64 i] ∧ valsOk n (l.take i) = true) ?_ (m := l.length) ⟨Fr.refl _ _, 0, by omega, rfl, rfl⟩
  rintro m s w' Kn ⟨he, i, hi, rfl, hok⟩ hKn
  intro _
  simp only [List.headD_cons, List.tail_cons]
  repeat (first | ((refine lss_of ?_)) | (refine Sl.len_of (by assumption) ?_))
  refine condP_of (fun hc => ?_) (fun hc => ?_)
  · have hil : i < l.length := by omega
    refine pair_ix (h.ext he) (by omega) (by omega) (fun b o hcell => ?_)
    repeat (((apply lds_of; (case h => iterate 14 (first | done | assumption)); (case hn => exact rfl))))
    have hx : l[i]? = some (pairAt l i) := by unfold pairAt; rw [Int.toNat_natCast, List.getD_eq_getElem?_getD, List.getElem?_eq_getElem hil]; rfl
    refine c_specVal hn hn' (fun w1 e1 => ?_)
    repeat (((refine not_of ?_)))
    refine condN_of (fun hf => ?_) (fun ht => ?_)
    · intro _
      refine hR _ _ (by iterate 20 (first | done | assumption | (apply fun h => Fr.trans h (by assumption)))) ?_
      symm
      unfold valsOk
      rw [List.all_eq_false]
      exact ⟨_, List.mem_of_getElem? hx, by rw [hf]; simp⟩
    · repeat (((refine add_of (by (omega)) (by (omega)) ?_)))
      refine hKn (m - 1) _ _ (by omega) ⟨by iterate 20 (first | done | assumption | (apply fun h => Fr.trans h (by assumption))), i + 1, by omega, rfl, ?_⟩
      unfold valsOk at hok ⊢
      rw [List.take_add_one, hx, List.all_append, hok]
      simp [ht]
  · intro _
    have hei : l.take i = l := List.take_of_length_le (by omega)
    rw [hei] at hok
    exact hR _ _ he hok.symm
end Go.PT

/- What the reference asks of calls, of chains of them, of what was said, and of programs. -/
set_option linter.unusedVariables false
set_option linter.unusedSimpArgs false
namespace Go.PT
attribute [local irreducible] ldT ldsT stT stsT allocT boxT bldT bslT nilT fadT ixaT fldT extT lenT pickT binT notT cviT opT opU condT clT clvT ivT loopT arT ndT World.cell? World.frozen? World.alloc World.drew World.setCell Blk Cells Sl
theorem c_specForm {p : Pg} {c : Cl} {n : Int} {w : World} {R : VW} {u ut us : Value} (hp : Sl kMeth Any w [] p u) (ht : Sl kPair Any w [] c.temps ut) (hs : Sl kPair Any w [] c.stack us) (hpl : p.length ≤ 1073741824) (htl : c.temps.length ≤ 1073741824)
    (hsl : c.stack.length ≤ 1073741824) (hn : 0 ≤ n) (hn' : n ≤ 1073741824) (hR : ∀ w', Ext w w' → R (.bool (form p n c)) w') :
    clT PR 152 [.agg #[u], .agg #[.int .i64 c.method, .int .i64 c.pc, ut, us, .int .i64 c.sender, .bool c.dead], .int .i64 n] w R := by
  replace hR : ∀ w' b, Ext w w' → b = form p n c → R (.bool b) w' := fun w' b e h => h ▸ hR w' e
  refine Fspec_l11Form.cl ?_
  unfold Fspec_l11Form
  refine box_of' (fun b1 w1 e1 hb1 (k1 : Blk w1 b1 [u]) => ?_)
  refine box_of' (fun b2 w2 e2 hb2 (k2 : Blk w2 b2 [.int .i64 c.method, .int .i64 c.pc, ut, us, .int .i64 c.sender, .bool c.dead]) => ?_)
  repeat' (first | (first | refine fad_of ?_ | refine gtr_of ?_ | refine eql_of ?_ | refine neq_of ?_ | refine not_of ?_) | ((refine sub_of (by (omega)) (by (omega)) ?_)) | ((apply ld_of; (case h => iterate 14 (first | done | exact Blk.cell (by assumption) (by exact rfl) | exact Cells.at (by assumption) _ (by exact rfl) | apply cell_drew | (apply Ext.cell (by assumption)))))) | (refine Sl.len_of (by assumption) ?_) | ((fail)) | (first | refine condNIn_of (fun _ => ?_) (fun _ => ?_) | refine condIn_of (fun _ => ?_) (fun _ => ?_) | refine condNe_of (fun _ => ?_) (fun _ => ?_) | refine condGt_of (fun _ => ?_) (fun _ => ?_) | refine condP_of (fun _ => ?_) (fun _ => ?_) | refine condN_of (fun _ => ?_) (fun _ => ?_) | refine cond_of (fun _ => ?_) (fun _ => ?_)) | refine c_specIn ?_ | refine meth_ix (by assumption) (by omega) (by omega) (fun _ _ _ _ _ => ?_) | refine c_specVals (by iterate 14 (first | done | assumption | apply Sl.drew | (apply fun h => Sl.ext h (by assumption)))) (by omega) (by omega) (by omega) (fun _ _ => ?_))
  all_goals exact hR _ _ (by iterate 20 (first | done | assumption | apply Fr.drew | (apply fun h => Fr.trans h (by assumption)))) (by unfold form; first | (simp [*, inB_t, inB_f]; done) | (simp [*, inB_t, inB_f]; intros; omega) | (simp [*, inB]; intros; omega))

theorem valOk_ne2 {n : Int} {v : V} (h : ¬ v.1 = 2) : valOk n v = valOk 0 v := by unfold valOk; simp [h]
/-- What was said: nothing, numbers, or methods. -/
theorem c_specSaid {p : Pg} {l : List V} {u us : Value} {w : World} {R : VW} (hp : Sl kMeth Any w [] p u) (hs : Sl kPair Any w [] l us) (hpl : p.length ≤ 1073741824) (hsl : l.length ≤ 1073741824) (hR : ∀ w', Ext w w' → R (.bool (saidOk p l)) w') :
    clT PR 151 [.agg #[u], us] w R := by
  refine Fspec_l11Said.cl ?_
  unfold Fspec_l11Said
  refine box_of' (fun b1 w1 e1 hb1 (k1 : Blk w1 b1 [u]) => ?_)
  refine loop_of (fun m s w' => Ext w1 w' ∧ ∃ i : Nat, i + m = l.length ∧ s = [us, .pointer (some ⟨b1, 0, none⟩), .bool false, .int .i64 i] ∧ saidOk p (l.take i) = true) ?_ (m := l.length) ⟨Fr.refl _ _, 0, by omega, rfl, rfl⟩
  rintro m s w' Kn ⟨he, i, hi, rfl, hok⟩ hKn
  intro _
  simp only [List.headD_cons, List.tail_cons]
  repeat (first | ((refine lss_of ?_)) | (refine Sl.len_of (by assumption) ?_))
  refine condLt_of (fun hc => ?_) (fun hc => ?_)
  · have hil : i < l.length := by omega
    refine pair_ix (i := (i : Int)) hs (by omega) (by omega) (fun b o hcell => ?_)
    have hx : l[i]? = some (pairAt l i) := by unfold pairAt; rw [Int.toNat_natCast, List.getD_eq_getElem?_getD, List.getElem?_eq_getElem hil]; rfl
    generalize pairAt l (i : Int) = v at hx hcell
    have he' : Ext w w' := e1.trans he
    apply lds_of
    case h => iterate 14 (first | done | assumption | (apply fun h => Cells.ext h (by assumption)))
    case hn => exact rfl
    refine al_of' (fun b2 w2 e2 hb2 k2 => ?_)
    refine sts_of' (vs := [.int .i64 v.1, .int .i64 v.2]) rfl k2 rfl rfl (by simp [Value.oneCell']) (fun w3 e3 k3 => ?_)
    have z1 := he.size
    have e4 : Ext w1 w3 := he.trans' (S' := fun x => x = b2) (e2.fr.trans e3) (fun _ _ h => h) (fun x hx e => by omega)
    have no : valOk p.length v = false → ∀ w', Ext w w' → R (.bool false) w' := fun hf w' e => by
      have : saidOk p l = false := by unfold saidOk; rw [List.all_eq_false]; exact ⟨_, List.mem_of_getElem? hx, by rw [hf]; simp⟩
      rw [← this]; exact hR w' e
    have yes : valOk p.length v = true → ∀ w', Ext w1 w' → Kn [us, .pointer (some ⟨b1, 0, none⟩), .bool false, .int .i64 ((i : Int) + 1)] w' := fun ht w' e => by
      refine hKn (m - 1) _ _ (by omega) ⟨e, i + 1, by omega, rfl, ?_⟩
      unfold saidOk at hok ⊢
      rw [List.take_add_one, hx, List.all_append, hok]
      simp [ht]
    clear e2 e3 hKn
    have e5 : Ext w w3 := e1.trans e4
    have k1' : Blk w3 b1 [u] := k1.ext e4
    repeat' (first | (first | refine fad_of ?_ | refine eql_of ?_ | refine neq_of ?_ | refine not_of ?_) | (first | refine add_of (by (omega)) (by (omega)) ?_ | refine sub_of (by (omega)) (by (omega)) ?_) | (first | (apply ld_of; (case h => iterate 14 (first | done | exact Blk.cell (by assumption) (by exact rfl)))) | (apply lds_of; (case h => iterate 14 (first | done | exact Blk.cells (by assumption))); (case hn => exact rfl))) | (refine Sl.len_of (by assumption) ?_) | (first | refine condP_t (by omega) ?_ | refine condP_f (by omega) ?_) | (first | refine condNIn_of (fun _ => ?_) (fun _ => ?_) | refine condP_of (fun _ => ?_) (fun _ => ?_) | refine condN_of (fun _ => ?_) (fun _ => ?_)) | refine c_specIn ?_ | refine c_specVal (v := v) (by omega) (by omega) (fun _ _ => ?_))
    all_goals first | (intro _; exact no (by first | (rw [valOk_ne2 (by omega)]; assumption) | (unfold valOk; (simp [*, inB_t, inB_f]; done))) _ (by iterate 20 (first | done | assumption | (apply fun h => Fr.trans h (by assumption))))) | exact yes (by first | (rw [valOk_ne2 (by omega)]; assumption) | (unfold valOk; (simp [*, inB_t, inB_f]; done))) _ (by iterate 20 (first | done | assumption | (apply fun h => Fr.trans h (by assumption))))
  · intro _
    have hei : l.take i = l := List.take_of_length_le (by omega)
    rw [hei] at hok
    have := hR _ (e1.trans he)
    rwa [hok] at this
end Go.PT

/- What the reference asks of operations, methods and programs. -/
set_option linter.unusedVariables false
set_option linter.unusedSimpArgs false
namespace Go.PT
attribute [local irreducible] ldT ldsT stT stsT allocT boxT bldT bslT nilT fadT ixaT fldT extT lenT pickT binT notT cviT opT opU condT clT clvT ivT loopT arT ndT World.cell? World.frozen? World.alloc World.drew World.setCell Blk Cells Sl
def opOk (p : Pg) (m : Meth) (op : Int × Int) : Bool :=
  if op.1 = 1 then inB op.2 0 99 else if op.1 = 2 ∨ op.1 = 3 then inB op.2 0 (m.temps - 1) else if op.1 = 7 ∨ op.1 = 8 then inB op.2 0 (m.ops.length - 1) else if op.1 = 9 then inB op.2 0 (p.length - 1) else
  if op.1 = 13 ∨ op.1 = 14 then inB op.2 0 3 else inB op.1 1 18 && decide (op.2 = 0)
def methOk (p : Pg) (m : Meth) : Bool := inB m.args 0 2 && (inB m.temps m.args 4 && (decide ((m.ops.length : Int) ≤ 14) && m.ops.all (opOk p m)))
def progOk (p : Pg) : Bool := inB p.length 1 4 && (decide ((methAt p 0).args = 0) && p.all (methOk p))
theorem c_specOp {p : Pg} {m : Meth} {op : Int × Int} {w : World} {R : VW} {u um : Value} (hp : Sl kMeth Any w [] p u) (hm : Sl kPair Any w [] m.ops um) (hpl : p.length ≤ 1073741824) (hml : m.ops.length ≤ 1073741824) (ht0 : 0 ≤ m.temps) (ht1 : m.temps ≤ 4)
    (hR : ∀ w', Ext w w' → R (.bool (opOk p m op)) w') : clT PR 255 [.agg #[u], .agg #[.int .i64 m.args, .int .i64 m.temps, um], .agg #[.int .i64 op.1, .int .i64 op.2]] w R := by
  replace hR : ∀ w' b, Ext w w' → b = opOk p m op → R (.bool b) w' := fun w' b e h => h ▸ hR w' e
  refine Fspec_l1Op.cl ?_
  unfold Fspec_l1Op
  refine box_of' (fun b1 w1 e1 hb1 (k1 : Blk w1 b1 [u]) => ?_)
  refine box_of' (fun b2 w2 e2 hb2 (k2 : Blk w2 b2 [.int .i64 m.args, .int .i64 m.temps, um]) => ?_)
  refine box_of' (fun b3 w3 e3 hb3 (k3 : Blk w3 b3 [.int .i64 op.1, .int .i64 op.2]) => ?_)
  repeat' (first | (first | refine fad_of ?_ | refine eql_of ?_) | ((refine sub_of (by (omega)) (by (omega)) ?_)) | ((apply ld_of; (case h => iterate 14 (first | done | exact Blk.cell (by assumption) (by exact rfl) | (apply Ext.cell (by assumption)))))) | (refine Sl.len_of (by assumption) ?_) | ((refine condP_t (by omega) ?_)) | (first | refine condIn_of (fun _ => ?_) (fun _ => ?_) | refine condP_of (fun _ => ?_) (fun _ => ?_)) | refine c_specIn ?_ | (first | (unfold Fspec_l1Op.j1; intro _) | (unfold Fspec_l1Op.j2; intro _) | (unfold Fspec_l1Op.j3; intro _) | (unfold Fspec_l1Op.j4; intro _) | (unfold Fspec_l1Op.j5; intro _) | (unfold Fspec_l1Op.j6; intro _)))
  all_goals exact hR _ _ (by iterate 20 (first | done | assumption | (apply fun h => Fr.trans h (by assumption)))) (by unfold opOk; (simp [*, inB_t, inB_f]; done))
theorem c_specMethod {p : Pg} {m : Meth} {w : World} {R : VW} {u um : Value} (hp : Sl kMeth Any w [] p u) (hm : Sl kPair Any w [] m.ops um) (hpl : p.length ≤ 1073741824) (hml : m.ops.length ≤ 1073741824)
    (hR : ∀ w', Ext w w' → R (.bool (methOk p m)) w') : clT PR 212 [.agg #[u], .agg #[.int .i64 m.args, .int .i64 m.temps, um]] w R := by
  replace hR : ∀ w' b, Ext w w' → b = methOk p m → R (.bool b) w' := fun w' b e h => h ▸ hR w' e
  refine Fspec_l1Method.cl ?_
  unfold Fspec_l1Method
  refine box_of' (fun b1 w1 e1 hb1 (k1 : Blk w1 b1 [u]) => ?_)
  refine box_of' (fun b2 w2 e2 hb2 (k2 : Blk w2 b2 [.int .i64 m.args, .int .i64 m.temps, um]) => ?_)
  repeat' (first | (first | refine fad_of ?_ | refine gtr_of ?_ | refine not_of ?_) | ((fail)) | ((apply ld_of; (case h => iterate 14 (first | done | exact Blk.cell (by assumption) (by exact rfl))))) | (refine Sl.len_of (by assumption) ?_) | ((fail)) | (first | refine condNIn_of (fun _ => ?_) (fun _ => ?_) | refine condGt_of (fun _ => ?_) (fun _ => ?_)) | refine c_specIn ?_)
  · exact hR _ _ (by iterate 20 (first | done | assumption | (apply fun h => Fr.trans h (by assumption)))) (by unfold methOk; (simp [*, inB_t, inB_f]; done))
  · exact hR _ _ (by iterate 20 (first | done | assumption | (apply fun h => Fr.trans h (by assumption)))) (by unfold methOk; (simp [*, inB_t, inB_f]; done))
  · exact hR _ _ (by iterate 20 (first | done | assumption | (apply fun h => Fr.trans h (by assumption)))) (by unfold methOk; (simp [*, inB_t, inB_f]; intros; omega))
  · rename_i h1 h2 h3
    refine loop_of (fun n s w' => Ext w2 w' ∧ ∃ i : Nat, i + n = m.ops.length ∧ s = [.pointer (some ⟨b1, 0, none⟩), .pointer (some ⟨b2, 0, none⟩), .bool false, .int .i64 i] ∧ (m.ops.take i).all (opOk p m) = true) ?_ (m := m.ops.length) ⟨Fr.refl _ _, 0, by omega, rfl, rfl⟩
    rintro n s w' Kn ⟨he, i, hi, rfl, hok⟩ hKn
    intro _
    simp only [List.headD_cons, List.tail_cons]
    repeat (first | (first | refine fad_of ?_ | refine lss_of ?_) | ((apply ld_of; (case h => iterate 14 (first | done | exact Blk.cell (by assumption) (by exact rfl) | (apply Ext.cell (by assumption)))))) | (refine Sl.len_of (by assumption) ?_))
    refine condLt_of (fun hc => ?_) (fun hc => ?_)
    · have hil : i < m.ops.length := by omega
      repeat (first | ((refine fad_of ?_)) | (first | (apply ld_of; (case h => iterate 14 (first | done | exact Blk.cell (by assumption) (by exact rfl) | apply cell_drew | (apply Ext.cell (by assumption))))) | (apply lds_of; (case h => iterate 14 (first | done | exact Blk.cells (by assumption) | apply Cells.drew | (apply fun h => Cells.ext h (by assumption)))); (case hn => exact rfl))))
      refine pair_ix (i := (i : Int)) hm (by omega) (by omega) (fun b o hcell => ?_)
      have hx : m.ops[i]? = some (pairAt m.ops i) := by unfold pairAt; rw [Int.toNat_natCast, List.getD_eq_getElem?_getD, List.getElem?_eq_getElem hil]; rfl
      generalize pairAt m.ops (i : Int) = v at hx hcell
      repeat (((apply lds_of; (case h => iterate 14 (first | done | assumption | apply Cells.drew | (apply fun h => Cells.ext h (by assumption)))); (case hn => exact rfl))))
      refine c_specOp (m := m) (op := v) (by iterate 14 (first | done | assumption | apply Sl.drew | (apply fun h => Sl.ext h (by assumption)))) (by iterate 14 (first | done | assumption | apply Sl.drew | (apply fun h => Sl.ext h (by assumption)))) (by omega) (by omega) (by omega) (by omega) (fun w3 e3 => ?_)
      repeat (((refine not_of ?_)))
      refine condN_of (fun hf => ?_) (fun ht => ?_)
      · intro _
        refine hR _ _ (by iterate 20 (first | done | assumption | apply Fr.drew | (apply fun h => Fr.trans h (by assumption)))) ?_
        have : m.ops.all (opOk p m) = false := by rw [List.all_eq_false]; exact ⟨_, List.mem_of_getElem? hx, by rw [hf]; simp⟩
        unfold methOk
        rw [this]; simp
      · repeat (((refine add_of (by (omega)) (by (omega)) ?_)))
        refine hKn (n - 1) _ _ (by omega) ⟨by iterate 20 (first | done | assumption | apply Fr.drew | (apply fun h => Fr.trans h (by assumption))), i + 1, by omega, rfl, ?_⟩
        rw [List.take_add_one, hx, List.all_append, hok]
        simp [ht]
    · intro _
      have hei : m.ops.take i = m.ops := List.take_of_length_le (by omega)
      rw [hei] at hok
      exact hR _ _ (by iterate 20 (first | done | assumption | (apply fun h => Fr.trans h (by assumption)))) (by unfold methOk; rw [hok]; (simp [*, inB_t, inB_f]; done))
theorem c_specProgOk {p : Pg} {w : World} {R : VW} {u : Value} (hp : Sl kMeth Any w [] p u) (hpl : p.length ≤ 1073741824) (hml : ∀ m ∈ p, m.ops.length ≤ 1073741824)
    (hR : ∀ w', Ext w w' → R (.bool (progOk p)) w') : clT PR 149 [.agg #[u]] w R := by
  replace hR : ∀ w' b, Ext w w' → b = progOk p → R (.bool b) w' := fun w' b e h => h ▸ hR w' e
  refine Fspec_ProgOk.cl ?_
  unfold Fspec_ProgOk
  refine box_of' (fun b1 w1 e1 hb1 (k1 : Blk w1 b1 [u]) => ?_)
  repeat' (first | (first | refine fad_of ?_ | refine neq_of ?_ | refine not_of ?_) | ((fail)) | ((apply ld_of; (case h => iterate 14 (first | done | exact Blk.cell (by assumption) (by exact rfl) | exact Cells.at (by assumption) _ (by exact rfl) | (apply Ext.cell (by assumption)))))) | (refine Sl.len_of (by assumption) ?_) | ((fail)) | (first | refine condNIn_of (fun _ => ?_) (fun _ => ?_) | refine condNe_of (fun _ => ?_) (fun _ => ?_)) | refine c_specIn ?_ | refine meth_ix (by assumption) (by omega) (by omega) (fun _ _ _ _ _ => ?_))
  · exact hR _ _ (by iterate 20 (first | done | assumption)) (by unfold progOk; (simp [*, inB_t, inB_f]; done))
  · exact hR _ _ (by iterate 20 (first | done | assumption)) (by unfold progOk; (simp [*, inB_t, inB_f]; done))
  · rename_i h1 b0 o0 u0 hc0 hs0 h2
    refine loop_of (fun n s w' => Ext w1 w' ∧ ∃ i : Nat, i + n = p.length ∧ s = [.pointer (some ⟨b1, 0, none⟩), .bool false, .int .i64 i] ∧ (p.take i).all (methOk p) = true) ?_ (m := p.length) ⟨Fr.refl _ _, 0, by omega, rfl, rfl⟩
    rintro n s w' Kn ⟨he, i, hi, rfl, hok⟩ hKn
    intro _
    simp only [List.headD_cons, List.tail_cons]
    repeat (first | (first | refine fad_of ?_ | refine lss_of ?_) | ((apply ld_of; (case h => iterate 14 (first | done | exact Blk.cell (by assumption) (by exact rfl) | (apply Ext.cell (by assumption)))))) | (refine Sl.len_of (by assumption) ?_))
    refine condLt_of (fun hc => ?_) (fun hc => ?_)
    · have hil : i < p.length := by omega
      repeat (first | ((refine fad_of ?_)) | (first | (apply ld_of; (case h => iterate 14 (first | done | exact Blk.cell (by assumption) (by exact rfl) | apply cell_drew | (apply Ext.cell (by assumption))))) | (apply lds_of; (case h => iterate 14 (first | done | exact Blk.cells (by assumption) | apply Cells.drew | (apply fun h => Cells.ext h (by assumption)))); (case hn => exact rfl))))
      refine meth_ix (i := (i : Int)) hp (by omega) (by omega) (fun b o um hcell hm => ?_)
      have hx : p[i]? = some (methAt p i) := by unfold methAt; rw [Int.toNat_natCast, List.getD_eq_getElem?_getD, List.getElem?_eq_getElem hil]; rfl
      generalize methAt p (i : Int) = v at hx hcell hm
      repeat (((apply lds_of; (case h => iterate 14 (first | done | assumption | apply Cells.drew | (apply fun h => Cells.ext h (by assumption)))); (case hn => exact rfl))))
      refine c_specMethod (m := v) (by iterate 14 (first | done | assumption | apply Sl.drew | (apply fun h => Sl.ext h (by assumption)))) (by iterate 14 (first | done | assumption | apply Sl.drew | (apply fun h => Sl.ext h (by assumption)))) (by omega) (hml _ (List.mem_of_getElem? hx)) (fun w3 e3 => ?_)
      repeat (((refine not_of ?_)))
      refine condN_of (fun hf => ?_) (fun ht => ?_)
      · intro _
        refine hR _ _ (by iterate 20 (first | done | assumption | apply Fr.drew | (apply fun h => Fr.trans h (by assumption)))) ?_
        have : p.all (methOk p) = false := by rw [List.all_eq_false]; exact ⟨_, List.mem_of_getElem? hx, by rw [hf]; simp⟩
        unfold progOk
        rw [this]; simp
      · repeat (((refine add_of (by (omega)) (by (omega)) ?_)))
        refine hKn (n - 1) _ _ (by omega) ⟨by iterate 20 (first | done | assumption | apply Fr.drew | (apply fun h => Fr.trans h (by assumption))), i + 1, by omega, rfl, ?_⟩
        rw [List.take_add_one, hx, List.all_append, hok]
        simp [ht]
    · intro _
      have hei : p.take i = p := List.take_of_length_le (by omega)
      rw [hei] at hok
      exact hR _ _ (by iterate 20 (first | done | assumption | (apply fun h => Fr.trans h (by assumption)))) (by unfold progOk; rw [hok]; (simp [*, inB_t, inB_f]; done))
end Go.PT

/- What the reference asks of heaps: the chain of those that wait for one another. -/
set_option linter.unusedVariables false
set_option linter.unusedSimpArgs false
namespace Go.PT
attribute [local irreducible] ldT ldsT stT stsT allocT boxT bldT bslT nilT fadT ixaT fldT extT lenT pickT binT notT cviT opT opU condT clT clvT ivT loopT arT ndT World.cell? World.frozen? World.alloc World.drew World.setCell Blk Cells Sl
/-- The calls that wait for one another, so many more at most. -/
def chainS (cs : List Cl) : Nat → List Int → Int → List Int
  | 0, out, at' => if at' < 0 then out else []
  | k + 1, out, at' => if at' < 0 then out else if cs.length ≤ at' then [] else if (callAt cs at').dead then [] else chainS cs k (out ++ [at']) (callAt cs at').sender
def chain (h : Hp) : List Int := chainS h.calls h.calls.length [] h.now
structure HeapV (w : World) (h : Hp) (uc us : Value) : Prop where
  calls : Sl kCall Any w [] h.calls uc
  said : Sl kPair Any w [] h.said us
  n : h.calls.length ≤ 1073741824
  nt : ∀ c ∈ h.calls, c.temps.length ≤ 1073741824 ∧ c.stack.length ≤ 1073741824
  ns : h.said.length ≤ 1073741824
def heapCells (h : Hp) (uc us : Value) : List Value := [uc, .int .i64 h.now, .int .i64 h.born, us, .int .i64 h.code]
theorem c_specChain {h : Hp} {w : World} {R : VW} {uc us : Value} (hh : HeapV w h uc us)
    (hR : ∀ w' v, Ext w w' → Sl kInt Any w' [] (chain h) v → R v w') : clT PR 153 [.agg #[uc, .int .i64 h.now, .int .i64 h.born, us, .int .i64 h.code]] w R := by
  refine Fspec_l11Chain.cl ?_
  unfold Fspec_l11Chain
  have hn := hh.n
  have hS := hh.calls
  refine box_of' (fun b1 w1 e1 hb1 (k1 : Blk w1 b1 [uc, .int .i64 h.now, .int .i64 h.born, us, .int .i64 h.code]) => ?_)
  refine bsl_of' rfl rfl rfl (fun b2 w2 e2 hb2 k2 => ?_)
  repeat (first | ((refine fad_of ?_)) | ((apply ld_of; (case h => iterate 14 (first | done | exact Blk.cell (by assumption) (by exact rfl) | (apply Ext.cell (by assumption)))))))
  refine loop_of (fun m s wx => ∃ out v L a, s = [.pointer (some ⟨b1, 0, none⟩), .slice none 0 0, v, .int .i64 a] ∧ out.length + m = h.calls.length ∧ Ext w1 wx ∧ Sl kInt (Own L) wx [] out v ∧ Born w1 L ∧ Lim L wx ∧ chain h = chainS h.calls m out a) ?_ (m := h.calls.length)
    ⟨[], _, lab1 b2 [], h.now, rfl, by simp, e2, sl_empty k2, lab1_born hb2, lab1_lim k2.lt, rfl⟩
  rintro m s wx Kn ⟨out, v, L, a, rfl, hm, he, hO, hbn, hlm, hch⟩ hKn
  intro _
  simp only [List.headD_cons, List.tail_cons]
  repeat (((refine geq_of ?_)))
  refine condGe_of (fun ha => ?_) (fun ha => ?_)
  · have stop : chain h = [] → ∀ {w3 : World} {b : Nat}, Ext wx w3 → Blk w3 b [] → Fspec_l11Chain.r3 (.pointer (some ⟨b1, 0, none⟩)) (.slice (some ⟨b, 0, none⟩) 0 0) v (.int .i64 a) w3 R := by
      intro hc w3 b e hk
      intro _
      refine hR _ _ ((e1.trans he).trans e) ?_
      rw [hc]
      exact Sl.fresh (ok := Any) hk.lt
    repeat (first | (first | refine fad_of ?_ | refine geq_of ?_) | ((apply ld_of; (case h => iterate 14 (first | done | exact Blk.cell (by assumption) (by exact rfl) | (apply Ext.cell (by assumption)))))) | (refine Sl.len_of (by assumption) ?_))
    refine condGe_of (fun hl => ?_) (fun hl => ?_)
    · refine bsl_of' rfl rfl rfl (fun b3 w3 e3 hb3 k3 => ?_)
      have hm0 : m = 0 := by omega
      subst hm0
      exact stop (by rw [hch]; unfold chainS; rw [if_neg (by omega)]) e3 k3
    · obtain ⟨m, rfl⟩ : ∃ k, m = k + 1 := ⟨m - 1, by omega⟩
      have step := hch
      unfold chainS at step
      rw [if_neg (by omega)] at step
      repeat (first | (first | refine fad_of ?_ | refine geq_of ?_) | ((apply ld_of; (case h => iterate 14 (first | done | exact Blk.cell (by assumption) (by exact rfl) | (apply Ext.cell (by assumption)))))) | (refine Sl.len_of (by assumption) ?_))
      refine condGe_of (fun hl2 => ?_) (fun hl2 => ?_)
      · refine bsl_of' rfl rfl rfl (fun b3 w3 e3 hb3 k3 => ?_)
        exact stop (by rw [step, if_pos hl2]) e3 k3
      · rw [if_neg (by omega)] at step
        repeat (first | ((refine fad_of ?_)) | ((apply ld_of; (case h => iterate 14 (first | done | exact Blk.cell (by assumption) (by exact rfl) | (apply Ext.cell (by assumption)))))))
        refine call_ix hS (by omega) (by omega) (fun b o u u' hcell hu hu' => ?_)
        have hew : Ext w wx := e1.trans he
        repeat (first | ((refine fad_of ?_)) | ((apply ld_of; (case h => iterate 14 (first | done | exact Cells.at (by assumption) _ (by exact rfl) | (apply Ext.cell (by assumption)))))))
        refine cond_of (fun hd => ?_) (fun hd => ?_)
        · refine bsl_of' rfl rfl rfl (fun b3 w3 e3 hb3 k3 => ?_)
          exact stop (by rw [step, hd]; rfl) e3 k3
        · rw [hd] at step
          refine bsl_of' rfl rfl rfl (fun b3 w3 e3 hb3 k3 => ?_)
          refine app_lit (f := fun n => [Value.int .i64 n]) [a] (e := 3) (by kernel_rfl) (hO.keepX e3) k3 rfl (by simp; omega) (hlm.fr e3) (fun v' w' L' ef hlx hlm2 hO2 => ?_)
          have z1 := he.size
          have z3 := e3.size
          have e4 : Ext w1 w' := (he.trans e3).trans' ef (fun _ _ h => h) (fun x hx hLx => by have := hbn x _ hLx; omega)
          clear hew ef
          repeat (first | ((refine fad_of ?_)) | ((apply ld_of; (case h => iterate 14 (first | done | exact Blk.cell (by assumption) (by exact rfl) | (apply Ext.cell (by assumption)))))))
          refine call_ix hS (by omega) (by omega) (fun b o u u' hcell hu hu' => ?_)
          repeat (first | ((refine fad_of ?_)) | ((apply ld_of; (case h => iterate 14 (first | done | exact Cells.at (by assumption) _ (by exact rfl) | (apply Ext.cell (by assumption)))))))
          exact hKn m _ _ (by omega) ⟨out ++ [a], v', L', _, rfl, by simp; omega, e4, hO2, hbn.lx hlx (by omega), hlm2, by simpa using step⟩
  · intro _
    have : chain h = out := by rw [hch]; cases m <;> (unfold chainS; rw [if_pos ha])
    exact hR _ _ (e1.trans he) (by rw [this]; exact hO.any)
end Go.PT

/- What the reference asks of heaps. -/
set_option linter.unusedVariables false
set_option linter.unusedSimpArgs false
namespace Go.PT
attribute [local irreducible] ldT ldsT stT stsT allocT boxT bldT bslT nilT fadT ixaT fldT extT lenT pickT binT notT cviT opT opU condT clT clvT ivT loopT arT ndT World.cell? World.frozen? World.alloc World.drew World.setCell Blk Cells Sl
theorem chainS_range {cs : List Cl} : ∀ (k : Nat) (out : List Int) (a : Int), (∀ x ∈ out, 0 ≤ x ∧ x < cs.length) → ∀ x ∈ chainS cs k out a, 0 ≤ x ∧ x < cs.length
  | 0, out, a, h, x, hx => by
    unfold chainS at hx
    split at hx
    · exact h x hx
    · simp at hx
  | k + 1, out, a, h, x, hx => by
    unfold chainS at hx
    split at hx
    · exact h x hx
    · split at hx
      · simp at hx
      · split at hx
        · simp at hx
        · refine chainS_range k _ _ (fun y hy => ?_) x hx
          rcases List.mem_append.mp hy with hy | hy
          · exact h y hy
          · rw [List.mem_singleton.mp hy]; omega
theorem chain_range (h : Hp) : ∀ x ∈ chain h, 0 ≤ x ∧ x < h.calls.length := chainS_range _ _ _ (by simp)
def room (h : Hp) (i : Int) : Bool := decide (((callAt h.calls i).stack.length : Int) < 6)
def wait (h : Hp) : Bool := (chain h).tail.all (room h)
def liveN (cs : List Cl) : Int := (cs.filter (fun c => !c.dead)).length
def heapOk (p : Pg) (h : Hp) : Bool :=
  progOk p && (inB h.now (-1) (h.calls.length - 1) && (inB h.born 1 30 && (decide ((h.calls.length : Int) ≤ h.born) && (inB h.code 0 3 && (saidOk p h.said && ((decide (h.code = 1) == decide (h.now < 0)) &&
    (h.calls.all (form p h.calls.length) && ((decide (h.now < 0) || !(callAt h.calls h.now).dead) && (decide (((chain h).length : Int) = liveN h.calls) && wait h)))))))))
theorem HeapV.ext {w w' : World} {h : Hp} {uc us : Value} (hh : HeapV w h uc us) (e : Ext w w') : HeapV w' h uc us := ⟨hh.calls.ext e, hh.said.ext e, hh.n, hh.nt, hh.ns⟩
theorem c_specWait {h : Hp} {w : World} {R : VW} {uc us : Value} (hh : HeapV w h uc us)
    (hR : ∀ w', Ext w w' → R (.bool (wait h)) w') : clT PR 154 [.agg #[uc, .int .i64 h.now, .int .i64 h.born, us, .int .i64 h.code]] w R := by
  replace hR : ∀ w' b, Ext w w' → b = wait h → R (.bool b) w' := fun w' b e h => h ▸ hR w' e
  refine Fspec_l11Wait.cl ?_
  unfold Fspec_l11Wait
  have hn := hh.n
  have hS := hh.calls
  refine box_of' (fun b1 w1 e1 hb1 (k1 : Blk w1 b1 [uc, .int .i64 h.now, .int .i64 h.born, us, .int .i64 h.code]) => ?_)
  repeat (((apply lds_of; (case h => iterate 14 (first | done | exact Blk.cells (by assumption))); (case hn => exact rfl))))
  refine c_specChain (hh.ext e1) (fun w2 v e2 hv => ?_)
  have hcl : (chain h).length ≤ h.calls.length := by
    have : ∀ (k : Nat) (out : List Int) (a : Int), (chainS h.calls k out a).length ≤ out.length + k := by
      intro k
      induction k with
      | zero => intro out a; unfold chainS; split <;> simp
      | succ k ih =>
        intro out a
        unfold chainS
        split
        · omega
        · split
          · simp
          · split
            · simp
            · have := ih (out ++ [a]) (callAt h.calls a).sender
              simp at this ⊢; omega
    have := this h.calls.length [] h.now
    simpa [chain] using this
  have hcr := chain_range h
  refine loop_of (fun m s wx => Ext w2 wx ∧ ∃ i : Nat, 1 ≤ i ∧ (i + m = (chain h).length ∨ (m = 0 ∧ i = 1 ∧ chain h = [])) ∧ s = [.pointer (some ⟨b1, 0, none⟩), .bool false, v, .int .i64 i] ∧ ((chain h).take i).tail.all (room h) = true) ?_ (m := (chain h).length - 1)
    ⟨Fr.refl _ _, 1, by omega, by
      cases hc : chain h with
      | nil => right; simp
      | cons a l => left; simp; omega, rfl, by cases chain h <;> simp⟩
  rintro m s wx Kn ⟨he, i, hi1, hi, rfl, hok⟩ hKn
  intro _
  simp only [List.headD_cons, List.tail_cons]
  repeat (first | ((refine lss_of ?_)) | (refine Sl.len_of (by assumption) ?_))
  refine condLt_of (fun hc => ?_) (fun hc => ?_)
  · have hil : i < (chain h).length := by omega
    have hi : i + m = (chain h).length := by
      rcases hi with h1 | ⟨_, _, h3⟩
      · exact h1
      · rw [h3] at hil; simp at hil
    have hx : (chain h)[i]? = some (intAt (chain h) i) := by unfold intAt; rw [Int.toNat_natCast, List.getD_eq_getElem?_getD, List.getElem?_eq_getElem hil]; rfl
    have hr := hcr _ (List.mem_of_getElem? hx)
    repeat (first | ((refine fad_of ?_)) | ((apply ld_of; (case h => iterate 14 (first | done | exact Blk.cell (by assumption) (by exact rfl) | apply cell_drew | (apply Ext.cell (by assumption)))))))
    refine int_ix (i := (i : Int)) hv (by omega) (by omega) (fun b o hcell => ?_)
    generalize intAt (chain h) (i : Int) = a at hx hr hcell
    repeat (((apply ld_of; (case h => iterate 14 (first | done | assumption | apply cell_drew | (apply Ext.cell (by assumption)))))))
    refine call_ix hS (by omega) (by omega) (fun b o u u' hcell hu hu' => ?_)
    repeat (first | (first | refine fad_of ?_ | refine geq_of ?_) | ((apply ld_of; (case h => iterate 14 (first | done | exact Cells.at (by assumption) _ (by exact rfl) | apply cell_drew | (apply Ext.cell (by assumption)))))) | (refine Sl.len_of (by assumption) ?_))
    refine condGe_of (fun hg => ?_) (fun hg => ?_)
    · intro _
      refine hR _ _ (by iterate 20 (first | done | assumption | apply Fr.drew | (apply fun h => Fr.trans h (by assumption)))) ?_
      symm
      unfold wait
      rw [List.all_eq_false]
      refine ⟨a, ?_, by unfold room; simp; omega⟩
      have : (chain h).tail[i - 1]? = some a := by rw [List.getElem?_tail, show i - 1 + 1 = i by omega]; exact hx
      exact List.mem_of_getElem? this
    · repeat (((refine add_of (by (omega)) (by (omega)) ?_)))
      refine hKn (m - 1) _ _ (by omega) ⟨by iterate 20 (first | done | assumption | apply Fr.drew), i + 1, by omega, .inl (by omega), rfl, ?_⟩
      rw [List.take_add_one, hx]
      rw [List.tail_append_of_ne_nil (by intro h0; have h9 := congrArg List.length h0; rw [List.length_take, List.length_nil] at h9; omega), List.all_append, hok]
      simp [room]; omega
  · intro _
    refine hR _ _ (by iterate 20 (first | done | assumption | (apply fun h => Fr.trans h (by assumption)))) ?_
    have : (chain h).take i = chain h := List.take_of_length_le (by omega)
    rw [this] at hok
    exact hok.symm
theorem c_specHeapOk {p : Pg} {h : Hp} {w : World} {R : VW} {u uc us : Value} (hp : Sl kMeth Any w [] p u) (hpl : p.length ≤ 1073741824) (hml : ∀ m ∈ p, m.ops.length ≤ 1073741824) (hh : HeapV w h uc us)
    (hR : ∀ w', Ext w w' → R (.bool (heapOk p h)) w') : clT PR 66 [.agg #[u], .agg #[uc, .int .i64 h.now, .int .i64 h.born, us, .int .i64 h.code]] w R := by
  replace hR : ∀ w' b, Ext w w' → b = heapOk p h → R (.bool b) w' := fun w' b e h => h ▸ hR w' e
  refine Fspec_HeapOk.cl ?_
  unfold Fspec_HeapOk
  have hn := hh.n
  have hS := hh.calls
  have hD := hh.said
  have hns := hh.ns
  refine box_of' (fun b1 w1 e1 hb1 (k1 : Blk w1 b1 [u]) => ?_)
  refine box_of' (fun b2 w2 e2 hb2 (k2 : Blk w2 b2 [uc, .int .i64 h.now, .int .i64 h.born, us, .int .i64 h.code]) => ?_)
  repeat' (first | (first | refine fad_of ?_ | refine lss_of ?_ | refine gtr_of ?_ | refine eql_of ?_ | refine not_of ?_) | ((refine sub_of (by (omega)) (by (omega)) ?_)) | (first | (apply ld_of; (case h => iterate 14 (first | done | exact Blk.cell (by assumption) (by exact rfl) | (apply Ext.cell (by assumption))))) | (apply lds_of; (case h => iterate 14 (first | done | exact Blk.cells (by assumption) | (apply fun h => Cells.ext h (by assumption)))); (case hn => exact rfl))) | (refine Sl.len_of (by assumption) ?_) | ((fail)) | (first | refine condNIn_of (fun _ => ?_) (fun _ => ?_) | refine condGt_of (fun _ => ?_) (fun _ => ?_) | refine condN_of (fun _ => ?_) (fun _ => ?_)) | refine c_specIn ?_ | refine c_specProgOk (by iterate 14 (first | done | assumption | (apply fun h => Sl.ext h (by assumption)))) (by assumption) (by assumption) (fun _ _ => ?_) | refine c_specSaid (by iterate 14 (first | done | assumption | (apply fun h => Sl.ext h (by assumption)))) (by iterate 14 (first | done | assumption | (apply fun h => Sl.ext h (by assumption)))) (by omega) (by omega) (fun _ _ => ?_) | refine neqB_of (by kernel_rfl) ?_)
  any_goals exact hR _ _ (by iterate 20 (first | done | assumption | (apply fun h => Fr.trans h (by assumption)))) (by unfold heapOk; first | (simp [*, inB_t, inB_f]; done) | (simp [*, inB_t, inB_f]; intros; omega))
  · rename_i w3 e3 h1 h2 h3 h4 h5 w4 e4 h6 h7
    have pre : ∀ b, heapOk p h = b ↔ (h.calls.all (form p h.calls.length) && ((decide (h.now < 0) || !(callAt h.calls h.now).dead) && (decide (((chain h).length : Int) = liveN h.calls) && wait h))) = b := by
      intro b
      unfold heapOk
      rw [h1, inB_t h2.1 h2.2, inB_t h3.1 h3.2, decide_eq_true h4, inB_t h5.1 h5.2, h6, h7]
      simp only [Bool.true_and]
    replace hR : ∀ w' b, Ext w w' → (h.calls.all (form p h.calls.length) && ((decide (h.now < 0) || !(callAt h.calls h.now).dead) && (decide (((chain h).length : Int) = liveN h.calls) && wait h))) = b → R (.bool b) w' := fun w' b e hb => hR w' b e ((pre b).mpr hb).symm
    clear pre
    have e5 : Ext w2 w4 := e3.trans e4
    clear e3 e4
    refine loop_of (fun m s w' => Ext w4 w' ∧ ∃ i : Nat, i + m = h.calls.length ∧ s = [.pointer (some ⟨b1, 0, none⟩), .pointer (some ⟨b2, 0, none⟩), .bool false, .int .i64 h.calls.length, .int .i64 (liveN (h.calls.take i)), .int .i64 i] ∧ (h.calls.take i).all (form p h.calls.length) = true) ?_
      (m := h.calls.length) ⟨Fr.refl _ _, 0, by omega, rfl, rfl⟩
    rintro m s w' Kn ⟨he, i, hi, rfl, hok⟩ hKn
    intro _
    simp only [List.headD_cons, List.tail_cons]
    have hlv : 0 ≤ liveN (h.calls.take i) ∧ liveN (h.calls.take i) ≤ i := by
      unfold liveN
      have h1 := List.length_filter_le (fun c : Cl => !c.dead) (h.calls.take i)
      have h2 : (h.calls.take i).length ≤ i := by rw [List.length_take]; omega
      omega
    repeat (((refine lss_of ?_)))
    refine condLt_of (fun hc => ?_) (fun hc => ?_)
    · have hil : i < h.calls.length := by omega
      have hx : h.calls[i]? = some (callAt h.calls i) := by unfold callAt; rw [Int.toNat_natCast, List.getD_eq_getElem?_getD, List.getElem?_eq_getElem hil]; rfl
      repeat (first | ((refine fad_of ?_)) | (first | (apply ld_of; (case h => iterate 14 (first | done | exact Blk.cell (by assumption) (by exact rfl) | apply cell_drew | (apply Ext.cell (by assumption))))) | (apply lds_of; (case h => iterate 14 (first | done | exact Blk.cells (by assumption) | apply Cells.drew | (apply fun h => Cells.ext h (by assumption)))); (case hn => exact rfl))))
      refine call_ix (i := (i : Int)) hS (by omega) (by omega) (fun b o u1 u2 hcell hu1 hu2 => ?_)
      repeat (((apply lds_of; (case h => iterate 14 (first | done | assumption | apply Cells.drew | (apply fun h => Cells.ext h (by assumption)))); (case hn => exact rfl))))
      have hnt := hh.nt _ (List.mem_of_getElem? hx)
      refine c_specForm (c := callAt h.calls i) (by iterate 14 (first | done | assumption | apply Sl.drew | (apply fun h => Sl.ext h (by assumption)))) (by iterate 14 (first | done | assumption | apply Sl.drew | (apply fun h => Sl.ext h (by assumption)))) (by iterate 14 (first | done | assumption | apply Sl.drew | (apply fun h => Sl.ext h (by assumption)))) (by omega) (by omega) (by omega) (by omega) (by omega) (fun w5 e6 => ?_)
      repeat (((refine not_of ?_)))
      refine condN_of (fun hf => ?_) (fun ht => ?_)
      · intro _
        refine hR _ _ (by iterate 20 (first | done | assumption | apply Fr.drew | (apply fun h => Fr.trans h (by assumption)))) ?_
        have : h.calls.all (form p h.calls.length) = false := by rw [List.all_eq_false]; exact ⟨_, List.mem_of_getElem? hx, by rw [hf]; simp⟩
        rw [this]; rfl
      · repeat (first | ((refine fad_of ?_)) | ((apply ld_of; (case h => iterate 14 (first | done | exact Blk.cell (by assumption) (by exact rfl) | apply cell_drew | (apply Ext.cell (by assumption)))))))
        refine call_ix (i := (i : Int)) hS (by omega) (by omega) (fun b o u1 u2 hcell hu1 hu2 => ?_)
        have hok' : (h.calls.take (i + 1)).all (form p h.calls.length) = true := by rw [List.take_add_one, hx, List.all_append, hok]; simp [ht]
        have hlive : ∀ d, (callAt h.calls i).dead = d → liveN (h.calls.take (i + 1)) = liveN (h.calls.take i) + (if d then 0 else 1) := by
          intro d hd
          unfold liveN
          rw [List.take_add_one, hx, List.filter_append, List.length_append]
          cases d <;> simp [hd]
        repeat (first | (first | refine fad_of ?_ | refine not_of ?_) | ((apply ld_of; (case h => iterate 14 (first | done | exact Cells.at (by assumption) _ (by exact rfl) | apply cell_drew | (apply Ext.cell (by assumption)))))))
        refine condN_of (fun hd => ?_) (fun hd => ?_)
        · have := hlive _ hd
          repeat (((refine add_of (by (omega)) (by (omega)) ?_)))
          refine hKn (m - 1) _ _ (by omega) ⟨by iterate 20 (first | done | assumption | apply Fr.drew | (apply fun h => Fr.trans h (by assumption))), i + 1, by omega, ?_, hok'⟩
          rw [this]; rfl
        · have := hlive _ hd
          repeat (((refine add_of (by (omega)) (by (omega)) ?_)))
          refine hKn (m - 1) _ _ (by omega) ⟨by iterate 20 (first | done | assumption | apply Fr.drew | (apply fun h => Fr.trans h (by assumption))), i + 1, by omega, ?_, hok'⟩
          rw [this]; simp
    · intro _
      have hei : h.calls.take i = h.calls := List.take_of_length_le (by omega)
      rw [hei] at hok ⊢
      rw [hok] at hR
      clear hKn
      have hW : HeapV w' h uc us := hh.ext (by iterate 20 (first | done | assumption | (apply fun h => Fr.trans h (by assumption))))
      have fin : (decide (h.now < 0) || !(callAt h.calls h.now).dead) = true → ∀ {w' : World}, Ext w4 w' → clT PR 153 [.agg #[uc, .int .i64 h.now, .int .i64 h.born, us, .int .i64 h.code]] w' fun t94 w12 =>
          lenT t94 fun t95 => binT .eql t95 (.int .i64 (liveN h.calls)) fun t97 => condT t97 (ldsT 5 (.pointer (some ⟨b2, 0, none⟩)) w12 fun t100 => clT PR 154 [t100] w12 fun t101 w13 => R t101 w13) (R (.bool false) w12) := by
        intro hd w' he
        rw [hd] at hR
        refine c_specChain (hh.ext (by iterate 20 (first | done | assumption | (apply fun h => Fr.trans h (by assumption))))) (fun w6 v e6 hv => ?_)
        repeat (first | ((refine eql_of ?_)) | (refine Sl.len_of (by assumption) ?_))
        refine condP_of (fun hl => ?_) (fun hl => ?_)
        · repeat (((apply lds_of; (case h => iterate 14 (first | done | exact Blk.cells (by assumption) | (apply fun h => Cells.ext h (by assumption)))); (case hn => exact rfl))))
          refine c_specWait (hh.ext (by iterate 20 (first | done | assumption | (apply fun h => Fr.trans h (by assumption))))) (fun w7 e7 => ?_)
          refine hR _ _ (by iterate 20 (first | done | assumption | (apply fun h => Fr.trans h (by assumption)))) ?_
          rw [decide_eq_true hl]; simp
        · refine hR _ _ (by iterate 20 (first | done | assumption | (apply fun h => Fr.trans h (by assumption)))) ?_
          rw [decide_eq_false hl]; simp
      repeat (first | (first | refine fad_of ?_ | refine lss_of ?_) | ((apply ld_of; (case h => iterate 14 (first | done | exact Blk.cell (by assumption) (by exact rfl) | (apply Ext.cell (by assumption)))))))
      refine condLt_of (fun hneg => ?_) (fun hneg => ?_)
      · repeat (((apply lds_of; (case h => iterate 14 (first | done | exact Blk.cells (by assumption) | (apply fun h => Cells.ext h (by assumption)))); (case hn => exact rfl))))
        exact fin (by rw [decide_eq_true hneg]; rfl) he
      · repeat (first | ((refine fad_of ?_)) | ((apply ld_of; (case h => iterate 14 (first | done | exact Blk.cell (by assumption) (by exact rfl) | (apply Ext.cell (by assumption)))))))
        refine call_ix hS (by omega) (by omega) (fun b o u1 u2 hcell hu1 hu2 => ?_)
        repeat (first | (first | refine fad_of ?_ | refine not_of ?_) | ((apply ld_of; (case h => iterate 14 (first | done | exact Cells.at (by assumption) _ (by exact rfl) | (apply Ext.cell (by assumption)))))))
        refine condN_of (fun hd => ?_) (fun hd => ?_)
        · repeat (((apply lds_of; (case h => iterate 14 (first | done | exact Blk.cells (by assumption) | (apply fun h => Cells.ext h (by assumption)))); (case hn => exact rfl))))
          exact fin (by rw [hd]; simp) he
        · refine hR _ _ (by iterate 20 (first | done | assumption | (apply fun h => Fr.trans h (by assumption)))) ?_
          rw [hd, decide_eq_false (by omega : ¬ h.now < 0)]; rfl
end Go.PT

/- The chain of those that wait, as a path along the callers: the two ways to ask for it say the same. -/
set_option linter.unusedVariables false
set_option linter.unusedSimpArgs false
namespace Go.PT
def pathF (cs : List Cl) : Nat → Int → Option (List Int)
  | 0, a => if a < 0 then some [] else none
  | k + 1, a => if a < 0 then some [] else if (callAt cs a).dead then none else (pathF cs k (callAt cs a).sender).map (a :: ·)
def walkI (cs : List Cl) (now : Int) : Nat → Int → Bool
  | 0, a => decide (a < 0)
  | k + 1, a => if a < 0 then false else if (callAt cs a).dead then false else if a ≠ now ∧ ((callAt cs a).stack.length : Int) = 6 then false else walkI cs now k (callAt cs a).sender
theorem chainS_path {cs : List Cl} (hs : ∀ c ∈ cs, c.sender < cs.length) : ∀ (k : Nat) (out : List Int) (a : Int), a < cs.length → chainS cs k out a = match pathF cs k a with | some l => out ++ l | none => []
  | 0, out, a, ha => by
    unfold chainS pathF
    split <;> simp
  | k + 1, out, a, ha => by
    unfold chainS pathF
    split
    · simp
    · rename_i h0
      rw [if_neg (by omega)]
      split
      · rfl
      · have hmem : callAt cs a ∈ cs := by
          unfold callAt
          rw [List.getD_eq_getElem?_getD, List.getElem?_eq_getElem (by omega)]
          exact List.getElem_mem _
        rw [chainS_path hs k _ _ (hs _ hmem)]
        cases pathF cs k (callAt cs a).sender <;> simp
theorem pathF_len {cs : List Cl} : ∀ (k : Nat) (a : Int) (l : List Int), pathF cs k a = some l → l.length ≤ k ∧ ∀ k', l.length ≤ k' → pathF cs k' a = some l
  | 0, a, l, h => by
    unfold pathF at h
    split at h
    · rename_i h0
      injection h with h
      subst h
      exact ⟨Nat.le_refl _, fun k' _ => by cases k' <;> (unfold pathF; rw [if_pos h0])⟩
    · cases h
  | k + 1, a, l, h => by
    unfold pathF at h
    split at h
    · rename_i h0
      injection h with h
      subst h
      exact ⟨Nat.zero_le _, fun k' _ => by cases k' <;> (unfold pathF; rw [if_pos h0])⟩
    · rename_i h0
      split at h
      · cases h
      · rename_i hd
        obtain ⟨l', h1, rfl⟩ := Option.map_eq_some_iff.mp h
        obtain ⟨h2, h3⟩ := pathF_len k _ l' h1
        refine ⟨by simpa using h2, fun k' hk' => ?_⟩
        cases k' with
        | zero => simp at hk'
        | succ k' =>
          unfold pathF
          rw [if_neg h0, if_neg hd, h3 k' (by simpa using hk')]
          rfl
theorem walkI_path {cs : List Cl} {now : Int} : ∀ (k : Nat) (a : Int), walkI cs now k a = match pathF cs k a with | some l => decide (l.length = k) && l.all (fun x => decide (x = now) || decide (((callAt cs x).stack.length : Int) ≠ 6)) | none => false
  | 0, a => by
    unfold walkI pathF
    by_cases h : a < 0 <;> simp [h]
  | k + 1, a => by
    unfold walkI pathF
    split
    · simp
    · split
      · rfl
      · rw [walkI_path k]
        cases hp : pathF cs k (callAt cs a).sender with
        | none => split <;> rfl
        | some l =>
          simp only [Option.map_some, List.length_cons, List.all_cons]
          by_cases h1 : a = now <;> by_cases h2 : ((callAt cs a).stack.length : Int) = 6 <;> simp [h1, h2]

/-- Where a path has an end, its first call does not come again. -/
theorem path_once {cs : List Cl} : ∀ (k : Nat) (a : Int) (l : List Int), pathF cs k a = some l → ∀ x ∈ l, ∃ l', pathF cs k x = some l' ∧ l'.length ≤ l.length ∧ (l'.length = l.length → l.head? = some x)
  | 0, a, l, h, x, hx => by
    unfold pathF at h
    split at h
    · injection h with h; subst h; simp at hx
    · cases h
  | k + 1, a, l, h, x, hx => by
    have h0 := h
    unfold pathF at h
    split at h
    · injection h with h; subst h; simp at hx
    · split at h
      · cases h
      · obtain ⟨l', h1, rfl⟩ := Option.map_eq_some_iff.mp h
        rcases List.mem_cons.mp hx with rfl | hx
        · exact ⟨_, h0, Nat.le_refl _, fun _ => rfl⟩
        · obtain ⟨m, q1, q2, q3⟩ := path_once k _ l' h1 x hx
          obtain ⟨q4, q5⟩ := pathF_len k x m q1
          exact ⟨m, q5 _ (by omega), by simp; omega, fun e => by simp at e; omega⟩
theorem path_tail {cs : List Cl} {k : Nat} {a : Int} {l : List Int} (h : pathF cs k a = some l) : ∀ x ∈ l.tail, x ≠ a := by
  intro x hx e
  subst e
  cases k with
  | zero =>
    unfold pathF at h
    split at h
    · injection h with h; subst h; simp at hx
    · cases h
  | succ k =>
    have h0 := h
    unfold pathF at h
    split at h
    · injection h with h; subst h; simp at hx
    · split at h
      · cases h
      · obtain ⟨l', h1, rfl⟩ := Option.map_eq_some_iff.mp h
        have hx' : x ∈ l' := hx
        obtain ⟨m, q1, q2, q3⟩ := path_once k _ l' h1 x hx'
        obtain ⟨_, q5⟩ := pathF_len k x m q1
        have := q5 (k + 1) (by obtain ⟨q, _⟩ := pathF_len k x m q1; omega)
        rw [h0] at this
        injection this with this
        have := congrArg List.length this
        simp at this
        omega

theorem liveN_le (cs : List Cl) : 0 ≤ liveN cs ∧ liveN cs ≤ cs.length := by
  unfold liveN
  have := List.length_filter_le (fun c : Cl => !c.dead) cs
  omega
theorem liveN_pos {cs : List Cl} {c : Cl} (h : c ∈ cs) (hd : c.dead = false) : 0 < liveN cs := by
  unfold liveN
  have : c ∈ cs.filter (fun c : Cl => !c.dead) := List.mem_filter.mpr ⟨h, by simp [hd]⟩
  have := List.length_pos_of_mem this
  omega
theorem chain_walk {h : Hp} (hs : ∀ c ∈ h.calls, c.sender < h.calls.length ∧ (c.stack.length : Int) ≤ 6) (hn : h.now < h.calls.length) :
    ((decide (h.now < 0) || !(callAt h.calls h.now).dead) && (decide (((chain h).length : Int) = liveN h.calls) && wait h)) = walkI h.calls h.now (liveN h.calls).toNat h.now := by
  have hl := liveN_le h.calls
  have hc : chain h = match pathF h.calls h.calls.length h.now with | some l => l | none => [] := by
    unfold chain
    rw [chainS_path (fun c hc => (hs c hc).1) _ _ _ hn]
    cases pathF h.calls h.calls.length h.now <;> simp
  rw [walkI_path]
  by_cases hneg : h.now < 0
  · have e1 : ∀ k, pathF h.calls k h.now = some [] := fun k => by cases k <;> (unfold pathF; rw [if_pos hneg])
    rw [e1] at hc ⊢
    simp only at hc
    unfold wait
    rw [hc]
    simp [hneg]
    omega
  · have hmem : callAt h.calls h.now ∈ h.calls := by
      unfold callAt
      rw [List.getD_eq_getElem?_getD, List.getElem?_eq_getElem (by omega)]
      exact List.getElem_mem _
    by_cases hd : (callAt h.calls h.now).dead = true
    · have e1 : ∀ k, pathF h.calls k h.now = none := fun k => by
        cases k with
        | zero => unfold pathF; rw [if_neg hneg]
        | succ k => unfold pathF; rw [if_neg hneg, if_pos hd]
      rw [e1]
      simp [hneg, hd]
    · have hd' : (callAt h.calls h.now).dead = false := by simpa using hd
      have hpos := liveN_pos hmem hd'
      rw [hd', decide_eq_false hneg]
      simp only [Bool.not_false, Bool.or_true, Bool.false_or, Bool.true_and]
      cases hp : pathF h.calls (liveN h.calls).toNat h.now with
      | none =>
        simp only
        rw [hc]
        cases hp2 : pathF h.calls h.calls.length h.now with
        | none => simp; omega
        | some l =>
          simp only
          have : ¬ ((l.length : Int) = liveN h.calls) := fun e => by
            have := (pathF_len _ _ _ hp2).2 (liveN h.calls).toNat (by omega)
            rw [hp] at this; cases this
          simp [this]
      | some l =>
        obtain ⟨q1, q2⟩ := pathF_len _ _ _ hp
        rw [q2 _ (by omega)] at hc
        simp only at hc ⊢
        unfold wait
        rw [hc]
        by_cases hll : l.length = (liveN h.calls).toNat
        · rw [decide_eq_true (by omega : (l.length : Int) = liveN h.calls), decide_eq_true hll]
          simp only [Bool.true_and]
          have ht := path_tail hp
          have hr := chain_range h
          rw [hc] at hr
          have hhead : ∀ x, l.head? = some x → x = h.now := by
            intro x hx
            cases hk : (liveN h.calls).toNat with
            | zero => omega
            | succ k =>
              rw [hk] at hp
              unfold pathF at hp
              rw [if_neg hneg, if_neg hd] at hp
              obtain ⟨l', _, rfl⟩ := Option.map_eq_some_iff.mp hp
              simpa using hx.symm
          have roomEq : ∀ x ∈ l, room h x = decide (((callAt h.calls x).stack.length : Int) ≠ 6) := by
            intro x hx
            have := hr x hx
            have hm : callAt h.calls x ∈ h.calls := by
              unfold callAt
              rw [List.getD_eq_getElem?_getD, List.getElem?_eq_getElem (by omega)]
              exact List.getElem_mem _
            have := (hs _ hm).2
            unfold room
            rw [decide_eq_decide]; omega
          cases l with
          | nil => simp
          | cons a l =>
            have ha : a = h.now := hhead a rfl
            simp only [List.tail_cons, List.all_cons, ha, decide_true, Bool.true_or, Bool.true_and]
            rw [Bool.eq_iff_iff, List.all_eq_true, List.all_eq_true]
            refine forall_congr' fun x => forall_congr' fun hx => ?_
            rw [roomEq x (by simp [hx]), decide_eq_false (ht x hx), Bool.false_or]
        · rw [decide_eq_false hll, decide_eq_false (by omega : ¬ (l.length : Int) = liveN h.calls)]
          rfl
end Go.PT
