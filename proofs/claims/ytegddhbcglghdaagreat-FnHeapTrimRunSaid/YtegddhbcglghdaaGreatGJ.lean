/- What the laws share. -/
import Derived.Test.YtegddhbcglghdaaGreatGG
import Derived.Test.YtegddhbcglghdaaGreatLTextA
import Derived.Test.YtegddhbcglghdaaGreatGH
import Derived.Test.YtegddhbcglghdaaGreatGI
/- Rows as the cells that they are: copied and written as such, and read again as what they are. -/
set_option linter.unusedVariables false
set_option linter.unusedSimpArgs false
namespace Go.PT
variable {α : Type}
def Raw (sz : Nat) : Type := { cs : List Value // cs.length = sz ∧ ∀ v ∈ cs, v.oneCell' = true }
def kRaw (sz : Nat) : Kd (Raw sz) := Kd.flat sz (fun x => x.1) (fun x => x.2.1) (fun x => x.2.2)
def RawOf (kd : Kd α) (ok : Ok) (w : World) (p : List Nat) (xs : List α) (rs : List (Raw kd.sz)) : Prop := rs.length = xs.length ∧ ∀ i x r, xs[i]? = some x → rs[i]? = some r → kd.K ok w (p ++ [i]) x r.1
theorem Sl.raw {kd : Kd α} {ok w p} {xs : List α} {v} (h : Sl kd ok w p xs v) : ∃ rs, Sl (kRaw kd.sz) ok w p rs v ∧ RawOf kd ok w p xs rs := by
  obtain ⟨A, cap, rfl, h2, h3⟩ := h
  rcases h3 with h3 | ⟨b, o, h3, h4, h5⟩
  · have : xs = [] := List.length_eq_zero_iff.mp (by omega)
    subst this
    exact ⟨[], ⟨A, cap, rfl, h2, .inl h3⟩, rfl, fun i x r hx => by simp at hx⟩
  · have key : ∀ i : Fin xs.length, ∃ r : Raw kd.sz, kd.K ok w (p ++ [i.1]) xs[i] r.1 ∧ Cells w b (o + i.1 * kd.sz) r.1 := fun i => by
      obtain ⟨es, k1, k2⟩ := h5 i.1 xs[i] (by simp)
      exact ⟨⟨es, kd.len k1, kd.one k1⟩, k1, k2⟩
    have f := fun i => Classical.choose_spec (key i)
    refine ⟨List.ofFn (fun i => Classical.choose (key i)), ⟨A, cap, by simp, by simpa using h2, .inr ⟨b, o, h3, h4, fun i r hr => ⟨r.1, rfl, ?_⟩⟩⟩, by simp, fun i x r hx hr => ?_⟩
    · rw [List.getElem?_ofFn] at hr
      split at hr
      · rename_i hi
        obtain rfl := Option.some.inj hr
        exact (f ⟨i, hi⟩).2
      · cases hr
    · rw [List.getElem?_ofFn] at hr
      split at hr
      · rename_i hi
        obtain rfl := Option.some.inj hr
        have hx' : xs[i] = x := by rw [List.getElem?_eq_getElem hi] at hx; exact Option.some.inj hx
        rw [← hx']
        exact (f ⟨i, hi⟩).1
      · cases hr
theorem Sl.unraw {kd : Kd α} {ok ok' : Ok} {w : World} {p q : List Nat} {xs : List α} {rs : List (Raw kd.sz)} {v : Value} (h : Sl (kRaw kd.sz) ok w p rs v) (k : RawOf kd ok' w q xs rs) (ho : ∀ b m, ok w p b m → ok' w q b m) : Sl kd ok' w q xs v := by
  obtain ⟨A, cap, rfl, h2, h3⟩ := h
  refine ⟨A, cap, by rw [k.1], by rw [← k.1]; exact h2, h3.imp id (fun ⟨b, o, a, b', c⟩ => ⟨b, o, a, ho _ _ b', fun i x hx => ?_⟩)⟩
  have hi : i < rs.length := by rw [k.1]; exact (List.getElem?_eq_some_iff.mp hx).1
  obtain ⟨es, k1, k2⟩ := c i rs[i] (List.getElem?_eq_getElem hi)
  have k1 : es = rs[i].1 := k1
  subst k1
  exact ⟨_, k.2 i x _ hx (List.getElem?_eq_getElem hi), k2⟩
section
variable {kd : Kd α} {L L' : Lab} {w w' : World} {n : Nat} {p q : List Nat} {xs : List α} {rs : List (Raw kd.sz)}
theorem RawOf.unMut (k : RawOf kd (Un L n) w p xs rs) (e : Mut L w L' w') (hn : n ≤ w.heap.size) : RawOf kd (Un L' n) w' p xs rs := ⟨k.1, fun i x r a b => kd.unMut (k.2 i x r a b) e hn⟩
theorem RawOf.ofUn (k : RawOf kd (Un L n) w p xs rs) (hn : n ≤ w.heap.size) : RawOf kd Any w q xs rs := ⟨k.1, fun i x r a b => kd.frame (k.2 i x r a b) (fun r b m hb => ⟨fun o v hc => hc, Nat.lt_of_lt_of_le hb.2 hn⟩)⟩
theorem RawOf.ofAny (k : RawOf kd Any w p xs rs) (hb : Born w L) : RawOf kd (Un L w.heap.size) w q xs rs := ⟨k.1, fun i x r a b => kd.frame (k.2 i x r a b) (fun r b m hlt => ⟨fun o v hc => hc, by
    cases hL : L b with
    | none => rfl
    | some q' => have := hb b q' hL; have hlt : b < w.heap.size := hlt; omega, hlt⟩)⟩
theorem RawOf.put (k : RawOf kd Any w p xs rs) {i : Nat} {x : α} {r : Raw kd.sz} (hK : kd.K Any w (p ++ [i]) x r.1) : RawOf kd Any w p (xs.set i x) (rs.set i r) := by
  refine ⟨by rw [List.length_set, List.length_set]; exact k.1, fun j y s hy hs => ?_⟩
  rw [List.getElem?_set] at hy hs
  by_cases e : i = j
  · subst e
    rw [if_pos rfl] at hy hs
    split at hy
    · split at hs
      · obtain rfl := Option.some.inj hy
        obtain rfl := Option.some.inj hs
        exact hK
      · cases hs
    · cases hy
  · rw [if_neg e] at hy hs
    exact k.2 j y s hy hs
end
/-- A whole element is written. -/
theorem raw_put {sz n : Nat} {L : Lab} {w : World} {p : List Nat} {rs : List (Raw sz)} {v x : Value} {i b o : Nat} {r : Raw sz} {k : World → Prop} (h : Sl (kRaw sz) (Own L) w p rs v) (ha : At v sz i b o) (hi : i < rs.length) (hx : x.cells.toList = r.1) (hn : n = sz)
    (hk : ∀ w', Fr (fun y => y = b) w w' → L b = some p → Sl (kRaw sz) (Own L) w' p (rs.set i r) v → k w') : stsT n (.pointer (some ⟨b, o, none⟩)) x w k := by
  obtain ⟨hl, w', a1, a2, a3, a4⟩ := h.puts (kd := kRaw sz) (off := 0) (vs := r.1) ha hi (by rw [r.2.1]; exact Nat.le_of_eq (by simp [kRaw, Kd.flat])) r.2.2
  refine sts_of_stN hx (by rw [hn, r.2.1]) a1 (hk w' a2 hl (a4 r (fun es k1 k2 => ?_)))
  have k1 : es = rs[i].1 := k1
  show spl es 0 r.1 = r.1
  unfold spl
  rw [k1]
  have e1 := rs[i].2.1
  have e2 := r.2.1
  simp [e1, e2]
/-- A block of one's own becomes data. -/
theorem En.owned {L0 L : Lab} {w0 w : World} {b : Nat} {cs : List Value} {l : List (Nat × List Value)} (E : En L0 w0 L w ((b, cs) :: l)) : En L0 w0 (joinL L [] (lab1 b [])) w l ∧ joinL L [] (lab1 b []) b = some [] ∧ Apart L (lab1 b []) := by
  have hb := E.loc (b, cs) (.head _)
  have hap : Apart L (lab1 b []) := fun x p hx => by
    unfold lab1 at hx
    split at hx
    · rename_i e; rw [e]; exact hb.1.2
    · cases hx
  have hn := List.nodup_cons.mp E.once
  refine ⟨⟨⟨E.mu.fr, fun x hx hx0 => joinL_none ?_ (E.mu.un x hx hx0), joinL_lim E.mu.lim (lab1_lim hb.1.1.lt)⟩, fun x hx => ⟨⟨(E.loc x (.tail _ hx)).1.1, joinL_none ?_ (E.loc x (.tail _ hx)).1.2⟩, (E.loc x (.tail _ hx)).2⟩, hn.2⟩, joinL_right (by simp [lab1]) hb.1.2, hap⟩
  · unfold lab1
    have := hb.2
    simp only at this
    rw [if_neg (by omega)]
  · unfold lab1
    rw [if_neg (fun e => hn.1 (List.mem_map.mpr ⟨x, hx, e⟩))]
end Go.PT

/- What compares: heaps that are the same. -/
set_option linter.unusedVariables false
set_option linter.unusedSimpArgs false
set_option maxRecDepth 100000
namespace Go.PT
attribute [local irreducible] ldT ldsT stT stsT allocT boxT bldT bslT nilT fadT ixaT fldT extT lenT pickT binT notT cviT opT opU condT clT clvT ivT loopT arT ndT World.cell? World.frozen? World.alloc World.drew World.setCell Blk Cells Sl
theorem c_lmVals {l : List V} {u v : Value} {w : World} {R : VW} (hu : Sl kPair Any w [] l u) (hv : Sl kPair Any w [] l v) (hl : l.length ≤ 1073741824) (hR : ∀ w', Ext w w' → R (.bool true) w') : clT PR 80 [u, v] w R := by
  refine Flaws_lmVals.cl ?_
  unfold Flaws_lmVals
  refine hu.len_of ?_
  refine hv.len_of ?_
  (refine neq_of ?_)
  refine condP_of (fun hne => absurd rfl hne) (fun _ => ?_)
  refine loop_of (fun m s wx => ∃ (i : Nat), s = [u, v, .bool false, .int .i64 i] ∧ i + m = l.length ∧ Ext w wx) ?_ (m := l.length) ⟨0, rfl, by omega, Fr.refl _ _⟩
  rintro m s wx Kn ⟨i, rfl, hi, e⟩ hKn
  intro _
  simp only [List.headD_cons, List.tail_cons]
  refine (hu.ext e).len_of ?_
  (refine lss_of ?_)
  refine condLt_of (fun hc => ?_) (fun hc => ?_)
  · have e' := e.drew
    refine pair_ix (i := (i : Int)) (hu.ext e) (by omega) (by omega) (fun b o hcell => ?_)
    refine lds_of hcell.drew rfl ?_
    refine pair_ix (i := (i : Int)) (hv.ext e) (by omega) (by omega) (fun b' o' hcell' => ?_)
    refine lds_of hcell'.drew rfl ?_
    refine neqP_of (u := pairAt l i) (v := pairAt l i) (by kernel_rfl) ?_
    refine condP_of (fun hne => absurd rfl hne) (fun _ => ?_)
    (refine add_of (by (omega)) (by (omega)) ?_)
    exact hKn (m - 1) _ _ (by omega) ⟨i + 1, rfl, by omega, e'⟩
  · intro _
    exact hR _ e
theorem c_lmCall {c : Cl} {ut us vt vs : Value} {w : World} {R : VW} (h1 : Sl kPair Any w [] c.temps ut) (h2 : Sl kPair Any w [] c.stack us) (k1 : Sl kPair Any w [] c.temps vt) (k2 : Sl kPair Any w [] c.stack vs) (n1 : c.temps.length ≤ 1073741824) (n2 : c.stack.length ≤ 1073741824)
    (hR : ∀ w', Ext w w' → R (.bool true) w') : clT PR 134 [.agg (cellsC c ut us).toArray, .agg (cellsC c vt vs).toArray] w R := by
  refine Flaws_lmCall.cl ?_
  unfold Flaws_lmCall
  have E := En.start w
  refine E.box (fun b1 w1 E _ => ?_)
  refine E.box (fun b2 w2 E _ => ?_)
  repeat (first | (first | refine fad_of ?_ | refine eql_of ?_) | ((refine E.ld (by first | exact .head _ | exact .tail _ (.head _)) (by exact rfl) ?_)))
  refine condP_of (fun _ => ?_) (fun hne => absurd rfl hne)
  repeat (first | (first | refine fad_of ?_ | refine eql_of ?_) | ((refine E.ld (by first | exact .head _ | exact .tail _ (.head _)) (by exact rfl) ?_)))
  refine condP_of (fun _ => ?_) (fun hne => absurd rfl hne)
  repeat (first | (first | refine fad_of ?_ | refine eql_of ?_) | ((refine E.ld (by first | exact .head _ | exact .tail _ (.head _)) (by exact rfl) ?_)))
  refine condP_of (fun _ => ?_) (fun hne => absurd rfl hne)
  repeat (first | ((refine fad_of ?_)) | ((refine E.ld (by first | exact .head _ | exact .tail _ (.head _)) (by exact rfl) ?_)))
  refine eqlB_of (by kernel_rfl) ?_
  refine cond_of (fun _ => ?_) (fun hf => by simp at hf)
  repeat (first | ((refine fad_of ?_)) | ((refine E.ld (by first | exact .head _ | exact .tail _ (.head _)) (by exact rfl) ?_)))
  refine c_lmVals (E.any h1) (E.any k1) n1 (fun w3 e3 => ?_)
  replace E := E.ext e3
  repeat (first | (first | refine fad_of ?_ | refine condT_true ?_) | ((refine E.ld (by first | exact .head _ | exact .tail _ (.head _)) (by exact rfl) ?_)))
  repeat ((fail))
  refine c_lmVals (E.any h2) (E.any k2) n2 (fun w4 e4 => ?_)
  exact hR _ (E.toExt.trans e4)
theorem c_lmCalls {cs : List Cl} {u v : Value} {w : World} {R : VW} (hu : Sl kCall Any w [] cs u) (hv : Sl kCall Any w [] cs v) (hl : cs.length ≤ 1073741824) (hn : ∀ c ∈ cs, c.temps.length ≤ 1073741824 ∧ c.stack.length ≤ 1073741824)
    (hR : ∀ w', Ext w w' → R (.bool true) w') : clT PR 58 [u, v] w R := by
  refine Flaws_lmCalls.cl ?_
  unfold Flaws_lmCalls
  refine hu.len_of ?_
  refine hv.len_of ?_
  (refine neq_of ?_)
  refine condP_of (fun hne => absurd rfl hne) (fun _ => ?_)
  refine loop_of (fun m s wx => ∃ (i : Nat), s = [u, v, .bool false, .int .i64 i] ∧ i + m = cs.length ∧ Ext w wx) ?_ (m := cs.length) ⟨0, rfl, by omega, Fr.refl _ _⟩
  rintro m s wx Kn ⟨i, rfl, hi, e⟩ hKn
  intro _
  simp only [List.headD_cons, List.tail_cons]
  refine (hu.ext e).len_of ?_
  (refine lss_of ?_)
  refine condLt_of (fun hc => ?_) (fun hc => ?_)
  · have e' := e.drew
    have hmem := hn _ (callAt_mem (cs := cs) (i := (i : Int)) (by omega) (by omega))
    refine call_ix (i := (i : Int)) (hu.ext e) (by omega) (by omega) (fun b o ut us hcell ht hs => ?_)
    refine lds_of (cs := cellsC (callAt cs i) ut us) hcell.drew rfl ?_
    refine call_ix (i := (i : Int)) (hv.ext e) (by omega) (by omega) (fun b' o' vt vs hcell' ht' hs' => ?_)
    refine lds_of (cs := cellsC (callAt cs i) vt vs) hcell'.drew rfl ?_
    refine c_lmCall ht.drew hs.drew ht'.drew hs'.drew hmem.1 hmem.2 (fun w3 e3 => ?_)
    (refine not_of ?_)
    (refine condT_false ?_)
    (refine add_of (by (omega)) (by (omega)) ?_)
    exact hKn (m - 1) _ _ (by omega) ⟨i + 1, rfl, by omega, e'.trans e3⟩
  · intro _
    exact hR _ e
theorem c_lmHeap {h : Hp} {uc us vc vs : Value} {w : World} {R : VW} (hu : HeapV w h uc us) (hv : HeapV w h vc vs) (hR : ∀ w', Ext w w' → R (.bool true) w') : clT PR 67 [.agg (heapCells h uc us).toArray, .agg (heapCells h vc vs).toArray] w R := by
  refine Flaws_lmHeap.cl ?_
  unfold Flaws_lmHeap
  have E := En.start w
  refine E.box (fun b1 w1 E _ => ?_)
  refine E.box (fun b2 w2 E _ => ?_)
  repeat (first | ((refine fad_of ?_)) | ((refine E.ld (by first | exact .head _ | exact .tail _ (.head _)) (by exact rfl) ?_)))
  refine c_lmCalls (E.any hu.calls) (E.any hv.calls) hu.n hu.nt (fun w3 e3 => ?_)
  replace E := E.ext e3
  (refine condT_true ?_)
  repeat (first | (first | refine fad_of ?_ | refine eql_of ?_) | ((refine E.ld (by first | exact .head _ | exact .tail _ (.head _)) (by exact rfl) ?_)))
  refine condP_of (fun _ => ?_) (fun hne => absurd rfl hne)
  repeat (first | (first | refine fad_of ?_ | refine eql_of ?_) | ((refine E.ld (by first | exact .head _ | exact .tail _ (.head _)) (by exact rfl) ?_)))
  refine condP_of (fun _ => ?_) (fun hne => absurd rfl hne)
  repeat (first | (first | refine fad_of ?_ | refine eql_of ?_) | ((refine E.ld (by first | exact .head _ | exact .tail _ (.head _)) (by exact rfl) ?_)))
  refine condP_of (fun _ => ?_) (fun hne => absurd rfl hne)
  repeat (first | ((refine fad_of ?_)) | ((refine E.ld (by first | exact .head _ | exact .tail _ (.head _)) (by exact rfl) ?_)))
  refine c_lmVals (E.any hu.said) (E.any hv.said) hu.ns (fun w4 e4 => ?_)
  exact hR _ (E.toExt.trans e4)
end Go.PT

/- A program in which the next operation is another one, and a heap with other values; what stands behind an operation. -/
set_option linter.unusedVariables false
set_option linter.unusedSimpArgs false
set_option maxRecDepth 100000
namespace Go.PT
variable {α : Type}
/-- Old data, and such as were made between two worlds. -/
def Bet (n m k : Nat) : Ok := fun w _ b _ => (b < n ∨ (m ≤ b ∧ b < k)) ∧ b < w.heap.size
def Old (n : Nat) : Ok := fun w _ b _ => b < n ∧ b < w.heap.size
theorem Sl.oldExt {kd : Kd α} {n : Nat} {w w' : World} {p : List Nat} {xs : List α} {v : Value} (h : Sl kd (Old n) w p xs v) (e : Ext w w') : Sl kd (Old n) w' p xs v :=
  h.frame (fun s y m hb => ⟨fun o v hc => Ext.cell e hc, hb.1, Nat.lt_of_lt_of_le hb.2 e.size⟩)
theorem Sl.oldAny {kd : Kd α} {n : Nat} {w : World} {p q : List Nat} {xs : List α} {v : Value} (h : Sl kd (Old n) w p xs v) : Sl kd Any w q xs v := h.frame (fun s y m hb => ⟨fun o v hc => hc, hb.2⟩)
theorem Sl.oldBet {kd : Kd α} {n m k : Nat} {w : World} {p q : List Nat} {xs : List α} {v : Value} (h : Sl kd (Old n) w p xs v) : Sl kd (Bet n m k) w q xs v := h.frame (fun s y m hb => ⟨fun o v hc => hc, .inl hb.1, hb.2⟩)
theorem Sl.betAny {kd : Kd α} {n m k : Nat} {w : World} {p q : List Nat} {xs : List α} {v : Value} (h : Sl kd (Bet n m k) w p xs v) : Sl kd Any w q xs v := h.frame (fun s y m hb => ⟨fun o v hc => hc, hb.2⟩)
theorem Sl.betExt {kd : Kd α} {n m k : Nat} {w w' : World} {p : List Nat} {xs : List α} {v : Value} (h : Sl kd (Bet n m k) w p xs v) (e : Ext w w') : Sl kd (Bet n m k) w' p xs v :=
  h.frame (fun s y m hb => ⟨fun o v hc => Ext.cell e hc, hb.1, Nat.lt_of_lt_of_le hb.2 e.size⟩)
theorem Sl.betSet {kd : Kd α} {n m k x : Nat} {w w' : World} {p : List Nat} {xs : List α} {v : Value} (h : Sl kd (Bet n m k) w p xs v) (e : Fr (fun y => y = x) w w') (hx : (n ≤ x ∧ x < m) ∨ k ≤ x) (hnm : n ≤ m) (hmk : m ≤ k) : Sl kd (Bet n m k) w' p xs v :=
  h.frame (fun s y m hb => ⟨fun o v hc => e.cell (fun he => by have := hb.1; omega) hc, hb.1, Nat.lt_of_lt_of_le hb.2 e.size⟩)
theorem Sl.ownBet {kd : Kd α} {L : Lab} {n : Nat} {w0 w : World} {p q : List Nat} {xs : List α} {v : Value} (h : Sl kd (Own L) w p xs v) (hb : Born w0 L) : Sl kd (Bet n w0.heap.size w.heap.size) w q xs v :=
  h.frame (fun s y m ho => ⟨fun o v hc => hc, .inr ⟨hb y _ ho.1, own_lt ho⟩, own_lt ho⟩)
theorem RawOf.oldExt {kd : Kd α} {n : Nat} {w w' : World} {p : List Nat} {xs : List α} {rs : List (Raw kd.sz)} (k : RawOf kd (Old n) w p xs rs) (e : Ext w w') : RawOf kd (Old n) w' p xs rs := ⟨k.1, fun i x r a b => kd.frame (k.2 i x r a b) (fun s y m hb => ⟨fun o v hc => Ext.cell e hc, hb.1, Nat.lt_of_lt_of_le hb.2 e.size⟩)⟩
theorem RawOf.oldBet {kd : Kd α} {n m k' : Nat} {w : World} {p q : List Nat} {xs : List α} {rs : List (Raw kd.sz)} (k : RawOf kd (Old n) w p xs rs) : RawOf kd (Bet n m k') w q xs rs := ⟨k.1, fun i x r a b => kd.frame (k.2 i x r a b) (fun s y m hb => ⟨fun o v hc => hc, .inl hb.1, hb.2⟩)⟩
theorem RawOf.putK {kd : Kd α} {ok : Ok} {w : World} {p : List Nat} {xs : List α} {rs : List (Raw kd.sz)} (k : RawOf kd ok w p xs rs) {i : Nat} {x : α} {r : Raw kd.sz} (hK : kd.K ok w (p ++ [i]) x r.1) : RawOf kd ok w p (xs.set i x) (rs.set i r) := by
  refine ⟨by rw [List.length_set, List.length_set]; exact k.1, fun j y s hy hs => ?_⟩
  rw [List.getElem?_set] at hy hs
  by_cases e : i = j
  · subst e
    rw [if_pos rfl] at hy hs
    split at hy
    · split at hs
      · obtain rfl := Option.some.inj hy
        obtain rfl := Option.some.inj hs
        exact hK
      · cases hs
    · cases hy
  · rw [if_neg e] at hy hs
    exact k.2 j y s hy hs
theorem methAt_get {p : Pg} {i : Int} (h0 : 0 ≤ i) (h1 : i < p.length) : p[i.toNat]? = some (methAt p i) := by
  unfold methAt
  rw [List.getD_eq_getElem?_getD, List.getElem?_eq_getElem (by omega)]; rfl
/-- A heap's rows. -/
structure HQ (ok : Ok) (w : World) (h : Hp) (uc us : Value) : Prop where
  calls : Sl kCall ok w [] h.calls uc
  said : Sl kPair ok w [] h.said us
attribute [local irreducible] ldT ldsT stT stsT allocT boxT bldT bslT nilT fadT ixaT fldT extT lenT pickT binT notT cviT opT opU condT clT clvT ivT loopT arT ndT World.cell? World.frozen? World.alloc World.drew World.setCell Blk Cells Sl
theorem c_lmWith {p : Pg} {h : Hp} {op : Int × Int} {st : List V} {n : Nat} {u uc us ust : Value} {w : World} {R : VW} (hnw : n ≤ w.heap.size) (hp : Sl kMeth (Old n) w [] p u) (hpo : progOk p = true) (hh : HQ (Old n) w h uc us) (hB : HB h) (hst : Sl kPair Any w [] st ust) (hsl : st.length ≤ 6)
    (hR : ∀ w' q g u' uc' us' ok, Ext w w' → Sl kMeth (Bet n w.heap.size w'.heap.size) w' [] q u' → q.length ≤ 4 → (∀ m ∈ q, m.ops.length ≤ 14) → HQ (Bet n w.heap.size w'.heap.size) w' g uc' us' → HB g → (ok = true → okWith p h op st ∧ q = withP p h op ∧ g = withH h st) →
      R (.tuple #[.agg #[u'], .agg (heapCells g uc' us').toArray, .bool ok]) w') : clT PR 63 [.agg #[u], .agg (heapCells h uc us).toArray, .agg #[.int .i64 op.1, .int .i64 op.2], ust] w R := by
  have hpl := prog_len hpo
  have hml : ∀ m ∈ p, m.ops.length ≤ 14 := fun m hm => by
    have hpo := hpo
    unfold progOk at hpo
    simp only [Bool.and_eq_true, List.all_eq_true] at hpo
    have := (methOk_iff.mp (hpo.2.2 m hm)).ops
    omega
  have hml2 : ∀ m ∈ p, m.ops.length ≤ 1073741824 := fun m hm => by have := hml m hm; omega
  refine Flaws_lmWith.cl ?_
  unfold Flaws_lmWith
  have E := En.start w
  refine E.box (fun b1 w1 E _ => ?_)
  refine E.box (fun b2 w2 E _ => ?_)
  refine E.box (fun b3 w3 E _ => ?_)
  refine E.al (fun b4 w4 E _ => ?_)
  refine E.al (fun b5 w5 E _ => ?_)
  replace E := E.drew
  refine E.lds (by (exact .tail _ (.tail _ (.tail _ (.tail _ (.head _)))))) rfl ?_
  refine E.lds (by (exact .tail _ (.tail _ (.tail _ (.head _))))) rfl ?_
  have hv : ∀ {L : Lab} {w' : World} {l}, En noL w L w' l → HeapV w' h uc us := fun E => hB.view (E.any (p := []) hh.calls.oldAny) (E.any (p := []) hh.said.oldAny)
  refine c_specHeapOk (E.any (p := []) hp.oldAny) (by omega) hml2 (hv E) (fun w6 e6 => ?_)
  replace E := E.ext e6
  -- nothing is changed
  have no : ldsT 1 (.pointer (some ⟨b1, 0, none⟩)) w6.drew fun t47 => ldsT 5 (.pointer (some ⟨b2, 0, none⟩)) w6.drew fun t48 => stsT 1 (.pointer (some ⟨b4, 0, none⟩)) t47 w6.drew fun w7 => (ldsT 5 (.pointer (some ⟨b2, 0, none⟩)) w7 fun u => u = t48) ∧ stsT 5 (.pointer (some ⟨b5, 0, none⟩)) t48 w7 fun w8 =>
      ldsT 1 (.pointer (some ⟨b4, 0, none⟩)) w8 fun r9 => ldsT 5 (.pointer (some ⟨b5, 0, none⟩)) w8 fun r10 => R (.tuple #[r9, r10, (.bool false)]) w8 := by
    have E := E.drew
    refine E.lds (by (exact .tail _ (.tail _ (.tail _ (.tail _ (.head _)))))) rfl ?_
    refine E.lds (by (exact .tail _ (.tail _ (.tail _ (.head _))))) rfl ?_
    refine En.sts' (vs := [u]) [_] rfl E rfl rfl (by intro x hx; simp at hx; subst hx; exact hp.one) (fun w7 E e7 => ?_)
    refine ⟨E.lds (by (exact .tail _ (.tail _ (.tail _ (.head _))))) rfl rfl, ?_⟩
    refine En.sts' (vs := heapCells h uc us) [] rfl E rfl rfl (by intro x hx; simp only [heapCells, List.mem_cons, List.not_mem_nil, or_false] at hx; rcases hx with h | h | h | h | h <;> rw [h] <;> first | rfl | exact hh.calls.one | exact hh.said.one) (fun w8 E e8 => ?_)
    refine E.lds (by (exact .tail _ (.head _))) rfl ?_
    refine E.lds (by (exact .head _)) rfl ?_
    exact hR _ _ _ _ _ _ _ E.toExt (hp.oldExt E.toExt).oldBet (by omega) hml ⟨(hh.calls.oldExt E.toExt).oldBet, (hh.said.oldExt E.toExt).oldBet⟩ hB (fun e => by cases e)
  (refine not_of ?_)
  refine condN_of (fun hf => no) (fun ht => ?_)
  have H := hok_iff.mp ht
  repeat (first | (first | refine fad_of ?_ | refine neq_of ?_) | ((refine E.ld (by first | exact .head _ | exact .tail _ (.tail _ (.tail _ (.head _)))) (by exact rfl) ?_)))
  refine condNe_of (fun hne => no) (fun hcode => ?_)
  have h0 := H.now0 hcode
  have h1 := H.now2
  have f := H.at h0 h1
  repeat (first | ((refine fad_of ?_)) | ((refine E.ld (by first | exact .head _ | exact .tail _ (.tail _ (.tail _ (.head _)))) (by exact rfl) ?_)))
  refine call_ix (E.any (p := []) (q := []) hh.calls.oldAny) h0 h1 (fun b o ut us' hcell ht' hs' => ?_)
  repeat (first | ((refine fad_of ?_)) | ((refine E.ld (by first | exact .head _ | exact .tail _ (.tail _ (.tail _ (.head _))) | exact .tail _ (.tail _ (.tail _ (.tail _ (.head _))))) (by exact rfl) ?_)) | ((apply ld_of; (case h => iterate 14 (first | done | exact Cells.at (by assumption) _ (by exact rfl))))))
  refine call_ix (E.any (p := []) (q := []) hh.calls.oldAny) h0 h1 (fun b o ut us' hcell ht' hs' => ?_)
  repeat (first | ((refine fad_of ?_)) | ((apply ld_of; (case h => iterate 14 (first | done | exact Cells.at (by assumption) _ (by exact rfl))))))
  refine meth_ix (E.any (p := []) (q := []) hp.oldAny) f.m0 f.m1 (fun b o uo hcell ho' => ?_)
  repeat (first | (first | refine fad_of ?_ | refine geq_of ?_) | ((apply ld_of; (case h => iterate 14 (first | done | exact Cells.at (by assumption) _ (by exact rfl))))) | (refine Sl.len_of (by assumption) ?_))
  refine condGe_of (fun hge => no) (fun hlt => ?_)
  have hW : canW p h := ⟨H, hcode, by unfold opsNow nowC; omega⟩
  clear no hv
  have f : FormP p h.calls.length (nowC h) := f
  have f0 := f.m0
  have f1 := f.m1
  have p0 := f.pc0
  have hpc : (nowC h).pc < ((methAt p (nowC h).method).ops.length : Int) := hW.2.2
  have hol := hml _ (methAt_mem f.m0 f.m1)
  have hBn := hB.n
  -- the rows as cells
  obtain ⟨rs, hrs, krs⟩ : ∃ rs : List (Raw 3), Sl (kRaw 3) (Old n) w [] rs u ∧ RawOf kMeth (Old n) w [] p rs := hp.raw
  obtain ⟨cs, hcs, kcs⟩ : ∃ cs : List (Raw 6), Sl (kRaw 6) (Old n) w [] cs uc ∧ RawOf kCall (Old n) w [] h.calls cs := hh.calls.raw
  have hrl : rs.length = p.length := krs.1
  have hcl : cs.length = h.calls.length := kcs.1
  obtain ⟨r0, hr0⟩ : ∃ r0, rs[(nowC h).method.toNat]? = some r0 := ⟨_, List.getElem?_eq_getElem (by omega)⟩
  obtain ⟨c0, hc0⟩ : ∃ c0, cs[h.now.toNat]? = some c0 := ⟨_, List.getElem?_eq_getElem (by omega)⟩
  obtain ⟨uo, er, hops⟩ := krs.2 _ _ r0 (methAt_get f0 f1) hr0
  obtain ⟨ut, us', ec, hts, hss⟩ := kcs.2 _ (nowC h) c0 (callAt_get h0 h1) hc0
  have hrs : Sl (kRaw 3) (Old n) w [] rs u := hrs
  have hcs : Sl (kRaw 6) (Old n) w [] cs uc := hcs
  have htu := hts.one
  have hsu := hss.one
  have huo := hops.one
  have hcone : ∀ x ∈ cellsC (nowC h) ut us', x.oneCell' = true := by intro x hx; simp only [cellsC, List.mem_cons, List.not_mem_nil, or_false] at hx; rcases hx with h | h | h | h | h | h <;> rw [h] <;> first | rfl | exact htu | exact hsu
  -- the call that runs is held
  repeat (first | ((refine fad_of ?_)) | ((refine E.ld (by first | exact .head _ | exact .tail _ (.tail _ (.tail _ (.head _)))) (by exact rfl) ?_)))
  refine (hcs.oldExt E.toExt).ixo_of rfl h0 (by omega) (fun x b o es mm hx ha hown hK hcell => ?_)
  obtain rfl : c0 = x := by rw [hc0] at hx; exact Option.some.inj hx
  have hK : es = c0.1 := hK
  have ec : c0.1 = cellsC (nowC h) ut us' := ec
  rw [hK, ec] at hcell
  refine lds_of (cs := cellsC (nowC h) ut us') hcell rfl ?_
  clear hcell hK hx ha hown
  refine E.als (vs := cellsC (nowC h) ut us') rfl rfl rfl hcone (fun b6 w6 E _ => ?_)
  refine bsl_of' rfl rfl rfl (fun b7 w7 e7 hb7 k7 => ?_)
  replace E := E.ext e7
  repeat (first | ((refine fad_of ?_)) | ((refine E.ld (by first | exact .head _ | exact .tail _ (.tail _ (.tail _ (.tail _ (.tail _ (.head _)))))) (by exact rfl) ?_)))
  -- the methods
  refine clone_of (f := fun x : Raw 3 => x.1) (h1 := fun x => x.2.1) (h2 := fun x => x.2.2) (by kernel_rfl) (hrs.oldExt E.toExt) (by omega) (fun vq w8 M8 e8 hb8 hl8 hq => ?_)
  have hq : Sl (kRaw 3) (Own M8) w8 [] rs vq := hq
  replace hq := hq.inR (q := [0]) (apart_of E.mu.lim hb8)
  replace E := E.join [0] e8 hb8 hl8
  have hqo := hq.one
  obtain ⟨Aq, cq, rfl⟩ := hq.is
  generalize hvq : (Value.slice Aq rs.length cq) = vq at hq hqo ⊢
  refine bld_of (cs := #[vq]) (by rw [← hvq]; rfl) ?_
  refine E.als (vs := [vq]) rfl rfl rfl (by intro x hx; simp at hx; subst hx; exact hqo) (fun b9 w9 E e9 => ?_)
  replace hq := hq.keepX e9
  repeat (first | ((refine fad_of ?_)) | ((refine E.ld (by first | exact .head _ | exact .tail _ (.head _)) (by exact rfl) ?_)))
  refine hq.ixo_of rfl f0 (by omega) (fun x b o es mm hx ha hown hK hcells => ?_)
  obtain rfl : r0 = x := by rw [hr0] at hx; exact Option.some.inj hx
  have hK : es = r0.1 := hK
  rw [hK, er] at hcells
  refine lds_of hcells rfl ?_
  clear hcells hK hx ha hown
  refine E.als (vs := [.int .i64 (methAt p (nowC h).method).args, .int .i64 (methAt p (nowC h).method).temps, uo]) rfl rfl rfl (by intro x hx; simp at hx; rcases hx with h | h | h <;> rw [h] <;> first | rfl | exact huo) (fun b10 w10 E e10 => ?_)
  replace hq := hq.keepX e10
  refine bsl_of' rfl rfl rfl (fun b11 w11 e11 hb11 k11 => ?_)
  replace E := E.ext e11
  replace hq := hq.keepX e11
  repeat (first | ((refine fad_of ?_)) | ((refine E.ld (by (exact .head _)) (by exact rfl) ?_)))
  refine clone_of (by kernel_rfl) (hops.oldExt E.toExt) (by omega) (fun vo w12 M12 e12 hb12 hl12 ho => ?_)
  have ho := ho.inR (q := [1]) (apart_of E.mu.lim hb12)
  replace hq := (hq.keepX e12).inL (q := [1]) (M := M12)
  replace E := E.join [1] e12 hb12 hl12
  repeat (((refine fad_of ?_)))
  refine En.st' [] E (by simp) ho.one (fun w13 E e13 => ?_)
  replace ho := ho.loc e13
  replace hq := hq.loc e13
  repeat (first | ((refine fad_of ?_)) | (first | refine E.ld (by first | exact .head _ | exact .tail _ (.tail _ (.head _))) (by exact rfl) ?_ | refine E.lds (by first | exact .head _ | exact .tail _ (.tail _ (.tail _ (.tail _ (.tail _ (.head _)))))) (by exact rfl) ?_))
  refine ho.ixo_of rfl p0 (by omega) (fun x b o es mm hx ha hown hK hcells => ?_)
  obtain ⟨hlo, w14, a1, a2, a3, a4⟩ := ho.puts (vs := [.int .i64 op.1, .int .i64 op.2]) (off := 0) ha (by omega) (by simp [kPair, Kd.flat]) (by simp [Value.oneCell'])
  refine sts_of_stN (vs := [.int .i64 op.1, .int .i64 op.2]) rfl rfl a1 ?_
  replace ho := a4 op (fun es k1 k2 => by
    have : es = [.int .i64 _, .int .i64 _] := k1
    subst this
    rfl)
  clear a1 a3 a4 hx ha hown hK hcells
  replace E := E.call (Mut.at a2 hlo E.mu.lim)
  replace hq := hq.other a2 hlo (by simp)
  repeat (first | ((refine fad_of ?_)) | (first | refine E.ld (by first | exact .head _ | exact .tail _ (.head _) | exact .tail _ (.tail _ (.head _))) (by exact rfl) ?_ | refine E.lds (by (exact .head _)) (by exact rfl) ?_))
  refine hq.ixo_of rfl f0 (by omega) (fun x b o es mm hx ha hown hK hcells => ?_)
  have hvo := ho.one
  refine raw_put (r := (⟨[.int .i64 (methAt p (nowC h).method).args, .int .i64 (methAt p (nowC h).method).temps, vo], rfl, by intro x hx; simp at hx; rcases hx with h | h | h <;> rw [h] <;> first | rfl | exact hvo⟩ : Raw 3)) hq ha (by omega) rfl rfl (fun w15 a15 hl15 hq => ?_)
  clear hx ha hown hK hcells
  replace E := E.call (Mut.at a15 hl15 E.mu.lim)
  replace ho := ho.other a15 hl15 (by simp)
  repeat (((refine E.lds (by first | exact .head _ | exact .tail _ (.tail _ (.tail _ (.tail _ (.tail _ (.tail _ (.head _))))))) (by exact rfl) ?_)))
  -- the heap
  refine E.als (vs := heapCells h uc us) rfl rfl rfl (by intro x hx; simp only [heapCells, List.mem_cons, List.not_mem_nil, or_false] at hx; rcases hx with h | h | h | h | h <;> rw [h] <;> first | rfl | exact hh.calls.one | exact hh.said.one) (fun b16 w16 E e16 => ?_)
  replace ho := ho.keepX e16
  replace hq := hq.keepX e16
  refine bsl_of' rfl rfl rfl (fun b17 w17 e17 hb17 k17 => ?_)
  replace E := E.ext e17
  replace ho := ho.keepX e17
  replace hq := hq.keepX e17
  repeat (first | ((refine fad_of ?_)) | ((refine E.ld (by first | exact .head _ | exact .tail _ (.tail _ (.tail _ (.tail _ (.tail _ (.tail _ (.tail _ (.head _)))))))) (by exact rfl) ?_)))
  refine clone_of (f := fun x : Raw 6 => x.1) (h1 := fun x => x.2.1) (h2 := fun x => x.2.2) (by kernel_rfl) (hcs.oldExt E.toExt) (by omega) (fun vc w18 M18 e18 hb18 hl18 hc => ?_)
  have hc : Sl (kRaw 6) (Own M18) w18 [] cs vc := hc
  replace hc := hc.inR (q := [2]) (apart_of E.mu.lim hb18)
  replace hq := (hq.keepX e18).inL (q := [2]) (M := M18)
  replace ho := (ho.keepX e18).inL (q := [2]) (M := M18)
  replace E := E.join [2] e18 hb18 hl18
  repeat (((refine fad_of ?_)))
  refine En.st' [] E (by simp [heapCells]) hc.one (fun w19 E e19 => ?_)
  replace ho := ho.loc e19
  replace hq := hq.loc e19
  replace hc := hc.loc e19
  refine bsl_of' rfl rfl rfl (fun b20 w20 e20 hb20 k20 => ?_)
  replace E := E.ext e20
  replace ho := ho.keepX e20
  replace hq := hq.keepX e20
  replace hc := hc.keepX e20
  refine clone_of (by kernel_rfl) (E.any (q := []) hst) (by omega) (fun vs w21 M21 e21 hb21 hl21 hs => ?_)
  have hs := hs.inR (q := [3]) (apart_of E.mu.lim hb21)
  replace hq := (hq.keepX e21).inL (q := [3]) (M := M21)
  replace ho := (ho.keepX e21).inL (q := [3]) (M := M21)
  replace hc := (hc.keepX e21).inL (q := [3]) (M := M21)
  replace E := E.join [3] e21 hb21 hl21
  repeat (((refine fad_of ?_)))
  refine En.st' [_, _, _] E (by simp [cellsC]) hs.one (fun w22 E e22 => ?_)
  replace ho := ho.loc e22
  replace hq := hq.loc e22
  replace hc := hc.loc e22
  replace hs := hs.loc e22
  repeat (first | ((refine fad_of ?_)) | (first | refine E.ld (by (exact .head _)) (by exact rfl) ?_ | refine E.lds (by first | exact .head _ | exact .tail _ (.tail _ (.tail _ (.head _)))) (by exact rfl) ?_))
  refine hc.ixo_of rfl h0 (by omega) (fun x b o es mm hx ha hown hK hcells => ?_)
  have hvs := hs.one
  refine raw_put (r := (⟨cellsC { nowC h with stack := st } ut vs, rfl, by intro x hx; simp only [cellsC, List.mem_cons, List.not_mem_nil, or_false] at hx; rcases hx with h | h | h | h | h | h <;> rw [h] <;> first | rfl | exact htu | exact hvs⟩ : Raw 6)) hc ha (by omega) rfl rfl (fun w23 a23 hl23 hc => ?_)
  clear hx ha hown hK hcells
  replace E := E.call (Mut.at a23 hl23 E.mu.lim)
  replace ho := ho.other a23 hl23 (by simp)
  replace hq := hq.other a23 hl23 (by simp)
  replace hs := hs.other a23 hl23 (by simp)
  replace E := E.drew
  replace ho := ho.drewX
  replace hq := hq.drewX
  replace hs := hs.drewX
  replace hc := hc.drewX
  have conv : ∀ {L' : Lab} {wx : World} {l' : List (Nat × List Value)}, En noL w L' wx l' → Sl (kRaw 3) (Own L') wx [0] (rs.set (nowC h).method.toNat ⟨[.int .i64 (methAt p (nowC h).method).args, .int .i64 (methAt p (nowC h).method).temps, vo], rfl, by intro x hx; simp at hx; rcases hx with h | h | h <;> rw [h] <;> first | rfl | exact hvo⟩) vq →
      Sl kPair (Own L') wx [1] ((methAt p (nowC h).method).ops.set (nowC h).pc.toNat op) vo → Sl (kRaw 6) (Own L') wx [2] (cs.set h.now.toNat ⟨cellsC { nowC h with stack := st } ut vs, rfl, by intro x hx; simp only [cellsC, List.mem_cons, List.not_mem_nil, or_false] at hx; rcases hx with h | h | h | h | h | h <;> rw [h] <;> first | rfl | exact htu | exact hvs⟩) vc → Sl kPair (Own L') wx [3] st vs →
      Sl kMeth (Bet n w.heap.size wx.heap.size) wx [] (withP p h op) vq ∧ HQ (Bet n w.heap.size wx.heap.size) wx (withH h st) vc us := by
    intro L' wx l' E hq ho hc hs
    refine ⟨?_, ?_, (hh.said.oldExt E.toExt).oldBet⟩
    · exact Sl.unraw (kd := kMeth) hq ((krs.oldExt E.toExt).oldBet.putK ⟨vo, rfl, ho.ownBet E.born⟩) (fun b m hb => ⟨.inr ⟨E.born b _ hb.1, own_lt hb⟩, own_lt hb⟩)
    · exact Sl.unraw (kd := kCall) hc ((kcs.oldExt E.toExt).oldBet.putK ⟨ut, vs, rfl, (hts.oldExt E.toExt).oldBet, hs.ownBet E.born⟩) (fun b m hb => ⟨.inr ⟨E.born b _ hb.1, own_lt hb⟩, own_lt hb⟩)
  have hB2 : HB (withH h st) := hB.set (hB.nt _ (callAt_mem h0 h1)).1 (by show st.length ≤ 10; omega)
  have hpl2 : (withP p h op).length ≤ 4 := by unfold withP; rw [List.length_set]; omega
  have hml3 : ∀ m ∈ withP p h op, m.ops.length ≤ 14 := fun m hm => by
    rcases List.mem_or_eq_of_mem_set hm with hm | rfl
    · exact hml m hm
    · show ((methAt p (nowC h).method).ops.set (nowC h).pc.toNat op).length ≤ 14
      rw [List.length_set]; omega
  have hml4 : ∀ m ∈ withP p h op, m.ops.length ≤ 1073741824 := fun m hm => by have := hml3 m hm; omega
  refine E.lds (by (exact .tail _ (.tail _ (.head _)))) rfl ?_
  refine E.lds (by (exact .head _)) rfl ?_
  refine E.lds (by (exact .tail _ (.tail _ (.head _)))) rfl ?_
  obtain ⟨cv1, cv2⟩ := conv E hq ho hc hs
  refine c_specProgOk cv1.betAny (by omega) hml4 (fun w24 e24 => ?_)
  clear cv1 cv2
  replace E := E.ext e24
  replace ho := ho.keepX e24
  replace hq := hq.keepX e24
  replace hs := hs.keepX e24
  replace hc := hc.keepX e24
  refine ⟨E.lds (by (exact .head _)) rfl rfl, ?_⟩
  refine ⟨E.lds (by (exact .tail _ (.tail _ (.head _)))) rfl rfl, ?_⟩
  refine cond_of (fun hpt => ?_) (fun hpf => ?_)
  · refine E.lds (by (exact .tail _ (.tail _ (.head _)))) rfl ?_
    refine E.lds (by (exact .head _)) rfl ?_
    obtain ⟨cv1, cv2⟩ := conv E hq ho hc hs
    refine c_specHeapOk (h := withH h st) cv1.betAny (by omega) hml4 (hB2.view cv2.calls.betAny cv2.said.betAny) (fun w25 e25 => ?_)
    clear cv1 cv2
    replace E := E.ext e25
    replace ho := ho.keepX e25
    replace hq := hq.keepX e25
    replace hs := hs.keepX e25
    replace hc := hc.keepX e25
    refine ⟨E.lds (by (exact .head _)) rfl rfl, ?_⟩
    refine ⟨E.lds (by (exact .tail _ (.tail _ (.head _)))) rfl rfl, ?_⟩
    refine En.sts' (vs := [vq]) [_, _, _, _, _] rfl E rfl rfl (by intro x hx; simp at hx; subst hx; exact hqo) (fun w26 E e26 => ?_)
    refine ⟨E.lds (by (exact .head _)) rfl rfl, ?_⟩
    refine En.sts' (vs := heapCells (withH h st) vc us) [_, _, _, _] rfl E rfl rfl (by intro x hx; simp only [heapCells, List.mem_cons, List.not_mem_nil, or_false] at hx; rcases hx with h | h | h | h | h <;> rw [h] <;> first | rfl | exact hc.one | exact hh.said.one) (fun w27 E e27 => ?_)
    refine E.lds (by (exact .tail _ (.tail _ (.tail _ (.tail _ (.tail _ (.head _))))))) rfl ?_
    refine E.lds (by (exact .tail _ (.tail _ (.tail _ (.tail _ (.head _)))))) rfl ?_
    obtain ⟨cv1, cv2⟩ := conv E ((hq.loc e26).loc e27) ((ho.loc e26).loc e27) ((hc.loc e26).loc e27) ((hs.loc e26).loc e27)
    exact hR _ _ _ _ _ _ _ E.toExt cv1 hpl2 hml3 cv2 hB2 (fun e => ⟨⟨hW, hpt, hok_iff.mp e⟩, rfl, rfl⟩)
  · refine En.sts' (vs := [vq]) [_, _, _, _, _] rfl E rfl rfl (by intro x hx; simp at hx; subst hx; exact hqo) (fun w26 E e26 => ?_)
    refine ⟨E.lds (by (exact .head _)) rfl rfl, ?_⟩
    refine En.sts' (vs := heapCells (withH h st) vc us) [_, _, _, _] rfl E rfl rfl (by intro x hx; simp only [heapCells, List.mem_cons, List.not_mem_nil, or_false] at hx; rcases hx with h | h | h | h | h <;> rw [h] <;> first | rfl | exact hc.one | exact hh.said.one) (fun w27 E e27 => ?_)
    refine E.lds (by (exact .tail _ (.tail _ (.tail _ (.tail _ (.tail _ (.head _))))))) rfl ?_
    refine E.lds (by (exact .tail _ (.tail _ (.tail _ (.tail _ (.head _)))))) rfl ?_
    obtain ⟨cv1, cv2⟩ := conv E ((hq.loc e26).loc e27) ((ho.loc e26).loc e27) ((hc.loc e26).loc e27) ((hs.loc e26).loc e27)
    exact hR _ _ _ _ _ _ _ E.toExt cv1 hpl2 hml3 cv2 hB2 (fun e => by cases e)
end Go.PT

/- What stands behind an operation: a heap anew, whose running call has other values and goes on. -/
set_option linter.unusedVariables false
set_option linter.unusedSimpArgs false
set_option maxRecDepth 100000
namespace Go.PT
attribute [local irreducible] ldT ldsT stT stsT allocT boxT bldT bslT nilT fadT ixaT fldT extT lenT pickT binT notT cviT opT opU condT clT clvT ivT loopT arT ndT World.cell? World.frozen? World.alloc World.drew World.setCell Blk Cells Sl
theorem c_lmNum {n : Int} {w : World} {R : VW} (hR : ∀ w', Ext w w' → R (.agg #[.int .i64 1, .int .i64 n]) w') : clT PR 64 [.int .i64 n] w R := by
  refine Flaws_lmNum.cl ?_
  unfold Flaws_lmNum
  have E := En.start w
  refine E.al (fun b w E _ => ?_)
  refine bld_of (cs := #[.int .i64 1, .int .i64 n]) rfl ?_
  refine En.sts' (vs := [.int .i64 1, .int .i64 n]) [] rfl E rfl rfl (by simp [Value.oneCell']) (fun w E _ => ?_)
  repeat (((refine E.lds (by (exact .head _)) (by exact rfl) ?_)))
  exact hR _ E.toExt
theorem c_lmOf {n : Int} {w : World} {R : VW} (hR : ∀ w', Ext w w' → R (.agg #[.int .i64 2, .int .i64 n]) w') : clT PR 69 [.int .i64 n] w R := by
  refine Flaws_lmOf.cl ?_
  unfold Flaws_lmOf
  have E := En.start w
  refine E.al (fun b w E _ => ?_)
  refine bld_of (cs := #[.int .i64 2, .int .i64 n]) rfl ?_
  refine En.sts' (vs := [.int .i64 2, .int .i64 n]) [] rfl E rfl rfl (by simp [Value.oneCell']) (fun w E _ => ?_)
  repeat (((refine E.lds (by (exact .head _)) (by exact rfl) ?_)))
  exact hR _ E.toExt
theorem c_lmAfter {g : Hp} {st : List V} {uc us ust : Value} {w : World} {R : VW} (hh : HeapV w g uc us) (h0 : 0 ≤ g.now) (h1 : g.now < g.calls.length) (hpc : 0 ≤ (nowC g).pc) (hpc2 : (nowC g).pc ≤ 1000) (hst : Sl kPair Any w [] st ust) (hsl : st.length ≤ 6)
    (hR : ∀ w' M uc' us', Ext w w' → Born w M → Lim M w' → HOwn M w' (afterH g st) uc' us' → R (.agg (heapCells (afterH g st) uc' us').toArray) w') : clT PR 68 [.agg (heapCells g uc us).toArray, ust] w R := by
  refine Flaws_lmAfter.cl ?_
  unfold Flaws_lmAfter
  have hn := hh.n
  obtain ⟨cs, hcs, kcs⟩ : ∃ cs : List (Raw 6), Sl (kRaw 6) Any w [] cs uc ∧ RawOf kCall Any w [] g.calls cs := hh.calls.raw
  have hcl : cs.length = g.calls.length := kcs.1
  have E := En.start w
  refine E.box (fun b2 w1 E _ => ?_)
  refine E.al (fun b4 w2 E _ => ?_)
  repeat (((refine E.lds (by first | exact .head _ | exact .tail _ (.head _)) (by exact rfl) ?_)))
  refine E.als (vs := heapCells g uc us) rfl rfl rfl (by intro x hx; simp only [heapCells, List.mem_cons, List.not_mem_nil, or_false] at hx; rcases hx with h | h | h | h | h <;> rw [h] <;> first | rfl | exact hh.calls.one | exact hh.said.one) (fun b5 w3 E _ => ?_)
  refine bsl_of' rfl rfl rfl (fun b6 w4 e4 hb6 k6 => ?_)
  replace E := E.ext e4
  repeat (((refine fad_of ?_)))
  refine En.st' [] E (by simp [heapCells]) rfl (fun w5 E _ => ?_)
  refine loop_of (fun m s wx => ∃ (i : Nat) (v : Value) (L : Lab), s = [ust, .pointer (some ⟨b2, 0, none⟩), .pointer (some ⟨b4, 0, none⟩), .pointer (some ⟨b5, 0, none⟩), .int .i64 i] ∧ i + m = g.calls.length ∧
      En noL w L wx [(b5, heapCells g v us), (b4, [.slice none 0 0, .int .i64 0, .int .i64 0, .slice none 0 0, .int .i64 0]), (b2, heapCells g uc us)] ∧ Sl kCall (Own L) wx [0] (g.calls.take i) v) ?_ (m := g.calls.length)
    ⟨0, .slice (some ⟨b6, 0, none⟩) 0 0, noL, rfl, by omega, E, Sl.none0⟩
  clear E
  rintro m s wx Kn ⟨i, v, L, rfl, hi, E, hv⟩ hKn
  intro _
  simp only [List.headD_cons, List.tail_cons]
  repeat (first | (first | refine fad_of ?_ | refine lss_of ?_) | ((refine E.ld (by first | exact .head _ | exact .tail _ (.tail _ (.head _))) (by exact rfl) ?_)) | (refine Sl.len_of (by assumption) ?_))
  rw [hcl]
  refine condLt_of (fun hc => ?_) (fun hc => ?_)
  · have hil : i < g.calls.length := by omega
    have hx : g.calls[i]? = some (callAt g.calls i) := by have := callAt_get (cs := g.calls) (i := (i : Int)) (by omega) (by omega); rwa [Int.toNat_natCast] at this
    repeat (first | ((refine fad_of ?_)) | ((refine E.ld (by first | exact .head _ | exact .tail _ (.tail _ (.head _))) (by exact rfl) ?_)))
    obtain ⟨c0, hc0⟩ : ∃ c0, cs[i]? = some c0 := ⟨_, List.getElem?_eq_getElem (by omega)⟩
    obtain ⟨ut, ut', ec, hu, hu'⟩ := kcs.2 _ _ c0 hx hc0
    obtain ⟨nt, ns⟩ := hh.nt _ (List.mem_of_getElem? hx)
    generalize callAt g.calls (i : Int) = c at hx hu hu' nt ns ec
    have ec : c0.1 = cellsC c ut ut' := ec
    refine (E.any (q := []) hcs).ixo_of (i := (i : Int)) rfl (by omega) (by omega) (fun x b o es mm hx2 ha hown hK hcell => ?_)
    obtain rfl : c0 = x := by rw [Int.toNat_natCast, hc0] at hx2; exact Option.some.inj hx2
    have hK : es = c0.1 := hK
    rw [hK, ec] at hcell
    refine lds_of (cs := cellsC c ut ut') hcell rfl ?_
    clear hcell hK hx2 ha hown
    have o1 := hu.one
    have o2 := hu'.one
    refine E.als (vs := cellsC c ut ut') rfl rfl rfl (by intro x hx; simp only [cellsC, List.mem_cons, List.not_mem_nil, or_false] at hx; rcases hx with h | h | h | h | h | h <;> rw [h] <;> first | rfl | exact o1 | exact o2) (fun b7 w7 E e7 => ?_)
    replace hv := hv.keepX e7
    refine bsl_of' rfl rfl rfl (fun b8 w8 e8 hb8 k8 => ?_)
    replace E := E.ext e8
    replace hv := hv.keepX e8
    repeat (first | ((refine fad_of ?_)) | ((refine E.ld (by (exact .head _)) (by exact rfl) ?_)))
    refine clone_of (by kernel_rfl) (E.any (q := []) hu) nt (fun vt w9 M9 e9 hb9 hl9 ht => ?_)
    have ht := ht.inR (q := [0, i, 2]) (apart_of E.mu.lim hb9)
    replace hv := (hv.keepX e9).inL (q := [0, i, 2]) (M := M9)
    replace E := E.join [0, i, 2] e9 hb9 hl9
    repeat (((refine fad_of ?_)))
    refine En.st' [] E (by simp [cellsC]) ht.one (fun w10 E e10 => ?_)
    replace hv := hv.loc e10
    replace ht := ht.loc e10
    refine bsl_of' rfl rfl rfl (fun b11 w11 e11 hb11 k11 => ?_)
    replace E := E.ext e11
    replace hv := hv.keepX e11
    replace ht := ht.keepX e11
    repeat (first | ((refine fad_of ?_)) | ((refine E.ld (by (exact .head _)) (by exact rfl) ?_)))
    refine clone_of (by kernel_rfl) (E.any (q := []) hu') ns (fun vs w12 M12 e12 hb12 hl12 hs => ?_)
    have hs := hs.inR (q := [0, i, 3]) (apart_of E.mu.lim hb12)
    replace hv := (hv.keepX e12).inL (q := [0, i, 3]) (M := M12)
    replace ht := (ht.keepX e12).inL (q := [0, i, 3]) (M := M12)
    replace E := E.join [0, i, 3] e12 hb12 hl12
    repeat (((refine fad_of ?_)))
    refine En.st' [] E (by simp [cellsC]) hs.one (fun w13 E e13 => ?_)
    replace hv := hv.loc e13
    replace ht := ht.loc e13
    replace hs := hs.loc e13
    repeat (first | ((refine fad_of ?_)) | (first | refine E.ld (by first | exact .head _ | exact .tail _ (.head _)) (by exact rfl) ?_ | refine E.lds (by (exact .head _)) (by exact rfl) ?_))
    have E : En noL w _ w13 [(b7, cellsC c vt vs), (b5, heapCells g v us), (b4, [.slice none 0 0, .int .i64 0, .int .i64 0, .slice none 0 0, .int .i64 0]), (b2, heapCells g uc us)] := E
    refine E.bsl rfl rfl rfl (fun b14 w14 E e14 => ?_)
    have hti : (g.calls.take i).length = i := by rw [List.length_take]; omega
    refine grow_one (kd := kCall) c (by kernel_rfl) (hv.keepX e14) (E.blk (.head _)) ⟨vt, vs, rfl, by rw [hti]; exact ht.keepX e14, by rw [hti]; exact hs.keepX e14⟩ rfl (by omega) E.mu.lim (fun v9 w15 L9 g9 _ h9 => ?_)
    replace E := E.grow g9
    repeat (((refine fad_of ?_)))
    refine En.st' [_, _] E (by simp [heapCells]) h9.one (fun w16 E e16 => ?_)
    (refine add_of (by (omega)) (by (omega)) ?_)
    refine hKn (m - 1) _ _ (by omega) ⟨i + 1, v9, L9, rfl, by omega, E.pop.pop, ?_⟩
    rw [List.take_add_one, hx]
    exact h9.loc e16
  · intro _
    have hei : g.calls.take i = g.calls := List.take_of_length_le (by omega)
    rw [hei] at hv
    refine bsl_of' rfl rfl rfl (fun b6 w6 e6 hb6 k6 => ?_)
    replace E := E.ext e6
    replace hv := hv.keepX e6
    repeat (first | ((refine fad_of ?_)) | ((refine E.ld (by first | exact .head _ | exact .tail _ (.tail _ (.head _))) (by exact rfl) ?_)))
    refine clone_of (by kernel_rfl) (E.any (q := []) hh.said) hh.ns (fun v7 w7 M7 e7 hb7 hl7 h7 => ?_)
    have h7 := h7.inR (q := [1]) (apart_of E.mu.lim hb7)
    replace hv := (hv.keepX e7).inL (q := [1]) (M := M7)
    replace E := E.join [1] e7 hb7 hl7
    repeat (((refine fad_of ?_)))
    refine En.st' [] E (by simp [heapCells]) h7.one (fun w8 E e8 => ?_)
    replace hv := (hv.loc e8).drewX
    replace h7 := (h7.loc e8).drewX
    replace E := E.drew
    -- it is a heap of one's own
    have E : En noL w _ w8.drew ((b5, heapCells g v v7) :: [(b4, [.slice none 0 0, .int .i64 0, .int .i64 0, .slice none 0 0, .int .i64 0]), (b2, heapCells g uc us)]) := E
    have k5 := E.blk (.head _)
    obtain ⟨E1, hlab, hap⟩ := E.owned
    have S : SM _ w8.drew b5 [] g v v7 := ⟨k5, hlab, hv.inL, h7.inL, E1.mu.lim⟩
    clear E hv h7 hap k5
    have E := E1
    clear E1
    (refine fad_of ?_)
    refine ld_of (S.cell (j := 0) rfl) ?_
    (refine fad_of ?_)
    refine ld_of (S.cell (j := 1) rfl) ?_
    refine bsl_of' rfl rfl rfl (fun b9 w9 e9 hb9 k9 => ?_)
    replace E := E.ext e9
    replace S := S.ext e9
    refine ⟨ld_of (S.cell (j := 1) rfl) rfl, ?_⟩
    refine ⟨ld_of (S.cell (j := 0) rfl) rfl, ?_⟩
    refine clone_of (by kernel_rfl) (E.any (q := []) hst) (by omega) (fun vs w10 M10 e10 hb10 hl10 hs => ?_)
    have hs := hs.inR (q := [0, g.now.toNat, 3]) (apart_of E.mu.lim hb10)
    replace S := (S.ext e10).join (q := [0, g.now.toNat, 3]) hl10
    replace E := E.join [0, g.now.toNat, 3] e10 hb10 hl10
    refine ⟨ld_of (S.cell (j := 1) rfl) rfl, ?_⟩
    refine ⟨ld_of (S.cell (j := 0) rfl) rfl, ?_⟩
    refine S.ix h0 h1 (fun b o ut ut' F => ?_)
    (refine fad_of ?_)
    refine S.st (off := 3) (c' := { callAt g.calls g.now with stack := st }) F h0 h1 hs.one (by omega) rfl F.temps hs (fun w11 m11 S F => ?_)
    replace E := (E.call m11).drew
    replace S := S.drew
    replace F := F.drew
    have hl1 : (putC g g.now { callAt g.calls g.now with stack := st }).calls.length = g.calls.length := putC_len ..
    have hc1 : callAt (putC g g.now { callAt g.calls g.now with stack := st }).calls g.now = { callAt g.calls g.now with stack := st } := by rw [callAt_put h0 h1 h0, if_pos rfl]
    have hpc : 0 ≤ (callAt g.calls g.now).pc := hpc
    have hpc2 : (callAt g.calls g.now).pc ≤ 1000 := hpc2
    (refine fad_of ?_)
    refine ld_of (S.cell (j := 0) rfl) ?_
    (refine fad_of ?_)
    refine ld_of (S.cell (j := 1) rfl) ?_
    (refine fad_of ?_)
    refine ld_of (S.cell (j := 0) rfl) ?_
    (refine fad_of ?_)
    refine ld_of (S.cell (j := 1) rfl) ?_
    refine S.ix (i := g.now) h0 (by rw [hl1]; exact h1) (fun b o ut ut' F => ?_)
    rw [hc1] at F
    (refine fad_of ?_)
    refine ld_of (F.cells.at 1 rfl) ?_
    refine add_of (by show _ ≤ (callAt g.calls g.now).pc + 1; omega) (by show (callAt g.calls g.now).pc + 1 ≤ _; omega) ?_
    refine S.ix (i := g.now) h0 (by rw [hl1]; exact h1) (fun b o ut ut' F => ?_)
    rw [hc1] at F
    (refine fad_of ?_)
    refine S.st (off := 1) (c' := { callAt g.calls g.now with stack := st, pc := (callAt g.calls g.now).pc + 1 }) F h0 (by rw [hl1]; exact h1) rfl (by omega) rfl F.temps F.stack (fun w12 m12 S F => ?_)
    replace E := E.call m12
    have he : putC (putC g g.now { callAt g.calls g.now with stack := st }) g.now { callAt g.calls g.now with stack := st, pc := (callAt g.calls g.now).pc + 1 } = afterH g st := putC_put
    rw [he] at S
    refine lds_of S.blk.cells rfl ?_
    have hcs := S.calls
    have hsd := S.said
    refine En.sts' (vs := heapCells (afterH g st) v v7) [] rfl E rfl rfl (by intro x hx; simp only [heapCells, List.mem_cons, List.not_mem_nil, or_false] at hx; rcases hx with h | h | h | h | h <;> rw [h] <;> first | rfl | exact hcs.one | exact hsd.one) (fun w13 E e13 => ?_)
    refine E.lds (by (exact .head _)) rfl ?_
    exact hR _ _ _ _ E.toExt E.born E.mu.lim ⟨hcs.loc e13, hsd.loc e13⟩
end Go.PT

/- What comes in: bytes, as the rows' frames hand them over. -/
set_option linter.unusedVariables false
namespace Go.PT
def IsRow (k : IntKind) (w : World) (a : Option Addr) (len cap : Nat) (zs : List Int) : Prop :=
  (a = none ∧ len = 0 ∧ cap = 0 ∧ zs = []) ∨
  ∃ x, a = some x ∧ len ≤ cap ∧ cap ≤ maxLen ∧ zs.length = cap ∧ (∀ i, i < zs.length → w.cell? (x.add i) = some (.int k (zs.getD i 0))) ∧ ∀ n ∈ zs, (Lit.int k n).wf = true
theorem bt_of {w : World} {a : Option Addr} {len cap : Nat} {zs : List Int} (h : IsRow .u8 w a len cap zs) : ∃ code, Bt w code (.slice a len cap) ∧ ∀ x ∈ code, 0 ≤ x ∧ x ≤ 255 := by
  rcases h with ⟨rfl, rfl, rfl, rfl⟩ | ⟨x, rfl, h1, _, h3, h4, h5⟩
  · exact ⟨[], ⟨⟨_, _, rfl, Nat.le_refl _⟩, .inl rfl⟩, by simp⟩
  · have hl : (zs.take len).length = len := by rw [List.length_take]; omega
    refine ⟨zs.take len, ⟨⟨some x, cap, by rw [hl], by omega⟩, ?_⟩, fun n hn => ?_⟩
    · by_cases h0 : len = 0
      · exact .inl (by rw [h0]; rfl)
      · right
        obtain ⟨b, o, spot⟩ := x
        have hc := h4 0 (by omega)
        have hsp : spot = none := by
          cases spot with
          | none => rfl
          | some s =>
            have e : (Addr.add ⟨b, o, some s⟩ 0) = ⟨b, o, some s⟩ := by simp [Addr.add]
            rw [e] at hc
            unfold World.cell? at hc
            simp at hc
            split at hc <;> simp at hc
        subst hsp
        have hcell : ∀ i, i < len → w.cell? ⟨b, o + i, none⟩ = some (.int .u8 (zs.getD i 0)) := fun i hi => by
          have := h4 i (by omega)
          rwa [Addr.add_lit] at this
        refine ⟨some ⟨b, o, none⟩, cap, by rw [hl], by omega, .inr ⟨b, o, rfl, cell_lt (hcell 0 (by omega)), fun i y hy => ⟨[.int .u8 y], rfl, fun j c hj => ?_⟩⟩⟩
        have hi : i < len := by have := (List.getElem?_eq_some_iff.mp hy).1; omega
        rw [List.getElem?_take_of_lt hi] at hy
        cases j with
        | zero =>
          have : c = .int .u8 y := by simpa using hj.symm
          subst this
          have := hcell i hi
          rw [List.getD_eq_getElem?_getD, hy] at this
          simpa [kByte, Kd.flat] using this
        | succ j => simp at hj
    · have := h5 n (List.mem_of_mem_take hn)
      simp [Lit.wf, IntKind.min, IntKind.max, IntKind.signed, IntKind.bits] at this
      omega
end Go.PT

/- What the laws of the operations share. -/
set_option linter.unusedVariables false
set_option linter.unusedSimpArgs false
set_option maxRecDepth 100000
namespace Go.PT
variable {α : Type}
/-- Two blocks that may be made at any time. -/
def Sl2 (s : List (Option Nat)) (z1 z2 : List Value) (l0 l : List (Nat × List Value)) : Prop :=
  (s = [none, none] ∧ l = l0) ∨ (∃ b, s = [some b, none] ∧ l = (b, z1) :: l0) ∨ (∃ b, s = [none, some b] ∧ l = (b, z2) :: l0) ∨ ∃ b c, s = [some b, some c] ∧ l = (b, z1) :: (c, z2) :: l0
section
variable {L0 L : Lab} {w0 w : World} {l l0 : List (Nat × List Value)} {s : List (Option Nat)} {z1 z2 : Array Value}
theorem Sl2.mem {z1 z2 : List Value} (h : Sl2 s z1 z2 l0 l) {x : Nat × List Value} (hx : x ∈ l0) : x ∈ l := by
  rcases h with ⟨_, rfl⟩ | ⟨b, _, rfl⟩ | ⟨b, _, rfl⟩ | ⟨b, c, _, rfl⟩
  · exact hx
  · exact .tail _ hx
  · exact .tail _ hx
  · exact .tail _ (.tail _ hx)
theorem En.swap {x y : Nat × List Value} (E : En L0 w0 L w (x :: y :: l)) : En L0 w0 L w (y :: x :: l) := by
  refine ⟨E.mu, fun z hz => E.loc z ?_, ?_⟩
  · rcases List.mem_cons.mp hz with rfl | hz
    · exact .tail _ (.head _)
    · rcases List.mem_cons.mp hz with rfl | hz
      · exact .head _
      · exact .tail _ (.tail _ hz)
  · have := E.once
    simp only [List.map_cons, List.nodup_cons, List.mem_cons, not_or] at this ⊢
    exact ⟨⟨fun e => this.1.1 e.symm, this.2.1⟩, this.1.2, this.2.2⟩
theorem En.new (E : En L0 w0 L w l) (z : Array Value) (t : Nat) : En L0 w0 L (w.alloc (.cells z t)) ((w.heap.size, z.toList) :: l) := by
  have := blk_new w z.toList t
  exact E.add ((Fr.refl _ _).alloc _) (Nat.le_refl _) (by simpa using this)
theorem ar_two {t1 t2 : Nat} {w' : World} {s' : List (Option Nat)} {zs : List (Nat × Array Value)} (a : AR zs w s w' s') : zs = [(t1, z1), (t2, z2)] → ∀ l, En L0 w0 L w l → Sl2 s z1.toList z2.toList l0 l →
    ∃ l', En L0 w0 L w' l' ∧ Ext w w' ∧ Sl2 s' z1.toList z2.toList l0 l' ∧ ∀ x ∈ l', x ∈ l ∨ w.heap.size ≤ x.1 := by
  induction a with
  | refl w s => intro _ l E hs; exact ⟨l, E, Fr.refl _ _, hs, fun x hx => .inl hx⟩
  | @step w s w' s' i t z hz hs h ih =>
    intro hzs l E hs2
    have e1 : Ext w (w.alloc (.cells z t)) := (Fr.refl _ _).alloc _
    have fin : ∀ l2, En L0 w0 L (w.alloc (.cells z t)) l2 → Sl2 (s.set i (some w.heap.size)) z1.toList z2.toList l0 l2 → (∀ x ∈ l2, x ∈ l ∨ w.heap.size ≤ x.1) → ∃ l', En L0 w0 L w' l' ∧ Ext w w' ∧ Sl2 s' z1.toList z2.toList l0 l' ∧ ∀ x ∈ l', x ∈ l ∨ w.heap.size ≤ x.1 := by
      intro l2 E2 h2 hm
      obtain ⟨l', a, b, c, d⟩ := ih hzs l2 E2 h2
      refine ⟨l', a, e1.trans b, c, fun x hx => ?_⟩
      rcases d x hx with d | d
      · exact hm x d
      · have := e1.size; exact .inr (by omega)
    subst hzs
    have hi : i = 0 ∨ i = 1 := by
      have := (List.getElem?_eq_some_iff.mp hz).1
      simp at this; omega
    have hnew := E.new z t
    rcases hi with rfl | rfl
    · obtain ⟨rfl, rfl⟩ : t1 = t ∧ z1 = z := by simpa using hz
      rcases hs2 with ⟨rfl, rfl⟩ | ⟨b, rfl, rfl⟩ | ⟨b, rfl, rfl⟩ | ⟨b, c, rfl, rfl⟩
      · exact fin _ hnew (.inr (.inl ⟨_, rfl, rfl⟩)) (fun x hx => by
          rcases List.mem_cons.mp hx with rfl | hx
          · exact .inr (Nat.le_refl _)
          · exact .inl hx)
      · simp at hs
      · exact fin _ hnew (.inr (.inr (.inr ⟨_, b, rfl, rfl⟩))) (fun x hx => by
          rcases List.mem_cons.mp hx with rfl | hx
          · exact .inr (Nat.le_refl _)
          · exact .inl hx)
      · simp at hs
    · obtain ⟨rfl, rfl⟩ : t2 = t ∧ z2 = z := by simpa using hz
      rcases hs2 with ⟨rfl, rfl⟩ | ⟨b, rfl, rfl⟩ | ⟨b, rfl, rfl⟩ | ⟨b, c, rfl, rfl⟩
      · exact fin _ hnew (.inr (.inr (.inl ⟨_, rfl, rfl⟩))) (fun x hx => by
          rcases List.mem_cons.mp hx with rfl | hx
          · exact .inr (Nat.le_refl _)
          · exact .inl hx)
      · exact fin _ hnew.swap (.inr (.inr (.inr ⟨b, _, rfl, rfl⟩))) (fun x hx => by
          rcases List.mem_cons.mp hx with rfl | hx
          · exact .inl (.head _)
          · rcases List.mem_cons.mp hx with rfl | hx
            · exact .inr (Nat.le_refl _)
            · exact .inl (.tail _ hx))
      · simp at hs
      · simp at hs
theorem En.ar2 {t1 t2 : Nat} {k : World → List (Option Nat) → Prop} (E : En L0 w0 L w l) (hs : Sl2 s z1.toList z2.toList l0 l) (hk : ∀ w' s' l', En L0 w0 L w' l' → Ext w w' → Sl2 s' z1.toList z2.toList l0 l' → (∀ x ∈ l', x ∈ l ∨ w.heap.size ≤ x.1) → k w' s') : arT [(t1, z1), (t2, z2)] w s k := by
  intro w' s' a
  obtain ⟨l', h1, h2, h3, h4⟩ := ar_two a rfl l E hs
  exact hk w' s' l' h1 h2 h3 h4
theorem ar_done {zs : List (Nat × Array Value)} {w' : World} {s' : List (Option Nat)} (a : AR zs w s w' s') : (∀ i : Nat, s[i]? ≠ some none) → w' = w ∧ s' = s := by
  induction a with
  | refl w s => intro _; exact ⟨rfl, rfl⟩
  | step i t z hz hs h ih => intro hn; exact absurd hs (hn i)
theorem ar2_some {t1 t2 b c : Nat} {k : World → List (Option Nat) → Prop} (hk : k w [some b, some c]) : arT [(t1, z1), (t2, z2)] w [some b, some c] k := by
  intro w' s' a
  obtain ⟨rfl, rfl⟩ := ar_done a (fun i => by
    match i with
    | 0 => simp
    | 1 => simp
    | i + 2 => simp)
  exact hk
theorem Sl2.nd {z1 z2 : List Value} {k : Nat → Nat → Prop} (hs : Sl2 s z1 z2 l0 l) (hk : ∀ b c, s = [some b, some c] → l = (b, z1) :: (c, z2) :: l0 → k b c) : ndT s 0 fun b => ndT s 1 fun c => k b c := by
  intro b hb c hc
  rcases hs with ⟨rfl, rfl⟩ | ⟨b', rfl, rfl⟩ | ⟨b', rfl, rfl⟩ | ⟨b', c', rfl, rfl⟩
  · simp at hb
  · simp at hc
  · simp at hb
  · have e1 : b' = b := by simpa using hb
    have e2 : c' = c := by simpa using hc
    subst e1 e2
    exact hk _ _ rfl rfl
theorem nd2_some {b c : Nat} {k : Nat → Nat → Prop} (hk : k b c) : ndT [some b, some c] 0 fun b' => ndT [some b, some c] 1 fun c' => k b' c' := by
  intro b' hb c' hc
  have e1 : b = b' := by simpa using hb
  have e2 : c = c' := by simpa using hc
  subst e1 e2
  exact hk
end
theorem En.ar1 {L0 L : Lab} {w0 w : World} {l l0 : List (Nat × List Value)} {s : List (Option Nat)} {t : Nat} {z : Array Value} {k : World → List (Option Nat) → Prop} (E : En L0 w0 L w l) (hs : SlE s z l0 l) (hk : ∀ w' s' l', En L0 w0 L w' l' → Ext w w' → SlE s' z l0 l' → k w' s') : arT [(t, z)] w s k := by
  rcases hs with ⟨rfl, rfl⟩ | ⟨b, rfl, rfl⟩
  · refine ar_slot Slot.init (Nat.le_refl _) (fun w' s' e hs => ?_)
    rcases hs with rfl | ⟨b, rfl, hb, kb⟩
    · exact hk _ _ _ (E.ext e) e (.inl ⟨rfl, rfl⟩)
    · exact hk _ _ _ (E.add e hb kb) e (.inr ⟨b, rfl, rfl⟩)
  · exact ar_some (hk _ _ _ E (Fr.refl _ _) (.inr ⟨b, rfl, rfl⟩))
theorem SlE.mem {s : List (Option Nat)} {z : Array Value} {l0 l : List (Nat × List Value)} (h : SlE s z l0 l) {x : Nat × List Value} (hx : x ∈ l0) : x ∈ l := by
  rcases h with ⟨_, rfl⟩ | ⟨b, _, rfl⟩
  · exact hx
  · exact .tail _ hx
theorem Bt.len_of {w : World} {code : List Int} {v : Value} {k : Value → Prop} (h : Bt w code v) (hk : k (.int .i64 code.length)) : lenT v k := by
  obtain ⟨A, c, hv, _⟩ := h.1
  rw [hv]; exact hk
theorem Sl.anyOld {kd : Kd α} {w : World} {p q : List Nat} {xs : List α} {v : Value} (h : Sl kd Any w p xs v) : Sl kd (Old w.heap.size) w q xs v := h.frame (fun s y m hb => ⟨fun o v hc => hc, hb, hb⟩)
/-- Where a law stands behind its change of program and heap. -/
structure Wd (n m k : Nat) (w : World) (q : Pg) (g : Hp) (u uc us : Value) : Prop where
  meth : Sl kMeth (Bet n m k) w [] q u
  rows : HQ (Bet n m k) w g uc us
section
variable {n m k : Nat} {w w' : World} {q : Pg} {g : Hp} {u uc us : Value}
theorem Wd.ext (h : Wd n m k w q g u uc us) (e : Ext w w') : Wd n m k w' q g u uc us := ⟨h.meth.betExt e, h.rows.calls.betExt e, h.rows.said.betExt e⟩
theorem Wd.set {x : Nat} (h : Wd n m k w q g u uc us) (e : Fr (fun y => y = x) w w') (hx : (n ≤ x ∧ x < m) ∨ k ≤ x) (hnm : n ≤ m) (hmk : m ≤ k) : Wd n m k w' q g u uc us := ⟨h.meth.betSet e hx hnm hmk, h.rows.calls.betSet e hx hnm hmk, h.rows.said.betSet e hx hnm hmk⟩
theorem Wd.view (h : Wd n m k w q g u uc us) (B : HB g) : HeapV w g uc us := B.view h.rows.calls.betAny h.rows.said.betAny
end
theorem HOwn.view {M : Lab} {w : World} {h : Hp} {uc us : Value} (hO : HOwn M w h uc us) (n : h.calls.length ≤ 1073741824) (nt : ∀ c ∈ h.calls, c.temps.length ≤ 1073741824 ∧ c.stack.length ≤ 1073741824) (ns : h.said.length ≤ 1073741824) : HeapV w h uc us :=
  ⟨hO.calls.any, hO.said.any, n, nt, ns⟩
theorem run_one {q : Pg} {g : Hp} : (runR q g 1).2 = heapOk q g := by
  unfold runR
  rw [inB_t (by omega) (by omega), Bool.and_true]
  split
  · rename_i h; rw [h]
  · rename_i h; exact (Bool.eq_false_iff.mpr h).symm
theorem run_with {p : Pg} {h : Hp} {op : Int × Int} {st : List V} (W : okWith p h op st) : runR (withP p h op) (withH h st) 1 = (stepH (withP p h op) (withH h st), true) := by
  unfold runR
  rw [hok_iff.mpr W.gok, inB_t (by omega) (by omega)]
  exact congrArg (fun x => (x, true)) W.run
/-- Bounds of a heap behind a step. -/
theorem step_view {p : Pg} {g : Hp} (H : HOK p g) (hr : g.code = 0) (B : HB g) {M : Lab} {w : World} {uc us : Value} (hO : HOwn M w (stepH p g) uc us) : HeapV w (stepH p g) uc us := by
  have H' := step_ok H hr
  have hs := said_step (p := p) (h := g)
  have := B.ns
  have B' : (stepH p g).said.length ≤ 1000 := by omega
  refine hO.view ?_ (fun c hc => ?_) (by omega)
  · have := H'.size; have := H'.born2; omega
  · have f := form_iff.mp (H'.forms c hc)
    have h1 := f.temps
    have h2 := f.stack
    have hm := methOk_iff.mp (prog_meth H'.prog f.m0 f.m1)
    have := hm.t1
    omega
theorem step_view' {p : Pg} {g : Hp} (H : HOK p g) (hr : g.code = 0) (B : HB g) {w : World} {uc us : Value} (hc : Sl kCall Any w [] (stepH p g).calls uc) (hs : Sl kPair Any w [] (stepH p g).said us) : HeapV w (stepH p g) uc us := by
  have H' := step_ok H hr
  have h1 := said_step (p := p) (h := g)
  have := B.ns
  refine ⟨hc, hs, ?_, fun c hc => ?_, by omega⟩
  · have := H'.size; have := H'.born2; omega
  · have f := form_iff.mp (H'.forms c hc)
    have h1 := f.temps
    have h2 := f.stack
    have hm := methOk_iff.mp (prog_meth H'.prog f.m0 f.m1)
    have := hm.t1
    omega
end Go.PT
